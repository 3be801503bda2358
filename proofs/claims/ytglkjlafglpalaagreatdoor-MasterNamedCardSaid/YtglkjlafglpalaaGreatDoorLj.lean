/- strings.Join as a rule. Conditions: those of the theorems. -/
import Derived.Test.YtglkjlafglpalaaGreatDoorEk
import Derived.Test.YtglkjlafglpalaaGreatDoorShj
namespace Go.Xm
open Go.RowKit
set_option linter.unusedVariables false
def joinV (xs : List ByteArray) (sep : ByteArray) : ByteArray := ⟨(Lib.join (xs.map (·.data.toList)) sep.data.toList).toArray⟩
def joinOk (xs : List ByteArray) (sep : ByteArray) : Bool := Nat.ble 1 xs.length && (Nat.ble xs.length 1000 && Nat.ble (Lib.join (xs.map (·.data.toList)) sep.data.toList).length 1000000)
theorem rowS_map (xs : List ByteArray) : rowC encS xs = xs.map Value.string := by
 induction xs with
 | nil => rfl
 | cons x l ih => rw [rowC_cons, List.map_cons, ih]; rfl
theorem join_c {h : Heap} {c j fz e m : Nat} {xs : List ByteArray} {sep : ByteArray} (hj : hget h j = some (.cells (rowC encS xs) fz e 1)) (ho : joinOk xs sep = true) (hm : m = xs.length) :
 KC E0 47 [.slice (some ⟨j, 0, none⟩) m m, .string sep] h c (fun v h' c' => v = .string (joinV xs sep) ∧ h' = h ∧ c' = c) := by
 subst hm
 simp only [joinOk, Bool.and_eq_true, Nat.ble_eq] at ho
 obtain ⟨o1, o2, o3⟩ := ho
 intro B ρ w args' p1 hH p3 p4 p5 p6
 obtain ⟨L, hL, _⟩ := hH.ok j _ hj
 have hO := (hH.at hj hL).2
 have hl2 := p1.1
 match args', hl2, p1 with
 | [a, b], _, p1 =>
  have ha := p1.2 0 _ a rfl rfl
  have hb := p1.2 1 _ b rfl rfl
  cases hb
  generalize hn : xs.length = n at ha
  cases ha with
  | sliceN => omega
  | slice _ _ _ _ M o' cap' hM hz h0 h1 =>
   rw [hL] at hM; cases hM
   obtain ⟨q0, q | ⟨C, fr, q1, q2, q3, q4, q5, q6⟩⟩ := hO
   ·have := congrArg List.length q.2
    rw [rowS_map, List.length_map] at this
    have : xs.length = 0 := this
    omega
   ·have hes : L.es ≠ 0 := by rw [q0]; decide
    obtain ⟨k1, k2, k3⟩ := h1 hes
    have ho' : o' = L.sh := by
     rcases hz with e | e
     ·simpa using e
     ·omega
    subst ho'
    have hcells : ∀ (i : Nat) x, xs[i]? = some x → w.cell? ⟨L.b, L.sh + i, none⟩ = some (.string x) := fun i x hx => by
     obtain ⟨u, u1, u2⟩ := q4 i (.string x) (by rw [rowS_map, List.getElem?_map, hx]; rfl)
     cases u2
     rw [cell_of_heap q1]; exact u1
    have hbk : L.b < w.heap.size := (Array.getElem?_eq_some_iff.1 q1).1
    have fin : ∀ {e : Ending} {w' : World}, (e = .returned (.string (joinV xs sep)) ∧ Below w.heap.size w w') → ∃ v v' ρ' h' c', e = .returned v' ∧ VRel ρ' v v' ∧ Rho.le ρ ρ' ∧ ρ'.length = c' ∧ HRel B ρ' h' w' ∧ Bel B w w' ∧ (v = .string (joinV xs sep) ∧ h' = h ∧ c' = c) := fun ⟨he, hb⟩ => by
     subst he
     subst p3
     exact ⟨_, _, ρ, h, _, rfl, VRel.plain_refl ρ rfl, Rho.le_refl ρ, rfl, hH.keep (Rho.le_refl ρ) (fun k hk => hb.block k hk), Bel.of hb p4, rfl, rfl, rfl⟩
    refine ⟨run_callFunc_go Proofs.Tryz.func47 (by kernel_rfl) (by kernel_rfl) _ w, ?_⟩
    subst hn
    refine (Proofs.Tryz.strings_Join L.b L.sh cap' xs sep w hcells hbk (by omega) (by omega) (by omega)).mono ?_
    exact fun e w' q => fin q
end Go.Xm
