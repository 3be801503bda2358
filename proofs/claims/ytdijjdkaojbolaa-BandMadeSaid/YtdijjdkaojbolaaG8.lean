/- Make, Place and Split answer as the reference does: all boxes and bands are tried. Conditions: none. -/
import Derived.Test.YtdijjdkaojbolaaDo
namespace Go.Xm
set_option linter.unusedVariables false
set_option linter.unusedSimpArgs false

def eqS (x y : Option (ByteArray × Int)) : Bool :=
  match x, y with
  | some u, some v => (u.1.data.toList == v.1.data.toList) && (u.2 == v.2)
  | _, _ => false

def eqI (x y : Option (Int × Int)) : Bool :=
  match x, y with
  | some u, some v => (u.1 == v.1) && (u.2 == v.2)
  | _, _ => false

theorem eqS_ok {x y : Option (ByteArray × Int)} (h : eqS x y = true) : ∃ u v, x = some u ∧ y = some v ∧ (u.1.data.toList == v.1.data.toList) = true ∧ (u.2 == v.2) = true := by
  unfold eqS at h
  split at h
  · rename_i u v
    simp only [Bool.and_eq_true] at h
    exact ⟨u, v, rfl, rfl, h.1, h.2⟩
  · cases h

theorem eqI_ok {x y : Option (Int × Int)} (h : eqI x y = true) : ∃ u v, x = some u ∧ y = some v ∧ (u.1 == v.1) = true ∧ (u.2 == v.2) = true := by
  unfold eqI at h
  split at h
  · rename_i u v
    simp only [Bool.and_eq_true] at h
    exact ⟨u, v, rfl, rfl, h.1, h.2⟩
  · cases h

theorem made_table : (List.range 16).all (fun i => (List.range (i + 2)).all (fun b => eqS (f21 101 ((i + 1 : Nat) : Int) (b : Int)) (f22 101 ((i + 1 : Nat) : Int) (b : Int)) && eqI (f25 101 ((i + 1 : Nat) : Int) (b : Int)) (f26 101 ((i + 1 : Nat) : Int) (b : Int)) &&
    (List.range b).all (fun c => eqI (f23 101 ((i + 1 : Nat) : Int) (b : Int) (c : Int)) (f24 101 ((i + 1 : Nat) : Int) (b : Int) (c : Int))))) = true := by kernel_rfl

theorem made_eq (a b c : Int) : eqS (f21 101 a b) (f22 101 a b) = true ∧ eqI (f25 101 a b) (f26 101 a b) = true ∧ eqI (f23 101 a b c) (f24 101 a b c) = true := by
  by_cases h1 : 1 ≤ a
  · by_cases h2 : a ≤ 16
    · by_cases h3 : 0 ≤ b
      · by_cases h4 : b ≤ a
        · obtain ⟨i, rfl⟩ : ∃ i : Nat, a = ((i + 1 : Nat) : Int) := ⟨a.toNat - 1, by omega⟩
          obtain ⟨b, rfl⟩ : ∃ k : Nat, b = k := ⟨b.toNat, by omega⟩
          have t := List.all_eq_true.1 made_table i (List.mem_range.2 (by omega))
          have t := List.all_eq_true.1 t b (List.mem_range.2 (by omega))
          simp only [Bool.and_eq_true] at t
          obtain ⟨⟨t1, t2⟩, t3⟩ := t
          refine ⟨t1, t2, ?_⟩
          by_cases h5 : 0 ≤ c
          · by_cases h6 : c ≤ (b : Int) - 1
            · obtain ⟨c, rfl⟩ : ∃ k : Nat, c = k := ⟨c.toNat, by omega⟩
              exact List.all_eq_true.1 t3 c (List.mem_range.2 (by omega))
            · have hw : w64 ((b : Int) - 1) = (b : Int) - 1 := IntWalk.i64_in _ (by omega)
              have q1 : (decide ((1 : Int) ≤ ((i + 1 : Nat) : Int))) = true := decide_eq_true h1
              have q2 : (decide ((((i + 1 : Nat) : Int)) ≤ 16)) = true := decide_eq_true h2
              have q3 : (decide ((0 : Int) ≤ (b : Int))) = true := decide_eq_true h3
              have q4 : (decide ((b : Int) ≤ ((i + 1 : Nat) : Int))) = true := decide_eq_true h4
              have q5 : (decide ((0 : Int) ≤ c)) = true := decide_eq_true h5
              have q6 : (decide (c ≤ (b : Int) - 1)) = false := decide_eq_false h6
              simp only [f23, f24, ge_iff_le, hw, q1, q2, q3, q4, q5, q6, cond_true, cond_false, Bool.not_true, Bool.not_false]
              rfl
          · have q1 : (decide ((1 : Int) ≤ ((i + 1 : Nat) : Int))) = true := decide_eq_true h1
            have q2 : (decide ((((i + 1 : Nat) : Int)) ≤ 16)) = true := decide_eq_true h2
            have q3 : (decide ((0 : Int) ≤ (b : Int))) = true := decide_eq_true h3
            have q4 : (decide ((b : Int) ≤ ((i + 1 : Nat) : Int))) = true := decide_eq_true h4
            have q5 : (decide ((0 : Int) ≤ c)) = false := decide_eq_false h5
            simp only [f23, f24, ge_iff_le, q1, q2, q3, q4, q5, cond_true, cond_false, Bool.not_true, Bool.not_false]
            rfl
        · simp only [f21, f22, f23, f24, f25, f26, ge_iff_le, decide_eq_true h1, decide_eq_true h2, decide_eq_true h3, decide_eq_false h4, cond_true, cond_false, Bool.not_true, Bool.not_false]
          exact ⟨rfl, rfl, rfl⟩
      · simp only [f21, f22, f23, f24, f25, f26, ge_iff_le, decide_eq_true h1, decide_eq_true h2, decide_eq_false h3, cond_true, cond_false, Bool.not_true, Bool.not_false]
        exact ⟨rfl, rfl, rfl⟩
    · simp only [f21, f22, f23, f24, f25, f26, ge_iff_le, decide_eq_true h1, decide_eq_false h2, cond_true, cond_false, Bool.not_true, Bool.not_false]
      exact ⟨rfl, rfl, rfl⟩
  · simp only [f21, f22, f23, f24, f25, f26, ge_iff_le, decide_eq_false h1, cond_true, cond_false, Bool.not_true, Bool.not_false]
    exact ⟨rfl, rfl, rfl⟩

theorem f4_eq (a b c : Int) : f4 101 a b c = some true := by
  obtain ⟨h1, h2, h3⟩ := made_eq a b c
  obtain ⟨u1, v1, e1, g1, p1, p2⟩ := eqS_ok h1
  obtain ⟨u2, v2, e2, g2, p3, p4⟩ := eqI_ok h2
  obtain ⟨u3, v3, e3, g3, p5, p6⟩ := eqI_ok h3
  simp only [f4, e1, g1, e2, g2, e3, g3, p1, p2, p3, p4, p5, p6, Option.bind_some, cond_true]

end Go.Xm

namespace Go.Proofs.Ytdijjdkaojbolaa.bandMade
open Go.Xm Go.RowKit
set_option linter.unusedVariables false

theorem walk (a0 : Int) (a1 : Int) (a2 : Int) (w : World) (hI : ∃ m, w.cell? ⟨0, 0, none⟩ = some (.int .i64 m)) (w0 : (Lit.int .i64 a0).wf = true) (w1 : (Lit.int .i64 a1).wf = true) (w2 : (Lit.int .i64 a2).wf = true) :
    Calls Try.prog 4 #[.int .i64 a0, .int .i64 a1, .int .i64 a2] w fun e w' => e = .returned (.bool true) ∧ Below w.heap.size w w' :=
  f4_ok 101 a0 a1 a2 true (f4_eq a0 a1 a2) w hI

end Go.Proofs.Ytdijjdkaojbolaa.bandMade
