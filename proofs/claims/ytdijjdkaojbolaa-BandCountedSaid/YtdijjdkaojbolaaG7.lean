/- Straight and Count answer as the reference does. Conditions: at most 60 letters. -/
import Derived.Test.YtdijjdkaojbolaaG6
import Derived.Test.YtdijjdkaojbolaaDg
namespace Go.Xm
set_option linter.unusedVariables false
set_option linter.unusedSimpArgs false

theorem f33_eq (m : Nat) (a : ByteArray) (hm : 100 < m) (hs : a.size ≤ 60) : f33 m a = some (if chk a = 0 then ((agn a true).isNone, 0) else (false, chk a)) := by
  unfold f33
  rw [f19_eq m a (by omega)]
  simp only [Option.bind_some]
  by_cases hc : chk a = 0
  · obtain ⟨r1, r2⟩ := f33_all m hc hm
    have hs' := (chk_ok hc).2.1
    rw [hc, if_pos rfl, dbl_ok hs']
    simp only [bne_self_eq_false, cond_false, cond_true, r1, Option.bind_some, r2]
    cases agn a true with
    | none => rfl
    | some v => rfl
  · have : (chk a != 0) = true := by rw [bne_iff_ne]; exact hc
    rw [if_neg hc, this]
    rfl

theorem f34_eq (m : Nat) (a : ByteArray) (hm : 100 < m) (hs : a.size ≤ 60) : f34 m a = some (if chk a = 0 then ((agn a true).isNone, 0) else (false, chk a)) := by
  unfold f34
  rw [f20_eq m a (by omega)]
  simp only [Option.bind_some]
  by_cases hc : chk a = 0
  · obtain ⟨h1, h2, _⟩ := chk_ok hc
    rw [hc, if_pos rfl, f46_eq m a h1 h2 true hm]
    simp only [bne_self_eq_false, cond_false, Option.bind_some]
    cases agn a true with
    | none => rfl
    | some v => rfl
  · have : (chk a != 0) = true := by rw [bne_iff_ne]; exact hc
    rw [if_neg hc, this]
    rfl

def cntV (n : Nat) : Option (Int × Int) := f35 101 (n : Int)

theorem count_table : (List.range 17).all (fun n => (f35 101 (n : Int)).isSome && (f35 101 (n : Int) == f36 101 (n : Int))) = true := by kernel_rfl

theorem count_eq (b : Int) : ∃ v, f35 101 b = some v ∧ f36 101 b = some v := by
  by_cases h1 : 1 ≤ b
  · by_cases h2 : b ≤ 16
    · obtain ⟨n, rfl⟩ : ∃ n : Nat, b = n := ⟨b.toNat, by omega⟩
      have := List.all_eq_true.1 count_table n (List.mem_range.2 (by omega))
      simp only [Bool.and_eq_true, beq_iff_eq] at this
      obtain ⟨q1, q2⟩ := this
      obtain ⟨v, hv⟩ := Option.isSome_iff_exists.1 q1
      exact ⟨v, hv, by rw [← q2]; exact hv⟩
    · refine ⟨(0, 1), ?_, ?_⟩
      · simp [f35, h1, h2]
      · simp [f36, h1, h2]
  · refine ⟨(0, 1), ?_, ?_⟩
    · simp [f35, h1]
    · simp [f36, h1]

theorem f6_eq (a : ByteArray) (b : Int) : f6 101 a b = some true := by
  unfold f6
  by_cases hs : a.size ≤ 60
  · have h0 : ¬ (((a.size : Nat) : Int) > 60) := by omega
    obtain ⟨v, v1, v2⟩ := count_eq b
    rw [decide_eq_false h0, f33_eq 101 a (by omega) hs, f34_eq 101 a (by omega) hs, v1, v2]
    simp
  · have h0 : (((a.size : Nat) : Int) > 60) := by omega
    rw [decide_eq_true h0]
    rfl

end Go.Xm

namespace Go.Proofs.Ytdijjdkaojbolaa.bandStraight
open Go.Xm Go.RowKit
set_option linter.unusedVariables false

theorem walk (a0 : ByteArray) (a1 : Int) (w : World) (hI : ∃ m, w.cell? ⟨0, 0, none⟩ = some (.int .i64 m)) (w0 : a0.size ≤ maxLen) (w1 : (Lit.int .i64 a1).wf = true) :
    Calls Try.prog 6 #[.string a0, .int .i64 a1] w fun e w' => e = .returned (.bool true) ∧ Below w.heap.size w w' :=
  f6_ok 101 a0 a1 true (f6_eq a0 a1) w hI

end Go.Proofs.Ytdijjdkaojbolaa.bandStraight
