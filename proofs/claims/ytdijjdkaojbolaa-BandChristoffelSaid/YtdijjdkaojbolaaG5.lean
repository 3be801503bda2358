/- Even, Against and Proves answer as the reference does. Conditions: at most 60 letters. -/
import Derived.Test.YtdijjdkaojbolaaG4
import Derived.Test.YtdijjdkaojbolaaDd
import Derived.Test.YtdijjdkaojbolaaDe
namespace Go.Xm
set_option linter.unusedVariables false
set_option linter.unusedSimpArgs false

theorem ne_beq {x : Int} (h : ¬ x = 0) : (x != 0) = true := by rw [bne_iff_ne]; exact h

theorem f13_eq (m : Nat) (a : ByteArray) (hm : 100 < m) (hs : a.size ≤ 60) : f13 m a = some (if chk a = 0 then ((agn a false).isNone, 0) else (false, chk a)) := by
  unfold f13
  rw [f19_eq m a (by omega)]
  simp only [Option.bind_some]
  by_cases hc : chk a = 0
  · obtain ⟨r1, r2⟩ := f13_all m hc hm
    have hs' := (chk_ok hc).2.1
    rw [hc, if_pos rfl, dbl_ok hs']
    simp only [bne_self_eq_false, cond_false, cond_true, r1, Option.bind_some, r2]
    cases agn a false with
    | none => rfl
    | some v => rfl
  · rw [if_neg hc, ne_beq hc]
    rfl

theorem f14_eq (m : Nat) (a : ByteArray) (hm : 100 < m) (hs : a.size ≤ 60) : f14 m a = some (if chk a = 0 then ((agn a false).isNone, 0) else (false, chk a)) := by
  unfold f14
  rw [f20_eq m a (by omega)]
  simp only [Option.bind_some]
  by_cases hc : chk a = 0
  · obtain ⟨h1, h2, _⟩ := chk_ok hc
    rw [hc, if_pos rfl, f46_eq m a h1 h2 false hm]
    simp only [bne_self_eq_false, cond_false, Option.bind_some]
    cases agn a false with
    | none => rfl
    | some v => rfl
  · rw [if_neg hc, ne_beq hc]
    rfl

/-- What Against answers. -/
def agw (a : ByteArray) : Int × Int × Int × Int := if chk a = 0 then (match agn a false with | some (l, x, y) => ((x : Int), (y : Int), (l : Int), 0) | none => (0, 0, 0, 13)) else (0, 0, 0, chk a)

theorem f15_eq (m : Nat) (a : ByteArray) (hm : 100 < m) (hs : a.size ≤ 60) : f15 m a = some (agw a) := by
  unfold f15 agw
  rw [f19_eq m a (by omega)]
  simp only [Option.bind_some]
  by_cases hc : chk a = 0
  · obtain ⟨r1, r2⟩ := f15_all m hc hm
    have hs' := (chk_ok hc).2.1
    rw [hc, if_pos rfl, dbl_ok hs']
    simp only [bne_self_eq_false, cond_false, cond_true, r1, Option.bind_some, r2]
    cases agn a false with
    | none => rfl
    | some v => rfl
  · rw [if_neg hc, ne_beq hc]
    rfl

theorem f16_eq (m : Nat) (a : ByteArray) (hm : 100 < m) (hs : a.size ≤ 60) : f16 m a = some (agw a) := by
  unfold f16 agw
  rw [f20_eq m a (by omega)]
  simp only [Option.bind_some]
  by_cases hc : chk a = 0
  · obtain ⟨h1, h2, _⟩ := chk_ok hc
    rw [hc, if_pos rfl, f46_eq m a h1 h2 false hm]
    simp only [bne_self_eq_false, cond_false, Option.bind_some]
    cases agn a false with
    | none => rfl
    | some v => rfl
  · rw [if_neg hc, ne_beq hc]
    rfl

theorem f17_1_eq (m : Nat) {a : ByteArray} (hn : 0 < a.size) (hs : a.size ≤ 16) (hok : ∀ i, i < a.size → byteAt a i = 97 ∨ byteAt a i = 98) : ∀ (k p fuel : Nat), p + k = a.size + a.size → k < fuel →
    f17_1 m fuel (pl a p) (catS a a) p = some (pl a (a.size + a.size))
  | 0, p, fuel + 1, h1, _ => by
    have e : p = a.size + a.size := by omega
    subst e
    simp only [f17_1, added_end, cond_false]
  | k + 1, p, fuel + 1, h1, h2 => by
    obtain ⟨q1, q2, q3, q4, q5⟩ := added_step hn hs hok p (by omega)
    have ih := f17_1_eq m hn hs hok k (p + 1) fuel (by omega) (by omega)
    simp only [f17_1, q1, q2, q3, q4, q5, cond_true]
    exact ih
  | _, _, 0, _, h => by omega

/-- What Proves answers. -/
def prw (a : ByteArray) (b c d : Int) : Int :=
  if chk a = 0 then
    if 0 ≤ b ∧ b ≤ (a.size : Int) - 1 ∧ 0 ≤ c ∧ c ≤ (a.size : Int) - 1 then
      if 1 ≤ d ∧ d ≤ (a.size : Int) then
        if prt a d.toNat b.toNat < prt a d.toNat c.toNat + 2 then 14 else 0
      else 1
    else 2
  else chk a

theorem f17_eq (m : Nat) (a : ByteArray) (b c d : Int) (hm : 100 < m) (hs : a.size ≤ 60) : f17 m a b c d = some (prw a b c d) := by
  unfold f17 prw
  rw [f19_eq m a (by omega)]
  simp only [Option.bind_some]
  by_cases hc : chk a = 0
  · obtain ⟨h1, h2, h3⟩ := chk_ok hc
    have hw : w64 (((a.size : Nat) : Int) - 1) = ((a.size : Nat) : Int) - 1 := w64_id (by omega) (by omega)
    rw [hc, if_pos rfl, hw]
    simp only [bne_self_eq_false, cond_false]
    by_cases c1 : 0 ≤ b
    · by_cases c2 : b ≤ (a.size : Int) - 1
      · by_cases c3 : 0 ≤ c
        · by_cases c4 : c ≤ (a.size : Int) - 1
          · rw [if_pos ⟨c1, c2, c3, c4⟩]
            by_cases c5 : 1 ≤ d
            · by_cases c6 : d ≤ (a.size : Int)
              · rw [if_pos ⟨c5, c6⟩]
                obtain ⟨b, rfl⟩ : ∃ k : Nat, b = k := ⟨b.toNat, by omega⟩
                obtain ⟨c, rfl⟩ : ∃ k : Nat, c = k := ⟨c.toNat, by omega⟩
                obtain ⟨d, rfl⟩ : ∃ k : Nat, d = k := ⟨d.toNat, by omega⟩
                have r := f17_1_eq m h1 h2 h3 (a.size + a.size) 0 m (by omega) (by omega)
                have r' : f17_1 m m [0] (catS a a) 0 = some (pl a (a.size + a.size)) := r
                obtain ⟨p1, p2, p3⟩ := part_of h2 d b (by omega)
                obtain ⟨q1, q2, q3⟩ := part_of h2 d c (by omega)
                have hr := prt_range a d c
                have e2 : w64 (prt a d c + 2) = prt a d c + 2 := w64_id (by omega) (by omega)
                simp only [decide_eq_true c1, decide_eq_true c2, decide_eq_true c3, decide_eq_true c4, decide_eq_true c5, decide_eq_true c6, dbl_ok h2, r', p1, p2, p3, q1, q2, q3, e2, cond_true, cond_false, Bool.not_true, Option.bind_some]
                by_cases hh : prt a d b < prt a d c + 2
                · simp [hh]
                · simp [hh]
              · simp [c1, c2, c3, c4, c5, c6]
            · simp [c1, c2, c3, c4, c5]
          · simp [c1, c2, c3, c4]
        · simp [c1, c2, c3]
      · simp [c1, c2]
    · simp [c1]
  · rw [if_neg hc, ne_beq hc]
    rfl

theorem f18_eq (m : Nat) (a : ByteArray) (b c d : Int) (hm : 100 < m) (hs : a.size ≤ 60) : f18 m a b c d = some (prw a b c d) := by
  unfold f18 prw
  rw [f20_eq m a (by omega)]
  simp only [Option.bind_some]
  by_cases hc : chk a = 0
  · obtain ⟨h1, h2, h3⟩ := chk_ok hc
    have hw : w64 (((a.size : Nat) : Int) - 1) = ((a.size : Nat) : Int) - 1 := w64_id (by omega) (by omega)
    rw [hc, if_pos rfl, hw]
    simp only [beq_self_eq_true, cond_true, ge_iff_le]
    by_cases c1 : 0 ≤ b
    · by_cases c2 : b ≤ (a.size : Int) - 1
      · by_cases c3 : 0 ≤ c
        · by_cases c4 : c ≤ (a.size : Int) - 1
          · rw [if_pos ⟨c1, c2, c3, c4⟩]
            by_cases c5 : 1 ≤ d
            · by_cases c6 : d ≤ (a.size : Int)
              · rw [if_pos ⟨c5, c6⟩]
                obtain ⟨b, rfl⟩ : ∃ k : Nat, b = k := ⟨b.toNat, by omega⟩
                obtain ⟨c, rfl⟩ : ∃ k : Nat, c = k := ⟨c.toNat, by omega⟩
                obtain ⟨d, rfl⟩ : ∃ k : Nat, d = k := ⟨d.toNat, by omega⟩
                have p := f51_eq m a h1 (by omega) b d (by omega) (by omega) (by omega)
                have q := f51_eq m a h1 (by omega) c d (by omega) (by omega) (by omega)
                have hr := prt_range a d c
                have e2 : w64 (prt a d c + 2) = prt a d c + 2 := w64_id (by omega) (by omega)
                simp only [decide_eq_true c1, decide_eq_true c2, decide_eq_true c3, decide_eq_true c4, decide_eq_true c5, decide_eq_true c6, p, q, e2, cond_true, cond_false, Bool.not_true, Option.bind_some, Int.toNat_natCast, beq_self_eq_true]
                by_cases hh : prt a d b < prt a d c + 2
                · simp [hh]
                · simp [hh]
              · simp [c1, c2, c3, c4, c5, c6]
            · simp [c1, c2, c3, c4, c5]
          · simp [c1, c2, c3, c4]
        · simp [c1, c2, c3]
      · simp [c1, c2]
    · simp [c1]
  · have : (chk a == 0) = false := by rw [beq_eq_false_iff_ne]; exact hc
    rw [if_neg hc, this]
    rfl

theorem f3_eq (a : ByteArray) (b c d : Int) : f3 101 a b c d = some true := by
  unfold f3
  by_cases hs : a.size ≤ 60
  · have h0 : ¬ (((a.size : Nat) : Int) > 60) := by omega
    rw [decide_eq_false h0, f13_eq 101 a (by omega) hs, f14_eq 101 a (by omega) hs, f15_eq 101 a (by omega) hs, f16_eq 101 a (by omega) hs, f17_eq 101 a b c d (by omega) hs, f18_eq 101 a b c d (by omega) hs, f19_eq 101 a (by omega), f20_eq 101 a (by omega)]
    simp
  · have h0 : (((a.size : Nat) : Int) > 60) := by omega
    rw [decide_eq_true h0]
    rfl

end Go.Xm

namespace Go.Proofs.Ytdijjdkaojbolaa.bandEven
open Go.Xm Go.RowKit
set_option linter.unusedVariables false

theorem walk (a0 : ByteArray) (a1 : Int) (a2 : Int) (a3 : Int) (w : World) (hI : ∃ m, w.cell? ⟨0, 0, none⟩ = some (.int .i64 m)) (w0 : a0.size ≤ maxLen) (w1 : (Lit.int .i64 a1).wf = true) (w2 : (Lit.int .i64 a2).wf = true) (w3 : (Lit.int .i64 a3).wf = true) :
    Calls Try.prog 3 #[.string a0, .int .i64 a1, .int .i64 a2, .int .i64 a3] w fun e w' => e = .returned (.bool true) ∧ Below w.heap.size w w' :=
  f3_ok 101 a0 a1 a2 a3 true (f3_eq a0 a1 a2 a3) w hI

end Go.Proofs.Ytdijjdkaojbolaa.bandEven
