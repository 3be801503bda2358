/- Turn, Turns and Same answer as the reference does. Conditions: at most 60 letters each. -/
import Derived.Test.YtdijjdkaojbolaaG2
import Derived.Test.YtdijjdkaojbolaaDk
import Derived.Lib.IndexLaws
namespace Go.Xm
set_option linter.unusedVariables false
set_option linter.unusedSimpArgs false

/-- A list turned. -/
def trn (l : List UInt8) (i : Nat) : List UInt8 := l.drop i ++ l.take i

theorem len_size (a : ByteArray) : a.data.toList.length = a.size := rfl

def tw (a : ByteArray) (i : Int) : ByteArray := catS (cutT a i (a.size : Int)) (cutT a 0 i)

theorem tw_list (a : ByteArray) (i : Nat) (h : i ≤ a.size) : (tw a i).data.toList = trn a.data.toList i := by
  show ((a.data.toList.drop (i : Int).toNat).take (((a.size : Int)).toNat - (i : Int).toNat)) ++ ((a.data.toList.drop (0 : Int).toNat).take ((i : Int).toNat - (0 : Int).toNat)) = _
  simp only [Int.toNat_natCast, Int.toNat_zero, List.drop_zero, Nat.sub_zero, trn]
  congr 1
  apply List.take_of_length_le
  rw [List.length_drop, len_size]
  exact Nat.le_refl _

theorem cut_size (a : ByteArray) (lo hi : Int) : (cutT a lo hi).size ≤ a.size := by
  show ((a.data.toList.drop lo.toNat).take (hi.toNat - lo.toNat)).length ≤ _
  rw [List.length_take, List.length_drop, len_size]
  omega

theorem cutOk_iff {lo hi : Int} {n : Nat} : cutOk lo hi n = true ↔ 0 ≤ lo ∧ lo ≤ hi ∧ hi ≤ (n : Int) := by simp [cutOk]

theorem cuts_ok (a : ByteArray) (hs : a.size ≤ 1000) (i : Int) (h0 : 0 ≤ i) (h1 : i ≤ (a.size : Int)) : cutOk i (a.size : Int) a.size = true ∧ cutOk 0 i a.size = true ∧ Nat.ble ((cutT a i (a.size : Int)).size + (cutT a 0 i).size) 9223372036854775807 = true := by
  refine ⟨cutOk_iff.2 ⟨h0, h1, Int.le_refl _⟩, cutOk_iff.2 ⟨Int.le_refl _, h0, h1⟩, ?_⟩
  have := cut_size a i (a.size : Int)
  have := cut_size a 0 i
  rw [Nat.ble_eq]
  omega

theorem f57_eq (m : Nat) (a : ByteArray) (hs : a.size ≤ 1000) (i : Int) (h0 : 0 ≤ i) (h1 : i ≤ (a.size : Int)) : f57 m a i = some (tw a i) := by
  obtain ⟨q1, q2, q3⟩ := cuts_ok a hs i h0 h1
  simp only [f57, q1, q2, q3, cond_true]
  rfl

theorem f58_1_eq (m : Nat) (a b : ByteArray) (hs : a.size ≤ 1000) : ∀ (k i fuel : Nat), i + k = a.size → k < fuel →
    f58_1 m fuel a b i = some (match fnd (fun j => trn a.data.toList j == b.data.toList) k i with | some j => .r j | none => .x0)
  | 0, i, fuel + 1, h1, _ => by
    have : ¬ ((i : Int) < ((a.size : Nat) : Int)) := by omega
    simp only [f58_1, decide_eq_false this, cond_false, fnd]
  | k + 1, i, fuel + 1, h1, h2 => by
    have q1 : ((i : Int) < ((a.size : Nat) : Int)) := by omega
    have r := f57_eq m a hs i (by omega) (by omega)
    have e := tw_list a i (by omega)
    have q6 : w64 ((i : Int) + 1) = ((i + 1 : Nat) : Int) := by
      have : w64 ((i : Int) + 1) = (i : Int) + 1 := IntWalk.i64_in _ (by omega)
      rw [this]; rfl
    have ih := f58_1_eq m a b hs k (i + 1) fuel (by omega) (by omega)
    simp only [f58_1, decide_eq_true q1, r, q6, cond_true, Option.bind_some, fnd, e]
    cases (trn a.data.toList i == b.data.toList) with
    | true => rfl
    | false => exact ih
  | _, _, 0, _, h => by omega

theorem f58_eq (m : Nat) (a b : ByteArray) (hs : a.size ≤ 1000) (i : Nat) (hi : i ≤ a.size) (hm : a.size < m) : f58 m a b i = some (match fnd (fun j => trn a.data.toList j == b.data.toList) (a.size - i) i with | some j => (j : Int) | none => -1) := by
  have := f58_1_eq m a b hs (a.size - i) i m (by omega) (by omega)
  unfold f58
  rw [this]
  cases fnd (fun j => trn a.data.toList j == b.data.toList) (a.size - i) i <;> rfl

/-- Where a word stands in another one written twice. -/
theorem occ_turn (l k : List UInt8) (hk : k.length = l.length) (i : Nat) (hi : i ≤ l.length) : Lib.occAt (l ++ l) k i = (trn l i == k) := by
  have h1 : (l ++ l).drop i = trn l i ++ l.drop i := by
    rw [List.drop_append_of_le_length hi, trn, List.append_assoc, List.take_append_drop]
  have h2 : (trn l i).length = k.length := by simp [trn, hk]; omega
  unfold Lib.occAt
  rw [h1, Bool.eq_iff_iff, List.isPrefixOf_iff_prefix, beq_iff_eq]
  constructor
  · intro h
    have := List.prefix_append (trn l i) (l.drop i)
    exact ((List.prefix_of_prefix_length_le h this (by omega)).eq_of_length h2.symm).symm
  · intro h
    rw [← h]
    exact List.prefix_append _ _

theorem turn_all (l : List UInt8) : trn l l.length = l := by simp [trn]

theorem fnd_shift (p : Nat → Bool) : ∀ (k i : Nat), fnd (fun j => p (j + 1)) k i = (fnd p k (i + 1)).map (fun j => j - 1)
  | 0, _ => rfl
  | k + 1, i => by
    simp only [fnd]
    cases p (i + 1) with
    | true => rfl
    | false => exact fnd_shift p k (i + 1)

theorem index_turns (l : List UInt8) (hn : 0 < l.length) : Lib.index ((l ++ l).drop 1) l + 1 = (match fnd (fun j => trn l j == l) (l.length - 1) 1 with | some j => (j : Int) | none => (l.length : Int)) := by
  have hocc : ∀ j, j + 1 ≤ l.length → Lib.occAt ((l ++ l).drop 1) l j = (trn l (j + 1) == l) := by
    intro j hj
    have := occ_turn l l rfl (j + 1) hj
    rw [← this]
    unfold Lib.occAt
    rw [List.drop_drop, Nat.add_comm 1 j]
  have hlen : ((l ++ l).drop 1).length = l.length + l.length - 1 := by simp
  cases hf : fnd (fun j => trn l j == l) (l.length - 1) 1 with
  | some j =>
    obtain ⟨h1, h2, h3, h4⟩ := fnd_some _ _ hf
    have e1 : j - 1 + 1 = j := by omega
    have := Lib.index_first (s := (l ++ l).drop 1) (sub := l) (i := j - 1) (by omega) (by rw [hocc (j - 1) (by omega), e1]; exact h3)
      (fun i hi => by rw [hocc i (by omega)]; exact h4 (i + 1) (by omega) (by omega))
    rw [this]
    show ((j - 1 : Nat) : Int) + 1 = (j : Int)
    omega
  | none =>
    have h4 := fnd_none_iff _ _ hf
    have e1 : l.length - 1 + 1 = l.length := by omega
    have := Lib.index_first (s := (l ++ l).drop 1) (sub := l) (i := l.length - 1) (by omega)
      (by rw [hocc (l.length - 1) (by omega), e1, turn_all]; exact beq_self_eq_true l)
      (fun i hi => by rw [hocc i (by omega)]; exact h4 (i + 1) (by omega) (by omega))
    rw [this]
    show ((l.length - 1 : Nat) : Int) + 1 = (l.length : Int)
    omega

theorem turn_zero (l : List UInt8) : trn l 0 = l := by simp [trn]

theorem index_same (l k : List UInt8) (hn : 0 < l.length) (hk : k.length = l.length) : Lib.index (l ++ l) k = (match fnd (fun j => trn l j == k) l.length 0 with | some j => (j : Int) | none => -1) := by
  cases hf : fnd (fun j => trn l j == k) l.length 0 with
  | some j =>
    obtain ⟨h1, h2, h3, h4⟩ := fnd_some _ _ hf
    exact Lib.index_first (by rw [List.length_append]; omega) (by rw [occ_turn l k hk j (by omega)]; exact h3) (fun i hi => by rw [occ_turn l k hk i (by omega)]; exact h4 i (by omega) hi)
  | none =>
    have h4 := fnd_none_iff _ _ hf
    refine Lib.index_past (i := l.length + 1) (by intro e; rw [e] at hk; simp at hk; omega) (fun j hj => ?_) (by rw [List.length_append]; omega)
    rw [occ_turn l k hk j (by omega)]
    by_cases e : j = l.length
    · subst e
      rw [turn_all, ← turn_zero l]
      have := h4 0 (Nat.le_refl _) (by omega)
      rw [turn_zero] at this ⊢
      exact this
    · exact h4 j (Nat.zero_le _) (by omega)

theorem ne_b {x : Int} (h : ¬ x = 0) : (x != 0) = true := by rw [bne_iff_ne]; exact h
theorem ne_e {x : Int} (h : ¬ x = 0) : (x == 0) = false := by rw [beq_eq_false_iff_ne]; exact h

theorem turn_eq (m : Nat) (a : ByteArray) (c : Int) (hm : 100 < m) (hs : a.size ≤ 60) : ∃ v, f27 m a c = some v ∧ f28 m a c = some v := by
  unfold f27 f28
  rw [f19_eq m a (by omega), f20_eq m a (by omega)]
  simp only [Option.bind_some]
  by_cases hc : chk a = 0
  · obtain ⟨h1, h2, _⟩ := chk_ok hc
    have hw : w64 (((a.size : Nat) : Int) - 1) = ((a.size : Nat) : Int) - 1 := IntWalk.i64_in _ (by omega)
    rw [hc, hw]
    simp only [bne_self_eq_false, beq_self_eq_true, cond_true, cond_false, ge_iff_le]
    by_cases c1 : 0 ≤ c
    · by_cases c2 : c ≤ ((a.size : Nat) : Int) - 1
      · obtain ⟨q1, q2, q3⟩ := cuts_ok a (by omega) c c1 (by omega)
        have r := f57_eq m a (by omega) c c1 (by omega)
        refine ⟨(tw a c, 0), ?_, ?_⟩
        · simp only [decide_eq_true c1, decide_eq_true c2, q1, q2, q3, cond_true, cond_false, Bool.not_true]
          rfl
        · simp only [decide_eq_true c1, decide_eq_true c2, r, cond_true, cond_false, Bool.not_true, bne_self_eq_false, Option.bind_some]
      · refine ⟨(bs [], 1), ?_, ?_⟩
        · simp only [decide_eq_true c1, decide_eq_false c2, cond_true, Bool.not_false]
        · simp only [decide_eq_true c1, decide_eq_false c2, cond_true, Bool.not_false]
          rfl
    · refine ⟨(bs [], 1), ?_, ?_⟩
      · simp only [decide_eq_false c1, cond_false]
      · simp only [decide_eq_false c1, cond_false]
  · rw [ne_b hc, ne_e hc]
    exact ⟨(bs [], chk a), rfl, rfl⟩

theorem cat_list (a b : ByteArray) : (catS a b).data.toList = a.data.toList ++ b.data.toList := rfl
theorem cat_size (a b : ByteArray) : (catS a b).size = a.size + b.size := by
  show (a.data.toList ++ b.data.toList).length = _
  rw [List.length_append]; rfl

theorem turns_eq (m : Nat) (a : ByteArray) (hm : 100 < m) (hs : a.size ≤ 60) : ∃ v, f29 m a = some v ∧ f30 m a = some v := by
  unfold f29 f30
  rw [f19_eq m a (by omega), f20_eq m a (by omega)]
  simp only [Option.bind_some]
  by_cases hc : chk a = 0
  · obtain ⟨h1, h2, _⟩ := chk_ok hc
    rw [hc]
    simp only [bne_self_eq_false, cond_false]
    have hsz := cat_size a a
    have b1 : Nat.ble (a.size + a.size) 9223372036854775807 = true := by rw [Nat.ble_eq]; omega
    have b2 : cutOk 1 ((catS a a).size : Int) (catS a a).size = true := cutOk_iff.2 ⟨by omega, by omega, Int.le_refl _⟩
    have b3 : Nat.blt (cutT (catS a a) 1 ((catS a a).size : Int)).size 4294967281 = true := by
      have := cut_size (catS a a) 1 ((catS a a).size : Int)
      rw [Nat.blt_eq]; omega
    have b4 : (cutT (catS a a) 1 ((catS a a).size : Int)).data.toList = (a.data.toList ++ a.data.toList).drop 1 := by
      show ((catS a a).data.toList.drop (1 : Int).toNat).take ((((catS a a).size : Int)).toNat - (1 : Int).toNat) = _
      rw [cat_list, Int.toNat_natCast, hsz]
      apply List.take_of_length_le
      rw [List.length_drop, List.length_append, len_size]
      exact Nat.le_refl _
    have hi := index_turns a.data.toList (by rw [len_size]; exact h1)
    have r := f58_eq m a a (by omega) 1 (by omega) (by omega)
    have e1 : ((1 : Nat) : Int) = 1 := rfl
    rw [e1] at r
    rw [len_size] at hi
    simp only [b1, b2, b3, b4, cond_true, r, Option.bind_some, hi]
    cases hf : fnd (fun j => trn a.data.toList j == a.data.toList) (a.size - 1) 1 with
    | some j =>
      obtain ⟨g1, g2, _, _⟩ := fnd_some _ _ hf
      have hw : w64 (j : Int) = (j : Int) := IntWalk.i64_in _ (by omega)
      have hd : ¬ ((j : Int) < 0) := by omega
      refine ⟨((j : Int), 0), ?_, ?_⟩
      · simp only [hw]
      · simp only [decide_eq_false hd, cond_false]
    | none =>
      have hw : w64 (a.size : Int) = (a.size : Int) := IntWalk.i64_in _ (by omega)
      refine ⟨((a.size : Int), 0), ?_, ?_⟩
      · simp only [hw]
      · rfl
  · rw [ne_b hc]
    exact ⟨(0, chk a), rfl, rfl⟩

theorem same_eq (m : Nat) (a b : ByteArray) (hm : 100 < m) (hs : a.size ≤ 60) (hb : b.size ≤ 60) : ∃ v, f31 m a b = some v ∧ f32 m a b = some v := by
  unfold f31 f32
  rw [f19_eq m a (by omega), f20_eq m a (by omega), f19_eq m b (by omega), f20_eq m b (by omega)]
  simp only [Option.bind_some]
  by_cases hc : chk a = 0
  · obtain ⟨h1, h2, _⟩ := chk_ok hc
    rw [hc]
    simp only [beq_self_eq_true, cond_true]
    by_cases hd : chk b = 0
    · rw [hd]
      simp only [beq_self_eq_true, bne_self_eq_false, cond_true, cond_false]
      by_cases hl : a.size = b.size
      · have e1 : (((a.size : Nat) : Int) != ((b.size : Nat) : Int)) = false := by rw [hl]; exact bne_self_eq_false _
        have b1 : Nat.ble (a.size + a.size) 9223372036854775807 = true := by rw [Nat.ble_eq]; omega
        have b2 : Nat.blt (catS a a).size 4294967281 = true := by rw [Nat.blt_eq, cat_size]; omega
        have hi := index_same a.data.toList b.data.toList (by rw [len_size]; exact h1) (by rw [len_size, len_size, hl])
        rw [← cat_list, len_size] at hi
        have r := f58_eq m a b (by omega) 0 (by omega) (by omega)
        have e0 : ((0 : Nat) : Int) = 0 := rfl
        rw [e0, Nat.sub_zero] at r
        simp only [e1, b1, b2, cond_true, cond_false, hi, r, Option.bind_some, beq_self_eq_true]
        cases hf : fnd (fun j => trn a.data.toList j == b.data.toList) a.size 0 with
        | some j =>
          have hd : ¬ ((j : Int) < 0) := by omega
          refine ⟨((j : Int), 0), ?_, ?_⟩
          · simp only [decide_eq_false hd, cond_false]
          · simp only [decide_eq_false hd, cond_false, bne_self_eq_false]
        | none => exact ⟨(0, 12), rfl, rfl⟩
      · have e1 : (((a.size : Nat) : Int) != ((b.size : Nat) : Int)) = true := by rw [bne_iff_ne]; omega
        rw [e1]
        exact ⟨(0, 5), rfl, rfl⟩
    · rw [ne_b hd, ne_e hd]
      exact ⟨(0, chk b), rfl, rfl⟩
  · rw [ne_b hc, ne_e hc]
    exact ⟨(0, chk a), rfl, rfl⟩

theorem f5_eq (a b : ByteArray) (c : Int) : f5 101 a b c = some true := by
  unfold f5
  by_cases hs : a.size ≤ 60
  · have h0 : ¬ (((a.size : Nat) : Int) > 60) := by omega
    by_cases hb : b.size ≤ 60
    · have h1 : ¬ (((b.size : Nat) : Int) > 60) := by omega
      obtain ⟨v1, p1, q1⟩ := turn_eq 101 a c (by omega) hs
      obtain ⟨v2, p2, q2⟩ := turns_eq 101 a (by omega) hs
      obtain ⟨v3, p3, q3⟩ := same_eq 101 a b (by omega) hs hb
      rw [decide_eq_false h0, decide_eq_false h1, p1, q1, p2, q2, p3, q3]
      simp
    · have h1 : (((b.size : Nat) : Int) > 60) := by omega
      rw [decide_eq_false h0, decide_eq_true h1]
      rfl
  · have h0 : (((a.size : Nat) : Int) > 60) := by omega
    rw [decide_eq_true h0]
    rfl

end Go.Xm

namespace Go.Proofs.Ytdijjdkaojbolaa.bandTurned
open Go.Xm Go.RowKit
set_option linter.unusedVariables false

theorem walk (a0 : ByteArray) (a1 : ByteArray) (a2 : Int) (w : World) (hI : ∃ m, w.cell? ⟨0, 0, none⟩ = some (.int .i64 m)) (w0 : a0.size ≤ maxLen) (w1 : a1.size ≤ maxLen) (w2 : (Lit.int .i64 a2).wf = true) :
    Calls Try.prog 5 #[.string a0, .string a1, .int .i64 a2] w fun e w' => e = .returned (.bool true) ∧ Below w.heap.size w w' :=
  f5_ok 101 a0 a1 a2 true (f5_eq a0 a1 a2) w hI

end Go.Proofs.Ytdijjdkaojbolaa.bandTurned
