/- Words: what 'Check' answers, in the program and in the reference; how many letters b a part has. Conditions: none. -/
import Derived.Test.YtdijjdkaojbolaaG1
import Derived.Test.YtdijjdkaojbolaaDa
namespace Go.Xm
set_option linter.unusedVariables false
set_option linter.unusedSimpArgs false

theorem byteAt_range (s : ByteArray) (i : Int) : 0 ≤ byteAt s i ∧ byteAt s i < 256 := by
  unfold byteAt
  have := UInt8.toNat_lt (s.data.toList.getD i.toNat 0)
  omega

theorem get_byteAt (s : ByteArray) (p : Nat) (h : p < s.size) : ((s.get! p).toNat : Int) = byteAt s (p : Int) := by
  unfold byteAt
  have hl : p < s.data.toList.length := by simpa using h
  have h2 : p < s.data.size := by simpa using h
  rw [Int.toNat_natCast, List.getD_eq_getElem?_getD, List.getElem?_eq_getElem hl]
  simp only [ByteArray.get!]
  rw [getElem!_pos s.data p h2]
  rfl

theorem decode_lo (s : ByteArray) (p : Nat) (h : p < s.size) (hb : byteAt s p < 128) : ((Utf8.decode s p).1 : Int) = byteAt s p ∧ (Utf8.decode s p).2 = 1 := by
  have hg := get_byteAt s p h
  have h1 : (s.get! p).toNat < 128 := by omega
  have e : Utf8.decode s p = ((s.get! p).toNat, 1) := by
    unfold Utf8.decode
    simp only [Nat.add_zero]
    rw [if_pos h1]
  rw [e]
  exact ⟨hg, rfl⟩

theorem decode_hi (s : ByteArray) (p : Nat) (h : p < s.size) (hb : 128 ≤ byteAt s p) : 128 ≤ (Utf8.decode s p).1 := by
  have hg := get_byteAt s p h
  have h1 : ¬ (s.get! p).toNat < 128 := by omega
  unfold Utf8.decode
  simp only [Nat.add_zero]
  rw [if_neg h1]
  have hr : 128 ≤ Utf8.runeError := by decide
  split
  · split
    · assumption
    · exact hr
  · split
    · split
      · rename_i hc
        simp only [Bool.and_eq_true, decide_eq_true_eq] at hc
        omega
      · exact hr
    · split
      · split
        · rename_i hc
          simp only [Bool.and_eq_true, decide_eq_true_eq] at hc
          omega
        · exact hr
      · exact hr

/-- Is letter i neither a nor b. -/
def badAt (a : ByteArray) (i : Nat) : Bool := (byteAt a i != 97) && (byteAt a i != 98)

theorem f20_1_eq (m : Nat) (a : ByteArray) (ha : a.size ≤ 1000) : ∀ (k i fuel : Nat), i + k = a.size → k < fuel →
    f20_1 m fuel a i = some (match fnd (badAt a) k i with | some _ => .r | none => .x0)
  | 0, i, fuel + 1, h1, _ => by
    have : ¬ ((i : Int) < ((a.size : Nat) : Int)) := by omega
    simp only [f20_1, decide_eq_false this, cond_false, fnd]
  | k + 1, i, fuel + 1, h1, h2 => by
    have q1 : ((i : Int) < ((a.size : Nat) : Int)) := by omega
    have q2 : inRow (i : Int) a.size = true := inRow_iff.2 ⟨by omega, q1⟩
    have q3 : w64 ((i : Int) + 1) = ((i + 1 : Nat) : Int) := by rw [w64_id (by omega) (by omega)]; rfl
    have ih := f20_1_eq m a ha k (i + 1) fuel (by omega) (by omega)
    simp only [f20_1, decide_eq_true q1, q2, q3, ih, cond_true, fnd, badAt]
    cases (byteAt a (i : Int) != 97) <;> cases (byteAt a (i : Int) != 98) <;> simp
  | _, _, 0, _, h => by omega

theorem f19_1_eq (m : Nat) (a : ByteArray) : ∀ (k p fuel : Nat), p + k = a.size → k < fuel →
    f19_1 m fuel a p = some (match fnd (badAt a) k p with | some _ => .r | none => .x1)
  | 0, p, fuel + 1, h1, _ => by
    have : Nat.blt p a.size = false := by
      cases hb : Nat.blt p a.size with
      | false => rfl
      | true => rw [Nat.blt_eq] at hb; omega
    simp only [f19_1, this, cond_false, fnd]
  | k + 1, p, fuel + 1, h1, h2 => by
    have hp : p < a.size := by omega
    have q1 : Nat.blt p a.size = true := by rw [Nat.blt_eq]; exact hp
    by_cases hb : byteAt a (p : Int) < 128
    · obtain ⟨d1, d2⟩ := decode_lo a p hp hb
      have ih := f19_1_eq m a k (p + 1) fuel (by omega) (by omega)
      have d1' : (Int.ofNat (Utf8.decode a p).1) = byteAt a (p : Int) := d1
      simp only [f19_1, q1, d1', d2, ih, cond_true, fnd, badAt]
      cases (byteAt a (p : Int) != 97) <;> cases (byteAt a (p : Int) != 98) <;> simp
    · have d := decode_hi a p hp (by omega)
      have e1 : (Int.ofNat (Utf8.decode a p).1 != 97) = true := by
        rw [bne_iff_ne]; simp only [Int.ofNat_eq_natCast]; omega
      have e2 : (Int.ofNat (Utf8.decode a p).1 != 98) = true := by
        rw [bne_iff_ne]; simp only [Int.ofNat_eq_natCast]; omega
      have e3 : badAt a p = true := by
        simp only [badAt, Bool.and_eq_true, bne_iff_ne]
        omega
      simp only [f19_1, q1, e1, e2, cond_true, fnd, e3]
  | _, _, 0, _, h => by omega

/-- What Check answers. -/
def chk (a : ByteArray) : Int := if a.size = 0 then 4 else if 16 < a.size then 3 else match fnd (badAt a) a.size 0 with | some _ => 10 | none => 0

theorem data_nil (a : ByteArray) : (a.data.toList == []) = decide (a.size = 0) := by
  have : a.size = a.data.toList.length := by simp
  cases h : a.data.toList with
  | nil => rw [h] at this; simp [this]
  | cons x l => rw [h] at this; simp [this]

theorem f19_eq (m : Nat) (a : ByteArray) (hm : a.size < m) : f19 m a = some (chk a) := by
  unfold f19 chk
  rw [data_nil]
  by_cases h0 : a.size = 0
  · simp [h0]
  · have h1 : (((a.size : Nat) : Int) > 16) = (16 < a.size) := propext ⟨fun _ => by omega, fun _ => by omega⟩
    simp only [h0, decide_false, cond_false, if_false, h1]
    by_cases h2 : 16 < a.size
    · simp [h2]
    · simp only [h2, decide_false, cond_false, if_false]
      have := f19_1_eq m a a.size 0 m (by omega) hm
      rw [this]
      simp only [Option.bind_some]
      cases fnd (badAt a) a.size 0 <;> rfl

theorem f20_eq (m : Nat) (a : ByteArray) (hm : a.size < m) : f20 m a = some (chk a) := by
  unfold f20 chk
  by_cases h0 : a.size = 0
  · simp [h0]
  · have h1 : (((a.size : Nat) : Int) > 16) = (16 < a.size) := propext ⟨fun _ => by omega, fun _ => by omega⟩
    have h3 : (((a.size : Nat) : Int) == 0) = false := by
      rw [beq_eq_false_iff_ne]; omega
    simp only [h0, h3, cond_false, if_false, h1]
    by_cases h2 : 16 < a.size
    · simp [h2]
    · simp only [h2, decide_false, cond_false, if_false]
      have := f20_1_eq m a (by omega) a.size 0 m (by omega) hm
      have e0 : ((0 : Nat) : Int) = 0 := rfl
      rw [e0] at this
      rw [this]
      simp only [Option.bind_some]
      cases fnd (badAt a) a.size 0 <;> rfl

theorem chk_ok {a : ByteArray} (h : chk a = 0) : 0 < a.size ∧ a.size ≤ 16 ∧ ∀ i, i < a.size → byteAt a i = 97 ∨ byteAt a i = 98 := by
  unfold chk at h
  by_cases h0 : a.size = 0
  · rw [if_pos h0] at h; cases h
  · rw [if_neg h0] at h
    by_cases h1 : 16 < a.size
    · rw [if_pos h1] at h; cases h
    · rw [if_neg h1] at h
      cases hf : fnd (badAt a) a.size 0 with
      | some x => rw [hf] at h; cases h
      | none =>
        refine ⟨by omega, by omega, fun i hi => ?_⟩
        have := fnd_none_iff a.size 0 hf i (Nat.zero_le _) (by omega)
        simp only [badAt, Bool.and_eq_false_iff, bne_eq_false_iff_eq] at this
        exact this

/-- Letter i of the word written again and again: is it b. -/
def isB (a : ByteArray) (i : Nat) : Bool := byteAt a ((i % a.size : Nat) : Int) == 98

/-- How many letters b a part has. -/
def prt (a : ByteArray) (l i : Nat) : Int := cnt (isB a) (i + l) - cnt (isB a) i

theorem prt_range (a : ByteArray) (l i : Nat) : 0 ≤ prt a l i ∧ prt a l i ≤ l := by
  unfold prt
  rw [cnt_add]
  have := cnt_nonneg (fun j => isB a (i + j)) l
  omega

theorem f51_1_eq (m : Nat) (a : ByteArray) (hn : 0 < a.size) (b l : Nat) (hb : b ≤ 1000) (hl : l ≤ 1000) (hs : a.size ≤ 1000) : ∀ (k i fuel : Nat), i + k = l → k < fuel →
    f51_1 m fuel a b l (prt a i b) i = some (prt a l b)
  | 0, i, fuel + 1, h1, _ => by
    have e : i = l := by omega
    subst e
    have : ¬ ((i : Int) < (i : Int)) := by omega
    simp only [f51_1, decide_eq_false this, cond_false]
  | k + 1, i, fuel + 1, h1, h2 => by
    have q1 : ((i : Int) < (l : Int)) := by omega
    have ih := f51_1_eq m a hn b l hb hl hs k (i + 1) fuel (by omega) (by omega)
    have q2 : (((a.size : Nat) : Int) != 0) = true := by rw [bne_iff_ne]; omega
    have q3 : w64 ((b : Int) + i) = ((b + i : Nat) : Int) := by rw [w64_id (by omega) (by omega)]; rfl
    have q4 : Int.tmod ((b + i : Nat) : Int) ((a.size : Nat) : Int) = (((b + i) % a.size : Nat) : Int) := rfl
    have q5 : inRow (((b + i) % a.size : Nat) : Int) a.size = true := inRow_iff.2 ⟨by omega, by have := Nat.mod_lt (b + i) hn; omega⟩
    have q6 : w64 ((i : Int) + 1) = ((i + 1 : Nat) : Int) := by rw [w64_id (by omega) (by omega)]; rfl
    have hr := prt_range a i b
    have q7 : w64 (prt a i b + 1) = prt a i b + 1 := w64_id (by omega) (by omega)
    have q8 : cond (byteAt a (((b + i) % a.size : Nat) : Int) == 98) (w64 (prt a i b + 1)) (prt a i b) = prt a (i + 1) b := by
      rw [q7]
      unfold prt
      have e : b + (i + 1) = (b + i) + 1 := rfl
      rw [e]
      simp only [cnt, isB]
      cases (byteAt a (((b + i) % a.size : Nat) : Int) == 98) <;> simp only [cond_true, cond_false] <;> omega
    simp only [f51_1, decide_eq_true q1, q2, q3, q4, q5, q6, q8, cond_true]
    exact ih
  | _, _, 0, _, h => by omega

theorem f51_eq (m : Nat) (a : ByteArray) (hn : 0 < a.size) (hs : a.size ≤ 1000) (b l : Nat) (hb : b ≤ 1000) (hl : l ≤ 1000) (hm : l < m) : f51 m a b l = some (prt a l b) := by
  unfold f51
  have := f51_1_eq m a hn b l hb hl hs l 0 m (by omega) hm
  have e : prt a 0 b = 0 := by unfold prt; rw [Nat.add_zero]; omega
  rw [e] at this
  have e0 : ((0 : Nat) : Int) = 0 := rfl
  rw [e0] at this
  rw [this]
  rfl

/-- Two parts of a length that differ by two: the first ones. -/
def two (a : ByteArray) (B l : Nat) : Option (Nat × Nat) := fndM (fun x => fnd (fun y => decide (prt a l x ≥ prt a l y + 2)) B 0) B 0

/-- As many parts of a length are looked at. -/
def begs (a : ByteArray) (st : Bool) (l : Nat) : Nat := cond st (a.size - l + 1) a.size

/-- The first two parts that differ by two, the shortest ones. -/
def agn (a : ByteArray) (st : Bool) : Option (Nat × Nat × Nat) := fndM (fun l => two a (begs a st l) l) a.size 1

theorem f46_3_eq (m : Nat) (a : ByteArray) (hn : 0 < a.size) (hs : a.size ≤ 16) (st : Bool) (l x B : Nat) (hl : l ≤ 16) (hx : x ≤ 16) (hB : B ≤ 16) (hm : 100 < m) : ∀ (k i fuel : Nat), i + k = B → k < fuel →
    f46_3 m fuel a st a.size l B x i = some (match fnd (fun y => decide (prt a l x ≥ prt a l y + 2)) k i with | some y => .r y | none => .x4)
  | 0, i, fuel + 1, h1, _ => by
    have : ¬ ((i : Int) < (B : Int)) := by omega
    simp only [f46_3, decide_eq_false this, cond_false, fnd]
  | k + 1, i, fuel + 1, h1, h2 => by
    have q1 : ((i : Int) < (B : Int)) := by omega
    have ih := f46_3_eq m a hn hs st l x B hl hx hB hm k (i + 1) fuel (by omega) (by omega)
    have r1 := f51_eq m a hn (by omega) x l (by omega) (by omega) (by omega)
    have r2 := f51_eq m a hn (by omega) i l (by omega) (by omega) (by omega)
    have hr := prt_range a l i
    have q3 : w64 (prt a l i + 2) = prt a l i + 2 := w64_id (by omega) (by omega)
    have q6 : w64 ((i : Int) + 1) = ((i + 1 : Nat) : Int) := by rw [w64_id (by omega) (by omega)]; rfl
    simp only [f46_3, decide_eq_true q1, r1, r2, q3, q6, cond_true, Option.bind_some, fnd]
    cases decide (prt a l x ≥ prt a l i + 2) with
    | true => rfl
    | false => exact ih
  | _, _, 0, _, h => by omega

theorem f46_2_eq (m : Nat) (a : ByteArray) (hn : 0 < a.size) (hs : a.size ≤ 16) (st : Bool) (l B : Nat) (hl : l ≤ 16) (hB : B ≤ 16) (hm : 100 < m) : ∀ (k i fuel : Nat), i + k = B → k < fuel →
    f46_2 m fuel a st a.size l B i = some (match fndM (fun x => fnd (fun y => decide (prt a l x ≥ prt a l y + 2)) B 0) k i with | some (x, y) => .r x y | none => .x2)
  | 0, i, fuel + 1, h1, _ => by
    have : ¬ ((i : Int) < (B : Int)) := by omega
    simp only [f46_2, decide_eq_false this, cond_false, fndM]
  | k + 1, i, fuel + 1, h1, h2 => by
    have q1 : ((i : Int) < (B : Int)) := by omega
    have ih := f46_2_eq m a hn hs st l B hl hB hm k (i + 1) fuel (by omega) (by omega)
    have r1 := f46_3_eq m a hn hs st l i B hl (by omega) hB hm B 0 m (by omega) (by omega)
    have q6 : w64 ((i : Int) + 1) = ((i + 1 : Nat) : Int) := by rw [w64_id (by omega) (by omega)]; rfl
    have e0 : ((0 : Nat) : Int) = 0 := rfl
    rw [e0] at r1
    simp only [f46_2, decide_eq_true q1, r1, q6, cond_true, Option.bind_some, fndM]
    cases fnd (fun y => decide (prt a l i ≥ prt a l y + 2)) B 0 with
    | some y => rfl
    | none => exact ih
  | _, _, 0, _, h => by omega

theorem f46_1_eq (m : Nat) (a : ByteArray) (hn : 0 < a.size) (hs : a.size ≤ 16) (st : Bool) (hm : 100 < m) : ∀ (k l fuel : Nat), 1 ≤ l → l + k = a.size + 1 → k < fuel →
    f46_1 m fuel a st a.size l = some (match fndM (fun l => two a (begs a st l) l) k l with | some (l, x, y) => .r x y l | none => .x0)
  | 0, l, fuel + 1, h0, h1, _ => by
    have : ¬ ((l : Int) ≤ ((a.size : Nat) : Int)) := by omega
    simp only [f46_1, decide_eq_false this, cond_false, fndM]
  | k + 1, l, fuel + 1, h0, h1, h2 => by
    have q1 : ((l : Int) ≤ ((a.size : Nat) : Int)) := by omega
    have ih := f46_1_eq m a hn hs st hm k (l + 1) fuel (by omega) (by omega) (by omega)
    have q2 : cond st (w64 ((w64 (((a.size : Nat) : Int) - (l : Int))) + 1)) ((a.size : Nat) : Int) = ((begs a st l : Nat) : Int) := by
      rw [w64_id (x := ((a.size : Nat) : Int) - (l : Int)) (by omega) (by omega), w64_id (by omega) (by omega)]
      unfold begs
      cases st <;> simp only [cond_true, cond_false] <;> omega
    have hB : begs a st l ≤ 16 := by unfold begs; cases st <;> simp only [cond_true, cond_false] <;> omega
    have r1 := f46_2_eq m a hn hs st l (begs a st l) (by omega) hB hm (begs a st l) 0 m (by omega) (by omega)
    have q6 : w64 ((l : Int) + 1) = ((l + 1 : Nat) : Int) := by rw [w64_id (by omega) (by omega)]; rfl
    have e0 : ((0 : Nat) : Int) = 0 := rfl
    rw [e0] at r1
    have ht : two a (begs a st l) l = fndM (fun x => fnd (fun y => decide (prt a l x ≥ prt a l y + 2)) (begs a st l) 0) (begs a st l) 0 := rfl
    simp only [f46_1, decide_eq_true q1, q2, r1, q6, cond_true, Option.bind_some, fndM, ht]
    cases fndM (fun x => fnd (fun y => decide (prt a l x ≥ prt a l y + 2)) (begs a st l) 0) (begs a st l) 0 with
    | some v => rfl
    | none => exact ih
  | _, _, 0, _, _, h => by omega

theorem f46_eq (m : Nat) (a : ByteArray) (hn : 0 < a.size) (hs : a.size ≤ 16) (st : Bool) (hm : 100 < m) :
    f46 m a st = some (match agn a st with | some (l, x, y) => ((x : Int), (y : Int), (l : Int), true) | none => (0, 0, 0, false)) := by
  unfold f46
  have r := f46_1_eq m a hn hs st hm a.size 1 m (by omega) (by omega) (by omega)
  have e1 : ((1 : Nat) : Int) = 1 := rfl
  rw [e1] at r
  rw [r]
  unfold agn
  cases fndM (fun l => two a (begs a st l) l) a.size 1 with
  | some v => rfl
  | none => rfl

end Go.Xm
