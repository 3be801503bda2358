/- Heaps: checks, on both sides. Conditions: none. -/
import Derived.Test.YtfdeihnkoaihfaaBe
import Derived.Test.YtfdeihnkoaihfaaLz
import Derived.Test.YtfdeihnkoaihfaaEa
namespace Go.Xm
set_option linter.unusedVariables false
set_option linter.unusedSimpArgs false
set_option maxRecDepth 20000

theorem getDi (l : List Hp) {i : Nat} (hi : i < l.length) : List.getD l (Int.toNat (i : Int)) (0, 0) = l[i] := by simp [hi]
theorem getDz (l : List Int) {i : Nat} (hi : i < l.length) : List.getD l (Int.toNat (i : Int)) 0 = l[i] := by simp [hi]

/-! ### Checks -/
def chkL : List Hp → Int
  | [] => 0
  | h :: l => if ¬ (0 ≤ h.1 ∧ h.1 ≤ 23) then 1 else if ¬ (0 ≤ h.2 ∧ h.2 ≤ 23) then 1 else if h.1 > h.2 then 7 else chkL l

def chk (l : List Hp) : Int := if l.length > 10 then 3 else chkL l

def hnd (l : List Hp) (b : Int) : Int := if chk l = 0 then (if 1 ≤ b ∧ b ≤ 10 then 0 else 1) else chk l

theorem chkL_ok : ∀ {l : List Hp}, chkL l = 0 → OkL l
  | [], _ => fun h hh => by cases hh
  | h :: l, hc => by
    unfold chkL at hc
    split at hc
    · cases hc
    · rename_i e1
      split at hc
      · cases hc
      · rename_i e2
        split at hc
        · cases hc
        · rename_i e3
          intro x hx
          rcases List.mem_cons.1 hx with rfl | hx
          · omega
          · exact chkL_ok hc x hx

theorem chk_ok {l : List Hp} (h : chk l = 0) : OkL l ∧ l.length ≤ 10 := by
  unfold chk at h
  split at h
  · cases h
  · rename_i e
    exact ⟨chkL_ok h, by omega⟩

theorem hnd_ok {l : List Hp} {b : Int} (h : hnd l b = 0) : OkL l ∧ l.length ≤ 10 ∧ 1 ≤ b ∧ b ≤ 10 := by
  unfold hnd at h
  split at h
  · rename_i e
    split at h
    · rename_i e2
      exact ⟨(chk_ok e).1, (chk_ok e).2, e2⟩
    · cases h
  · rename_i e
    exact absurd h e

def ofC23 (v : Int) : Of23_1 := if v = 0 then .x0 else .r v
def ofC24 (v : Int) : Of24_1 := if v = 0 then .x0 else .r v

theorem f23_1_eq (m : Nat) (l : List Hp) (h10 : l.length ≤ 1000) :
    ∀ (r i fuel : Nat), i + r = l.length → r < fuel → f23_1 m fuel l ((l.length : Nat) : Int) (i : Int) = some (ofC23 (chkL (l.drop i)))
  | 0, i, fuel + 1, hr, hf => by
    rw [f23_1, dcF (p := (i : Int) < ((l.length : Nat) : Int)) (by omega), List.drop_eq_nil_of_le (by omega)]
    rfl
  | r + 1, i, fuel + 1, hr, hf => by
    have hi : i < l.length := by omega
    rw [f23_1, dcT (p := (i : Int) < ((l.length : Nat) : Int)) (by omega), inR hi, getDi l hi, f64_eq, f64_eq, nat_succ i (by omega), List.drop_eq_getElem_cons hi]
    unfold chkL
    by_cases e1 : 0 ≤ (l[i]).1 ∧ (l[i]).1 ≤ 23
    · rw [dcT e1, if_neg (fun q => q e1)]
      by_cases e2 : 0 ≤ (l[i]).2 ∧ (l[i]).2 ≤ 23
      · rw [dcT e2, if_neg (fun q => q e2)]
        by_cases e3 : (l[i]).1 > (l[i]).2
        · rw [dcT e3, if_pos e3]; rfl
        · rw [dcF e3, if_neg e3]
          exact f23_1_eq m l h10 r (i + 1) fuel (by omega) (by omega)
      · rw [dcF e2, if_pos e2]; rfl
    · rw [dcF e1, if_pos e1]; rfl

theorem f23_eq (m : Nat) (hm : 1001 ≤ m) (l : List Hp) (hl : l.length ≤ 1000) : f23 m l = some (chk l) := by
  unfold f23 chk
  by_cases e : l.length > 10
  · rw [dcT (p := ((l.length : Nat) : Int) > 10) (by omega), if_pos e]; rfl
  · rw [dcF (p := ((l.length : Nat) : Int) > 10) (by omega), if_neg e]
    show (f23_1 m m l _ ((0 : Nat) : Int)).bind _ = _
    rw [f23_1_eq m l hl l.length 0 m (by omega) (by omega), List.drop_zero]
    show (match ofC23 (chkL l) with | .r v => some v | .x0 => some 0) = _
    unfold ofC23
    split
    · rename_i v hv
      split at hv
      · cases hv
      · cases hv; rfl
    · rename_i hv
      split at hv
      · rename_i e0; rw [e0]
      · cases hv

theorem f57_eq (m : Nat) (hm : 1001 ≤ m) (l : List Hp) (hl : l.length ≤ 1000) (b : Int) : f57 m l b = some (hnd l b) := by
  unfold f57 hnd
  rw [f23_eq m hm l hl, f64_eq]
  show cond (chk l == 0) ((some _).bind _) _ = _
  by_cases e : chk l = 0
  · rw [e, if_pos rfl]
    show some (cond (!decide (1 ≤ b ∧ b ≤ 10)) 1 0) = _
    by_cases e2 : 1 ≤ b ∧ b ≤ 10
    · rw [dcT e2, if_pos e2]; rfl
    · rw [dcF e2, if_neg e2]; rfl
  · have : (chk l == 0) = false := by simp [e]
    rw [this, if_neg e]
    rfl

theorem f63_eq (m : Nat) (a b c : Int) : f63 m a b c = some (decide (b ≤ a ∧ a ≤ c)) := by
  unfold f63
  by_cases h : b ≤ a
  · rw [dcT (p := a ≥ b) h]; simp [h]
  · rw [dcF (p := a ≥ b) h]; simp [h]

theorem f24_1_eq (m : Nat) (l : List Hp) (h10 : l.length ≤ 1000) :
    ∀ (r i fuel : Nat), i + r = l.length → r < fuel → f24_1 m fuel l (i : Int) = some (ofC24 (chkL (l.drop i)))
  | 0, i, fuel + 1, hr, hf => by
    rw [f24_1, dcF (p := (i : Int) < ((l.length : Nat) : Int)) (by omega), List.drop_eq_nil_of_le (by omega)]
    rfl
  | r + 1, i, fuel + 1, hr, hf => by
    have hi : i < l.length := by omega
    rw [f24_1, dcT (p := (i : Int) < ((l.length : Nat) : Int)) (by omega), inR hi, getDi l hi, f63_eq, f63_eq, nat_succ i (by omega), List.drop_eq_getElem_cons hi]
    unfold chkL
    by_cases e1 : 0 ≤ (l[i]).1 ∧ (l[i]).1 ≤ 23
    · rw [dcT e1, if_neg (fun q => q e1)]
      by_cases e2 : 0 ≤ (l[i]).2 ∧ (l[i]).2 ≤ 23
      · rw [dcT e2, if_neg (fun q => q e2)]
        by_cases e3 : (l[i]).1 > (l[i]).2
        · rw [dcT e3, if_pos e3]; rfl
        · rw [dcF e3, if_neg e3]
          exact f24_1_eq m l h10 r (i + 1) fuel (by omega) (by omega)
      · rw [dcF e2, if_pos e2]; rfl
    · rw [dcF e1, if_pos e1]; rfl

theorem f24_eq (m : Nat) (hm : 1001 ≤ m) (l : List Hp) (hl : l.length ≤ 1000) : f24 m l = some (chk l) := by
  unfold f24 chk
  by_cases e : l.length > 10
  · rw [dcT (p := ((l.length : Nat) : Int) > 10) (by omega), if_pos e]; rfl
  · rw [dcF (p := ((l.length : Nat) : Int) > 10) (by omega), if_neg e]
    show (f24_1 m m l ((0 : Nat) : Int)).bind _ = _
    rw [f24_1_eq m l hl l.length 0 m (by omega) (by omega), List.drop_zero]
    show (match ofC24 (chkL l) with | .r v => some v | .x0 => some 0) = _
    unfold ofC24
    split
    · rename_i v hv
      split at hv
      · cases hv
      · cases hv; rfl
    · rename_i hv
      split at hv
      · rename_i e0; rw [e0]
      · cases hv

theorem f59_eq (m : Nat) (hm : 1001 ≤ m) (l : List Hp) (hl : l.length ≤ 1000) (b : Int) : f59 m l b = some (hnd l b) := by
  unfold f59 hnd
  rw [f24_eq m hm l hl, f63_eq]
  show cond (chk l == 0) ((some _).bind _) _ = _
  by_cases e : chk l = 0
  · rw [e, if_pos rfl]
    show some (cond (!decide (1 ≤ b ∧ b ≤ 10)) 1 0) = _
    by_cases e2 : 1 ≤ b ∧ b ≤ 10
    · rw [dcT e2, if_pos e2]; rfl
    · rw [dcF e2, if_neg e2]; rfl
  · have : (chk l == 0) = false := by simp [e]
    rw [this, if_neg e]
    rfl

end Go.Xm
