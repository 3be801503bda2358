/- HeapKeeps: the choice that is kept, on both sides, and the walk. Conditions: none. -/
import Derived.Test.YtfdeihnkoaihfaaBr
import Derived.Test.YtfdeihnkoaihfaaEh
import Derived.Test.YtfdeihnkoaihfaaEk
import Derived.Test.YtfdeihnkoaihfaaAr
namespace Go.Xm
set_option linter.unusedVariables false
set_option linter.unusedSimpArgs false
set_option maxRecDepth 20000

/-- The choice that is kept: index by index. -/
noncomputable def keepL (k : Nat) : List Hp → Nat → List Int → List Hp → List Int
  | [], _, acc, _ => acc
  | h :: l, i, acc, kept => cond (fitsB' k (kept ++ [h])) (keepL k l (i + 1) (acc ++ [(i : Int)]) (kept ++ [h])) (keepL k l (i + 1) acc kept)

theorem OkL.snoc {l : List Hp} {h : Hp} (ho : OkL l) (h1 : 0 ≤ h.1 ∧ h.1 ≤ h.2 ∧ h.2 ≤ 23) : OkL (l ++ [h]) := by
  intro x hx
  rcases List.mem_append.1 hx with hx | hx
  · exact ho x hx
  · rw [List.mem_singleton.1 hx]; exact h1

theorem f34_1_eq (m : Nat) (hm : 1001 ≤ m) (a : List Hp) (h10 : a.length ≤ 10) (b : Int) (k : Nat) (hk : b = (k : Int)) (hk2 : k ≤ 1000) : ∀ (r i fuel : Nat) (acc : List Int) (kept : List Hp), i + r = a.length → r < fuel → acc.length ≤ i → kept.length ≤ i →
    f34_1 m fuel a b (i : Int) acc kept = some (keepL k (a.drop i) i acc kept)
  | 0, i, fuel + 1, acc, kept, hr, hf, h1, h2 => by
    rw [f34_1, dcF (p := (i : Int) < ((a.length : Nat) : Int)) (by omega), List.drop_eq_nil_of_le (by omega)]
    rfl
  | r + 1, i, fuel + 1, acc, kept, hr, hf, h1, h2 => by
    have hi : i < a.length := by omega
    rw [f34_1, dcT (p := (i : Int) < ((a.length : Nat) : Int)) (by omega), fitsI (n := 0 + kept.length) (by omega) (by omega), inR hi, fitsI (n := kept.length + 1) (by omega) (by omega), getDi a hi, nat_succ i (by omega), fitsI (n := acc.length + 1) (by omega) (by omega), List.drop_eq_getElem_cons hi]
    show (f60 m (kept ++ [a[i]]) b).bind _ = _
    rw [f60_eq m hm _ (by simp; omega) b k hk hk2]
    unfold keepL
    cases hb : fitsB' k (kept ++ [a[i]]) with
    | true => exact f34_1_eq m hm a h10 b k hk hk2 r (i + 1) fuel _ _ (by omega) (by omega) (by simp; omega) (by simp; omega)
    | false => exact f34_1_eq m hm a h10 b k hk hk2 r (i + 1) fuel _ _ (by omega) (by omega) (by omega) (by omega)

theorem f33_2_eq (m : Nat) (hm : 1001 ≤ m) (a : List Hp) (h10 : a.length ≤ 10) (ho : OkL a) (b : Int) (k : Nat) (hk : b = (k : Int)) (hk1 : 1 ≤ k) (hk2 : k ≤ 1000) : ∀ (r i fuel : Nat) (acc : List Int) (kept : List Hp), i + r = a.length → r < fuel → acc.length ≤ i → kept.length ≤ i → 1 ≤ acc.length → 1 ≤ kept.length → OkL kept →
    f33_2 m fuel a b ((a.length : Nat) : Int) (i : Int) acc kept = some (keepL k (a.drop i) i acc kept)
  | 0, i, fuel + 1, acc, kept, hr, hf, h1, h2, h3, h4, hok => by
    rw [f33_2, dcF (p := (i : Int) < ((a.length : Nat) : Int)) (by omega), List.drop_eq_nil_of_le (by omega)]
    rfl
  | r + 1, i, fuel + 1, acc, kept, hr, hf, h1, h2, h3, h4, hok => by
    have hi : i < a.length := by omega
    rw [f33_2, dcT (p := (i : Int) < ((a.length : Nat) : Int)) (by omega), inR hi, dcT (p := 1 ≤ kept.length) h4, fitsI (n := kept.length + 1) (by omega) (by omega), getDi a hi, nat_succ i (by omega), dcT (p := 1 ≤ acc.length) h3, fitsI (n := acc.length + 1) (by omega) (by omega), List.drop_eq_getElem_cons hi]
    show (f58 m (kept ++ [a[i]]) b).bind _ = _
    have hok2 := hok.snoc (ho _ (List.getElem_mem hi))
    rw [f58_eq m hm _ b k hk hk2 (by simp; omega) hok2 (.inl hk1)]
    unfold keepL
    cases hb : fitsB' k (kept ++ [a[i]]) with
    | true => exact f33_2_eq m hm a h10 ho b k hk hk1 hk2 r (i + 1) fuel _ _ (by omega) (by omega) (by simp; omega) (by simp; omega) (by simp) (by simp) hok2
    | false => exact f33_2_eq m hm a h10 ho b k hk hk1 hk2 r (i + 1) fuel _ _ (by omega) (by omega) (by omega) (by omega) h3 h4 hok

theorem f33_1_eq (m : Nat) (hm : 1001 ≤ m) (a : List Hp) (h10 : a.length ≤ 10) (ho : OkL a) (b : Int) (k : Nat) (hk : b = (k : Int)) (hk1 : 1 ≤ k) (hk2 : k ≤ 1000) : ∀ (r i fuel : Nat), i + r = a.length → r < fuel →
    f33_1 m fuel a b ((a.length : Nat) : Int) (i : Int) = some (keepL k (a.drop i) i [] [])
  | 0, i, fuel + 1, hr, hf => by
    rw [f33_1, dcF (p := (i : Int) < ((a.length : Nat) : Int)) (by omega), List.drop_eq_nil_of_le (by omega)]
    rfl
  | r + 1, i, fuel + 1, hr, hf => by
    have hi : i < a.length := by omega
    have h1 := ho _ (List.getElem_mem hi)
    have hok : OkL [a[i]] := fun x hx => by rw [List.mem_singleton.1 hx]; exact h1
    rw [f33_1, dcT (p := (i : Int) < ((a.length : Nat) : Int)) (by omega), inR hi, getDi a hi, nat_succ i (by omega), List.drop_eq_getElem_cons hi]
    show (f58 m [a[i]] b).bind _ = _
    rw [f58_eq m hm _ b k hk hk2 (by simp) hok (.inl hk1)]
    unfold keepL
    show (cond (fitsB' k [a[i]]) _ _) = some (cond (fitsB' k [a[i]]) _ _)
    cases hb : fitsB' k [a[i]] with
    | true =>
      show (f33_2 m fuel a b ((a.length : Nat) : Int) ((i + 1 : Nat) : Int) [(i : Int)] [a[i]]).bind _ = _
      cases r with
      | zero =>
        obtain ⟨f, rfl⟩ : ∃ f, fuel = f + 1 := ⟨fuel - 1, by omega⟩
        rw [f33_2_eq m hm a h10 ho b k hk hk1 hk2 0 (i + 1) (f + 1) _ _ (by omega) (by omega) (by simp) (by simp) (by simp) (by simp) hok]
        rfl
      | succ r =>
        rw [f33_2_eq m hm a h10 ho b k hk hk1 hk2 (r + 1) (i + 1) fuel _ _ (by omega) (by omega) (by simp) (by simp) (by simp) (by simp) hok]
        rfl
    | false => exact f33_1_eq m hm a h10 ho b k hk hk1 hk2 r (i + 1) fuel (by omega) (by omega)

/-- Keep, as both sides answer. -/
noncomputable def keepR (l : List Hp) (b : Int) : List Int × Int := if hnd l b ≠ 0 then ([], hnd l b) else (keepL b.toNat l 0 [] [], 0)

theorem f33_eq (m : Nat) (hm : 1001 ≤ m) (l : List Hp) (hl : l.length ≤ 1000) (b : Int) : f33 m l b = some (keepR l b) := by
  unfold f33 keepR
  rw [f57_eq m hm l hl]
  show cond (hnd l b != 0) _ _ = _
  by_cases e : hnd l b = 0
  · rw [if_neg (fun q => q e)]
    have : (hnd l b != 0) = false := by simp [e]
    rw [this]
    obtain ⟨ho, h10, b1, b2⟩ := hnd_ok e
    obtain ⟨k, rfl⟩ : ∃ k : Nat, b = (k : Int) := ⟨b.toNat, by omega⟩
    show (f33_1 m m l (k : Int) _ ((0 : Nat) : Int)).bind _ = _
    rw [f33_1_eq m hm l h10 ho _ k rfl (by omega) (by omega) l.length 0 m (by omega) (by omega), Int.toNat_natCast]
    rfl
  · rw [if_pos e]
    have : (hnd l b != 0) = true := by simp [e]
    rw [this]
    rfl

theorem f34_eq (m : Nat) (hm : 1001 ≤ m) (l : List Hp) (hl : l.length ≤ 1000) (b : Int) : f34 m l b = some (keepR l b) := by
  unfold f34 keepR
  rw [f59_eq m hm l hl]
  show cond (hnd l b != 0) _ _ = _
  by_cases e : hnd l b = 0
  · rw [if_neg (fun q => q e)]
    have : (hnd l b != 0) = false := by simp [e]
    rw [this]
    obtain ⟨ho, h10, b1, b2⟩ := hnd_ok e
    obtain ⟨k, rfl⟩ : ∃ k : Nat, b = (k : Int) := ⟨b.toNat, by omega⟩
    show (f34_1 m m l (k : Int) ((0 : Nat) : Int) [] []).bind _ = _
    rw [f34_1_eq m hm l h10 _ k rfl (by omega) l.length 0 m [] [] (by omega) (by omega) (by simp) (by simp), Int.toNat_natCast]
    rfl
  · rw [if_pos e]
    have : (hnd l b != 0) = true := by simp [e]
    rw [this]
    rfl

theorem keepL_len (k : Nat) : ∀ (l : List Hp) (i : Nat) (acc : List Int) (kept : List Hp), (keepL k l i acc kept).length ≤ acc.length + l.length
  | [], i, acc, kept => Nat.le_refl _
  | h :: l, i, acc, kept => by
    unfold keepL
    cases fitsB' k (kept ++ [h])
    · have := keepL_len k l (i + 1) acc kept
      simp only [cond_false, List.length_cons]; omega
    · have := keepL_len k l (i + 1) (acc ++ [(i : Int)]) (kept ++ [h])
      simp only [cond_true, List.length_cons, List.length_append, List.length_nil] at this ⊢; omega

theorem keepR_len (l : List Hp) (b : Int) : (keepR l b).1.length ≤ l.length := by
  unfold keepR
  split
  · simp
  · have := keepL_len b.toNat l 0 [] []
    simpa using this

theorem f5_true (m : Nat) (hm : 1001 ≤ m) (a : List Hp) (b : Int) : f5 m a b = some true := by
  unfold f5
  by_cases ha : a.length > 60
  · rw [dcT (p := ((a.length : Nat) : Int) > 60) (by omega)]; rfl
  · rw [dcF (p := ((a.length : Nat) : Int) > 60) (by omega)]
    have hl := keepR_len a b
    simp only [cond_false, cond_true, Option.bind_some, f17_eq m hm a (by omega), f33_eq m hm a (by omega), f34_eq m hm a (by omega), f20_same m hm (keepR a b).1 (by omega), beq_self_eq_true]
end Go.Xm

namespace Go.Proofs.Ytfdeihnkoaihfaa.heapKeeps
open Go.Xm Go.RowKit

theorem walk (v0 : Value) (z0 : List (Int × Int)) (a1 : Int) (w : World) (g0 : RowIn w v0 2 (rowC (encQ .i64) z0) z0.length) (_w0 : ∀ z ∈ z0, (Lit.int .i64 z.1).wf = true ∧ (Lit.int .i64 z.2).wf = true) (_w1 : (Lit.int .i64 a1).wf = true) :
    Calls Try.prog 5 #[v0, .int .i64 a1] w fun e w' => e = .returned (.bool true) ∧ Below w.heap.size w w' := by
  have hp : ∀ l : List Value, l.all scal = true → l.all plain = true := fun l h => List.all_eq_true.2 fun v hv => by
    have := List.all_eq_true.1 h v hv
    cases v <;> simp_all [scal, plain]
  exact KC.calls1 (E := E0) (n := z0.length) (by decide) rfl (hp _ (rowC_scal (encQ_ok .i64) z0)) rfl (fun z y => f5_ok 1001 z y z0 a1 true (f5_true 1001 (by omega) z0 a1)) w g0 (Nat.zero_le _) trivial

end Go.Proofs.Ytfdeihnkoaihfaa.heapKeeps
