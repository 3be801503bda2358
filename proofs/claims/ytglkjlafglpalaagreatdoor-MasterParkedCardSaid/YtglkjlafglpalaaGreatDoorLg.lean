/- MasterParked: carts that park one after the other, and bales that come; the walk, as the statement's shell wants it. Conditions: what the rows lay. -/
import Derived.Test.YtglkjlafglpalaaGreatDoorLd
import Derived.Test.YtglkjlafglpalaaGreatDoorPl
import Derived.Test.YtglkjlafglpalaaGreatDoorEz
namespace Go.Xm
open Go.RowKit
set_option linter.unusedVariables false
def fbA (T : List Nat) : Nat → Nat → Option Nat
 | 0, _ => none
 | k + 1, i => if i ∈ T then fbA T k (i + 1) else some i
theorem fbA_some {T : List Nat} : ∀ {k i r : Nat}, fbA T k i = some r → i ≤ r ∧ r < i + k ∧ r ∉ T ∧ ∀ j, i ≤ j → j < r → j ∈ T
 | 0, _, _, h => by cases h
 | k + 1, i, r, h => by
  unfold fbA at h
  split at h
  ·rename_i hi
   obtain ⟨a, b, c, d⟩ := fbA_some h
   refine ⟨by omega, by omega, c, fun j h1 h2 => ?_⟩
   by_cases e : j = i
   ·rw [e]; exact hi
   ·exact d j (by omega) h2
  ·rename_i hi
   cases h
   exact ⟨Nat.le_refl _, by omega, hi, fun j h1 h2 => by omega⟩
theorem fbA_none {T : List Nat} : ∀ {k i : Nat}, fbA T k i = none → ∀ j, i ≤ j → j < i + k → j ∈ T
 | 0, _, _, j, h1, h2 => by omega
 | k + 1, i, h, j, h1, h2 => by
  unfold fbA at h
  split at h
  ·rename_i hi
   by_cases e : j = i
   ·rw [e]; exact hi
   ·exact fbA_none h j (by omega) (by omega)
  ·cases h
def fb (b : Nat) (T : List Nat) (w : Nat) : Option Nat := fbA T (b - w) w
def parkL (b : Nat) : List Nat → List Nat → List (Option Nat)
 | _, [] => []
 | T, w :: ws => match fb b T w with
  | none => none :: parkL b T ws
  | some r => some r :: parkL b (r :: T) ws
def fbM (mask : Nat) : Nat → Nat → Option Nat
 | 0, _ => none
 | k + 1, i => cond (Nat.testBit mask i) (fbM mask k (i + 1)) (some i)
theorem fbM_eq {mask : Nat} {T : List Nat} : ∀ (k i : Nat), (∀ j, i ≤ j → j < i + k → (Nat.testBit mask j = true ↔ j ∈ T)) → fbM mask k i = fbA T k i
 | 0, _, _ => rfl
 | k + 1, i, h => by
  unfold fbM fbA
  have hi := h i (Nat.le_refl _) (by omega)
  have ih := fbM_eq k (i + 1) fun j h1 h2 => h j (by omega) (by omega)
  cases hb : Nat.testBit mask i with
  | true => rw [if_pos (hi.1 hb)]; exact ih
  | false =>
   have : ¬ i ∈ T := fun q => by rw [hi.2 q] at hb; cases hb
   rw [if_neg this]; rfl
def parkX (b mask w : Nat) : Int := andV .u64 (shV true .u64 (shV false .u64 (xorV .u64 18446744073709551615 (mask : Int)) (w : Int)) (w : Int)) (IntKind.wrap .u64 ((shV true .u64 1 (b : Int)) - 1))
def parkOk (b mask w : Nat) : Bool := match fbM mask (b - w) w with
 | none => parkX b mask w == 0
 | some r => !(parkX b mask w == 0) && (match tzS (parkX b mask w) with | some t => decide (t = (r : Int)) && (decide (orV .u64 (mask : Int) (shV true .u64 1 (r : Int)) = ((mask + 2 ^ r : Nat) : Int))) | none => false)
set_option maxRecDepth 100000 in
theorem park_tab : (allN 9 fun b => allN 256 fun mask => !(Nat.blt mask (2 ^ b)) || allN b fun w => parkOk b mask w) = true := by kernel_rfl
theorem park_ok {b mask w : Nat} (hb : b ≤ 8) (hm : mask < 2 ^ b) (hw : w < b) : parkOk b mask w = true := by
 have h256 : (2 : Nat) ^ b ≤ 2 ^ 8 := Nat.pow_le_pow_right (by omega) hb
 have h := allN_spec (allN_spec park_tab b (by omega)) mask (by have : (2 : Nat) ^ 8 = 256 := rfl; omega)
 have hx : Nat.blt mask (2 ^ b) = true := by simpa [Nat.blt_eq] using hm
 rw [hx, Bool.not_true, Bool.false_or] at h
 exact allN_spec h w hw
structure Mask (b mask : Nat) (T : List Nat) : Prop where
 lt : mask < 2 ^ b
 bit : ∀ j, j < b → (Nat.testBit mask j = true ↔ j ∈ T)
theorem bit_tab2 : (allN 256 fun m => allN 8 fun x => allN 8 fun y => Nat.testBit m x || (Nat.testBit (m + 2 ^ x) y == (Nat.testBit m y || Nat.beq x y))) = true := by kernel_rfl
theorem lt_tab2 : (allN 9 fun b => allN 256 fun m => !(Nat.blt m (2 ^ b)) || allN b fun x => Nat.testBit m x || Nat.blt (m + 2 ^ x) (2 ^ b)) = true := by kernel_rfl
theorem Mask.push {b mask : Nat} {T : List Nat} (hb : b ≤ 8) (h : Mask b mask T) {r : Nat} (hr : r < b) (hn : r ∉ T) : Mask b (mask + 2 ^ r) (r :: T) := by
 have h256 : (2 : Nat) ^ b ≤ 2 ^ 8 := Nat.pow_le_pow_right (by omega) hb
 have hm : mask < 256 := by have := h.lt; have : (2 : Nat) ^ 8 = 256 := rfl; omega
 have hf : Nat.testBit mask r = false := by
  cases q : Nat.testBit mask r with
  | false => rfl
  | true => exact absurd ((h.bit r hr).1 q) hn
 refine ⟨?_, fun j hj => ?_⟩
 ·have t := allN_spec (allN_spec lt_tab2 b (by omega)) mask hm
  have hx : Nat.blt mask (2 ^ b) = true := by simpa [Nat.blt_eq] using h.lt
  rw [hx, Bool.not_true, Bool.false_or] at t
  have := allN_spec t r hr
  rw [hf, Bool.false_or] at this
  simpa [Nat.blt_eq] using this
 ·have t := allN_spec (allN_spec (allN_spec bit_tab2 mask hm) r (by omega)) j (by omega)
  rw [hf, Bool.false_or] at t
  have t := eq_of_beq t
  rw [t, Bool.or_eq_true, h.bit j hj, Nat.beq_eq, List.mem_cons]
  exact ⟨fun q => q.elim .inr fun e => .inl e.symm, fun q => q.elim (fun e => .inr e.symm) .inl⟩
def optI : Option Nat → Int
 | some r => (r : Int)
 | none => -1
theorem wish_get {ws : List Nat} {pre : List Nat} {w : Nat} {suf : List Nat} (h : ws = pre ++ w :: suf) (d : Int) : (ws.map Int.ofNat).getD pre.length d = (w : Int) := by
 subst h
 rw [List.map_append, List.map_cons]
 have := getD_mid (pre.map Int.ofNat) (w : Int) d (suf.map Int.ofNat)
 rwa [List.length_map] at this
theorem f43_2_run (m : Nat) {b : Nat} (h8 : b ≤ 8) {ws : List Nat} (hl : ws.length ≤ 8) :
 ∀ (suf pre : List Nat) (fuel mask : Nat) (T : List Nat) (acc : List (Option (Int × Int))), ws = pre ++ suf → suf.length < fuel → (∀ w, w ∈ suf → w < b) → Mask b mask T → acc.length = pre.length →
  ∃ l : List (Option (Int × Int)), f43_2 m fuel (b : Int) (ws.map Int.ofNat) (ws.length : Int) (pre.length : Int) (mask : Int) acc = some (acc ++ l) ∧ l.map (fun o => match o with | some p => p.1 | none => -1) = (parkL b T suf).map optI
 | _, _, 0, _, _, _, _, h, _, _, _ => by omega
 | [], pre, fuel + 1, mask, T, acc, he, _, _, _, _ => by
  have : ws.length = pre.length := by rw [he]; simp
  unfold f43_2
  rw [this, show decide ((pre.length : Int) < (pre.length : Int)) = false from decide_eq_false (by omega)]
  exact ⟨[], by simp, rfl⟩
 | w :: suf, pre, fuel + 1, mask, T, acc, he, hf, hw, hM, ha => by
  have hlen : ws.length = pre.length + (suf.length + 1) := by rw [he]; simp
  have hwb := hw w (List.mem_cons_self ..)
  have hwl : (ws.map Int.ofNat).length = ws.length := List.length_map _
  have ht : Int.toNat (pre.length : Int) = pre.length := rfl
  have hok := park_ok h8 hM.lt hwb
  have hX : andV .u64 (shV true .u64 (shV false .u64 (xorV .u64 18446744073709551615 (mask : Int)) (w : Int)) (w : Int)) (IntKind.wrap .u64 ((shV true .u64 1 (b : Int)) - 1)) = parkX b mask w := rfl
  unfold f43_2
  rw [show decide ((pre.length : Int) < (ws.length : Int)) = true from decide_eq_true (by omega), hwl, inRow_nat (by omega), ht, wish_get he, show decide ((0 : Int) ≤ (w : Int)) = true from decide_eq_true (by omega), show decide ((0 : Int) ≤ (b : Int)) = true from decide_eq_true (by omega), hX, w64_succ (by omega)]
  simp only [cond_true]
  have f1 : fitsB (acc.length + 1) 16 = true := by
   unfold fitsB; rw [Bool.and_eq_true, Nat.ble_eq, Nat.ble_eq]; omega
  have hfb : fbM mask (b - w) w = fb b T w := fbM_eq _ _ fun j h1 h2 => hM.bit j (by omega)
  unfold parkOk at hok
  rw [hfb] at hok
  unfold parkL
  cases hq : fb b T w with
  | none =>
   rw [hq] at hok
   simp only at hok
   rw [hok, cond_true, f1, cond_true]
   obtain ⟨l, l1, l2⟩ := f43_2_run m h8 hl suf (pre ++ [w]) fuel mask T (acc ++ [none]) (by rw [he]; simp) (by simp only [List.length_cons] at hf; omega) (fun x hx => hw x (List.mem_cons_of_mem _ hx)) hM (by simp [ha])
   rw [List.length_append, List.length_singleton] at l1
   exact ⟨none :: l, by rw [l1]; simp, by rw [List.map_cons, l2]; rfl⟩
  | some r =>
   rw [hq] at hok
   simp only [Bool.and_eq_true, Bool.not_eq_true'] at hok
   obtain ⟨o1, o2⟩ := hok
   obtain ⟨q1, q2, q3, q4⟩ := fbA_some hq
   cases hz : tzS (parkX b mask w) with
   | none => rw [hz] at o2; cases o2
   | some t =>
    rw [hz] at o2
    simp only [Bool.and_eq_true, decide_eq_true_eq] at o2
    obtain ⟨rfl, o3⟩ := o2
    rw [o1, cond_false]
    simp only [Option.bind_some]
    rw [show decide ((0 : Int) ≤ (r : Int)) = true from decide_eq_true (by omega), f1, o3, cond_true, cond_true]
    obtain ⟨l, l1, l2⟩ := f43_2_run m h8 hl suf (pre ++ [w]) fuel (mask + 2 ^ r) (r :: T) (acc ++ [some ((r : Int), w64 ((r : Int) - (w : Int)))]) (by rw [he]; simp) (by simp only [List.length_cons] at hf; omega) (fun x hx => hw x (List.mem_cons_of_mem _ hx)) (hM.push h8 (by omega) q3) (by simp [ha])
    rw [List.length_append, List.length_singleton] at l1
    exact ⟨_ :: l, by rw [l1, List.append_assoc]; rfl, by rw [List.map_cons, l2]; rfl⟩
theorem f43_3_run (m : Nat) {bs0 : List Int} {l : List (Option (Int × Int))} (hl : l.length ≤ 8) :
 ∀ (suf pre : List (Option (Int × Int))) (fuel : Nat) (acc : List Int), l = pre ++ suf → suf.length < fuel → acc.length = pre.length →
  f43_3 m fuel bs0 l (l.length : Int) (pre.length : Int) acc = some (acc ++ suf.map (fun o => match o with | some p => p.1 | none => -1))
 | _, _, 0, _, _, h, _ => by omega
 | [], pre, fuel + 1, acc, he, _, _ => by
  have : l.length = pre.length := by rw [he]; simp
  unfold f43_3
  rw [this, show decide ((pre.length : Int) < (pre.length : Int)) = false from decide_eq_false (by omega)]
  simp
 | o :: suf, pre, fuel + 1, acc, he, hf, ha => by
  have hlen : l.length = pre.length + (suf.length + 1) := by rw [he]; simp
  have ht : Int.toNat (pre.length : Int) = pre.length := rfl
  have hg : l.getD pre.length none = o := by rw [he]; exact getD_mid pre o _ suf
  have f1 : fitsB (acc.length + 1) 8 = true := by
   unfold fitsB; rw [Bool.and_eq_true, Nat.ble_eq, Nat.ble_eq]; omega
  unfold f43_3
  rw [show decide ((pre.length : Int) < (l.length : Int)) = true from decide_eq_true (by omega), inRow_nat (by omega), ht, hg, f1, w64_succ (by omega)]
  simp only [cond_true]
  have ih := fun x => f43_3_run m (bs0 := bs0) hl suf (pre ++ [o]) fuel (acc ++ [x]) (by rw [he]; simp) (by simp only [List.length_cons] at hf; omega) (by simp [ha])
  rw [List.length_append, List.length_singleton] at ih
  cases o with
  | none =>
   show f43_3 m fuel bs0 l _ _ (acc ++ [-1]) = _
   rw [ih]; simp
  | some p =>
   show f43_3 m fuel bs0 l _ _ (acc ++ [p.1]) = _
   rw [ih]; simp
theorem f43_1_run (m : Nat) {b : Nat} (h1 : 1 ≤ b) {ws : List Nat} (hw : ∀ w, w ∈ ws → w < b) (hl : ws.length ≤ 8) :
 ∀ (suf pre : List Nat) (fuel : Nat), ws = pre ++ suf → suf.length < fuel → ∃ x, f43_1 m fuel (ws.map Int.ofNat) (ws.length : Int) (pre.length : Int) ((b : Int) - 1) = some x
 | _, _, 0, _, h => by omega
 | [], pre, fuel + 1, he, _ => by
  have : ws.length = pre.length := by rw [he]; simp
  unfold f43_1
  rw [this, show decide ((pre.length : Int) < (pre.length : Int)) = false from decide_eq_false (by omega)]
  exact ⟨_, rfl⟩
 | w :: suf, pre, fuel + 1, he, hf => by
  have hlen : ws.length = pre.length + (suf.length + 1) := by rw [he]; simp
  have hwb := hw w (by rw [he]; simp)
  have hwl : (ws.map Int.ofNat).length = ws.length := List.length_map _
  have ht : Int.toNat (pre.length : Int) = pre.length := rfl
  unfold f43_1
  rw [show decide ((pre.length : Int) < (ws.length : Int)) = true from decide_eq_true (by omega), hwl, inRow_nat (by omega), ht, wish_get he, show decide ((0 : Int) ≤ (w : Int)) = true from decide_eq_true (by omega), show decide ((w : Int) ≤ (b : Int) - 1) = true from decide_eq_true (by omega), w64_succ (by omega)]
  simp only [cond_true, Bool.not_true, cond_false]
  have ih := f43_1_run m h1 hw hl suf (pre ++ [w]) fuel (by rw [he]; simp) (by simp only [List.length_cons] at hf; omega)
  rwa [List.length_append, List.length_singleton] at ih
theorem parkL_len (b : Nat) : ∀ (ws T : List Nat), (parkL b T ws).length = ws.length
 | [], _ => rfl
 | w :: ws, T => by
  unfold parkL
  split <;> simp [parkL_len b ws]
theorem f43_run {m : Nat} (hm : 20 ≤ m) {b : Nat} (h1 : 1 ≤ b) (h8 : b ≤ 8) {ws : List Nat} (hw : ∀ w, w ∈ ws → w < b) (hl : ws.length ≤ b) : f43 m (b : Int) (ws.map Int.ofNat) = some ((parkL b [] ws).map optI, 0) := by
 have hwl : (ws.map Int.ofNat).length = ws.length := List.length_map _
 obtain ⟨x, hx⟩ := f43_1_run m h1 hw (by omega) ws [] m rfl (by omega)
 have hx : f43_1 m m (ws.map Int.ofNat) (ws.length : Int) 0 ((b : Int) - 1) = some x := hx
 have hM : Mask b 0 [] := ⟨Nat.two_pow_pos b, fun j _ => by simp⟩
 obtain ⟨l, l1, l2⟩ := f43_2_run m h8 (ws := ws) (by omega) ws [] m 0 [] [] rfl (by omega) hw hM rfl
 have l1 : f43_2 m m (b : Int) (ws.map Int.ofNat) (ws.length : Int) 0 0 [] = some l := l1
 have hll : l.length = ws.length := by
  have := congrArg List.length l2
  simpa [parkL_len] using this
 have r8 := f43_3_run m (bs0 := ws.map Int.ofNat) (l := l) (by omega) l [] m [] rfl (by omega) rfl
 have r8 : f43_3 m m (ws.map Int.ofNat) l (l.length : Int) 0 [] = some (l.map (fun o => match o with | some p => p.1 | none => -1)) := r8
 unfold f43
 rw [show decide ((1 : Int) ≤ (b : Int)) = true from decide_eq_true (by omega), show decide ((b : Int) ≤ 8) = true from decide_eq_true (by omega), hwl, show decide ((ws.length : Int) > (b : Int)) = false from decide_eq_false (by omega), show w64 ((b : Int) - 1) = (b : Int) - 1 from w64_in (by omega) (by omega)]
 simp only [cond_true, Bool.not_true, cond_false]
 rw [hx]
 simp only [Option.bind_some]
 rw [l1]
 simp only [Option.bind_some]
 rw [r8, l2]
 rfl
def nm8 (j : Nat) : ByteArray := strN [IntKind.wrap .u8 (97 + (IntKind.wrap .u8 (j : Int)))]
def ln8 (j w : Nat) : ByteArray := catS (catS (catS (bs [98, 97, 108, 101, 32]) (nm8 j)) (bs [32, 55, 32])) (itoaV (w : Int))
def ln8Ok (j w : Nat) : Bool := (match f53 300 (ln8 j w) with | some d => eqD d (.arrive (nm8 j) 7 w) | none => false) &&
 (Nat.ble ((bs [98, 97, 108, 101, 32]).size + (nm8 j).size) 9223372036854775807 && (Nat.ble ((catS (bs [98, 97, 108, 101, 32]) (nm8 j)).size + (bs [32, 55, 32]).size) 9223372036854775807 && (okI (w : Int) &&
 Nat.ble ((catS (catS (bs [98, 97, 108, 101, 32]) (nm8 j)) (bs [32, 55, 32])).size + (itoaV (w : Int)).size) 9223372036854775807)))
set_option maxRecDepth 100000 in
theorem ln8_tab : (allN 8 fun j => allN 8 fun w => ln8Ok j w) = true := by kernel_rfl
theorem nm8_tab : (allN 8 fun i => allN 8 fun k => !(sameB (nm8 i) (nm8 k)) || Nat.beq i k) = true := by kernel_rfl
theorem nm8_inj {i k : Nat} (hi : i < 8) (hk : k < 8) (h : nm8 i = nm8 k) : i = k := by
 have := allN_spec (allN_spec nm8_tab i hi) k hk
 have h2 : sameB (nm8 i) (nm8 k) = true := by rw [h]; unfold sameB; exact beq_self_eq_true _
 rw [h2, Bool.not_true, Bool.false_or] at this
 exact Nat.eq_of_beq_eq_true this
def balZ (Z : List (Nat × Nat)) : List (ByteArray × Bl) := Z.map fun p => (nm8 p.1, nm8 p.1, (p.2 : Int), 7)
def mapZ (Z : List (Nat × Nat)) : List (ByteArray × Int) := Z.map fun p => (nm8 p.1, (p.2 : Int))
structure PI (b i : Nat) (Z : List (Nat × Nat)) (T : List Nat) (s : BkS) : Prop where
 bays : s.now.bays = (b : Int)
 bal : s.now.bales = balZ Z
 came : ∃ c : Nat, s.now.came = (c : Int) ∧ c ≤ 7 * i
 l1 : s.lines.length ≤ i
 l2 : s.before.length ≤ i
 lt : ∀ p, p ∈ Z → p.1 < i ∧ p.2 < b
 nd : (Z.map Prod.fst).Nodup
 nd2 : (Z.map Prod.snd).Nodup
 mem : ∀ r, r ∈ T ↔ r ∈ Z.map Prod.snd
theorem PI.names {b i : Nat} {Z : List (Nat × Nat)} {T : List Nat} {s : BkS} (h : PI b i Z T s) (hi : i < 8) : hasS (balZ Z) (nm8 i) = false ∧ hasS (mapZ Z) (nm8 i) = false := by
 have key : ∀ {α : Type} (f : Nat × Nat → ByteArray × α), (∀ p, (f p).1 = nm8 p.1) → hasS (Z.map f) (nm8 i) = false := fun f hf => by
  cases q : hasS (Z.map f) (nm8 i) with
  | false => rfl
  | true =>
   have := hasS_iff.1 q
   rw [List.map_map] at this
   obtain ⟨p, hp, e⟩ := List.mem_map.1 this
   have e : (f p).1 = nm8 i := e
   rw [hf] at e
   have hl := (h.lt p hp).1
   have := nm8_inj (by omega) hi e
   omega
 exact ⟨key _ fun _ => rfl, key _ fun _ => rfl⟩
theorem park_tell {b i : Nat} (h1 : 1 ≤ b) (h8 : b ≤ 8) {Z : List (Nat × Nat)} {T : List Nat} {s : BkS} (h : PI b i Z T s) (hi : i < 8) {w : Nat} (hw : w < b) :
 ∃ e s', tellS 300 s (ln8 i w) = some (e, s') ∧ match fb b T w with
  | none => e = 12 ∧ PI b (i + 1) Z T s'
  | some r => e = 0 ∧ PI b (i + 1) (Z ++ [(i, r)]) (r :: T) s' := by
 have hb : (s.now.bays == 0) = false := by
  rw [h.bays]
  have : ((b : Int)) ≠ 0 := by omega
  simpa using this
 have hd : f53 300 (ln8 i w) = some (.arrive (nm8 i) 7 w) := by
  have := allN_spec (allN_spec ln8_tab i hi) w (by omega)
  unfold ln8Ok at this
  simp only [Bool.and_eq_true] at this
  have t := this.1
  split at t
  ·rename_i d hd; rw [hd, eqD_eq t]
  ·cases t
 have hs : tellS 300 s (ln8 i w) = someS 300 s (ln8 i w) (.arrive (nm8 i) 7 w) := by
  unfold tellS
  rw [hb, cond_false, hd]
  rfl
 obtain ⟨c, c1, c2⟩ := h.came
 have hll := h.l1
 have hbl := h.l2
 have e0 : (((s.lines.length : Nat) : Int) == 200) = false := by
  have : ((s.lines.length : Nat) : Int) ≠ 200 := by omega
  simpa using this
 have hbays : s.now.bales.map (fun p => p.2.2.1) = Z.map fun p => ((p.2 : Nat) : Int) := by rw [h.bal]; unfold balZ; rw [List.map_map]; rfl
 have hmem : ∀ x : Nat, ((x : Int) ∈ s.now.bales.map (fun p => p.2.2.1)) ↔ x ∈ T := fun x => by
  rw [hbays, h.mem, List.mem_map, List.mem_map]
  constructor
  ·rintro ⟨p, hp, e⟩; exact ⟨p, hp, by omega⟩
  ·rintro ⟨p, hp, e⟩; exact ⟨p, hp, by omega⟩
 have hnd : (s.now.bales.map (fun p => p.2.2.1)).Nodup := by
  rw [hbays]
  have := h.nd2
  rw [List.nodup_iff_pairwise_ne, List.pairwise_map] at this ⊢
  exact this.imp fun q e => q (by omega)
 have hrg : ∀ x ∈ s.now.bales.map (fun p => p.2.2.1), 0 ≤ x ∧ x < (b : Int) := fun x hx => by
  rw [hbays] at hx
  obtain ⟨p, hp, rfl⟩ := List.mem_map.1 hx
  have := (h.lt p hp).2
  omega
 obtain ⟨r, hr1, hr2⟩ := free_some h1 h8 hnd hrg hw
 rw [hs]
 unfold someS
 rw [e0, cond_false]
 unfold doS
 simp only
 rw [show decide ((7 : Int) < 1) = false from rfl, show decide ((7 : Int) > 999) = false from rfl, h.bal, (h.names hi).1, cond_false, cond_false, cond_false, h.bays, ← h.bal, hr1]
 simp only [Option.bind_some]
 unfold firstB at hr2
 cases hq : fb b T w with
 | none =>
  have hall := fbA_none hq
  cases hz : (r.2 == 0) with
  | true =>
   rw [hz, cond_true] at hr2
   simp only [Bool.and_eq_true, Bool.not_eq_true', decide_eq_true_eq, Nat.blt_eq, Nat.ble_eq] at hr2
   obtain ⟨a1, a2, a3, a4, _⟩ := hr2
   have := hall r.1.toNat a1 (by omega)
   rw [← hmem, show ((r.1.toNat : Nat) : Int) = r.1 by omega] at this
   exact absurd this (not_in_contains a4)
  | false =>
   rw [hz, cond_false] at hr2
   simp only [Bool.and_eq_true] at hr2
   have e12 : r.2 = 12 := eq_of_beq hr2.1
   rw [cond_false]
   simp only [Option.bind_some]
   unfold endN
   rw [e12, show ((12 : Int) != 0) = true from rfl, cond_true]
   exact ⟨_, _, rfl, rfl, ⟨h.bays, h.bal, ⟨c, c1, by omega⟩, by omega, by omega, fun p hp => ⟨by have := (h.lt p hp).1; omega, (h.lt p hp).2⟩, h.nd, h.nd2, h.mem⟩⟩
 | some r' =>
  obtain ⟨q1, q2, q3, q4⟩ := fbA_some hq
  cases hz : (r.2 == 0) with
  | false =>
   rw [hz, cond_false] at hr2
   simp only [Bool.and_eq_true] at hr2
   have := allN_spec hr2.2 r' (by omega)
   rw [show Nat.ble w r' = true by rw [Nat.ble_eq]; exact q1, Bool.not_true, Bool.false_or] at this
   have hin : ((r' : Nat) : Int) ∈ s.now.bales.map (fun p => p.2.2.1) := by simpa using this
   exact absurd ((hmem r').1 hin) q3
  | true =>
   rw [hz, cond_true] at hr2
   simp only [Bool.and_eq_true, Bool.not_eq_true', decide_eq_true_eq, Nat.blt_eq, Nat.ble_eq] at hr2
   obtain ⟨a1, a2, a3, a4, a5⟩ := hr2
   have hr0 : r.1 = ((r.1.toNat : Nat) : Int) := by omega
   have hnr : r.1.toNat ∉ T := fun q => by
    rw [← hmem, ← hr0] at q
    exact absurd q (not_in_contains a4)
   have e1 : r.1.toNat = r' := by
    rcases Nat.lt_trichotomy r.1.toNat r' with q | q | q
    ·exact absurd (q4 _ a1 q) hnr
    ·exact q
    ·have := allN_spec a5 r' (by omega)
     rw [show Nat.ble w r' = true by rw [Nat.ble_eq]; exact q1, show Nat.blt r' r.1.toNat = true by rw [Nat.blt_eq]; exact q, Bool.and_self, Bool.not_true, Bool.false_or] at this
     have hin : ((r' : Nat) : Int) ∈ s.now.bales.map (fun p => p.2.2.1) := by simpa using this
     exact absurd ((hmem r').1 hin) q3
   have e2 : r.1 = (r' : Int) := by rw [hr0, e1]
   have e0' : r.2 = 0 := eq_of_beq hz
   rw [cond_true]
   simp only [Option.bind_some]
   unfold endN
   have f1 : fitsB (s.before.length + 1) 80 = true := by
    unfold fitsB; rw [Bool.and_eq_true, Nat.ble_eq, Nat.ble_eq]; omega
   have f2 : fitsB (s.lines.length + 1) 16 = true := by
    unfold fitsB; rw [Bool.and_eq_true, Nat.ble_eq, Nat.ble_eq]; omega
   rw [e0', show ((0 : Int) != 0) = false from rfl, f1, f2, cond_false, cond_true, cond_true]
   have hput : putS s.now.bales (nm8 i) (nm8 i, r.1, 7) = balZ (Z ++ [(i, r')]) := by
    rw [h.bal, putS_new (h.names hi).1, e2]
    unfold balZ
    rw [List.map_append]; rfl
   refine ⟨_, _, rfl, rfl, ⟨rfl, hput, ⟨c + 7, ?_, by omega⟩, ?_, ?_, fun p hp => ?_, ?_, ?_, fun x => ?_⟩⟩
   ·show w64 (s.now.came + 7) = _
    rw [c1]; exact w64_in (by omega) (by omega)
   ·show (s.lines ++ [_]).length ≤ _
    rw [List.length_append, List.length_singleton]; omega
   ·show (s.before ++ [_]).length ≤ _
    rw [List.length_append, List.length_singleton]; omega
   ·rcases List.mem_append.1 hp with q | q
    ·have := h.lt p q; exact ⟨by omega, this.2⟩
    ·rw [List.mem_singleton.1 q]; exact ⟨Nat.lt_succ_self i, by show r' < b; omega⟩
   ·rw [List.map_append]
    refine List.nodup_append.2 ⟨h.nd, by simp, fun x hx y hy e => ?_⟩
    have hy : y = i := by simpa using hy
    obtain ⟨p, hp, rfl⟩ := List.mem_map.1 hx
    have := (h.lt p hp).1
    omega
   ·rw [List.map_append]
    refine List.nodup_append.2 ⟨h.nd2, by simp, fun x hx y hy e => ?_⟩
    have hy : y = r' := by simpa using hy
    rw [e, hy] at hx
    exact q3 ((h.mem r').2 hx)
   ·rw [List.mem_cons, h.mem, List.map_append, List.mem_append]
    constructor
    ·rintro (rfl | q)
     ·exact .inr (by simp)
     ·exact .inl q
    ·rintro (q | q)
     ·exact .inr q
     ·exact .inl (by simpa using q)
theorem f12_2_run {b : Nat} (h1 : 1 ≤ b) (h8 : b ≤ 8) {ws : List Nat} (hl : ws.length ≤ 8) {P : List Int} (hP : P = (parkL b [] ws).map optI) :
 ∀ (suf pre : List Nat) (fuel : Nat) (Z : List (Nat × Nat)) (T : List Nat) (s : BkS), ws = pre ++ suf → suf.length < fuel → (∀ w, w ∈ suf → w < b) → PI b pre.length Z T s → (∃ Q, P = Q ++ (parkL b T suf).map optI ∧ Q.length = pre.length) →
  ∃ s' Z' T', f12_2 300 fuel (ws.length : Int) (pre.length : Int) s P (mapZ Z) (ws.map Int.ofNat) = some (s', mapZ Z') ∧ PI b ws.length Z' T' s'
 | _, _, 0, _, _, _, _, h, _, _, _ => by omega
 | [], pre, fuel + 1, Z, T, s, he, _, _, hI, _ => by
  have : ws.length = pre.length := by rw [he]; simp
  unfold f12_2
  rw [this, show decide ((pre.length : Int) < (pre.length : Int)) = false from decide_eq_false (by omega)]
  exact ⟨s, Z, T, rfl, hI⟩
 | w :: suf, pre, fuel + 1, Z, T, s, he, hf, hw, hI, ⟨Q, hQ, hQl⟩ => by
  have hlen : ws.length = pre.length + (suf.length + 1) := by rw [he]; simp
  have hwb := hw w (List.mem_cons_self ..)
  have hi : pre.length < 8 := by omega
  have hwl : (ws.map Int.ofNat).length = ws.length := List.length_map _
  have hPl : P.length = ws.length := by rw [hP, List.length_map, parkL_len]
  have ht : Int.toNat (pre.length : Int) = pre.length := rfl
  obtain ⟨e, s', t1, t2⟩ := park_tell h1 h8 hI hi hwb
  have h8t := allN_spec (allN_spec ln8_tab pre.length hi) w (by omega)
  unfold ln8Ok at h8t
  simp only [Bool.and_eq_true] at h8t
  obtain ⟨_, g1, g2, g3, g4⟩ := h8t
  have t1 : tellS 300 s (catS (catS (catS (bs [98, 97, 108, 101, 32]) (nm8 pre.length)) (bs [32, 55, 32])) (itoaV (w : Int))) = some (e, s') := t1
  have hnm : strN [IntKind.wrap .u8 (97 + (IntKind.wrap .u8 (pre.length : Int)))] = nm8 pre.length := rfl
  unfold f12_2
  rw [show decide ((pre.length : Int) < (ws.length : Int)) = true from decide_eq_true (by omega), hwl, hPl, inRow_nat (by omega), ht, wish_get he, hnm, g1, g2, g3, g4, t1, w64_succ (by omega)]
  simp only [cond_true, Option.bind_some]
  unfold parkL at hQ
  cases hq : fb b T w with
  | none =>
   rw [hq] at t2 hQ
   simp only [List.map_cons] at t2 hQ
   obtain ⟨rfl, hI'⟩ := t2
   have hg : P.getD pre.length 0 = -1 := by rw [hQ, ← hQl]; exact getD_mid Q _ _ _
   rw [hg]
   have hI' : PI b (pre ++ [w]).length Z T s' := by rw [List.length_append, List.length_singleton]; exact hI'
   obtain ⟨s2, Z2, T2, r1, r2⟩ := f12_2_run h1 h8 hl hP suf (pre ++ [w]) fuel Z T s' (by rw [he]; simp) (by simp only [List.length_cons] at hf; omega) (fun x hx => hw x (List.mem_cons_of_mem _ hx)) hI' ⟨Q ++ [-1], by rw [hQ]; simp [optI], by simp [hQl]⟩
   rw [List.length_append, List.length_singleton] at r1
   exact ⟨s2, Z2, T2, r1, r2⟩
  | some r =>
   rw [hq] at t2 hQ
   simp only [List.map_cons] at t2 hQ
   obtain ⟨rfl, hI'⟩ := t2
   have hg : P.getD pre.length 0 = (r : Int) := by rw [hQ, ← hQl]; exact getD_mid Q _ _ _
   rw [hg, show decide ((r : Int) < 0) = false from decide_eq_false (by omega)]
   have hput : putS (mapZ Z) (nm8 pre.length) (r : Int) = mapZ (Z ++ [(pre.length, r)]) := by
    rw [putS_new (hI.names hi).2]
    unfold mapZ
    rw [List.map_append]; rfl
   rw [hput]
   have hI' : PI b (pre ++ [w]).length (Z ++ [(pre.length, r)]) (r :: T) s' := by rw [List.length_append, List.length_singleton]; exact hI'
   obtain ⟨s2, Z2, T2, r1, r2⟩ := f12_2_run h1 h8 hl hP suf (pre ++ [w]) fuel _ _ s' (by rw [he]; simp) (by simp only [List.length_cons] at hf; omega) (fun x hx => hw x (List.mem_cons_of_mem _ hx)) hI' ⟨Q ++ [(r : Int)], by rw [hQ]; simp [optI], by simp [hQl]⟩
   rw [List.length_append, List.length_singleton] at r1
   exact ⟨s2, Z2, T2, r1, r2⟩
theorem mapZ_get {Z : List (Nat × Nat)} (hn : (Z.map Prod.fst).Nodup) (h8 : ∀ p, p ∈ Z → p.1 < 8) {p : Nat × Nat} (hp : p ∈ Z) : hasS (mapZ Z) (nm8 p.1) = true ∧ getS 0 (mapZ Z) (nm8 p.1) = (p.2 : Int) := by
 induction Z with
 | nil => cases hp
 | cons q Z ih =>
  rw [List.map_cons, List.nodup_cons] at hn
  show (if (nm8 q.1) = nm8 p.1 then true else hasS (mapZ Z) (nm8 p.1)) = true ∧ (if (nm8 q.1) = nm8 p.1 then (q.2 : Int) else getS 0 (mapZ Z) (nm8 p.1)) = (p.2 : Int)
  by_cases e : nm8 q.1 = nm8 p.1
  ·have e1 := nm8_inj (h8 q (List.mem_cons_self ..)) (h8 p hp) e
   rcases List.mem_cons.1 hp with rfl | hp
   ·rw [if_pos rfl, if_pos rfl]; exact ⟨rfl, rfl⟩
   ·exact absurd (List.mem_map.2 ⟨p, hp, e1.symm⟩) hn.1
  ·rw [if_neg e, if_neg e]
   rcases List.mem_cons.1 hp with rfl | hp
   ·exact absurd rfl e
   ·exact ih hn.2 (fun x hx => h8 x (List.mem_cons_of_mem _ hx)) hp
theorem f12_3_run (m : Nat) {Z : List (Nat × Nat)} (hn : (Z.map Prod.fst).Nodup) (h8 : ∀ p, p ∈ Z → p.1 < 8) {R : List Bl} (hR : ∀ z, z ∈ R → ∃ p, p ∈ Z ∧ z = (nm8 p.1, (p.2 : Int), 7)) (hl : R.length ≤ 8) :
 ∀ (suf pre : List Bl) (fuel : Nat), R = pre ++ suf → suf.length < fuel → f12_3 m fuel (R.length : Int) (pre.length : Int) (mapZ Z) R = some (mapZ Z, R)
 | _, _, 0, _, h => by omega
 | [], pre, fuel + 1, he, _ => by
  have : R.length = pre.length := by rw [he]; simp
  unfold f12_3
  rw [this, show decide ((pre.length : Int) < (pre.length : Int)) = false from decide_eq_false (by omega)]
  rfl
 | z :: suf, pre, fuel + 1, he, hf => by
  have hlen : R.length = pre.length + (suf.length + 1) := by rw [he]; simp
  obtain ⟨p, hp, hz⟩ := hR z (by rw [he]; simp)
  obtain ⟨a1, a2⟩ := mapZ_get hn h8 hp
  have ht : Int.toNat (pre.length : Int) = pre.length := rfl
  have hg : R.getD pre.length ((bs []), 0, 0) = z := by rw [he]; exact getD_mid pre z _ suf
  unfold f12_3
  rw [show decide ((pre.length : Int) < (R.length : Int)) = true from decide_eq_true (by omega), inRow_nat (by omega), ht, hg, hz]
  simp only [cond_true]
  rw [a1, a2, Bool.not_true, cond_false, bne_self_eq_false, cond_false, bne_self_eq_false, cond_false, w64_succ (by omega)]
  have ih := f12_3_run m hn h8 hR hl suf (pre ++ [z]) fuel (by rw [he]; simp) (by simp only [List.length_cons] at hf; omega)
  rwa [List.length_append, List.length_singleton] at ih
theorem f12_1_run (m : Nat) {b : Nat} (h1 : 1 ≤ b) {vs : List Nat} (h8 : vs.length = 8) (hv : ∀ v, v ∈ vs → v < 256) {s : BkS} {n : Nat} (hn : n ≤ 8) :
 ∀ (k i fuel : Nat), i + k = n → k < fuel → f12_1 m fuel (b : Int) (n : Int) (i : Int) (vs.map Int.ofNat) s (((vs.take i).map (· % b)).map Int.ofNat) = some ((b : Int), s, ((vs.take n).map (· % b)).map Int.ofNat)
 | _, _, 0, _, h => by omega
 | 0, i, fuel + 1, hi, _ => by
  obtain rfl : i = n := by omega
  unfold f12_1
  rw [show decide ((i : Int) < (i : Int)) = false from decide_eq_false (by omega)]
  rfl
 | k + 1, i, fuel + 1, hi, hf => by
  have hil : i < vs.length := by omega
  have ht : Int.toNat (i : Int) = i := rfl
  have hg : (vs.map Int.ofNat).getD i 0 = ((vs[i] : Nat) : Int) := by rw [getD_get (by rw [List.length_map]; exact hil)]; simp
  have hb : ((b : Int) != 0) = true := by
   have : (b : Int) ≠ 0 := by omega
   simpa using this
  have f1 : fitsB ((((vs.take i).map (· % b)).map Int.ofNat).length + 1) 8 = true := by
   unfold fitsB; rw [Bool.and_eq_true, Nat.ble_eq, Nat.ble_eq, List.length_map, List.length_map, List.length_take]; omega
  have hm : Int.tmod (w64 ((vs[i] : Nat) : Int)) (b : Int) = ((vs[i] % b : Nat) : Int) := by
   rw [w64_small (hv _ (List.getElem_mem hil))]; rfl
  have ha : ((vs.take i).map (· % b)).map Int.ofNat ++ [((vs[i] % b : Nat) : Int)] = ((vs.take (i + 1)).map (· % b)).map Int.ofNat := by
   rw [List.take_add_one, List.getElem?_eq_getElem hil, List.map_append, List.map_append]
   rfl
  unfold f12_1
  rw [show decide ((i : Int) < (n : Int)) = true from decide_eq_true (by omega), inRow_nat (by omega), ht, hg, hb, f1, hm, ha, w64_succ (by omega), show decide (i < (vs.map Int.ofNat).length) = true from decide_eq_true (by rw [List.length_map]; exact hil)]
  simp only [cond_true]
  exact f12_1_run m h1 h8 hv hn k (i + 1) fuel (by omega) (by omega)
theorem f12_true {A C : Nat} (hA : A < 256) (hC : C < 256) {vs : List Nat} (h8 : vs.length = 8) (hv : ∀ v, v ∈ vs → v < 256) {b0 b1 b2 b3 b4 b5 b6 b7 : Int} (hvs : [b0, b1, b2, b3, b4, b5, b6, b7] = vs.map Int.ofNat) :
 f12 300 (A : Int) b0 b1 b2 b3 b4 b5 b6 b7 (C : Int) = some true := by
 obtain ⟨b, hb⟩ : ∃ b, b = 1 + A % 8 := ⟨_, rfl⟩
 have h1 : 1 ≤ b := by omega
 have hb8 : b ≤ 8 := by omega
 have hbw : w64 (1 + Int.tmod (w64 (A : Int)) 8) = (b : Int) := by rw [bays_w hA, hb]
 have hN : okN (b : Int) = true := by
  unfold okN
  rw [decide_eq_false (by omega), decide_eq_false (by omega)]; rfl
 have hn : Int.tmod (w64 (C : Int)) (w64 ((b : Int) + 1)) = ((C % (b + 1) : Nat) : Int) := by
  rw [w64_small hC, w64_succ (by omega)]; rfl
 have hnle : C % (b + 1) ≤ b := by have := Nat.mod_lt C (show 0 < b + 1 by omega); omega
 have r1 := f12_1_run 300 h1 h8 hv (s := newS (b : Int)) (n := C % (b + 1)) (by omega) (C % (b + 1)) 0 300 (by omega) (by omega)
 have r1 : f12_1 300 300 (b : Int) ((C % (b + 1) : Nat) : Int) 0 (vs.map Int.ofNat) (newS (b : Int)) [] = some ((b : Int), newS (b : Int), ((vs.take (C % (b + 1))).map (· % b)).map Int.ofNat) := r1
 obtain ⟨ws, hws⟩ : ∃ ws, ws = (vs.take (C % (b + 1))).map (· % b) := ⟨_, rfl⟩
 have hwl : ws.length ≤ b := by rw [hws, List.length_map, List.length_take]; omega
 have hww : ∀ w, w ∈ ws → w < b := fun w hw => by
  rw [hws] at hw
  obtain ⟨v, _, rfl⟩ := List.mem_map.1 hw
  exact Nat.mod_lt _ (by omega)
 rw [← hws] at r1
 have r43 := f43_run (m := 300) (by omega) h1 hb8 hww hwl
 have hI0 : PI b ([] : List Nat).length [] [] (newS (b : Int)) := ⟨rfl, rfl, ⟨0, rfl, by omega⟩, Nat.le_refl _, Nat.le_refl _, fun p hp => (by cases hp), List.nodup_nil, List.nodup_nil, fun r => (by simp)⟩
 obtain ⟨s', Z, T, r2, hI⟩ := f12_2_run h1 hb8 (ws := ws) (by omega) (P := (parkL b [] ws).map optI) rfl ws [] 300 [] [] (newS (b : Int)) rfl (by omega) hww hI0 ⟨[], rfl, rfl⟩
 have r2 : f12_2 300 300 (ws.length : Int) 0 (newS (b : Int)) ((parkL b [] ws).map optI) [] (ws.map Int.ofNat) = some (s', mapZ Z) := r2
 -- the bales
 have hbal : s'.now.bales.map (·.2) = Z.map fun p => (nm8 p.1, (p.2 : Int), (7 : Int)) := by rw [hI.bal]; unfold balZ; rw [List.map_map]; rfl
 have hbay : (s'.now.bales.map (·.2)).map (fun x => x.2.1) = Z.map fun p => ((p.2 : Nat) : Int) := by rw [hbal, List.map_map]; rfl
 have hnd : ((s'.now.bales.map (·.2)).map (fun x => x.2.1)).Nodup := by
  rw [hbay]
  have := hI.nd2
  rw [List.nodup_iff_pairwise_ne, List.pairwise_map] at this ⊢
  exact this.imp fun q e => q (by omega)
 have hrg : ∀ x ∈ (s'.now.bales.map (·.2)).map (fun x => x.2.1), 0 ≤ x ∧ x < (b : Int) := fun x hx => by
  rw [hbay] at hx
  obtain ⟨p, hp, rfl⟩ := List.mem_map.1 hx
  have := (hI.lt p hp).2
  omega
 have hZ8 : Z.length ≤ 8 := by
  have := nodup_lenB b _ hnd hrg
  rw [hbay, List.length_map] at this
  omega
 have hpm := sortB_perm (s'.now.bales.map (·.2))
 have hRl : (sortB (s'.now.bales.map (·.2))).length = Z.length := by rw [hpm.length_eq, hbal, List.length_map]
 have hbales : balesS 300 s' = some (sortB (s'.now.bales.map (·.2))) := by
  unfold balesS
  have h0 : (s'.now.bays == 0) = false := by
   rw [hI.bays]
   have : ((b : Int)) ≠ 0 := by omega
   simpa using this
  rw [h0, cond_false]
  have : (Nat.ble 20 300 && okL (s'.now.bales.map (·.2))) = true := by
   simp only [okL, okBays, Bool.and_eq_true, Nat.ble_eq, List.all_eq_true, decide_eq_true_eq, List.length_map]
   refine ⟨by omega, ?_, fun x hx => ?_, hnd⟩
   ·have := congrArg List.length hbal
    simp only [List.length_map] at this
    omega
   ·have := hrg x hx; omega
  rw [this]; rfl
 have hR : ∀ z, z ∈ sortB (s'.now.bales.map (·.2)) → ∃ p, p ∈ Z ∧ z = (nm8 p.1, (p.2 : Int), 7) := fun z hz => by
  have := hpm.mem_iff.1 hz
  rw [hbal] at this
  obtain ⟨p, hp, e⟩ := List.mem_map.1 this
  exact ⟨p, hp, e.symm⟩
 have r3 := f12_3_run 300 hI.nd (fun p hp => by have := (hI.lt p hp).1; omega) hR (by omega) (sortB (s'.now.bales.map (·.2))) [] 300 rfl (by omega)
 have r3 : f12_3 300 300 ((sortB (s'.now.bales.map (·.2))).length : Int) 0 (mapZ Z) (sortB (s'.now.bales.map (·.2))) = some (mapZ Z, sortB (s'.now.bales.map (·.2))) := r3
 have hnz : (w64 ((b : Int) + 1) != 0) = true := by
  rw [w64_succ (by omega)]
  have : ((b + 1 : Nat) : Int) ≠ 0 := by omega
  simpa using this
 have hlen1 : (((parkL b [] ws).map optI).length : Int) = ((ws.map Int.ofNat).length : Int) := by simp [parkL_len]
 unfold f12
 rw [hbw, hN, hnz, hn, hvs, cond_true, cond_true, r1]
 simp only [Option.bind_some]
 rw [r43]
 simp only [Option.bind_some]
 rw [bne_self_eq_false, cond_false, hlen1, bne_self_eq_false, cond_false, List.length_map, r2]
 simp only [Option.bind_some]
 rw [hbales]
 simp only [Option.bind_some]
 rw [r3]
 simp only [Option.bind_some]
 have hlz : (mapZ Z).length = Z.length := by simp [mapZ]
 rw [hRl, hlz, beq_self_eq_true]
 rfl
end Go.Xm
namespace Go.Proofs.YtglkjlafglpalaaGreatDoor.masterParked
open Go.RowKit Go.Xm
theorem walk (a0 : Int) (z1 : List Int) (a2 : Int) (w : World) (hI : Go.Xm.maInv w) (w0 : (Lit.int .u8 a0).wf = true) (l1 : z1.length = 8) (w1 : ∀ z ∈ z1, (Lit.int .u8 z).wf = true) (w2 : (Lit.int .u8 a2).wf = true) :
 Calls Proofs.Tryz.prog 12 #[.int .u8 a0, .agg (z1.map (.int .u8)).toArray, .int .u8 a2] w fun e w' => e = .returned (.bool true) ∧ Below w.heap.size w w' := by
 obtain ⟨A, hA, rfl⟩ := lit_u8 w0
 obtain ⟨C, hC, rfl⟩ := lit_u8 w2
 have hx : ∃ vs : List Nat, z1 = vs.map Int.ofNat ∧ ∀ v, v ∈ vs → v < 256 := by
  clear l1
  induction z1 with
  | nil => exact ⟨[], rfl, fun v hv => by cases hv⟩
  | cons z l ih =>
   obtain ⟨vs, e, hv⟩ := ih fun x hx => w1 x (List.mem_cons_of_mem _ hx)
   obtain ⟨n, hn, e2⟩ := lit_u8 (w1 z (List.mem_cons_self ..))
   exact ⟨n :: vs, by rw [e, e2]; rfl, fun v q => (List.mem_cons.1 q).elim (fun e => e ▸ hn) (hv v)⟩
 obtain ⟨vs, e, hv⟩ := hx
 have h8 : vs.length = 8 := by rw [e, List.length_map] at l1; exact l1
 match z1, l1, e with
 | [b0, b1, b2, b3, b4, b5, b6, b7], _, e => exact f12_ok 300 (A : Int) b0 b1 b2 b3 b4 b5 b6 b7 (C : Int) true (f12_true hA hC h8 hv e) w hI
end Go.Proofs.YtglkjlafglpalaaGreatDoor.masterParked
