/- MasterNamed: lines with other names (a table). Conditions: none. -/
import Derived.Test.YtglkjlafglpalaaGreatDoorLd
import Derived.Test.YtglkjlafglpalaaGreatDoorPn
namespace Go.Xm
open Go.RowKit
set_option linter.unusedVariables false
def nmZ (y : Nat) : ByteArray := strN [97 + (y : Int), 122]
def kwC : Cm → ByteArray
 | .arr _ _ _ => bs [98, 97, 108, 101] | .mov _ _ => bs [109, 111, 118, 101] | .tak _ _ => bs [116, 97, 107, 101] | _ => bs [99, 111, 117, 110, 116]
def argC : Cm → List ByteArray
 | .arr _ n v => [itN (1 + n), itN v] | .mov _ v => [itN v] | .tak _ n => [itN (1 + n)] | .cnt _ n => [itN (1 + n)] | _ => []
def lnZ (c : Cm) (y : Nat) : List ByteArray := kwC c :: nmZ y :: argC c
def dZ (y : Nat) : Cm → Deed
 | .arr _ n v => .arrive (nmZ y) (1 + n : Nat) v
 | .mov _ v => .move (nmZ y) v
 | .tak _ n => .take (nmZ y) (1 + n : Nat)
 | .cnt _ n => .count (nmZ y) 0 (1 + n : Nat)
 | c => dC c
def zOk (y : Nat) (c : Cm) : Bool := joinOk (lnZ c y) (bs [32]) && (match f53 300 (joinV (lnZ c y) (bs [32])) with | some d => eqD d (dZ y c) | none => false)
set_option maxRecDepth 100000 in
theorem z_arr0 : (allN 13 fun y => allN 40 fun n => allN 8 fun v => zOk y (.arr 0 n v)) = true := by kernel_rfl
def yl (by_ w : Nat) : Nat := ((w + by_) % 256) % 26
theorem f45_tab : (allN 256 fun b => allN 6 fun w => match f45 300 (nmB w) (b : Int) with | some x => sameB x (nmZ (yl b w)) | none => false) = true := by kernel_rfl
theorem f45_run {b w : Nat} (hb : b < 256) (hw : w < 6) : f45 300 (nmB w) (b : Int) = some (nmZ (yl b w)) := by
 have := allN_spec (allN_spec f45_tab b hb) w hw
 split at this
 ·rename_i x hx; rw [hx, sameB_eq this]
 ·cases this
theorem nz_tab : (allN 256 fun b => allN 6 fun i => allN 6 fun k => !(sameB (nmZ (yl b i)) (nmZ (yl b k))) || Nat.beq i k) = true := by kernel_rfl
theorem nz_inj {b i k : Nat} (hb : b < 256) (hi : i < 6) (hk : k < 6) (h : nmZ (yl b i) = nmZ (yl b k)) : i = k := by
 have := allN_spec (allN_spec (allN_spec nz_tab b hb) i hi) k hk
 have h2 : sameB (nmZ (yl b i)) (nmZ (yl b k)) = true := by rw [h]; unfold sameB; exact beq_self_eq_true _
 rw [h2, Bool.not_true, Bool.false_or] at this
 exact Nat.eq_of_beq_eq_true this
theorem yl_lt (b w : Nat) : yl b w < 26 := Nat.mod_lt _ (by omega)
def rho (b : Nat) (a : ByteArray) : ByteArray := (f45 300 a (b : Int)).getD a
theorem rho_nm {b w : Nat} (hb : b < 256) (hw : w < 6) : rho b (nmB w) = nmZ (yl b w) := by unfold rho; rw [f45_run hb hw]; rfl
def isNm (a : ByteArray) : Prop := ∃ w, w < 6 ∧ a = nmB w
theorem rho_inj {b : Nat} (hb : b < 256) {x y : ByteArray} (hx : isNm x) (hy : isNm y) (h : rho b x = rho b y) : x = y := by
 obtain ⟨i, hi, rfl⟩ := hx
 obtain ⟨k, hk, rfl⟩ := hy
 rw [rho_nm hb hi, rho_nm hb hk] at h
 rw [nz_inj hb hi hk h]
def dR (b : Nat) : Cm → Deed
 | .arr w n v => .arrive (nmZ (yl b w)) (1 + n : Nat) v
 | .mov w v => .move (nmZ (yl b w)) v
 | .tak w n => .take (nmZ (yl b w)) (1 + n : Nat)
 | .cnt w n => .count (nmZ (yl b w)) 0 (1 + n : Nat)
 | c => dC c
def hasNm : Cm → Bool | .arr _ _ _ => true | .mov _ _ => true | .tak _ _ => true | .cnt _ _ => true | _ => false
def whoC : Cm → Nat | .arr w _ _ => w | .mov w _ => w | .tak w _ => w | .cnt w _ => w | _ => 0
def sameLB : List ByteArray → List ByteArray → Bool
 | [], [] => true
 | x :: l, y :: r => sameB x y && sameLB l r
 | _, _ => false
theorem sameLB_eq : ∀ {a b : List ByteArray}, sameLB a b = true → a = b
 | [], [], _ => rfl
 | x :: l, y :: r, h => by
  unfold sameLB at h
  simp only [Bool.and_eq_true] at h
  rw [sameB_eq h.1, sameLB_eq h.2]
 | [], _ :: _, h => by cases h
 | _ :: _, [], h => by cases h
def splOk (c : Cm) : Bool := Nat.ble (lnC c).size 1000000 && (match hasNm c with
 | true => sameLB (splitV (lnC c) (bs [32])) (kwC c :: nmB (whoC c) :: argC c)
 | false => Nat.ble (splitV (lnC c) (bs [32])).length 2 && (joinOk (splitV (lnC c) (bs [32])) (bs [32]) && sameB (joinV (splitV (lnC c) (bs [32])) (bs [32])) (lnC c)))
set_option maxRecDepth 100000 in
theorem s_arr : (allN 6 fun w => allN 40 fun n => allN 8 fun v => splOk (.arr w n v)) = true := by kernel_rfl
set_option maxRecDepth 100000 in
theorem s_mov : (allN 6 fun w => allN 8 fun v => splOk (.mov w v)) = true := by kernel_rfl
set_option maxRecDepth 100000 in
theorem s_num : (allN 40 fun n => (allN 6 fun w => splOk (.tak w n) && splOk (.cnt w n)) && (splOk (.sup n) && (splOk (.ban n) && (splOk (.spo n) && splOk (.out n))))) = true := by kernel_rfl
set_option maxRecDepth 100000 in
theorem s_oth : ((allN 3 fun k => splOk (.key k)) && (splOk .shut && (splOk .close && splOk .undo))) = true := by kernel_rfl
theorem spl_ok {b : Nat} (h8 : b ≤ 8) {c : Cm} (h : okC b c = true) : splOk c = true := by
 have L : ∀ {a c : Nat}, Nat.blt a c = true → a < c := fun h => by simpa [Nat.blt_eq] using h
 have ho := s_oth
 simp only [Bool.and_eq_true] at ho
 have hn : ∀ n, n < 40 → _ := allN_spec s_num
 simp only [Bool.and_eq_true] at hn
 cases c with
 | arr w n v =>
  simp only [okC, Bool.and_eq_true] at h
  exact allN_spec (allN_spec (allN_spec s_arr w (L h.1)) n (L h.2.1)) v (Nat.lt_of_lt_of_le (L h.2.2) h8)
 | mov w v =>
  simp only [okC, Bool.and_eq_true] at h
  exact allN_spec (allN_spec s_mov w (L h.1)) v (Nat.lt_of_lt_of_le (L h.2) h8)
 | tak w n =>
  simp only [okC, Bool.and_eq_true] at h
  have := allN_spec (hn n (L h.2)).1 w (L h.1)
  simp only [Bool.and_eq_true] at this; exact this.1
 | cnt w n =>
  simp only [okC, Bool.and_eq_true] at h
  have := allN_spec (hn n (L h.2)).1 w (L h.1)
  simp only [Bool.and_eq_true] at this; exact this.2
 | sup n => exact (hn n (L h)).2.1
 | ban n => exact (hn n (L h)).2.2.1
 | spo n => exact (hn n (L h)).2.2.2.1
 | out n => exact (hn n (L h)).2.2.2.2
 | key k => exact allN_spec ho.1 k (L h)
 | shut => exact ho.2.1
 | close => exact ho.2.2.1
 | undo => exact ho.2.2.2
set_option maxRecDepth 100000 in
theorem z_arr1 : (allN 13 fun y => allN 40 fun n => allN 8 fun v => zOk (13 + y) (.arr 0 n v)) = true := by kernel_rfl
theorem z_arr {y : Nat} (hy : y < 26) {n : Nat} (hn : n < 40) {v : Nat} (hv : v < 8) : zOk y (.arr 0 n v) = true := by
 by_cases h : y < 13
 ·exact allN_spec (allN_spec (allN_spec z_arr0 y h) n hn) v hv
 ·have e : y = 13 + (y - 13) := by omega
  rw [e]
  exact allN_spec (allN_spec (allN_spec z_arr1 (y - 13) (by omega)) n hn) v hv
set_option maxRecDepth 100000 in
theorem z_oth : (allN 26 fun y => (allN 8 fun v => zOk y (.mov 0 v)) && allN 40 fun n => zOk y (.tak 0 n) && zOk y (.cnt 0 n)) = true := by kernel_rfl
theorem z_ok {b : Nat} (h8 : b ≤ 8) {y : Nat} (hy : y < 26) {c : Cm} (h : okC b c = true) (hc : hasNm c = true) : zOk y c = true := by
 have L : ∀ {a c : Nat}, Nat.blt a c = true → a < c := fun h => by simpa [Nat.blt_eq] using h
 have ho := allN_spec z_oth y hy
 simp only [Bool.and_eq_true] at ho
 cases c with
 | arr w n v =>
  simp only [okC, Bool.and_eq_true] at h
  exact z_arr hy (L h.2.1) (Nat.lt_of_lt_of_le (L h.2.2) h8)
 | mov w v =>
  simp only [okC, Bool.and_eq_true] at h
  exact allN_spec ho.1 v (Nat.lt_of_lt_of_le (L h.2) h8)
 | tak w n =>
  simp only [okC, Bool.and_eq_true] at h
  have := allN_spec ho.2 n (L h.2)
  simp only [Bool.and_eq_true] at this; exact this.1
 | cnt w n =>
  simp only [okC, Bool.and_eq_true] at h
  have := allN_spec ho.2 n (L h.2)
  simp only [Bool.and_eq_true] at this; exact this.2
 | _ => cases hc
def renL (b : Nat) (l : List (ByteArray × Bl)) : List (ByteArray × Bl) := l.map fun p => (rho b p.1, rho b p.2.1, p.2.2.1, p.2.2.2)
def renN (b : Nat) (n : Now) : Now := { n with bales := renL b n.bales }
def Nms (l : List (ByteArray × Bl)) : Prop := ∀ p, p ∈ l → isNm p.1
theorem Bales.nms {b : Nat} {l : List (ByteArray × Bl)} (h : Bales b l) : Nms l := fun p hp => (h.all p hp).one
theorem ren_has {b : Nat} (hb : b < 256) {k : ByteArray} (hk : isNm k) : ∀ {l : List (ByteArray × Bl)}, Nms l → hasS (renL b l) (rho b k) = hasS l k
 | [], _ => rfl
 | p :: t, h => by
  have ih := ren_has hb hk (l := t) fun q hq => h q (List.mem_cons_of_mem _ hq)
  show (if rho b p.1 = rho b k then true else hasS (renL b t) (rho b k)) = (if p.1 = k then true else hasS t k)
  by_cases e : p.1 = k
  ·rw [if_pos e, if_pos (by rw [e])]
  ·rw [if_neg e, if_neg (fun q => e (rho_inj hb (h p (List.mem_cons_self ..)) hk q)), ih]
theorem ren_get {b : Nat} (hb : b < 256) {k : ByteArray} (hk : isNm k) (d : Bl) : ∀ {l : List (ByteArray × Bl)}, Nms l → hasS l k = true → getS d (renL b l) (rho b k) = (rho b (getS d l k).1, (getS d l k).2.1, (getS d l k).2.2)
 | [], _, h => by cases h
 | p :: t, h, hh => by
  show (if rho b p.1 = rho b k then (rho b p.2.1, p.2.2.1, p.2.2.2) else getS d (renL b t) (rho b k)) = _
  have hh : (if p.1 = k then true else hasS t k) = true := hh
  have e1 : getS d (p :: t) k = if p.1 = k then p.2 else getS d t k := rfl
  rw [e1]
  by_cases e : p.1 = k
  ·rw [if_pos e, if_pos (by rw [e])]
  ·rw [if_neg e] at hh
   rw [if_neg e, if_neg (fun q => e (rho_inj hb (h p (List.mem_cons_self ..)) hk q))]
   exact ren_get hb hk d (fun q hq => h q (List.mem_cons_of_mem _ hq)) hh
theorem ren_put {b : Nat} (hb : b < 256) {k : ByteArray} (hk : isNm k) (x : Bl) : ∀ {l : List (ByteArray × Bl)}, Nms l → putS (renL b l) (rho b k) (rho b x.1, x.2.1, x.2.2) = renL b (putS l k x)
 | [], _ => rfl
 | p :: t, h => by
  show (if rho b p.1 = rho b k then (rho b k, rho b x.1, x.2.1, x.2.2) :: renL b t else (rho b p.1, rho b p.2.1, p.2.2.1, p.2.2.2) :: putS (renL b t) (rho b k) (rho b x.1, x.2.1, x.2.2)) = renL b (if p.1 = k then (k, x) :: t else p :: putS t k x)
  by_cases e : p.1 = k
  ·rw [if_pos e, if_pos (by rw [e])]; rfl
  ·rw [if_neg e, if_neg (fun q => e (rho_inj hb (h p (List.mem_cons_self ..)) hk q)), ren_put hb hk x (fun q hq => h q (List.mem_cons_of_mem _ hq))]; rfl
theorem ren_del {b : Nat} (hb : b < 256) {k : ByteArray} (hk : isNm k) : ∀ {l : List (ByteArray × Bl)}, Nms l → delS (renL b l) (rho b k) = renL b (delS l k)
 | [], _ => rfl
 | p :: t, h => by
  show (if rho b p.1 = rho b k then renL b t else (rho b p.1, rho b p.2.1, p.2.2.1, p.2.2.2) :: delS (renL b t) (rho b k)) = renL b (if p.1 = k then t else p :: delS t k)
  by_cases e : p.1 = k
  ·rw [if_pos e, if_pos (by rw [e])]
  ·rw [if_neg e, if_neg (fun q => e (rho_inj hb (h p (List.mem_cons_self ..)) hk q)), ren_del hb hk (fun q hq => h q (List.mem_cons_of_mem _ hq))]; rfl
theorem ren_bays (b : Nat) (l : List (ByteArray × Bl)) : (renL b l).map (fun p => p.2.2.1) = l.map (fun p => p.2.2.1) := by
 unfold renL; rw [List.map_map]; rfl
theorem nms_put {k : ByteArray} (hk : isNm k) (x : Bl) : ∀ {l : List (ByteArray × Bl)}, Nms l → Nms (putS l k x)
 | [], _ => fun p hp => by
  have : p = (k, x) := by simpa [putS] using hp
  rw [this]; exact hk
 | q :: t, h => fun p hp => by
  unfold putS at hp
  split at hp
  ·rcases List.mem_cons.1 hp with rfl | hp
   ·exact hk
   ·exact h p (List.mem_cons_of_mem _ hp)
  ·rcases List.mem_cons.1 hp with rfl | hp
   ·exact h p (List.mem_cons_self ..)
   ·exact nms_put hk x (fun z hz => h z (List.mem_cons_of_mem _ hz)) p hp
theorem nms_del {k : ByteArray} : ∀ {l : List (ByteArray × Bl)}, Nms l → Nms (delS l k)
 | [], h => h
 | q :: t, h => fun p hp => by
  unfold delS at hp
  split at hp
  ·exact h p (List.mem_cons_of_mem _ hp)
  ·rcases List.mem_cons.1 hp with rfl | hp
   ·exact h p (List.mem_cons_self ..)
   ·exact nms_del (fun z hz => h z (List.mem_cons_of_mem _ hz)) p hp
theorem map_cond {α β : Type} {f : α → β} {c : Bool} {x y : Option α} {x' y' : Option β} (hx : x' = x.map f) (hy : y' = y.map f) : cond c x' y' = (cond c x y).map f := by cases c <;> assumption
theorem map_bindR {α β γ : Type} {f : β → γ} {z : Option α} {k : α → Option β} {k' : α → Option γ} (h : ∀ r, k' r = (k r).map f) : z.bind k' = (z.bind k).map f := by
 cases z with
 | none => rfl
 | some r => exact h r
theorem doS_ren {b : Nat} (hb : b < 256) {n : Now} (hN : Nms n.bales) {B : Nat} {c : Cm} (hc : okC B c = true) (hu : isUndo c = false) :
 doS 300 (renN b n) (dR b c) = (doS 300 n (dC c)).map fun r => (r.1, renN b r.2) := by
 have key : ∀ w, w < 6 → hasS (renL b n.bales) (nmZ (yl b w)) = hasS n.bales (nmB w) := fun w hw => by
  rw [← rho_nm hb hw]; exact ren_has hb ⟨w, hw, rfl⟩ hN
 have kget : ∀ w, w < 6 → hasS n.bales (nmB w) = true → getS ((bs []), 0, 0) (renL b n.bales) (nmZ (yl b w)) = (rho b (getS ((bs []), 0, 0) n.bales (nmB w)).1, (getS ((bs []), 0, 0) n.bales (nmB w)).2.1, (getS ((bs []), 0, 0) n.bales (nmB w)).2.2) := fun w hw hh => by
  rw [← rho_nm hb hw]; exact ren_get hb ⟨w, hw, rfl⟩ _ hN hh
 cases c with
 | undo => cases hu
 | arr w n0 v =>
  simp only [okC, Bool.and_eq_true, Nat.blt_eq] at hc
  have hp : ∀ x y, putS (renL b n.bales) (nmZ (yl b w)) (nmZ (yl b w), x, y) = renL b (putS n.bales (nmB w) (nmB w, x, y)) := fun x y => by
   rw [← rho_nm hb hc.1]; exact ren_put hb ⟨w, hc.1, rfl⟩ (nmB w, x, y) hN
  unfold doS
  simp only [dC, dR, renN]
  simp only [key w hc.1, ren_bays, hp]
  repeat' first
   | rfl
   | refine map_cond ?_ ?_
   | refine map_bindR fun r => ?_
 | mov w v =>
  simp only [okC, Bool.and_eq_true, Nat.blt_eq] at hc
  have hk : isNm (nmB w) := ⟨w, hc.1, rfl⟩
  have hd : delS (renL b n.bales) (nmZ (yl b w)) = renL b (delS n.bales (nmB w)) := by rw [← rho_nm hb hc.1]; exact ren_del hb hk hN
  unfold doS
  simp only [dC, dR, renN]
  rw [key w hc.1]
  cases hh : hasS n.bales (nmB w) with
  | false => rfl
  | true =>
   have hp : ∀ x, putS (renL b (delS n.bales (nmB w))) (nmZ (yl b w)) (rho b (getS ((bs []), 0, 0) n.bales (nmB w)).1, x, (getS ((bs []), 0, 0) n.bales (nmB w)).2.2) = renL b (putS (delS n.bales (nmB w)) (nmB w) ((getS ((bs []), 0, 0) n.bales (nmB w)).1, x, (getS ((bs []), 0, 0) n.bales (nmB w)).2.2)) := fun x => by
    rw [← rho_nm hb hc.1]; exact ren_put hb hk ((getS ((bs []), 0, 0) n.bales (nmB w)).1, x, (getS ((bs []), 0, 0) n.bales (nmB w)).2.2) (nms_del hN)
   simp only [kget w hc.1 hh, hd, ren_bays, hp]
   repeat' first
    | rfl
    | refine map_cond ?_ ?_
    | refine map_bindR fun r => ?_
 | tak w n0 =>
  simp only [okC, Bool.and_eq_true, Nat.blt_eq] at hc
  have hk : isNm (nmB w) := ⟨w, hc.1, rfl⟩
  unfold doS
  simp only [dC, dR, renN]
  rw [key w hc.1]
  cases hh : hasS n.bales (nmB w) with
  | false => rfl
  | true =>
   have hp : ∀ x, putS (renL b n.bales) (nmZ (yl b w)) (rho b (getS ((bs []), 0, 0) n.bales (nmB w)).1, (getS ((bs []), 0, 0) n.bales (nmB w)).2.1, x) = renL b (putS n.bales (nmB w) ((getS ((bs []), 0, 0) n.bales (nmB w)).1, (getS ((bs []), 0, 0) n.bales (nmB w)).2.1, x)) := fun x => by
    rw [← rho_nm hb hc.1]; exact ren_put hb hk ((getS ((bs []), 0, 0) n.bales (nmB w)).1, (getS ((bs []), 0, 0) n.bales (nmB w)).2.1, x) hN
   have hd : ∀ x, delS (renL b (putS n.bales (nmB w) x)) (nmZ (yl b w)) = renL b (delS (putS n.bales (nmB w) x) (nmB w)) := fun x => by
    rw [← rho_nm hb hc.1]; exact ren_del hb hk (nms_put hk x hN)
   simp only [kget w hc.1 hh, hp, hd]
   repeat' first
    | rfl
    | refine map_cond ?_ ?_
    | refine map_bindR fun r => ?_
 | cnt w n0 =>
  simp only [okC, Bool.and_eq_true, Nat.blt_eq] at hc
  unfold doS
  simp only [dC, dR, renN]
  rw [key w hc.1]
  cases hh : hasS n.bales (nmB w) with
  | false => rfl
  | true =>
   simp only [kget w hc.1 hh]
   repeat' first
    | rfl
    | refine map_cond ?_ ?_
 | _ =>
  unfold doS
  simp only [dC, dR, renN]
  repeat' first
   | rfl
   | refine map_cond ?_ ?_
structure SimB (b : Nat) (s1 s2 : BkS) : Prop where
 now : s2.now = renN b s1.now
 bef : s2.before = s1.before.map (renN b)
 len : s2.lines.length = s1.lines.length
theorem tell_sim {b : Nat} (hb : b < 256) {B : Nat} (h1 : 1 ≤ B) (h8 : B ≤ 8) {cs : List Cm} {s1 s2 : BkS} (hI : Inv B cs s1) (hS : SimB b s1 s2) {c : Cm} (hc : okC B c = true) {l2 : ByteArray} (hd : f53 300 l2 = some (dR b c)) {e : Int} {s1' : BkS}
 (ht : tellS 300 s1 (lnC c) = some (e, s1')) : ∃ s2', tellS 300 s2 l2 = some (e, s2') ∧ SimB b s1' s2' := by
 have hb1 := hI.bays0 h1
 have hb2 : (s2.now.bays == 0) = false := by rw [hS.now]; exact hb1
 have hbl : s2.before.length = s1.before.length := by rw [hS.bef, List.length_map]
 cases hu : isUndo c with
 | true =>
  have e1 : dC c = .undo := by cases c <;> first | rfl | cases hu
  have e2 : dR b c = .undo := by cases c <;> first | rfl | cases hu
  have t1 : tellS 300 s1 (lnC c) = undoS s1 := by unfold tellS; rw [hb1, cond_false, line_deed h8 hc, e1]; rfl
  have t2 : tellS 300 s2 l2 = undoS s2 := by unfold tellS; rw [hb2, cond_false, hd, e2]; rfl
  rw [t1] at ht
  rw [t2]
  unfold undoS at ht ⊢
  rw [hS.len, hbl]
  cases h0 : (((s1.lines.length : Nat) : Int) == 0) with
  | true =>
   rw [h0, cond_true] at ht
   cases ht
   exact ⟨s2, rfl, hS⟩
  | false =>
   rw [h0, cond_false] at ht
   cases h2 : (Nat.ble s1.lines.length 1000000 && Nat.beq s1.before.length s1.lines.length) with
   | false => rw [h2] at ht; cases ht
   | true =>
    rw [h2, cond_true] at ht
    cases ht
    refine ⟨_, rfl, ?_, ?_, ?_⟩
    ·show s2.before.getLast?.getD s2.now = renN b (s1.before.getLast?.getD s1.now)
     rw [hS.bef, hS.now, List.getLast?_map]
     cases s1.before.getLast? <;> rfl
    ·show s2.before.dropLast = s1.before.dropLast.map (renN b)
     rw [hS.bef, List.map_dropLast]
    ·show s2.lines.dropLast.length = s1.lines.dropLast.length
     rw [List.length_dropLast, List.length_dropLast, hS.len]
 | false =>
  have t1 : tellS 300 s1 (lnC c) = someS 300 s1 (lnC c) (dC c) := by
   unfold tellS; rw [hb1, cond_false, line_deed h8 hc]
   cases c <;> first | rfl | cases hu
  have t2 : tellS 300 s2 l2 = someS 300 s2 l2 (dR b c) := by
   unfold tellS; rw [hb2, cond_false, hd]
   cases c <;> first | rfl | cases hu
  rw [t1] at ht
  rw [t2]
  unfold someS at ht ⊢
  rw [hS.len]
  cases h0 : (((s1.lines.length : Nat) : Int) == 200) with
  | true =>
   rw [h0, cond_true] at ht
   cases ht
   exact ⟨s2, rfl, hS⟩
  | false =>
   rw [h0, cond_false] at ht
   rw [cond_false, hS.now, doS_ren hb hI.now.bal.nms hc hu]
   cases hq : doS 300 s1.now (dC c) with
   | none => rw [hq] at ht; cases ht
   | some r =>
    rw [hq] at ht
    simp only [Option.bind_some, Option.map_some] at ht ⊢
    unfold endN at ht ⊢
    simp only at ht ⊢
    rw [hbl, hS.len]
    cases hz : (r.1 != 0) with
    | true =>
     rw [hz, cond_true] at ht
     cases ht
     exact ⟨s2, rfl, hS⟩
    | false =>
     rw [hz, cond_false] at ht
     cases hf : fitsB (s1.before.length + 1) 80 with
     | false => rw [hf] at ht; cases ht
     | true =>
      rw [hf, cond_true] at ht
      cases hg : fitsB (s1.lines.length + 1) 16 with
      | false => rw [hg] at ht; cases ht
      | true =>
       rw [hg, cond_true] at ht
       cases ht
       refine ⟨_, rfl, rfl, ?_, ?_⟩
       ·show s2.before ++ [s2.now] = (s1.before ++ [s1.now]).map (renN b)
        rw [hS.bef, hS.now, List.map_append]; rfl
       ·show (s2.lines ++ [_]).length = (s1.lines ++ [_]).length
        rw [List.length_append, List.length_append, hS.len]; rfl
def renB (b : Nat) (x : Bl) : Bl := (rho b x.1, x.2.1, x.2.2)
theorem insB_ren (b : Nat) (x : Bl) : ∀ l : List Bl, insB (renB b x) (l.map (renB b)) = (insB x l).map (renB b)
 | [] => rfl
 | y :: l => by
  rw [List.map_cons]
  unfold insB
  show cond (decide (x.2.1 ≤ y.2.1)) _ _ = _
  cases decide (x.2.1 ≤ y.2.1) with
  | true => rfl
  | false => show renB b y :: insB (renB b x) (l.map (renB b)) = _; rw [insB_ren b x l]; rfl
theorem sortB_ren (b : Nat) : ∀ l : List Bl, sortB (l.map (renB b)) = (sortB l).map (renB b)
 | [] => rfl
 | x :: l => by
  rw [List.map_cons]
  unfold sortB
  rw [sortB_ren b l, insB_ren]
theorem bales_sim {b : Nat} {s1 s2 : BkS} (hS : SimB b s1 s2) {R : List Bl} (h : balesS 300 s1 = some R) : balesS 300 s2 = some (R.map (renB b)) := by
 unfold balesS at h ⊢
 rw [hS.now]
 have e1 : (renN b s1.now).bays = s1.now.bays := rfl
 have e2 : (renN b s1.now).bales.map (·.2) = (s1.now.bales.map (·.2)).map (renB b) := by
  show (renL b s1.now.bales).map (·.2) = _
  unfold renL; rw [List.map_map, List.map_map]; rfl
 have e3 : okL ((s1.now.bales.map (·.2)).map (renB b)) = okL (s1.now.bales.map (·.2)) := by
  unfold okL; rw [List.map_map]; rfl
 rw [e1, e2, e3]
 cases h0 : (s1.now.bays == 0) with
 | true => rw [h0, cond_true] at h; cases h; rfl
 | false =>
  rw [h0, cond_false] at h
  rw [cond_false]
  cases h2 : (Nat.ble 20 300 && okL (s1.now.bales.map (·.2))) with
  | false => rw [h2] at h; cases h
  | true =>
   rw [h2, cond_true] at h
   cases h
   rw [cond_true, sortB_ren]
theorem row_nms {B : Nat} {cs : List Cm} {s : BkS} (hI : Inv B cs s) {R : List Bl} (hR : Row B s R) : ∀ z, z ∈ R → isNm z.1 := fun z hz => by
 obtain ⟨p, hp, rfl⟩ := List.mem_map.1 (hR.perm.mem_iff.1 hz)
 have h := hI.now.bal.all p hp
 obtain ⟨w, hw, e⟩ := h.one
 exact ⟨w, hw, h.name.trans e⟩
theorem f13_2_run {b : Nat} (hb : b < 256) {ds : List (Int × Int × Int × Int)} {x y : Int} {L : List ByteArray} {s1 s2 : BkS} {R : List Bl} (hN : ∀ z, z ∈ R → isNm z.1) (hl : R.length ≤ 8) :
 ∀ (k i fuel : Nat), i + k = R.length → k < fuel → f13_2 300 fuel ds (b : Int) x y L (R.length : Int) (i : Int) s1 s2 R (R.map (renB b)) = some (s1, s2)
 | _, _, 0, _, h => by omega
 | 0, i, fuel + 1, hi, _ => by
  obtain rfl : i = R.length := by omega
  unfold f13_2
  rw [show decide ((R.length : Int) < (R.length : Int)) = false from decide_eq_false (by omega)]
  rfl
 | k + 1, i, fuel + 1, hi, hf => by
  have hic : i < R.length := by omega
  have hlm : (R.map (renB b)).length = R.length := List.length_map _
  have ht : Int.toNat (i : Int) = i := rfl
  have g1 : R.getD i ((bs []), 0, 0) = R[i] := getD_get hic _
  have g2 : (R.map (renB b)).getD i ((bs []), 0, 0) = renB b R[i] := by rw [getD_get (by rw [hlm]; exact hic)]; simp
  obtain ⟨w, hw, e⟩ := hN _ (List.getElem_mem hic)
  have h45 : f45 300 R[i].1 (b : Int) = some (rho b R[i].1) := by rw [e, f45_run hb hw, rho_nm hb hw]
  unfold f13_2
  rw [show decide ((i : Int) < (R.length : Int)) = true from decide_eq_true (by omega), hlm, inRow_nat hic, ht, g1, g2, h45, w64_succ (by omega)]
  simp only [cond_true, Option.bind_some, renB, beq_self_eq_true, Bool.not_true, cond_false, bne_self_eq_false]
  exact f13_2_run hb hN hl k (i + 1) fuel (by omega) (by omega)
theorem f13_1_run {b : Nat} (hb : b < 256) {A : Nat} (hA : A < 256) {ds : List (Int × Int × Int × Int)} {C : List Cm} (hC : C.length ≤ 40) (ho : ∀ c, c ∈ C → okC (1 + A % 8) c = true) :
 ∀ (k i fuel : Nat) (cs : List Cm) (s1 s2 : BkS), i + k = C.length → k < fuel → Inv (1 + A % 8) cs s1 → SimB b s1 s2 → cs.length ≤ i →
  ∃ cs' s1' s2', f13_1 300 fuel ds (b : Int) (C.length : Int) (i : Int) s1 s2 (C.map lnC) = some (s1', s2') ∧ Inv (1 + A % 8) cs' s1' ∧ SimB b s1' s2' ∧ cs'.length ≤ 40
 | _, _, 0, _, _, _, _, h, _, _, _ => by omega
 | 0, i, fuel + 1, cs, s1, s2, hi, _, hI, hS, hcl => by
  obtain rfl : i = C.length := by omega
  unfold f13_1
  rw [show decide ((C.length : Int) < (C.length : Int)) = false from decide_eq_false (by omega)]
  exact ⟨cs, s1, s2, rfl, hI, hS, by omega⟩
 | k + 1, i, fuel + 1, cs, s1, s2, hi, hf, hI, hS, hcl => by
  have hic : i < C.length := by omega
  have hb1 : 1 ≤ 1 + A % 8 := by omega
  have hb8 : 1 + A % 8 ≤ 8 := by omega
  have hm := ho _ (List.getElem_mem hic)
  obtain ⟨e, s1', ht, hT⟩ := tell_inv hb1 hb8 hI (by omega) hm
  obtain ⟨cs', hI', hl'⟩ := hT.inv hI
  obtain ⟨R, hR, hRow⟩ := hI'.balesS hb1 hb8 (m := 300) (by omega)
  have hNm := row_nms hI' hRow
  have hRl : R.length ≤ 8 := by have := hRow.len; omega
  have hlen : (C.map lnC).length = C.length := List.length_map _
  have hg : (C.map lnC).getD i (bs []) = lnC C[i] := by
   rw [getD_get (by rw [hlen]; exact hic)]; simp
  have hN : Int.toNat (i : Int) = i := rfl
  have hsp := spl_ok hb8 hm
  unfold splOk at hsp
  rw [Bool.and_eq_true] at hsp
  obtain ⟨sp1, sp2⟩ := hsp
  have hone : Nat.beq (bs [32]).size 1 = true := by kernel_rfl
  have hparts : ∃ parts, (cond (decide ((((splitV (lnC C[i]) (bs [32])).length : Nat) : Int) > 2)) (cond (inRow 1 ((splitV (lnC C[i]) (bs [32])).length)) ((f45 300 (List.getD (splitV (lnC C[i]) (bs [32])) 1 (bs [])) (b : Int)).bind fun r => some (lnC C[i], List.set (splitV (lnC C[i]) (bs [32])) 1 r)) none)
   (some (lnC C[i], splitV (lnC C[i]) (bs [32])))) = some (lnC C[i], parts) ∧ joinOk parts (bs [32]) = true ∧ f53 300 (joinV parts (bs [32])) = some (dR b C[i]) := by
   cases hn : hasNm C[i] with
   | true =>
    rw [hn] at sp2
    have hsl := sameLB_eq sp2
    have hw : whoC C[i] < 6 := by
     have : ∀ c, okC (1 + A % 8) c = true → hasNm c = true → whoC c < 6 := fun c hc hq => by
      cases c <;> first | (cases hq; done) | skip
      all_goals
       simp only [okC, Bool.and_eq_true, Nat.blt_eq] at hc
       simp only [whoC]
       omega
     exact this _ hm hn
    have hal : 1 ≤ (argC C[i]).length := by
     have : ∀ c, hasNm c = true → 1 ≤ (argC c).length := fun c hq => by cases c <;> first | (cases hq; done) | (simp [argC])
     exact this _ hn
    have hz := z_ok hb8 (yl_lt b (whoC C[i])) hm hn
    unfold zOk at hz
    rw [Bool.and_eq_true] at hz
    obtain ⟨z1, z2⟩ := hz
    have hd : f53 300 (joinV (lnZ C[i] (yl b (whoC C[i]))) (bs [32])) = some (dR b C[i]) := by
     split at z2
     ·rename_i d hd
      rw [hd, eqD_eq z2]
      have : ∀ c, hasNm c = true → dZ (yl b (whoC c)) c = dR b c := fun c hq => by cases c <;> first | rfl | (cases hq; done)
      rw [this _ hn]
     ·cases z2
    have hlz : List.set (splitV (lnC C[i]) (bs [32])) 1 (nmZ (yl b (whoC C[i]))) = lnZ C[i] (yl b (whoC C[i])) := by rw [hsl]; rfl
    have hll : (splitV (lnC C[i]) (bs [32])).length = 2 + (argC C[i]).length := by rw [hsl]; simp; omega
    have hg1 : (splitV (lnC C[i]) (bs [32])).getD 1 (bs []) = nmB (whoC C[i]) := by rw [hsl]; rfl
    refine ⟨lnZ C[i] (yl b (whoC C[i])), ?_, z1, hd⟩
    rw [show decide ((((splitV (lnC C[i]) (bs [32])).length : Nat) : Int) > 2) = true from decide_eq_true (by omega), show inRow 1 (splitV (lnC C[i]) (bs [32])).length = true from inRow_iff.2 ⟨by omega, by omega⟩, hg1, f45_run hb hw]
    simp only [cond_true, Option.bind_some]
    rw [hlz]
   | false =>
    rw [hn] at sp2
    simp only [Bool.and_eq_true, Nat.ble_eq] at sp2
    obtain ⟨p1, p2, p3⟩ := sp2
    refine ⟨_, ?_, p2, ?_⟩
    ·rw [show decide ((((splitV (lnC C[i]) (bs [32])).length : Nat) : Int) > 2) = false from decide_eq_false (by omega), cond_false]
    ·rw [sameB_eq p3, line_deed hb8 hm]
     have : ∀ c, hasNm c = false → dC c = dR b c := fun c hq => by cases c <;> first | rfl | (cases hq; done)
     rw [this _ hn]
  obtain ⟨parts, q1, q2, q3⟩ := hparts
  obtain ⟨s2', t2, hS'⟩ := tell_sim hb hb1 hb8 hI hS hm q3 ht
  have hR2 := bales_sim hS' hR
  have hlm : (R.map (renB b)).length = R.length := List.length_map _
  have r2 := f13_2_run hb (ds := ds) (x := (C.length : Int)) (y := (i : Int)) (L := C.map lnC) (s1 := s1') (s2 := s2') hNm hRl R.length 0 300 (by omega) (by omega)
  have r2 : f13_2 300 300 ds (b : Int) (C.length : Int) (i : Int) (C.map lnC) (R.length : Int) 0 s1' s2' R (R.map (renB b)) = some (s1', s2') := r2
  unfold f13_1
  rw [show decide ((i : Int) < (C.length : Int)) = true from decide_eq_true (by omega), hlen, inRow_nat hic, hN, hg, sp1, hone]
  simp only [cond_true, Bool.and_self]
  rw [q1]
  simp only [Option.bind_some]
  rw [ht]
  simp only [Option.bind_some]
  rw [q2, t2]
  simp only [cond_true, Option.bind_some, bne_self_eq_false, cond_false]
  rw [hR, hR2]
  simp only [Option.bind_some]
  rw [hlm, bne_self_eq_false, cond_false, r2, w64_succ (by omega)]
  exact f13_1_run hb hA hC ho k (i + 1) fuel cs' s1' s2' (by omega) (by omega) hI' hS' (by omega)
theorem f13_3_run (m : Nat) {ds : List (Int × Int × Int × Int)} {s1 s2 : BkS} {K : List Int} (hl : K.length ≤ 1000) :
 ∀ (k i fuel : Nat), i + k = K.length → k < fuel → f13_3 m fuel ds (K.length : Int) (i : Int) s1 s2 K K = some (.x0 s1 s2 K K)
 | _, _, 0, _, h => by omega
 | 0, i, fuel + 1, hi, _ => by
  obtain rfl : i = K.length := by omega
  unfold f13_3
  rw [show decide ((K.length : Int) < (K.length : Int)) = false from decide_eq_false (by omega)]
  rfl
 | k + 1, i, fuel + 1, hi, hf => by
  unfold f13_3
  rw [show decide ((i : Int) < (K.length : Int)) = true from decide_eq_true (by omega), inRow_nat (by omega), bne_self_eq_false, w64_succ (by omega)]
  simp only [cond_true, cond_false]
  exact f13_3_run m hl k (i + 1) fuel (by omega) (by omega)
theorem f13_true {A b : Nat} (hA : A < 256) (hb : b < 256) {ds : List (Int × Int × Int × Int)} (hd : ∀ z ∈ ds, u8q z) : f13 300 (A : Int) ds (b : Int) = some true := by
 obtain ⟨C, c1, c2, c3⟩ := f37_run (m := 300) (by omega) hA hd
 have e41 : f41 300 (A : Int) ds = some ((1 + A % 8 : Nat) : Int) := by unfold f41; rw [bays_w hA]
 obtain ⟨cs, s1, s2, r, hI, hS, hl⟩ := f13_1_run hb hA (ds := ds) c2 c3 C.length 0 300 [] (newS ((1 + A % 8 : Nat) : Int)) (newS ((1 + A % 8 : Nat) : Int)) (by omega) (by omega) (Inv.new _) ⟨rfl, rfl, rfl⟩ (Nat.le_refl _)
 have r : f13_1 300 300 ds (b : Int) (C.length : Int) 0 (newS ((1 + A % 8 : Nat) : Int)) (newS ((1 + A % 8 : Nat) : Int)) (C.map lnC) = some (s1, s2) := r
 have hN : okN ((1 + A % 8 : Nat) : Int) = true := by
  unfold okN
  rw [decide_eq_false (by omega), decide_eq_false (by omega)]; rfl
 have hb1 : 1 ≤ 1 + A % 8 := by omega
 have k1 : kilosS s2 = kilosS s1 := by unfold kilosS; rw [hS.now]; rfl
 have k2 : stampsS s2 = stampsS s1 := by unfold stampsS; rw [hS.now]; rfl
 have k3 : keysS 300 s2 = keysS 300 s1 := by unfold keysS; rw [hS.now]; rfl
 have k4 : yearS s2 = yearS s1 := by unfold yearS; rw [hS.now]; rfl
 have hkl := kc_len cs
 have hK := hI.keysS hb1 300 (by omega)
 obtain ⟨K, hKe⟩ : ∃ K, K = sortI ((kc cs).map fun k : Nat => (k : Int)) := ⟨_, rfl⟩
 rw [← hKe] at hK
 have hKl : K.length ≤ 40 := by rw [hKe, (sortI_perm _).length_eq, List.length_map]; omega
 have hl1 := hI.linesS hb1 (by omega) 300
 have hll : s1.lines.length = cs.length := by rw [hI.lines, List.length_map]
 have hl2 : linesS 300 s2 = some s2.lines := by
  unfold linesS
  have h0 : (s2.now.bays == 0) = false := by rw [hS.now]; exact hI.bays0 hb1
  have f1 : fitsB s2.lines.length 16 = true := by
   unfold fitsB; rw [Bool.and_eq_true, Nat.ble_eq, Nat.ble_eq, hS.len]; omega
  rw [h0, f1]; rfl
 have r4 := f13_3_run 300 (ds := ds) (s1 := s1) (s2 := s2) (K := K) (by omega) K.length 0 300 (by omega) (by omega)
 have r4 : f13_3 300 300 ds (K.length : Int) 0 s1 s2 K K = some (.x0 s1 s2 K K) := r4
 unfold f13
 rw [e41]
 simp only [Option.bind_some]
 rw [hN, cond_true, c1]
 simp only [Option.bind_some, List.length_map, cond_true]
 rw [r]
 simp only [Option.bind_some]
 rw [k1, k2, beq_self_eq_true, beq_self_eq_true, beq_self_eq_true, beq_self_eq_true, beq_self_eq_true, beq_self_eq_true]
 simp only [cond_true, Bool.and_self]
 rw [k3, hK]
 simp only [Option.bind_some]
 rw [bne_self_eq_false, cond_false, r4]
 simp only [Option.bind_some]
 rw [k4, beq_self_eq_true, cond_true, hl1, hl2]
 simp only [Option.bind_some, List.length_map]
 rw [hS.len, hll, beq_self_eq_true]
 rfl
end Go.Xm
namespace Go.Proofs.YtglkjlafglpalaaGreatDoor.masterNamed
open Go.RowKit Go.Xm
theorem walk (a0 : Int) (u0 : Value) (z0 : List (Int × Int × Int × Int)) (a1 : Int) (w : World) (hI : Go.Xm.maInv w) (w0 : (Lit.int .u8 a0).wf = true) (g0 : RowIn w u0 4 (Xm.rowC encD z0) z0.length) (x0 : ∀ z ∈ z0, u8q z) (w1 : (Lit.int .u8 a1).wf = true) :
 Calls Proofs.Tryz.prog 13 #[.agg #[.int .u8 a0, u0], .int .u8 a1] w fun e w' => e = .returned (.bool true) ∧ Below w.heap.size w w' := by
 obtain ⟨A, hA, rfl⟩ := lit_u8 w0
 obtain ⟨b, hb, rfl⟩ := lit_u8 w1
 exact KC.callsS (E := E0) (by decide) rfl rfl (encD_plain z0) rfl (fun z y => f13_ok 300 z y _ _ _ _ (f13_true hA hb x0)) w g0 (maInv_size hI) hI
end Go.Proofs.YtglkjlafglpalaaGreatDoor.masterNamed
