/- The first free bay: dock.Next's answer does not hang on the order in which the taken bays are told. Conditions: none. -/
import Derived.Test.YtglkjlafglpalaaGreatDoorPb
import Derived.Test.YtglkjlafglpalaaGreatDoorWe
import Derived.Shelf.SlMaps.Clone
import Derived.Test.YtglkjlafglpalaaGreatDoorMp
import Derived.Test.YtglkjlafglpalaaGreatDoorNm
import Derived.Test.YtglkjlafglpalaaGreatDoorEe
namespace Go.Xm
open Go.RowKit
set_option linter.unusedVariables false
def okBays (a : Int) (l : List Int) : Bool := Nat.ble l.length 8 && (l.all (fun x => decide (0 ≤ x) && (decide (x < a) && decide (x < 8))) && decide l.Nodup)
def sumB : List Int → Int
 | [] => 0
 | x :: l => 2 ^ x.toNat + sumB l
theorem sumB_perm {l l' : List Int} (h : l.Perm l') : sumB l = sumB l' := by
 induction h with
 | nil => rfl
 | cons x _ ih => simp only [sumB, ih]
 | swap x y l => simp only [sumB]; omega
 | trans _ _ h1 h2 => rw [h1, h2]
theorem bit_tab : ((List.range 256).all fun m => (List.range 8).all fun x => Nat.testBit m x || (!((andV .u64 (shV false .u64 (((m : Nat) : Int)) (((x : Nat) : Int))) 1) == 1) && (decide (orV .u64 (((m : Nat) : Int)) (shV true .u64 1 (((x : Nat) : Int))) = ((m + 2 ^ x : Nat) : Int)) && Nat.blt (m + 2 ^ x) 256))) = true := by kernel_rfl
theorem bit2_tab : ((List.range 256).all fun m => (List.range 8).all fun x => (List.range 8).all fun y => Nat.testBit m x || (Nat.beq x y || (Nat.testBit (m + 2 ^ x) y == Nat.testBit m y))) = true := by kernel_rfl
theorem bit_ok {m x : Nat} (hm : m < 256) (hx : x < 8) (hb : Nat.testBit m x = false) : ((andV .u64 (shV false .u64 (((m : Nat) : Int)) (((x : Nat) : Int))) 1) == 1) = false ∧ orV .u64 (((m : Nat) : Int)) (shV true .u64 1 (((x : Nat) : Int))) = ((m + 2 ^ x : Nat) : Int) ∧ m + 2 ^ x < 256 := by
 have h := List.all_eq_true.1 (List.all_eq_true.1 bit_tab m (List.mem_range.2 hm)) x (List.mem_range.2 hx)
 rw [hb, Bool.false_or] at h
 simp only [Bool.and_eq_true, Bool.not_eq_true', decide_eq_true_eq] at h
 refine ⟨h.1, h.2.1, ?_⟩
 have := h.2.2
 exact Nat.le_of_ble_eq_true this
theorem bit2_ok {m x y : Nat} (hm : m < 256) (hx : x < 8) (hy : y < 8) (hb : Nat.testBit m x = false) (hn : x ≠ y) : Nat.testBit (m + 2 ^ x) y = Nat.testBit m y := by
 have h := List.all_eq_true.1 (List.all_eq_true.1 (List.all_eq_true.1 bit2_tab m (List.mem_range.2 hm)) x (List.mem_range.2 hx)) y (List.mem_range.2 hy)
 rw [hb, Bool.false_or] at h
 have hne : Nat.beq x y = false := by
  cases hh : Nat.beq x y with
  | false => rfl
  | true => exact absurd (Nat.eq_of_beq_eq_true hh) hn
 rw [hne, Bool.false_or] at h
 exact eq_of_beq h
theorem f175_in {m : Nat} {x a : Int} (h0 : 0 ≤ x) (ha : a ≤ 8) (h1 : x < a) : f175 m x 0 (w64 (a - 1)) = some true := by
 have hw : w64 (a - 1) = a - 1 := by
  rcases (show a = 1 ∨ a = 2 ∨ a = 3 ∨ a = 4 ∨ a = 5 ∨ a = 6 ∨ a = 7 ∨ a = 8 by omega) with rfl | rfl | rfl | rfl | rfl | rfl | rfl | rfl <;> rfl
 unfold f175
 rw [hw, decide_eq_true h0]
 simp only [cond_true, Option.some.injEq, decide_eq_true_eq]
 omega
theorem inRow_ok {i n : Nat} (h : i < n) (hn : n ≤ 8) : inRow (((i : Nat) : Int)) n = true := by
 refine inRow_iff.2 ⟨?_, ?_⟩ <;> omega
theorem f246_1_run (m : Nat) {a : Int} (ha : a ≤ 8) (L : List Int) (hL : L.length ≤ 8) : ∀ (l pre : List Int) (fuel mask : Nat), L = pre ++ l → mask < 256 → (∀ x, x ∈ l → 0 ≤ x ∧ x < a) → l.Nodup → (∀ x, x ∈ l → Nat.testBit mask x.toNat = false) →
 f246_1 m fuel a L (((L.length : Nat) : Int)) (((pre.length : Nat) : Int)) (((mask : Nat) : Int)) = if l.length < fuel then some (.x0 (((mask : Nat) : Int) + sumB l)) else none
 | l, pre, 0, mask, _, _, _, _, _ => by
  rw [if_neg (by omega)]
  rfl
 | [], pre, fuel + 1, mask, hLe, _, _, _, _ => by
  have hlen : L.length = pre.length := by rw [hLe]; simp
  unfold f246_1
  rw [hlen, decide_eq_false (Int.lt_irrefl _), cond_false, if_pos (by simp)]
  simp [sumB]
 | x :: l, pre, fuel + 1, mask, hLe, hm, hr, hnd, hb => by
  have hlen : L.length = pre.length + (l.length + 1) := by rw [hLe]; simp
  have hx := hr x (List.mem_cons_self ..)
  have hg : List.getD L (Int.toNat (((pre.length : Nat) : Int))) 0 = x := by
   rw [Int.toNat_natCast, hLe]
   simp
  obtain ⟨xn, rfl⟩ : ∃ n : Nat, x = ((n : Nat) : Int) := ⟨x.toNat, by omega⟩
  have hxn : xn < 8 := by have := hx.2; omega
  have hbx : Nat.testBit mask xn = false := hb _ (List.mem_cons_self ..)
  obtain ⟨b1, b2, b3⟩ := bit_ok hm hxn hbx
  unfold f246_1
  rw [hg, decide_eq_true (show ((pre.length : Nat) : Int) < ((L.length : Nat) : Int) by rw [hlen]; omega), cond_true, inRow_ok (by omega) hL, cond_true, f175_in hx.1 ha hx.2]
  simp only [Option.bind_some, Bool.not_true, cond_false]
  rw [decide_eq_true hx.1, cond_true, b1, cond_false, b2]
  have hw : w64 (((pre.length : Nat) : Int) + 1) = (((pre ++ [((xn : Nat) : Int)]).length : Nat) : Int) := by
   rw [List.length_append]
   have h8 : pre.length < 8 := by omega
   revert h8
   generalize pre.length = k
   intro h8
   rcases (show k = 0 ∨ k = 1 ∨ k = 2 ∨ k = 3 ∨ k = 4 ∨ k = 5 ∨ k = 6 ∨ k = 7 by omega) with rfl | rfl | rfl | rfl | rfl | rfl | rfl | rfl <;> rfl
  rw [hw]
  obtain ⟨n1, n2⟩ := List.nodup_cons.1 hnd
  rw [f246_1_run m ha L hL l (pre ++ [((xn : Nat) : Int)]) fuel (mask + 2 ^ xn) (by rw [hLe]; simp) b3 (fun y hy => hr y (List.mem_cons_of_mem _ hy)) n2 (fun y hy => by
   have hy2 := hr y (List.mem_cons_of_mem _ hy)
   rw [bit2_ok hm hxn (by omega) hbx (fun e => n1 (by
    have : y = ((xn : Nat) : Int) := by omega
    rw [← this]; exact hy))]
   exact hb y (List.mem_cons_of_mem _ hy))]
  have e : ((mask + 2 ^ xn : Nat) : Int) + sumB l = ((mask : Nat) : Int) + sumB (((xn : Nat) : Int) :: l) := by
   simp only [sumB, Int.toNat_natCast]
   have : (((mask + 2 ^ xn : Nat) : Int)) = ((mask : Nat) : Int) + 2 ^ xn := by simp
   omega
  rw [e]
  by_cases hf : l.length < fuel
  ·rw [if_pos hf, if_pos (by simp; omega)]
  ·rw [if_neg hf, if_neg (by simp; omega)]
theorem f246_eq (m : Nat) {a : Int} {l : List Int} (h1 : 1 ≤ a) (ha : a ≤ 8) (h : okBays a l = true) : f246 m a l = if l.length < m then some (a, sumB l, 0) else none := by
 simp only [okBays, Bool.and_eq_true, decide_eq_true_eq] at h
 obtain ⟨h2, h3, h4⟩ := h
 have h2 := Nat.le_of_ble_eq_true h2
 have hf : f175 m a 1 8 = some true := by
  unfold f175
  rw [decide_eq_true h1, cond_true, decide_eq_true ha]
 have hr : ∀ x, x ∈ l → 0 ≤ x ∧ x < a := fun x hx => by
  have := List.all_eq_true.1 h3 x hx
  simp only [Bool.and_eq_true, decide_eq_true_eq] at this
  exact ⟨this.1, this.2.1⟩
 have hrun := f246_1_run m ha l h2 l [] m 0 rfl (by decide) hr h4 (fun x _ => Nat.zero_testBit _)
 unfold f246
 rw [hf]
 simp only [Option.bind_some, Bool.not_true, cond_false]
 have e : f246_1 m m a l ((l.length : Nat) : Int) 0 0 = if l.length < m then some (.x0 (((0 : Nat) : Int) + sumB l)) else none := hrun
 rw [e]
 by_cases hm : l.length < m
 ·rw [if_pos hm, if_pos hm]
  simp
 ·rw [if_neg hm, if_neg hm]
  rfl
def freeV (m : Nat) (a : Int) (l : List Int) (c : Int) : Option (Int × Int) := cond (decide (1 ≤ a) && (decide (a ≤ 8) && okBays a l)) (f245 m a l c) none
theorem okBays_perm {a : Int} {l l' : List Int} (hp : l.Perm l') (h : okBays a l = true) : okBays a l' = true := by
 simp only [okBays, Bool.and_eq_true, decide_eq_true_eq] at h ⊢
 obtain ⟨h2, h3, h4⟩ := h
 refine ⟨?_, List.all_eq_true.2 fun x hx => List.all_eq_true.1 h3 x (hp.mem_iff.2 hx), hp.nodup_iff.1 h4⟩
 rw [← hp.length_eq]; exact h2
theorem freeV_perm {m : Nat} {a : Int} {l l' : List Int} {c : Int} {r : Int × Int} (hp : l.Perm l') (h : freeV m a l c = some r) : f245 m a l' c = some r := by
 unfold freeV at h
 cases hc : (decide (1 ≤ a) && (decide (a ≤ 8) && okBays a l)) with
 | false => rw [hc] at h; cases h
 | true =>
  rw [hc, cond_true] at h
  simp only [Bool.and_eq_true, decide_eq_true_eq] at hc
  obtain ⟨h1, h2, h3⟩ := hc
  have e1 := f246_eq m h1 h2 h3
  have e2 := f246_eq m h1 h2 (okBays_perm hp h3)
  rw [← sumB_perm hp, ← hp.length_eq, ← e1] at e2
  unfold f245 at h ⊢
  rw [e2]
  exact h
theorem HRel.frozen1 {B : Bd} {L : Loc} {w : World} {cs : List Value} {fz : Nat} {e : TypeId} {es : Nat} (hf : frz (.cells cs fz e es) = true) (ho : OOk [L] w L (.cells cs fz e es)) : HRel B [L] [(0, .cells cs fz e es)] w := by
 have only : ∀ i o, hget [(0, XObj.cells cs fz e es)] i = some o → i = 0 ∧ o = .cells cs fz e es := fun i o hi => by
  rw [hget_cons] at hi
  by_cases e0 : 0 = i
  ·rw [if_pos e0] at hi; cases hi; exact ⟨e0.symm, rfl⟩
  ·rw [if_neg e0] at hi; cases hi
 refine ⟨fun i o hi => ?_, fun i j o o' M M' hi hj hM hM' n1 n2 o1 o2 hz hb => ?_, .none fun i p hi => ?_⟩
 ·obtain ⟨rfl, rfl⟩ := only i o hi
  exact ⟨L, rfl, fun q => (by rw [hf] at q; cases q), ho⟩
 ·obtain ⟨rfl, rfl⟩ := only i o hi
  obtain ⟨rfl, rfl⟩ := only j o' hj
  rfl
 ·obtain ⟨_, q⟩ := only i _ hi
  cases q
theorem rowC_ints (zs : List Int) : zs.map (Value.int .i64) = rowC (encI .i64) zs := by
 induction zs with
 | nil => rfl
 | cons x l ih => rw [rowC_cons, List.map_cons, ih]; rfl
theorem own_open {w : World} {base e : Nat} {v : Value} {zs : List Int} (h : w.ownsRow base e 1 v zs.length (zs.map (Value.int .i64))) : ∃ L : Loc, VRel [L] (.slice (some ⟨0, 0, none⟩) zs.length zs.length) v ∧ OOk [L] w L (.cells (rowC (encI .i64) zs) (zs.length + 1) e 1) := by
 rw [rowC_ints] at h
 obtain ⟨h1, ⟨rfl, h2⟩ | ⟨g, cap, cur, rfl, h3, h4, h5, h6, h7, h8⟩⟩ := h
 ·have hz : zs = [] := List.length_eq_zero_iff.1 h2
  subst hz
  exact ⟨⟨0, 0, 0, 1⟩, .sliceN 0 0 _ rfl ⟨by decide, rfl⟩, rfl, .inl ⟨⟨by decide, rfl⟩, rfl⟩⟩
 ·refine ⟨⟨g, 0, cur.size, 1⟩, .slice 0 0 _ _ ⟨g, 0, cur.size, 1⟩ 0 cap rfl (.inl rfl) (fun q => absurd (show (1 : Nat) = 0 from q) (by decide)) (fun _ => ⟨h5, by show 0 + cap * 1 ≤ cur.size; omega, Nat.le_refl _⟩), rfl, .inr ⟨cur, (0, 0), h4, rfl, by show 0 + (rowC (encI .i64) zs).length ≤ cur.size; omega, fun i u hu => ?_, Nat.zero_le _, fun q => by cases q⟩⟩
  refine ⟨u, ?_, VRel.scal_refl _ ?_⟩
  ·rw [← h8, List.getElem?_take] at hu
   split at hu
   ·show cur[0 + i]? = some u
    rw [Nat.zero_add, ← Array.getElem?_toList]; exact hu
   ·cases hu
  ·rw [← rowC_ints] at hu
   obtain ⟨z, _, rfl⟩ := List.mem_map.1 (List.mem_of_getElem? hu)
   rfl
theorem next_raw {m : Nat} {a c : Int} {zs : List Int} {r : Int × Int} (h : f245 m a zs c = some r) {w : World} {v : Value} {base : Nat} (hv : w.ownsRow base 3 1 v zs.length (zs.map (Value.int .i64))) (hG : E0.G ≤ w.heap.size) (hI : maInv w) :
 Calls Proofs.Tryz.prog 245 #[.int .i64 a, v, .int .i64 c] w fun e w' => e = .returned (.tuple #[.int .i64 r.1, .int .i64 r.2]) ∧ Below w.heap.size w w' := by
 obtain ⟨L, h1, h2⟩ := own_open hv
 have hk := f245_ok m (zs.length + 1) 3 a zs c r h
 have hH : HRel (Bd.mk w.heap.size []) [L] [(0, .cells (rowC (encI .i64) zs) (zs.length + 1) 3 1)] w := HRel.frozen1 (by
  show Nat.blt _ _ = true
  rw [Nat.blt_eq, ← rowC_ints, List.length_map]
  exact Nat.lt_succ_self _) h2
 have hc : Cells [L] [.int .i64 a, .slice (some ⟨0, 0, none⟩) zs.length zs.length, .int .i64 c] [.int .i64 a, v, .int .i64 c] := by
  refine ⟨rfl, fun i u u' e1 e2 => ?_⟩
  rcases i with _ | _ | _ | i
  ·cases e1; cases e2; exact .int _ _
  ·cases e1; cases e2; exact h1
  ·cases e1; cases e2; exact .int _ _
  ·cases e1
 obtain ⟨q1, q2⟩ := hk (Bd.mk w.heap.size []) [L] w _ hc hH rfl (Nat.le_refl _) ⟨hG, fun x hx => by cases hx⟩ hI
 refine q2.mono ?_
 rintro e w' ⟨u, u', ρ', h', c', rfl, r1, r2, r3, r4, r5, rfl⟩
 refine ⟨?_, ?_⟩
 ·rw [r1.plain_eq rfl]
 ·exact ⟨r5.os, r5.tape, r5.output, r5.size, fun k hk => r5.block k (fun q => by
   rcases q with q | q
   ·exact absurd (Nat.lt_of_lt_of_le hk q) (Nat.lt_irrefl _)
   ·cases q)⟩
theorem keyval {E : List MapEntry} {M : List (ByteArray × Bl)} (h : E.map (fun e => (e.key, e.val)) = (imS blV M).map (fun p => (keyV p.1, p.2))) : E.map bayE = M.map (fun p => p.2.2.1) ∧ ∀ e ∈ E, ∃ n k, e.val = .agg #[.string n, .int .i64 (bayE e), .int .i64 k] := by
 induction E generalizing M with
 | nil =>
  cases M with
  | nil => exact ⟨rfl, fun e he => by cases he⟩
  | cons p M => cases h
 | cons x E ih =>
  cases M with
  | nil => cases h
  | cons p M =>
   simp only [imS, List.map_cons, List.cons.injEq, Prod.mk.injEq] at h
   obtain ⟨⟨_, h1⟩, h2⟩ := h
   obtain ⟨i1, i2⟩ := ih (M := M) h2
   have hb : bayE x = p.2.2.1 := by unfold bayE; rw [h1]; rfl
   refine ⟨by rw [List.map_cons, List.map_cons, hb, i1], fun e he => ?_⟩
   rcases List.mem_cons.1 he with rfl | he
   ·rw [hb]; exact ⟨p.2.1, p.2.2.2, h1⟩
   ·exact i2 e he
theorem free_c {m : Nat} {bays wish : Int} {M : List (ByteArray × Bl)} {r : Int × Int} (hr : freeV m bays (M.map (fun p => p.2.2.1)) wish = some r) {h : Heap} {c i j : Nat} {cs : List Value} {fz e : Nat} (hi : hget h i = some (.cells cs fz e 0)) (h0 : cs[0]? = some (.int .i64 bays)) (h1 : cs[1]? = some (.map (some j))) (hj : hget h j = some (.imap (imS blV M))) :
 KC E0 244 [.pointer (some ⟨i, 0, none⟩), .int .i64 wish] h c (fun v h' c' => v = .tuple #[.int .i64 r.1, .int .i64 r.2] ∧ h' = h ∧ c' = c) := by
 intro B ρ w args' p1 hH p3 p4 p5 p6
 obtain ⟨L, hL, _⟩ := hH.ok i _ hi
 obtain ⟨es0, hng, C, fr, d1, d2, d3, d4, d5, d6⟩ := (hH.at hi hL).2.cells (.inr rfl)
 obtain ⟨s0, s1⟩ := d6 es0
 rw [ptr_args rfl p1 hL s0]
 obtain ⟨v0, a1, a2⟩ := d4.get h0
 obtain ⟨v1, b1, b2⟩ := d4.get h1
 have hcell : ∀ {k : Nat} {u : Value}, ((C.toList.drop L.sh).take cs.length)[k]? = some u → w.cell? ⟨L.b, k, none⟩ = some u := by
  intro k u hu
  rw [cell_of_heap d1]
  rw [s0, List.drop_zero, List.getElem?_take] at hu
  split at hu
  ·rw [Array.getElem?_toList] at hu; exact hu
  ·cases hu
 have c0 := hcell a1
 have c1 := hcell b1
 cases a2 with
 | int _ _ =>
 cases b2 with
 | map _ Lj hLj =>
 obtain ⟨_, _, E, clock, e1, e2, e3, e4⟩ := (hH.at hj hLj).2
 obtain ⟨k1, k2⟩ := keyval e2
 have hsz : E.size ≤ 1000 := by
  have h8 : (M.map (fun p => p.2.2.1)).length ≤ 8 := by
   unfold freeV at hr
   cases hc : (decide (1 ≤ bays) && (decide (bays ≤ 8) && okBays bays (M.map (fun p => p.2.2.1)))) with
   | false => rw [hc] at hr; cases hr
   | true =>
    simp only [Bool.and_eq_true, okBays] at hc
    exact Nat.le_of_ble_eq_true hc.2.2.1
  rw [← k1, List.length_map, Array.length_toList] at h8
  omega
 refine ⟨run_callFunc_go Proofs.Tryz.func244 (by kernel_rfl) (by kernel_rfl) _ w, (free_raw w L.b Lj.b E clock bays wish r.1 r.2 w c0 c1 e1 e4 k2 hsz (fun w' v zs hb ho hp => ?_)).mono ?_⟩
 ·refine next_raw (freeV_perm (l := M.map (fun p => p.2.2.1)) ?_ hr) ho (Nat.le_trans p5.1 (Nat.le_trans p4 hb.size)) (maInv_keeps w w' p6 fun k hk => hb.block k (Nat.lt_of_lt_of_le hk (maInv_size p6)))
  rw [← k1]; exact hp.symm
 ·rintro e w' ⟨rfl, hb⟩
  subst p3
  exact ⟨_, _, ρ, h, _, rfl, VRel.plain_refl ρ rfl, Rho.le_refl ρ, rfl, hH.keep (Rho.le_refl ρ) (fun k hk => hb.block k hk), Bel.of hb p4, rfl, rfl, rfl⟩
open Go.RowKit Go.Maps Go.Proofs
theorem clone_rule {K : Nat} {F : Func} (hF : Proofs.Tryz.prog.funcs[K]? = some F) (n1 : (F.name == "runtime.NumGoroutine") = false) (n2 : F.body.isSome = true)
 (hx : ∀ (w : World) (b : Nat) (es : Array MapEntry) (clock : Nat), w.heap[b]? = some (.map es clock) → Calls Proofs.Tryz.prog K #[.map (some b)] w fun e w' => e = .returned (.map (some w.heap.size)) ∧ w' = w.alloc (.map es clock))
 {h : Heap} {c j : Nat} {es : List (List Int × Value)} (hj : hget h j = some (.imap es)) :
 KC E0 K [.map (some j)] h c (fun v h' c' => v = .map (some c) ∧ h' = (c, .imap es) :: h ∧ c' = c + 1) := by
 intro B ρ w args' p1 hH p3 p4 p5 p6
 obtain ⟨L, hL, _⟩ := hH.ok j _ hj
 obtain ⟨_, _, E, clock, e1, e2, e3, e4⟩ := (hH.at hj hL).2
 have ha : args' = [.map (some L.b)] := by
  have hl := p1.1
  match args', hl, p1 with
  | [x], _, p1 =>
   have := p1.2 0 _ x rfl rfl
   cases this with
   | map _ M hM => rw [hL] at hM; cases hM; rfl
 subst ha
 refine ⟨run_callFunc_go hF n1 n2 _ w, (hx w L.b E clock e1).mono ?_⟩
 rintro e w' ⟨rfl, rfl⟩
 subst p3
 refine ⟨.map (some ρ.length), _, ρ ++ [⟨w.heap.size, 0, 0, 0⟩], _, _, rfl, ?_, Rho.le_push ρ _, by simp, hH.new p4 (Nat.le_refl _) (fun k hk => heap_old w _ hk) (o := .imap es) ⟨rfl, rfl, E, clock, heap_new w _, e2, e3, e4⟩, Bel.of ((Below.refl _ w).alloc (Nat.le_refl _) _) p4, rfl, rfl, rfl⟩
 exact .map _ ⟨w.heap.size, 0, 0, 0⟩ (by simp)
set_option maxHeartbeats 2000000 in
set_option maxRecDepth 100000 in
theorem clone_rawB (w : World) (b : Nat) (es : Array MapEntry) (clock : Nat) (hb : w.heap[b]? = some (.map es clock)) : Calls Proofs.Tryz.prog 94 #[.map (some b)] w fun e w' => e = .returned (.map (some w.heap.size)) ∧ w' = w.alloc (.map es clock) := by
 have hq := fun w => run_eql_map_nil_sl (P := Proofs.Tryz.prog) w 45 _ _ (some b) Proofs.Tryz.underlying45
 refine calls_of_wp Proofs.Tryz.func94 rfl ?_
 simp only [Proofs.Tryz.ntmps94, List.size_toArray, List.length_cons, List.length_nil, Nat.reduceAdd, Nat.reduceSub, Array.replicate_succ, Array.replicate_zero, List.push_toArray, List.append_toArray, List.nil_append, List.cons_append]
 go_wp2
 rw [run_callFunc_extern Proofs.Tryz.func120 (by kernel_rfl) (by kernel_rfl) (by kernel_rfl) (e := Extern.MapsClone.clone) (by kernel_rfl), run_maps_clone_sl w 45 hb]
 simp only [Result.andThen]
 rw [Oper.upon_value]
 go_wp2
 rw [run_typeAssert_map_sl _ 45 20 _ _ _ Proofs.Tryz.underlying45]
 simp only [Result.andThen]
 rw [Oper.upon_value]
 go_wp2
 go_ret
 exact ⟨rfl, rfl⟩
theorem clone_cB {h : Heap} {c j : Nat} {es : List (List Int × Value)} (hj : hget h j = some (.imap es)) :
 KC E0 94 [.map (some j)] h c (fun v h' c' => v = .map (some c) ∧ h' = (c, .imap es) :: h ∧ c' = c + 1) :=
 clone_rule Proofs.Tryz.func94 (by kernel_rfl) (by kernel_rfl) clone_rawB hj
set_option maxHeartbeats 2000000 in
set_option maxRecDepth 100000 in
theorem clone_rawK (w : World) (b : Nat) (es : Array MapEntry) (clock : Nat) (hb : w.heap[b]? = some (.map es clock)) : Calls Proofs.Tryz.prog 95 #[.map (some b)] w fun e w' => e = .returned (.map (some w.heap.size)) ∧ w' = w.alloc (.map es clock) := by
 have hq := fun w => run_eql_map_nil_sl (P := Proofs.Tryz.prog) w 48 _ _ (some b) Proofs.Tryz.underlying48
 refine calls_of_wp Proofs.Tryz.func95 rfl ?_
 simp only [Proofs.Tryz.ntmps95, List.size_toArray, List.length_cons, List.length_nil, Nat.reduceAdd, Nat.reduceSub, Array.replicate_succ, Array.replicate_zero, List.push_toArray, List.append_toArray, List.nil_append, List.cons_append]
 go_wp2
 rw [run_callFunc_extern Proofs.Tryz.func120 (by kernel_rfl) (by kernel_rfl) (by kernel_rfl) (e := Extern.MapsClone.clone) (by kernel_rfl), run_maps_clone_sl w 48 hb]
 simp only [Result.andThen]
 rw [Oper.upon_value]
 go_wp2
 rw [run_typeAssert_map_sl _ 48 20 _ _ _ Proofs.Tryz.underlying48]
 simp only [Result.andThen]
 rw [Oper.upon_value]
 go_wp2
 go_ret
 exact ⟨rfl, rfl⟩
theorem clone_cK {h : Heap} {c j : Nat} {es : List (List Int × Value)} (hj : hget h j = some (.imap es)) :
 KC E0 95 [.map (some j)] h c (fun v h' c' => v = .map (some c) ∧ h' = (c, .imap es) :: h ∧ c' = c + 1) :=
 clone_rule Proofs.Tryz.func95 (by kernel_rfl) (by kernel_rfl) clone_rawK hj
structure Bst where
 bays : Int
 came : Int
 taken : Int
 chest : Int
 bond : Int
 spoilt : Int
 out : Int
 year : Int
 t1 : Nat
 t2 : Nat
def Bst.nil : Bst := ⟨0, 0, 0, 0, 0, 0, 0, 0, 0, 0⟩
def encSt (x : Bst) : List Value := [ii x.bays, .chan (some (x.t1 + 2)), ii x.came, ii x.taken, ii x.chest, ii x.bond, ii x.spoilt, ii x.out, .chan (some (x.t2 + 2)), ii x.year]
theorem encSt_ok : Enc encSt 10 := ⟨fun _ => rfl, fun _ => rfl⟩
structure Bk where
 bays : Int
 came : Int
 taken : Int
 chest : Int
 bond : Int
 spoilt : Int
 out : Int
 year : Int
 bales : List (ByteArray × Bl)
 keys : List (Int × Bool)
 before : List Bst
 lines : List ByteArray
def cellsB (bays came taken chest bond spoilt out year : Int) (v1 v2 v3 v4 : Value) : XObj := .cells [ii bays, v1, ii came, ii taken, ii chest, ii bond, ii spoilt, ii out, v2, ii year, v3, v4] 0 53 0
def bookH (b : Bk) : Heap :=
 [(4, rc encS b.lines 0 9 1), (3, rc encSt b.before 0 50 10), (2, .imap (imC Value.bool b.keys)), (1, .imap (imS blV b.bales)),
  (0, .cells [ii b.bays, .map (some 1), ii b.came, ii b.taken, ii b.chest, ii b.bond, ii b.spoilt, ii b.out, .map (some 2), ii b.year, s0 3 b.before.length, s0 4 b.lines.length] 0 53 0)]
inductive Out where
 | same
 | back (x : Bst) (n3 c3 n4 c4 : Nat)
 | refuse
 | done (came taken chest bond spoilt out year : Int) (bales : List (ByteArray × Bl)) (keys : List (Int × Bool))
def OutH (b : Bk) (a : ByteArray) (o : Out) (h : Heap) : Prop :=
 match o with
 | .same => hget h 0 = some (cellsB b.bays b.came b.taken b.chest b.bond b.spoilt b.out b.year (.map (some 1)) (.map (some 2)) (s0 3 b.before.length) (s0 4 b.lines.length)) ∧ hget h 1 = some (.imap (imS blV b.bales)) ∧ hget h 2 = some (.imap (imC Value.bool b.keys)) ∧
  hget h 3 = some (rc encSt b.before 0 50 10) ∧ hget h 4 = some (rc encS b.lines 0 9 1)
 | .refuse => ∃ j1 j2, (2 < j1 ∧ 2 < j2 ∧ j1 ≠ j2 ∧ j1 ≠ 3 ∧ j1 ≠ 4 ∧ j2 ≠ 3 ∧ j2 ≠ 4) ∧ hget h 0 = some (cellsB b.bays b.came b.taken b.chest b.bond b.spoilt b.out b.year (.map (some j1)) (.map (some j2)) (s0 3 b.before.length) (s0 4 b.lines.length)) ∧ hget h j1 = some (.imap (imS blV b.bales)) ∧ hget h j2 = some (.imap (imC Value.bool b.keys)) ∧
  hget h 3 = some (rc encSt b.before 0 50 10) ∧ hget h 4 = some (rc encS b.lines 0 9 1)
 | .back x n3 c3 n4 c4 => hget h 0 = some (cellsB x.bays x.came x.taken x.chest x.bond x.spoilt x.out x.year (.chan (some (x.t1 + 2))) (.chan (some (x.t2 + 2))) (.slice (some ⟨3, 0, none⟩) n3 c3) (.slice (some ⟨4, 0, none⟩) n4 c4)) ∧
  hget h 3 = some (rc encSt b.before 0 50 10) ∧ hget h 4 = some (rc encS b.lines 0 9 1)
 | .done came taken chest bond spoilt out year bales keys => ∃ j3 j4 j5 j6, [0, 1, 2, j3, j4, j5, j6].Nodup ∧
  hget h 0 = some (cellsB b.bays came taken chest bond spoilt out year (.map (some 1)) (.map (some 2)) (s0 j3 (b.before.length + 1)) (s0 j4 (b.lines ++ [a]).length)) ∧ hget h 1 = some (.imap (imS blV bales)) ∧ hget h 2 = some (.imap (imC Value.bool keys)) ∧
  hget h j3 = some (.cells (rowC encSt b.before ++ [ii b.bays, .map (some j5), ii b.came, ii b.taken, ii b.chest, ii b.bond, ii b.spoilt, ii b.out, .map (some j6), ii b.year]) 0 50 10) ∧
  hget h j4 = some (rc encS (b.lines ++ [a]) 0 9 1) ∧ hget h j5 = some (.imap (imS blV b.bales)) ∧ hget h j6 = some (.imap (imC Value.bool b.keys))
theorem e_appendV {α : Type} {f : α → List Value} {s : Nat} (hf : Enc f s) {g : Ins} {d : Option (List Bool)} {bytes : Nat} {e : TypeId} {x y : Src} {t : Tr} {h h' : Heap} {c : Nat} (hI : g = .ef d (eAppend false s bytes e x y)) {b len cap : Nat} (hx : ev t x = .slice (some ⟨b, 0, none⟩) len cap) {xs : List α}
 (hg : hget h b = some (.cells (rowC f xs) 0 e s)) {m : Nat} {vs : List Value} (hy : fetch h s (ev t y) = some (m + 1, vs)) (hv : vs.all one1 = true) (hs1 : Nat.ble 1 s = true) (hlen : len = xs.length) (hcap : cap = xs.length) (hft : fitsB (len + (m + 1)) bytes = true) {n' : Nat} (hn' : len + (m + 1) = n')
 (hh : (c, .cells (rowC f xs ++ vs) 0 e s) :: hdel h b = h') :
 insE g t h c = some (.slice (some ⟨c, 0, none⟩) n' n', h', c + 1) := by
 subst hI
 subst hlen
 subst hcap
 subst hn'
 simp only [fitsB, Bool.and_eq_true] at hft
 obtain ⟨t1, t2⟩ := hft
 have hl := rowC_length hf xs
 have b1 : Nat.ble xs.length xs.length = true := Nat.ble_self_eq_true xs.length
 have b2 : Nat.ble (0 + xs.length * s) (rowC f xs).length = true := by rw [Nat.ble_eq]; omega
 have b3 : Nat.beq e e = true := Nat.beq_refl e
 have b4 : Nat.ble 0 (xs.length * s) = true := by rw [Nat.ble_eq]; omega
 have b5 : Nat.beq s s = true := Nat.beq_refl s
 simp only [insE, eAppend, hx, hg, hy, b1, b2, b3, t1, t2, hv, hs1, Bool.and_self]
 cases s with
 | zero => cases hs1
 | succ s' =>
  simp only [b4, b5, Bool.and_self]
  have h3 : ((rowC f xs).drop 0).take (xs.length * (s' + 1)) = rowC f xs := by
   rw [List.drop_zero]; exact List.take_of_length_le (by omega)
  have hw : wasH false h b 0 xs.length (s' + 1) c (rowC f xs) 0 e (s' + 1) = hdel h b := rfl
  rw [h3, hw, hh]
structure Now where
 bays : Int
 came : Int
 taken : Int
 chest : Int
 bond : Int
 spoilt : Int
 out : Int
 year : Int
 bales : List (ByteArray × Bl)
 keys : List (Int × Bool)
structure BkS where
 now : Now
 before : List Now
 lines : List ByteArray
def Now.bst (n : Now) (t1 t2 : Nat) : Bst := ⟨n.bays, n.came, n.taken, n.chest, n.bond, n.spoilt, n.out, n.year, t1, t2⟩
def bkT (s : BkS) (l : List Bst) : Bk := ⟨s.now.bays, s.now.came, s.now.taken, s.now.chest, s.now.bond, s.now.spoilt, s.now.out, s.now.year, s.now.bales, s.now.keys, l, s.lines⟩
def toks (l : List Bst) : List Nat := l.flatMap fun x => [x.t1, x.t2]
def FitN : List Now → List Bst → Prop
 | [], [] => True
 | n :: ns, x :: l => x = n.bst x.t1 x.t2 ∧ FitN ns l
 | _, _ => False
def Hid (w : World) : List Now → List Bst → Prop
 | [], [] => True
 | n :: ns, x :: l => OOk [] w ⟨x.t1, 0, 0, 0⟩ (.imap (imS blV n.bales)) ∧ OOk [] w ⟨x.t2, 0, 0, 0⟩ (.imap (imC Value.bool n.keys)) ∧ Hid w ns l
 | _, _ => False
theorem Hid.world {w w' : World} : ∀ {ns : List Now} {l : List Bst}, Hid w ns l → (∀ t, t ∈ toks l → w'.heap[t]? = w.heap[t]?) → Hid w' ns l
 | [], [], _, _ => trivial
 | n :: ns, x :: l, h, e => by
  obtain ⟨h1, h2, h3⟩ := h
  refine ⟨h1.world (e _ (by simp [toks])), h2.world (e _ (by simp [toks])), h3.world fun t ht => e t ?_⟩
  simp only [toks, List.flatMap_cons, List.mem_append] at ht ⊢
  exact .inr ht
 | [], _ :: _, h, _ => h.elim
 | _ :: _, [], h, _ => h.elim
theorem Hid.lt {w : World} : ∀ {ns : List Now} {l : List Bst}, Hid w ns l → ∀ t, t ∈ toks l → t < w.heap.size
 | [], [], _, t, ht => by cases ht
 | n :: ns, x :: l, h, t, ht => by
  obtain ⟨h1, h2, h3⟩ := h
  simp only [toks, List.flatMap_cons, List.mem_append, List.mem_cons, List.not_mem_nil, or_false] at ht
  rcases ht with (rfl | rfl) | ht
  ·exact h1.lt (fun q => q.1 rfl) trivial
  ·exact h2.lt (fun q => q.1 rfl) trivial
  ·exact h3.lt t ht
 | [], _ :: _, h, _, _ => h.elim
 | _ :: _, [], h, _, _ => h.elim
theorem Hid.snoc {w : World} {n : Now} {x : Bst} : ∀ {ns : List Now} {l : List Bst}, Hid w ns l → OOk [] w ⟨x.t1, 0, 0, 0⟩ (.imap (imS blV n.bales)) → OOk [] w ⟨x.t2, 0, 0, 0⟩ (.imap (imC Value.bool n.keys)) → Hid w (ns ++ [n]) (l ++ [x])
 | [], [], _, h1, h2 => ⟨h1, h2, trivial⟩
 | _ :: _, _ :: _, h, h1, h2 => ⟨h.1, h.2.1, h.2.2.snoc h1 h2⟩
 | [], _ :: _, h, _, _ => h.elim
 | _ :: _, [], h, _, _ => h.elim
theorem FitN.len : ∀ {ns : List Now} {l : List Bst}, FitN ns l → ns.length = l.length
 | [], [], _ => rfl
 | _ :: _, _ :: _, h => by rw [List.length_cons, List.length_cons, h.2.len]
 | [], _ :: _, h => h.elim
 | _ :: _, [], h => h.elim
theorem FitN.snoc {n : Now} {t1 t2 : Nat} : ∀ {ns : List Now} {l : List Bst}, FitN ns l → FitN (ns ++ [n]) (l ++ [n.bst t1 t2])
 | [], [], _ => ⟨rfl, trivial⟩
 | _ :: _, _ :: _, h => ⟨h.1, h.2.snoc⟩
 | [], _ :: _, h => h.elim
 | _ :: _, [], h => h.elim
theorem FitN.last {n : Now} : ∀ {ns : List Now} {l : List Bst}, FitN (ns ++ [n]) l → ∃ l' t1 t2, l = l' ++ [n.bst t1 t2] ∧ FitN ns l'
 | [], [], h => h.elim
 | [], [x], h => ⟨[], x.t1, x.t2, by rw [← h.1]; rfl, trivial⟩
 | [], _ :: _ :: _, h => h.2.elim
 | _ :: _, [], h => h.elim
 | a :: ns, x :: l, h => by
  obtain ⟨l', t1, t2, e, f⟩ := h.2.last
  exact ⟨x :: l', t1, t2, by rw [e]; rfl, h.1, f⟩
theorem Hid.last {w : World} {n : Now} {x : Bst} : ∀ {ns : List Now} {l : List Bst}, ns.length = l.length → Hid w (ns ++ [n]) (l ++ [x]) → Hid w ns l ∧ OOk [] w ⟨x.t1, 0, 0, 0⟩ (.imap (imS blV n.bales)) ∧ OOk [] w ⟨x.t2, 0, 0, 0⟩ (.imap (imC Value.bool n.keys))
 | [], [], _, h => ⟨trivial, h.1, h.2.1⟩
 | _ :: _, _ :: _, e, h => by
  have := h.2.2.last (by simpa using e)
  exact ⟨⟨h.1, h.2.1, this.1⟩, this.2⟩
theorem OOk.conv {ρ ρ2 : Rho} {w : World} {L : Loc} {cs cs' : List Value} {fz : Nat} {e : TypeId} {es : Nat} (h : OOk ρ w L (.cells cs fz e es)) (hl : cs'.length = cs.length)
 (hv : ∀ (k : Nat) (v v' u : Value), cs[k]? = some v → cs'[k]? = some v' → VRel ρ v u → VRel ρ2 v' u) : OOk ρ2 w L (.cells cs' fz e es) := by
 obtain ⟨q0, q | ⟨C, fr, q1, q2, q3, q4, q5, q6⟩⟩ := h
 ·exact ⟨q0, .inl ⟨q.1, List.eq_nil_of_length_eq_zero (by rw [hl, q.2]; rfl)⟩⟩
 ·refine ⟨q0, .inr ⟨C, fr, q1, q2, by rw [hl]; exact q3, fun a v hv' => ?_, q5, fun q => by rw [hl]; exact q6 q⟩⟩
  have ha : a < cs.length := by rw [← hl]; exact (List.getElem?_eq_some_iff.1 hv').1
  obtain ⟨u, u1, u2⟩ := q4 a _ (List.getElem?_eq_getElem ha)
  exact ⟨u, u1, hv a _ v u (List.getElem?_eq_getElem ha) hv' u2⟩
theorem OOk.take {ρ : Rho} {w : World} {L : Loc} {cs : List Value} {fz : Nat} {e : TypeId} {es : Nat} (hes : es ≠ 0) (h : OOk ρ w L (.cells cs fz e es)) (m : Nat) : OOk ρ w L (.cells (cs.take m) fz e es) := by
 obtain ⟨q0, q | ⟨C, fr, q1, q2, q3, q4, q5, q6⟩⟩ := h
 ·exact ⟨q0, .inl ⟨q.1, by rw [q.2]; simp⟩⟩
 ·have hl : (cs.take m).length ≤ cs.length := by rw [List.length_take]; omega
  refine ⟨q0, .inr ⟨C, fr, q1, q2, by omega, fun a v hv => ?_, q5, fun q => absurd (q0 ▸ q) hes⟩⟩
  rw [List.getElem?_take] at hv
  split at hv
  ·exact q4 a v hv
  ·cases hv
theorem noX_book (b : Bk) : noX (bookH b) := by
 intro i p h
 simp only [bookH, hget_cons] at h
 repeat' split at h
 all_goals first | cases h | (rw [hget_nil] at h; cases h)
structure BookW (b : Bk) (w : World) (L0 L1 L2 L3 L4 : Loc) : Prop where
 o0 : OOk [L0, L1, L2, L3, L4] w L0 (cellsB b.bays b.came b.taken b.chest b.bond b.spoilt b.out b.year (.map (some 1)) (.map (some 2)) (s0 3 b.before.length) (s0 4 b.lines.length))
 o1 : OOk [] w L1 (.imap (imS blV b.bales))
 o2 : OOk [] w L2 (.imap (imC Value.bool b.keys))
 o3 : OOk [] w L3 (rc encSt b.before 0 50 10)
 o4 : OOk [] w L4 (rc encS b.lines 0 9 1)
 d01 : L0.b ≠ L1.b
 d02 : L0.b ≠ L2.b
 d12 : L1.b ≠ L2.b
 d3 : ¬ L3.gho → L3.b ≠ L0.b ∧ L3.b ≠ L1.b ∧ L3.b ≠ L2.b
 d4 : ¬ L4.gho → L4.b ≠ L0.b ∧ L4.b ≠ L1.b ∧ L4.b ≠ L2.b ∧ (¬ L3.gho → L4.b ≠ L3.b)
theorem encSt_flt (l : List Bst) : (rowC encSt l).all flt = true := by
 induction l with
 | nil => rfl
 | cons x l ih =>
  rw [rowC_cons, List.all_append, ih, Bool.and_true]
  rfl
theorem encS_flt (l : List ByteArray) : (rowC encS l).all flt = true := all_flt (by
 induction l with
 | nil => rfl
 | cons x l ih =>
  rw [rowC_cons, List.all_append, ih, Bool.and_true]
  rfl)
theorem BookW.rel {b : Bk} {w : World} {L0 L1 L2 L3 L4 : Loc} (h : BookW b w L0 L1 L2 L3 L4) : HRel ⟨0, []⟩ [L0, L1, L2, L3, L4] (bookH b) w := by
 have p3 : OOk [L0, L1, L2, L3, L4] w L3 (rc encSt b.before 0 50 10) := h.o3.flt_any (encSt_flt _)
 have p4 : OOk [L0, L1, L2, L3, L4] w L4 (rc encS b.lines 0 9 1) := h.o4.flt_any (encS_flt _)
 have hok : ∀ i o, hget (bookH b) i = some o → i < 5 ∧ ∃ L, ([L0, L1, L2, L3, L4] : Rho)[i]? = some L ∧ OOk [L0, L1, L2, L3, L4] w L o := by
  intro i o hi
  simp only [bookH, hget_cons] at hi
  split at hi
  ·subst i; cases hi; exact ⟨by decide, L4, rfl, p4⟩
  split at hi
  ·subst i; cases hi; exact ⟨by decide, L3, rfl, p3⟩
  split at hi
  ·subst i; cases hi; exact ⟨by decide, L2, rfl, h.o2⟩
  split at hi
  ·subst i; cases hi; exact ⟨by decide, L1, rfl, h.o1⟩
  split at hi
  ·subst i; cases hi; exact ⟨by decide, L0, rfl, h.o0⟩
  ·rw [hget_nil] at hi; cases hi
 refine ⟨fun i o hi => ?_, fun i j o o' L L' hi hj hL hL' n1 n2 _ _ _ hb => ?_, .none (noX_book b)⟩
 ·obtain ⟨_, L, q1, q2⟩ := hok i o hi
  exact ⟨L, q1, fun _ _ => .inl (Nat.zero_le _), q2⟩
 ·obtain ⟨i5, _⟩ := hok i o hi
  obtain ⟨j5, _⟩ := hok j o' hj
  have d3 := h.d3
  have d4 := h.d4
  have d01 := h.d01
  have d02 := h.d02
  have d12 := h.d12
  rcases (show i = 0 ∨ i = 1 ∨ i = 2 ∨ i = 3 ∨ i = 4 by omega) with rfl | rfl | rfl | rfl | rfl <;>
  rcases (show j = 0 ∨ j = 1 ∨ j = 2 ∨ j = 3 ∨ j = 4 by omega) with rfl | rfl | rfl | rfl | rfl <;> cases hL <;> cases hL' <;> first
   | rfl
   | exact absurd hb d01
   | exact absurd hb d02
   | exact absurd hb d12
   | exact absurd hb.symm d01
   | exact absurd hb.symm d02
   | exact absurd hb.symm d12
   | exact absurd hb (d3 n1).1
   | exact absurd hb (d3 n1).2.1
   | exact absurd hb (d3 n1).2.2
   | exact absurd hb.symm (d3 n2).1
   | exact absurd hb.symm (d3 n2).2.1
   | exact absurd hb.symm (d3 n2).2.2
   | exact absurd hb (d4 n1).1
   | exact absurd hb (d4 n1).2.1
   | exact absurd hb (d4 n1).2.2.1
   | exact absurd hb ((d4 n1).2.2.2 n2)
   | exact absurd hb.symm (d4 n2).1
   | exact absurd hb.symm (d4 n2).2.1
   | exact absurd hb.symm (d4 n2).2.2.1
   | exact absurd hb.symm ((d4 n2).2.2.2 n1)
theorem BookW.ng {b : Bk} {w : World} {L0 L1 L2 L3 L4 : Loc} (h : BookW b w L0 L1 L2 L3 L4) : ¬ L0.gho ∧ ¬ L1.gho ∧ ¬ L2.gho := by
 refine ⟨fun q => q.1 h.o0.1, fun q => q.1 h.o1.2.1, fun q => q.1 h.o2.2.1⟩
theorem BookW.world {b : Bk} {w w' : World} {L0 L1 L2 L3 L4 : Loc} (h : BookW b w L0 L1 L2 L3 L4) (e : ∀ L, L ∈ [L0, L1, L2, L3, L4] → ¬ L.gho → w'.heap[L.b]? = w.heap[L.b]?) : BookW b w' L0 L1 L2 L3 L4 := by
 obtain ⟨g0, g1, g2⟩ := h.ng
 refine ⟨h.o0.world (e _ (by simp) g0), h.o1.world (e _ (by simp) g1), h.o2.world (e _ (by simp) g2), ?_, ?_, h.d01, h.d02, h.d12, h.d3, h.d4⟩
 ·exact h.o3.stay (fun _ g _ => e _ (by simp) g)
 ·exact h.o4.stay (fun _ g _ => e _ (by simp) g)
theorem BookW.lt {b : Bk} {w : World} {L0 L1 L2 L3 L4 : Loc} (h : BookW b w L0 L1 L2 L3 L4) : ∀ L, L ∈ [L0, L1, L2, L3, L4] → ¬ L.gho → L.b < w.heap.size := by
 intro L hL g
 simp only [List.mem_cons, List.not_mem_nil, or_false] at hL
 rcases hL with rfl | rfl | rfl | rfl | rfl
 ·exact h.o0.lt g trivial
 ·exact h.o1.lt g trivial
 ·exact h.o2.lt g trivial
 ·exact h.o3.lt g trivial
 ·exact h.o4.lt g trivial
def bookP (s : BkS) (w : World) (b : Nat) (F : List Nat) : Prop := ∃ (l : List Bst) (L1 L2 L3 L4 : Loc),
 BookW (bkT s l) w ⟨b, 0, 12, 0⟩ L1 L2 L3 L4 ∧ (∀ L, L ∈ [L1, L2, L3, L4] → ¬ L.gho → L.b ∈ F) ∧ FitN s.before l ∧ Hid w s.before l ∧ (toks l).Nodup ∧
 (∀ t, t ∈ toks l → t ∈ F ∧ t ≠ b ∧ ∀ L, L ∈ [L1, L2, L3, L4] → ¬ L.gho → L.b ≠ t) ∧ ∀ x, x ∈ F → x < w.heap.size
theorem heap_lt_of_eq {w w' : World} {x : Nat} (h : x < w.heap.size) (e : w'.heap[x]? = w.heap[x]?) : x < w'.heap.size := by
 rw [Array.getElem?_eq_getElem h] at e
 exact (Array.getElem?_eq_some_iff.1 e).1
def bookX (s : BkS) : Ext where
 P := bookP s
 frame w w' b F h hw := by
  obtain ⟨l, L1, L2, L3, L4, h1, h2, h3, h4, h5, h6, h7⟩ := h
  refine ⟨l, L1, L2, L3, L4, h1.world fun L hL g => ?_, h2, h3, h4.world fun t ht => hw t (.inr (h6 t ht).1), h5, h6, fun x hx => heap_lt_of_eq (h7 x hx) (hw x (.inr hx))⟩
  rcases List.mem_cons.1 hL with rfl | hL
  ·exact hw _ (.inl rfl)
  ·exact hw _ (.inr (h2 L hL g))
 lt w b F h x hx := by
  obtain ⟨l, L1, L2, L3, L4, h1, h2, h3, h4, h5, h6, h7⟩ := h
  rcases hx with rfl | hx
  ·exact h1.lt ⟨x, 0, 12, 0⟩ (by simp) (fun q => q.1 rfl)
  ·exact h7 x hx
def nextS (s : BkS) (a : ByteArray) : Out → BkS
 | .same => s
 | .refuse => s
 | .back _ _ _ _ _ => ⟨(s.before.getLast?).getD s.now, s.before.dropLast, s.lines.dropLast⟩
 | .done came taken chest bond spoilt out year bales keys => ⟨⟨s.now.bays, came, taken, chest, bond, spoilt, out, year, bales, keys⟩, s.before ++ [s.now], s.lines ++ [a]⟩
theorem cellsB_conv {ρ ρ2 : Rho} {w : World} {L : Loc} {n1 n2 n3 n4 n5 n6 n7 n8 : Int} {v1 v2 v3 v4 u1 u2 u3 u4 : Value} (h : OOk ρ w L (cellsB n1 n2 n3 n4 n5 n6 n7 n8 v1 v2 v3 v4))
 (c1 : ∀ u, VRel ρ v1 u → VRel ρ2 u1 u) (c2 : ∀ u, VRel ρ v2 u → VRel ρ2 u2 u) (c3 : ∀ u, VRel ρ v3 u → VRel ρ2 u3 u) (c4 : ∀ u, VRel ρ v4 u → VRel ρ2 u4 u) : OOk ρ2 w L (cellsB n1 n2 n3 n4 n5 n6 n7 n8 u1 u2 u3 u4) := by
 refine OOk.conv h rfl (fun k v v' u e1 e2 hr => ?_)
 rcases k with _ | _ | _ | _ | _ | _ | _ | _ | _ | _ | _ | _ | k
 ·cases e1; cases e2; cases hr; exact .int _ _
 ·cases e1; cases e2; exact c1 u hr
 ·cases e1; cases e2; cases hr; exact .int _ _
 ·cases e1; cases e2; cases hr; exact .int _ _
 ·cases e1; cases e2; cases hr; exact .int _ _
 ·cases e1; cases e2; cases hr; exact .int _ _
 ·cases e1; cases e2; cases hr; exact .int _ _
 ·cases e1; cases e2; cases hr; exact .int _ _
 ·cases e1; cases e2; exact c2 u hr
 ·cases e1; cases e2; cases hr; exact .int _ _
 ·cases e1; cases e2; exact c3 u hr
 ·cases e1; cases e2; exact c4 u hr
 ·cases e1
theorem conv_map {ρ ρ2 : Rho} {j i : Nat} {K : Loc} (h1 : ρ[j]? = some K) (h2 : ρ2[i]? = some K) (u : Value) (h : VRel ρ (.map (some j)) u) : VRel ρ2 (.map (some i)) u := by
 cases h with
 | map _ L hL => rw [h1] at hL; cases hL; exact .map _ _ h2
theorem conv_tok {ρ ρ2 : Rho} {t i : Nat} {K : Loc} (h2 : ρ2[i]? = some K) (hb : K.b = t) (u : Value) (h : VRel ρ (.chan (some (t + 2))) u) : VRel ρ2 (.map (some i)) u := by
 cases h with
 | tok => subst hb; exact .map _ _ h2
theorem conv_sl {ρ ρ2 : Rho} {j i n c : Nat} {K : Loc} (h1 : ρ[j]? = some K) (h2 : ρ2[i]? = some K) (hes : K.es ≠ 0) (hn : n ≤ c) (u : Value) (h : VRel ρ (.slice (some ⟨j, 0, none⟩) n c) u) : VRel ρ2 (s0 i n) u := by
 cases h with
 | slice _ _ _ _ M o' cap' hL hz h0 h3 =>
  rw [h1] at hL; cases hL
  refine .slice _ _ _ _ _ _ _ h2 ?_ (fun q => absurd q hes) (fun _ => ?_)
  ·rcases hz with q | q
   ·exact .inl q
   ·exact .inr ⟨q.2, q.2⟩
  ·have := h3 hes
   exact ⟨Nat.le_trans hn this.1, this.2⟩
 | sliceN _ _ M hL g =>
  rw [h1] at hL; cases hL
  exact .sliceN _ _ _ h2 g
theorem rowC_appendN {α : Type} (f : α → List Value) (xs ys : List α) : rowC f (xs ++ ys) = rowC f xs ++ rowC f ys := by
 induction xs with
 | nil => rfl
 | cons x l ih => rw [List.cons_append, rowC_cons, rowC_cons, ih, List.append_assoc]
theorem rowC_takeN {α : Type} {f : α → List Value} {s : Nat} (hf : Enc f s) (xs : List α) (n : Nat) : (rowC f xs).take (n * s) = rowC f (xs.take n) := by
 have h : rowC f xs = rowC f (xs.take n) ++ rowC f (xs.drop n) := by rw [← rowC_appendN, List.take_append_drop]
 by_cases e : n ≤ xs.length
 ·rw [h, List.take_append_of_le_length (by rw [rowC_length hf, List.length_take]; rw [Nat.min_eq_left e]; exact Nat.le_refl _), List.take_of_length_le (by rw [rowC_length hf, List.length_take, Nat.min_eq_left e]; exact Nat.le_refl _)]
 ·rw [List.take_of_length_le (l := xs) (by omega), List.take_of_length_le]
  rw [rowC_length hf]
  exact Nat.mul_le_mul_right _ (by omega)
theorem frz_rc {cs : List Value} {e : TypeId} {es : Nat} : frz (.cells cs 0 e es) = false := by
 show Nat.blt cs.length 0 = false
 cases hb : Nat.blt cs.length 0 with
 | false => rfl
 | true => rw [Nat.blt_eq] at hb; omega
theorem toks_append (l m : List Bst) : toks (l ++ m) = toks l ++ toks m := by simp [toks]
theorem out_next {s : BkS} {l : List Bst} {L1 L2 L3 L4 : Loc} {w w' : World} {b : Nat} {F M : List Nat} {a : ByteArray} {o : Out} {ρ' : Rho} {h' : Heap}
 (hW : BookW (bkT s l) w ⟨b, 0, 12, 0⟩ L1 L2 L3 L4) (hF : ∀ L, L ∈ [L1, L2, L3, L4] → ¬ L.gho → L.b ∈ F) (hfit : FitN s.before l) (hh : Hid w s.before l) (hnd : (toks l).Nodup)
 (ht : ∀ t, t ∈ toks l → t ∈ F ∧ t ≠ b ∧ ∀ L, L ∈ [L1, L2, L3, L4] → ¬ L.gho → L.b ≠ t) (hlt : ∀ x, x ∈ F → x < w.heap.size) (hbF : b ∉ F)
 (hM : ∀ x, x ∈ M → x = b ∨ ∃ L, L ∈ [L1, L2, L3, L4] ∧ ¬ L.gho ∧ L.b = x)
 (H : HRel ⟨w.heap.size, M⟩ ρ' h' w') (hle : Rho.le [⟨b, 0, 12, 0⟩, L1, L2, L3, L4] ρ') (hbel : Bel ⟨w.heap.size, M⟩ w w') (hO : OutH (bkT s l) a o h')
 (hback : ∀ x n3 c3 n4 c4, o = .back x n3 c3 n4 c4 → l.getLast? = some x ∧ n3 + 1 = l.length ∧ n3 ≤ c3 ∧ n4 + 1 = s.lines.length ∧ n4 ≤ c4) :
 ∃ F', bookP (nextS s a o) w' b F' ∧ b ∉ F' ∧ ∀ x, x ∈ F' → x ∈ F ∨ w.heap.size ≤ x := by
 have hbs : b < w.heap.size := hW.lt ⟨b, 0, 12, 0⟩ (by simp) (fun q => q.1 rfl)
 obtain ⟨F', hF'⟩ : ∃ F' : List Nat, ∀ x, x ∈ F' ↔ x ∈ F ∨ (w.heap.size ≤ x ∧ x < w'.heap.size) := ⟨F ++ (List.range w'.heap.size).filter (fun x => decide (w.heap.size ≤ x)), fun x => by
  rw [List.mem_append, List.mem_filter, List.mem_range, decide_eq_true_eq]
  exact ⟨fun q => q.imp id (fun ⟨p, r⟩ => ⟨r, p⟩), fun q => q.imp id (fun ⟨p, r⟩ => ⟨r, p⟩)⟩⟩
 have htok : ∀ t, t ∈ toks l → t < w.heap.size ∧ t ∉ M := fun t q => by
  refine ⟨hh.lt t q, fun m => ?_⟩
  rcases hM t m with e | ⟨L, e1, e2, e3⟩
  ·exact (ht t q).2.1 e
  ·exact (ht t q).2.2 L e1 e2 e3
 have hkeep : ∀ t, t ∈ toks l → w'.heap[t]? = w.heap[t]? := fun t q => hbel.block t (fun m => by
  have := htok t q
  rcases m with m | m
  ·exact absurd this.1 (Nat.not_lt.2 m)
  ·exact this.2 m)
 have lv : ∀ i o L, hget h' i = some o → ρ'[i]? = some L → ¬ L.gho → frz o = false → own ρ' L o → (L.b = b ∨ L.b ∈ F') ∧ ∀ t, t ∈ toks l → L.b ≠ t := fun i o L hi hL g hz ow => by
  obtain ⟨m, k⟩ := H.at hi hL
  have hlt' := k.lt g ow
  rcases m hz g with m | m
  ·exact ⟨.inr ((hF' _).2 (.inr ⟨m, hlt'⟩)), fun t q e => absurd (htok t q).1 (by rw [← e]; exact Nat.not_lt.2 m)⟩
  ·refine ⟨?_, fun t q e => (htok t q).2 (by rw [← e]; exact m)⟩
   rcases hM _ m with e | ⟨N, e1, e2, e3⟩
   ·exact .inl e
   ·exact .inr ((hF' _).2 (.inl (by rw [← e3]; exact hF N e1 e2)))
 have dif : ∀ i j o o' L L', hget h' i = some o → hget h' j = some o' → ρ'[i]? = some L → ρ'[j]? = some L' → ¬ L.gho → ¬ L'.gho → frz o = false → own ρ' L o → own ρ' L' o' → i ≠ j → L.b ≠ L'.b :=
  fun i j o o' L L' hi hj hL hL' g1 g2 hz w1 w2 ne e => ne (H.inj i j o o' L L' hi hj hL hL' g1 g2 w1 w2 (.inl hz) e)
 have h0 : ρ'[0]? = some ⟨b, 0, 12, 0⟩ := hle 0 _ rfl
 have ngi : ∀ {K : Loc} {es : List (List Int × Value)}, OOk ρ' w' K (.imap es) → ¬ K.gho := fun k q => q.1 k.2.1
 have ngc : ¬ (⟨b, 0, 12, 0⟩ : Loc).gho := fun q => q.1 rfl
 have inF : ∀ i o L, hget h' i = some o → ρ'[i]? = some L → ¬ L.gho → frz o = false → own ρ' L o → (∀ o0, hget h' 0 = some o0 → frz o0 = false → own ρ' ⟨b, 0, 12, 0⟩ o0 → i ≠ 0 → L.b ∈ F') := fun i o L hi hL g hz ow o0 e0 z0 w0 ne => by
  rcases (lv i o L hi hL g hz ow).1 with e | e
  ·exact absurd e (dif i 0 o o0 L _ hi e0 hL h0 g ngc hz ow w0 ne)
  ·exact e
 have hb' : b ∉ F' := fun q => by
  rcases (hF' b).1 q with q | q
  ·exact hbF q
  ·exact absurd hbs (Nat.not_lt.2 q.1)
 have hsub : ∀ x, x ∈ F' → x ∈ F ∨ w.heap.size ≤ x := fun x q => ((hF' x).1 q).imp id (fun p => p.1)
 have hltF : ∀ x, x ∈ F' → x < w'.heap.size := fun x q => by
  rcases (hF' x).1 q with q | q
  ·exact Nat.lt_of_lt_of_le (hlt x q) hbel.size
  ·exact q.2
 have tokF : ∀ t, t ∈ toks l → t ∈ F' := fun t q => (hF' t).2 (.inl (ht t q).1)
 -- five blocks under any numbers
 have five : ∀ (n : Now) (l2 : List Bst) (ls : List ByteArray) (j1 j2 j3 j4 : Nat), hget h' 0 = some (cellsB n.bays n.came n.taken n.chest n.bond n.spoilt n.out n.year (.map (some j1)) (.map (some j2)) (s0 j3 l2.length) (s0 j4 ls.length)) →
  hget h' j1 = some (.imap (imS blV n.bales)) → hget h' j2 = some (.imap (imC Value.bool n.keys)) →
  ∀ (cs3 : List Value) (K3 : Loc), ρ'[j3]? = some K3 → hget h' j3 = some (.cells cs3 0 50 10) → OOk [] w' K3 (rc encSt l2 0 50 10) → hget h' j4 = some (rc encS ls 0 9 1) →
  (0 ≠ j1 ∧ 0 ≠ j2 ∧ 0 ≠ j3 ∧ 0 ≠ j4) → (j1 ≠ j2 ∧ j1 ≠ j3 ∧ j1 ≠ j4 ∧ j2 ≠ j3 ∧ j2 ≠ j4 ∧ j3 ≠ j4) →
  ∃ K1 K2 K4, ρ'[j1]? = some K1 ∧ ρ'[j2]? = some K2 ∧ ρ'[j4]? = some K4 ∧ BookW (bkT ⟨n, [], ls⟩ l2) w' ⟨b, 0, 12, 0⟩ K1 K2 K3 K4 ∧ (∀ L, L ∈ [K1, K2, K3, K4] → ¬ L.gho → L.b ∈ F') ∧ ∀ t, t ∈ toks l → ∀ L, L ∈ [K1, K2, K3, K4] → ¬ L.gho → L.b ≠ t := by
  intro n l2 ls j1 j2 j3 j4 e0 e1 e2 cs3 K3 k3 e3 o3 e4 nz nn
  obtain ⟨K1, k1, _, o1⟩ := H.ok j1 _ e1
  obtain ⟨K2, k2, _, o2⟩ := H.ok j2 _ e2
  obtain ⟨K4, k4, _, o4⟩ := H.ok j4 _ e4
  have o0 := (H.at e0 h0).2
  have g1 := ngi o1
  have g2 := ngi o2
  have es3 : K3.es = 10 := o3.1
  have es4 : K4.es = 1 := o4.1
  have f1 : frz (.imap (imS blV n.bales)) = false := rfl
  have f2 : frz (.imap (imC Value.bool n.keys)) = false := rfl
  refine ⟨K1, K2, K4, k1, k2, k4, ⟨?_, o1, o2, o3, o4.flt_any (encS_flt _), ?_, ?_, ?_, fun g => ⟨?_, ?_, ?_⟩, fun g => ⟨?_, ?_, ?_, fun g3 => ?_⟩⟩, ?_, ?_⟩
  ·refine cellsB_conv o0 (conv_map k1 rfl) (conv_map k2 rfl) (conv_sl k3 rfl (by rw [es3]; decide) (Nat.le_refl _)) (conv_sl k4 rfl (by rw [es4]; decide) (Nat.le_refl _))
  ·exact dif 0 j1 _ _ _ _ e0 e1 h0 k1 ngc g1 rfl trivial trivial nz.1
  ·exact dif 0 j2 _ _ _ _ e0 e2 h0 k2 ngc g2 rfl trivial trivial nz.2.1
  ·exact dif j1 j2 _ _ _ _ e1 e2 k1 k2 g1 g2 rfl trivial trivial nn.1
  ·exact dif j3 0 _ _ _ _ e3 e0 k3 h0 g ngc frz_rc trivial trivial (Ne.symm nz.2.2.1)
  ·exact dif j3 j1 _ _ _ _ e3 e1 k3 k1 g g1 frz_rc trivial trivial (Ne.symm nn.2.1)
  ·exact dif j3 j2 _ _ _ _ e3 e2 k3 k2 g g2 frz_rc trivial trivial (Ne.symm nn.2.2.2.1)
  ·exact dif j4 0 _ _ _ _ e4 e0 k4 h0 g ngc frz_rc trivial trivial (Ne.symm nz.2.2.2)
  ·exact dif j4 j1 _ _ _ _ e4 e1 k4 k1 g g1 frz_rc trivial trivial (Ne.symm nn.2.2.1)
  ·exact dif j4 j2 _ _ _ _ e4 e2 k4 k2 g g2 frz_rc trivial trivial (Ne.symm nn.2.2.2.2.1)
  ·exact dif j4 j3 _ _ _ _ e4 e3 k4 k3 g g3 frz_rc trivial trivial (Ne.symm nn.2.2.2.2.2)
  ·intro L hL g
   simp only [List.mem_cons, List.not_mem_nil, or_false] at hL
   rcases hL with rfl | rfl | rfl | rfl
   ·exact inF j1 _ _ e1 k1 g rfl trivial _ e0 rfl trivial (Ne.symm nz.1)
   ·exact inF j2 _ _ e2 k2 g rfl trivial _ e0 rfl trivial (Ne.symm nz.2.1)
   ·exact inF j3 _ _ e3 k3 g frz_rc trivial _ e0 rfl trivial (Ne.symm nz.2.2.1)
   ·exact inF j4 _ _ e4 k4 g frz_rc trivial _ e0 rfl trivial (Ne.symm nz.2.2.2)
  ·intro t q L hL g
   simp only [List.mem_cons, List.not_mem_nil, or_false] at hL
   rcases hL with rfl | rfl | rfl | rfl
   ·exact (lv j1 _ _ e1 k1 g rfl trivial).2 t q
   ·exact (lv j2 _ _ e2 k2 g rfl trivial).2 t q
   ·exact (lv j3 _ _ e3 k3 g frz_rc trivial).2 t q
   ·exact (lv j4 _ _ e4 k4 g frz_rc trivial).2 t q
 refine ⟨F', ?_, hb', hsub⟩
 cases o with
 | same =>
  obtain ⟨e0, e1, e2, e3, e4⟩ := hO
  obtain ⟨K3, k3, _, o3⟩ := H.ok 3 _ e3
  obtain ⟨K1, K2, K4, _, _, _, r1, r2, r3⟩ := five s.now l s.lines 1 2 3 4 e0 e1 e2 _ K3 k3 e3 (o3.flt_any (encSt_flt _)) e4 (by decide) (by decide)
  exact ⟨l, K1, K2, K3, K4, r1, r2, hfit, hh.world hkeep, hnd, fun t q => ⟨tokF t q, (ht t q).2.1, r3 t q⟩, hltF⟩
 | refuse =>
  obtain ⟨j1, j2, ⟨q1, q2, q3, q4, q5, q6, q7⟩, e0, e1, e2, e3, e4⟩ := hO
  obtain ⟨K3, k3, _, o3⟩ := H.ok 3 _ e3
  obtain ⟨K1, K2, K4, _, _, _, r1, r2, r3⟩ := five s.now l s.lines j1 j2 3 4 e0 e1 e2 _ K3 k3 e3 (o3.flt_any (encSt_flt _)) e4 ⟨by omega, by omega, by omega, by omega⟩ ⟨q3, q4, q5, q6, q7, by omega⟩
  exact ⟨l, K1, K2, K3, K4, r1, r2, hfit, hh.world hkeep, hnd, fun t q => ⟨tokF t q, (ht t q).2.1, r3 t q⟩, hltF⟩
 | done came taken chest bond spoilt out year bales keys =>
  obtain ⟨j3, j4, j5, j6, hn, e0, e1, e2, e3, e4, e5, e6⟩ := hO
  obtain ⟨K3, k3, _, o3⟩ := H.ok j3 _ e3
  obtain ⟨K5, k5, _, o5⟩ := H.ok j5 _ e5
  obtain ⟨K6, k6, _, o6⟩ := H.ok j6 _ e6
  have hlen : (bkT s l).before.length + 1 = (l ++ [s.now.bst K5.b K6.b]).length := by rw [List.length_append]; rfl
  rw [hlen] at e0
  simp only [List.nodup_cons, List.mem_cons, List.not_mem_nil, or_false, not_or] at hn
  obtain ⟨⟨n01, n02, n03, n04, n05, n06⟩, ⟨n12, n13, n14, n15, n16⟩, ⟨n23, n24, n25, n26⟩, ⟨n34, n35, n36⟩, ⟨n45, n46⟩, n56, _⟩ := hn
  have o3' : OOk [] w' K3 (rc encSt (l ++ [s.now.bst K5.b K6.b]) 0 50 10) := by
   have hr : rowC encSt (l ++ [s.now.bst K5.b K6.b]) = rowC encSt l ++ encSt (s.now.bst K5.b K6.b) := by rw [rowC_appendN]; rfl
   unfold rc
   rw [hr]
   refine OOk.conv o3 (by rw [List.length_append, List.length_append]; rfl) (fun k v v' u c1 c2 hr => ?_)
   change (rowC encSt l ++ _)[k]? = some v at c1
   by_cases hk : k < (rowC encSt l).length
   ·rw [List.getElem?_append_left hk] at c1 c2
    have c1 : (rowC encSt l)[k]? = some v := c1
    rw [c1] at c2; cases c2
    exact hr.flt_any (List.all_eq_true.1 (encSt_flt l) v (List.mem_of_getElem? c1))
   ·rw [List.getElem?_append_right (Nat.le_of_not_lt hk)] at c1 c2
    generalize k - (rowC encSt l).length = i at c1 c2
    rcases i with _ | _ | _ | _ | _ | _ | _ | _ | _ | _ | i
    ·cases c1; cases c2; cases hr; exact .int _ _
    ·cases c1; cases c2
     cases hr with
     | map _ L hL => rw [k5] at hL; cases hL; exact .tok _
    ·cases c1; cases c2; cases hr; exact .int _ _
    ·cases c1; cases c2; cases hr; exact .int _ _
    ·cases c1; cases c2; cases hr; exact .int _ _
    ·cases c1; cases c2; cases hr; exact .int _ _
    ·cases c1; cases c2; cases hr; exact .int _ _
    ·cases c1; cases c2; cases hr; exact .int _ _
    ·cases c1; cases c2
     cases hr with
     | map _ L hL => rw [k6] at hL; cases hL; exact .tok _
    ·cases c1; cases c2; cases hr; exact .int _ _
    ·cases c1
  obtain ⟨K1, K2, K4, k1, k2, k4, r1, r2, r3⟩ := five ⟨s.now.bays, came, taken, chest, bond, spoilt, out, year, bales, keys⟩ (l ++ [s.now.bst K5.b K6.b]) (s.lines ++ [a]) 1 2 j3 j4 e0 e1 e2 _ K3 k3 e3 o3' e4 ⟨n01, n02, n03, n04⟩ ⟨n12, n13, n14, n23, n24, n34⟩
  have g5 := ngi o5
  have g6 := ngi o6
  have d56 : K5.b ≠ K6.b := dif j5 j6 _ _ _ _ e5 e6 k5 k6 g5 g6 rfl trivial trivial n56
  have t5 := (lv j5 _ _ e5 k5 g5 rfl trivial).2
  have t6 := (lv j6 _ _ e6 k6 g6 rfl trivial).2
  have ht2 : toks (l ++ [s.now.bst K5.b K6.b]) = toks l ++ [K5.b, K6.b] := by rw [toks_append]; rfl
  refine ⟨l ++ [s.now.bst K5.b K6.b], K1, K2, K3, K4, r1, r2, hfit.snoc, (hh.world hkeep).snoc ⟨rfl, rfl, o5.2.2⟩ ⟨rfl, rfl, o6.2.2⟩, ?_, fun t q => ?_, hltF⟩
  ·rw [ht2]
   refine List.nodup_append.2 ⟨hnd, ?_, fun x hx y hy e => ?_⟩
   ·simp [d56]
   ·simp only [List.mem_cons, List.not_mem_nil, or_false] at hy
    rcases hy with rfl | rfl
    ·exact t5 x hx e.symm
    ·exact t6 x hx e.symm
  ·rw [ht2, List.mem_append] at q
   rcases q with q | q
   ·exact ⟨tokF t q, (ht t q).2.1, r3 t q⟩
   ·simp only [List.mem_cons, List.not_mem_nil, or_false] at q
    rcases q with rfl | rfl
    ·refine ⟨inF j5 _ _ e5 k5 g5 rfl trivial _ e0 rfl trivial (Ne.symm n05), dif j5 0 _ _ _ _ e5 e0 k5 h0 g5 ngc rfl trivial trivial (Ne.symm n05), fun L hL g => ?_⟩
     simp only [List.mem_cons, List.not_mem_nil, or_false] at hL
     rcases hL with rfl | rfl | rfl | rfl
     ·exact dif 1 j5 _ _ _ _ e1 e5 k1 k5 g g5 rfl trivial trivial n15
     ·exact dif 2 j5 _ _ _ _ e2 e5 k2 k5 g g5 rfl trivial trivial n25
     ·exact dif j3 j5 _ _ _ _ e3 e5 k3 k5 g g5 frz_rc trivial trivial n35
     ·exact dif j4 j5 _ _ _ _ e4 e5 k4 k5 g g5 frz_rc trivial trivial n45
    ·refine ⟨inF j6 _ _ e6 k6 g6 rfl trivial _ e0 rfl trivial (Ne.symm n06), dif j6 0 _ _ _ _ e6 e0 k6 h0 g6 ngc rfl trivial trivial (Ne.symm n06), fun L hL g => ?_⟩
     simp only [List.mem_cons, List.not_mem_nil, or_false] at hL
     rcases hL with rfl | rfl | rfl | rfl
     ·exact dif 1 j6 _ _ _ _ e1 e6 k1 k6 g g6 rfl trivial trivial n16
     ·exact dif 2 j6 _ _ _ _ e2 e6 k2 k6 g g6 rfl trivial trivial n26
     ·exact dif j3 j6 _ _ _ _ e3 e6 k3 k6 g g6 frz_rc trivial trivial n36
     ·exact dif j4 j6 _ _ _ _ e4 e6 k4 k6 g g6 frz_rc trivial trivial n46
 | back x n3 c3 n4 c4 =>
  obtain ⟨e0, e3, e4⟩ := hO
  obtain ⟨b1, b2, b3, b4, b5⟩ := hback x n3 c3 n4 c4 rfl
  obtain ⟨K3, k3, _, o3⟩ := H.ok 3 _ e3
  obtain ⟨K4, k4, _, o4⟩ := H.ok 4 _ e4
  have o0 := (H.at e0 h0).2
  obtain ⟨l', hl'⟩ : ∃ l', l = l' ++ [x] := ⟨l.dropLast, by
   obtain ⟨hne, hx⟩ := List.getLast?_eq_some_iff.1 b1
   rw [hx, List.dropLast_concat]⟩
  subst hl'
  obtain ⟨ns, n, hns⟩ : ∃ ns n, s.before = ns ++ [n] := by
   have hl2 := hfit.len
   refine ⟨s.before.dropLast, s.before.getLast (fun q => ?_), (List.dropLast_concat_getLast _).symm⟩
   rw [q] at hl2
   simp at hl2
  rw [hns] at hfit hh
  obtain ⟨l2, t1, t2, f1, f2⟩ := hfit.last
  obtain ⟨f3, f4⟩ := List.append_inj' f1 rfl
  cases f3
  have hx : x = n.bst t1 t2 := by simpa using f4
  subst hx
  have hl3 := f2.len
  obtain ⟨h1, h2, h3⟩ := Hid.last hl3 (hh.world hkeep)
  have e12 : toks (l' ++ [n.bst t1 t2]) = toks l' ++ [t1, t2] := by rw [toks_append]; rfl
  have m1 : t1 ∈ toks (l' ++ [n.bst t1 t2]) := by rw [e12]; simp
  have m2 : t2 ∈ toks (l' ++ [n.bst t1 t2]) := by rw [e12]; simp
  have hsubt : ∀ t, t ∈ toks l' → t ∈ toks (l' ++ [n.bst t1 t2]) := fun t q => by rw [e12]; exact List.mem_append_left _ q
  have hnd2 := hnd
  rw [e12] at hnd2
  obtain ⟨nd1, nd2, nd3⟩ := List.nodup_append.1 hnd2
  have nd2' : t1 ≠ t2 := by simpa using nd2
  have hs : nextS s a (.back (n.bst t1 t2) n3 c3 n4 c4) = ⟨n, ns, s.lines.dropLast⟩ := by
   show (⟨_, _, _⟩ : BkS) = _
   rw [hns, List.getLast?_concat, List.dropLast_concat]
   rfl
  rw [hs]
  have hlen3 : l'.length = n3 := by rw [List.length_append] at b2; simpa using b2.symm
  have hlen4 : s.lines.dropLast.length = n4 := by rw [List.length_dropLast]; omega
  have es3 : K3.es = 10 := o3.1
  have es4 : K4.es = 1 := o4.1
  have v3 := (lv 3 _ _ e3 k3 · frz_rc trivial)
  have v4 := (lv 4 _ _ e4 k4 · frz_rc trivial)
  have o3t : OOk [] w' K3 (rc encSt l' 0 50 10) := by
   have := OOk.take (by decide) o3 (l'.length * 10)
   have e : (rowC encSt (bkT s (l' ++ [n.bst t1 t2])).before).take (l'.length * 10) = rowC encSt l' := by
    rw [rowC_takeN encSt_ok]
    show rowC encSt ((l' ++ [n.bst t1 t2]).take l'.length) = _
    rw [List.take_left]
   rw [e] at this
   exact this.flt_any (encSt_flt _)
  have o4t : OOk [] w' K4 (rc encS s.lines.dropLast 0 9 1) := by
   have := OOk.take (by decide) o4 (n4 * 1)
   have e : (rowC encS (bkT s (l' ++ [n.bst t1 t2])).lines).take (n4 * 1) = rowC encS s.lines.dropLast := by
    rw [rowC_takeN encS_ok]
    show rowC encS (s.lines.take n4) = _
    rw [List.dropLast_eq_take, ← b4]
    rfl
   rw [e] at this
   exact this.flt_any (encS_flt _)
  refine ⟨l', ⟨t1, 0, 0, 0⟩, ⟨t2, 0, 0, 0⟩, K3, K4, ⟨?_, h2, h3, o3t, o4t, ?_, ?_, nd2', fun g => ⟨?_, ?_, ?_⟩, fun g => ⟨?_, ?_, ?_, fun g3 => ?_⟩⟩, ?_, f2, h1, nd1, fun t q => ⟨tokF t (hsubt t q), (ht t (hsubt t q)).2.1, ?_⟩, hltF⟩
  ·have hh3 : (bkT ⟨n, ns, s.lines.dropLast⟩ l').before.length = n3 := hlen3
   have hh4 : (bkT ⟨n, ns, s.lines.dropLast⟩ l').lines.length = n4 := hlen4
   rw [hh3, hh4]
   exact cellsB_conv o0 (conv_tok rfl rfl) (conv_tok rfl rfl) (conv_sl k3 rfl (by rw [es3]; decide) b3) (conv_sl k4 rfl (by rw [es4]; decide) b5)
  ·exact Ne.symm (ht t1 m1).2.1
  ·exact Ne.symm (ht t2 m2).2.1
  ·exact dif 3 0 _ _ _ _ e3 e0 k3 h0 g ngc frz_rc trivial trivial (by decide)
  ·exact (v3 g).2 t1 m1
  ·exact (v3 g).2 t2 m2
  ·exact dif 4 0 _ _ _ _ e4 e0 k4 h0 g ngc frz_rc trivial trivial (by decide)
  ·exact (v4 g).2 t1 m1
  ·exact (v4 g).2 t2 m2
  ·exact dif 4 3 _ _ _ _ e4 e3 k4 k3 g g3 frz_rc trivial trivial (by decide)
  ·intro L hL g
   simp only [List.mem_cons, List.not_mem_nil, or_false] at hL
   rcases hL with rfl | rfl | rfl | rfl
   ·exact tokF t1 m1
   ·exact tokF t2 m2
   ·exact inF 3 _ _ e3 k3 g frz_rc trivial _ e0 rfl trivial (by decide)
   ·exact inF 4 _ _ e4 k4 g frz_rc trivial _ e0 rfl trivial (by decide)
  ·intro L hL g
   simp only [List.mem_cons, List.not_mem_nil, or_false] at hL
   rcases hL with rfl | rfl | rfl | rfl
   ·exact fun e => nd3 t q t1 (by simp) e.symm
   ·exact fun e => nd3 t q t2 (by simp) e.symm
   ·exact (v3 g).2 t (hsubt t q)
   ·exact (v4 g).2 t (hsubt t q)
set_option linter.unusedSimpArgs false
set_option maxRecDepth 20000
theorem HRel.free {B : Bd} {ρ : Rho} {h : Heap} {w : World} (H : HRel B ρ h w) {c : Nat} (hc : ρ.length = c) : hget h c = none := by
 cases hg : hget h c with
 | none => rfl
 | some o =>
  obtain ⟨L, l1, _⟩ := H.ok c o hg
  have := (List.getElem?_eq_some_iff.1 l1).1
  omega
theorem HRel.ghostRow {B : Bd} {ρ : Rho} {h : Heap} {w : World} (H : HRel B ρ h w) (hB : B.n ≤ w.heap.size) (e : TypeId) {s : Nat} (hs : s ≠ 0) : HRel B (ρ ++ [⟨w.heap.size, 0, 0, s⟩]) ((ρ.length, .cells [] 0 e s) :: h) w :=
 H.new hB (Nat.le_refl _) (fun _ _ => rfl) ⟨rfl, .inl ⟨⟨hs, rfl⟩, rfl⟩⟩
theorem HRel.putG {B : Bd} {ρ : Rho} {h : Heap} {w : World} (H : HRel B ρ h w) {L : Loc} (hn : L.gho) {e : TypeId} {s : Nat} (hs : L.es = s) : HRel B (ρ ++ [L]) ((ρ.length, .cells [] 0 e s) :: h) w := by
 have hnew : (ρ ++ [L])[ρ.length]? = some L := by simp
 have H' := H.keep (w' := w) (Rho.le_push ρ L) (fun _ _ => rfl)
 have old : ∀ j u M, hget ((ρ.length, XObj.cells [] 0 e s) :: h) j = some u → (ρ ++ [L])[j]? = some M → ¬ M.gho → hget h j = some u := by
  intro j u M hj hM hg0
  rw [hget_cons] at hj
  by_cases ej : ρ.length = j
  ·subst ej
   rw [hnew] at hM; cases hM
   exact absurd hn hg0
  ·rw [if_neg ej] at hj; exact hj
 refine ⟨fun j u hj => ?_, fun j k2 u u' M M' hj hk hM hM' g1 g2 o1 o2 hz hb => H'.inj j k2 u u' M M' (old j u M hj hM g1) (old k2 u' M' hk hM' g2) hM hM' g1 g2 o1 o2 hz hb,
  H'.extTurn id (fun j p hj => ⟨?_, fun L' hL' => hL'⟩) (fun i j p q _ _ e => e) (fun j x M hj hM g ow => .inl ⟨j, x, M, old j x M hj hM g, hM, rfl, g, ow⟩) (fun x _ => .inl rfl)⟩
 ·rw [hget_cons] at hj
  by_cases ej : ρ.length = j
  ·rw [if_pos ej] at hj; cases hj; subst ej
   exact ⟨L, hnew, fun _ q => absurd hn q, hs, .inl ⟨hn, rfl⟩⟩
  ·rw [if_neg ej] at hj; exact H'.ok j u hj
 ·rw [hget_cons] at hj
  by_cases ej : ρ.length = j
  ·rw [if_pos ej] at hj; cases hj
  ·rw [if_neg ej] at hj; exact hj
theorem e_append0 {s : Nat} {g : Ins} {d : Option (List Bool)} {bytes : Nat} {e : TypeId} {x y : Src} {t : Tr} {h : Heap} {c : Nat} (hI : g = .ef d (eAppend false s bytes e x y)) {b : Nat} (hx : ev t x = .slice (some ⟨b, 0, none⟩) 0 0) {cs : List Value}
 (hg : hget h b = some (.cells cs 0 e s)) {l : List Value} (hy : fetch h s (ev t y) = some (0, l)) (hl : (Nat.ble 1 s && l.all one1) = true) : insE g t h c = some (.slice (some ⟨b, 0, none⟩) 0 0, h, c) := by
 subst hI
 simp only [Bool.and_eq_true] at hl
 have b1 : Nat.ble (0 + 0 * s) cs.length = true := by rw [Nat.ble_eq]; omega
 have b2 : Nat.ble ((0 + 0) * bytes) 1000000000 = true := by rw [Nat.ble_eq]; omega
 have b3 : Nat.beq e e = true := Nat.beq_refl e
 have b5 : Nat.ble 0 (0 * s) = true := by rw [Nat.ble_eq]; omega
 have b6 : Nat.ble 0 0 = true := rfl
 have b7 : Nat.ble (0 + 0) 1000000000 = true := rfl
 cases s with
 | zero => exact absurd hl.1 (by decide)
 | succ s =>
  have b4 : Nat.beq (s + 1) (s + 1) = true := Nat.beq_refl _
  simp only [insE, eAppend, hx, hg, hy, b1, b2, b3, b4, b5, b6, b7, hl.1, hl.2, Bool.and_self]
theorem drop_free {c : Nat} {h : Heap} (hf : hget h c = none) (o o' : XObj) {d : Nat} : ∀ i u, hget ((d, o) :: h) i = some u → hget ((d, o) :: hdel ((c, o') :: h) c) i = some u := by
 intro i u hi
 rw [hget_cons] at hi ⊢
 split
 ·rename_i e; rw [if_pos e] at hi; exact hi
 ·rename_i e
  rw [if_neg e] at hi
  rw [hget_hdel]
  split
  ·rename_i e2; subst e2; rw [hf] at hi; cases hi
  ·rename_i e2; rw [hget_cons, if_neg (by omega)]; exact hi
noncomputable def cl72 : Code := Proofs.Tryz.f72.body.getD .skip
theorem clone72_nil (h : Heap) (c : Nat) : KC E0 72 [.slice none 0 0] h c (fun v h' c' => v = .slice none 0 0 ∧ h' = h ∧ c' = c) := by
 refine KC.bodyN E0_ok (F := Proofs.Tryz.f72) (by kernel_rfl) (code := cl72) (by kernel_rfl) (nt := 8) (by kernel_rfl) (rs := [.tmp 2]) (by kernel_rfl) (by kernel_rfl) (σ := [(0, .slice none 0 0)]) (by kernel_rfl) ?_
 refine XQ.seq E0_ok (by kernel_rfl) ?_
 refine XQ.region (by kernel_rfl) ?_
 refine XR.run E0_ok 1 1 [0] rfl (σ' := [(0, .slice none 0 0)]) (h' := h) (c' := c) (by kernel_rfl) ?_
 refine XR.done (by kernel_rfl) ?_
 show XQ _ _ _ _ _ _ _ _
 refine XQ.seq E0_ok (by kernel_rfl) ?_
 refine XQ.seq E0_ok (by kernel_rfl) ?_
 refine XQ.region (by kernel_rfl) ?_
 refine XR.run E0_ok 1 2 [0, 4] rfl (σ' := [(0, .slice none 0 0), (4, .bool true)]) (h' := h) (c' := c) (by kernel_rfl) ?_
 refine XR.done (by kernel_rfl) ?_
 show XQ _ _ _ _ _ _ _ _
 refine XQ.cond (s := (.tmp 4)) (b := true) (by kernel_rfl) (by kernel_rfl) (fun _ => ?_) (fun q => by cases q)
 refine XQ.seq E0_ok (by kernel_rfl) ?_
 refine XQ.region (by kernel_rfl) ?_
 refine XR.run E0_ok 1 1 [2] rfl (σ' := [(2, .slice none 0 0)]) (h' := h) (c' := c) (by kernel_rfl) ?_
 refine XR.done (by kernel_rfl) ?_
 show XQ _ _ _ _ _ _ _ _
 refine XQ.ret (by kernel_rfl) ?_
 exact ⟨fun i q => (by cases q), .slice none 0 0, (by kernel_rfl), rfl, rfl, rfl⟩
theorem clone72_some (V : Value) (hV : (∃ i o, V = .slice (some ⟨i, o, some 1⟩) 0 0) ∨ ∃ i o l cap, V = .slice (some ⟨i, o, none⟩) l (cap + 1)) (ys : List (ByteArray)) (h : Heap) (c : Nat) (hf : ∀ o, fetch ((c, o) :: h) 1 V = some (ys.length, rowC encS ys)) (hfit : fitsB ys.length 16 = true) :
 KC E0 72 [V] h c (fun v h' c' => (ys = [] ∧ v = .slice (some ⟨c, 0, none⟩) 0 0 ∧ h' = (c, .cells [] 0 9 1) :: h ∧ c' = c + 1) ∨ (v = .slice (some ⟨c + 1, 0, none⟩) ys.length ys.length ∧ h' = (c + 1, .cells (rowC encS ys) 0 9 1) :: hdel ((c, .cells [] 0 9 1) :: h) c ∧ c' = c + 2)) := by
 refine KC.bodyN E0_ok (F := Proofs.Tryz.f72) (by kernel_rfl) (code := cl72) (by kernel_rfl) (nt := 8) (by kernel_rfl) (rs := [.tmp 2]) (by kernel_rfl) (by kernel_rfl) (σ := [(0, V)]) (by kernel_rfl) ?_
 refine XQ.seq E0_ok (by kernel_rfl) ?_
 refine XQ.region (by kernel_rfl) ?_
 refine XR.run E0_ok 1 1 [0] rfl (σ' := [(0, V)]) (h' := h) (c' := c) (by kernel_rfl) ?_
 refine XR.done (by kernel_rfl) ?_
 show XQ _ _ _ _ _ _ _ _
 refine XQ.seq E0_ok (by kernel_rfl) ?_
 refine XQ.seq E0_ok (by kernel_rfl) ?_
 refine XQ.region (by kernel_rfl) ?_
 refine XR.run E0_ok 1 1 [0, 3] rfl (σ' := [(0, V), (3, V)]) (h' := h) (c' := c) (by kernel_rfl) ?_
 refine XR.rd E0_ok [0, 4] rfl (v := .bool false) (σ' := [(0, V), (4, .bool false)]) ?_ (by kernel_rfl) ?_
 ·show rSliceNil false (src 8 (.tmp 3)) (.k (.slice none 0 0)) (trS 8 [(0, V), (3, V)]) h = some (.bool false)
  have e3 : ev (trS 8 [(0, V), (3, V)]) (src 8 (.tmp 3)) = V := by kernel_rfl
  unfold rSliceNil
  rw [e3]
  rcases hV with ⟨i, o, rfl⟩ | ⟨i, o, l, cap, rfl⟩ <;> rfl
 refine XR.done (by kernel_rfl) ?_
 show XQ _ _ _ _ _ _ _ _
 refine XQ.cond (s := (.tmp 4)) (b := false) (by kernel_rfl) (by kernel_rfl) (fun q => by cases q) (fun _ => ?_)
 refine XQ.skip (by kernel_rfl) ?_
 show XQ _ _ _ _ _ _ _ _
 refine XQ.seq E0_ok (by kernel_rfl) ?_
 refine XQ.region (by kernel_rfl) ?_
 refine XR.run E0_ok 1 2 [5, 6] rfl (σ' := [(5, .slice (some ⟨c, 0, none⟩) 0 0), (6, V)]) (h' := (c, .cells [] 0 9 1) :: h) (c' := c + 1) (by kernel_rfl) ?_
 have h5 : ev (trS 8 [(5, .slice (some ⟨c, 0, none⟩) 0 0), (6, V)]) (src 8 (.tmp 5)) = .slice (some ⟨c, 0, none⟩) 0 0 := by kernel_rfl
 have h6 : ev (trS 8 [(5, .slice (some ⟨c, 0, none⟩) 0 0), (6, V)]) (src 8 (.tmp 6)) = V := by kernel_rfl
 have hgc : hget ((c, .cells [] 0 9 1) :: h) c = some (.cells (rowC encS []) 0 9 1) := by rw [hget_cons, if_pos rfl]; rfl
 have hfc := hf (.cells [] 0 9 1)
 cases ys with
 | nil =>
  refine XR.ef E0_ok [7] rfl (v := .slice (some ⟨c, 0, none⟩) 0 0) (σ' := [(7, .slice (some ⟨c, 0, none⟩) 0 0)]) (h' := (c, .cells [] 0 9 1) :: h) (c' := c + 1) (e_append0 (s := 1) (bytes := 16) (e := 9) (x := src 8 (.tmp 5)) (y := src 8 (.tmp 6)) (d := some (path 12 7)) (by kernel_rfl) h5 (cs := []) hgc (by rw [h6]; exact hfc) rfl) (by kernel_rfl) ?_
  refine XR.run E0_ok 1 1 [2] rfl (σ' := [(2, .slice (some ⟨c, 0, none⟩) 0 0)]) (h' := (c, .cells [] 0 9 1) :: h) (c' := c + 1) (by kernel_rfl) ?_
  refine XR.done (by kernel_rfl) ?_
  show XQ _ _ _ _ _ _ _ _
  refine XQ.ret (by kernel_rfl) ?_
  exact ⟨fun i q => (by cases q), .slice (some ⟨c, 0, none⟩) 0 0, (by kernel_rfl), .inl ⟨rfl, rfl, rfl, rfl⟩⟩
 | cons y ys =>
  refine XR.ef E0_ok [7] rfl (e_append encS_ok (bytes := 16) (e := 9) (x := src 8 (.tmp 5)) (y := src 8 (.tmp 6)) (b := c) (len := 0) (cap := 0) (xs := []) (m := ys.length) (ys := y :: ys) (d := some (path 12 7)) (n' := (y :: ys).length) (h' := (c + 1, .cells (rowC encS (y :: ys)) 0 9 1) :: hdel ((c, .cells [] 0 9 1) :: h) c) (by kernel_rfl) h5 hgc (by rw [h6]; exact hfc) rfl rfl rfl (by rw [Nat.zero_add]; exact hfit) (by simp) rfl) (σ' := [(7, .slice (some ⟨c + 1, 0, none⟩) (y :: ys).length (y :: ys).length)]) (by kernel_rfl) ?_
  refine XR.run E0_ok 1 1 [2] rfl (σ' := [(2, .slice (some ⟨c + 1, 0, none⟩) (y :: ys).length (y :: ys).length)]) (h' := (c + 1, .cells (rowC encS (y :: ys)) 0 9 1) :: hdel ((c, .cells [] 0 9 1) :: h) c) (c' := c + 2) (by kernel_rfl) ?_
  refine XR.done (by kernel_rfl) ?_
  show XQ _ _ _ _ _ _ _ _
  refine XQ.ret (by kernel_rfl) ?_
  exact ⟨fun i q => (by cases q), .slice (some ⟨c + 1, 0, none⟩) (y :: ys).length (y :: ys).length, (by kernel_rfl), .inr ⟨rfl, rfl, rfl⟩⟩
theorem clone72_ok {h : Heap} {c i o len cap : Nat} {xs : List (ByteArray)} {fz : Nat} {e0 : TypeId} {es0 : Nat} (a : Nat) (hg : hget h i = some (.cells (rowC encS xs) fz e0 es0)) (ho : o = a * 1) (hal : a + len ≤ xs.length) (hcap : len ≤ cap) (hfit : fitsB len 16 = true) :
 KC E0 72 [.slice (some ⟨i, o, none⟩) len cap] h c (fun v h' c' => v = .slice (some ⟨c + 1, 0, none⟩) len len ∧ h' = (c + 1, .cells (rowC encS ((xs.drop a).take len)) 0 9 1) :: h ∧ c' = c + 2) := by
 intro B ρ w args' hargs hH hρ hB hG hI
 have hfree := hH.free hρ
 have hic : i ≠ c := by intro q; subst q; rw [hfree] at hg; cases hg
 obtain ⟨y, rfl⟩ : ∃ y, args' = [y] := by
  have := hargs.1
  match args', this with
  | [y], _ => exact ⟨y, rfl⟩
 have hrel : VRel ρ (.slice (some ⟨i, o, none⟩) len cap) y := hargs.2 0 _ y rfl rfl
 generalize hys : (xs.drop a).take len = ys
 have hylen : ys.length = len := by rw [← hys, List.length_take, List.length_drop]; omega
 -- what is behind a call of a slice that is not nil
 have main : ∀ V : Value, VRel ρ V y → ((∃ i o, V = .slice (some ⟨i, o, some 1⟩) 0 0) ∨ ∃ i o l cap, V = .slice (some ⟨i, o, none⟩) l (cap + 1)) → (∀ o, fetch ((c, o) :: h) 1 V = some (ys.length, rowC encS ys)) →
  (callFunc 72 [y].toArray).run E0.P w = .ok (.enter 72 [y].toArray) w ∧ Calls E0.P 72 [y].toArray w (fun e w' => ∃ v v' ρ' h' c', e = .returned v' ∧ VRel ρ' v v' ∧ Rho.le ρ ρ' ∧ ρ'.length = c' ∧ HRel B ρ' h' w' ∧ Bel B w w' ∧ v = .slice (some ⟨c + 1, 0, none⟩) len len ∧ h' = (c + 1, .cells (rowC encS ys) 0 9 1) :: h ∧ c' = c + 2) := by
  intro V hV h1 h2
  obtain ⟨q1, q2⟩ := clone72_some V h1 ys h c h2 (by rw [hylen]; exact hfit) B ρ w [y] ⟨rfl, fun j v v' e1 e2 => by
   cases j with
   | zero => cases e1; cases e2; exact hV
   | succ j => cases e1⟩ hH hρ hB hG hI
  refine ⟨q1, q2.mono ?_⟩
  rintro e w' ⟨v, v', ρ', h', c', e1, e2, e3, e4, e5, e6, ⟨y0, rfl, rfl, rfl⟩ | ⟨rfl, rfl, rfl⟩⟩
  ·subst y0
   obtain rfl : len = 0 := hylen.symm
   cases e2 with
   | slice _ _ _ _ L o' cap' hL hz h0 hh1 =>
    have hgc : hget ((c, XObj.cells [] 0 9 1) :: h) c = some (.cells [] 0 9 1) := by rw [hget_cons, if_pos rfl]
    obtain ⟨l1, l2⟩ := e5.at hgc hL
    have hLs : L.es = 1 := l2.1
    obtain ⟨b1, b2, b3⟩ := hh1 (by rw [hLs]; decide)
    by_cases hn : L.gho
    ·refine ⟨_, .slice (some ⟨L.b, o', none⟩) 0 cap', ρ' ++ [L], _, _, e1, .slice (c + 1) 0 0 0 L o' cap' (by rw [← e4]; simp) (.inr ⟨rfl, rfl⟩) h0 hh1, fun j M hj => Rho.le_push ρ' L j M (e3 j M hj), by simp [e4], ?_, e6, rfl, rfl, rfl⟩
     have HN := (e5.sub (h' := h) (fun j u hj => by
      rw [hget_cons]; split
      ·rename_i e0; subst e0; rw [hfree] at hj; cases hj
      ·exact hj)).putG hn (e := 9) hLs
     rw [e4] at HN
     exact HN
    ·have HM := e5.move (o := .cells [] 0 9 1) (L := L) hgc hL rfl hn (l1 rfl hn) rfl (fun _ _ _ => rfl) (l2.mono (Rho.le_push ρ' L))
     refine ⟨_, .slice (some ⟨L.b, o', none⟩) 0 cap', ρ' ++ [L], _, _, e1, .slice (c + 1) 0 0 0 L o' cap' (by rw [← e4]; simp) (.inr ⟨rfl, rfl⟩) h0 hh1, fun j M hj => Rho.le_push ρ' L j M (e3 j M hj), by simp [e4], ?_, e6, rfl, rfl, rfl⟩
     rw [e4] at HM
     exact HM.sub (drop_free hfree _ _)
   | sliceN _ _ L hL hes =>
    have HG := (e5.sub (h' := h) (fun j u hj => by
     rw [hget_cons]; split
     ·rename_i e0; subst e0; rw [hfree] at hj; cases hj
     ·exact hj)).ghostRow (by exact Nat.le_trans hB e6.size) 9 (s := 1) (by decide)
    refine ⟨_, .slice none 0 0, ρ' ++ [⟨w'.heap.size, 0, 0, 1⟩], _, _, e1, .sliceN (c + 1) 0 ⟨w'.heap.size, 0, 0, 1⟩ (by rw [← e4]; simp) ⟨by show 1 ≠ 0; decide, rfl⟩, fun j M hj => Rho.le_push ρ' _ j M (e3 j M hj), by simp [e4], ?_, e6, rfl, rfl, rfl⟩
    rw [e4] at HG
    exact HG
  ·refine ⟨_, v', ρ', _, _, e1, by rw [← hylen]; exact e2, e3, e4, e5.sub (drop_free hfree _ _), e6, rfl, rfl, rfl⟩
 have hfe : ∀ (cp : Nat), len ≤ cp → ∀ u : XObj, fetch ((c, u) :: h) 1 (.slice (some ⟨i, o, none⟩) len cp) = some (ys.length, rowC encS ys) := by
  intro cp hcp u
  have := fetch_row (f := encS) encS_ok (h := (c, u) :: h) (b := i) (ys := xs) (fz := fz) (e := e0) (es := es0) (by rw [hget_cons, if_neg (Ne.symm hic)]; exact hg) a len len cp rfl (by rw [Nat.ble_eq]; exact hcp) hal ho
  rw [this, hylen, hys]
 cases hrel with
 | sliceN _ _ L hL hes =>
  obtain rfl : ys = [] := List.eq_nil_of_length_eq_zero hylen
  obtain ⟨q1, q2⟩ := clone72_nil h c B ρ w [.slice none 0 0] ⟨rfl, fun j v v' e1 e2 => by
   cases j with
   | zero => cases e1; cases e2; exact .snil
   | succ j => cases e1⟩ hH hρ hB hG hI
  refine ⟨q1, q2.mono ?_⟩
  rintro e w' ⟨v, v', ρ', h', c', e1, e2, e3, e4, e5, e6, rfl, rfl, rfl⟩
  cases e2
  have H1 := e5.ghostRow (Nat.le_trans hB e6.size) 9 (s := 1) (by decide)
  have H2 := H1.ghostRow (Nat.le_trans hB e6.size) 9 (s := 1) (by decide)
  have hlen2 : (ρ' ++ [(⟨w'.heap.size, 0, 0, 1⟩ : Loc)]).length = c' + 1 := by simp [e4]
  rw [hlen2, e4] at H2
  refine ⟨_, .slice none 0 0, _, _, _, e1, .sliceN (c' + 1) 0 ⟨w'.heap.size, 0, 0, 1⟩ (by rw [← e4]; simp) ⟨by show 1 ≠ 0; decide, rfl⟩, fun j M hj => Rho.le_push _ _ j M (Rho.le_push ρ' _ j M (e3 j M hj)), by simp [e4], H2.sub (fun j u hj => ?_), e6, rfl, rfl, rfl⟩
  rw [hget_cons] at hj ⊢
  split
  ·rename_i e0; rw [if_pos e0] at hj; exact hj
  ·rename_i e0
   rw [if_neg e0] at hj
   rw [hget_cons]; split
   ·rename_i e00; subst e00; rw [hfree] at hj; cases hj
   ·exact hj
 | slice _ _ _ _ L o' cap' hL hz h0 hh1 =>
  obtain ⟨LL, l1, l2, l3⟩ := hH.ok i _ hg
  rw [hL] at l1; cases l1
  have hcc : cap ≤ cap' := by
   by_cases z : L.es = 0
   ·rw [h0 z]; exact Nat.le_refl _
   ·exact (hh1 z).1
  cases cap with
  | succ cp => exact main _ (.slice i o len (cp + 1) L o' cap' hL hz h0 hh1) (.inr ⟨_, _, _, _, rfl⟩) (hfe _ hcap)
  | zero =>
   obtain rfl : len = 0 := by omega
   have y0 : ys = [] := List.eq_nil_of_length_eq_zero hylen
   cases cap' with
   | zero => exact main (.slice (some ⟨0, 0, some 1⟩) 0 0) (.zslice 0 0 1 _ (fun _ => rfl)) (.inl ⟨0, 0, rfl⟩) (fun u => by rw [y0]; rfl)
   | succ cp =>
    by_cases z : L.es = 0
    ·have := h0 z; omega
    ·obtain ⟨b1, b2, b3⟩ := hh1 z
     refine main (.slice (some ⟨i, o' - L.sh, none⟩) 0 (cp + 1)) (.slice i (o' - L.sh) 0 (cp + 1) L o' (cp + 1) hL (.inl (by omega)) (fun q => absurd q z) (fun _ => ⟨Nat.le_refl _, b2, b3⟩)) (.inr ⟨_, _, _, _, rfl⟩) (fun u => by rw [y0]; rfl)
theorem clone72_all {h : Heap} {c i len cap : Nat} {xs : List (ByteArray)} {fz : Nat} {e0 : TypeId} {es0 : Nat} (hg : hget h i = some (.cells (rowC encS xs) fz e0 es0)) (hl : len = xs.length) (hcap : len ≤ cap) (hfit : fitsB xs.length 16 = true) :
 KC E0 72 [.slice (some ⟨i, 0, none⟩) len cap] h c (fun v h' c' => v = .slice (some ⟨c + 1, 0, none⟩) xs.length xs.length ∧ h' = (c + 1, .cells (rowC encS xs) 0 9 1) :: h ∧ c' = c + 2) := by
 subst hl
 have := clone72_ok (c := c) (cap := cap) (o := 0) (len := xs.length) 0 hg (by simp) (by simp) hcap hfit
 rw [List.drop_zero, List.take_length] at this
 exact this
theorem nilM_shut (u : Value) (o : Oper) (y : Operand) (ev : Operand → Value) (w : World) (ho : o.op = .nilCheck y) (he : ev y = .func (.method "vitola/master.do") #[.iface 150 u] #[]) : (execOp ev o).run Proofs.Tryz.prog w = .ok (.value (ev y)) w := by
 unfold execOp
 rw [ho]
 simp only [he]
 kernel_rfl
theorem nilM_closed (u : Value) (o : Oper) (y : Operand) (ev : Operand → Value) (w : World) (ho : o.op = .nilCheck y) (he : ev y = .func (.method "vitola/master.do") #[.iface 151 u] #[]) : (execOp ev o).run Proofs.Tryz.prog w = .ok (.value (ev y)) w := by
 unfold execOp
 rw [ho]
 simp only [he]
 kernel_rfl
theorem nilM_supply (u : Value) (o : Oper) (y : Operand) (ev : Operand → Value) (w : World) (ho : o.op = .nilCheck y) (he : ev y = .func (.method "vitola/master.do") #[.iface 155 u] #[]) : (execOp ev o).run Proofs.Tryz.prog w = .ok (.value (ev y)) w := by
 unfold execOp
 rw [ho]
 simp only [he]
 kernel_rfl
theorem nilM_band (u : Value) (o : Oper) (y : Operand) (ev : Operand → Value) (w : World) (ho : o.op = .nilCheck y) (he : ev y = .func (.method "vitola/master.do") #[.iface 156 u] #[]) : (execOp ev o).run Proofs.Tryz.prog w = .ok (.value (ev y)) w := by
 unfold execOp
 rw [ho]
 simp only [he]
 kernel_rfl
theorem nilM_spoil (u : Value) (o : Oper) (y : Operand) (ev : Operand → Value) (w : World) (ho : o.op = .nilCheck y) (he : ev y = .func (.method "vitola/master.do") #[.iface 157 u] #[]) : (execOp ev o).run Proofs.Tryz.prog w = .ok (.value (ev y)) w := by
 unfold execOp
 rw [ho]
 simp only [he]
 kernel_rfl
theorem nilM_turn (u : Value) (o : Oper) (y : Operand) (ev : Operand → Value) (w : World) (ho : o.op = .nilCheck y) (he : ev y = .func (.method "vitola/master.do") #[.iface 159 u] #[]) : (execOp ev o).run Proofs.Tryz.prog w = .ok (.value (ev y)) w := by
 unfold execOp
 rw [ho]
 simp only [he]
 kernel_rfl
theorem nilM_leave (u : Value) (o : Oper) (y : Operand) (ev : Operand → Value) (w : World) (ho : o.op = .nilCheck y) (he : ev y = .func (.method "vitola/master.do") #[.iface 160 u] #[]) : (execOp ev o).run Proofs.Tryz.prog w = .ok (.value (ev y)) w := by
 unfold execOp
 rw [ho]
 simp only [he]
 kernel_rfl
theorem nilM_arrive (u : Value) (o : Oper) (y : Operand) (ev : Operand → Value) (w : World) (ho : o.op = .nilCheck y) (he : ev y = .func (.method "vitola/master.do") #[.iface 186 u] #[]) : (execOp ev o).run Proofs.Tryz.prog w = .ok (.value (ev y)) w := by
 unfold execOp
 rw [ho]
 simp only [he]
 kernel_rfl
theorem nilM_move (u : Value) (o : Oper) (y : Operand) (ev : Operand → Value) (w : World) (ho : o.op = .nilCheck y) (he : ev y = .func (.method "vitola/master.do") #[.iface 188 u] #[]) : (execOp ev o).run Proofs.Tryz.prog w = .ok (.value (ev y)) w := by
 unfold execOp
 rw [ho]
 simp only [he]
 kernel_rfl
theorem nilM_take (u : Value) (o : Oper) (y : Operand) (ev : Operand → Value) (w : World) (ho : o.op = .nilCheck y) (he : ev y = .func (.method "vitola/master.do") #[.iface 190 u] #[]) : (execOp ev o).run Proofs.Tryz.prog w = .ok (.value (ev y)) w := by
 unfold execOp
 rw [ho]
 simp only [he]
 kernel_rfl
theorem nilM_count (u : Value) (o : Oper) (y : Operand) (ev : Operand → Value) (w : World) (ho : o.op = .nilCheck y) (he : ev y = .func (.method "vitola/master.do") #[.iface 192 u] #[]) : (execOp ev o).run Proofs.Tryz.prog w = .ok (.value (ev y)) w := by
 unfold execOp
 rw [ho]
 simp only [he]
 kernel_rfl
end Go.Xm
