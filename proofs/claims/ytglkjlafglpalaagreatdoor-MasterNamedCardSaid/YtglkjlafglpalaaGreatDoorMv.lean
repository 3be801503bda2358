/- The abstract machine, part 6: append; raw pointers; a string over bytes (strings.Builder). -/
import Derived.Test.YtglkjlafglpalaaGreatDoorMe
import Derived.Laws.BytesString
namespace Go.Xm
open Go.RowKit
noncomputable def fetch (h : Heap) (size : Nat) (x : Value) : Option (Nat × List Value) :=
 match x with
 | .slice none 0 0 => some (0, [])
 | .slice (some ⟨j, off, _⟩) n cap => match n with
  | 0 => some (0, [])
  | n + 1 => match hget h j with
   | some (.cells cs _ _ _) => match (Nat.ble (n + 1) cap && Nat.ble (off + (n + 1) * size) cs.length) with
    | true => some (n + 1, (cs.drop off).take ((n + 1) * size))
    | false => none
   | _ => none
 | .string s => match size with
  | 1 => some (s.size, s.data.toList.map fun b => .int .u8 (.ofNat b.toNat))
  | _ => none
 | _ => none
theorem cells_read {B : Bd} {ρ : Rho} {h : Heap} {w : World} (H : HRel B ρ h w) {j off len : Nat} {cs : List Value} {fz : Nat} {e : TypeId} {es : Nat} {L : Loc} (hg : hget h j = some (.cells cs fz e es)) (hL : ρ[j]? = some L)
 (hb : off + len ≤ cs.length) : ∃ C' : List Value, Cells ρ ((cs.drop off).take len) C' ∧ C'.length = len ∧ ∀ w', Below w.heap.size w w' → ∀ (i : Nat) (v : Value), C'[i]? = some v → w'.cell? ((⟨L.b, L.sh + off, none⟩ : Addr).add i) = some v := by
 by_cases hne : cs = []
 ·subst hne
  have h0 : len = 0 := by
   have : off + len ≤ 0 := hb
   omega
  subst h0
  exact ⟨[], by simp only [List.take_zero]; exact Cells.nil ρ, rfl, fun w' hw i v hi => by cases hi⟩
 obtain ⟨_, _, C, fr, c1, c2, c3, c4, c5, c6⟩ := (H.at hg hL).2.cells (.inl hne)
 refine ⟨((C.toList.drop L.sh).take cs.length).drop off |>.take len, (c4.drop off).take len, ?_, fun w' hw i v hi => ?_⟩
 ·simp; omega
 ·have hlt : L.b < w.heap.size := (Array.getElem?_eq_some_iff.1 c1).1
  rw [Addr.add_none, hw.cell (p := ⟨L.b, L.sh + off + i, none⟩) hlt, cell_of_heap c1]
  rw [List.getElem?_take] at hi
  split at hi
  ·rw [List.getElem?_drop, List.getElem?_take] at hi
   split at hi
   ·rw [List.getElem?_drop, Array.getElem?_toList] at hi
    rw [Nat.add_assoc]
    exact hi
   ·cases hi
  ·cases hi
theorem fetch_ok {P : Program} {B : Bd} {ρ : Rho} {h : Heap} {w : World} (H : HRel B ρ h w) {size : Nat} {x x' : Value} (hx : VRel ρ x x') {n : Nat} {news : List Value} (hf : fetch h size x = some (n, news)) :
 ∃ news' : List Value, Cells ρ news news' ∧ news'.length = n * size ∧ ∀ w', Below w.heap.size w w' → (Builtin.lenOf x').run P w' = .ok n w' ∧ (Builtin.firstCells size n x').run P w' = .ok news'.toArray w' := by
 unfold fetch at hf
 split at hf
 ·cases hf
  cases hx
  exact ⟨[], Cells.nil ρ, by simp, fun w' _ => ⟨rfl, rfl⟩⟩
 ·rename_i j off sp n0 cap
  split at hf
  ·cases hf
   cases hx with
   | slice i o len cap L o' cap' hL hz h0 h1 =>
    exact ⟨[], Cells.nil ρ, by simp, fun w' _ => ⟨rfl, by simp [Builtin.firstCells, loadCells, loadCellsFrom]⟩⟩
   | sliceN i o L hL hes => exact ⟨[], Cells.nil ρ, by simp, fun w' _ => ⟨rfl, rfl⟩⟩
   | zslice i o k a hk =>
    cases a with
    | none => exact ⟨[], Cells.nil ρ, by simp, fun w' _ => ⟨rfl, rfl⟩⟩
    | some a => exact ⟨[], Cells.nil ρ, by simp, fun w' _ => ⟨rfl, by simp [Builtin.firstCells, loadCells, loadCellsFrom]⟩⟩
  ·rename_i n1
   split at hf
   ·rename_i cs fz el es hg
    split at hf
    ·rename_i hb
     cases hf
     simp only [Bool.and_eq_true, Nat.ble_eq] at hb
     cases hx with
     | slice i o len cap L o' cap' hL hz h0 h1 =>
      have ho' : o' = L.sh + off := by
       rcases hz with h | h
       ·exact h
       ·omega
      subst ho'
      obtain ⟨C', k1, k2, k3⟩ := cells_read H hg hL hb.2
      exact ⟨C', k1, k2, fun w' hw => ⟨rfl, run_firstCells_some (P := P) w' size (n1 + 1) _ _ _ C' k2 (k3 w' hw)⟩⟩
    ·cases hf
   ·cases hf
 ·rename_i s
  split at hf
  ·cases hf
   cases hx
   refine ⟨s.data.toList.map fun b => .int .u8 (.ofNat b.toNat), ?_, ?_, fun w' _ => ⟨rfl, ?_⟩⟩
   ·refine ⟨rfl, fun i v v' e1 e2 => ?_⟩
    rw [e1] at e2
    cases e2
    rw [List.getElem?_map, Option.map_eq_some_iff] at e1
    obtain ⟨b, _, rfl⟩ := e1
    exact .int _ _
   ·rw [List.length_map, Nat.mul_one]; rfl
   ·have := Lib.run_firstCells_string (P := P) w' 1 s
    rw [this]
    rfl
  ·cases hf
 ·cases hf
def NoInt (dx : TypeDesc) : Prop := dx = .string ∨ ∃ e, dx = .slice e
set_option maxHeartbeats 1000000 in
theorem run_append_new {P : Program} (w : World) {t xt e ty : TypeId} {dx : TypeDesc} {i : TypeInfo} {z : Value} (ht : P.underlying t = some (.slice e)) (hxt : P.underlying xt = some dx) (hdx : NoInt dx) (hi : P.info? e = some i) (hz : i.zero = some z)
 (base : Option Addr) (sLen sCap : Nat) (x : Value) (n : Nat) (olds news : Array Value) (hl : (Builtin.lenOf x).run P w = .ok n w) (ho : (Builtin.firstCells i.size sLen (.slice base sLen sCap)).run P w.drew = .ok olds w.drew)
 (hn : (Builtin.firstCells i.size n x).run P w.drew = .ok news w.drew) (hg : sCap < sLen + n) (h63 : sLen + n ≤ 9223372036854775807) (hfit : Builtin.nextslicecap (sLen + n) sCap * i.bytes ≤ 281474976710656) :
 (Builtin.append_ #[t, xt] ty #[.slice base sLen sCap, x]).run P w =
  .ok (.slice (some ⟨w.heap.size, 0, none⟩) (sLen + n) (grownCap w (sLen + n) sCap e)) (w.drew.alloc (.cells (olds ++ news ++ Builtin.zeroCells z.cells (grownCap w (sLen + n) sCap e - (sLen + n))) e)) := by
 have hn' : ¬ (sLen + n ≤ sCap) := by omega
 have h63' : ¬ (9223372036854775807 < ((sLen : Int) + (n : Int))) := by omega
 have h48' : ¬ (281474976710656 < Builtin.nextslicecap (sLen + n) sCap * i.bytes) := by omega
 rcases hdx with rfl | ⟨e', rfl⟩
 ·simp [Builtin.append_, run_underlying ht, run_underlying hxt, sizeOf, typeInfo, zeroValue, hi, hz, hl, hn', h63', h48', Question.forced, hn, ho, newRow, grownCap]
 ·simp [Builtin.append_, run_underlying ht, run_underlying hxt, sizeOf, typeInfo, zeroValue, hi, hz, hl, hn', h63', h48', Question.forced, hn, ho, newRow, grownCap]
set_option maxHeartbeats 1000000 in
theorem run_append_fit {P : Program} (w w' : World) {t xt e ty : TypeId} {dx : TypeDesc} {i : TypeInfo} (ht : P.underlying t = some (.slice e)) (hxt : P.underlying xt = some dx) (hdx : NoInt dx) (hi : P.info? e = some i)
 (b : Addr) (sLen sCap : Nat) (x : Value) (n : Nat) (news : List Value) (hl : (Builtin.lenOf x).run P w = .ok n w)
 (hn : (Builtin.firstCells i.size n x).run P w = .ok news.toArray w) (hg : sLen + n ≤ sCap) (hst : (storeCells (b.add (sLen * i.size)) news).run P w = .ok () w') :
 (Builtin.append_ #[t, xt] ty #[.slice (some b) sLen sCap, x]).run P w = .ok (.slice (some b) (sLen + n) sCap) w' := by
 rcases hdx with rfl | ⟨e', rfl⟩
 ·simp [Builtin.append_, run_underlying ht, run_underlying hxt, sizeOf, typeInfo, hi, hl, hg, hn, hst]
 ·simp [Builtin.append_, run_underlying ht, run_underlying hxt, sizeOf, typeInfo, hi, hl, hg, hn, hst]
set_option maxHeartbeats 1000000 in
theorem run_append_nil0 {P : Program} (w : World) {t xt e ty : TypeId} {dx : TypeDesc} {i : TypeInfo} (ht : P.underlying t = some (.slice e)) (hxt : P.underlying xt = some dx) (hdx : NoInt dx) (hi : P.info? e = some i)
 (x : Value) (news : List Value) (hl : (Builtin.lenOf x).run P w = .ok 0 w) (hn : (Builtin.firstCells i.size 0 x).run P w = .ok news.toArray w) :
 (Builtin.append_ #[t, xt] ty #[.slice none 0 0, x]).run P w = .ok (.slice none 0 0) w := by
 rcases hdx with rfl | ⟨e', rfl⟩
 ·simp [Builtin.append_, run_underlying ht, run_underlying hxt, sizeOf, typeInfo, hi, hl, hn]
 ·simp [Builtin.append_, run_underlying ht, run_underlying hxt, sizeOf, typeInfo, hi, hl, hn]
theorem run_append_zero {P : Program} (w : World) {t xt e ty : TypeId} {dx : TypeDesc} {i : TypeInfo} (ht : P.underlying t = some (.slice e)) (hxt : P.underlying xt = some dx) (hdx : NoInt dx) (hi : P.info? e = some i) (sa : Option Addr)
 (x : Value) (hl : (Builtin.lenOf x).run P w = .ok 0 w) (hn : (Builtin.firstCells i.size 0 x).run P w = .ok ([] : List Value).toArray w) :
 (Builtin.append_ #[t, xt] ty #[.slice sa 0 0, x]).run P w = .ok (.slice sa 0 0) w := by
 cases sa with
 | none => exact run_append_nil0 w ht hxt hdx hi x [] hl hn
 | some b =>
  have h := run_append_fit w w (ty := ty) ht hxt hdx hi b 0 0 x 0 [] hl hn (by omega) (by simp [storeCells])
  exact h
noncomputable def wasH (kp : Bool) (h : Heap) (i off len size c : Nat) (cs : List Value) (fz : Nat) (el : TypeId) (es : Nat) : Heap :=
 match (kp && (Nat.ble 1 len && Nat.beq off 0 && Nat.beq (len * size) cs.length)) with
 | true => hset h i (.was cs c fz el es)
 | false => hdel h i
theorem wasH_zero (kp : Bool) (h : Heap) (i off size c : Nat) (cs : List Value) (fz : Nat) (el : TypeId) (es : Nat) : wasH kp h i off 0 size c cs fz el es = hdel h i := by
 cases kp <;> rfl
noncomputable def eqV0 : Value → Value → Bool
 | .bool a, .bool b => Bool.casesOn a (!b) b
 | .int k a, .int k' b => decide (k = k') && decide (a = b)
 | .string a, .string b => decide (a = b)
 | .chan (some a), .chan (some b) => Nat.beq a b
 | _, _ => false
noncomputable def eqVs0 : List Value → List Value → Bool
 | [], [] => true
 | a :: l, b :: m => eqV0 a b && eqVs0 l m
 | _, _ => false
noncomputable def eqV : Value → Value → Bool
 | .iface t (.agg c), .iface t' (.agg c') => decide (t = t') && eqVs0 c.toList c'.toList
 | a, b => eqV0 a b
noncomputable def eqVs : List Value → List Value → Bool
 | [], [] => true
 | a :: l, b :: m => eqV a b && eqVs l m
 | _, _ => false
theorem eqV0_eq {a b : Value} (h : eqV0 a b = true) : a = b := by
 unfold eqV0 at h
 split at h
 ·rename_i x y; cases x <;> cases y <;> first | rfl | cases h
 ·simp only [Bool.and_eq_true, decide_eq_true_eq] at h
  obtain ⟨rfl, rfl⟩ := h
  rfl
 ·simp only [decide_eq_true_eq] at h; rw [h]
 ·rw [Nat.eq_of_beq_eq_true h]
 ·cases h
theorem eqVs0_eq : ∀ {a b : List Value}, eqVs0 a b = true → a = b
 | [], [], _ => rfl
 | [], _ :: _, h => by cases h
 | _ :: _, [], h => by cases h
 | a :: l, b :: m, h => by
  simp only [eqVs0, Bool.and_eq_true] at h
  rw [eqV0_eq h.1, eqVs0_eq h.2]
theorem eqV_eq {a b : Value} (h : eqV a b = true) : a = b := by
 unfold eqV at h
 split at h
 ·simp only [Bool.and_eq_true, decide_eq_true_eq] at h
  obtain ⟨rfl, h⟩ := h
  rw [Array.ext' (eqVs0_eq h)]
 ·exact eqV0_eq h
theorem eqVs_eq : ∀ {a b : List Value}, eqVs a b = true → a = b
 | [], [], _ => rfl
 | [], _ :: _, h => by cases h
 | _ :: _, [], h => by cases h
 | a :: l, b :: m, h => by
  simp only [eqVs, Bool.and_eq_true] at h
  rw [eqV_eq h.1, eqVs_eq h.2]
noncomputable def eAppend (kp : Bool) (size bytes : Nat) (e : TypeId) (s x : Src) : EF := fun tm h c =>
 match ev tm s with
 | .slice none 0 0 => match fetch h size (ev tm x) with
  | some (n, news) => match n with
   | 0 => some (.slice none 0 0, h, c)
   | n + 1 => match (Nat.ble ((n + 1) * bytes) 1000000000 && Nat.ble (n + 1) 1000000000) with
    | true => some (.slice (some ⟨c, 0, none⟩) (n + 1) (n + 1), (c, .cells news 0 e size) :: h, c + 1)
    | false => none
  | none => none
 | .slice (some ⟨i0, o0, some k0⟩) 0 0 => match fetch h size (ev tm x) with
  | some (n, news) => match n with
   | 0 => some (.slice (some ⟨i0, o0, some k0⟩) 0 0, h, c)
   | n + 1 => match (Nat.ble ((n + 1) * bytes) 1000000000 && Nat.ble (n + 1) 1000000000) with
    | true => some (.slice (some ⟨c, 0, none⟩) (n + 1) (n + 1), (c, .cells news 0 e size) :: h, c + 1)
    | false => none
  | none => none
 | .slice (some ⟨i, off, none⟩) len cap => match hget h i with
  | some (.cells cs fz el es) => match fetch h size (ev tm x) with
   | some (n, news) =>
    match (Nat.ble len cap && Nat.ble (off + len * size) cs.length && Nat.beq el e && Nat.ble ((len + n) * bytes) 1000000000 && Nat.ble (len + n) 1000000000 && news.all one1 && Nat.ble 1 size) with
    | true => match es with
     | 0 => match Nat.ble (len + n) cap with
      | true => match n with
       | 0 => some (.slice (some ⟨i, off, none⟩) len cap, h, c)
       | n + 1 => match (Nat.ble fz (off + len * size) && Nat.ble (off + len * size + news.length) cs.length) with
        | true => some (.slice (some ⟨i, off, none⟩) (len + (n + 1)) cap, hset h i (.cells (cs.take (off + len * size) ++ news ++ cs.drop (off + len * size + news.length)) fz el 0), c)
        | false => none
      | false => some (.slice (some ⟨c, 0, none⟩) (len + n) (len + n), (c, .cells ((cs.drop off).take (len * size) ++ news) 0 e size) :: h, c + 1)
     | es + 1 => match (Nat.beq (es + 1) size && Nat.ble fz (len * size)) with
      | true => match n with
       | 0 => some (.slice (some ⟨i, off, none⟩) len cap, h, c)
       | n + 1 => some (.slice (some ⟨c, 0, none⟩) (len + (n + 1)) (len + (n + 1)), (c, .cells ((cs.drop off).take (len * size) ++ news) fz e size) :: wasH kp h i off len size c cs fz el (es + 1), c + 1)
      | false => none
    | false => none
   | none => none
  | _ => none
 | _ => none
theorem drew_below (w : World) : Below w.heap.size w w.drew := (Below.refl _ _).drew
theorem HRel.newRow {B : Bd} {ρ : Rho} {h : Heap} {w : World} (H : HRel B ρ h w) (hB : B.n ≤ w.heap.size) {cs : List Value} {C : List Value} (hc : Cells ρ cs C) (Z : Array Value) (fz : Nat) (e : TypeId) {size : Nat} (hs : size ≠ 0) :
 HRel B (ρ ++ [⟨w.heap.size, 0, C.length + Z.size, size⟩]) ((ρ.length, .cells cs fz e size) :: h) (w.drew.alloc (.cells (C.toArray ++ Z) e)) := by
 have hl : cs.length = C.length := hc.1
 refine H.new hB (Nat.le_refl _) (fun k hk => heap_old w.drew _ hk) ?_
 refine OOk.mk_cells (C := C.toArray ++ Z) (fr := (0, 0)) rfl (heap_new w.drew _) (by simp) (by show 0 + cs.length ≤ C.length + Z.size; omega) ?_ (Nat.zero_le _) (fun q => absurd q hs)
 have : ((C.toArray ++ Z).toList.drop 0).take cs.length = C := by rw [List.drop_zero, hc.1]; simp
 rw [this]
 exact hc.mono (Rho.le_push _ _)
theorem HRel.newRowW {B : Bd} {ρ : Rho} {h : Heap} {w : World} (H : HRel B ρ h w) (hB : B.n ≤ w.heap.size) {cs : List Value} {C : List Value} (hc : Cells ρ cs C) (Z : Array Value) (fz : Nat) (e : TypeId) {size : Nat} (hs : size ≠ 0)
 {i : Nat} {cs0 : List Value} {fz0 : Nat} {el : TypeId} {es : Nat} {L0 : Loc} (hi : hget h i = some (.cells cs0 fz0 el es)) (hL0 : ρ[i]? = some L0) (h00 : es ≠ 0) (hn0 : ¬ L0.gho) (hBL : B.may L0.b) (hfz : frz (.cells cs0 fz0 el es) = false) :
 HRel B (ρ ++ [⟨w.heap.size, 0, C.length + Z.size, size⟩]) ((ρ.length, .cells cs fz e size) :: hset h i (.was cs0 ρ.length fz0 el es)) (w.drew.alloc (.cells (C.toArray ++ Z) e)) := by
 have hl : cs.length = C.length := hc.1
 refine H.wasNew hB hi hL0 h00 hn0 hBL hfz (Nat.le_refl _) (fun k hk => heap_old w.drew _ hk) ?_
 refine OOk.mk_cells (C := C.toArray ++ Z) (fr := (0, 0)) rfl (heap_new w.drew _) (by simp) (by show 0 + cs.length ≤ C.length + Z.size; omega) ?_ (Nat.zero_le _) (fun q => absurd q hs)
 have : ((C.toArray ++ Z).toList.drop 0).take cs.length = C := by rw [List.drop_zero, hc.1]; simp
 rw [this]
 exact hc.mono (Rho.le_push _ _)
theorem hget_cons_del {c i : Nat} {o : XObj} {h : Heap} {j : Nat} {u : XObj} (hj : hget ((c, o) :: hdel h i) j = some u) : hget ((c, o) :: h) j = some u := by
 rw [hget_cons] at hj ⊢
 by_cases e : c = j
 ·rw [if_pos e] at hj ⊢; exact hj
 ·rw [if_neg e] at hj ⊢
  rw [hget_hdel] at hj
  split at hj
  ·cases hj
  ·exact hj
theorem eAppend_ok {P : Program} {ty : Nat → Option XTy} (hT : TyOk P ty) {nt : Nat} {o : Oper} {t xt e : TypeId} {s x : Operand} {d dx de : XTy} (ho : o.op = .call { callee := .builtin .append, args := #[s, x], argTypes := #[t, xt] })
 (hd : ty t = some d) (hu : d.u = .slice e) (hdx : ty xt = some dx) (hux : NoInt dx.u) (hde : ty e = some de) (hzs : de.zero.cells.size = de.size) (hs0 : de.size ≠ 0) (kp : Bool) :
 EfOk P nt o (eAppend kp de.size de.bytes e (src nt s) (src nt x)) := by
 intro tm h c v h' c' hf B ρ a w ht hh hc hB
 have hs := src_ok ht s
 have hx := src_ok ht x
 obtain ⟨ht', _⟩ := hT t d hd
 rw [hu] at ht'
 obtain ⟨hxt', _⟩ := hT xt dx hdx
 obtain ⟨_, ti, i1, i2, i3, i4⟩ := hT e de hde
 have hex : ∀ {V W}, (Builtin.append_ #[t, xt] o.type #[a.eval s, a.eval x]).run P w = .ok V W → (execOp a.eval o).run P w = .ok (.value V) W := by
  intro V W hr
  simp [execOp, ho, resolve, invoke, builtin, hr]
 unfold eAppend at hf
 split at hf
 ·-- nil
  rename_i hp
  rw [hp] at hs
  generalize e1 : a.eval s = s' at hs hex
  cases hs
  split at hf
  ·rename_i n news hfe
   obtain ⟨news', k1, k2, k3⟩ := fetch_ok (P := P) hh hx hfe
   split at hf
   ·cases hf
    obtain ⟨l1, l2⟩ := k3 w (Below.refl _ _)
    exact ⟨.slice none 0 0, w, ρ, .inl (hex (run_append_nil0 w ht' hxt' hux i1 _ news' l1 (by rw [i2]; exact l2))), .snil, Rho.le_refl ρ, hc, hh, Bel.refl B w⟩
   ·rename_i n1
    split at hf
    ·rename_i hb
     simp only [Bool.and_eq_true, Nat.ble_eq] at hb
     cases hf
     subst hc
     have k2 : news'.length = (n1 + 1) * de.size := k2
     obtain ⟨l1, _⟩ := k3 w (Below.refl _ _)
     obtain ⟨_, l2⟩ := k3 w.drew (drew_below w)
     have hr := run_append_new (P := P) w (ty := o.type) ht' hxt' hux i1 i4 none 0 0 (a.eval x) (n1 + 1) #[] news'.toArray l1 rfl (by rw [i2]; exact l2) (by omega) (by omega) (growslice_fits (by omega) (by rw [i3, Nat.zero_add]; omega))
     simp only [Nat.zero_add, Array.empty_append] at hr
     have hge := grownCap_ge w (n1 + 1) 0 e
     have hzc := size_zeroCells de.zero.cells (grownCap w (n1 + 1) 0 e - (n1 + 1))
     rw [hzs] at hzc
     refine ⟨_, _, ρ ++ [⟨w.heap.size, 0, news'.length + (Builtin.zeroCells de.zero.cells (grownCap w (n1 + 1) 0 e - (n1 + 1))).size, de.size⟩], .inl (hex hr), ?_, Rho.le_push _ _, by simp, hh.newRow hB k1 _ 0 e hs0, ((Bel.refl B w).drew.alloc hB _)⟩
     refine .slice ρ.length 0 _ _ ⟨w.heap.size, 0, news'.length + (Builtin.zeroCells de.zero.cells (grownCap w (n1 + 1) 0 e - (n1 + 1))).size, de.size⟩ 0 _ (by simp) (.inl rfl) (fun q => absurd q hs0) (fun _ => ⟨hge, ?_, Nat.le_refl _⟩)
     show 0 + grownCap w (n1 + 1) 0 e * de.size ≤ news'.length + _
     rw [hzc, k2, ← Nat.add_mul]
     exact Nat.le_of_eq (by rw [Nat.zero_add]; congr 1; omega)
    ·cases hf
  ·cases hf
 ·-- no room
  rename_i i0 o0 k0 hp
  rw [hp] at hs
  generalize e1 : a.eval s = s' at hs hex
  obtain ⟨sa, rfl, hk⟩ : ∃ sa : Option Addr, s' = .slice sa 0 0 ∧ (k0 ≠ 0 → sa.isSome = true) := by cases hs with | zslice _ _ _ a hk => exact ⟨_, rfl, hk⟩
  split at hf
  ·rename_i n news hfe
   obtain ⟨news', k1, k2, k3⟩ := fetch_ok (P := P) hh hx hfe
   split at hf
   ·cases hf
    obtain ⟨l1, l2⟩ := k3 w (Below.refl _ _)
    obtain rfl : news' = [] := List.length_eq_zero_iff.mp (by simpa using k2)
    exact ⟨.slice sa 0 0, w, ρ, .inl (hex (run_append_zero w ht' hxt' hux i1 sa _ l1 (by rw [i2]; exact l2))), .zslice i0 o0 k0 sa hk, Rho.le_refl ρ, hc, hh, Bel.refl B w⟩
   ·rename_i n1
    split at hf
    ·rename_i hb
     simp only [Bool.and_eq_true, Nat.ble_eq] at hb
     cases hf
     subst hc
     have k2 : news'.length = (n1 + 1) * de.size := k2
     obtain ⟨l1, _⟩ := k3 w (Below.refl _ _)
     obtain ⟨_, l2⟩ := k3 w.drew (drew_below w)
     have hr := run_append_new (P := P) w (ty := o.type) ht' hxt' hux i1 i4 sa 0 0 (a.eval x) (n1 + 1) #[] news'.toArray l1 (by cases sa with | none => rfl | some q => simp [Builtin.firstCells, loadCells, loadCellsFrom]) (by rw [i2]; exact l2) (by omega) (by omega) (growslice_fits (by omega) (by rw [i3, Nat.zero_add]; omega))
     simp only [Nat.zero_add, Array.empty_append] at hr
     have hge := grownCap_ge w (n1 + 1) 0 e
     have hzc := size_zeroCells de.zero.cells (grownCap w (n1 + 1) 0 e - (n1 + 1))
     rw [hzs] at hzc
     refine ⟨_, _, ρ ++ [⟨w.heap.size, 0, news'.length + (Builtin.zeroCells de.zero.cells (grownCap w (n1 + 1) 0 e - (n1 + 1))).size, de.size⟩], .inl (hex hr), ?_, Rho.le_push _ _, by simp, hh.newRow hB k1 _ 0 e hs0, ((Bel.refl B w).drew.alloc hB _)⟩
     refine .slice ρ.length 0 _ _ ⟨w.heap.size, 0, news'.length + (Builtin.zeroCells de.zero.cells (grownCap w (n1 + 1) 0 e - (n1 + 1))).size, de.size⟩ 0 _ (by simp) (.inl rfl) (fun q => absurd q hs0) (fun _ => ⟨hge, ?_, Nat.le_refl _⟩)
     show 0 + grownCap w (n1 + 1) 0 e * de.size ≤ news'.length + _
     rw [hzc, k2, ← Nat.add_mul]
     exact Nat.le_of_eq (by rw [Nat.zero_add]; congr 1; omega)
    ·cases hf
  ·cases hf
 ·rename_i i off len cap hp
  rw [hp] at hs
  generalize e1 : a.eval s = s' at hs hex
  cases hs with
  | slice i off len cap L o' cap' hL hz h0 h1 =>
   split at hf
   ·rename_i cs fz el es hg
    split at hf
    ·rename_i n news hfe
     obtain ⟨news', k1, k2, k3⟩ := fetch_ok (P := P) hh hx hfe
     split at hf
     ·rename_i hb
      simp only [Bool.and_eq_true, Nat.ble_eq] at hb
      obtain ⟨⟨⟨⟨⟨⟨b1, b2⟩, b3⟩, b4⟩, b5⟩, b6⟩, b7⟩ := hb
      have b3' := Nat.eq_of_beq_eq_true b3
      subst b3'
      obtain ⟨hLB0, hO⟩ := hh.at hg hL
      have hLe := hO.1
      have hnl : news.length = n * de.size := by rw [k1.1]; exact k2
      -- the old cells, wherever they are read
      have hold : ∃ olds' : List Value, Cells ρ ((cs.drop off).take (len * de.size)) olds' ∧ olds'.length = len * de.size ∧
       ∀ w', Below w.heap.size w w' → (Builtin.firstCells de.size len (.slice (some ⟨L.b, o', none⟩) len cap')).run P w' = .ok olds'.toArray w' := by
       by_cases hl0 : len = 0
       ·subst hl0
        exact ⟨[], by simp only [Nat.zero_mul, List.take_zero]; exact Cells.nil ρ, by simp, fun w' _ => by simp [Builtin.firstCells, loadCells, loadCellsFrom]⟩
       ·have ho' : o' = L.sh + off := by
         rcases hz with h | h
         ·exact h
         ·omega
        subst ho'
        obtain ⟨C', q1, q2, q3⟩ := cells_read hh hg hL b2
        exact ⟨C', q1, q2, fun w' hw => run_firstCells_some (P := P) w' de.size len _ _ _ C' q2 (q3 w' hw)⟩
      obtain ⟨olds', q1, q2, q3⟩ := hold
      -- a new block
      have grow : ∀ fz, cap' < len + n → EfPost P o B ρ a w (.slice (some ⟨ρ.length, 0, none⟩) (len + n) (len + n)) ((ρ.length, .cells ((cs.drop off).take (len * de.size) ++ news) fz el de.size) :: h) (ρ.length + 1) := by
       intro fz hlt
       obtain ⟨l1, _⟩ := k3 w (Below.refl _ _)
       obtain ⟨_, l2⟩ := k3 w.drew (drew_below w)
       have l3 := q3 w.drew (drew_below w)
       have hr := run_append_new (P := P) w (ty := o.type) ht' hxt' hux i1 i4 (some ⟨L.b, o', none⟩) len cap' (a.eval x) n olds'.toArray news'.toArray l1 (by rw [i2]; exact l3) (by rw [i2]; exact l2) hlt (by omega) (growslice_fits hlt (by rw [i3]; omega))
       have hge := grownCap_ge w (len + n) cap' el
       have hzc := size_zeroCells de.zero.cells (grownCap w (len + n) cap' el - (len + n))
       rw [hzs] at hzc
       have hap : olds'.toArray ++ news'.toArray = (olds' ++ news').toArray := by simp
       rw [hap] at hr
       refine ⟨_, _, ρ ++ [⟨w.heap.size, 0, (olds' ++ news').length + (Builtin.zeroCells de.zero.cells (grownCap w (len + n) cap' el - (len + n))).size, de.size⟩], .inl (hex hr), ?_, Rho.le_push _ _, by simp, hh.newRow hB (q1.append k1) _ fz el hs0, ((Bel.refl B w).drew.alloc hB _)⟩
       refine .slice ρ.length 0 _ _ ⟨w.heap.size, 0, (olds' ++ news').length + (Builtin.zeroCells de.zero.cells (grownCap w (len + n) cap' el - (len + n))).size, de.size⟩ 0 _ (by simp) (.inl rfl) (fun q => absurd q hs0) (fun _ => ⟨hge, ?_, Nat.le_refl _⟩)
       show 0 + grownCap w (len + n) cap' el * de.size ≤ (olds' ++ news').length + _
       rw [hzc, List.length_append, q2, k2, ← Nat.add_mul, ← Nat.add_mul]
       exact Nat.le_of_eq (by rw [Nat.zero_add]; congr 1; omega)
      -- the same, and the old number stays
      have growW : ∀ fz0, cap' < len + n → es ≠ 0 → ¬ L.gho → B.may L.b → frz (.cells cs fz el es) = false → EfPost P o B ρ a w (.slice (some ⟨ρ.length, 0, none⟩) (len + n) (len + n)) ((ρ.length, .cells ((cs.drop off).take (len * de.size) ++ news) fz0 el de.size) :: hset h i (.was cs ρ.length fz el es)) (ρ.length + 1) := by
       intro fz0 hlt hes1 hng1 hLB1 hfz1
       obtain ⟨l1, _⟩ := k3 w (Below.refl _ _)
       obtain ⟨_, l2⟩ := k3 w.drew (drew_below w)
       have l3 := q3 w.drew (drew_below w)
       have hr := run_append_new (P := P) w (ty := o.type) ht' hxt' hux i1 i4 (some ⟨L.b, o', none⟩) len cap' (a.eval x) n olds'.toArray news'.toArray l1 (by rw [i2]; exact l3) (by rw [i2]; exact l2) hlt (by omega) (growslice_fits hlt (by rw [i3]; omega))
       have hge := grownCap_ge w (len + n) cap' el
       have hzc := size_zeroCells de.zero.cells (grownCap w (len + n) cap' el - (len + n))
       rw [hzs] at hzc
       have hap : olds'.toArray ++ news'.toArray = (olds' ++ news').toArray := by simp
       rw [hap] at hr
       refine ⟨_, _, ρ ++ [⟨w.heap.size, 0, (olds' ++ news').length + (Builtin.zeroCells de.zero.cells (grownCap w (len + n) cap' el - (len + n))).size, de.size⟩], .inl (hex hr), ?_, Rho.le_push _ _, by simp, hh.newRowW hB (q1.append k1) _ fz0 el hs0 hg hL hes1 hng1 hLB1 hfz1, ((Bel.refl B w).drew.alloc hB _)⟩
       refine .slice ρ.length 0 _ _ ⟨w.heap.size, 0, (olds' ++ news').length + (Builtin.zeroCells de.zero.cells (grownCap w (len + n) cap' el - (len + n))).size, de.size⟩ 0 _ (by simp) (.inl rfl) (fun q => absurd q hs0) (fun _ => ⟨hge, ?_, Nat.le_refl _⟩)
       show 0 + grownCap w (len + n) cap' el * de.size ≤ (olds' ++ news').length + _
       rw [hzc, List.length_append, q2, k2, ← Nat.add_mul, ← Nat.add_mul]
       exact Nat.le_of_eq (by rw [Nat.zero_add]; congr 1; omega)
      split at hf
      ·-- capacities known
       have he0 : L.es = 0 := hLe
       have z2 := h0 he0
       subst z2
       split at hf
       ·rename_i hfit
        have hfit' : len + n ≤ cap' := by simpa [Nat.ble_eq] using hfit
        split at hf
        ·cases hf
         obtain ⟨l1, l2⟩ := k3 w (Below.refl _ _)
         have hn0 : news' = [] := List.eq_nil_of_length_eq_zero (by simpa using k2)
         subst hn0
         have hr := run_append_fit (P := P) w w (ty := o.type) ht' hxt' hux i1 ⟨L.b, o', none⟩ len cap' (a.eval x) 0 [] l1 (by rw [i2]; exact l2) (by omega) rfl
         exact ⟨_, w, ρ, .inl (hex hr), .slice i off _ _ L o' cap' hL hz h0 h1, Rho.le_refl ρ, hc, hh, Bel.refl B w⟩
        ·rename_i n1
         have z1 : o' = L.sh + off := by
          rcases hz with h | h
          ·exact h
          ·omega
         split at hf
         ·rename_i hb2
          simp only [Bool.and_eq_true, Nat.ble_eq] at hb2
          cases hf
          have b6' := k1.one1 b6
          obtain ⟨w', r1, r2, r3⟩ := hh.setCells (P := P) hg hL k1 (.inr rfl) (by intro q; rw [q] at hnl; simp only [List.length_nil] at hnl; have := Nat.mul_pos (Nat.succ_pos n1) (Nat.pos_of_ne_zero hs0); omega) hb2.2 hb2.1 b6'
          obtain ⟨l1, l2⟩ := k3 w (Below.refl _ _)
          have hr := run_append_fit (P := P) w w' (ty := o.type) ht' hxt' hux i1 ⟨L.b, o', none⟩ len cap' (a.eval x) (n1 + 1) news' l1 (by rw [i2]; exact l2) hfit' (by rw [i2, Addr.add_none, z1, Nat.add_assoc]; exact r1)
          refine ⟨_, w', ρ, .inl (hex hr), .slice i off _ _ L o' cap' hL (.inl z1) (fun _ => rfl) (fun q => absurd he0 q), Rho.le_refl ρ, hc, ?_, r3⟩
          exact r2
         ·cases hf
       ·rename_i hfit
        have hfit' : ¬ len + n ≤ cap' := by
         intro q
         have : Nat.ble (len + n) cap' = true := by simpa [Nat.ble_eq] using q
         rw [this] at hfit; cases hfit
        cases hf
        subst hc
        exact grow 0 (by omega)
      ·-- capacities not known
       rename_i es'
       split at hf
       ·rename_i hb2
        simp only [Bool.and_eq_true, Nat.ble_eq] at hb2
        have hes : L.es = de.size := by rw [hLe]; exact Nat.eq_of_beq_eq_true hb2.1
        have hes0 : L.es ≠ 0 := by rw [hes]; exact hs0
        obtain ⟨y1, y2, y4⟩ := h1 hes0
        split at hf
        ·-- nothing is appended
         cases hf
         obtain ⟨l1, l2⟩ := k3 w (Below.refl _ _)
         have hn0 : news' = [] := List.eq_nil_of_length_eq_zero (by simpa using k2)
         subst hn0
         have hr := run_append_fit (P := P) w w (ty := o.type) ht' hxt' hux i1 ⟨L.b, o', none⟩ len cap' (a.eval x) 0 [] l1 (by rw [i2]; exact l2) (by omega) rfl
         exact ⟨_, w, ρ, .inl (hex hr), .slice i off _ _ L o' cap' hL hz h0 h1, Rho.le_refl ρ, hc, hh, Bel.refl B w⟩
        ·rename_i n1
         cases hf
         subst hc
         have k2 : news'.length = (n1 + 1) * de.size := k2
         have hnl : news.length = (n1 + 1) * de.size := hnl
         by_cases hfit : len + (n1 + 1) ≤ cap'
         ·-- in place
          have b6' := k1.one1 b6
          have hng : ¬ L.gho := by
           intro g
           have g2 := g.2
           have : 1 * 1 ≤ cap' * L.es := Nat.mul_le_mul (by omega) (by omega)
           omega
          obtain ⟨C, fr, c1, c2, c3, c4, c5, c6⟩ := hO.cellsN hng
          have hLB1 : frz (.cells cs fz el (es' + 1)) = false := by
           cases hf : frz (.cells cs fz el (es' + 1)) with
           | false => rfl
           | true =>
            have := frz_cells hf
            omega
          have hLB : B.may L.b := hLB0 hLB1 hng
          have hroom : o' + (len + (n1 + 1)) * de.size ≤ L.sz := by
           have : (len + (n1 + 1)) * de.size ≤ cap' * L.es := by rw [hes]; exact Nat.mul_le_mul_right _ hfit
           omega
          have hm : (len + (n1 + 1)) * de.size = len * de.size + (n1 + 1) * de.size := Nat.add_mul _ _ _
          have hst := run_storeCells_atF P L.b (o' + len * de.size) el fr news' 0 C w c1 (by omega) (by rw [k2]; omega) b6'
          simp only [Nat.add_zero] at hst
          obtain ⟨l1, l2⟩ := k3 w (Below.refl _ _)
          have hr := run_append_fit (P := P) w _ (ty := o.type) ht' hxt' hux i1 ⟨L.b, o', none⟩ len cap' (a.eval x) (n1 + 1) news' l1 (by rw [i2]; exact l2) hfit (by rw [i2, Addr.add_none]; exact hst)
          refine ⟨_, _, ρ ++ [⟨L.b, o', L.sz, de.size⟩], .inl (hex hr), ?_, Rho.le_push _ _, by simp, ?_, below_setRow hLB _⟩
          ·exact .slice ρ.length 0 _ _ ⟨L.b, o', L.sz, de.size⟩ o' cap' (by simp) (.inl rfl) (fun q => absurd q hs0) (fun _ => ⟨hfit, by rw [← hes]; exact y2, Nat.le_refl _⟩)
          ·have hOK : OOk (ρ ++ [⟨L.b, o', L.sz, de.size⟩]) (w.setRow L.b (C.toList.take (o' + len * de.size) ++ news' ++ C.toList.drop (o' + len * de.size + news'.length)).toArray) ⟨L.b, o', L.sz, de.size⟩ (.cells ((cs.drop off).take (len * de.size) ++ news) fz el de.size) := ?_
           ·unfold wasH
            split
            ·rename_i hw
             simp only [Bool.and_eq_true, Nat.ble_eq] at hw
             obtain ⟨_, ⟨w1, w2⟩, w3⟩ := hw
             have w2 := Nat.eq_of_beq_eq_true w2
             have ho' : o' = L.sh := by
              rcases hz with h | h
              ·omega
              ·omega
             exact hh.wasMove hg hL rfl ho' rfl hLe (by omega) hng hLB hLB1 (fun k _ hk => setRow_other w L.b k _ hk) hOK
            ·exact hh.move hg hL rfl hng hLB hLB1 (fun k _ hk => setRow_other w L.b k _ hk) hOK
           refine OOk.mk_cells (es := de.size) rfl (setRow_heap w L.b C _ el fr c1) ?_ ?_ ?_ ?_ (fun q => absurd q hs0)
           ·simp; omega
           ·show o' + _ ≤ L.sz
            simp only [List.length_append, List.length_take, List.length_drop, hnl]
            omega
           ·show Cells _ _ ((List.drop o' _).take _)
            have hlen1 : ((cs.drop off).take (len * de.size) ++ news).length = len * de.size + news'.length := by
             rw [List.length_append, k1.1, q1.1, q2]
            have hCl : C.toList.length = L.sz := by simpa using c2
            have hdrop : ((C.toList.take (o' + len * de.size) ++ news' ++ C.toList.drop (o' + len * de.size + news'.length)).drop o').take (len * de.size + news'.length) = (C.toList.drop o').take (len * de.size) ++ news' := by
             rw [List.append_assoc, List.drop_append_of_le_length (by simp; omega), List.drop_take]
             have e2 : o' + len * de.size - o' = len * de.size := by omega
             rw [e2, ← List.append_assoc]
             exact List.take_left' (by rw [List.length_append, List.length_take, List.length_drop]; omega)
            rw [hlen1, hdrop]
            refine (Cells.append ?_ k1).mono (Rho.le_push _ _)
            by_cases hl0 : len = 0
            ·subst hl0
             simp only [Nat.zero_mul, List.take_zero]
             exact Cells.nil ρ
            ·have ho' : o' = L.sh + off := hz.resolve_right (by omega)
             have := (c4.drop off).take (len * de.size)
             have e3 : (((C.toList.drop L.sh).take cs.length).drop off).take (len * de.size) = (C.toList.drop o').take (len * de.size) := by
              rw [List.drop_take, List.take_take, List.drop_drop, ← ho']
              congr 1
              omega
             rw [e3] at this
             exact this
           ·show fr.2 ≤ o' + fz
            omega
         ·-- it grows
          unfold wasH
          split
          ·rename_i hw
           simp only [Bool.and_eq_true, Nat.ble_eq] at hw
           obtain ⟨_, ⟨w1, w2⟩, w3⟩ := hw
           have w3 := Nat.eq_of_beq_eq_true w3
           have hcs : cs ≠ [] := by
            intro q
            rw [q] at w3
            simp only [List.length_nil] at w3
            have := Nat.mul_pos w1 (Nat.pos_of_ne_zero hs0)
            omega
           have hng : ¬ L.gho := fun g => by
            obtain ⟨_, q | ⟨C, fr, c1, c2, c3, _⟩⟩ := hO
            ·exact hcs q.2
            ·have g2 := g.2
             have : cs.length ≠ 0 := fun q => hcs (List.eq_nil_of_length_eq_zero q)
             omega
           have hLB1 : frz (.cells cs fz el (es' + 1)) = false := by
            cases hf : frz (.cells cs fz el (es' + 1)) with
            | false => rfl
            | true =>
             have := frz_cells hf
             omega
           have hLB : B.may L.b := hLB0 hLB1 hng
           obtain ⟨V, W, ρ', g1, g2, g3, g4, g5, g6⟩ := growW fz (by omega) (by omega) hng hLB hLB1
           exact ⟨V, W, ρ', g1, g2, g3, g4, g5, g6⟩
          ·obtain ⟨V, W, ρ', g1, g2, g3, g4, g5, g6⟩ := grow fz (by omega)
           exact ⟨V, W, ρ', g1, g2, g3, g4, g5.sub (fun j u hj => hget_cons_del hj), g6⟩
       ·cases hf
     ·cases hf
    ·cases hf
   ·cases hf
  | sliceN i off L hL hes0 =>
   split at hf
   ·rename_i cs fz el es hg
    split at hf
    ·rename_i n news hfe
     obtain ⟨news', k1, k2, k3⟩ := fetch_ok (P := P) hh hx hfe
     split at hf
     ·rename_i hb
      simp only [Bool.and_eq_true, Nat.ble_eq] at hb
      obtain ⟨⟨⟨⟨⟨⟨b1, b2⟩, b3⟩, b4⟩, b5⟩, b6⟩, b7⟩ := hb
      obtain ⟨hLB, hO⟩ := hh.at hg hL
      have hLe := hO.1
      split at hf
      ·exact absurd hLe hes0.1
      ·rename_i es'
       split at hf
       ·split at hf
        ·cases hf
         obtain ⟨l1, l2⟩ := k3 w (Below.refl _ _)
         exact ⟨.slice none 0 0, w, ρ, .inl (hex (run_append_nil0 w ht' hxt' hux i1 _ news' l1 (by rw [i2]; exact l2))), .sliceN i off L hL hes0, Rho.le_refl ρ, hc, hh, Bel.refl B w⟩
        ·rename_i n1
         cases hf
         subst hc
         have k2 : news'.length = (n1 + 1) * de.size := k2
         obtain ⟨l1, _⟩ := k3 w (Below.refl _ _)
         obtain ⟨_, l2⟩ := k3 w.drew (drew_below w)
         have hr := run_append_new (P := P) w (ty := o.type) ht' hxt' hux i1 i4 none 0 0 (a.eval x) (n1 + 1) #[] news'.toArray l1 rfl (by rw [i2]; exact l2) (by omega) (by omega) (growslice_fits (by omega) (by rw [i3]; have b4' : (0 + (n1 + 1)) * de.bytes ≤ 1000000000 := b4; omega))
         simp only [Nat.zero_add, Array.empty_append] at hr
         have hge := grownCap_ge w (n1 + 1) 0 e
         have hzc := size_zeroCells de.zero.cells (grownCap w (n1 + 1) 0 e - (n1 + 1))
         rw [hzs] at hzc
         have e0 : (cs.drop off).take (0 * de.size) ++ news = news := by simp
         rw [e0, wasH_zero]
         refine ⟨_, _, ρ ++ [⟨w.heap.size, 0, news'.length + (Builtin.zeroCells de.zero.cells (grownCap w (n1 + 1) 0 e - (n1 + 1))).size, de.size⟩], .inl (hex hr), ?_, Rho.le_push _ _, by simp, (hh.newRow hB k1 _ fz e hs0).sub (fun j u hj => hget_cons_del hj), ((Bel.refl B w).drew.alloc hB _)⟩
         rw [Nat.zero_add]
         refine .slice ρ.length 0 _ _ ⟨w.heap.size, 0, news'.length + (Builtin.zeroCells de.zero.cells (grownCap w (n1 + 1) 0 e - (n1 + 1))).size, de.size⟩ 0 _ (by simp) (.inl rfl) (fun q => absurd q hs0) (fun _ => ⟨hge, ?_, Nat.le_refl _⟩)
         show 0 + grownCap w (n1 + 1) 0 e * de.size ≤ news'.length + _
         rw [hzc, k2, ← Nat.add_mul]
         exact Nat.le_of_eq (by rw [Nat.zero_add]; congr 1; omega)
       ·cases hf
     ·cases hf
    ·cases hf
   ·cases hf
 ·cases hf
noncomputable def backH (h : Heap) (i : Nat) : Heap :=
 match hget h i with
 | some (.was cs j fz el es) => match hget h j with
  | some (.cells cs' fz' el' es') => match (Nat.beq el' el && Nat.beq es' es && Nat.ble 1 es && eqVs (cs'.take cs.length) cs) with
   | true => hset (hdel h j) i (.cells cs (Nat.max fz fz') el es)
   | false => h
  | _ => h
 | _ => h
noncomputable def reviveH : Nat → Heap → Nat → Heap
 | 0, h, _ => h
 | n + 1, h, i => match hget h i with
  | some (.was _ j _ _ _) => backH (reviveH n h j) i
  | _ => h
theorem HRel.backH {B : Bd} {ρ : Rho} {h : Heap} {w : World} (H : HRel B ρ h w) (i : Nat) : HRel B ρ (Xm.backH h i) w := by
 unfold Xm.backH
 split
 ·rename_i cs j fz el es hi
  split
  ·rename_i cs' fz' el' es' hj
   split
   ·rename_i hb
    simp only [Bool.and_eq_true, Nat.ble_eq] at hb
    obtain ⟨⟨⟨b1, b2⟩, b3⟩, b4⟩ := hb
    have b1 := Nat.eq_of_beq_eq_true b1
    have b2 := Nat.eq_of_beq_eq_true b2
    subst b1
    subst b2
    have b4 := eqVs_eq b4
    refine H.back hi hj (by omega) ?_
    conv => lhs; rw [← List.take_append_drop cs.length cs']
    rw [b4]
   ·exact H
  ·exact H
 ·exact H
theorem HRel.reviveH {B : Bd} {ρ : Rho} {w : World} : ∀ (n : Nat) {h : Heap}, HRel B ρ h w → ∀ i, HRel B ρ (Xm.reviveH n h i) w
 | 0, _, H, _ => H
 | n + 1, h, H, i => by
  unfold Xm.reviveH
  split
  ·exact (HRel.reviveH n H _).backH i
  ·exact H
noncomputable def rPtrEq (neg : Bool) (x y : Src) (fb : RF) : RF := fun tm h =>
 match ev tm x, ev tm y with
 | .pointer none, .pointer none => some (.bool (!neg))
 | .pointer none, .pointer (some _) => some (.bool neg)
 | .pointer (some _), .pointer none => some (.bool neg)
 | .pointer (some a), .pointer (some b) => match Nat.beq a.block b.block with
  | true => some (.bool (Nat.beq a.off b.off != neg))
  | false => none
 | _, _ => fb tm h
theorem run_ptr_eq {P : Program} {t e : TypeId} {i : TypeInfo} (ht : P.underlying t = some (.pointer e)) (hi : P.info? e = some i) (hz : i.size ≠ 0) (w : World) {a b : Option Addr} {r : Bool}
 (h : (a = none ∧ b = none ∧ r = true) ∨ (a = none ∧ b.isSome = true ∧ r = false) ∨ (a.isSome = true ∧ b = none ∧ r = false) ∨ (∃ x y, a = some x ∧ b = some y ∧ x.block = y.block ∧ r = (x == y))) :
 (Op.equal t (.pointer a) (.pointer b)).run P w = .ok r w := by
 have h : ∀ d : Nat, (Op.equalIn (d + 1) t (.pointer a) (.pointer b)).run P w = .ok r w := by
  intro d
  rcases h with ⟨rfl, rfl, rfl⟩ | ⟨rfl, hb, rfl⟩ | ⟨ha, rfl, rfl⟩ | ⟨x, y, rfl, rfl, hxy, rfl⟩
  ·simp [Op.equalIn, run_underlying ht]
  ·cases b with
   | none => cases hb
   | some b => simp [Op.equalIn, run_underlying ht]
  ·cases a with
   | none => cases ha
   | some a => simp [Op.equalIn, run_underlying ht]
  ·simp [Op.equalIn, run_underlying ht, sizeOf, typeInfo, hi, hz, sameAddr]
   intro q
   exact absurd hxy q
 simp [Op.equal, Op.maxDepth, h 9999]
theorem run_ptr_bin {P : Program} {t e : TypeId} {i : TypeInfo} (ht : P.underlying t = some (.pointer e)) (hi : P.info? e = some i) (hz : i.size ≠ 0) (w : World) {a b : Option Addr} {r : Bool}
 (h : (a = none ∧ b = none ∧ r = true) ∨ (a = none ∧ b.isSome = true ∧ r = false) ∨ (a.isSome = true ∧ b = none ∧ r = false) ∨ (∃ x y, a = some x ∧ b = some y ∧ x.block = y.block ∧ r = (x == y))) (neg : Bool) :
 (binOp (if neg then .neq else .eql) t (.pointer a) (.pointer b)).run P w = .ok (.bool (r != neg)) w := by
 have he := run_ptr_eq ht hi hz w h
 cases neg
 ·have : (binOp .eql t (.pointer a) (.pointer b)) = (do pure (.bool (← Op.equal t (.pointer a) (.pointer b)))) := by unfold binOp; rfl
  simp only [Bool.false_eq_true, if_false, this, Sem.run_bind, he, Result.andThen_ok, Sem.run_pure]
  simp
 ·have : (binOp .neq t (.pointer a) (.pointer b)) = (do pure (.bool (!(← Op.equal t (.pointer a) (.pointer b))))) := by unfold binOp; rfl
  simp only [if_true, this, Sem.run_bind, he, Result.andThen_ok, Sem.run_pure]
  simp
theorem rPtrEq_ok {P : Program} {ty : Nat → Option XTy} (hT : TyOk P ty) {nt : Nat} {o : Oper} {neg : Bool} {t t' e : TypeId} {x y : Operand} {d de : XTy} {fb : RF} (ho : o.op = .binOp (if neg then .neq else .eql) t x y t')
 (hd : ty t = some d) (hu : d.u = .pointer e) (hde : ty e = some de) (hz : de.size ≠ 0) (hfb : RdOk P nt o fb) : RdOk P nt o (rPtrEq neg (src nt x) (src nt y) fb) := by
 intro tm h v hf B ρ a w ht hh
 have hx := src_ok ht x
 have hy := src_ok ht y
 obtain ⟨ht', _⟩ := hT t d hd
 rw [hu] at ht'
 obtain ⟨_, i, i1, i2, _⟩ := hT e de hde
 have hz' : i.size ≠ 0 := by rw [i2]; exact hz
 have hex : ∀ {p q : Option Addr} {r : Bool}, a.eval x = .pointer p → a.eval y = .pointer q → ((p = none ∧ q = none ∧ r = true) ∨ (p = none ∧ q.isSome = true ∧ r = false) ∨ (p.isSome = true ∧ q = none ∧ r = false) ∨ (∃ x y, p = some x ∧ q = some y ∧ x.block = y.block ∧ r = (x == y))) →
  ∀ w', (execOp a.eval o).run P w' = .ok (.value (.bool (r != neg))) w' := by
  intro p q r e1 e2 hr w'
  have hb := run_ptr_bin ht' i1 hz' w' hr neg
  have hg : (eqGuard (if neg then .neq else .eql) t x y (.pointer p) (.pointer q)).run P w' = .ok () w' := by
   unfold eqGuard
   cases neg <;> simp
  simp only [execOp, ho, e1, e2, Sem.run_bind, hg, Result.andThen_ok, hb, Sem.run_pure]
 unfold rPtrEq at hf
 split at hf
 ·rename_i h1 h2
  cases hf
  rw [h1] at hx
  rw [h2] at hy
  generalize e1 : a.eval x = x' at hx
  generalize e2 : a.eval y = y' at hy
  cases hx
  cases hy
  exact ⟨.bool (!neg), .bool _, fun w' _ => by have := hex (r := true) e1 e2 (.inl ⟨rfl, rfl, rfl⟩) w'; simpa using this⟩
 ·rename_i p h1 h2
  cases hf
  rw [h1] at hx
  rw [h2] at hy
  generalize e1 : a.eval x = x' at hx
  generalize e2 : a.eval y = y' at hy
  cases hx
  cases hy
  exact ⟨.bool neg, .bool _, fun w' _ => by have := hex (r := false) e1 e2 (.inr (.inl ⟨rfl, rfl, rfl⟩)) w'; simpa using this⟩
 ·rename_i p h1 h2
  cases hf
  rw [h1] at hx
  rw [h2] at hy
  generalize e1 : a.eval x = x' at hx
  generalize e2 : a.eval y = y' at hy
  cases hx
  cases hy
  exact ⟨.bool neg, .bool _, fun w' _ => by have := hex (r := false) e1 e2 (.inr (.inr (.inl ⟨rfl, rfl, rfl⟩))) w'; simpa using this⟩
 ·rename_i p q h1 h2
  split at hf
  ·rename_i hb
   cases hf
   have hb' := Nat.eq_of_beq_eq_true hb
   rw [h1] at hx
   rw [h2] at hy
   generalize e1 : a.eval x = x' at hx
   generalize e2 : a.eval y = y' at hy
   cases hx with
   | ptr i1 o1 L1 l1 =>
    cases hy with
    | ptr i2 o2 L2 l2 =>
     simp only at hb'
     subst hb'
     rw [l1] at l2
     cases l2
     refine ⟨.bool (Nat.beq o1 o2 != neg), .bool _, fun w' _ => ?_⟩
     have heq : ((⟨L1.b, L1.sh + o1, none⟩ : Addr) == ⟨L1.b, L1.sh + o2, none⟩) = Nat.beq o1 o2 := by
      by_cases ho : o1 = o2
      ·subst ho
       have : Nat.beq o1 o1 = true := by simp
       rw [this]; simp
      ·rw [nbeq_ne ho]
       simp only [beq_eq_false_iff_ne, ne_eq, Addr.mk.injEq, not_and]
       intro _ hq
       omega
     have := hex (r := Nat.beq o1 o2) e1 e2 (.inr (.inr (.inr ⟨_, _, rfl, rfl, rfl, heq.symm⟩))) w'
     exact this
  ·cases hf
 ·exact hfb tm h v hf B ρ a w ht hh
noncomputable def rToUnsafe (x : Src) (fb : RF) : RF := fun tm h =>
 match ev tm x with
 | .pointer (some a) => match hget h a.block with
  | some (.cells cs _ _ 0) => match Nat.blt a.off cs.length with
   | true => some (.pointer (some ⟨a.block, a.off, none⟩))
   | false => none
  | _ => none
 | _ => fb tm h
theorem HRel.shape {B : Bd} {ρ : Rho} {h : Heap} {w : World} (H : HRel B ρ h w) {i : Nat} {cs : List Value} {fz : Nat} {e : TypeId} {es : Nat} {L : Loc} (hi : hget h i = some (.cells cs fz e es)) (hL : ρ[i]? = some L) (hne : cs ≠ [] ∨ es = 0) :
 ∀ w', Below w.heap.size w w' → w'.shape? L.b = some (e, L.sz) := by
 intro w' hw
 obtain ⟨_, _, C, fr, c1, c2, _⟩ := (H.at hi hL).2.real hne
 have hlt : L.b < w.heap.size := (Array.getElem?_eq_some_iff.1 c1).1
 simp only [World.shape?, hw.block _ hlt, c1, c2]
theorem rToUnsafe_ok {P : Program} {ty : Nat → Option XTy} (hT : TyOk P ty) {nt : Nat} {o : Oper} {s t e : TypeId} {x : Operand} {ds dd de : XTy} {fb : RF} (ho : o.op = .convert s t x) (hs : ty s = some ds) (hus : ds.u = .pointer e) (hd : ty t = some dd) (hud : dd.u = .unsafePointer)
 (hde : ty e = some de) (hz : de.size ≠ 0) (hfb : RdOk P nt o fb) : RdOk P nt o (rToUnsafe (src nt x) fb) := by
 intro tm h v hf B ρ a w ht hh
 have hx := src_ok ht x
 obtain ⟨hs', _⟩ := hT s ds hs
 rw [hus] at hs'
 obtain ⟨hd', _⟩ := hT t dd hd
 rw [hud] at hd'
 obtain ⟨_, i, i1, i2, _⟩ := hT e de hde
 unfold rToUnsafe at hf
 split at hf
 ·rename_i p hp
  rw [hp] at hx
  generalize e1 : a.eval x = x' at hx
  cases hx with
  | ptr i off L hL =>
   split at hf
   ·rename_i cs fz el hg
    split at hf
    ·rename_i hb
     have hb' : off < cs.length := by simpa [Nat.blt_eq] using hb
     cases hf
     refine ⟨.pointer (some ⟨L.b, L.sh + off, none⟩), .ptr i off L hL, fun w' hw' => ?_⟩
     obtain ⟨_, _, C, fr, c1, c2, c3, _⟩ := (hh.at hg hL).2.real (.inr rfl)
     have hsh := hh.shape hg hL (.inr rfl) w' hw'
     have := Lib.run_to_unsafe (P := P) w' (⟨L.b, L.sh + off, none⟩ : Addr) hs' hd' i1 (by rw [i2]; exact hz) hsh (by show L.sh + off < L.sz; omega)
     simp only [execOp, ho, e1, Sem.run_bind, this, Result.andThen_ok, Sem.run_pure]
    ·cases hf
   ·cases hf
 ·exact hfb tm h v hf B ρ a w ht hh
noncomputable def rFromUnsafe (P : Program) (u : TypeId) (x : Src) (fb : RF) : RF := fun tm h =>
 match ev tm x with
 | .pointer (some a) => match hget h a.block with
  | some (.cells cs _ e 0) => match liesAt P P.depth e (cs.length / P.cellsOf e) a.off u 1 with
   | true => some (.pointer (some ⟨a.block, a.off, none⟩))
   | false => none
  | _ => none
 | _ => fb tm h
theorem rFromUnsafe_ok {P : Program} {ty : Nat → Option XTy} (hT : TyOk P ty) {nt : Nat} {o : Oper} {s t u : TypeId} {x : Operand} {ds dd du : XTy} {fb : RF} (ho : o.op = .convert s t x) (hs : ty s = some ds) (hus : ds.u = .unsafePointer) (hd : ty t = some dd) (hud : dd.u = .pointer u)
 (hdu : ty u = some du) (hfb : RdOk P nt o fb) : RdOk P nt o (rFromUnsafe P u (src nt x) fb) := by
 intro tm h v hf B ρ a w ht hh
 have hx := src_ok ht x
 obtain ⟨hs', _⟩ := hT s ds hs
 rw [hus] at hs'
 obtain ⟨hd', _⟩ := hT t dd hd
 rw [hud] at hd'
 obtain ⟨_, i, i1, i2, _⟩ := hT u du hdu
 unfold rFromUnsafe at hf
 split at hf
 ·rename_i p hp
  rw [hp] at hx
  generalize e1 : a.eval x = x' at hx
  cases hx with
  | ptr i off L hL =>
   split at hf
   ·rename_i cs fz el hg
    split at hf
    ·rename_i hb
     cases hf
     refine ⟨.pointer (some ⟨L.b, L.sh + off, none⟩), .ptr i off L hL, fun w' hw' => ?_⟩
     obtain ⟨h0, _, C, fr, c1, c2, c3, c4, c5, c6⟩ := (hh.at hg hL).2.real (.inr rfl)
     obtain ⟨z1, z2⟩ := c6 h0
     have hsh := hh.shape hg hL (.inr rfl) w' hw'
     have := Lib.run_from_unsafe (P := P) w' (⟨L.b, L.sh + off, none⟩ : Addr) hs' hd' i1 hsh (by show liesAt P P.depth el (L.sz / P.cellsOf el) (L.sh + off) u 1 = true; rw [z1, z2, Nat.zero_add]; exact hb)
     simp only [execOp, ho, e1, Sem.run_bind, this, Result.andThen_ok, Sem.run_pure]
    ·cases hf
   ·cases hf
 ·exact hfb tm h v hf B ρ a w ht hh
noncomputable def rSliceData (x : Src) : RF := fun tm _ =>
 match ev tm x with
 | .slice none 0 0 => some (.pointer none)
 | .slice (some ⟨b, o, _⟩) _ cap => match cap with
  | 0 => none
  | _ + 1 => some (.pointer (some ⟨b, o, none⟩))
 | _ => none
theorem rSliceData_ok {P : Program} {nt : Nat} {o : Oper} {x : Operand} {ts : Array TypeId} (ho : o.op = .call { callee := .builtin .unsafeSliceData, args := #[x], argTypes := ts }) : RdOk P nt o (rSliceData (src nt x)) := by
 apply RdOk.of_all
 intro tm h v hf B ρ a w ht hh
 have hx := src_ok ht x
 unfold rSliceData at hf
 split at hf
 ·rename_i hp
  cases hf
  rw [hp] at hx
  generalize e1 : a.eval x = x' at hx
  cases hx
  refine ⟨.pointer none, .pnil, fun w' => ?_⟩
  simp [execOp, ho, resolve, e1, invoke, builtin, Lib.run_unsafeSliceData_nil]
 ·rename_i b off sp len cap hp
  rw [hp] at hx
  generalize e1 : a.eval x = x' at hx
  split at hf
  ·cases hf
  ·rename_i cap0
   cases hf
   cases hx with
   | slice b off len cp L o' cap' hL hz h0 h1 =>
    have hh' : o' = L.sh + off ∧ cap' ≠ 0 := by
     refine ⟨hz.resolve_right (by omega), ?_⟩
     by_cases es : L.es = 0
     ·rw [h0 es]; omega
     ·have := (h1 es).1
      omega
    obtain ⟨rfl, hc⟩ := hh'
    refine ⟨.pointer (some ⟨L.b, L.sh + off, none⟩), .ptr b off L hL, fun w' => ?_⟩
    have := Lib.run_unsafeSliceData_row (P := P) w' ts o.type ⟨L.b, L.sh + off, none⟩ len cap' hc
    simp [execOp, ho, resolve, e1, invoke, builtin, this]
 ·cases hf
theorem liesAt_bytes_off {P : Program} {e : TypeId} (hc : P.cellsOf e = 1) (count off n : Nat) (hn : off + n ≤ count) : liesAt P P.depth e count off e n = true := by
 have hd : P.depth = (2 * (P.types.size + Made.depth) + 1) + 1 := rfl
 rw [hd]
 simp only [liesAt, Bool.or_eq_true]
 left
 rw [hd]
 simp [rowAt, hc, sameLayout, Nat.mod_one, Nat.div_one]
 omega
def bytesOf : List Value → Option (List UInt8)
 | [] => some []
 | .int .u8 (.ofNat n) :: l => match Nat.blt n 256 with
  | true => match bytesOf l with
   | some bs => some (n.toUInt8 :: bs)
   | none => none
  | false => none
 | _ => none
theorem bytesOf_ok {ρ : Rho} : ∀ (cs C : List Value) (bs : List UInt8), Cells ρ cs C → bytesOf cs = some bs → bs.length = cs.length ∧ ∀ (j : Nat) (b : UInt8), bs[j]? = some b → C[j]? = some (.int .u8 b.toNat)
 | [], C, bs, h, e => by
  simp only [bytesOf, Option.some.injEq] at e
  subst e
  exact ⟨rfl, fun j b hj => by simp at hj⟩
 | v :: cs, [], bs, h, e => by have := h.1; simp at this
 | v :: cs, v' :: C, bs, h, e => by
  unfold bytesOf at e
  split at e
  ·cases ‹_ = []›
  ·rename_i n l heq
   cases heq
   split at e
   ·rename_i hb
    split at e
    ·rename_i bs0 hbs
     cases e
     have ih := bytesOf_ok (ρ := ρ) cs C bs0 ⟨by have := h.1; simpa using this, fun i u u' x y => h.2 (i + 1) u u' (by simpa using x) (by simpa using y)⟩ hbs
     have hv := h.2 0 _ v' rfl rfl
     cases hv
     refine ⟨by simp [ih.1], fun j b hj => ?_⟩
     cases j with
     | zero =>
      simp only [List.getElem?_cons_zero, Option.some.injEq] at hj
      subst hj
      have hlt : n < 256 := by simpa [Nat.blt_eq] using hb
      simp [Nat.mod_eq_of_lt hlt]
     | succ j => exact ih.2 j b (by simpa using hj)
    ·cases e
   ·cases e
  ·cases e
noncomputable def eUnsafeString (x y : Src) : EF := fun tm h c =>
 match ev tm x, ev tm y with
 | .pointer none, .int .i64 (.ofNat n) => match n with
  | 0 => some (.string .empty, h, c)
  | _ + 1 => none
 | .pointer (some ⟨i, off, _⟩), .int .i64 (.ofNat n) => match n with
  | 0 => none
  | n + 1 => match hget h i with
   | some (.cells cs fz e es) => match (Nat.ble (off + (n + 1)) cs.length && Nat.ble n 1000000000 && Nat.ble fz cs.length) with
    | true => match bytesOf ((cs.drop off).take (n + 1)) with
     | some bs => some (.string ⟨bs.toArray⟩, hset h i (.cells cs (Nat.max fz (off + (n + 1))) e es), c)
     | none => none
    | false => none
   | _ => none
 | _, _ => none
theorem freeze_heap {w : World} {b off n : Nat} {C : Array Value} {e : TypeId} {fr : Nat × Nat} (h : w.heap[b]? = some (.cells C e fr)) (hn : n ≠ 0) : ∃ fr', (w.freeze ⟨b, off, none⟩ n).heap[b]? = some (.cells C e fr') ∧ fr'.2 ≤ Nat.max fr.2 (off + n) := by
 obtain ⟨lo, hi⟩ := fr
 have hlt : b < w.heap.size := (Array.getElem?_eq_some_iff.1 h).1
 have hv : w.heap[b] = .cells C e (lo, hi) := (Array.getElem?_eq_some_iff.1 h).2
 unfold World.freeze
 rw [if_neg hn]
 refine ⟨if lo == hi then (off, off + n) else (min lo off, max hi (off + n)), ?_, ?_⟩
 ·simp only [Array.getElem?_modify, h]
  simp
 ·split
  ·exact Nat.le_max_right _ _
  ·exact Nat.le_refl _
theorem freeze_other {w : World} {b off n k : Nat} (hk : k ≠ b) : (w.freeze ⟨b, off, none⟩ n).heap[k]? = w.heap[k]? := by
 unfold World.freeze
 split
 ·rfl
 ·simp [Array.getElem?_modify, Ne.symm hk]
theorem below_freeze {B : Bd} {w : World} {b : Nat} (hb : B.may b) (off n : Nat) : Bel B w (w.freeze ⟨b, off, none⟩ n) := by
 have h0 : Below 0 w (w.freeze ⟨b, off, none⟩ n) := Lib.below_freeze (Below.refl 0 w) (Nat.zero_le _) n
 exact (Bel.refl B w).one hb h0.os h0.tape h0.output h0.size (fun k hk => freeze_other hk)
theorem eUnsafeString_ok {P : Program} {ty : Nat → Option XTy} (hT : TyOk P ty) {nt : Nat} {o : Oper} {x y : Operand} {pt it : TypeId} {e : TypeId} {d de : XTy} (ho : o.op = .call { callee := .builtin .unsafeString, args := #[x, y], argTypes := #[pt, it] })
 (hd : ty pt = some d) (hu : d.u = .pointer e) (hde : ty e = some de) (hs1 : de.size = 1):
 EfOk P nt o (fun tm h c => match eUnsafeString (src nt x) (src nt y) tm h c with
  | some r => match ev tm (src nt x) with
   | .pointer (some a) => match hget h a.block with
    | some (.cells _ _ e' _) => match Nat.beq e' e with
     | true => some r
     | false => none
    | _ => none
   | _ => some r
  | none => none) := by
 intro tm h c v h' c' hf B ρ a w ht hh hc hB
 have hx := src_ok ht x
 have hy := src_ok ht y
 obtain ⟨hp', _⟩ := hT pt d hd
 rw [hu] at hp'
 obtain ⟨_, i, i1, i2, _⟩ := hT e de hde
 have hcell : P.cellsOf e = 1 := by simp [Program.cellsOf, i1, i2, hs1]
 have hex : ∀ {V W}, (Builtin.unsafeString_ #[pt, it] o.type #[a.eval x, a.eval y]).run P w = .ok V W → (execOp a.eval o).run P w = .ok (.value V) W := by
  intro V W hr
  simp [execOp, ho, resolve, invoke, builtin, hr]
 simp only at hf
 cases hr : eUnsafeString (src nt x) (src nt y) tm h c with
 | none => rw [hr] at hf; cases hf
 | some r =>
  rw [hr] at hf
  simp only at hf
  unfold eUnsafeString at hr
  split at hr
  ·rename_i n h1 h2
   rw [h1] at hf hx
   cases hf
   split at hr
   ·cases hr
    rw [h2] at hy
    generalize e1 : a.eval x = x' at hx hex
    generalize e2 : a.eval y = y' at hy hex
    cases hx
    cases hy
    exact ⟨.string .empty, w, ρ, .inl (hex (Lib.run_unsafeString_none (P := P) w pt it o.type none)), .string _, Rho.le_refl ρ, hc, hh, Bel.refl B w⟩
   ·cases hr
  ·rename_i i0 off sp n h1 h2
   rw [h1] at hf hx
   simp only at hf
   split at hr
   ·cases hr
   ·rename_i n0
    split at hr
    ·rename_i cs fz e' es hg
     rw [hg] at hf
     simp only at hf
     split at hf
     ·rename_i hbe
      have hbe' := Nat.eq_of_beq_eq_true hbe
      subst hbe'
      cases hf
      split at hr
      ·rename_i hb
       simp only [Bool.and_eq_true, Nat.ble_eq] at hb
       split at hr
       ·rename_i bs hbs
        cases hr
        rw [h2] at hy
        generalize e1 : a.eval x = x' at hx hex
        generalize e2 : a.eval y = y' at hy hex
        cases hy
        cases hx with
        | ptr i0 off L hL =>
         obtain ⟨hLB0, hO⟩ := hh.at hg hL
         have hLB1 : frz (.cells cs fz e' es) = false := by
          cases hf : frz (.cells cs fz e' es) with
          | false => rfl
          | true => have := frz_cells hf; omega
         have hne : cs ≠ [] := by
          intro q
          subst q
          simp at hb
         obtain ⟨hLe, hng, C, fr, c1, c2, c3, c4, c5, c6⟩ := hO.cells (.inl hne)
         have hLB : B.may L.b := hLB0 hLB1 hng
         have hsub := (c4.drop off).take (n0 + 1)
         obtain ⟨b1, b2⟩ := bytesOf_ok (ρ := ρ) _ _ bs hsub hbs
         have hbl : bs.length = n0 + 1 := by rw [b1]; simp; omega
         have hcellw : ∀ j b, bs[j]? = some b → w.cell? ((⟨L.b, L.sh + off, none⟩ : Addr).add j) = some (.int .u8 b.toNat) := by
          intro j b hj
          have := b2 j b hj
          rw [Addr.add_none, cell_of_heap c1]
          have hjl : j < n0 + 1 := by have := (List.getElem?_eq_some_iff.1 hj).1; omega
          rw [List.getElem?_take, if_pos hjl, List.getElem?_drop, List.getElem?_take, if_pos (by omega), List.getElem?_drop, Array.getElem?_toList] at this
          rw [Nat.add_assoc]
          exact this
         have hsh := hh.shape hg hL (.inl hne) w (Below.refl _ _)
         have hlb := Lib.run_loadBytes (P := P) w bs ⟨L.b, L.sh + off, none⟩ .empty hcellw
         have hlies := liesAt_bytes_off (P := P) hcell (L.sz / P.cellsOf e') (L.sh + off) (n0 + 1) (by rw [hcell, Nat.div_one]; omega)
         have hrun : (Builtin.unsafeString_ #[pt, it] o.type #[.pointer (some ⟨L.b, L.sh + off, none⟩), .int .i64 (Int.ofNat (n0 + 1))]).run P w = .ok (.string ⟨bs.toArray⟩) (w.freeze ⟨L.b, L.sh + off, none⟩ (n0 + 1)) := by
          have hdef : ∃ (p1 p2 : Sem PUnit) (p3 : Sem Value), Builtin.unsafeString_ #[pt, it] o.type #[.pointer (some ⟨L.b, L.sh + off, none⟩), .int .i64 (Int.ofNat (n0 + 1))] =
           (do
            let n ← asInt (.int .i64 (Int.ofNat (n0 + 1)))
            if n < 0 then p1
            if n > IntKind.i64.max then p2
            if n = 0 then pure (.string .empty)
            else if ← variablesAt ⟨L.b, L.sh + off, none⟩ (← elemOf pt) n.toNat then do
             let s ← loadBytes ⟨L.b, L.sh + off, none⟩ .empty n.toNat
             freeze ⟨L.b, L.sh + off, none⟩ n.toNat
             pure (.string s)
            else p3) := ⟨_, _, _, rfl⟩
          obtain ⟨p1, p2, p3, hdef⟩ := hdef
          rw [hdef]
          have hmax : IntKind.i64.max = 9223372036854775807 := rfl
          have q1 : ¬ ((n0 : Int) + 1 < 0) := by omega
          have q2 : ¬ ((9223372036854775807 : Int) < (n0 : Int) + 1) := by omega
          have q3 : ¬ ((n0 : Int) + 1 = 0) := by omega
          have q4 : ((n0 : Int) + 1).toNat = n0 + 1 := by omega
          rw [hbl] at hlb
          simp [asInt, asIntOf, hmax, q1, q2, q3, q4, variablesAt, hsh, elemOf, run_underlying hp', hlies, hlb]
         obtain ⟨fr', f1, f2⟩ := freeze_heap (w := w) (b := L.b) (off := L.sh + off) (n := n0 + 1) c1 (by omega)
         refine ⟨.string ⟨bs.toArray⟩, _, ρ, .inl (hex hrun), .string _, Rho.le_refl ρ, hc, ?_, below_freeze hLB _ _⟩
         refine hh.set hg hL hng hLB (fun k _ hk => freeze_other hk) ?_ hLB1
         refine OOk.mk_cells hLe f1 c2 c3 c4 ?_ c6
         refine Nat.le_trans f2 ?_
         have m1 : fz ≤ Nat.max fz (off + (n0 + 1)) := Nat.le_max_left _ _
         have m2 : off + (n0 + 1) ≤ Nat.max fz (off + (n0 + 1)) := Nat.le_max_right _ _
         exact Nat.max_le.2 ⟨by omega, by omega⟩
       ·cases hr
      ·cases hr
     ·cases hf
    ·cases hr
  ·cases hr
def u8L : List Value → Option (List Int)
 | [] => some []
 | .int .u8 n :: l => match u8L l with
  | some ns => some (n :: ns)
  | none => none
 | _ => none
theorem u8L_eq : ∀ {cs : List Value} {ns : List Int}, u8L cs = some ns → cs = ns.map (Value.int .u8)
 | [], ns, h => by cases h; rfl
 | v :: l, ns, h => by
  unfold u8L at h
  split at h
  ·cases ‹_ = []›
  ·rename_i n l' heq
   cases heq
   split at h
   ·rename_i ms hm
    cases h
    rw [List.map_cons, ← u8L_eq hm]
   ·cases h
  ·cases h
def strN (xs : List Int) : ByteArray := ⟨(xs.map fun n => n.toNat.toUInt8).toArray⟩
theorem push_all : ∀ (ns : List Int) (s : ByteArray), ns.foldl (fun r n => r.push (UInt8.ofNat n.toNat)) s = ⟨s.data ++ (ns.map fun n => n.toNat.toUInt8).toArray⟩
 | [], s => by
  obtain ⟨d⟩ := s
  simp
 | n :: ns, s => by
  rw [List.foldl_cons, push_all ns]
  obtain ⟨d⟩ := s
  show (⟨d.push _ ++ _⟩ : ByteArray) = _
  congr 1
  apply Array.ext'
  simp
theorem strN_eq (ns : List Int) : ns.foldl (fun r n => r.push (UInt8.ofNat n.toNat)) ByteArray.empty = strN ns := by
 rw [push_all]
 show (⟨#[] ++ _⟩ : ByteArray) = _
 rw [Array.empty_append]
 rfl
theorem cells_u8 {ρ : Rho} {ns : List Int} {l : List Value} (h : Cells ρ (ns.map (Value.int .u8)) l) : l = ns.map (Value.int .u8) := by
 obtain ⟨h1, h2⟩ := h
 apply List.ext_getElem?
 intro i
 cases hi : (ns.map (Value.int .u8))[i]? with
 | none =>
  rw [List.getElem?_eq_none_iff] at hi ⊢
  omega
 | some v =>
  have hlt := (List.getElem?_eq_some_iff.1 hi).1
  have h' : l[i]? = some (l[i]'(by omega)) := List.getElem?_eq_getElem _
  rw [h']
  have hv := h2 i v _ hi h'
  obtain ⟨n, _, rfl⟩ := List.mem_map.1 (List.mem_of_getElem? hi)
  exact congrArg some (hv.scal_eq rfl)
noncomputable def rBytesS (x : Src) (fb : RF) : RF := fun tm h =>
 match ev tm x with
 | .slice a n cap => match fetch h 1 (.slice a n cap) with
  | some r => match u8L r.2 with
   | some ns => some (.string (strN ns))
   | none => none
  | none => none
 | _ => fb tm h
theorem rBytesS_ok {P : Program} {ty : Nat → Option XTy} (hT : TyOk P ty) {nt : Nat} {o : Oper} {s t e : TypeId} {x : Operand} {ds dd de : XTy} {fb : RF} (ho : o.op = .convert s t x) (hs : ty s = some ds) (hus : ds.u = .slice e) (hd : ty t = some dd) (hud : dd.u = .string)
 (hde : ty e = some de) (hue : de.u = .int .u8) (hfb : RdOk P nt o fb) : RdOk P nt o (rBytesS (src nt x) fb) := by
 intro tm h v hf B ρ a w ht hh
 have hx := src_ok ht x
 obtain ⟨hs', _⟩ := hT s ds hs
 rw [hus] at hs'
 obtain ⟨hd', _⟩ := hT t dd hd
 rw [hud] at hd'
 obtain ⟨he', _⟩ := hT e de hde
 rw [hue] at he'
 unfold rBytesS at hf
 split at hf
 ·rename_i ad n cap hev
  split at hf
  ·rename_i r hfe
   split at hf
   ·rename_i ns hns
    cases hf
    rw [hev] at hx
    obtain ⟨k, cs⟩ := r
    obtain ⟨news', q1, q2, q3⟩ := fetch_ok (P := P) hh hx hfe
    have hns : u8L cs = some ns := hns
    rw [u8L_eq hns] at q1
    have hn := cells_u8 q1
    subst hn
    generalize e1 : a.eval x = x' at hx q3
    refine ⟨.string (strN ns), .string _, fun w' hw' => ?_⟩
    obtain ⟨f1, f2⟩ := q3 w' hw'
    have key : (convert s t x').run P w' = .ok (.string (strN ns)) w' := by
     have none_ : ∀ (l c : Nat), (Builtin.firstCells 1 k (.slice none l c)).run P w' = .ok (ns.map (Value.int .u8)).toArray w' → (convert s t (.slice none l c)).run P w' = .ok (.string (strN ns)) w' := fun l c f => by
      rw [run_convert_bytes_string w' s t e none l c hs' he' hd']
      have f : (Result.ok #[] w' : Result (Array Value)) = .ok (ns.map (Value.int .u8)).toArray w' := f
      have hz : (ns.map (Value.int .u8)) = [] := by
       have := (Result.ok.inj f).1
       simpa using this.symm
      have : ns = [] := by simpa using hz
      subst this
      rfl
     have some_ : ∀ (ad : Addr) (l c : Nat), k = l → (Builtin.firstCells 1 k (.slice (some ad) l c)).run P w' = .ok (ns.map (Value.int .u8)).toArray w' → (convert s t (.slice (some ad) l c)).run P w' = .ok (.string (strN ns)) w' := fun ad l c hk f => by
      subst hk
      rw [run_convert_bytes_string w' s t e (some ad) k c hs' he' hd', run_bytesToString w' ad k c ns, strN_eq]
      have f : (loadCells ad (k * 1)).run P w' = _ := f
      rw [Nat.mul_one] at f
      exact f
     cases hx with
     | snil => exact none_ _ _ f2
     | slice i o len cap L o' cap' hL hz h0 h1 => exact some_ _ _ _ (by have f1 : (Result.ok n w' : Result Nat) = .ok k w' := f1; exact (Result.ok.inj f1).1.symm) f2
     | sliceN i o L hL hes => exact none_ _ _ f2
     | zslice i o k' a' hk' =>
      cases a' with
      | none => exact none_ _ _ f2
      | some a' => exact some_ _ _ _ (by have f1 : (Result.ok 0 w' : Result Nat) = .ok k w' := f1; exact (Result.ok.inj f1).1.symm) f2
    simp only [execOp, ho, e1, Sem.run_bind, key, Result.andThen_ok, Sem.run_pure]
   ·cases hf
  ·cases hf
 ·exact hfb tm h v hf B ρ a w ht hh
def byteAt (s : ByteArray) (n : Int) : Int := ((s.data.toList.getD n.toNat 0).toNat : Int)
noncomputable def rIdxT (x i : Src) (fb : RF) : RF := fun tm h =>
 match ev tm x, ev tm i with
 | .string s, .int _ n => match inRow n s.size with
  | true => some (.int .u8 (byteAt s n))
  | false => none
 | _, _ => fb tm h
theorem rIdxT_ok {P : Program} {ty : Nat → Option XTy} (hT : TyOk P ty) {nt : Nat} {o : Oper} {t : TypeId} {x i : Operand} {d : XTy} {fb : RF} (ho : o.op = .index t x i) (hd : ty t = some d) (hu : d.u = .string) (hfb : RdOk P nt o fb) :
 RdOk P nt o (rIdxT (src nt x) (src nt i) fb) := by
 intro tm h v hf B ρ a w ht hh
 have hx := src_ok ht x
 have hi := src_ok ht i
 unfold rIdxT at hf
 split at hf
 ·rename_i s k n hp hq
  rw [hp] at hx
  rw [hq] at hi
  generalize e1 : a.eval x = x' at hx
  generalize e2 : a.eval i = i' at hi
  split at hf
  ·rename_i hb
   cases hf
   cases hx
   cases hi
   simp only [inRow, Bool.and_eq_true, decide_eq_true_eq] at hb
   obtain ⟨h0, h1⟩ := hb
   have hlt : n.toNat < s.size := by omega
   have hget : s[n.toNat]? = some s[n.toNat] := by simp [hlt]
   have hby : (s[n.toNat]).toNat = (s.data.toList.getD n.toNat 0).toNat := by
    have : s[n.toNat] = s.data.toList.getD n.toNat 0 := by
     have hl : n.toNat < s.data.toList.length := by simpa using hlt
     rw [List.getD_eq_getElem?_getD, List.getElem?_eq_getElem hl]
     rfl
    rw [this]
   refine ⟨.int .u8 (byteAt s n), .int _ _, fun w' _ => ?_⟩
   have hun := hT.und hd w'
   simp [execOp, ho, e1, e2, Instr.index, asIntOf, hun, hu, h0, hlt, byteAt, hby]
  ·cases hf
 ·exact hfb tm h v hf B ρ a w ht hh
noncomputable def rIdxV (len : Nat) (x i : Src) (fb : RF) : RF := fun tm h =>
 match ev tm x, ev tm i with
 | .agg cs, .int _ n => match inRow n len, cs.toList[n.toNat]? with
  | true, some v => some v
  | _, _ => fb tm h
 | _, _ => fb tm h
theorem rIdxV_ok {P : Program} {ty : Nat → Option XTy} (hT : TyOk P ty) {nt : Nat} {o : Oper} {t e : TypeId} {x i : Operand} {d de : XTy} {len : Nat} {fb : RF} (ho : o.op = .index t x i) (hd : ty t = some d) (hu : d.u = .array len e)
 (hde : ty e = some de) (hz : de.size = 1) (hag : aggB de.u = false) (hfb : RdOk P nt o fb) : RdOk P nt o (rIdxV len (src nt x) (src nt i) fb) := by
 intro tm h v hf B ρ a w ht hh
 have hx := src_ok ht x
 have hi := src_ok ht i
 unfold rIdxV at hf
 split at hf
 ·rename_i cs k n hp hq
  split at hf
  ·rename_i u hb hu0
   cases hf
   rw [hp] at hx
   rw [hq] at hi
   generalize e1 : a.eval x = x' at hx
   generalize e2 : a.eval i = i' at hi
   cases hi
   cases hx with
   | agg _ c' hsz hr =>
    simp only [inRow, Bool.and_eq_true, decide_eq_true_eq] at hb
    have h1 : cs[n.toNat]? = some v := by simpa using hu0
    have hlt : n.toNat < cs.size := (Array.getElem?_eq_some_iff.1 h1).1
    have h2 : c'[n.toNat]? = some (c'[n.toNat]'(by omega)) := Array.getElem?_eq_getElem _
    refine ⟨_, hr _ _ _ h1 h2, fun w' _ => ?_⟩
    have hun := hT.und hd w'
    have ha := hT.isAgg hde w'
    rw [hag] at ha
    have hsz' := hT.sizeOf hde w'
    rw [hz] at hsz'
    have h3 : n.toNat * 1 = n.toNat := Nat.mul_one _
    have hq : (part e c' n.toNat).run P w' = .ok (c'[n.toNat]'(by omega)) w' := by simp only [part, Sem.run_bind, ha, Result.andThen_ok, h2]; rfl
    simp only [execOp, ho, e1, e2, Instr.index, asIntOf, Sem.run_bind, Sem.run_pure, Result.andThen_ok, hun, hu, hb.1, hb.2, and_self, if_true, hsz', h3, hq]
  ·exact hfb tm h v hf B ρ a w ht hh
 ·exact hfb tm h v hf B ρ a w ht hh
def cutOk (lo hi : Int) (len : Nat) : Bool := decide (0 ≤ lo) && (decide (lo ≤ hi) && decide (hi ≤ (len : Int)))
def cutT (s : ByteArray) (lo hi : Int) : ByteArray := ⟨⟨(s.data.toList.drop lo.toNat).take (hi.toNat - lo.toNat)⟩⟩
theorem extract_cut (s : ByteArray) (a b : Nat) : s.extract a b = ⟨⟨(s.data.toList.drop a).take (b - a)⟩⟩ := by
 apply ByteArray.ext
 rw [ByteArray.data_extract]
 apply Array.ext'
 simp
noncomputable def rCutT (nt : Nat) (x : Src) (lo hi : Option Operand) (fb : RF) : RF := fun tm h =>
 match ev tm x with
 | .string s => match lo, hi with
  | some l, some r => match ev tm (src nt l), ev tm (src nt r) with
   | .int _ a, .int _ b => match cutOk a b s.size with
    | true => some (.string (cutT s a b))
    | false => none
   | _, _ => fb tm h
  | some l, none => match ev tm (src nt l) with
   | .int _ a => match cutOk a (s.size : Int) s.size with
    | true => some (.string (cutT s a (s.size : Int)))
    | false => none
   | _ => fb tm h
  | none, some r => match ev tm (src nt r) with
   | .int _ b => match cutOk 0 b s.size with
    | true => some (.string (cutT s 0 b))
    | false => none
   | _ => fb tm h
  | none, none => fb tm h
 | _ => fb tm h
theorem rCutT_ok {P : Program} {ty : Nat → Option XTy} (hT : TyOk P ty) {nt : Nat} {o : Oper} {t : TypeId} {x : Operand} {lo hi : Option Operand} {d : XTy} {fb : RF} (ho : o.op = .slice t x lo hi none) (hd : ty t = some d) (hu : d.u = .string) (hfb : RdOk P nt o fb) :
 RdOk P nt o (rCutT nt (src nt x) lo hi fb) := by
 intro tm h v hf B ρ a w ht hh
 have hx := src_ok ht x
 have hfb' := fun hf => hfb tm h v hf B ρ a w ht hh
 unfold rCutT at hf
 split at hf
 ·rename_i s hp
  rw [hp] at hx
  generalize e1 : a.eval x = x' at hx
  cases hx
  split at hf
  ·rename_i l r
   have hl := src_ok ht l
   have hr := src_ok ht r
   split at hf
   ·rename_i ka m kb n q1 q2
    rw [q1] at hl
    rw [q2] at hr
    generalize e2 : a.eval l = l' at hl
    generalize e3 : a.eval r = r' at hr
    cases hl
    cases hr
    split at hf
    ·rename_i hb
     cases hf
     simp only [cutOk, Bool.and_eq_true, decide_eq_true_eq] at hb
     obtain ⟨h0, h1, h2⟩ := hb
     refine ⟨.string (cutT s m n), .string _, fun w' _ => ?_⟩
     have hun := hT.und hd w'
     have n0 : 0 ≤ n := by omega
     have m1 : max n 0 = n := by omega
     simp [execOp, ho, e1, e2, e3, Instr.sliceAt, Instr.slice, Instr.sliceBounds, Instr.sliceBound, asIntOf, hun, hu, h0, n0, m1, h1, h2, cutT, extract_cut]
    ·cases hf
   ·exact hfb' hf
  ·rename_i l
   have hl := src_ok ht l
   split at hf
   ·rename_i ka m q1
    rw [q1] at hl
    generalize e2 : a.eval l = l' at hl
    cases hl
    split at hf
    ·rename_i hb
     cases hf
     simp only [cutOk, Bool.and_eq_true, decide_eq_true_eq] at hb
     obtain ⟨h0, h1, h2⟩ := hb
     refine ⟨.string (cutT s m (s.size : Int)), .string _, fun w' _ => ?_⟩
     have hun := hT.und hd w'
     simp [execOp, ho, e1, e2, Instr.sliceAt, Instr.slice, Instr.sliceBounds, Instr.sliceBound, asIntOf, hun, hu, h0, h1, cutT, extract_cut]
    ·cases hf
   ·exact hfb' hf
  ·rename_i r
   have hr := src_ok ht r
   split at hf
   ·rename_i kb n q2
    rw [q2] at hr
    generalize e3 : a.eval r = r' at hr
    cases hr
    split at hf
    ·rename_i hb
     cases hf
     simp only [cutOk, Bool.and_eq_true, decide_eq_true_eq] at hb
     obtain ⟨h0, h1, h2⟩ := hb
     refine ⟨.string (cutT s 0 n), .string _, fun w' _ => ?_⟩
     have hun := hT.und hd w'
     simp [execOp, ho, e1, e3, Instr.sliceAt, Instr.slice, Instr.sliceBounds, Instr.sliceBound, asIntOf, hun, hu, h1, h2, cutT, extract_cut]
    ·cases hf
   ·exact hfb' hf
  ·exact hfb' hf
 ·exact hfb' hf
end Go.Xm
