/- The abstract machine, part 6: append; raw pointers; a string over bytes (strings.Builder). -/
import Derived.Test.YtfgggididakkbaaGreatDoorMe
namespace Go.Xm
open Go.RowKit

/-! ### append -/
/-- What is appended: how many elements, their cells. -/
noncomputable def fetch (h : Heap) (size : Nat) (x : Value) : Option (Nat × List Value) :=
  match x with
  | .slice none 0 0 => some (0, [])
  | .slice (some ⟨j, off, _⟩) n cap => match n with
    | 0 => some (0, [])
    | n + 1 => match hget h j with
      | some (.cells cs _ _ _) => match (Nat.ble (n + 1) cap && Nat.ble (off + (n + 1) * size) cs.length) with
        | true => some (n + 1, (cs.drop off).take ((n + 1) * size))
        | false => none
      | _ => none
  | .string s => match size with
    | 1 => some (s.size, s.data.toList.map fun b => .int .u8 (.ofNat b.toNat))
    | _ => none
  | _ => none

/-- The cells that an operand's slice holds, in the world. -/
theorem cells_read {B : Bd} {ρ : Rho} {h : Heap} {w : World} (H : HRel B ρ h w) {j off len : Nat} {cs : List Value} {fz : Nat} {e : TypeId} {es : Nat} {L : Loc} (hg : hget h j = some (.cells cs fz e es)) (hL : ρ[j]? = some L)
    (hb : off + len ≤ cs.length) : ∃ C' : List Value, Cells ρ ((cs.drop off).take len) C' ∧ C'.length = len ∧ ∀ w', Below w.heap.size w w' → ∀ (i : Nat) (v : Value), C'[i]? = some v → w'.cell? ((⟨L.b, L.sh + off, none⟩ : Addr).add i) = some v := by
  by_cases hne : cs = []
  · subst hne
    have h0 : len = 0 := by
      have : off + len ≤ 0 := hb
      omega
    subst h0
    exact ⟨[], by simp only [List.take_zero]; exact Cells.nil ρ, rfl, fun w' hw i v hi => by cases hi⟩
  obtain ⟨_, _, C, fr, c1, c2, c3, c4, c5, c6⟩ := (H.at hg hL).2.cells (.inl hne)
  refine ⟨((C.toList.drop L.sh).take cs.length).drop off |>.take len, (c4.drop off).take len, ?_, fun w' hw i v hi => ?_⟩
  · simp; omega
  · have hlt : L.b < w.heap.size := (Array.getElem?_eq_some_iff.1 c1).1
    rw [Addr.add_none, hw.cell (p := ⟨L.b, L.sh + off + i, none⟩) hlt, cell_of_heap c1]
    rw [List.getElem?_take] at hi
    split at hi
    · rw [List.getElem?_drop, List.getElem?_take] at hi
      split at hi
      · rw [List.getElem?_drop, Array.getElem?_toList] at hi
        rw [Nat.add_assoc]
        exact hi
      · cases hi
    · cases hi

theorem fetch_ok {P : Program} {B : Bd} {ρ : Rho} {h : Heap} {w : World} (H : HRel B ρ h w) {size : Nat} {x x' : Value} (hx : VRel ρ x x') {n : Nat} {news : List Value} (hf : fetch h size x = some (n, news)) :
    ∃ news' : List Value, Cells ρ news news' ∧ news'.length = n * size ∧ ∀ w', Below w.heap.size w w' → (Builtin.lenOf x').run P w' = .ok n w' ∧ (Builtin.firstCells size n x').run P w' = .ok news'.toArray w' := by
  unfold fetch at hf
  split at hf
  · cases hf
    cases hx
    exact ⟨[], Cells.nil ρ, by simp, fun w' _ => ⟨rfl, rfl⟩⟩
  · rename_i j off sp n0 cap
    split at hf
    · cases hf
      cases hx with
      | slice i o len cap L o' cap' hL hz h0 h1 =>
        exact ⟨[], Cells.nil ρ, by simp, fun w' _ => ⟨rfl, by simp [Builtin.firstCells, loadCells, loadCellsFrom]⟩⟩
      | sliceN i o L hL hes => exact ⟨[], Cells.nil ρ, by simp, fun w' _ => ⟨rfl, rfl⟩⟩
      | zslice i o k a hk =>
        cases a with
        | none => exact ⟨[], Cells.nil ρ, by simp, fun w' _ => ⟨rfl, rfl⟩⟩
        | some a => exact ⟨[], Cells.nil ρ, by simp, fun w' _ => ⟨rfl, by simp [Builtin.firstCells, loadCells, loadCellsFrom]⟩⟩
    · rename_i n1
      split at hf
      · rename_i cs fz el es hg
        split at hf
        · rename_i hb
          cases hf
          simp only [Bool.and_eq_true, Nat.ble_eq] at hb
          cases hx with
          | slice i o len cap L o' cap' hL hz h0 h1 =>
            have ho' : o' = L.sh + off := by
              rcases hz with h | h
              · exact h
              · omega
            subst ho'
            obtain ⟨C', k1, k2, k3⟩ := cells_read H hg hL hb.2
            exact ⟨C', k1, k2, fun w' hw => ⟨rfl, run_firstCells_some (P := P) w' size (n1 + 1) _ _ _ C' k2 (k3 w' hw)⟩⟩
        · cases hf
      · cases hf
  · rename_i s
    split at hf
    · cases hf
      cases hx
      refine ⟨s.data.toList.map fun b => .int .u8 (.ofNat b.toNat), ?_, ?_, fun w' _ => ⟨rfl, ?_⟩⟩
      · refine ⟨rfl, fun i v v' e1 e2 => ?_⟩
        rw [e1] at e2
        cases e2
        rw [List.getElem?_map, Option.map_eq_some_iff] at e1
        obtain ⟨b, _, rfl⟩ := e1
        exact .int _ _
      · rw [List.length_map, Nat.mul_one]; rfl
      · have := Lib.run_firstCells_string (P := P) w' 1 s
        rw [this]
        rfl
    · cases hf
  · cases hf

def NoInt (dx : TypeDesc) : Prop := dx = .string ∨ ∃ e, dx = .slice e

set_option maxHeartbeats 1000000 in
/-- append where it does not fit: a new block. -/
theorem run_append_new {P : Program} (w : World) {t xt e ty : TypeId} {dx : TypeDesc} {i : TypeInfo} {z : Value} (ht : P.underlying t = some (.slice e)) (hxt : P.underlying xt = some dx) (hdx : NoInt dx) (hi : P.info? e = some i) (hz : i.zero = some z)
    (base : Option Addr) (sLen sCap : Nat) (x : Value) (n : Nat) (olds news : Array Value) (hl : (Builtin.lenOf x).run P w = .ok n w) (ho : (Builtin.firstCells i.size sLen (.slice base sLen sCap)).run P w.drew = .ok olds w.drew)
    (hn : (Builtin.firstCells i.size n x).run P w.drew = .ok news w.drew) (hg : sCap < sLen + n) (h63 : sLen + n ≤ 9223372036854775807) (hfit : Builtin.nextslicecap (sLen + n) sCap * i.bytes ≤ 281474976710656) :
    (Builtin.append_ #[t, xt] ty #[.slice base sLen sCap, x]).run P w =
      .ok (.slice (some ⟨w.heap.size, 0, none⟩) (sLen + n) (grownCap w (sLen + n) sCap e)) (w.drew.alloc (.cells (olds ++ news ++ Builtin.zeroCells z.cells (grownCap w (sLen + n) sCap e - (sLen + n))) e)) := by
  have hn' : ¬ (sLen + n ≤ sCap) := by omega
  have h63' : ¬ (9223372036854775807 < ((sLen : Int) + (n : Int))) := by omega
  have h48' : ¬ (281474976710656 < Builtin.nextslicecap (sLen + n) sCap * i.bytes) := by omega
  rcases hdx with rfl | ⟨e', rfl⟩
  · simp [Builtin.append_, run_underlying ht, run_underlying hxt, sizeOf, typeInfo, zeroValue, hi, hz, hl, hn', h63', h48', Question.forced, hn, ho, newRow, grownCap]
  · simp [Builtin.append_, run_underlying ht, run_underlying hxt, sizeOf, typeInfo, zeroValue, hi, hz, hl, hn', h63', h48', Question.forced, hn, ho, newRow, grownCap]

set_option maxHeartbeats 1000000 in
/-- append where it fits: the cells behind the length are written. -/
theorem run_append_fit {P : Program} (w w' : World) {t xt e ty : TypeId} {dx : TypeDesc} {i : TypeInfo} (ht : P.underlying t = some (.slice e)) (hxt : P.underlying xt = some dx) (hdx : NoInt dx) (hi : P.info? e = some i)
    (b : Addr) (sLen sCap : Nat) (x : Value) (n : Nat) (news : List Value) (hl : (Builtin.lenOf x).run P w = .ok n w)
    (hn : (Builtin.firstCells i.size n x).run P w = .ok news.toArray w) (hg : sLen + n ≤ sCap) (hst : (storeCells (b.add (sLen * i.size)) news).run P w = .ok () w') :
    (Builtin.append_ #[t, xt] ty #[.slice (some b) sLen sCap, x]).run P w = .ok (.slice (some b) (sLen + n) sCap) w' := by
  rcases hdx with rfl | ⟨e', rfl⟩
  · simp [Builtin.append_, run_underlying ht, run_underlying hxt, sizeOf, typeInfo, hi, hl, hg, hn, hst]
  · simp [Builtin.append_, run_underlying ht, run_underlying hxt, sizeOf, typeInfo, hi, hl, hg, hn, hst]

set_option maxHeartbeats 1000000 in
theorem run_append_nil0 {P : Program} (w : World) {t xt e ty : TypeId} {dx : TypeDesc} {i : TypeInfo} (ht : P.underlying t = some (.slice e)) (hxt : P.underlying xt = some dx) (hdx : NoInt dx) (hi : P.info? e = some i)
    (x : Value) (news : List Value) (hl : (Builtin.lenOf x).run P w = .ok 0 w) (hn : (Builtin.firstCells i.size 0 x).run P w = .ok news.toArray w) :
    (Builtin.append_ #[t, xt] ty #[.slice none 0 0, x]).run P w = .ok (.slice none 0 0) w := by
  rcases hdx with rfl | ⟨e', rfl⟩
  · simp [Builtin.append_, run_underlying ht, run_underlying hxt, sizeOf, typeInfo, hi, hl, hn]
  · simp [Builtin.append_, run_underlying ht, run_underlying hxt, sizeOf, typeInfo, hi, hl, hn]

theorem run_append_zero {P : Program} (w : World) {t xt e ty : TypeId} {dx : TypeDesc} {i : TypeInfo} (ht : P.underlying t = some (.slice e)) (hxt : P.underlying xt = some dx) (hdx : NoInt dx) (hi : P.info? e = some i) (sa : Option Addr)
    (x : Value) (hl : (Builtin.lenOf x).run P w = .ok 0 w) (hn : (Builtin.firstCells i.size 0 x).run P w = .ok ([] : List Value).toArray w) :
    (Builtin.append_ #[t, xt] ty #[.slice sa 0 0, x]).run P w = .ok (.slice sa 0 0) w := by
  cases sa with
  | none => exact run_append_nil0 w ht hxt hdx hi x [] hl hn
  | some b =>
    have h := run_append_fit w w (ty := ty) ht hxt hdx hi b 0 0 x 0 [] hl hn (by omega) (by simp [storeCells])
    exact h

/-- The blocks behind an append to a row: the old number is dead, or (if asked for) one that was. -/
noncomputable def wasH (kp : Bool) (h : Heap) (i off len size c : Nat) (cs : List Value) (fz : Nat) (el : TypeId) (es : Nat) : Heap :=
  match (kp && (Nat.ble 1 len && Nat.beq off 0 && Nat.beq (len * size) cs.length)) with
  | true => hset h i (.was cs c fz el es)
  | false => hdel h i

theorem wasH_zero (kp : Bool) (h : Heap) (i off size c : Nat) (cs : List Value) (fz : Nat) (el : TypeId) (es : Nat) : wasH kp h i off 0 size c cs fz el es = hdel h i := by
  cases kp <;> rfl

/-- Equality of scalars, decided. -/
noncomputable def eqV0 : Value → Value → Bool
  | .bool a, .bool b => Bool.casesOn a (!b) b
  | .int k a, .int k' b => decide (k = k') && decide (a = b)
  | .string a, .string b => decide (a = b)
  | _, _ => false

noncomputable def eqVs0 : List Value → List Value → Bool
  | [], [] => true
  | a :: l, b :: m => eqV0 a b && eqVs0 l m
  | _, _ => false

noncomputable def eqV : Value → Value → Bool
  | .iface t (.agg c), .iface t' (.agg c') => decide (t = t') && eqVs0 c.toList c'.toList
  | a, b => eqV0 a b

noncomputable def eqVs : List Value → List Value → Bool
  | [], [] => true
  | a :: l, b :: m => eqV a b && eqVs l m
  | _, _ => false

theorem eqV0_eq {a b : Value} (h : eqV0 a b = true) : a = b := by
  unfold eqV0 at h
  split at h
  · rename_i x y; cases x <;> cases y <;> first | rfl | cases h
  · simp only [Bool.and_eq_true, decide_eq_true_eq] at h
    obtain ⟨rfl, rfl⟩ := h
    rfl
  · simp only [decide_eq_true_eq] at h; rw [h]
  · cases h

theorem eqVs0_eq : ∀ {a b : List Value}, eqVs0 a b = true → a = b
  | [], [], _ => rfl
  | [], _ :: _, h => by cases h
  | _ :: _, [], h => by cases h
  | a :: l, b :: m, h => by
    simp only [eqVs0, Bool.and_eq_true] at h
    rw [eqV0_eq h.1, eqVs0_eq h.2]

theorem eqV_eq {a b : Value} (h : eqV a b = true) : a = b := by
  unfold eqV at h
  split at h
  · simp only [Bool.and_eq_true, decide_eq_true_eq] at h
    obtain ⟨rfl, h⟩ := h
    rw [Array.ext' (eqVs0_eq h)]
  · exact eqV0_eq h

theorem eqVs_eq : ∀ {a b : List Value}, eqVs a b = true → a = b
  | [], [], _ => rfl
  | [], _ :: _, h => by cases h
  | _ :: _, [], h => by cases h
  | a :: l, b :: m, h => by
    simp only [eqVs, Bool.and_eq_true] at h
    rw [eqV_eq h.1, eqVs_eq h.2]

/-- The block that append makes or turns. -/
noncomputable def eAppend (kp : Bool) (size bytes : Nat) (e : TypeId) (s x : Src) : EF := fun tm h c =>
  match ev tm s with
  | .slice none 0 0 => match fetch h size (ev tm x) with
    | some (n, news) => match n with
      | 0 => some (.slice none 0 0, h, c)
      | n + 1 => match (Nat.ble ((n + 1) * bytes) 1000000000 && Nat.ble (n + 1) 1000000000) with
        | true => some (.slice (some ⟨c, 0, none⟩) (n + 1) (n + 1), (c, .cells news 0 e size) :: h, c + 1)
        | false => none
    | none => none
  | .slice (some ⟨i0, o0, some k0⟩) 0 0 => match fetch h size (ev tm x) with
    | some (n, news) => match n with
      | 0 => some (.slice (some ⟨i0, o0, some k0⟩) 0 0, h, c)
      | n + 1 => match (Nat.ble ((n + 1) * bytes) 1000000000 && Nat.ble (n + 1) 1000000000) with
        | true => some (.slice (some ⟨c, 0, none⟩) (n + 1) (n + 1), (c, .cells news 0 e size) :: h, c + 1)
        | false => none
    | none => none
  | .slice (some ⟨i, off, none⟩) len cap => match hget h i with
    | some (.cells cs fz el es) => match fetch h size (ev tm x) with
      | some (n, news) =>
        match (Nat.ble len cap && Nat.ble (off + len * size) cs.length && Nat.beq el e && Nat.ble ((len + n) * bytes) 1000000000 && Nat.ble (len + n) 1000000000 && news.all one1 && Nat.ble 1 size) with
        | true => match es with
          | 0 => match Nat.ble (len + n) cap with
            | true => match n with
              | 0 => some (.slice (some ⟨i, off, none⟩) len cap, h, c)
              | n + 1 => match (Nat.ble fz (off + len * size) && Nat.ble (off + len * size + news.length) cs.length) with
                | true => some (.slice (some ⟨i, off, none⟩) (len + (n + 1)) cap, hset h i (.cells (cs.take (off + len * size) ++ news ++ cs.drop (off + len * size + news.length)) fz el 0), c)
                | false => none
            | false => some (.slice (some ⟨c, 0, none⟩) (len + n) (len + n), (c, .cells ((cs.drop off).take (len * size) ++ news) 0 e size) :: h, c + 1)
          | es + 1 => match (Nat.beq (es + 1) size && Nat.ble fz (len * size)) with
            | true => match n with
              | 0 => some (.slice (some ⟨i, off, none⟩) len cap, h, c)
              | n + 1 => some (.slice (some ⟨c, 0, none⟩) (len + (n + 1)) (len + (n + 1)), (c, .cells ((cs.drop off).take (len * size) ++ news) fz e size) :: wasH kp h i off len size c cs fz el (es + 1), c + 1)
            | false => none
        | false => none
      | none => none
    | _ => none
  | _ => none

theorem drew_below (w : World) : Below w.heap.size w w.drew := (Below.refl _ _).drew

/-- A new block behind an append. -/
theorem HRel.newRow {B : Bd} {ρ : Rho} {h : Heap} {w : World} (H : HRel B ρ h w) (hB : B.n ≤ w.heap.size) {cs : List Value} {C : List Value} (hc : Cells ρ cs C) (Z : Array Value) (fz : Nat) (e : TypeId) {size : Nat} (hs : size ≠ 0) :
    HRel B (ρ ++ [⟨w.heap.size, 0, C.length + Z.size, size⟩]) ((ρ.length, .cells cs fz e size) :: h) (w.drew.alloc (.cells (C.toArray ++ Z) e)) := by
  have hl : cs.length = C.length := hc.1
  refine H.new hB (Nat.le_refl _) (fun k hk => heap_old w.drew _ hk) ?_
  refine OOk.mk_cells (C := C.toArray ++ Z) (fr := (0, 0)) rfl (heap_new w.drew _) (by simp) (by show 0 + cs.length ≤ C.length + Z.size; omega) ?_ (Nat.zero_le _) (fun q => absurd q hs)
  have : ((C.toArray ++ Z).toList.drop 0).take cs.length = C := by rw [List.drop_zero, hc.1]; simp
  rw [this]
  exact hc.mono (Rho.le_push _ _)

theorem HRel.newRowW {B : Bd} {ρ : Rho} {h : Heap} {w : World} (H : HRel B ρ h w) (hB : B.n ≤ w.heap.size) {cs : List Value} {C : List Value} (hc : Cells ρ cs C) (Z : Array Value) (fz : Nat) (e : TypeId) {size : Nat} (hs : size ≠ 0)
    {i : Nat} {cs0 : List Value} {fz0 : Nat} {el : TypeId} {es : Nat} {L0 : Loc} (hi : hget h i = some (.cells cs0 fz0 el es)) (hL0 : ρ[i]? = some L0) (h00 : es ≠ 0) (hn0 : ¬ L0.gho) (hBL : B.may L0.b) (hfz : frz (.cells cs0 fz0 el es) = false) :
    HRel B (ρ ++ [⟨w.heap.size, 0, C.length + Z.size, size⟩]) ((ρ.length, .cells cs fz e size) :: hset h i (.was cs0 ρ.length fz0 el es)) (w.drew.alloc (.cells (C.toArray ++ Z) e)) := by
  have hl : cs.length = C.length := hc.1
  refine H.wasNew hB hi hL0 h00 hn0 hBL hfz (Nat.le_refl _) (fun k hk => heap_old w.drew _ hk) ?_
  refine OOk.mk_cells (C := C.toArray ++ Z) (fr := (0, 0)) rfl (heap_new w.drew _) (by simp) (by show 0 + cs.length ≤ C.length + Z.size; omega) ?_ (Nat.zero_le _) (fun q => absurd q hs)
  have : ((C.toArray ++ Z).toList.drop 0).take cs.length = C := by rw [List.drop_zero, hc.1]; simp
  rw [this]
  exact hc.mono (Rho.le_push _ _)

theorem hget_cons_del {c i : Nat} {o : XObj} {h : Heap} {j : Nat} {u : XObj} (hj : hget ((c, o) :: hdel h i) j = some u) : hget ((c, o) :: h) j = some u := by
  rw [hget_cons] at hj ⊢
  by_cases e : c = j
  · rw [if_pos e] at hj ⊢; exact hj
  · rw [if_neg e] at hj ⊢
    rw [hget_hdel] at hj
    split at hj
    · cases hj
    · exact hj

theorem eAppend_ok {P : Program} {ty : Nat → Option XTy} (hT : TyOk P ty) {nt : Nat} {o : Oper} {t xt e : TypeId} {s x : Operand} {d dx de : XTy} (ho : o.op = .call { callee := .builtin .append, args := #[s, x], argTypes := #[t, xt] })
    (hd : ty t = some d) (hu : d.u = .slice e) (hdx : ty xt = some dx) (hux : NoInt dx.u) (hde : ty e = some de) (hzs : de.zero.cells.size = de.size) (hs0 : de.size ≠ 0) (kp : Bool) :
    EfOk P nt o (eAppend kp de.size de.bytes e (src nt s) (src nt x)) := by
  intro tm h c v h' c' hf B ρ a w ht hh hc hB
  have hs := src_ok ht s
  have hx := src_ok ht x
  obtain ⟨ht', _⟩ := hT t d hd
  rw [hu] at ht'
  obtain ⟨hxt', _⟩ := hT xt dx hdx
  obtain ⟨_, ti, i1, i2, i3, i4⟩ := hT e de hde
  have hex : ∀ {V W}, (Builtin.append_ #[t, xt] o.type #[a.eval s, a.eval x]).run P w = .ok V W → (execOp a.eval o).run P w = .ok (.value V) W := by
    intro V W hr
    simp [execOp, ho, resolve, invoke, builtin, hr]
  unfold eAppend at hf
  split at hf
  · -- nil
    rename_i hp
    rw [hp] at hs
    generalize e1 : a.eval s = s' at hs hex
    cases hs
    split at hf
    · rename_i n news hfe
      obtain ⟨news', k1, k2, k3⟩ := fetch_ok (P := P) hh hx hfe
      split at hf
      · cases hf
        obtain ⟨l1, l2⟩ := k3 w (Below.refl _ _)
        exact ⟨.slice none 0 0, w, ρ, .inl (hex (run_append_nil0 w ht' hxt' hux i1 _ news' l1 (by rw [i2]; exact l2))), .snil, Rho.le_refl ρ, hc, hh, Bel.refl B w⟩
      · rename_i n1
        split at hf
        · rename_i hb
          simp only [Bool.and_eq_true, Nat.ble_eq] at hb
          cases hf
          subst hc
          have k2 : news'.length = (n1 + 1) * de.size := k2
          obtain ⟨l1, _⟩ := k3 w (Below.refl _ _)
          obtain ⟨_, l2⟩ := k3 w.drew (drew_below w)
          have hr := run_append_new (P := P) w (ty := o.type) ht' hxt' hux i1 i4 none 0 0 (a.eval x) (n1 + 1) #[] news'.toArray l1 rfl (by rw [i2]; exact l2) (by omega) (by omega) (growslice_fits (by omega) (by rw [i3, Nat.zero_add]; omega))
          simp only [Nat.zero_add, Array.empty_append] at hr
          have hge := grownCap_ge w (n1 + 1) 0 e
          have hzc := size_zeroCells de.zero.cells (grownCap w (n1 + 1) 0 e - (n1 + 1))
          rw [hzs] at hzc
          refine ⟨_, _, ρ ++ [⟨w.heap.size, 0, news'.length + (Builtin.zeroCells de.zero.cells (grownCap w (n1 + 1) 0 e - (n1 + 1))).size, de.size⟩], .inl (hex hr), ?_, Rho.le_push _ _, by simp, hh.newRow hB k1 _ 0 e hs0, ((Bel.refl B w).drew.alloc hB _)⟩
          refine .slice ρ.length 0 _ _ ⟨w.heap.size, 0, news'.length + (Builtin.zeroCells de.zero.cells (grownCap w (n1 + 1) 0 e - (n1 + 1))).size, de.size⟩ 0 _ (by simp) (.inl rfl) (fun q => absurd q hs0) (fun _ => ⟨hge, ?_, Nat.le_refl _⟩)
          show 0 + grownCap w (n1 + 1) 0 e * de.size ≤ news'.length + _
          rw [hzc, k2, ← Nat.add_mul]
          exact Nat.le_of_eq (by rw [Nat.zero_add]; congr 1; omega)
        · cases hf
    · cases hf
  · -- no room
    rename_i i0 o0 k0 hp
    rw [hp] at hs
    generalize e1 : a.eval s = s' at hs hex
    obtain ⟨sa, rfl, hk⟩ : ∃ sa : Option Addr, s' = .slice sa 0 0 ∧ (k0 ≠ 0 → sa.isSome = true) := by cases hs with | zslice _ _ _ a hk => exact ⟨_, rfl, hk⟩
    split at hf
    · rename_i n news hfe
      obtain ⟨news', k1, k2, k3⟩ := fetch_ok (P := P) hh hx hfe
      split at hf
      · cases hf
        obtain ⟨l1, l2⟩ := k3 w (Below.refl _ _)
        obtain rfl : news' = [] := List.length_eq_zero_iff.mp (by simpa using k2)
        exact ⟨.slice sa 0 0, w, ρ, .inl (hex (run_append_zero w ht' hxt' hux i1 sa _ l1 (by rw [i2]; exact l2))), .zslice i0 o0 k0 sa hk, Rho.le_refl ρ, hc, hh, Bel.refl B w⟩
      · rename_i n1
        split at hf
        · rename_i hb
          simp only [Bool.and_eq_true, Nat.ble_eq] at hb
          cases hf
          subst hc
          have k2 : news'.length = (n1 + 1) * de.size := k2
          obtain ⟨l1, _⟩ := k3 w (Below.refl _ _)
          obtain ⟨_, l2⟩ := k3 w.drew (drew_below w)
          have hr := run_append_new (P := P) w (ty := o.type) ht' hxt' hux i1 i4 sa 0 0 (a.eval x) (n1 + 1) #[] news'.toArray l1 (by cases sa with | none => rfl | some q => simp [Builtin.firstCells, loadCells, loadCellsFrom]) (by rw [i2]; exact l2) (by omega) (by omega) (growslice_fits (by omega) (by rw [i3, Nat.zero_add]; omega))
          simp only [Nat.zero_add, Array.empty_append] at hr
          have hge := grownCap_ge w (n1 + 1) 0 e
          have hzc := size_zeroCells de.zero.cells (grownCap w (n1 + 1) 0 e - (n1 + 1))
          rw [hzs] at hzc
          refine ⟨_, _, ρ ++ [⟨w.heap.size, 0, news'.length + (Builtin.zeroCells de.zero.cells (grownCap w (n1 + 1) 0 e - (n1 + 1))).size, de.size⟩], .inl (hex hr), ?_, Rho.le_push _ _, by simp, hh.newRow hB k1 _ 0 e hs0, ((Bel.refl B w).drew.alloc hB _)⟩
          refine .slice ρ.length 0 _ _ ⟨w.heap.size, 0, news'.length + (Builtin.zeroCells de.zero.cells (grownCap w (n1 + 1) 0 e - (n1 + 1))).size, de.size⟩ 0 _ (by simp) (.inl rfl) (fun q => absurd q hs0) (fun _ => ⟨hge, ?_, Nat.le_refl _⟩)
          show 0 + grownCap w (n1 + 1) 0 e * de.size ≤ news'.length + _
          rw [hzc, k2, ← Nat.add_mul]
          exact Nat.le_of_eq (by rw [Nat.zero_add]; congr 1; omega)
        · cases hf
    · cases hf
  · rename_i i off len cap hp
    rw [hp] at hs
    generalize e1 : a.eval s = s' at hs hex
    cases hs with
    | slice i off len cap L o' cap' hL hz h0 h1 =>
      split at hf
      · rename_i cs fz el es hg
        split at hf
        · rename_i n news hfe
          obtain ⟨news', k1, k2, k3⟩ := fetch_ok (P := P) hh hx hfe
          split at hf
          · rename_i hb
            simp only [Bool.and_eq_true, Nat.ble_eq] at hb
            obtain ⟨⟨⟨⟨⟨⟨b1, b2⟩, b3⟩, b4⟩, b5⟩, b6⟩, b7⟩ := hb
            have b3' := Nat.eq_of_beq_eq_true b3
            subst b3'
            obtain ⟨hLB0, hO⟩ := hh.at hg hL
            have hLe := hO.1
            have hnl : news.length = n * de.size := by rw [k1.1]; exact k2
            -- the old cells, wherever they are read
            have hold : ∃ olds' : List Value, Cells ρ ((cs.drop off).take (len * de.size)) olds' ∧ olds'.length = len * de.size ∧
                ∀ w', Below w.heap.size w w' → (Builtin.firstCells de.size len (.slice (some ⟨L.b, o', none⟩) len cap')).run P w' = .ok olds'.toArray w' := by
              by_cases hl0 : len = 0
              · subst hl0
                exact ⟨[], by simp only [Nat.zero_mul, List.take_zero]; exact Cells.nil ρ, by simp, fun w' _ => by simp [Builtin.firstCells, loadCells, loadCellsFrom]⟩
              · have ho' : o' = L.sh + off := by
                  rcases hz with h | h
                  · exact h
                  · omega
                subst ho'
                obtain ⟨C', q1, q2, q3⟩ := cells_read hh hg hL b2
                exact ⟨C', q1, q2, fun w' hw => run_firstCells_some (P := P) w' de.size len _ _ _ C' q2 (q3 w' hw)⟩
            obtain ⟨olds', q1, q2, q3⟩ := hold
            -- a new block
            have grow : ∀ fz, cap' < len + n → EfPost P o B ρ a w (.slice (some ⟨ρ.length, 0, none⟩) (len + n) (len + n)) ((ρ.length, .cells ((cs.drop off).take (len * de.size) ++ news) fz el de.size) :: h) (ρ.length + 1) := by
              intro fz hlt
              obtain ⟨l1, _⟩ := k3 w (Below.refl _ _)
              obtain ⟨_, l2⟩ := k3 w.drew (drew_below w)
              have l3 := q3 w.drew (drew_below w)
              have hr := run_append_new (P := P) w (ty := o.type) ht' hxt' hux i1 i4 (some ⟨L.b, o', none⟩) len cap' (a.eval x) n olds'.toArray news'.toArray l1 (by rw [i2]; exact l3) (by rw [i2]; exact l2) hlt (by omega) (growslice_fits hlt (by rw [i3]; omega))
              have hge := grownCap_ge w (len + n) cap' el
              have hzc := size_zeroCells de.zero.cells (grownCap w (len + n) cap' el - (len + n))
              rw [hzs] at hzc
              have hap : olds'.toArray ++ news'.toArray = (olds' ++ news').toArray := by simp
              rw [hap] at hr
              refine ⟨_, _, ρ ++ [⟨w.heap.size, 0, (olds' ++ news').length + (Builtin.zeroCells de.zero.cells (grownCap w (len + n) cap' el - (len + n))).size, de.size⟩], .inl (hex hr), ?_, Rho.le_push _ _, by simp, hh.newRow hB (q1.append k1) _ fz el hs0, ((Bel.refl B w).drew.alloc hB _)⟩
              refine .slice ρ.length 0 _ _ ⟨w.heap.size, 0, (olds' ++ news').length + (Builtin.zeroCells de.zero.cells (grownCap w (len + n) cap' el - (len + n))).size, de.size⟩ 0 _ (by simp) (.inl rfl) (fun q => absurd q hs0) (fun _ => ⟨hge, ?_, Nat.le_refl _⟩)
              show 0 + grownCap w (len + n) cap' el * de.size ≤ (olds' ++ news').length + _
              rw [hzc, List.length_append, q2, k2, ← Nat.add_mul, ← Nat.add_mul]
              exact Nat.le_of_eq (by rw [Nat.zero_add]; congr 1; omega)
            -- the same, and the old number stays
            have growW : ∀ fz0, cap' < len + n → es ≠ 0 → ¬ L.gho → B.may L.b → frz (.cells cs fz el es) = false → EfPost P o B ρ a w (.slice (some ⟨ρ.length, 0, none⟩) (len + n) (len + n)) ((ρ.length, .cells ((cs.drop off).take (len * de.size) ++ news) fz0 el de.size) :: hset h i (.was cs ρ.length fz el es)) (ρ.length + 1) := by
              intro fz0 hlt hes1 hng1 hLB1 hfz1
              obtain ⟨l1, _⟩ := k3 w (Below.refl _ _)
              obtain ⟨_, l2⟩ := k3 w.drew (drew_below w)
              have l3 := q3 w.drew (drew_below w)
              have hr := run_append_new (P := P) w (ty := o.type) ht' hxt' hux i1 i4 (some ⟨L.b, o', none⟩) len cap' (a.eval x) n olds'.toArray news'.toArray l1 (by rw [i2]; exact l3) (by rw [i2]; exact l2) hlt (by omega) (growslice_fits hlt (by rw [i3]; omega))
              have hge := grownCap_ge w (len + n) cap' el
              have hzc := size_zeroCells de.zero.cells (grownCap w (len + n) cap' el - (len + n))
              rw [hzs] at hzc
              have hap : olds'.toArray ++ news'.toArray = (olds' ++ news').toArray := by simp
              rw [hap] at hr
              refine ⟨_, _, ρ ++ [⟨w.heap.size, 0, (olds' ++ news').length + (Builtin.zeroCells de.zero.cells (grownCap w (len + n) cap' el - (len + n))).size, de.size⟩], .inl (hex hr), ?_, Rho.le_push _ _, by simp, hh.newRowW hB (q1.append k1) _ fz0 el hs0 hg hL hes1 hng1 hLB1 hfz1, ((Bel.refl B w).drew.alloc hB _)⟩
              refine .slice ρ.length 0 _ _ ⟨w.heap.size, 0, (olds' ++ news').length + (Builtin.zeroCells de.zero.cells (grownCap w (len + n) cap' el - (len + n))).size, de.size⟩ 0 _ (by simp) (.inl rfl) (fun q => absurd q hs0) (fun _ => ⟨hge, ?_, Nat.le_refl _⟩)
              show 0 + grownCap w (len + n) cap' el * de.size ≤ (olds' ++ news').length + _
              rw [hzc, List.length_append, q2, k2, ← Nat.add_mul, ← Nat.add_mul]
              exact Nat.le_of_eq (by rw [Nat.zero_add]; congr 1; omega)
            split at hf
            · -- capacities known
              have he0 : L.es = 0 := hLe
              have z2 := h0 he0
              subst z2
              split at hf
              · rename_i hfit
                have hfit' : len + n ≤ cap' := by simpa [Nat.ble_eq] using hfit
                split at hf
                · cases hf
                  obtain ⟨l1, l2⟩ := k3 w (Below.refl _ _)
                  have hn0 : news' = [] := List.eq_nil_of_length_eq_zero (by simpa using k2)
                  subst hn0
                  have hr := run_append_fit (P := P) w w (ty := o.type) ht' hxt' hux i1 ⟨L.b, o', none⟩ len cap' (a.eval x) 0 [] l1 (by rw [i2]; exact l2) (by omega) rfl
                  exact ⟨_, w, ρ, .inl (hex hr), .slice i off _ _ L o' cap' hL hz h0 h1, Rho.le_refl ρ, hc, hh, Bel.refl B w⟩
                · rename_i n1
                  have z1 : o' = L.sh + off := by
                    rcases hz with h | h
                    · exact h
                    · omega
                  split at hf
                  · rename_i hb2
                    simp only [Bool.and_eq_true, Nat.ble_eq] at hb2
                    cases hf
                    have b6' := k1.one1 b6
                    obtain ⟨w', r1, r2, r3⟩ := hh.setCells (P := P) hg hL k1 (.inr rfl) (by intro q; rw [q] at hnl; simp only [List.length_nil] at hnl; have := Nat.mul_pos (Nat.succ_pos n1) (Nat.pos_of_ne_zero hs0); omega) hb2.2 hb2.1 b6'
                    obtain ⟨l1, l2⟩ := k3 w (Below.refl _ _)
                    have hr := run_append_fit (P := P) w w' (ty := o.type) ht' hxt' hux i1 ⟨L.b, o', none⟩ len cap' (a.eval x) (n1 + 1) news' l1 (by rw [i2]; exact l2) hfit' (by rw [i2, Addr.add_none, z1, Nat.add_assoc]; exact r1)
                    refine ⟨_, w', ρ, .inl (hex hr), .slice i off _ _ L o' cap' hL (.inl z1) (fun _ => rfl) (fun q => absurd he0 q), Rho.le_refl ρ, hc, ?_, r3⟩
                    exact r2
                  · cases hf
              · rename_i hfit
                have hfit' : ¬ len + n ≤ cap' := by
                  intro q
                  have : Nat.ble (len + n) cap' = true := by simpa [Nat.ble_eq] using q
                  rw [this] at hfit; cases hfit
                cases hf
                subst hc
                exact grow 0 (by omega)
            · -- capacities not known
              rename_i es'
              split at hf
              · rename_i hb2
                simp only [Bool.and_eq_true, Nat.ble_eq] at hb2
                have hes : L.es = de.size := by rw [hLe]; exact Nat.eq_of_beq_eq_true hb2.1
                have hes0 : L.es ≠ 0 := by rw [hes]; exact hs0
                obtain ⟨y1, y2, y4⟩ := h1 hes0
                split at hf
                · -- nothing is appended
                  cases hf
                  obtain ⟨l1, l2⟩ := k3 w (Below.refl _ _)
                  have hn0 : news' = [] := List.eq_nil_of_length_eq_zero (by simpa using k2)
                  subst hn0
                  have hr := run_append_fit (P := P) w w (ty := o.type) ht' hxt' hux i1 ⟨L.b, o', none⟩ len cap' (a.eval x) 0 [] l1 (by rw [i2]; exact l2) (by omega) rfl
                  exact ⟨_, w, ρ, .inl (hex hr), .slice i off _ _ L o' cap' hL hz h0 h1, Rho.le_refl ρ, hc, hh, Bel.refl B w⟩
                · rename_i n1
                  cases hf
                  subst hc
                  have k2 : news'.length = (n1 + 1) * de.size := k2
                  have hnl : news.length = (n1 + 1) * de.size := hnl
                  by_cases hfit : len + (n1 + 1) ≤ cap'
                  · -- in place
                    have b6' := k1.one1 b6
                    have hng : ¬ L.gho := by
                      intro g
                      have g2 := g.2
                      have : 1 * 1 ≤ cap' * L.es := Nat.mul_le_mul (by omega) (by omega)
                      omega
                    obtain ⟨C, fr, c1, c2, c3, c4, c5, c6⟩ := hO.cellsN hng
                    have hLB1 : frz (.cells cs fz el (es' + 1)) = false := by
                      cases hf : frz (.cells cs fz el (es' + 1)) with
                      | false => rfl
                      | true =>
                        have := frz_cells hf
                        omega
                    have hLB : B.may L.b := hLB0 hLB1
                    have hroom : o' + (len + (n1 + 1)) * de.size ≤ L.sz := by
                      have : (len + (n1 + 1)) * de.size ≤ cap' * L.es := by rw [hes]; exact Nat.mul_le_mul_right _ hfit
                      omega
                    have hm : (len + (n1 + 1)) * de.size = len * de.size + (n1 + 1) * de.size := Nat.add_mul _ _ _
                    have hst := run_storeCells_atF P L.b (o' + len * de.size) el fr news' 0 C w c1 (by omega) (by rw [k2]; omega) b6'
                    simp only [Nat.add_zero] at hst
                    obtain ⟨l1, l2⟩ := k3 w (Below.refl _ _)
                    have hr := run_append_fit (P := P) w _ (ty := o.type) ht' hxt' hux i1 ⟨L.b, o', none⟩ len cap' (a.eval x) (n1 + 1) news' l1 (by rw [i2]; exact l2) hfit (by rw [i2, Addr.add_none]; exact hst)
                    refine ⟨_, _, ρ ++ [⟨L.b, o', L.sz, de.size⟩], .inl (hex hr), ?_, Rho.le_push _ _, by simp, ?_, below_setRow hLB _⟩
                    · exact .slice ρ.length 0 _ _ ⟨L.b, o', L.sz, de.size⟩ o' cap' (by simp) (.inl rfl) (fun q => absurd q hs0) (fun _ => ⟨hfit, by rw [← hes]; exact y2, Nat.le_refl _⟩)
                    · have hOK : OOk (ρ ++ [⟨L.b, o', L.sz, de.size⟩]) (w.setRow L.b (C.toList.take (o' + len * de.size) ++ news' ++ C.toList.drop (o' + len * de.size + news'.length)).toArray) ⟨L.b, o', L.sz, de.size⟩ (.cells ((cs.drop off).take (len * de.size) ++ news) fz el de.size) := ?_
                      · unfold wasH
                        split
                        · rename_i hw
                          simp only [Bool.and_eq_true, Nat.ble_eq] at hw
                          obtain ⟨_, ⟨w1, w2⟩, w3⟩ := hw
                          have w2 := Nat.eq_of_beq_eq_true w2
                          have ho' : o' = L.sh := by
                            rcases hz with h | h
                            · omega
                            · omega
                          exact hh.wasMove hg hL rfl ho' rfl hLe (by omega) hng hLB hLB1 (fun k _ hk => setRow_other w L.b k _ hk) hOK
                        · exact hh.move hg hL rfl hng hLB hLB1 (fun k _ hk => setRow_other w L.b k _ hk) hOK
                      refine OOk.mk_cells (es := de.size) rfl (setRow_heap w L.b C _ el fr c1) ?_ ?_ ?_ ?_ (fun q => absurd q hs0)
                      · simp; omega
                      · show o' + _ ≤ L.sz
                        simp only [List.length_append, List.length_take, List.length_drop, hnl]
                        omega
                      · show Cells _ _ ((List.drop o' _).take _)
                        have hlen1 : ((cs.drop off).take (len * de.size) ++ news).length = len * de.size + news'.length := by
                          rw [List.length_append, k1.1, q1.1, q2]
                        have hCl : C.toList.length = L.sz := by simpa using c2
                        have hdrop : ((C.toList.take (o' + len * de.size) ++ news' ++ C.toList.drop (o' + len * de.size + news'.length)).drop o').take (len * de.size + news'.length) = (C.toList.drop o').take (len * de.size) ++ news' := by
                          rw [List.append_assoc, List.drop_append_of_le_length (by simp; omega), List.drop_take]
                          have e2 : o' + len * de.size - o' = len * de.size := by omega
                          rw [e2, ← List.append_assoc]
                          exact List.take_left' (by rw [List.length_append, List.length_take, List.length_drop]; omega)
                        rw [hlen1, hdrop]
                        refine (Cells.append ?_ k1).mono (Rho.le_push _ _)
                        by_cases hl0 : len = 0
                        · subst hl0
                          simp only [Nat.zero_mul, List.take_zero]
                          exact Cells.nil ρ
                        · have ho' : o' = L.sh + off := hz.resolve_right (by omega)
                          have := (c4.drop off).take (len * de.size)
                          have e3 : (((C.toList.drop L.sh).take cs.length).drop off).take (len * de.size) = (C.toList.drop o').take (len * de.size) := by
                            rw [List.drop_take, List.take_take, List.drop_drop, ← ho']
                            congr 1
                            omega
                          rw [e3] at this
                          exact this
                      · show fr.2 ≤ o' + fz
                        omega
                  · -- it grows
                    unfold wasH
                    split
                    · rename_i hw
                      simp only [Bool.and_eq_true, Nat.ble_eq] at hw
                      obtain ⟨_, ⟨w1, w2⟩, w3⟩ := hw
                      have w3 := Nat.eq_of_beq_eq_true w3
                      have hcs : cs ≠ [] := by
                        intro q
                        rw [q] at w3
                        simp only [List.length_nil] at w3
                        have := Nat.mul_pos w1 (Nat.pos_of_ne_zero hs0)
                        omega
                      have hng : ¬ L.gho := fun g => by
                        obtain ⟨_, q | ⟨C, fr, c1, c2, c3, _⟩⟩ := hO
                        · exact hcs q.2
                        · have g2 := g.2
                          have : cs.length ≠ 0 := fun q => hcs (List.eq_nil_of_length_eq_zero q)
                          omega
                      have hLB1 : frz (.cells cs fz el (es' + 1)) = false := by
                        cases hf : frz (.cells cs fz el (es' + 1)) with
                        | false => rfl
                        | true =>
                          have := frz_cells hf
                          omega
                      have hLB : B.may L.b := hLB0 hLB1
                      obtain ⟨V, W, ρ', g1, g2, g3, g4, g5, g6⟩ := growW fz (by omega) (by omega) hng hLB hLB1
                      exact ⟨V, W, ρ', g1, g2, g3, g4, g5, g6⟩
                    · obtain ⟨V, W, ρ', g1, g2, g3, g4, g5, g6⟩ := grow fz (by omega)
                      exact ⟨V, W, ρ', g1, g2, g3, g4, g5.sub (fun j u hj => hget_cons_del hj), g6⟩
              · cases hf
          · cases hf
        · cases hf
      · cases hf
    | sliceN i off L hL hes0 =>
      split at hf
      · rename_i cs fz el es hg
        split at hf
        · rename_i n news hfe
          obtain ⟨news', k1, k2, k3⟩ := fetch_ok (P := P) hh hx hfe
          split at hf
          · rename_i hb
            simp only [Bool.and_eq_true, Nat.ble_eq] at hb
            obtain ⟨⟨⟨⟨⟨⟨b1, b2⟩, b3⟩, b4⟩, b5⟩, b6⟩, b7⟩ := hb
            obtain ⟨hLB, hO⟩ := hh.at hg hL
            have hLe := hO.1
            split at hf
            · exact absurd hLe hes0.1
            · rename_i es'
              split at hf
              · split at hf
                · cases hf
                  obtain ⟨l1, l2⟩ := k3 w (Below.refl _ _)
                  exact ⟨.slice none 0 0, w, ρ, .inl (hex (run_append_nil0 w ht' hxt' hux i1 _ news' l1 (by rw [i2]; exact l2))), .sliceN i off L hL hes0, Rho.le_refl ρ, hc, hh, Bel.refl B w⟩
                · rename_i n1
                  cases hf
                  subst hc
                  have k2 : news'.length = (n1 + 1) * de.size := k2
                  obtain ⟨l1, _⟩ := k3 w (Below.refl _ _)
                  obtain ⟨_, l2⟩ := k3 w.drew (drew_below w)
                  have hr := run_append_new (P := P) w (ty := o.type) ht' hxt' hux i1 i4 none 0 0 (a.eval x) (n1 + 1) #[] news'.toArray l1 rfl (by rw [i2]; exact l2) (by omega) (by omega) (growslice_fits (by omega) (by rw [i3]; have b4' : (0 + (n1 + 1)) * de.bytes ≤ 1000000000 := b4; omega))
                  simp only [Nat.zero_add, Array.empty_append] at hr
                  have hge := grownCap_ge w (n1 + 1) 0 e
                  have hzc := size_zeroCells de.zero.cells (grownCap w (n1 + 1) 0 e - (n1 + 1))
                  rw [hzs] at hzc
                  have e0 : (cs.drop off).take (0 * de.size) ++ news = news := by simp
                  rw [e0, wasH_zero]
                  refine ⟨_, _, ρ ++ [⟨w.heap.size, 0, news'.length + (Builtin.zeroCells de.zero.cells (grownCap w (n1 + 1) 0 e - (n1 + 1))).size, de.size⟩], .inl (hex hr), ?_, Rho.le_push _ _, by simp, (hh.newRow hB k1 _ fz e hs0).sub (fun j u hj => hget_cons_del hj), ((Bel.refl B w).drew.alloc hB _)⟩
                  rw [Nat.zero_add]
                  refine .slice ρ.length 0 _ _ ⟨w.heap.size, 0, news'.length + (Builtin.zeroCells de.zero.cells (grownCap w (n1 + 1) 0 e - (n1 + 1))).size, de.size⟩ 0 _ (by simp) (.inl rfl) (fun q => absurd q hs0) (fun _ => ⟨hge, ?_, Nat.le_refl _⟩)
                  show 0 + grownCap w (n1 + 1) 0 e * de.size ≤ news'.length + _
                  rw [hzc, k2, ← Nat.add_mul]
                  exact Nat.le_of_eq (by rw [Nat.zero_add]; congr 1; omega)
              · cases hf
          · cases hf
        · cases hf
      · cases hf
  · cases hf

/-- What was comes back, if what was made of it still begins with it. -/
noncomputable def backH (h : Heap) (i : Nat) : Heap :=
  match hget h i with
  | some (.was cs j fz el es) => match hget h j with
    | some (.cells cs' fz' el' es') => match (Nat.beq el' el && Nat.beq es' es && Nat.ble 1 es && eqVs (cs'.take cs.length) cs) with
      | true => hset (hdel h j) i (.cells cs (Nat.max fz fz') el es)
      | false => h
    | _ => h
  | _ => h

noncomputable def reviveH : Nat → Heap → Nat → Heap
  | 0, h, _ => h
  | n + 1, h, i => match hget h i with
    | some (.was _ j _ _ _) => backH (reviveH n h j) i
    | _ => h

theorem HRel.backH {B : Bd} {ρ : Rho} {h : Heap} {w : World} (H : HRel B ρ h w) (i : Nat) : HRel B ρ (Xm.backH h i) w := by
  unfold Xm.backH
  split
  · rename_i cs j fz el es hi
    split
    · rename_i cs' fz' el' es' hj
      split
      · rename_i hb
        simp only [Bool.and_eq_true, Nat.ble_eq] at hb
        obtain ⟨⟨⟨b1, b2⟩, b3⟩, b4⟩ := hb
        have b1 := Nat.eq_of_beq_eq_true b1
        have b2 := Nat.eq_of_beq_eq_true b2
        subst b1
        subst b2
        have b4 := eqVs_eq b4
        refine H.back hi hj (by omega) ?_
        conv => lhs; rw [← List.take_append_drop cs.length cs']
        rw [b4]
      · exact H
    · exact H
  · exact H

theorem HRel.reviveH {B : Bd} {ρ : Rho} {w : World} : ∀ (n : Nat) {h : Heap}, HRel B ρ h w → ∀ i, HRel B ρ (Xm.reviveH n h i) w
  | 0, _, H, _ => H
  | n + 1, h, H, i => by
    unfold Xm.reviveH
    split
    · exact (HRel.reviveH n H _).backH i
    · exact H

/-- append where the old number is still asked for. -/
noncomputable def eAppendK (size bytes : Nat) (e : TypeId) (s x : Src) : EF := fun tm h c =>
  match ev tm s with
  | .slice (some ⟨i, _, none⟩) _ _ => eAppend true size bytes e s x tm (reviveH 30 h i) c
  | _ => eAppend true size bytes e s x tm h c

theorem eAppendK_ok {P : Program} {nt : Nat} {o : Oper} {s x : Src} {size bytes : Nat} {e : TypeId} (H : EfOk P nt o (eAppend true size bytes e s x)) : EfOk P nt o (eAppendK size bytes e s x) := by
  intro tm h c v h' c' hf B ρ a w ht hh hc hB
  unfold eAppendK at hf
  split at hf
  · exact H _ _ _ _ _ _ hf B ρ a w ht (hh.reviveH 30 _) hc hB
  · exact H _ _ _ _ _ _ hf B ρ a w ht hh hc hB

end Go.Xm
