/- The abstract machine, between parts 6 and 7: maps with integer keys and plain values: made, looked up, written. Conditions: none; nothing here speaks of one program. -/
import Derived.Test.YtfdeihnkoaihfaaMv
import Derived.Maps.Keyed
import Derived.Laws.StructEq
namespace Go.Xm
open Go.RowKit

def mfind : List (Int × Value) → Int → Option Value
  | [], _ => none
  | p :: t, k => if p.1 = k then some p.2 else mfind t k

def mput : List (Int × Value) → Int → Value → List (Int × Value)
  | [], k, v => [(k, v)]
  | p :: t, k, v => if p.1 = k then (k, v) :: t else p :: mput t k v

theorem findNow_at (k : Int) : ∀ (E : List MapEntry) (es : List (Int × Value)) (n : Nat), E.map (fun e => (e.key, e.val)) = es.map (fun p => (Value.int .i64 p.1, p.2)) →
    (Instr.findNow (.int .i64) (.int .i64 k) E n = some none ∧ mfind es k = none ∧ ∀ v, mput es k v = es ++ [(k, v)]) ∨
    ∃ j e0, Instr.findNow (.int .i64) (.int .i64 k) E n = some (some (n + j, e0.val)) ∧ mfind es k = some e0.val ∧ E[j]? = some e0 ∧ e0.key = .int .i64 k ∧ ∀ v, mput es k v = es.set j (k, v)
  | [], [], n, _ => .inl ⟨rfl, rfl, fun v => rfl⟩
  | [], p :: es, n, h => by simp at h
  | e :: E, [], n, h => by simp at h
  | e :: E, p :: es, n, h => by
    simp only [List.map_cons, List.cons.injEq, Prod.mk.injEq] at h
    obtain ⟨⟨h1, h2⟩, h3⟩ := h
    have hs : Instr.sameNow (.int .i64) (.int .i64 k) e.key = some (k == p.1) := by rw [h1]; simp [Instr.sameNow]
    by_cases hk : p.1 = k
    · have hb : (k == p.1) = true := by simp [hk]
      rw [hb] at hs
      refine .inr ⟨0, e, ?_, by simp [mfind, hk, h2], rfl, by rw [h1, hk], fun v => by simp [mput, hk]⟩
      rw [Instr.findNow, hs]
      rfl
    · have hb : (k == p.1) = false := by simp; exact fun e => hk e.symm
      rw [hb] at hs
      have hf : Instr.findNow (.int .i64) (.int .i64 k) (e :: E) n = Instr.findNow (.int .i64) (.int .i64 k) E (n + 1) := by
        rw [Instr.findNow, hs]
      rcases findNow_at k E es (n + 1) h3 with ⟨a1, a2, a3⟩ | ⟨j, e0, a1, a2, a3, a4, a5⟩
      · exact .inl ⟨hf.trans a1, by simp [mfind, hk, a2], fun v => by simp [mput, hk, a3]⟩
      · exact .inr ⟨j + 1, e0, by rw [hf, a1, show n + 1 + j = n + (j + 1) by omega], by simp [mfind, hk, a2], by simpa using a3, a4, fun v => by simp [mput, hk, a5]⟩

theorem mfind_scal {es : List (Int × Value)} (h : es.all (fun p => scal p.2) = true) {k : Int} {u : Value} (hf : mfind es k = some u) : scal u = true := by
  induction es with
  | nil => cases hf
  | cons p es ih =>
    simp only [List.all_cons, Bool.and_eq_true] at h
    simp only [mfind] at hf
    split at hf
    · cases hf; exact h.1
    · exact ih h.2 hf

theorem mput_scal {es : List (Int × Value)} (h : es.all (fun p => scal p.2) = true) (k : Int) {u : Value} (hu : scal u = true) : (mput es k u).all (fun p => scal p.2) = true := by
  induction es with
  | nil => simp [mput, hu]
  | cons p es ih =>
    simp only [List.all_cons, Bool.and_eq_true] at h
    simp only [mput]
    split
    · simp [hu]; simpa using h.2
    · simp only [List.all_cons, Bool.and_eq_true]; exact ⟨h.1, ih h.2⟩

noncomputable def eMakeMap : EF := fun _ h c => some (.map (some c), (c, .imap []) :: h, c + 1)

theorem eMakeMap_ok {P : Program} {nt : Nat} {o : Oper} {t : TypeId} (ho : o.op = .makeMap t none) : EfOk P nt o eMakeMap := by
  intro tm h c v h' c' hf B ρ a w ht hh hc hB
  unfold eMakeMap at hf
  cases hf
  subst hc
  refine ⟨.map (some w.heap.size), w.alloc (.map #[] 0), ρ ++ [⟨w.heap.size, 0, 0, 0⟩], .inl ?_, ?_, Rho.le_push _ _, by simp, ?_, below_alloc hB _⟩
  · simp [execOp, ho, Instr.makeMap]
  · exact .map ρ.length ⟨w.heap.size, 0, 0, 0⟩ (by simp)
  · exact hh.new hB (Nat.le_refl _) (fun k hk => heap_old w _ hk) ⟨rfl, rfl, #[], 0, heap_new w _, rfl, rfl⟩

noncomputable def rLookup (x i : Src) (z : Value) (ok : Bool) : RF := fun tm h =>
  match ev tm x with
  | .map (some r) => match hget h r with
    | some (.imap es) => match ev tm i with
      | .int .i64 k => match scal z with
        | true => match ok with
          | true => some (.tuple #[(mfind es k).getD z, .bool (mfind es k).isSome])
          | false => some ((mfind es k).getD z)
        | false => none
      | _ => none
    | _ => none
  | _ => none

theorem rLookup_ok {P : Program} {ty : Nat → Option XTy} (hT : TyOk P ty) {nt : Nat} {o : Oper} {t key elem : TypeId} {x i : Operand} {ok : Bool} {d dk de : XTy} (ho : o.op = .lookup t x i ok) (hd : ty t = some d) (hu : d.u = .map key elem)
    (hk : ty key = some dk) (hku : dk.u = .int .i64) (he : ty elem = some de) : RdOk P nt o (rLookup (src nt x) (src nt i) de.zero ok) := by
  intro tm h v hf B ρ a w ht hh
  have hx := src_ok ht x
  have hi := src_ok ht i
  unfold rLookup at hf
  split at hf
  · rename_i r hp
    rw [hp] at hx
    generalize e1 : a.eval x = x' at hx
    cases hx with
    | map r L hL =>
      split at hf
      · rename_i es hg
        split at hf
        · rename_i k hq
          rw [hq] at hi
          generalize e2 : a.eval i = i' at hi
          cases hi
          obtain ⟨_, _, _, E, clock, g1, g2, g3⟩ := hh.at hg hL
          have hlt : L.b < w.heap.size := (Array.getElem?_eq_some_iff.1 g1).1
          have hPt : P.underlying t = some (.map key elem) := by rw [(hT t d hd).1, hu]
          have hPk : P.underlying key = some (.int .i64) := by rw [(hT key dk hk).1, hku]
          have run : ∀ w', Below w.heap.size w w' → (Instr.lookup t (.map (some L.b)) (.int .i64 k) ok).run P w' = .ok (if ok then .tuple #[(mfind es k).getD de.zero, .bool (mfind es k).isSome] else (mfind es k).getD de.zero) w' := by
            intro w' b
            have hb : w'.heap[L.b]? = some (.map E clock) := by rw [b.block _ hlt]; exact g1
            have hck : (Instr.checkKey E.isEmpty 10000 key (.int .i64 k)).run P w' = .ok () w' := MapKept.run_checkKey hPk (show MapKept.IsKey (.int .i64) (.int .i64 k) from rfl) _ 9999
            rcases findNow_at k E.toList es 0 g2 with ⟨a1, a2, _⟩ | ⟨j, e0, a1, a2, _⟩
            · simp [Instr.lookup, run_underlying hPt, MapKept.run_getObj_map hb, hck, MapKept.run_findKey hPk a1, hT.zero he, Result.andThen, a2]
            · simp [Instr.lookup, run_underlying hPt, MapKept.run_getObj_map hb, hck, MapKept.run_findKey hPk a1, Result.andThen, a2]
          split at hf
          · rename_i hz
            have hs : scal ((mfind es k).getD de.zero) = true := by
              cases hm : mfind es k with
              | none => exact hz
              | some u => exact mfind_scal g3 hm
            split at hf
            · cases hf
              refine ⟨_, VRel.plain_refl ρ ?_, fun w' b => by simp [execOp, ho, e1, e2, run w' b]⟩
              show [(mfind es k).getD de.zero, .bool (mfind es k).isSome].all scal = true
              rw [List.all_cons, hs]
              rfl
            · cases hf
              exact ⟨_, VRel.scal_refl ρ hs, fun w' b => by simp [execOp, ho, e1, e2, run w' b]⟩
          · cases hf
        · cases hf
      · cases hf
  · cases hf

noncomputable def eMapUpdate (m i x : Src) : EF := fun tm h c =>
  match ev tm m with
  | .map (some r) => match hget h r with
    | some (.imap es) => match ev tm i with
      | .int .i64 k => match scal (ev tm x) with
        | true => some (undef, hset h r (.imap (mput es k (ev tm x))), c)
        | false => none
      | _ => none
    | _ => none
  | _ => none

theorem below_setBlock {B : Nat} {w : World} {g : Nat} (hg : B ≤ g) (o : Obj) : Below B w { w with heap := w.heap.setIfInBounds g o } :=
  ⟨rfl, rfl, rfl, by simp, fun k hk => by simp [Array.getElem?_setIfInBounds_ne (show g ≠ k by omega)]⟩

theorem eMapUpdate_ok {P : Program} {ty : Nat → Option XTy} (hT : TyOk P ty) {nt : Nat} {o : Oper} {t key elem : TypeId} {m i x : Operand} {d dk : XTy} (ho : o.op = .mapUpdate t m i x) (hd : ty t = some d) (hu : d.u = .map key elem)
    (hk : ty key = some dk) (hku : dk.u = .int .i64) : EfOk P nt o (eMapUpdate (src nt m) (src nt i) (src nt x)) := by
  intro tm h c v h' c' hf B ρ a w ht hh hc hB
  have hm := src_ok ht m
  have hi := src_ok ht i
  have hx := src_ok ht x
  unfold eMapUpdate at hf
  split at hf
  · rename_i r hp
    rw [hp] at hm
    generalize e1 : a.eval m = x' at hm
    cases hm with
    | map r L hL =>
      split at hf
      · rename_i es hg
        split at hf
        · rename_i k hq
          rw [hq] at hi
          generalize e2 : a.eval i = i' at hi
          cases hi
          split at hf
          · rename_i hs
            cases hf
            have e3 : a.eval x = ev tm (src nt x) := hx.scal_eq hs
            obtain ⟨hLB0, hsh, hes, E, clock, g1, g2, g3⟩ := hh.at hg hL
            have hLB := hLB0 rfl
            have hPt : P.underlying t = some (.map key elem) := by rw [(hT t d hd).1, hu]
            have hPk : P.underlying key = some (.int .i64) := by rw [(hT key dk hk).1, hku]
            have hck : (Instr.checkKey false 10000 key (.int .i64 k)).run P w = .ok () w := MapKept.run_checkKey hPk (show MapKept.IsKey (.int .i64) (.int .i64 k) from rfl) _ 9999
            have hst : (Instr.keyThatStays (.int .i64 k) (.int .i64 k)).run P w = .ok (.int .i64 k) w := MapKept.run_keyThatStays (show MapKept.IsKey (.int .i64) (.int .i64 k) from rfl)
            have hall := mput_scal g3 k hs
            have fin : ∀ E' clock', (Instr.mapUpdate t (.map (some L.b)) (.int .i64 k) (a.eval x)).run P w = .ok () { w with heap := w.heap.setIfInBounds L.b (.map E' clock') } →
                E'.toList.map (fun e => (e.key, e.val)) = (mput es k (ev tm (src nt x))).map (fun p => (Value.int .i64 p.1, p.2)) → EfPost P o B ρ a w undef (hset h r (.imap (mput es k (ev tm (src nt x))))) ρ.length := by
              intro E' clock' hr hE
              obtain ⟨s1, s2⟩ := MapKept.heap_set (o' := .map E' clock') g1
              refine ⟨undef, { w with heap := w.heap.setIfInBounds L.b (.map E' clock') }, ρ, .inr ⟨?_, rfl⟩, VRel.undef ρ, Rho.le_refl ρ, rfl, ?_, below_setBlock hLB _⟩
              · simp [execOp, ho, e1, e2, hr]
              · exact hh.set hg hL (fun q => q.1 hes) hLB (fun k' _ hk' => s2 k' hk') ⟨hsh, hes, E', clock', s1, hE, hall⟩ rfl
            rw [← hc]
            rcases findNow_at k E.toList es 0 g2 with ⟨a1, a2, a3⟩ | ⟨j, e0, a1, a2, a3, a4, a5⟩
            · refine fin (E.push { key := .int .i64 k, val := a.eval x, born := clock }) (clock + 1) ?_ ?_
              · simp [Instr.mapUpdate, run_underlying hPt, MapKept.run_getObj_map g1, hck, MapKept.run_findKey hPk a1, MapKept.run_setObj_map _ g1, Result.andThen]
              · rw [a3, Array.toList_push, List.map_append, List.map_append, g2, e3]
                rfl
            · have hj : E[j]? = some e0 := by simpa using a3
              refine fin (E.modify j fun e => { e with key := .int .i64 k, val := a.eval x }) clock ?_ ?_
              · have h0 : (0 + j) = j := Nat.zero_add j
                rw [h0] at a1
                simp [Instr.mapUpdate, run_underlying hPt, MapKept.run_getObj_map g1, hck, MapKept.run_findKey hPk a1, hj, a4, hst, MapKept.run_setObj_map _ g1, Result.andThen]
              · rw [a5, Array.toList_modify, ChangeMaps.modify_eq_set _ _ _ _ a3, List.map_set, List.map_set, g2, e3]
          · cases hf
        · cases hf
      · cases hf
  · cases hf

/-! ### Two ints and two ints: are they the same -/
theorem run_equalIn_arr2 {P : Program} (w : World) (n : Nat) {t e : TypeId} {i : TypeInfo} (ht : P.underlying t = some (.array 2 e)) (he : P.underlying e = some (.int .i64)) (hi : P.info? e = some i) (hs : i.size = 1) (a b c d : Int) :
    (Op.equalIn (n + 2) t (.agg #[.int .i64 a, .int .i64 b]) (.agg #[.int .i64 c, .int .i64 d])).run P w = .ok (a == c && b == d) w := by
  have ha : (isAgg e).run P w = .ok false w := by simp [isAgg, run_underlying he, Result.andThen]
  have hsz : (Go.sizeOf e).run P w = .ok 1 w := by simp [Go.sizeOf, typeInfo, hi, hs]
  have p0 : ∀ (x y : Value), (part e #[x, y] 0).run P w = .ok x w := fun x y => by simp [part, ha, Result.andThen]
  have p1 : ∀ (x y : Value), (part e #[x, y] 1).run P w = .ok y w := fun x y => by simp [part, ha, Result.andThen]
  have q : ∀ (x y : Int), (Op.equalIn (n + 1) e (.int .i64 x) (.int .i64 y)).run P w = .ok (x == y) w := fun x y => run_equalIn_int w n e .i64 .i64 x y he
  rw [Op.equalIn]
  simp [run_underlying ht, Result.andThen, hsz, p0, q, List.range']
  by_cases h1 : a = c <;> by_cases h2 : b = d <;> simp [h1, h2, Result.andThen, p1, q]

noncomputable def rEq2 (neg : Bool) (x y : Src) (fb : RF) : RF := fun tm h =>
  match ev tm x, ev tm y with
  | .agg cx, .agg cy => match cx.toList, cy.toList with
    | [.int .i64 a, .int .i64 b], [.int .i64 c, .int .i64 d] => some (.bool (match neg with | true => !(a == c && b == d) | false => (a == c && b == d)))
    | _, _ => fb tm h
  | _, _ => fb tm h

theorem rEq2_ok {P : Program} {ty : Nat → Option XTy} (hT : TyOk P ty) {nt : Nat} {o : Oper} {neg : Bool} {t t' e : TypeId} {x y : Operand} {d de : XTy} {fb : RF} (ho : o.op = .binOp (if neg then .neq else .eql) t x y t')
    (hd : ty t = some d) (hu : d.u = .array 2 e) (hde : ty e = some de) (hi : de.u = .int .i64) (hz : de.size = 1) (hg : P.eqGuardType P.depth t = false) (hfb : RdOk P nt o fb) : RdOk P nt o (rEq2 neg (src nt x) (src nt y) fb) := by
  intro tm h v hf B ρ a w ht hh
  have hx := src_ok ht x
  have hy := src_ok ht y
  obtain ⟨ht', _⟩ := hT t d hd
  rw [hu] at ht'
  obtain ⟨he', i, i1, i2, _⟩ := hT e de hde
  rw [hi] at he'
  unfold rEq2 at hf
  split at hf
  · rename_i cx cy h1 h2
    split at hf
    · rename_i p q r s e1 e2
      cases hf
      have hcx : cx = #[.int .i64 p, .int .i64 q] := by apply Array.ext'; simpa using e1
      have hcy : cy = #[.int .i64 r, .int .i64 s] := by apply Array.ext'; simpa using e2
      subst hcx
      subst hcy
      have ex : a.eval x = .agg #[.int .i64 p, .int .i64 q] := by
        rw [h1] at hx
        exact hx.plain_eq (by simp [plain, scal])
      have ey : a.eval y = .agg #[.int .i64 r, .int .i64 s] := by
        rw [h2] at hy
        exact hy.plain_eq (by simp [plain, scal])
      refine ⟨_, .bool _, fun w' _ => ?_⟩
      have hq := run_equalIn_arr2 w' 9998 ht' he' i1 (i2.trans hz) p q r s
      have hgd : ∀ op : BinOp, (eqGuard op t x y (.agg #[.int .i64 p, .int .i64 q]) (.agg #[.int .i64 r, .int .i64 s])).run P w' = .ok () w' := fun op => run_eqGuard_agg w' op t x y _ _ hg
      cases neg with
      | true =>
        have hb := run_neq_struct (P := P) w' t #[.int .i64 p, .int .i64 q] #[.int .i64 r, .int .i64 s]
        rw [hq] at hb
        simp only [if_true] at ho
        simp only [execOp, ho, ex, ey, Sem.run_bind, hgd, Result.andThen_ok, hb, Sem.run_pure]
      | false =>
        have hb := run_eql_struct (P := P) w' t #[.int .i64 p, .int .i64 q] #[.int .i64 r, .int .i64 s]
        rw [hq] at hb
        simp only [Bool.false_eq_true, if_false] at ho
        simp only [execOp, ho, ex, ey, Sem.run_bind, hgd, Result.andThen_ok, hb, Sem.run_pure]
    · exact hfb tm h v hf B ρ a w ht hh
  · exact hfb tm h v hf B ρ a w ht hh

/-! ### clear of a slice -/
noncomputable def eClear (z : Array Value) (x : Src) : EF := fun tm h c =>
  match ev tm x with
  | .slice none _ _ => some (.tuple #[], h, c)
  | .slice (some ⟨i, off, _⟩) len _ => match len with
    | 0 => some (.tuple #[], h, c)
    | n + 1 => match hget h i with
      | some (.cells cs fz e es) =>
        match (Nat.ble 1 z.size && z.toList.all closedV && (bsBase z ((n + 1) * z.size)).toList.all one1 && Nat.ble fz off && Nat.ble (off + (n + 1) * z.size) cs.length) with
        | true => some (.tuple #[], hset h i (.cells (cs.take off ++ (bsBase z ((n + 1) * z.size)).toList ++ cs.drop (off + (n + 1) * z.size)) fz e es), c)
        | false => none
      | _ => none
  | _ => none

theorem eClear_ok {P : Program} {ty : Nat → Option XTy} (hT : TyOk P ty) {nt : Nat} {o : Oper} {x : Operand} {t e : TypeId} {d de : XTy} (ho : o.op = .call { callee := .builtin .clear, args := #[x], argTypes := #[t] })
    (hd : ty t = some d) (hu : d.u = .slice e) (hde : ty e = some de) : EfOk P nt o (eClear de.zero.cells (src nt x)) := by
  intro tm h c v h' c' hf B ρ a w ht hh hc hB
  have hx := src_ok ht x
  have hun := hT.und hd w
  have hzr := hT.zero hde w
  have hex : ∀ {V W}, (Builtin.clear_ #[t] o.type #[a.eval x]).run P w = .ok V W → (execOp a.eval o).run P w = .ok (.value V) W := by
    intro V W hr
    simp [execOp, ho, resolve, invoke, builtin, hr]
  unfold eClear at hf
  split at hf
  · rename_i l k hp
    cases hf
    rw [hp] at hx
    generalize e1 : a.eval x = x' at hx hex
    cases hx
    exact ⟨.tuple #[], w, ρ, .inl (hex (by simp [Builtin.clear_, hun, hu])), VRel.undef ρ, Rho.le_refl ρ, hc, hh, Below.refl B w⟩
  · rename_i i off sp len cap hp
    rw [hp] at hx
    generalize e1 : a.eval x = x' at hx hex
    split at hf
    · cases hf
      cases hx with
      | slice i off _ cap L o' cap' hL hz h0 h1 => exact ⟨.tuple #[], w, ρ, .inl (hex (by simp [Builtin.clear_, hun, hu])), VRel.undef ρ, Rho.le_refl ρ, hc, hh, Below.refl B w⟩
      | sliceN i off L hL hes => exact ⟨.tuple #[], w, ρ, .inl (hex (by simp [Builtin.clear_, hun, hu])), VRel.undef ρ, Rho.le_refl ρ, hc, hh, Below.refl B w⟩
      | zslice i off k a hk => cases a <;> exact ⟨.tuple #[], w, ρ, .inl (hex (by simp [Builtin.clear_, hun, hu])), VRel.undef ρ, Rho.le_refl ρ, hc, hh, Below.refl B w⟩
    · rename_i n
      split at hf
      · rename_i cs fz el es hg
        split at hf
        · rename_i hb
          cases hf
          simp only [Bool.and_eq_true, Nat.ble_eq] at hb
          obtain ⟨⟨⟨⟨b1, b2⟩, b3⟩, b4⟩, b5⟩ := hb
          cases hx with
          | slice i off _ cap L o' cap' hL hz h0 h1 =>
            have ho' : o' = L.sh + off := by
              rcases hz with q | q
              · exact q
              · exact absurd q.2 (Nat.succ_ne_zero n)
            subst ho'
            have hsz : (bsBase de.zero.cells ((n + 1) * de.zero.cells.size)).size = (n + 1) * de.zero.cells.size := by simp [bsBase]
            have hpos : 0 < (n + 1) * de.zero.cells.size := Nat.mul_pos (Nat.succ_pos n) b1
            have hcl : (bsBase de.zero.cells ((n + 1) * de.zero.cells.size)).toList.all closedV = true := bsBase_closed b2 _ (.inl b1)
            have hC := Cells.closed ρ hcl
            have hlen : (bsBase de.zero.cells ((n + 1) * de.zero.cells.size)).toList.length = (n + 1) * de.zero.cells.size := by simpa using hsz
            obtain ⟨w', r1, r2, r3⟩ := hh.setCells (P := P) hg hL hC (.inl (by intro q; subst q; simp at b5; omega)) (by intro q; rw [q] at hlen; simp at hlen; omega) (by rw [hlen]; exact b5) b4 (hC.one1 b3)
            refine ⟨.tuple #[], w', ρ, .inl (hex ?_), VRel.undef ρ, Rho.le_refl ρ, hc, ?_, r3⟩
            · have hzc : Builtin.zeroCells de.zero.cells (n + 1) = bsBase de.zero.cells ((n + 1) * de.zero.cells.size) := bsBase_eq _ _
              simp [Builtin.clear_, hun, hu, hzr, hzc, r1]
            · rw [hlen] at r2; exact r2
        · cases hf
      · cases hf
  · cases hf

/-! ### A slice of an array -/
noncomputable def rCutA (nt size n : Nat) (x : Src) (lo hi : Option Operand) : RF := fun tm h =>
  match ev tm x with
  | .pointer (some ⟨b, o, _⟩) => match hget h b with
    | some (.cells _ _ _ es) => match Nat.beq es 0 with
      | true => match bnd nt tm lo, bnd nt tm hi with
        | some l, some h => match cutOK (l.getD 0) (h.getD n) n n with
          | true => some (.slice (some ⟨b, o + (l.getD 0).toNat * size, none⟩) ((h.getD n).toNat - (l.getD 0).toNat) (n - (l.getD 0).toNat))
          | false => none
        | _, _ => none
      | false => none
    | _ => none
  | _ => none

theorem rCutA_ok {P : Program} {ty : Nat → Option XTy} (hT : TyOk P ty) {nt : Nat} {o : Oper} {t arr e : TypeId} {n : Nat} {x : Operand} {lo hi : Option Operand} {d da de : XTy} (ho : o.op = .slice t x lo hi none) (hd : ty t = some d) (hu : d.u = .pointer arr)
    (hda : ty arr = some da) (hua : da.u = .array n e) (hde : ty e = some de) : RdOk P nt o (rCutA nt de.size n (src nt x) lo hi) := by
  apply RdOk.of_all
  intro tm h v hf B ρ a w ht hh
  have hx := src_ok ht x
  unfold rCutA at hf
  split at hf
  · rename_i b off sp hp
    rw [hp] at hx
    generalize e1 : a.eval x = x' at hx
    split at hf
    · rename_i cs fz el es hg
      split at hf
      · rename_i hes
        split at hf
        · rename_i l h' hl hhh
          split at hf
          · rename_i hc
            cases hf
            obtain ⟨hcut, g1, g2, _⟩ := cutB_of (len := n) (cap := n) (m := none) hc rfl
            obtain ⟨c1, c2, c3, c4⟩ := cutOK_iff.1 hc
            have hbl := bnd_ok ht hl g1
            have hbh := bnd_ok ht hhh g2
            cases hx with
            | ptr b off L hL =>
              have hLe : L.es = 0 := by
                obtain ⟨_, hO⟩ := hh.at hg hL
                exact hO.1.trans (Nat.eq_of_beq_eq_true hes)
              generalize hl2 : (l.getD 0).toNat = l2 at *
              generalize hh2 : (h'.getD ↑n).toNat = h2 at *
              have hbn : BndOk a none ((none : Option Int).map Int.toNat) := bnd_ok ht (x := none) (b := none) rfl (by simp)
              have r1 : ∀ w', (Instr.sliceBounds false n n (lo.map a.eval) (hi.map a.eval) none).run P w' = .ok (l2, h2, n) w' := fun w' => run_sliceBounds (P := P) w' a false n n n (Nat.le_refl _) lo hi none _ _ _ hbl hbh hbn hcut
              refine ⟨.slice (some (if n = l2 then ⟨L.b, L.sh + off, none⟩ else ⟨L.b, L.sh + off + l2 * de.size, none⟩)) (h2 - l2) (n - l2), ?_, fun w' => ?_⟩
              · have hoff : (if n = l2 then (⟨L.b, L.sh + off, none⟩ : Addr) else ⟨L.b, L.sh + off + l2 * de.size, none⟩) = ⟨L.b, (if n = l2 then L.sh + off else L.sh + off + l2 * de.size), none⟩ := by split <;> rfl
                rw [hoff]
                refine .slice b _ _ _ L _ _ hL ?_ (fun _ => rfl) (fun z => absurd hLe z)
                by_cases em : n = l2
                · exact .inr (by omega)
                · rw [if_neg em]
                  exact .inl (by rw [Nat.add_assoc])
              · have hun := hT.und hd w'
                have hua' := hT.und hda w'
                have hsz := hT.sizeOf hde w'
                have := r1 w'
                simp only [execOp, ho, e1, Instr.sliceAt]
                simp [hun, hu, hua', hua, Instr.slice, asAddr, this, hsz]
                split <;> simp [Addr.add_none]
          · cases hf
        · cases hf
      · cases hf
    · cases hf
  · cases hf

/-- The same, where the operation names the array itself. -/
theorem rCutB_ok {P : Program} {ty : Nat → Option XTy} (hT : TyOk P ty) {nt : Nat} {o : Oper} {t e : TypeId} {n : Nat} {x : Operand} {lo hi : Option Operand} {d de : XTy} (ho : o.op = .slice t x lo hi none) (hd : ty t = some d) (hu : d.u = .array n e)
    (hde : ty e = some de) : RdOk P nt o (rCutA nt de.size n (src nt x) lo hi) := by
  apply RdOk.of_all
  intro tm h v hf B ρ a w ht hh
  have hx := src_ok ht x
  unfold rCutA at hf
  split at hf
  · rename_i b off sp hp
    rw [hp] at hx
    generalize e1 : a.eval x = x' at hx
    split at hf
    · rename_i cs fz el es hg
      split at hf
      · rename_i hes
        split at hf
        · rename_i l h' hl hhh
          split at hf
          · rename_i hc
            cases hf
            obtain ⟨hcut, g1, g2, _⟩ := cutB_of (len := n) (cap := n) (m := none) hc rfl
            obtain ⟨c1, c2, c3, c4⟩ := cutOK_iff.1 hc
            have hbl := bnd_ok ht hl g1
            have hbh := bnd_ok ht hhh g2
            cases hx with
            | ptr b off L hL =>
              have hLe : L.es = 0 := by
                obtain ⟨_, hO⟩ := hh.at hg hL
                exact hO.1.trans (Nat.eq_of_beq_eq_true hes)
              generalize hl2 : (l.getD 0).toNat = l2 at *
              generalize hh2 : (h'.getD ↑n).toNat = h2 at *
              have hbn : BndOk a none ((none : Option Int).map Int.toNat) := bnd_ok ht (x := none) (b := none) rfl (by simp)
              have r1 : ∀ w', (Instr.sliceBounds false n n (lo.map a.eval) (hi.map a.eval) none).run P w' = .ok (l2, h2, n) w' := fun w' => run_sliceBounds (P := P) w' a false n n n (Nat.le_refl _) lo hi none _ _ _ hbl hbh hbn hcut
              refine ⟨.slice (some (if n = l2 then ⟨L.b, L.sh + off, none⟩ else ⟨L.b, L.sh + off + l2 * de.size, none⟩)) (h2 - l2) (n - l2), ?_, fun w' => ?_⟩
              · have hoff : (if n = l2 then (⟨L.b, L.sh + off, none⟩ : Addr) else ⟨L.b, L.sh + off + l2 * de.size, none⟩) = ⟨L.b, (if n = l2 then L.sh + off else L.sh + off + l2 * de.size), none⟩ := by split <;> rfl
                rw [hoff]
                refine .slice b _ _ _ L _ _ hL ?_ (fun _ => rfl) (fun z => absurd hLe z)
                by_cases em : n = l2
                · exact .inr (by omega)
                · rw [if_neg em]
                  exact .inl (by rw [Nat.add_assoc])
              · have hun := hT.und hd w'
                have hsz := hT.sizeOf hde w'
                have := r1 w'
                simp only [execOp, ho, e1, Instr.sliceAt]
                simp [hun, hu, Instr.sureAddr, this, hsz]
                split <;> simp [Addr.add_none]
          · cases hf
        · cases hf
      · cases hf
    · cases hf
  · cases hf

/-! ### A slice and nil: == and != -/
noncomputable def rSliceNil (neg : Bool) (x y : Src) : RF := fun tm h =>
  match ev tm y with
  | .slice none 0 0 => match ev tm x with
    | .slice none 0 0 => some (.bool (!neg))
    | .slice (some ⟨_, _, some (_ + 1)⟩) 0 0 => some (.bool neg)
    | .slice (some ⟨i, _, none⟩) _ cap => match cap with
      | _ + 1 => some (.bool neg)
      | 0 => match hget h i with
        | some (.cells _ _ _ 0) => some (.bool neg)
        | some (.cells (_ :: _) _ _ _) => some (.bool neg)
        | _ => none
    | _ => none
  | _ => none

theorem run_slice_nil {P : Program} {t e : TypeId} (ht : P.underlying t = some (.slice e)) (w : World) (a : Option Addr) (l c : Nat) (ha : a = none → l = 0 ∧ c = 0) (neg : Bool) :
    (binOp (if neg then .neq else .eql) t (.slice a l c) (.slice none 0 0)).run P w = .ok (.bool (a.isNone != neg)) w := by
  have he : (Op.equal t (.slice a l c) (.slice none 0 0)).run P w = .ok a.isNone w := by
    have h : ∀ d : Nat, (Op.equalIn (d + 1) t (.slice a l c) (.slice none 0 0)).run P w = .ok a.isNone w := by
      intro d
      cases a with
      | none =>
        obtain ⟨rfl, rfl⟩ := ha rfl
        simp [Op.equalIn, run_underlying ht]
      | some a => simp [Op.equalIn, run_underlying ht]
    simp [Op.equal, Op.maxDepth, h 9999]
  cases neg
  · have : (binOp .eql t (.slice a l c) (.slice none 0 0)) = (do pure (.bool (← Op.equal t (.slice a l c) (.slice none 0 0)))) := by unfold binOp; rfl
    simp only [Bool.false_eq_true, if_false, this, Sem.run_bind, he, Result.andThen_ok, Sem.run_pure]
    simp
  · have : (binOp .neq t (.slice a l c) (.slice none 0 0)) = (do pure (.bool (!(← Op.equal t (.slice a l c) (.slice none 0 0))))) := by unfold binOp; rfl
    simp only [if_true, this, Sem.run_bind, he, Result.andThen_ok, Sem.run_pure]
    simp

theorem rSliceNil_ok {P : Program} {ty : Nat → Option XTy} (hT : TyOk P ty) {nt : Nat} {o : Oper} {neg : Bool} {t t' e : TypeId} {x y : Operand} {d : XTy} (ho : o.op = .binOp (if neg then .neq else .eql) t x y t')
    (hd : ty t = some d) (hu : d.u = .slice e) : RdOk P nt o (rSliceNil neg (src nt x) (src nt y)) := by
  intro tm h v hf B ρ a w ht hh
  have hx := src_ok ht x
  have hy := src_ok ht y
  obtain ⟨ht', _⟩ := hT t d hd
  rw [hu] at ht'
  have hex : ∀ {p : Option Addr} {l c : Nat}, a.eval x = .slice p l c → a.eval y = .slice none 0 0 → (p = none → l = 0 ∧ c = 0) → ∀ w', (execOp a.eval o).run P w' = .ok (.value (.bool (p.isNone != neg))) w' := by
    intro p l c e1 e2 hp w'
    have hb := run_slice_nil ht' w' p l c hp neg
    have hg : (eqGuard (if neg then .neq else .eql) t x y (.slice p l c) (.slice none 0 0)).run P w' = .ok () w' := by
      unfold eqGuard
      cases neg <;> simp
    simp only [execOp, ho, e1, e2, Sem.run_bind, hg, Result.andThen_ok, hb, Sem.run_pure]
  unfold rSliceNil at hf
  split at hf
  · rename_i h2
    rw [h2] at hy
    generalize e2 : a.eval y = y' at hy
    cases hy
    split at hf
    · rename_i h1
      rw [h1] at hx
      generalize e1 : a.eval x = x' at hx
      cases hx
      cases hf
      exact ⟨.bool (!neg), .bool _, fun w' _ => by have := hex e1 e2 (fun _ => ⟨rfl, rfl⟩) w'; simpa using this⟩
    · rename_i i o' k h1
      rw [h1] at hx
      generalize e1 : a.eval x = x' at hx
      cases hf
      cases hx with
      | zslice _ _ _ p hk =>
        cases p with
        | none => exact absurd (hk (Nat.succ_ne_zero k)) (by simp)
        | some p => exact ⟨.bool neg, .bool _, fun w' _ => by have := hex e1 e2 (fun q => by cases q) w'; simpa using this⟩
    · rename_i i o' l cap h1
      rw [h1] at hx
      generalize e1 : a.eval x = x' at hx
      have key : (∃ L, ρ[i]? = some L ∧ ¬ L.gho) ∨ cap ≠ 0 → v = .bool neg → ∃ v', VRel ρ v v' ∧ ∀ w', Below w.heap.size w w' → (execOp a.eval o).run P w' = .ok (.value v') w' := by
        rintro hk rfl
        cases hx with
        | slice _ _ _ _ L o' cap' hL hz h0 h1 => exact ⟨.bool neg, .bool _, fun w' _ => by have := hex e1 e2 (fun q => by cases q) w'; simpa using this⟩
        | sliceN _ _ L hL hes =>
          rcases hk with ⟨M, m1, m2⟩ | hk
          · rw [hL] at m1; cases m1
            exact absurd hes m2
          · exact absurd rfl hk
      split at hf
      · cases hf
        exact key (.inr (Nat.succ_ne_zero _)) rfl
      · split at hf
        · rename_i hg
          cases hf
          obtain ⟨L, l1, _, l3⟩ := hh.ok _ _ hg
          exact key (.inl ⟨L, l1, fun q => q.1 l3.1⟩) rfl
        · rename_i hg
          cases hf
          obtain ⟨L, l1, _, l3⟩ := hh.ok _ _ hg
          refine key (.inl ⟨L, l1, fun q => ?_⟩) rfl
          obtain ⟨_, m | ⟨C, fr, _, _, m3, _⟩⟩ := l3
          · cases m.2
          · have := q.2
            simp only [List.length_cons] at m3
            omega
        · cases hf
    · cases hf
  · cases hf

/-- A slice literal without elements: not nil, and without room. -/
noncomputable def eEmpty : EF := fun _ h c => some (.slice (some ⟨0, 0, some 1⟩) 0 0, h, c)

theorem eEmpty_ok {P : Program} {ty : Nat → Option XTy} (hT : TyOk P ty) {nt : Nat} {o : Oper} {t e : TypeId} {d de : XTy} (ho : o.op = .buildSlice t 0 #[])
    (hd : ty t = some d) (hu : d.u = .slice e) (hde : ty e = some de) : EfOk P nt o eEmpty := by
  intro tm h c v h' c' hf B ρ a w ht hh hc hB
  cases hf
  have hun := hT.und hd w
  have hsz := hT.sizeOf hde w
  have hzr := hT.zero hde w
  refine ⟨.slice (some ⟨w.heap.size, 0, none⟩) 0 0, w.alloc (.cells #[] e), ρ, .inl ?_, .zslice 0 0 1 _ (fun _ => rfl), Rho.le_refl ρ, hc, hh.keepB (below_alloc (Nat.le_refl _) _), below_alloc hB _⟩
  have hr0 : Array.range 0 = #[] := rfl
  simp [execOp, ho, Instr.buildSlice, hun, hu, hsz, Instr.fill, newRow, hr0]

/-! ### Structs of scalars: are they the same -/
noncomputable def eqT : TypeDesc → Value → Value → Option Bool
  | .int _, .int k a, .int k' b => match sameK k k' with
    | true => some (a == b)
    | false => none
  | .bool, .bool a, .bool b => some (a == b)
  | .string, .string a, .string b => some (a.data.toList == b.data.toList)
  | _, _, _ => none

theorem eqT_run {P : Program} {u : TypeDesc} {a b : Value} {r : Bool} (h : eqT u a b = some r) {t : TypeId} (ht : P.underlying t = some u) (n : Nat) (w : World) : (Op.equalIn (n + 1) t a b).run P w = .ok r w := by
  unfold eqT at h
  split at h
  · rename_i k k1 x k2 y
    split at h
    · rename_i hk
      have := sameK_eq hk
      subst this
      cases h
      exact run_equalIn_int w n t k1 k x y ht
    · cases h
  · cases h
    exact run_equalIn_bool' w n t _ _ ht
  · cases h
    rw [run_equalIn_string w n t _ _ ht, ByteArray.toList_eq, ByteArray.toList_eq]
  · cases h

noncomputable def eqF (ty : Nat → Option XTy) (xs ys : List Value) (f : Field) : Option Bool :=
  match ty f.type with
  | some D => match xs[f.offset]?, ys[f.offset]? with
    | some v, some u => match aggB D.u with
      | true => none
      | false => eqT D.u v u
    | _, _ => none
  | none => none

noncomputable def eqFs (ty : Nat → Option XTy) (xs ys : List Value) : List Field → Option Bool
  | [] => some true
  | [f] => eqF ty xs ys f
  | f :: g :: l => match eqF ty xs ys f, eqFs ty xs ys (g :: l) with
    | some a, some b => some (a && b)
    | _, _ => none

theorem eqF_run {P : Program} {ty : Nat → Option XTy} (hT : TyOk P ty) {xs ys : Array Value} {f : Field} {r : Bool} (h : eqF ty xs.toList ys.toList f = some r) (n : Nat) (w : World) :
    ∃ a b, (part f.type xs f.offset).run P w = .ok a w ∧ (part f.type ys f.offset).run P w = .ok b w ∧ (Op.equalIn (n + 1) f.type a b).run P w = .ok r w := by
  unfold eqF at h
  split at h
  · rename_i D hD
    split at h
    · rename_i v u hv hu
      split at h
      · cases h
      · rename_i hag
        obtain ⟨h1, _⟩ := hT f.type D hD
        have ha := hT.isAgg hD w
        rw [hag] at ha
        have hv' : xs[f.offset]? = some v := by simpa using hv
        have hu' : ys[f.offset]? = some u := by simpa using hu
        exact ⟨v, u, by simp [part, ha, hv', Result.andThen], by simp [part, ha, hu', Result.andThen], eqT_run h h1 n w⟩
    · cases h
  · cases h

theorem eqFs_run {P : Program} {ty : Nat → Option XTy} (hT : TyOk P ty) {xs ys : Array Value} (n : Nat) (w : World) : ∀ (fs : List Field) (r : Bool), eqFs ty xs.toList ys.toList fs = some r → (fs.all fun f => f.name != "_") = true → (Op.eqFields (n + 1) xs ys fs).run P w = .ok r w
  | [], r, h, _ => by cases h; simp [Op.eqFields]
  | [f], r, h, hn => by
    obtain ⟨a, b, p1, p2, p3⟩ := eqF_run hT (show eqF ty xs.toList ys.toList f = some r from h) n w
    have h1 : f.name ≠ "_" := by simpa using hn
    simp only [Op.eqFields, if_pos h1, Sem.run_bind, p1, p2, p3, Result.andThen_ok, Sem.run_ite, Sem.run_pure]
    cases r <;> rfl
  | f :: g :: l, r, h, hn => by
    simp only [eqFs] at h
    split at h
    · rename_i q1 q2 e1 e2
      cases h
      obtain ⟨a, b, p1, p2, p3⟩ := eqF_run hT e1 n w
      simp only [List.all_cons, Bool.and_eq_true] at hn
      have h1 : f.name ≠ "_" := by simpa using hn.1
      have ih := eqFs_run hT n w (g :: l) q2 e2 (by simp only [List.all_cons, Bool.and_eq_true]; exact hn.2)
      rw [Op.eqFields, if_pos h1]
      simp only [Sem.run_bind, p1, p2, p3, Result.andThen_ok, Sem.run_ite, Sem.run_pure]
      cases q1
      · rfl
      · rw [ih]; rfl
    · cases h

noncomputable def rEqS (neg : Bool) (ty : Nat → Option XTy) (fs : List Field) (x y : Src) (fb : RF) : RF := fun tm h =>
  match ev tm x, ev tm y with
  | .agg cx, .agg cy => match (cx.toList.all scal && cy.toList.all scal) with
    | true => match eqFs ty cx.toList cy.toList fs with
      | some r => some (.bool (match neg with | true => !r | false => r))
      | none => fb tm h
    | false => fb tm h
  | _, _ => fb tm h

theorem rEqS_ok {P : Program} {ty : Nat → Option XTy} (hT : TyOk P ty) {nt : Nat} {o : Oper} {neg : Bool} {t t' : TypeId} {x y : Operand} {d : XTy} {fs : Array Field} {fb : RF} (ho : o.op = .binOp (if neg then .neq else .eql) t x y t')
    (hd : ty t = some d) (hu : d.u = .struct fs) (hn : (fs.toList.all fun f => f.name != "_") = true) (hp : P.stoodInHeld t = false) (hg : P.eqGuardType P.depth t = false) (hfb : RdOk P nt o fb) : RdOk P nt o (rEqS neg ty fs.toList (src nt x) (src nt y) fb) := by
  intro tm h v hf B ρ a w ht hh
  have hx := src_ok ht x
  have hy := src_ok ht y
  obtain ⟨ht', _⟩ := hT t d hd
  rw [hu] at ht'
  have hfo : P.fieldsOf t = fs := by simp only [Program.fieldsOf, ht']
  unfold rEqS at hf
  split at hf
  · rename_i cx cy h1 h2
    split at hf
    · rename_i hsc
      simp only [Bool.and_eq_true] at hsc
      split at hf
      · rename_i r he
        cases hf
        have ex : a.eval x = .agg cx := by
          rw [h1] at hx
          exact hx.plain_eq (by simpa [plain] using hsc.1)
        have ey : a.eval y = .agg cy := by
          rw [h2] at hy
          exact hy.plain_eq (by simpa [plain] using hsc.2)
        refine ⟨_, .bool _, fun w' _ => ?_⟩
        have hq : (Op.equalIn 10000 t (.agg cx) (.agg cy)).run P w' = .ok r w' := by
          rw [run_equalIn_struct w' 9999 t cx cy (by rw [hfo]; exact ht') hp, hfo]
          exact eqFs_run hT 9998 w' _ _ he hn
        have hgd : ∀ op : BinOp, (eqGuard op t x y (.agg cx) (.agg cy)).run P w' = .ok () w' := fun op => run_eqGuard_agg w' op t x y _ _ hg
        cases neg with
        | true =>
          have hb := run_neq_struct (P := P) w' t cx cy
          rw [hq] at hb
          simp only [if_true] at ho
          simp only [execOp, ho, ex, ey, Sem.run_bind, hgd, Result.andThen_ok, hb, Sem.run_pure]
        | false =>
          have hb := run_eql_struct (P := P) w' t cx cy
          rw [hq] at hb
          simp only [Bool.false_eq_true, if_false] at ho
          simp only [execOp, ho, ex, ey, Sem.run_bind, hgd, Result.andThen_ok, hb, Sem.run_pure]
      · exact hfb tm h v hf B ρ a w ht hh
    · exact hfb tm h v hf B ρ a w ht hh
  · exact hfb tm h v hf B ρ a w ht hh

end Go.Xm
