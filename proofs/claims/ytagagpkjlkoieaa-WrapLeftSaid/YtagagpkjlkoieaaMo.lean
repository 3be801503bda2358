/- The abstract machine, between parts 6 and 7: maps with integer keys and plain values: made, looked up, written. Conditions: none; nothing here speaks of one program. -/
import Derived.Test.YtagagpkjlkoieaaMv
import Derived.Maps.Keyed
import Derived.Laws.StructEq
namespace Go.Xm
open Go.RowKit

def mfind : List (Int × Value) → Int → Option Value
  | [], _ => none
  | p :: t, k => if p.1 = k then some p.2 else mfind t k

def mput : List (Int × Value) → Int → Value → List (Int × Value)
  | [], k, v => [(k, v)]
  | p :: t, k, v => if p.1 = k then (k, v) :: t else p :: mput t k v

theorem findNow_at (k : Int) : ∀ (E : List MapEntry) (es : List (Int × Value)) (n : Nat), E.map (fun e => (e.key, e.val)) = es.map (fun p => (Value.int .i64 p.1, p.2)) →
    (Instr.findNow (.int .i64) (.int .i64 k) E n = some none ∧ mfind es k = none ∧ ∀ v, mput es k v = es ++ [(k, v)]) ∨
    ∃ j e0, Instr.findNow (.int .i64) (.int .i64 k) E n = some (some (n + j, e0.val)) ∧ mfind es k = some e0.val ∧ E[j]? = some e0 ∧ e0.key = .int .i64 k ∧ ∀ v, mput es k v = es.set j (k, v)
  | [], [], n, _ => .inl ⟨rfl, rfl, fun v => rfl⟩
  | [], p :: es, n, h => by simp at h
  | e :: E, [], n, h => by simp at h
  | e :: E, p :: es, n, h => by
    simp only [List.map_cons, List.cons.injEq, Prod.mk.injEq] at h
    obtain ⟨⟨h1, h2⟩, h3⟩ := h
    have hs : Instr.sameNow (.int .i64) (.int .i64 k) e.key = some (k == p.1) := by rw [h1]; simp [Instr.sameNow]
    by_cases hk : p.1 = k
    · have hb : (k == p.1) = true := by simp [hk]
      rw [hb] at hs
      refine .inr ⟨0, e, ?_, by simp [mfind, hk, h2], rfl, by rw [h1, hk], fun v => by simp [mput, hk]⟩
      rw [Instr.findNow, hs]
      rfl
    · have hb : (k == p.1) = false := by simp; exact fun e => hk e.symm
      rw [hb] at hs
      have hf : Instr.findNow (.int .i64) (.int .i64 k) (e :: E) n = Instr.findNow (.int .i64) (.int .i64 k) E (n + 1) := by
        rw [Instr.findNow, hs]
      rcases findNow_at k E es (n + 1) h3 with ⟨a1, a2, a3⟩ | ⟨j, e0, a1, a2, a3, a4, a5⟩
      · exact .inl ⟨hf.trans a1, by simp [mfind, hk, a2], fun v => by simp [mput, hk, a3]⟩
      · exact .inr ⟨j + 1, e0, by rw [hf, a1, show n + 1 + j = n + (j + 1) by omega], by simp [mfind, hk, a2], by simpa using a3, a4, fun v => by simp [mput, hk, a5]⟩

theorem mfind_scal {es : List (Int × Value)} (h : es.all (fun p => scal p.2) = true) {k : Int} {u : Value} (hf : mfind es k = some u) : scal u = true := by
  induction es with
  | nil => cases hf
  | cons p es ih =>
    simp only [List.all_cons, Bool.and_eq_true] at h
    simp only [mfind] at hf
    split at hf
    · cases hf; exact h.1
    · exact ih h.2 hf

theorem mput_scal {es : List (Int × Value)} (h : es.all (fun p => scal p.2) = true) (k : Int) {u : Value} (hu : scal u = true) : (mput es k u).all (fun p => scal p.2) = true := by
  induction es with
  | nil => simp [mput, hu]
  | cons p es ih =>
    simp only [List.all_cons, Bool.and_eq_true] at h
    simp only [mput]
    split
    · simp [hu]; simpa using h.2
    · simp only [List.all_cons, Bool.and_eq_true]; exact ⟨h.1, ih h.2⟩

noncomputable def eMakeMap : EF := fun _ h c => some (.map (some c), (c, .imap []) :: h, c + 1)

theorem eMakeMap_ok {P : Program} {nt : Nat} {o : Oper} {t : TypeId} (ho : o.op = .makeMap t none) : EfOk P nt o eMakeMap := by
  intro tm h c v h' c' hf B ρ a w ht hh hc hB
  unfold eMakeMap at hf
  cases hf
  subst hc
  refine ⟨.map (some w.heap.size), w.alloc (.map #[] 0), ρ ++ [⟨w.heap.size, 0, 0, 0⟩], .inl ?_, ?_, Rho.le_push _ _, by simp, ?_, below_alloc hB _⟩
  · simp [execOp, ho, Instr.makeMap]
  · exact .map ρ.length ⟨w.heap.size, 0, 0, 0⟩ (by simp)
  · exact hh.new hB (Nat.le_refl _) (fun k hk => heap_old w _ hk) ⟨rfl, rfl, #[], 0, heap_new w _, rfl, rfl⟩

noncomputable def rLookup (x i : Src) (z : Value) (ok : Bool) : RF := fun tm h =>
  match ev tm x with
  | .map (some r) => match hget h r with
    | some (.imap es) => match ev tm i with
      | .int .i64 k => match scal z with
        | true => match ok with
          | true => some (.tuple #[(mfind es k).getD z, .bool (mfind es k).isSome])
          | false => some ((mfind es k).getD z)
        | false => none
      | _ => none
    | _ => none
  | _ => none

theorem rLookup_ok {P : Program} {ty : Nat → Option XTy} (hT : TyOk P ty) {nt : Nat} {o : Oper} {t key elem : TypeId} {x i : Operand} {ok : Bool} {d dk de : XTy} (ho : o.op = .lookup t x i ok) (hd : ty t = some d) (hu : d.u = .map key elem)
    (hk : ty key = some dk) (hku : dk.u = .int .i64) (he : ty elem = some de) : RdOk P nt o (rLookup (src nt x) (src nt i) de.zero ok) := by
  intro tm h v hf B ρ a w ht hh
  have hx := src_ok ht x
  have hi := src_ok ht i
  unfold rLookup at hf
  split at hf
  · rename_i r hp
    rw [hp] at hx
    generalize e1 : a.eval x = x' at hx
    cases hx with
    | map r L hL =>
      split at hf
      · rename_i es hg
        split at hf
        · rename_i k hq
          rw [hq] at hi
          generalize e2 : a.eval i = i' at hi
          cases hi
          obtain ⟨_, _, _, E, clock, g1, g2, g3⟩ := hh.at hg hL
          have hlt : L.b < w.heap.size := (Array.getElem?_eq_some_iff.1 g1).1
          have hPt : P.underlying t = some (.map key elem) := by rw [(hT t d hd).1, hu]
          have hPk : P.underlying key = some (.int .i64) := by rw [(hT key dk hk).1, hku]
          have run : ∀ w', Below w.heap.size w w' → (Instr.lookup t (.map (some L.b)) (.int .i64 k) ok).run P w' = .ok (if ok then .tuple #[(mfind es k).getD de.zero, .bool (mfind es k).isSome] else (mfind es k).getD de.zero) w' := by
            intro w' b
            have hb : w'.heap[L.b]? = some (.map E clock) := by rw [b.block _ hlt]; exact g1
            have hck : (Instr.checkKey E.isEmpty 10000 key (.int .i64 k)).run P w' = .ok () w' := MapKept.run_checkKey hPk (show MapKept.IsKey (.int .i64) (.int .i64 k) from rfl) _ 9999
            rcases findNow_at k E.toList es 0 g2 with ⟨a1, a2, _⟩ | ⟨j, e0, a1, a2, _⟩
            · simp [Instr.lookup, run_underlying hPt, MapKept.run_getObj_map hb, hck, MapKept.run_findKey hPk a1, hT.zero he, Result.andThen, a2]
            · simp [Instr.lookup, run_underlying hPt, MapKept.run_getObj_map hb, hck, MapKept.run_findKey hPk a1, Result.andThen, a2]
          split at hf
          · rename_i hz
            have hs : scal ((mfind es k).getD de.zero) = true := by
              cases hm : mfind es k with
              | none => exact hz
              | some u => exact mfind_scal g3 hm
            split at hf
            · cases hf
              refine ⟨_, VRel.plain_refl ρ ?_, fun w' b => by simp [execOp, ho, e1, e2, run w' b]⟩
              show [(mfind es k).getD de.zero, .bool (mfind es k).isSome].all scal = true
              rw [List.all_cons, hs]
              rfl
            · cases hf
              exact ⟨_, VRel.scal_refl ρ hs, fun w' b => by simp [execOp, ho, e1, e2, run w' b]⟩
          · cases hf
        · cases hf
      · cases hf
  · cases hf

noncomputable def eMapUpdate (m i x : Src) : EF := fun tm h c =>
  match ev tm m with
  | .map (some r) => match hget h r with
    | some (.imap es) => match ev tm i with
      | .int .i64 k => match scal (ev tm x) with
        | true => some (undef, hset h r (.imap (mput es k (ev tm x))), c)
        | false => none
      | _ => none
    | _ => none
  | _ => none

theorem below_setBlock {B : Nat} {w : World} {g : Nat} (hg : B ≤ g) (o : Obj) : Below B w { w with heap := w.heap.setIfInBounds g o } :=
  ⟨rfl, rfl, rfl, by simp, fun k hk => by simp [Array.getElem?_setIfInBounds_ne (show g ≠ k by omega)]⟩

theorem eMapUpdate_ok {P : Program} {ty : Nat → Option XTy} (hT : TyOk P ty) {nt : Nat} {o : Oper} {t key elem : TypeId} {m i x : Operand} {d dk : XTy} (ho : o.op = .mapUpdate t m i x) (hd : ty t = some d) (hu : d.u = .map key elem)
    (hk : ty key = some dk) (hku : dk.u = .int .i64) : EfOk P nt o (eMapUpdate (src nt m) (src nt i) (src nt x)) := by
  intro tm h c v h' c' hf B ρ a w ht hh hc hB
  have hm := src_ok ht m
  have hi := src_ok ht i
  have hx := src_ok ht x
  unfold eMapUpdate at hf
  split at hf
  · rename_i r hp
    rw [hp] at hm
    generalize e1 : a.eval m = x' at hm
    cases hm with
    | map r L hL =>
      split at hf
      · rename_i es hg
        split at hf
        · rename_i k hq
          rw [hq] at hi
          generalize e2 : a.eval i = i' at hi
          cases hi
          split at hf
          · rename_i hs
            cases hf
            have e3 : a.eval x = ev tm (src nt x) := hx.scal_eq hs
            obtain ⟨hLB0, hsh, hes, E, clock, g1, g2, g3⟩ := hh.at hg hL
            have hLB := hLB0 rfl
            have hPt : P.underlying t = some (.map key elem) := by rw [(hT t d hd).1, hu]
            have hPk : P.underlying key = some (.int .i64) := by rw [(hT key dk hk).1, hku]
            have hck : (Instr.checkKey false 10000 key (.int .i64 k)).run P w = .ok () w := MapKept.run_checkKey hPk (show MapKept.IsKey (.int .i64) (.int .i64 k) from rfl) _ 9999
            have hst : (Instr.keyThatStays (.int .i64 k) (.int .i64 k)).run P w = .ok (.int .i64 k) w := MapKept.run_keyThatStays (show MapKept.IsKey (.int .i64) (.int .i64 k) from rfl)
            have hall := mput_scal g3 k hs
            have fin : ∀ E' clock', (Instr.mapUpdate t (.map (some L.b)) (.int .i64 k) (a.eval x)).run P w = .ok () { w with heap := w.heap.setIfInBounds L.b (.map E' clock') } →
                E'.toList.map (fun e => (e.key, e.val)) = (mput es k (ev tm (src nt x))).map (fun p => (Value.int .i64 p.1, p.2)) → EfPost P o B ρ a w undef (hset h r (.imap (mput es k (ev tm (src nt x))))) ρ.length := by
              intro E' clock' hr hE
              obtain ⟨s1, s2⟩ := MapKept.heap_set (o' := .map E' clock') g1
              refine ⟨undef, { w with heap := w.heap.setIfInBounds L.b (.map E' clock') }, ρ, .inr ⟨?_, rfl⟩, VRel.undef ρ, Rho.le_refl ρ, rfl, ?_, below_setBlock hLB _⟩
              · simp [execOp, ho, e1, e2, hr]
              · exact hh.set hg hL (fun q => q.1 hes) hLB (fun k' _ hk' => s2 k' hk') ⟨hsh, hes, E', clock', s1, hE, hall⟩
            rw [← hc]
            rcases findNow_at k E.toList es 0 g2 with ⟨a1, a2, a3⟩ | ⟨j, e0, a1, a2, a3, a4, a5⟩
            · refine fin (E.push { key := .int .i64 k, val := a.eval x, born := clock }) (clock + 1) ?_ ?_
              · simp [Instr.mapUpdate, run_underlying hPt, MapKept.run_getObj_map g1, hck, MapKept.run_findKey hPk a1, MapKept.run_setObj_map _ g1, Result.andThen]
              · rw [a3, Array.toList_push, List.map_append, List.map_append, g2, e3]
                rfl
            · have hj : E[j]? = some e0 := by simpa using a3
              refine fin (E.modify j fun e => { e with key := .int .i64 k, val := a.eval x }) clock ?_ ?_
              · have h0 : (0 + j) = j := Nat.zero_add j
                rw [h0] at a1
                simp [Instr.mapUpdate, run_underlying hPt, MapKept.run_getObj_map g1, hck, MapKept.run_findKey hPk a1, hj, a4, hst, MapKept.run_setObj_map _ g1, Result.andThen]
              · rw [a5, Array.toList_modify, ChangeMaps.modify_eq_set _ _ _ _ a3, List.map_set, List.map_set, g2, e3]
          · cases hf
        · cases hf
      · cases hf
  · cases hf

/-! ### Two ints and two ints: are they the same -/
theorem run_equalIn_arr2 {P : Program} (w : World) (n : Nat) {t e : TypeId} {i : TypeInfo} (ht : P.underlying t = some (.array 2 e)) (he : P.underlying e = some (.int .i64)) (hi : P.info? e = some i) (hs : i.size = 1) (a b c d : Int) :
    (Op.equalIn (n + 2) t (.agg #[.int .i64 a, .int .i64 b]) (.agg #[.int .i64 c, .int .i64 d])).run P w = .ok (a == c && b == d) w := by
  have ha : (isAgg e).run P w = .ok false w := by simp [isAgg, run_underlying he, Result.andThen]
  have hsz : (Go.sizeOf e).run P w = .ok 1 w := by simp [Go.sizeOf, typeInfo, hi, hs]
  have p0 : ∀ (x y : Value), (part e #[x, y] 0).run P w = .ok x w := fun x y => by simp [part, ha, Result.andThen]
  have p1 : ∀ (x y : Value), (part e #[x, y] 1).run P w = .ok y w := fun x y => by simp [part, ha, Result.andThen]
  have q : ∀ (x y : Int), (Op.equalIn (n + 1) e (.int .i64 x) (.int .i64 y)).run P w = .ok (x == y) w := fun x y => run_equalIn_int w n e .i64 .i64 x y he
  rw [Op.equalIn]
  simp [run_underlying ht, Result.andThen, hsz, p0, q, List.range']
  by_cases h1 : a = c <;> by_cases h2 : b = d <;> simp [h1, h2, Result.andThen, p1, q]

noncomputable def rEq2 (neg : Bool) (x y : Src) (fb : RF) : RF := fun tm h =>
  match ev tm x, ev tm y with
  | .agg cx, .agg cy => match cx.toList, cy.toList with
    | [.int .i64 a, .int .i64 b], [.int .i64 c, .int .i64 d] => some (.bool (match neg with | true => !(a == c && b == d) | false => (a == c && b == d)))
    | _, _ => fb tm h
  | _, _ => fb tm h

theorem rEq2_ok {P : Program} {ty : Nat → Option XTy} (hT : TyOk P ty) {nt : Nat} {o : Oper} {neg : Bool} {t t' e : TypeId} {x y : Operand} {d de : XTy} {fb : RF} (ho : o.op = .binOp (if neg then .neq else .eql) t x y t')
    (hd : ty t = some d) (hu : d.u = .array 2 e) (hde : ty e = some de) (hi : de.u = .int .i64) (hz : de.size = 1) (hg : P.eqGuardType P.depth t = false) (hfb : RdOk P nt o fb) : RdOk P nt o (rEq2 neg (src nt x) (src nt y) fb) := by
  intro tm h v hf B ρ a w ht hh
  have hx := src_ok ht x
  have hy := src_ok ht y
  obtain ⟨ht', _⟩ := hT t d hd
  rw [hu] at ht'
  obtain ⟨he', i, i1, i2, _⟩ := hT e de hde
  rw [hi] at he'
  unfold rEq2 at hf
  split at hf
  · rename_i cx cy h1 h2
    split at hf
    · rename_i p q r s e1 e2
      cases hf
      have hcx : cx = #[.int .i64 p, .int .i64 q] := by apply Array.ext'; simpa using e1
      have hcy : cy = #[.int .i64 r, .int .i64 s] := by apply Array.ext'; simpa using e2
      subst hcx
      subst hcy
      have ex : a.eval x = .agg #[.int .i64 p, .int .i64 q] := by
        rw [h1] at hx
        exact hx.plain_eq (by simp [plain, scal])
      have ey : a.eval y = .agg #[.int .i64 r, .int .i64 s] := by
        rw [h2] at hy
        exact hy.plain_eq (by simp [plain, scal])
      refine ⟨_, .bool _, fun w' _ => ?_⟩
      have hq := run_equalIn_arr2 w' 9998 ht' he' i1 (i2.trans hz) p q r s
      have hgd : ∀ op : BinOp, (eqGuard op t x y (.agg #[.int .i64 p, .int .i64 q]) (.agg #[.int .i64 r, .int .i64 s])).run P w' = .ok () w' := fun op => run_eqGuard_agg w' op t x y _ _ hg
      cases neg with
      | true =>
        have hb := run_neq_struct (P := P) w' t #[.int .i64 p, .int .i64 q] #[.int .i64 r, .int .i64 s]
        rw [hq] at hb
        simp only [if_true] at ho
        simp only [execOp, ho, ex, ey, Sem.run_bind, hgd, Result.andThen_ok, hb, Sem.run_pure]
      | false =>
        have hb := run_eql_struct (P := P) w' t #[.int .i64 p, .int .i64 q] #[.int .i64 r, .int .i64 s]
        rw [hq] at hb
        simp only [Bool.false_eq_true, if_false] at ho
        simp only [execOp, ho, ex, ey, Sem.run_bind, hgd, Result.andThen_ok, hb, Sem.run_pure]
    · exact hfb tm h v hf B ρ a w ht hh
  · exact hfb tm h v hf B ρ a w ht hh

end Go.Xm
