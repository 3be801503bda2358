/- The abstract machine, between parts 6 and 7: maps with integer keys and plain values: made, looked up, written. Conditions: none; nothing here speaks of one program. -/
import Derived.Test.YtglkjlafglpalaaGreatDoorMv
import Derived.Maps.Keyed
import Derived.Laws.StructEq
import Derived.ChangeKeysEq
namespace Go.Xm
open Go.RowKit
def mfind : List (List Int × Value) → List Int → Option Value
 | [], _ => none
 | p :: t, k => if p.1 = k then some p.2 else mfind t k
def mput : List (List Int × Value) → List Int → Value → List (List Int × Value)
 | [], k, v => [(k, v)]
 | p :: t, k, v => if p.1 = k then (k, v) :: t else p :: mput t k v
def intsL : List Value → Option (List Int)
 | [] => some []
 | .int .i64 n :: t => match intsL t with
  | some l => some (n :: l)
  | none => none
 | _ => none
theorem intsL_eq : ∀ {vs : List Value} {l : List Int}, intsL vs = some l → vs = l.map fun n => Value.int .i64 n
 | [], l, h => by cases h; rfl
 | .int .i64 n :: t, l, h => by
  unfold intsL at h
  split at h
  ·rename_i l' e
   cases h
   rw [intsL_eq e]; rfl
  ·cases h
theorem ba_beq (a b : ByteArray) : (a == b) = decide (a = b) := by
 obtain ⟨a⟩ := a
 obtain ⟨b⟩ := b
 show (a == b) = _
 by_cases h : a = b
 ·subst h; simp
 ·simp [h]
def keyL : Value → Option (List Int)
 | .int .i64 n => some [n]
 | .string s => some (strK s)
 | .agg cs => match intsL cs.toList with
  | some l => match (Nat.beq l.length 1 || isStr l) with
   | true => none
   | false => some l
  | none => none
 | _ => none
theorem keyV_agg {l : List Int} (h : l.length ≠ 1) (hs : isStr l = false) : keyV l = .agg (l.map fun n => Value.int .i64 n).toArray := by
 match l, h with
 | [], _ => rfl
 | [_], h => exact absurd rfl h
 | x :: y :: t, _ =>
  show (match isStr (x :: y :: t) with
   | true => Value.string (unK (x :: y :: t))
   | false => .agg ((x :: y :: t).map fun n => Value.int .i64 n).toArray) = _
  rw [hs]
def fitK (n : Nat) (k : List Int) : Bool :=
 match n with
 | 0 => decide (k = strK (unK k))
 | n + 1 => Nat.beq k.length (n + 1) && !isStr k
theorem fitK_str (s : ByteArray) : fitK 0 (strK s) = true := decide_eq_true (by rw [unK_strK])
theorem fitK_zero {k : List Int} (h : fitK 0 k = true) : ∃ s, k = strK s := ⟨_, of_decide_eq_true h⟩
theorem fitK_pos {n : Nat} (hn : n ≠ 0) {k : List Int} (h : fitK n k = true) : k.length = n ∧ isStr k = false := by
 cases n with
 | zero => exact absurd rfl hn
 | succ n =>
  have h : (Nat.beq k.length (n + 1) && !isStr k) = true := h
  simp only [Bool.and_eq_true, Bool.not_eq_true'] at h
  exact ⟨Nat.eq_of_beq_eq_true h.1, h.2⟩
theorem keyL_eq {v : Value} {l : List Int} (h : keyL v = some l) : v = keyV l ∧ plain v = true := by
 unfold keyL at h
 split at h
 ·cases h; exact ⟨rfl, rfl⟩
 ·cases h; exact ⟨(keyV_str _).symm, rfl⟩
 ·rename_i cs
  split at h
  ·rename_i l' e
   split at h
   ·cases h
   ·rename_i hb
    cases h
    rw [Bool.or_eq_false_iff] at hb
    have hl : l.length ≠ 1 := fun q => by rw [q] at hb; cases hb.1
    have e' := intsL_eq e
    refine ⟨?_, ?_⟩
    ·rw [keyV_agg hl hb.2, ← e']
    ·show cs.toList.all scal = true
     rw [e', List.all_map]
     exact List.all_eq_true.2 (fun _ _ => rfl)
  ·cases h
 ·cases h
def KeyTy (P : Program) (key : TypeId) (n : Nat) : Prop :=
 (n = 1 ∧ P.underlying key = some (.int .i64)) ∨ (n = 0 ∧ P.underlying key = some .string) ∨ (n ≠ 1 ∧ n ≠ 0 ∧ ∃ e i, P.underlying key = some (.array n e) ∧ P.underlying e = some (.int .i64) ∧ P.info? e = some i ∧ i.size = 1)
theorem run_part_int {P : Program} (w : World) {e : TypeId} (he : P.underlying e = some (.int .i64)) (l : List Int) (j : Nat) (hj : j < l.length) : (part e (l.map fun n => Value.int .i64 n).toArray j).run P w = .ok (.int .i64 l[j]) w := by
 have ha : (isAgg e).run P w = .ok false w := by simp [isAgg, run_underlying he, Result.andThen]
 simp [part, ha, Result.andThen, List.getElem?_eq_getElem hj]
theorem run_checkKey_any {P : Program} (w : World) {key : TypeId} {n : Nat} (hk : KeyTy P key n) {l : List Int} (hf : fitK n l = true) (b : Bool) : (Instr.checkKey b 10000 key (keyV l)).run P w = .ok () w := by
 rcases hk with ⟨rfl, h⟩ | ⟨rfl, h⟩ | ⟨hn, hn0, e, i, h1, h2, h3, h4⟩
 ·have hl := (fitK_pos (by decide) hf).1
  match l, hl with
  | [k], _ => exact MapKept.run_checkKey h (show MapKept.IsKey (.int .i64) (.int .i64 k) from rfl) _ 9999
 ·obtain ⟨s, rfl⟩ := fitK_zero hf
  rw [keyV_str]
  exact MapKept.run_checkKey h (show MapKept.IsKey .string (.string s) from trivial) _ 9999
 ·have hl := (fitK_pos hn0 hf).1
  rw [keyV_agg (by omega) (fitK_pos hn0 hf).2]
  have hsz : (Go.sizeOf e).run P w = .ok 1 w := by simp [Go.sizeOf, typeInfo, h3, h4]
  have hin : ∀ k : Int, (Instr.checkKey b 9999 e (.int .i64 k)).run P w = .ok () w := fun k => MapKept.run_checkKey h2 (show MapKept.IsKey (.int .i64) (.int .i64 k) from rfl) _ 9998
  rw [Instr.checkKey]
  simp only [Sem.run_bind, run_underlying h1, Result.andThen_ok, Std.Legacy.Range.forIn_eq_forIn_range', Std.Legacy.Range.size, Nat.sub_zero, Nat.add_one_sub_one, Nat.div_one]
  have hr : ∀ j ∈ List.range' 0 n 1, j < n := fun j hj => by simpa using (List.mem_range'_1.1 hj).2
  generalize List.range' 0 n 1 = is at hr ⊢
  induction is with
  | nil => simp
  | cons j is ih =>
   have hj : j < l.length := by have := hr j (by simp); omega
   have hp := run_part_int w h2 l j hj
   simp only [List.forIn_cons, Sem.run_bind, hsz, Result.andThen_ok, Nat.mul_one, hp, hin, Sem.run_pure]
   exact ih fun k hk => hr k (by simp [hk])
theorem run_eqItems_int {P : Program} (w : World) {e : TypeId} (he : P.underlying e = some (.int .i64)) (d : Nat) (a b : List Int) (hl : a.length = b.length) : ∀ is : List Nat, (∀ j ∈ is, j < a.length) →
 (Op.eqItems (d + 1) e 1 (a.map fun n => Value.int .i64 n).toArray (b.map fun n => Value.int .i64 n).toArray is).run P w = .ok (is.all fun j => a.getD j 0 == b.getD j 0) w
 | [], _ => by simp [Op.eqItems]
 | j :: is, h => by
  have hj := h j (by simp)
  have pa := run_part_int w he a j hj
  have pb := run_part_int w he b j (by omega)
  have pe : (Op.equalIn (d + 1) e (.int .i64 a[j]) (.int .i64 b[j])).run P w = .ok (a[j] == b[j]) w := run_equalIn_int w d e .i64 .i64 _ _ he
  have ga : a.getD j 0 = a[j] := by simp [hj]
  have gb : b.getD j 0 = b[j] := by simp [show j < b.length by omega]
  rw [Op.eqItems]
  simp only [Nat.mul_one, Sem.run_bind, pa, Result.andThen_ok, pb, pe, List.all_cons, ga, gb]
  cases hq : (a[j] == b[j]) with
  | false => simp
  | true =>
   simp only [Bool.not_true, Bool.false_eq_true, if_false, Bool.true_and]
   exact run_eqItems_int w he d a b hl is fun k hk => h k (by simp [hk])
theorem all_same {a b : List Int} (hl : a.length = b.length) : ((List.range a.length).all fun j => a.getD j 0 == b.getD j 0) = decide (a = b) := by
 by_cases e : a = b
 ·subst e; simp
 ·rw [decide_eq_false e]
  cases h : (List.range a.length).all fun j => a.getD j 0 == b.getD j 0 with
  | false => rfl
  | true =>
   refine absurd (List.ext_getElem hl fun j h1 h2 => ?_) e
   have := List.all_eq_true.1 h j (List.mem_range.2 h1)
   simpa [h1, h2] using this
theorem run_equal_key {P : Program} (w : World) {key : TypeId} {n : Nat} (hn : n ≠ 1) (hn0 : n ≠ 0) (hk : KeyTy P key n) {a b : List Int} (ha : fitK n a = true) (hb : fitK n b = true) : (Op.equal key (keyV a) (keyV b)).run P w = .ok (decide (a = b)) w := by
 rcases hk with ⟨h, _⟩ | ⟨h, _⟩ | ⟨_, _, e, i, h1, h2, h3, h4⟩
 ·exact absurd h hn
 ·exact absurd h hn0
 ·obtain ⟨ha, ha'⟩ := fitK_pos hn0 ha
  obtain ⟨hb, hb'⟩ := fitK_pos hn0 hb
  rw [keyV_agg (by omega) ha', keyV_agg (by omega) hb']
  have hc : P.cellsOf e = 1 := by simp [Program.cellsOf, h3, h4]
  show (Op.equalIn (9999 + 1) key _ _).run P w = _
  rw [run_equalIn_array w 9999 _ _ h1 h3, hc, run_eqItems_int w h2 9998 a b (by omega) (List.range n) (fun j hj => by rw [List.mem_range] at hj; omega), ← all_same (by omega), ha]
theorem sameNow_key {T : TypeDesc} {n : Nat} (hT : (T = .int .i64 ∧ n = 1) ∨ (T = .string ∧ n = 0)) {k l : List Int} (hk : fitK n k = true) (hl : fitK n l = true) : Instr.sameNow T (keyV k) (keyV l) = some (decide (l = k)) := by
 rcases hT with ⟨rfl, rfl⟩ | ⟨rfl, rfl⟩
 ·have hk := (fitK_pos (by decide) hk).1
  have hl := (fitK_pos (by decide) hl).1
  match k, l, hk, hl with
  | [x], [y], _, _ =>
   by_cases q : y = x
   ·simp [Instr.sameNow, keyV, q]
   ·simp [Instr.sameNow, keyV, q]
    exact fun z => q z.symm
 ·obtain ⟨a, rfl⟩ := fitK_zero hk
  obtain ⟨b, rfl⟩ := fitK_zero hl
  rw [keyV_str, keyV_str]
  by_cases q : a = b
  ·subst q; simp [Instr.sameNow, ba_beq]
  ·have : ¬ strK b = strK a := fun e => q (strK_inj e).symm
   simp [Instr.sameNow, ba_beq, q, this]
theorem findNow_at {T : TypeDesc} {m : Nat} (hT : (T = .int .i64 ∧ m = 1) ∨ (T = .string ∧ m = 0)) (k : List Int) (hk : fitK m k = true) : ∀ (E : List MapEntry) (es : List (List Int × Value)) (n : Nat), E.map (fun e => (e.key, e.val)) = es.map (fun p => (keyV p.1, p.2)) → (∀ p ∈ es, fitK m p.1 = true) →
 (Instr.findNow T (keyV k) E n = some none ∧ mfind es k = none ∧ ∀ v, mput es k v = es ++ [(k, v)]) ∨
 ∃ j e0, Instr.findNow T (keyV k) E n = some (some (n + j, e0.val)) ∧ mfind es k = some e0.val ∧ E[j]? = some e0 ∧ e0.key = keyV k ∧ ∀ v, mput es k v = es.set j (k, v)
 | [], [], n, _, _ => .inl ⟨rfl, rfl, fun v => rfl⟩
 | [], p :: es, n, h, _ => by simp at h
 | e :: E, [], n, h, _ => by simp at h
 | e :: E, p :: es, n, h, hp => by
  simp only [List.map_cons, List.cons.injEq, Prod.mk.injEq] at h
  obtain ⟨⟨h1, h2⟩, h3⟩ := h
  have hl := hp p (List.mem_cons_self ..)
  have hs : Instr.sameNow T (keyV k) e.key = some (decide (p.1 = k)) := by
   rw [h1]
   exact sameNow_key hT hk hl
  by_cases hkk : p.1 = k
  ·rw [decide_eq_true hkk] at hs
   refine .inr ⟨0, e, ?_, by simp [mfind, hkk, h2], rfl, by rw [h1, hkk], fun v => by simp [mput, hkk]⟩
   rw [Instr.findNow, hs]
   rfl
  ·rw [decide_eq_false hkk] at hs
   have hf : Instr.findNow T (keyV k) (e :: E) n = Instr.findNow T (keyV k) E (n + 1) := by
    rw [Instr.findNow, hs]
   rcases findNow_at hT k hk E es (n + 1) h3 (fun q hq => hp q (List.mem_cons_of_mem _ hq)) with ⟨a1, a2, a3⟩ | ⟨j, e0, a1, a2, a3, a4, a5⟩
   ·exact .inl ⟨hf.trans a1, by simp [mfind, hkk, a2], fun v => by simp [mput, hkk, a3]⟩
   ·exact .inr ⟨j + 1, e0, by rw [hf, a1, show n + 1 + j = n + (j + 1) by omega], by simp [mfind, hkk, a2], by simpa using a3, a4, fun v => by simp [mput, hkk, a5]⟩
theorem findAsk_at {P : Program} (w : World) {key : TypeId} {m : Nat} (hm : m ≠ 1) (hm0 : m ≠ 0) (hT : KeyTy P key m) (k : List Int) (hk : fitK m k = true) : ∀ (E : List MapEntry) (es : List (List Int × Value)) (n : Nat), E.map (fun e => (e.key, e.val)) = es.map (fun p => (keyV p.1, p.2)) → (∀ p ∈ es, fitK m p.1 = true) →
 ((Instr.findAsking key (keyV k) E n).run P w = .ok none w ∧ mfind es k = none ∧ ∀ v, mput es k v = es ++ [(k, v)]) ∨
 ∃ j e0, (Instr.findAsking key (keyV k) E n).run P w = .ok (some (n + j, e0.val)) w ∧ mfind es k = some e0.val ∧ E[j]? = some e0 ∧ e0.key = keyV k ∧ ∀ v, mput es k v = es.set j (k, v)
 | [], [], n, _, _ => .inl ⟨rfl, rfl, fun v => rfl⟩
 | [], p :: es, n, h, _ => by simp at h
 | e :: E, [], n, h, _ => by simp at h
 | e :: E, p :: es, n, h, hp => by
  simp only [List.map_cons, List.cons.injEq, Prod.mk.injEq] at h
  obtain ⟨⟨h1, h2⟩, h3⟩ := h
  have hl := hp p (List.mem_cons_self ..)
  have hs := run_equal_key w hm hm0 hT hk hl
  rw [← h1] at hs
  by_cases hkk : p.1 = k
  ·rw [decide_eq_true hkk.symm] at hs
   refine .inr ⟨0, e, ?_, by simp [mfind, hkk, h2], rfl, by rw [h1, hkk], fun v => by simp [mput, hkk]⟩
   rw [Instr.findAsking]
   simp only [Sem.run_bind, hs, Result.andThen_ok, if_true, Sem.run_pure, Nat.add_zero]
  ·rw [decide_eq_false (fun q => hkk q.symm)] at hs
   have hf : (Instr.findAsking key (keyV k) (e :: E) n).run P w = (Instr.findAsking key (keyV k) E (n + 1)).run P w := by
    rw [Instr.findAsking]
    simp only [Sem.run_bind, hs, Result.andThen_ok, Bool.false_eq_true, if_false]
   rcases findAsk_at w hm hm0 hT k hk E es (n + 1) h3 (fun q hq => hp q (List.mem_cons_of_mem _ hq)) with ⟨a1, a2, a3⟩ | ⟨j, e0, a1, a2, a3, a4, a5⟩
   ·exact .inl ⟨hf.trans a1, by simp [mfind, hkk, a2], fun v => by simp [mput, hkk, a3]⟩
   ·exact .inr ⟨j + 1, e0, by rw [hf, a1, show n + 1 + j = n + (j + 1) by omega], by simp [mfind, hkk, a2], by simpa using a3, a4, fun v => by simp [mput, hkk, a5]⟩
theorem findKey_at {P : Program} (w : World) {key : TypeId} {m : Nat} (hT : KeyTy P key m) (k : List Int) (hk : fitK m k = true) (E : List MapEntry) (es : List (List Int × Value)) (h : E.map (fun e => (e.key, e.val)) = es.map (fun p => (keyV p.1, p.2))) (hp : ∀ p ∈ es, fitK m p.1 = true) :
 ((Instr.findKey key (keyV k) E).run P w = .ok none w ∧ mfind es k = none ∧ ∀ v, mput es k v = es ++ [(k, v)]) ∨
 ∃ j e0, (Instr.findKey key (keyV k) E).run P w = .ok (some (j, e0.val)) w ∧ mfind es k = some e0.val ∧ E[j]? = some e0 ∧ e0.key = keyV k ∧ ∀ v, mput es k v = es.set j (k, v) := by
 have now : ∀ {T : TypeDesc}, ((T = .int .i64 ∧ m = 1) ∨ (T = .string ∧ m = 0)) → P.underlying key = some T → ((Instr.findKey key (keyV k) E).run P w = .ok none w ∧ mfind es k = none ∧ ∀ v, mput es k v = es ++ [(k, v)]) ∨
  ∃ j e0, (Instr.findKey key (keyV k) E).run P w = .ok (some (j, e0.val)) w ∧ mfind es k = some e0.val ∧ E[j]? = some e0 ∧ e0.key = keyV k ∧ ∀ v, mput es k v = es.set j (k, v) := by
  intro T hT' hu
  rcases findNow_at hT' k hk E es 0 h hp with ⟨a1, a2, a3⟩ | ⟨j, e0, a1, a2, a3, a4, a5⟩
  ·exact .inl ⟨MapKept.run_findKey hu a1, a2, a3⟩
  ·rw [Nat.zero_add] at a1
   exact .inr ⟨j, e0, MapKept.run_findKey hu a1, a2, a3, a4, a5⟩
 rcases hT with ⟨q, hu⟩ | ⟨q, hu⟩ | ⟨hm, hm0, e, i, h1, h2, h3, h4⟩
 ·exact now (.inl ⟨rfl, q⟩) hu
 ·exact now (.inr ⟨rfl, q⟩) hu
 ·have hT : KeyTy P key m := .inr (.inr ⟨hm, hm0, e, i, h1, h2, h3, h4⟩)
  have hfind : (Instr.findKey key (keyV k) E).run P w = (Instr.findAsking key (keyV k) E 0).run P w := by
   unfold Instr.findKey
   simp only [Sem.run_bind, run_underlying h1, Result.andThen_ok]
   cases E with
   | nil => simp [Instr.findNow, Instr.findAsking]
   | cons e E =>
    rw [Instr.findNow]
    simp [Instr.sameNow]
  rcases findAsk_at w hm hm0 hT k hk E es 0 h hp with ⟨a1, a2, a3⟩ | ⟨j, e0, a1, a2, a3, a4, a5⟩
  ·exact .inl ⟨hfind.trans a1, a2, a3⟩
  ·rw [Nat.zero_add] at a1
   exact .inr ⟨j, e0, hfind.trans a1, a2, a3, a4, a5⟩
theorem run_keyThatStays_any {P : Program} (w : World) {n : Nat} (l : List Int) (hf : fitK n l = true) : (Instr.keyThatStays (keyV l) (keyV l)).run P w = .ok (keyV l) w := by
 have hb : Instr.sameBits 10000 (keyV l) (keyV l) = true := by
  by_cases e : l.length = 1
  ·match l, e with
   | [k], _ => simp [keyV, Instr.sameBits]
  ·by_cases hn : n = 0
   ·subst hn
    obtain ⟨s, rfl⟩ := fitK_zero hf
    rw [keyV_str]
    simp [Instr.sameBits, ba_beq]
   rw [keyV_agg e (fitK_pos hn hf).2, Instr.sameBits]
   have : ∀ vs : List Int, ((vs.map fun n => Value.int .i64 n).zip (vs.map fun n => Value.int .i64 n)).all (fun x => Instr.sameBits 9999 x.1 x.2) = true := by
    intro vs
    induction vs with
    | nil => rfl
    | cons v vs ih => simp only [List.map_cons, List.zip_cons_cons, List.all_cons, ih, Bool.and_true]; simp [Instr.sameBits]
   simp [this]
 simp [Instr.keyThatStays, hb]
theorem mfind_pl1 {es : List (List Int × Value)} (h : es.all (fun p => pl1 p.2) = true) {k : List Int} {u : Value} (hf : mfind es k = some u) : pl1 u = true := by
 induction es with
 | nil => cases hf
 | cons p es ih =>
  simp only [List.all_cons, Bool.and_eq_true] at h
  simp only [mfind] at hf
  split at hf
  ·cases hf; exact h.1
  ·exact ih h.2 hf
theorem mput_pl1 {es : List (List Int × Value)} (h : es.all (fun p => pl1 p.2) = true) (k : List Int) {u : Value} (hu : pl1 u = true) : (mput es k u).all (fun p => pl1 p.2) = true := by
 induction es with
 | nil => simp [mput, hu]
 | cons p es ih =>
  simp only [List.all_cons, Bool.and_eq_true] at h
  simp only [mput]
  split
  ·simp [hu]; simpa using h.2
  ·simp only [List.all_cons, Bool.and_eq_true]; exact ⟨h.1, ih h.2⟩
noncomputable def eMakeMap : EF := fun _ h c => some (.map (some c), (c, .imap []) :: h, c + 1)
theorem eMakeMap_ok {P : Program} {nt : Nat} {o : Oper} {t : TypeId} (ho : o.op = .makeMap t none) : EfOk P nt o eMakeMap := by
 intro tm h c v h' c' hf B ρ a w ht hh hc hB
 unfold eMakeMap at hf
 cases hf
 subst hc
 refine ⟨.map (some w.heap.size), w.alloc (.map #[] 0), ρ ++ [⟨w.heap.size, 0, 0, 0⟩], .inl ?_, ?_, Rho.le_push _ _, by simp, ?_, below_alloc hB _⟩
 ·simp [execOp, ho, Instr.makeMap]
 ·exact .map ρ.length ⟨w.heap.size, 0, 0, 0⟩ (by simp)
 ·exact hh.new hB (Nat.le_refl _) (fun k hk => heap_old w _ hk) ⟨rfl, rfl, #[], 0, heap_new w _, rfl, rfl, ⟨by simp, by simp⟩⟩
def lens (n : Nat) (es : List (List Int × Value)) : Bool := es.all fun p => fitK n p.1
theorem lens_ok {n : Nat} {es : List (List Int × Value)} (h : lens n es = true) : ∀ p ∈ es, fitK n p.1 = true := fun p hp => List.all_eq_true.1 h p hp
noncomputable def rLookup (n : Nat) (x i : Src) (z : Value) (ok : Bool) : RF := fun tm h =>
 match ev tm x with
 | .map (some r) => match hget h r with
  | some (.imap es) => match keyL (ev tm i) with
   | some k => match (fitK n k && lens n es) with
    | true => match pl1 z with
     | true => match ok with
      | true => some (.tuple #[(mfind es k).getD z, .bool (mfind es k).isSome])
      | false => some ((mfind es k).getD z)
     | false => none
    | false => none
   | none => none
  | _ => none
 | _ => none
theorem rLookup_ok {P : Program} {ty : Nat → Option XTy} (hT : TyOk P ty) {nt : Nat} {o : Oper} {t key elem : TypeId} {x i : Operand} {ok : Bool} {d de : XTy} {n : Nat} (ho : o.op = .lookup t x i ok) (hd : ty t = some d) (hu : d.u = .map key elem)
 (hkt : KeyTy P key n) (he : ty elem = some de) : RdOk P nt o (rLookup n (src nt x) (src nt i) de.zero ok) := by
 intro tm h v hf B ρ a w ht hh
 have hx := src_ok ht x
 have hi := src_ok ht i
 unfold rLookup at hf
 split at hf
 ·rename_i r hp
  rw [hp] at hx
  generalize e1 : a.eval x = x' at hx
  cases hx with
  | map r L hL =>
   split at hf
   ·rename_i es hg
    split at hf
    ·rename_i k hq
     split at hf
     ·rename_i hln
      simp only [Bool.and_eq_true] at hln
      have hkl := hln.1
      have hel := lens_ok hln.2
      obtain ⟨hq1, hq2⟩ := keyL_eq hq
      have e2 : a.eval i = keyV k := (hi.plain_eq hq2).trans hq1
      obtain ⟨_, _, _, E, clock, g1, g2, g3, _⟩ := hh.at hg hL
      have hlt : L.b < w.heap.size := (Array.getElem?_eq_some_iff.1 g1).1
      have hPt : P.underlying t = some (.map key elem) := by rw [(hT t d hd).1, hu]
      have run : ∀ w', Below w.heap.size w w' → (Instr.lookup t (.map (some L.b)) (keyV k) ok).run P w' = .ok (if ok then .tuple #[(mfind es k).getD de.zero, .bool (mfind es k).isSome] else (mfind es k).getD de.zero) w' := by
       intro w' b
       have hb : w'.heap[L.b]? = some (.map E clock) := by rw [b.block _ hlt]; exact g1
       have hck : (Instr.checkKey E.isEmpty 10000 key (keyV k)).run P w' = .ok () w' := run_checkKey_any w' hkt hkl _
       rcases findKey_at w' hkt k hkl E.toList es g2 hel with ⟨a1, a2, _⟩ | ⟨j, e0, a1, a2, _⟩
       ·simp [Instr.lookup, run_underlying hPt, MapKept.run_getObj_map hb, hck, a1, hT.zero he, Result.andThen, a2]
       ·simp [Instr.lookup, run_underlying hPt, MapKept.run_getObj_map hb, hck, a1, Result.andThen, a2]
      split at hf
      ·rename_i hz
       have hs : pl1 ((mfind es k).getD de.zero) = true := by
        cases hm : mfind es k with
        | none => exact hz
        | some u => exact mfind_pl1 g3 hm
       split at hf
       ·cases hf
        refine ⟨_, VRel.plain_refl ρ ?_, fun w' b => by simp [execOp, ho, e1, e2, run w' b]⟩
        show [(mfind es k).getD de.zero, .bool (mfind es k).isSome].all pl1 = true
        rw [List.all_cons, hs]
        rfl
       ·cases hf
        exact ⟨_, VRel.pl1_refl ρ hs, fun w' b => by simp [execOp, ho, e1, e2, run w' b]⟩
      ·cases hf
     ·cases hf
    ·cases hf
   ·cases hf
 ·cases hf
noncomputable def eMapUpdate (n : Nat) (m i x : Src) : EF := fun tm h c =>
 match ev tm m with
 | .map (some r) => match hget h r with
  | some (.imap es) => match keyL (ev tm i) with
   | some k => match (fitK n k && lens n es) with
    | true => match pl1 (ev tm x) with
     | true => some (undef, hset h r (.imap (mput es k (ev tm x))), c)
     | false => none
    | false => none
   | none => none
  | _ => none
 | _ => none
theorem below_setBlock {B : Bd} {w : World} {g : Nat} (hg : B.may g) (o : Obj) : Bel B w { w with heap := w.heap.setIfInBounds g o } :=
 ⟨rfl, rfl, rfl, by simp, fun k hk => by rw [Array.getElem?_setIfInBounds_ne (fun q => hk (by rw [← q]; exact hg))]⟩
theorem eMapUpdate_ok {P : Program} {ty : Nat → Option XTy} (hT : TyOk P ty) {nt : Nat} {o : Oper} {t key elem : TypeId} {m i x : Operand} {d : XTy} {n : Nat} (ho : o.op = .mapUpdate t m i x) (hd : ty t = some d) (hu : d.u = .map key elem)
 (hkt : KeyTy P key n) : EfOk P nt o (eMapUpdate n (src nt m) (src nt i) (src nt x)) := by
 intro tm h c v h' c' hf B ρ a w ht hh hc hB
 have hm := src_ok ht m
 have hi := src_ok ht i
 have hx := src_ok ht x
 unfold eMapUpdate at hf
 split at hf
 ·rename_i r hp
  rw [hp] at hm
  generalize e1 : a.eval m = x' at hm
  cases hm with
  | map r L hL =>
   split at hf
   ·rename_i es hg
    split at hf
    ·rename_i k hq
     split at hf
     ·rename_i hln
      simp only [Bool.and_eq_true] at hln
      have hkl := hln.1
      have hel := lens_ok hln.2
      obtain ⟨hq1, hq2⟩ := keyL_eq hq
      have e2 : a.eval i = keyV k := (hi.plain_eq hq2).trans hq1
      split at hf
      ·rename_i hs
       cases hf
       have e3 : a.eval x = ev tm (src nt x) := hx.pl1_eq hs
       obtain ⟨hLB0, hsh, hes, E, clock, g1, g2, g3, g4⟩ := hh.at hg hL
       have hLB := hLB0 rfl (fun q => q.1 hes)
       have hPt : P.underlying t = some (.map key elem) := by rw [(hT t d hd).1, hu]
       have hck : (Instr.checkKey false 10000 key (keyV k)).run P w = .ok () w := run_checkKey_any w hkt hkl _
       have hst : (Instr.keyThatStays (keyV k) (keyV k)).run P w = .ok (keyV k) w := run_keyThatStays_any w k hkl
       have hall := mput_pl1 g3 k hs
       have fin : ∀ E' clock', (Instr.mapUpdate t (.map (some L.b)) (keyV k) (a.eval x)).run P w = .ok () { w with heap := w.heap.setIfInBounds L.b (.map E' clock') } →
        E'.toList.map (fun e => (e.key, e.val)) = (mput es k (ev tm (src nt x))).map (fun p => (keyV p.1, p.2)) → Stm E' clock' → EfPost P o B ρ a w undef (hset h r (.imap (mput es k (ev tm (src nt x))))) ρ.length := by
        intro E' clock' hr hE hS
        obtain ⟨s1, s2⟩ := MapKept.heap_set (o' := .map E' clock') g1
        refine ⟨undef, { w with heap := w.heap.setIfInBounds L.b (.map E' clock') }, ρ, .inr ⟨?_, rfl⟩, VRel.undef ρ, Rho.le_refl ρ, rfl, ?_, below_setBlock hLB _⟩
        ·simp [execOp, ho, e1, e2, hr]
        ·exact hh.set hg hL (fun q => q.1 hes) hLB (fun k' _ hk' => s2 k' hk') ⟨hsh, hes, E', clock', s1, hE, hall, hS⟩ rfl
       rw [← hc]
       rcases findKey_at w hkt k hkl E.toList es g2 hel with ⟨a1, a2, a3⟩ | ⟨j, e0, a1, a2, a3, a4, a5⟩
       ·refine fin (E.push { key := keyV k, val := a.eval x, born := clock }) (clock + 1) ?_ ?_ (stm_push g4 _ _)
        ·simp [Instr.mapUpdate, run_underlying hPt, MapKept.run_getObj_map g1, hck, a1, MapKept.run_setObj_map _ g1, Result.andThen]
        ·rw [a3, Array.toList_push, List.map_append, List.map_append, g2, e3]
         rfl
       ·have hj : E[j]? = some e0 := by simpa using a3
        refine fin (E.modify j fun e => { e with key := keyV k, val := a.eval x }) clock ?_ ?_ (stm_modify g4 _ _ (fun _ => rfl))
        ·simp [Instr.mapUpdate, run_underlying hPt, MapKept.run_getObj_map g1, hck, a1, hj, a4, hst, MapKept.run_setObj_map _ g1, Result.andThen]
        ·rw [a5, Array.toList_modify, ChangeMaps.modify_eq_set _ _ _ _ a3, List.map_set, List.map_set, g2, e3]
      ·cases hf
     ·cases hf
    ·cases hf
   ·cases hf
 ·cases hf
def mdel : List (List Int × Value) → List Int → List (List Int × Value)
 | [], _ => []
 | p :: t, k => if p.1 = k then t else p :: mdel t k
theorem mdel_none : ∀ {es : List (List Int × Value)} {k : List Int}, mfind es k = none → mdel es k = es
 | [], _, _ => rfl
 | p :: t, k, h => by
  unfold mfind at h
  split at h
  ·cases h
  ·rename_i e
   rw [mdel, if_neg e, mdel_none h]
theorem mdel_at : ∀ {es : List (List Int × Value)} {k : List Int} {j : Nat}, j < es.length → (∀ v, mput es k v = es.set j (k, v)) → mdel es k = es.eraseIdx j
 | [], k, j, hj, h => by simp at hj
 | p :: t, k, j, hj, h => by
  by_cases e : p.1 = k
  ·rw [mdel, if_pos e]
   cases j with
   | zero => rfl
   | succ j =>
    exfalso
    have h1 := h (.bool true)
    have h2 := h (.bool false)
    rw [mput, if_pos e, List.set_cons_succ] at h1 h2
    have h1 := (List.cons.inj h1).1
    have h2 := (List.cons.inj h2).1
    rw [← h2] at h1
    cases h1
  ·rw [mdel, if_neg e]
   cases j with
   | zero =>
    exfalso
    have h1 := h (.bool true)
    rw [mput, if_neg e, List.set_cons_zero] at h1
    exact e (congrArg Prod.fst (List.cons.inj h1).1)
   | succ j =>
    rw [List.eraseIdx_cons_succ]
    congr 1
    refine mdel_at (by simpa using hj) (fun v => ?_)
    have h1 := h v
    rw [mput, if_neg e, List.set_cons_succ] at h1
    exact (List.cons.inj h1).2
theorem mdel_pl1 {es : List (List Int × Value)} (h : es.all (fun p => pl1 p.2) = true) (k : List Int) : (mdel es k).all (fun p => pl1 p.2) = true := by
 induction es with
 | nil => rfl
 | cons p es ih =>
  simp only [List.all_cons, Bool.and_eq_true] at h
  simp only [mdel]
  split
  ·exact h.2
  ·simp only [List.all_cons, Bool.and_eq_true]; exact ⟨h.1, ih h.2⟩
theorem map_erase {α β : Type} (f : α → β) : ∀ (l : List α) (j : Nat), (l.eraseIdx j).map f = (l.map f).eraseIdx j
 | [], j => by cases j <;> rfl
 | a :: l, 0 => rfl
 | a :: l, j + 1 => by
  show f a :: (l.eraseIdx j).map f = f a :: (l.map f).eraseIdx j
  rw [map_erase f l j]
theorem stm_erase {E : Array MapEntry} {clock : Nat} (h : Stm E clock) (j : Nat) : Stm (E.eraseIdxIfInBounds j) clock := by
 have hl : (E.eraseIdxIfInBounds j).toList = E.toList.eraseIdx j := by simp
 refine ⟨fun x hx => ?_, ?_⟩
 ·rw [hl] at hx
  exact h.1 x (List.mem_of_mem_eraseIdx hx)
 ·rw [hl]
  rw [map_erase]
  exact (List.eraseIdx_sublist _ _).nodup h.2
noncomputable def eMapDelete (n : Nat) (m i : Src) : EF := fun tm h c =>
 match ev tm m with
 | .map (some r) => match hget h r with
  | some (.imap es) => match keyL (ev tm i) with
   | some k => match (fitK n k && lens n es) with
    | true => some (.tuple #[], hset h r (.imap (mdel es k)), c)
    | false => none
   | none => none
  | _ => none
 | _ => none
theorem eMapDelete_ok {P : Program} {ty : Nat → Option XTy} (hT : TyOk P ty) {nt : Nat} {o : Oper} {t t2 key elem : TypeId} {m i : Operand} {d : XTy} {n : Nat} (ho : o.op = .call { callee := .builtin .delete, args := #[m, i], argTypes := #[t, t2] }) (hd : ty t = some d) (hu : d.u = .map key elem)
 (hkt : KeyTy P key n) : EfOk P nt o (eMapDelete n (src nt m) (src nt i)) := by
 intro tm h c v h' c' hf B ρ a w ht hh hc hB
 have hm := src_ok ht m
 have hi := src_ok ht i
 have hex : ∀ {V W}, (Builtin.delete_ #[t, t2] o.type #[a.eval m, a.eval i]).run P w = .ok V W → (execOp a.eval o).run P w = .ok (.value V) W := by
  intro V W hr
  simp [execOp, ho, resolve, invoke, builtin, hr]
 unfold eMapDelete at hf
 split at hf
 ·rename_i r hp
  rw [hp] at hm
  generalize e1 : a.eval m = x' at hm hex
  cases hm with
  | map r L hL =>
   split at hf
   ·rename_i es hg
    split at hf
    ·rename_i k hq
     split at hf
     ·rename_i hln
      simp only [Bool.and_eq_true] at hln
      have hkl := hln.1
      have hel := lens_ok hln.2
      obtain ⟨hq1, hq2⟩ := keyL_eq hq
      have e2 : a.eval i = keyV k := (hi.plain_eq hq2).trans hq1
      rw [e2] at hex
      cases hf
      obtain ⟨hLB0, hsh, hes, E, clock, g1, g2, g3, g4⟩ := hh.at hg hL
      have hLB := hLB0 rfl (fun q => q.1 hes)
      have hPt : P.underlying t = some (.map key elem) := by rw [(hT t d hd).1, hu]
      have hck : (Instr.checkKey E.isEmpty 10000 key (keyV k)).run P w = .ok () w := run_checkKey_any w hkt hkl _
      have fin : ∀ E', (Builtin.delete_ #[t, t2] o.type #[.map (some L.b), keyV k]).run P w = .ok (.tuple #[]) { w with heap := w.heap.setIfInBounds L.b (.map E' clock) } →
       E'.toList.map (fun e => (e.key, e.val)) = (mdel es k).map (fun p => (keyV p.1, p.2)) → Stm E' clock → EfPost P o B ρ a w (.tuple #[]) (hset h r (.imap (mdel es k))) ρ.length := by
       intro E' hr hE hS
       obtain ⟨s1, s2⟩ := MapKept.heap_set (o' := .map E' clock) g1
       refine ⟨.tuple #[], { w with heap := w.heap.setIfInBounds L.b (.map E' clock) }, ρ, .inl (hex hr), VRel.undef ρ, Rho.le_refl ρ, rfl, ?_, below_setBlock hLB _⟩
       exact hh.set hg hL (fun q => q.1 hes) hLB (fun k' _ hk' => s2 k' hk') ⟨hsh, hes, E', clock, s1, hE, mdel_pl1 g3 k, hS⟩ rfl
      rw [← hc]
      rcases findKey_at w hkt k hkl E.toList es g2 hel with ⟨a1, a2, a3⟩ | ⟨j, e0, a1, a2, a3, a4, a5⟩
      ·refine fin E ?_ (by rw [mdel_none a2]; exact g2) g4
       simp [Builtin.delete_, run_underlying hPt, MapKept.run_getObj_map g1, hck, a1, MapKept.run_setObj_map _ g1, Result.andThen]
      ·have hj : j < es.length := by
        have h1 := (List.getElem?_eq_some_iff.1 a3).1
        have h2 := congrArg List.length g2
        simp only [List.length_map] at h2
        omega
       refine fin (E.eraseIdxIfInBounds j) ?_ ?_ (stm_erase g4 j)
       ·simp [Builtin.delete_, run_underlying hPt, MapKept.run_getObj_map g1, hck, a1, MapKept.run_setObj_map _ g1, Result.andThen]
       ·have hl : (E.eraseIdxIfInBounds j).toList = E.toList.eraseIdx j := by simp
        rw [mdel_at hj a5, map_erase, ← g2, hl, map_erase]
     ·cases hf
    ·cases hf
   ·cases hf
 ·cases hf
noncomputable def eMapClear (m : Src) : EF := fun tm h c =>
 match ev tm m with
 | .map (some r) => match hget h r with
  | some (.imap _) => some (.tuple #[], hset h r (.imap []), c)
  | _ => none
 | _ => none
theorem eMapClear_ok {P : Program} {ty : Nat → Option XTy} (hT : TyOk P ty) {nt : Nat} {o : Oper} {x : Operand} {t key elem : TypeId} {d : XTy} (ho : o.op = .call { callee := .builtin .clear, args := #[x], argTypes := #[t] })
 (hd : ty t = some d) (hu : d.u = .map key elem) : EfOk P nt o (eMapClear (src nt x)) := by
 intro tm h c v h' c' hf B ρ a w ht hh hc hB
 have hx := src_ok ht x
 have hun := hT.und hd w
 have hex : ∀ {V W}, (Builtin.clear_ #[t] o.type #[a.eval x]).run P w = .ok V W → (execOp a.eval o).run P w = .ok (.value V) W := by
  intro V W hr
  simp [execOp, ho, resolve, invoke, builtin, hr]
 unfold eMapClear at hf
 split at hf
 ·rename_i r hp
  rw [hp] at hx
  generalize e1 : a.eval x = x' at hx hex
  cases hx with
  | map r L hL =>
   split at hf
   ·rename_i es hg
    cases hf
    obtain ⟨hLB0, hsh, hes, E, clock, g1, g2, g3, g4⟩ := hh.at hg hL
    have hLB := hLB0 rfl (fun q => q.1 hes)
    obtain ⟨s1, s2⟩ := MapKept.heap_set (o' := .map #[] clock) g1
    refine ⟨.tuple #[], { w with heap := w.heap.setIfInBounds L.b (.map #[] clock) }, ρ, .inl (hex ?_), VRel.undef ρ, Rho.le_refl ρ, hc, ?_, below_setBlock hLB _⟩
    ·simp [Builtin.clear_, hun, hu, MapKept.run_getObj_map g1, MapKept.run_setObj_map _ g1, Result.andThen]
    ·exact hh.set hg hL (fun q => q.1 hes) hLB (fun k' _ hk' => s2 k' hk') ⟨hsh, hes, #[], clock, s1, rfl, rfl, ⟨fun x hx => by simp at hx, by simp⟩⟩ rfl
   ·cases hf
 ·cases hf
def zok (z : Value) : Bool := closedV z || (match z with | .agg cs => cs.toList.all closedV | _ => false)
theorem zok_rel (ρ : Rho) {z : Value} (h : zok z = true) : VRel ρ z z := by
 unfold zok at h
 rw [Bool.or_eq_true] at h
 rcases h with h | h
 ·exact VRel.closed_refl ρ h
 ·cases z with
  | agg cs =>
   refine .agg cs cs rfl (fun i v v' h1 h2 => ?_)
   rw [h1] at h2; cases h2
   have hm : v ∈ cs.toList := by
    obtain ⟨hi, rfl⟩ := Array.getElem?_eq_some_iff.1 h1
    simp
   exact VRel.closed_refl ρ (List.all_eq_true.1 h v hm)
  | _ => cases h
theorem VRel.two {ρ : Rho} {a b a' b' : Value} (h1 : VRel ρ a a') (h2 : VRel ρ b b') : VRel ρ (.tuple #[a, b]) (.tuple #[a', b']) := by
 refine .tuple _ _ rfl (fun i v v' e1 e2 => ?_)
 match i with
 | 0 => simp at e1 e2; subst e1; subst e2; exact h1
 | 1 => simp at e1 e2; subst e1; subst e2; exact h2
 | _ + 2 => simp at e1
noncomputable def rAssert (asserted : TypeId) (z : Value) (ok : Bool) (x : Src) : RF := fun tm _ =>
 match ev tm x with
 | .iface t v => match Nat.beq t asserted with
  | true => match ok with
   | true => some (.tuple #[v, .bool true])
   | false => some v
  | false => match (ok && zok z) with
   | true => some (.tuple #[z, .bool false])
   | false => none
 | .nilIface => match (ok && zok z) with
  | true => some (.tuple #[z, .bool false])
  | false => none
 | _ => none
theorem rAssert_ok {P : Program} {ty : Nat → Option XTy} (hT : TyOk P ty) {nt : Nat} {o : Oper} {t0 asserted : TypeId} {x : Operand} {ok : Bool} {d : XTy} (ho : o.op = .typeAssert x t0 asserted ok) (hd : ty asserted = some d) (hi : ifaceB d.u = false) :
 RdOk P nt o (rAssert asserted d.zero ok (src nt x)) := by
 apply RdOk.of_all
 intro tm h v hf B ρ a w ht hh
 have hx := src_ok ht x
 have hun := fun w' => hT.und hd w'
 have hzr := fun w' => hT.zero hd w'
 unfold rAssert at hf
 split at hf
 ·rename_i t u hp
  rw [hp] at hx
  generalize e1 : a.eval x = x' at hx
  cases hx with
  | iface _ _ u' hu =>
   split at hf
   ·rename_i hb
    have hb := Nat.eq_of_beq_eq_true hb
    subst hb
    split at hf
    ·cases hf
     refine ⟨_, hu.two (.bool true), fun w' => ?_⟩
     have q := hun w'
     cases hdu : d.u <;> rw [hdu] at hi q <;> first | (simp [ifaceB] at hi; done) | simp [execOp, ho, e1, Instr.typeAssert, q, Result.andThen]
    ·cases hf
     refine ⟨_, hu, fun w' => ?_⟩
     have q := hun w'
     cases hdu : d.u <;> rw [hdu] at hi q <;> first | (simp [ifaceB] at hi; done) | simp [execOp, ho, e1, Instr.typeAssert, q, Result.andThen]
   ·rename_i hb
    have hne : t ≠ asserted := fun q => by subst q; simp at hb
    split at hf
    ·rename_i hz
     simp only [Bool.and_eq_true] at hz
     obtain ⟨rfl, hz⟩ := hz
     cases hf
     refine ⟨_, (zok_rel ρ hz).two (.bool false), fun w' => ?_⟩
     have q := hun w'
     cases hdu : d.u <;> rw [hdu] at hi q <;> first | (simp [ifaceB] at hi; done) | simp [execOp, ho, e1, Instr.typeAssert, q, hzr w', hne, Result.andThen]
    ·cases hf
 ·rename_i hp
  rw [hp] at hx
  generalize e1 : a.eval x = x' at hx
  cases hx
  split at hf
  ·rename_i hz
   simp only [Bool.and_eq_true] at hz
   obtain ⟨rfl, hz⟩ := hz
   cases hf
   refine ⟨_, (zok_rel ρ hz).two (.bool false), fun w' => ?_⟩
   have q := hun w'
   cases hdu : d.u <;> rw [hdu] at hi q <;> first | (simp [ifaceB] at hi; done) | simp [execOp, ho, e1, Instr.typeAssert, q, hzr w', Result.andThen]
  ·cases hf
 ·cases hf
noncomputable def eClear (z : Array Value) (x : Src) : EF := fun tm h c =>
 match ev tm x with
 | .slice none _ _ => some (.tuple #[], h, c)
 | .slice (some ⟨i, off, _⟩) len _ => match len with
  | 0 => some (.tuple #[], h, c)
  | n + 1 => match hget h i with
   | some (.cells cs fz e es) =>
    match (Nat.ble 1 z.size && z.toList.all closedV && (bsBase z ((n + 1) * z.size)).toList.all one1 && Nat.ble fz off && Nat.ble (off + (n + 1) * z.size) cs.length) with
    | true => some (.tuple #[], hset h i (.cells (cs.take off ++ (bsBase z ((n + 1) * z.size)).toList ++ cs.drop (off + (n + 1) * z.size)) fz e es), c)
    | false => none
   | _ => none
 | _ => none
theorem eClear_ok {P : Program} {ty : Nat → Option XTy} (hT : TyOk P ty) {nt : Nat} {o : Oper} {x : Operand} {t e : TypeId} {d de : XTy} (ho : o.op = .call { callee := .builtin .clear, args := #[x], argTypes := #[t] })
 (hd : ty t = some d) (hu : d.u = .slice e) (hde : ty e = some de) : EfOk P nt o (eClear de.zero.cells (src nt x)) := by
 intro tm h c v h' c' hf B ρ a w ht hh hc hB
 have hx := src_ok ht x
 have hun := hT.und hd w
 have hzr := hT.zero hde w
 have hex : ∀ {V W}, (Builtin.clear_ #[t] o.type #[a.eval x]).run P w = .ok V W → (execOp a.eval o).run P w = .ok (.value V) W := by
  intro V W hr
  simp [execOp, ho, resolve, invoke, builtin, hr]
 unfold eClear at hf
 split at hf
 ·rename_i l k hp
  cases hf
  rw [hp] at hx
  generalize e1 : a.eval x = x' at hx hex
  cases hx
  exact ⟨.tuple #[], w, ρ, .inl (hex (by simp [Builtin.clear_, hun, hu])), VRel.undef ρ, Rho.le_refl ρ, hc, hh, Bel.refl B w⟩
 ·rename_i i off sp len cap hp
  rw [hp] at hx
  generalize e1 : a.eval x = x' at hx hex
  split at hf
  ·cases hf
   cases hx with
   | slice i off _ cap L o' cap' hL hz h0 h1 => exact ⟨.tuple #[], w, ρ, .inl (hex (by simp [Builtin.clear_, hun, hu])), VRel.undef ρ, Rho.le_refl ρ, hc, hh, Bel.refl B w⟩
   | sliceN i off L hL hes => exact ⟨.tuple #[], w, ρ, .inl (hex (by simp [Builtin.clear_, hun, hu])), VRel.undef ρ, Rho.le_refl ρ, hc, hh, Bel.refl B w⟩
   | zslice i off k a hk => cases a <;> exact ⟨.tuple #[], w, ρ, .inl (hex (by simp [Builtin.clear_, hun, hu])), VRel.undef ρ, Rho.le_refl ρ, hc, hh, Bel.refl B w⟩
  ·rename_i n
   split at hf
   ·rename_i cs fz el es hg
    split at hf
    ·rename_i hb
     cases hf
     simp only [Bool.and_eq_true, Nat.ble_eq] at hb
     obtain ⟨⟨⟨⟨b1, b2⟩, b3⟩, b4⟩, b5⟩ := hb
     cases hx with
     | slice i off _ cap L o' cap' hL hz h0 h1 =>
      have ho' : o' = L.sh + off := by
       rcases hz with q | q
       ·exact q
       ·exact absurd q.2 (Nat.succ_ne_zero n)
      subst ho'
      have hsz : (bsBase de.zero.cells ((n + 1) * de.zero.cells.size)).size = (n + 1) * de.zero.cells.size := by simp [bsBase]
      have hpos : 0 < (n + 1) * de.zero.cells.size := Nat.mul_pos (Nat.succ_pos n) b1
      have hcl : (bsBase de.zero.cells ((n + 1) * de.zero.cells.size)).toList.all closedV = true := bsBase_closed b2 _ (.inl b1)
      have hC := Cells.closed ρ hcl
      have hlen : (bsBase de.zero.cells ((n + 1) * de.zero.cells.size)).toList.length = (n + 1) * de.zero.cells.size := by simpa using hsz
      obtain ⟨w', r1, r2, r3⟩ := hh.setCells (P := P) hg hL hC (.inl (by intro q; subst q; simp at b5; omega)) (by intro q; rw [q] at hlen; simp at hlen; omega) (by rw [hlen]; exact b5) b4 (hC.one1 b3)
      refine ⟨.tuple #[], w', ρ, .inl (hex ?_), VRel.undef ρ, Rho.le_refl ρ, hc, ?_, r3⟩
      ·have hzc : Builtin.zeroCells de.zero.cells (n + 1) = bsBase de.zero.cells ((n + 1) * de.zero.cells.size) := bsBase_eq _ _
       simp [Builtin.clear_, hun, hu, hzr, hzc, r1]
      ·rw [hlen] at r2; exact r2
    ·cases hf
   ·cases hf
 ·cases hf
noncomputable def rSliceNil (neg : Bool) (x y : Src) : RF := fun tm h =>
 match ev tm y with
 | .slice none 0 0 => match ev tm x with
  | .slice none 0 0 => some (.bool (!neg))
  | .slice (some ⟨_, _, some (_ + 1)⟩) 0 0 => some (.bool neg)
  | .slice (some ⟨i, _, none⟩) _ cap => match cap with
   | _ + 1 => some (.bool neg)
   | 0 => match hget h i with
    | some (.cells _ _ _ 0) => some (.bool neg)
    | some (.cells (_ :: _) _ _ _) => some (.bool neg)
    | _ => none
  | _ => none
 | _ => none
theorem run_slice_nil {P : Program} {t e : TypeId} (ht : P.underlying t = some (.slice e)) (w : World) (a : Option Addr) (l c : Nat) (ha : a = none → l = 0 ∧ c = 0) (neg : Bool) :
 (binOp (if neg then .neq else .eql) t (.slice a l c) (.slice none 0 0)).run P w = .ok (.bool (a.isNone != neg)) w := by
 have he : (Op.equal t (.slice a l c) (.slice none 0 0)).run P w = .ok a.isNone w := by
  have h : ∀ d : Nat, (Op.equalIn (d + 1) t (.slice a l c) (.slice none 0 0)).run P w = .ok a.isNone w := by
   intro d
   cases a with
   | none =>
    obtain ⟨rfl, rfl⟩ := ha rfl
    simp [Op.equalIn, run_underlying ht]
   | some a => simp [Op.equalIn, run_underlying ht]
  simp [Op.equal, Op.maxDepth, h 9999]
 cases neg
 ·have : (binOp .eql t (.slice a l c) (.slice none 0 0)) = (do pure (.bool (← Op.equal t (.slice a l c) (.slice none 0 0)))) := by unfold binOp; rfl
  simp only [Bool.false_eq_true, if_false, this, Sem.run_bind, he, Result.andThen_ok, Sem.run_pure]
  simp
 ·have : (binOp .neq t (.slice a l c) (.slice none 0 0)) = (do pure (.bool (!(← Op.equal t (.slice a l c) (.slice none 0 0))))) := by unfold binOp; rfl
  simp only [if_true, this, Sem.run_bind, he, Result.andThen_ok, Sem.run_pure]
  simp
theorem rSliceNil_ok {P : Program} {ty : Nat → Option XTy} (hT : TyOk P ty) {nt : Nat} {o : Oper} {neg : Bool} {t t' e : TypeId} {x y : Operand} {d : XTy} (ho : o.op = .binOp (if neg then .neq else .eql) t x y t')
 (hd : ty t = some d) (hu : d.u = .slice e) : RdOk P nt o (rSliceNil neg (src nt x) (src nt y)) := by
 intro tm h v hf B ρ a w ht hh
 have hx := src_ok ht x
 have hy := src_ok ht y
 obtain ⟨ht', _⟩ := hT t d hd
 rw [hu] at ht'
 have hex : ∀ {p : Option Addr} {l c : Nat}, a.eval x = .slice p l c → a.eval y = .slice none 0 0 → (p = none → l = 0 ∧ c = 0) → ∀ w', (execOp a.eval o).run P w' = .ok (.value (.bool (p.isNone != neg))) w' := by
  intro p l c e1 e2 hp w'
  have hb := run_slice_nil ht' w' p l c hp neg
  have hg : (eqGuard (if neg then .neq else .eql) t x y (.slice p l c) (.slice none 0 0)).run P w' = .ok () w' := by
   unfold eqGuard
   cases neg <;> simp
  simp only [execOp, ho, e1, e2, Sem.run_bind, hg, Result.andThen_ok, hb, Sem.run_pure]
 unfold rSliceNil at hf
 split at hf
 ·rename_i h2
  rw [h2] at hy
  generalize e2 : a.eval y = y' at hy
  cases hy
  split at hf
  ·rename_i h1
   rw [h1] at hx
   generalize e1 : a.eval x = x' at hx
   cases hx
   cases hf
   exact ⟨.bool (!neg), .bool _, fun w' _ => by have := hex e1 e2 (fun _ => ⟨rfl, rfl⟩) w'; simpa using this⟩
  ·rename_i i o' k h1
   rw [h1] at hx
   generalize e1 : a.eval x = x' at hx
   cases hf
   cases hx with
   | zslice _ _ _ p hk =>
    cases p with
    | none => exact absurd (hk (Nat.succ_ne_zero k)) (by simp)
    | some p => exact ⟨.bool neg, .bool _, fun w' _ => by have := hex e1 e2 (fun q => by cases q) w'; simpa using this⟩
  ·rename_i i o' l cap h1
   rw [h1] at hx
   generalize e1 : a.eval x = x' at hx
   have key : (∃ L, ρ[i]? = some L ∧ ¬ L.gho) ∨ cap ≠ 0 → v = .bool neg → ∃ v', VRel ρ v v' ∧ ∀ w', Below w.heap.size w w' → (execOp a.eval o).run P w' = .ok (.value v') w' := by
    rintro hk rfl
    cases hx with
    | slice _ _ _ _ L o' cap' hL hz h0 h1 => exact ⟨.bool neg, .bool _, fun w' _ => by have := hex e1 e2 (fun q => by cases q) w'; simpa using this⟩
    | sliceN _ _ L hL hes =>
     rcases hk with ⟨M, m1, m2⟩ | hk
     ·rw [hL] at m1; cases m1
      exact absurd hes m2
     ·exact absurd rfl hk
   split at hf
   ·cases hf
    exact key (.inr (Nat.succ_ne_zero _)) rfl
   ·split at hf
    ·rename_i hg
     cases hf
     obtain ⟨L, l1, _, l3⟩ := hh.ok _ _ hg
     exact key (.inl ⟨L, l1, fun q => q.1 l3.1⟩) rfl
    ·rename_i hg
     cases hf
     obtain ⟨L, l1, _, l3⟩ := hh.ok _ _ hg
     refine key (.inl ⟨L, l1, fun q => ?_⟩) rfl
     obtain ⟨_, m | ⟨C, fr, _, _, m3, _⟩⟩ := l3
     ·cases m.2
     ·have := q.2
      simp only [List.length_cons] at m3
      omega
    ·cases hf
  ·cases hf
 ·cases hf
noncomputable def eqT : TypeDesc → Value → Value → Option Bool
 | .int _, .int k a, .int k' b => match sameK k k' with
  | true => some (a == b)
  | false => none
 | .bool, .bool a, .bool b => some (a == b)
 | .string, .string a, .string b => some (a.data.toList == b.data.toList)
 | _, _, _ => none
theorem eqT_run {P : Program} {u : TypeDesc} {a b : Value} {r : Bool} (h : eqT u a b = some r) {t : TypeId} (ht : P.underlying t = some u) (n : Nat) (w : World) : (Op.equalIn (n + 1) t a b).run P w = .ok r w := by
 unfold eqT at h
 split at h
 ·rename_i k k1 x k2 y
  split at h
  ·rename_i hk
   have := sameK_eq hk
   subst this
   cases h
   exact run_equalIn_int w n t k1 k x y ht
  ·cases h
 ·cases h
  exact run_equalIn_bool' w n t _ _ ht
 ·cases h
  rw [run_equalIn_string w n t _ _ ht, ByteArray.toList_eq, ByteArray.toList_eq]
 ·cases h
noncomputable def eqF (ty : Nat → Option XTy) (xs ys : List Value) (f : Field) : Option Bool :=
 match ty f.type with
 | some D => match xs[f.offset]?, ys[f.offset]? with
  | some v, some u => match aggB D.u with
   | true => none
   | false => eqT D.u v u
  | _, _ => none
 | none => none
noncomputable def eqFs (ty : Nat → Option XTy) (xs ys : List Value) : List Field → Option Bool
 | [] => some true
 | [f] => eqF ty xs ys f
 | f :: g :: l => match eqF ty xs ys f, eqFs ty xs ys (g :: l) with
  | some a, some b => some (a && b)
  | _, _ => none
theorem eqF_run {P : Program} {ty : Nat → Option XTy} (hT : TyOk P ty) {xs ys : Array Value} {f : Field} {r : Bool} (h : eqF ty xs.toList ys.toList f = some r) (n : Nat) (w : World) :
 ∃ a b, (part f.type xs f.offset).run P w = .ok a w ∧ (part f.type ys f.offset).run P w = .ok b w ∧ (Op.equalIn (n + 1) f.type a b).run P w = .ok r w := by
 unfold eqF at h
 split at h
 ·rename_i D hD
  split at h
  ·rename_i v u hv hu
   split at h
   ·cases h
   ·rename_i hag
    obtain ⟨h1, _⟩ := hT f.type D hD
    have ha := hT.isAgg hD w
    rw [hag] at ha
    have hv' : xs[f.offset]? = some v := by simpa using hv
    have hu' : ys[f.offset]? = some u := by simpa using hu
    exact ⟨v, u, by simp [part, ha, hv', Result.andThen], by simp [part, ha, hu', Result.andThen], eqT_run h h1 n w⟩
  ·cases h
 ·cases h
theorem eqFs_run {P : Program} {ty : Nat → Option XTy} (hT : TyOk P ty) {xs ys : Array Value} (n : Nat) (w : World) : ∀ (fs : List Field) (r : Bool), eqFs ty xs.toList ys.toList fs = some r → (fs.all fun f => f.name != "_") = true → (Op.eqFields (n + 1) xs ys fs).run P w = .ok r w
 | [], r, h, _ => by cases h; simp [Op.eqFields]
 | [f], r, h, hn => by
  obtain ⟨a, b, p1, p2, p3⟩ := eqF_run hT (show eqF ty xs.toList ys.toList f = some r from h) n w
  have h1 : f.name ≠ "_" := by simpa using hn
  simp only [Op.eqFields, if_pos h1, Sem.run_bind, p1, p2, p3, Result.andThen_ok, Sem.run_ite, Sem.run_pure]
  cases r <;> rfl
 | f :: g :: l, r, h, hn => by
  simp only [eqFs] at h
  split at h
  ·rename_i q1 q2 e1 e2
   cases h
   obtain ⟨a, b, p1, p2, p3⟩ := eqF_run hT e1 n w
   simp only [List.all_cons, Bool.and_eq_true] at hn
   have h1 : f.name ≠ "_" := by simpa using hn.1
   have ih := eqFs_run hT n w (g :: l) q2 e2 (by simp only [List.all_cons, Bool.and_eq_true]; exact hn.2)
   rw [Op.eqFields, if_pos h1]
   simp only [Sem.run_bind, p1, p2, p3, Result.andThen_ok, Sem.run_ite, Sem.run_pure]
   cases q1
   ·rfl
   ·rw [ih]; rfl
  ·cases h
noncomputable def rEqS (neg : Bool) (ty : Nat → Option XTy) (fs : List Field) (x y : Src) (fb : RF) : RF := fun tm h =>
 match ev tm x, ev tm y with
 | .agg cx, .agg cy => match (cx.toList.all scal && cy.toList.all scal) with
  | true => match eqFs ty cx.toList cy.toList fs with
   | some r => some (.bool (match neg with | true => !r | false => r))
   | none => fb tm h
  | false => fb tm h
 | _, _ => fb tm h
theorem rEqS_ok {P : Program} {ty : Nat → Option XTy} (hT : TyOk P ty) {nt : Nat} {o : Oper} {neg : Bool} {t t' : TypeId} {x y : Operand} {d : XTy} {fs : Array Field} {fb : RF} (ho : o.op = .binOp (if neg then .neq else .eql) t x y t')
 (hd : ty t = some d) (hu : d.u = .struct fs) (hn : (fs.toList.all fun f => f.name != "_") = true) (hp : P.stoodInHeld t = false) (hg : P.eqGuardType P.depth t = false) (hfb : RdOk P nt o fb) : RdOk P nt o (rEqS neg ty fs.toList (src nt x) (src nt y) fb) := by
 intro tm h v hf B ρ a w ht hh
 have hx := src_ok ht x
 have hy := src_ok ht y
 obtain ⟨ht', _⟩ := hT t d hd
 rw [hu] at ht'
 have hfo : P.fieldsOf t = fs := by simp only [Program.fieldsOf, ht']
 unfold rEqS at hf
 split at hf
 ·rename_i cx cy h1 h2
  split at hf
  ·rename_i hsc
   simp only [Bool.and_eq_true] at hsc
   split at hf
   ·rename_i r he
    cases hf
    have ex : a.eval x = .agg cx := by
     rw [h1] at hx
     exact hx.plain_eq (by simpa [plain] using hsc.1)
    have ey : a.eval y = .agg cy := by
     rw [h2] at hy
     exact hy.plain_eq (by simpa [plain] using hsc.2)
    refine ⟨_, .bool _, fun w' _ => ?_⟩
    have hq : (Op.equalIn 10000 t (.agg cx) (.agg cy)).run P w' = .ok r w' := by
     rw [run_equalIn_struct w' 9999 t cx cy (by rw [hfo]; exact ht') hp, hfo]
     exact eqFs_run hT 9998 w' _ _ he hn
    have hgd : ∀ op : BinOp, (eqGuard op t x y (.agg cx) (.agg cy)).run P w' = .ok () w' := fun op => run_eqGuard_agg w' op t x y _ _ hg
    cases neg with
    | true =>
     have hb := run_neq_struct (P := P) w' t cx cy
     rw [hq] at hb
     simp only [if_true] at ho
     simp only [execOp, ho, ex, ey, Sem.run_bind, hgd, Result.andThen_ok, hb, Sem.run_pure]
    | false =>
     have hb := run_eql_struct (P := P) w' t cx cy
     rw [hq] at hb
     simp only [Bool.false_eq_true, if_false] at ho
     simp only [execOp, ho, ex, ey, Sem.run_bind, hgd, Result.andThen_ok, hb, Sem.run_pure]
   ·exact hfb tm h v hf B ρ a w ht hh
  ·exact hfb tm h v hf B ρ a w ht hh
 ·exact hfb tm h v hf B ρ a w ht hh
noncomputable def rCap (x : Src) (fb : RF) : RF := fun tm h =>
 match ev tm x with
 | .slice none 0 0 => some (.int .i64 0)
 | _ => fb tm h
theorem rCap_ok {P : Program} {ty : Nat → Option XTy} (hT : TyOk P ty) {nt : Nat} {o : Oper} {t e : TypeId} {x : Operand} {d : XTy} {fb : RF} (ho : o.op = .call { callee := .builtin .cap, args := #[x], argTypes := #[t] })
 (hd : ty t = some d) (hu : d.u = .slice e) (hfb : RdOk P nt o fb) : RdOk P nt o (rCap (src nt x) fb) := by
 intro tm h v hf B ρ a w ht hh
 have hx := src_ok ht x
 unfold rCap at hf
 split at hf
 ·rename_i hp
  rw [hp] at hx
  generalize e1 : a.eval x = x' at hx
  cases hx
  cases hf
  refine ⟨.int .i64 0, .int _ _, fun w' _ => ?_⟩
  have hun := hT.und hd w'
  rw [hu] at hun
  simp [execOp, ho, resolve, invoke, builtin, e1, Builtin.cap_, hun, Result.andThen]
  rfl
 ·exact hfb tm h v hf B ρ a w ht hh
theorem hset_same : ∀ {h : Heap} {i : Nat} {o : XObj}, hget h i = some o → hset h i o = h
 | [], i, o, hg => by cases hg
 | p :: h, i, o, hg => by
  rw [hget_cons] at hg
  rw [hset_cons]
  split at hg
  ·rename_i e
   rw [if_pos e]
   cases hg
   subst e
   rfl
  ·rename_i e
   rw [if_neg e, hset_same hg]
noncomputable def rField (ty : Nat → Option XTy) (t k : Nat) (x : Src) (d : RF) : RF := fun tm h =>
 match d tm h with
 | some v => some v
 | none => match ev tm x with
  | .agg cs => match ty t with
   | some D => match D.u with
    | .struct fs => match fs[k]? with
     | some f => match ty f.type with
      | some Df => match aggB Df.u with
       | false => lget cs.toList f.offset
       | true => none
      | none => none
     | none => none
    | _ => none
   | none => none
  | _ => none
theorem rField_ok {P : Program} {ty : Nat → Option XTy} (hT : TyOk P ty) {nt : Nat} {o : Oper} {t k : Nat} {x : Operand} {d : RF} (ho : o.op = .field t x k) (hd : RdOk P nt o d) : RdOk P nt o (rField ty t k (src nt x) d) := by
 intro tm h v hf B ρ a w ht hh
 unfold rField at hf
 split at hf
 ·rename_i v0 hv
  cases hf
  exact hd tm h _ hv B ρ a w ht hh
 ·split at hf
  ·rename_i cs hp
   split at hf
   ·rename_i D hD
    split at hf
    ·rename_i fs hu
     split at hf
     ·rename_i f hk
      split at hf
      ·rename_i Df hDf
       split at hf
       ·rename_i hag
        have hx := src_ok ht x
        rw [hp] at hx
        generalize e1 : a.eval x = x' at hx
        cases hx with
        | agg c c' hc hr =>
         rw [lget_eq] at hf
         have hk1 : cs[f.offset]? = some v := by simpa using hf
         have hlt : f.offset < c'.size := by have := (Array.getElem?_eq_some_iff.1 hk1).1; omega
         have hk' : c'[f.offset]? = some (c'[f.offset]'hlt) := Array.getElem?_eq_getElem hlt
         have hun := fun w' => hT.und hD w'
         have hagg := fun w' => hT.isAgg hDf w'
         refine ⟨_, hr f.offset v _ hk1 hk', fun w' _ => ?_⟩
         simp [execOp, ho, e1, Instr.field, hun w', hu, hk, asAgg, part, hagg w', hag, hk']
       ·cases hf
      ·cases hf
     ·cases hf
    ·cases hf
   ·cases hf
  ·cases hf
end Go.Xm
