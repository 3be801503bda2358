/- What a line does to a book, as a function; the contract of Tell. Conditions: none. -/
import Derived.Test.YtglkjlafglpalaaGreatDoorEn
import Derived.Test.YtglkjlafglpalaaGreatDoorPc
namespace Go.Xm
open Go.RowKit
set_option linter.unusedVariables false
def doS (m : Nat) (n : Now) : Deed → Option (Int × Now)
 | .nop => none
 | .undo => none
 | .shut => cond (((n.keys.length : Nat) : Int) == 0) (some (20, n)) (some (0, { n with keys := [] }))
 | .closed => cond (decide (((n.keys.length : Nat) : Int) > 0)) (some (21, n)) (some (0, { n with year := w64 (n.year + 1) }))
 | .arrive d k w => cond (decide (k < 1)) (some (1, n)) (cond (decide (k > 999)) (some (1, n)) (cond (hasS n.bales d) (some (6, n))
  ((freeV m n.bays (List.map (fun p => p.2.2.1) n.bales) w).bind fun r => cond (r.2 == 0) (some (r.2, { n with came := w64 (n.came + k), bales := putS n.bales d (d, r.1, k) })) (some (r.2, n)))))
 | .move d w => cond (!(hasS n.bales d)) (some (8, n)) ((freeV m n.bays (List.map (fun p => p.2.2.1) (delS n.bales d)) w).bind fun r =>
  some (r.2, { n with bales := putS (delS n.bales d) d ((getS ((bs []), 0, 0) n.bales d).1, r.1, (getS ((bs []), 0, 0) n.bales d).2.2) }))
 | .take d k => cond (!(hasS n.bales d)) (some (8, n)) (cond (decide (k < 1)) (some (1, n)) (cond (decide (k > 999)) (some (1, n)) (cond (decide (k > (getS ((bs []), 0, 0) n.bales d).2.2)) (some (15, n))
  (cond ((w64 (((getS ((bs []), 0, 0) n.bales d).2.2) - k)) == 0)
   (some (0, { n with taken := w64 (n.taken + k), bales := delS (putS n.bales d ((getS ((bs []), 0, 0) n.bales d).1, (getS ((bs []), 0, 0) n.bales d).2.1, w64 (((getS ((bs []), 0, 0) n.bales d).2.2) - k))) d }))
   (some (0, { n with taken := w64 (n.taken + k), bales := putS n.bales d ((getS ((bs []), 0, 0) n.bales d).1, (getS ((bs []), 0, 0) n.bales d).2.1, w64 (((getS ((bs []), 0, 0) n.bales d).2.2) - k)) }))))))
 | .count d b k => cond (!(hasS n.bales d)) (some (8, n)) (cond (((getS ((bs []), 0, 0) n.bales d).2.2) != k) (some (17, n)) (some (0, n)))
 | .supply k => cond (k == 0) (some (1, n)) (some (0, { n with chest := w64 (n.chest + k) }))
 | .band k => cond (k == 0) (some (1, n)) (cond (decide ((w64 (n.chest - k)) < 0)) (some (15, n)) (some (0, { n with chest := w64 (n.chest - k), bond := w64 (n.bond + k) })))
 | .spoil k => cond (k == 0) (some (1, n)) (cond (decide ((w64 (n.chest - k)) < 0)) (some (15, n)) (some (0, { n with chest := w64 (n.chest - k), spoilt := w64 (n.spoilt + k) })))
 | .turn k => cond (decide (k ≥ 3)) (some (2, n)) (cond (getM false n.keys k) (some (6, n)) (some (0, { n with keys := putM n.keys k true })))
 | .leave k => cond (decide (k > 0)) (cond (decide (((n.keys.length : Nat) : Int) < 2)) (some (20, n)) (cond (k == 0) (some (1, n)) (cond (decide ((w64 (n.bond - k)) < 0)) (some (15, n)) (some (0, { n with bond := w64 (n.bond - k), out := w64 (n.out + k) })))))
  (cond (k == 0) (some (1, n)) (cond (decide ((w64 (n.bond - k)) < 0)) (some (15, n)) (some (0, { n with bond := w64 (n.bond - k), out := w64 (n.out + k) }))))
def endN (s : BkS) (a : ByteArray) (r : Int × Now) : Option (Int × BkS) :=
 cond (r.1 != 0) (some (r.1, s)) (cond (fitsB (s.before.length + 1) 80) (cond (fitsB (s.lines.length + 1) 16) (some (r.1, ⟨r.2, s.before ++ [s.now], s.lines ++ [a]⟩)) none) none)
def undoS (s : BkS) : Option (Int × BkS) :=
 cond (((s.lines.length : Nat) : Int) == 0) (some (4, s)) (cond (Nat.ble s.lines.length 1000000 && Nat.beq s.before.length s.lines.length) (some (0, ⟨(s.before.getLast?).getD s.now, s.before.dropLast, s.lines.dropLast⟩)) none)
def someS (m : Nat) (s : BkS) (a : ByteArray) (d : Deed) : Option (Int × BkS) :=
 cond (((s.lines.length : Nat) : Int) == 200) (some (19, s)) ((doS m s.now d).bind fun r => endN s a r)
def tellS (m : Nat) (s : BkS) (a : ByteArray) : Option (Int × BkS) :=
 cond (s.now.bays == 0) (some (11, s)) ((f53 m a).bind fun d => match d with
  | .nop => some (10, s)
  | .undo => undoS s
  | d => someS m s a d)
def RelO (s : BkS) (l : List Bst) (a : ByteArray) (x : Option (Int × Out)) (y : Option (Int × BkS)) : Prop :=
 ∀ e s', y = some (e, s') → ∃ o, x = some (e, o) ∧ nextS s a o = s' ∧ ∀ x n3 c3 n4 c4, o = .back x n3 c3 n4 c4 → l.getLast? = some x ∧ n3 + 1 = l.length ∧ n3 ≤ c3 ∧ n4 + 1 = s.lines.length ∧ n4 ≤ c4
theorem RelO.cond {s : BkS} {l : List Bst} {a : ByteArray} {c : Bool} {x x' : Option (Int × Out)} {y y' : Option (Int × BkS)} (h1 : RelO s l a x y) (h2 : RelO s l a x' y') : RelO s l a (_root_.cond c x x') (_root_.cond c y y') := by
 cases c with
 | true => exact h1
 | false => exact h2
theorem RelO.condB {β : Type} {s : BkS} {l : List Bst} {a : ByteArray} {c : Bool} {x x' : Option (Int × Out)} {y y' : Option β} {k : β → Option (Int × BkS)} (h1 : RelO s l a x (y.bind k)) (h2 : RelO s l a x' (y'.bind k)) : RelO s l a (_root_.cond c x x') ((_root_.cond c y y').bind k) := by
 cases c with
 | true => exact h1
 | false => exact h2
theorem RelO.bindB {α β : Type} {s : BkS} {l : List Bst} {a : ByteArray} {z : Option α} {x : α → Option (Int × Out)} {y : α → Option β} {k : β → Option (Int × BkS)} (h : ∀ r, RelO s l a (x r) ((y r).bind k)) : RelO s l a (z.bind x) ((z.bind y).bind k) := by
 cases z with
 | none => intro e s' q; cases q
 | some r => exact h r
theorem RelO.same {s : BkS} {l : List Bst} {a : ByteArray} {e : Int} : RelO s l a (some (e, .same)) (some (e, s)) := by
 intro e' s' q
 cases q
 exact ⟨.same, rfl, rfl, fun x n3 c3 n4 c4 q => by cases q⟩
theorem RelO.leaf {s : BkS} {l : List Bst} {a : ByteArray} (hl : FitN s.before l) {e c1 c2 c3 c4 c5 c6 c7 : Int} {bl : List (ByteArray × Bl)} {ks : List (Int × Bool)} {n' : Now} (hn : (e != 0) = false → n' = ⟨s.now.bays, c1, c2, c3, c4, c5, c6, c7, bl, ks⟩) :
 RelO s l a ((f19_end (bkT s l) a e c1 c2 c3 c4 c5 c6 c7 bl ks).bind fun r => some (e, r)) ((some (e, n')).bind fun r => endN s a r) := by
 intro e' s' q
 have q : endN s a (e, n') = some (e', s') := q
 unfold endN at q
 unfold f19_end
 have hlen : (bkT s l).before.length = s.before.length := hl.len.symm
 cases hc : (e != 0) with
 | true =>
  rw [hc] at q
  cases q
  exact ⟨.refuse, rfl, rfl, fun x n3 c3 n4 c4 q => by cases q⟩
 | false =>
  rw [hc, cond_false] at q
  rw [hlen, cond_false]
  have hlen2 : (bkT s l).lines.length = s.lines.length := rfl
  rw [hlen2]
  cases h1 : fitsB (s.before.length + 1) 80 with
  | false => rw [h1] at q; cases q
  | true =>
   rw [h1, cond_true] at q
   cases h2 : fitsB (s.lines.length + 1) 16 with
   | false => rw [h2] at q; cases q
   | true =>
    rw [h2, cond_true] at q
    cases q
    rw [hn hc]
    exact ⟨_, rfl, rfl, fun x n3 c3 n4 c4 q => by cases q⟩
theorem w64_in {x : Int} (h1 : -9223372036854775808 ≤ x) (h2 : x ≤ 9223372036854775807) : w64 x = x := IntWalk.i64_in _ ⟨h1, h2⟩
theorem w64_nat {n : Nat} (h : n ≤ 1000000) : w64 ((n : Int) + 1 - 1) = (n : Int) := by
 have : (n : Int) + 1 - 1 = n := by omega
 rw [this]
 exact w64_in (by omega) (by omega)
theorem RelO.undo {s : BkS} {l : List Bst} {a : ByteArray} (hl : FitN s.before l) : RelO s l a (_root_.cond ((((bkT s l).lines.length : Nat) : Int) == 0) (
 some (4, .same)
 ) (
  _root_.cond (inRow (w64 ((((bkT s l).lines.length : Nat) : Int) - 1)) (bkT s l).before.length) (
   _root_.cond (cutOK 0 (w64 ((((bkT s l).lines.length : Nat) : Int) - 1)) (((bkT s l).before.length : Nat) : Int) (bkT s l).before.length) (
    _root_.cond (cutOK 0 (w64 ((((bkT s l).lines.length : Nat) : Int) - 1)) (((bkT s l).lines.length : Nat) : Int) (bkT s l).lines.length) (
     some (0, .back (List.getD (bkT s l).before (Int.toNat (w64 ((((bkT s l).lines.length : Nat) : Int) - 1))) Bst.nil) (Int.toNat (w64 ((((bkT s l).lines.length : Nat) : Int) - 1))) (bkT s l).before.length (Int.toNat (w64 ((((bkT s l).lines.length : Nat) : Int) - 1))) (bkT s l).lines.length)
    ) none
   ) none
  ) none
 )) (undoS s) := by
 have e1 : (bkT s l).lines = s.lines := rfl
 have e2 : (bkT s l).before = l := rfl
 rw [e1, e2]
 unfold undoS
 intro e s' q
 cases hc : (((s.lines.length : Nat) : Int) == 0) with
 | true => rw [hc] at q; cases q; exact ⟨.same, rfl, rfl, fun x n3 c3 n4 c4 q => by cases q⟩
 | false =>
  rw [hc, cond_false] at q
  cases hd : (Nat.ble s.lines.length 1000000 && Nat.beq s.before.length s.lines.length) with
  | false => rw [hd] at q; cases q
  | true =>
   rw [hd, cond_true] at q
   cases q
   simp only [Bool.and_eq_true] at hd
   have hb := Nat.le_of_ble_eq_true hd.1
   have he := Nat.eq_of_beq_eq_true hd.2
   have hll := hl.len
   have hne : s.lines.length ≠ 0 := fun q => by rw [q] at hc; cases hc
   obtain ⟨n, hn⟩ : ∃ n, s.lines.length = n + 1 := ⟨s.lines.length - 1, by omega⟩
   have hln : l.length = n + 1 := by omega
   have hw : w64 (((s.lines.length : Nat) : Int) - 1) = (n : Int) := by
    rw [hn]
    have := w64_nat (n := n) (by omega)
    rw [← this]
    congr 1
   rw [hw, hn, hln]
   have i1 : inRow (n : Int) (n + 1) = true := inRow_iff.2 ⟨by omega, by omega⟩
   have i2 : cutOK 0 (n : Int) ((n + 1 : Nat) : Int) (n + 1) = true := by
    simp only [cutOK, Bool.and_eq_true, decide_eq_true_eq]
    omega
   rw [i1, i2, cond_true, cond_true, cond_true, cond_false]
   refine ⟨_, rfl, rfl, fun x n3 c3 n4 c4 q => ?_⟩
   cases q
   have ht : Int.toNat (n : Int) = n := rfl
   rw [ht]
   refine ⟨?_, by omega, by omega, by omega, by omega⟩
   rw [List.getLast?_eq_getElem?, hln, List.getD_eq_getElem?_getD, Nat.add_sub_cancel]
   rw [List.getElem?_eq_getElem (by omega)]
   rfl
theorem tell_rel {m : Nat} {s : BkS} {l : List Bst} {a : ByteArray} (hl : FitN s.before l) : RelO s l a (f19 m (bkT s l) a) (tellS m s a) := by
 unfold f19 tellS
 refine RelO.cond RelO.same ?_
 cases hf : f53 m a with
 | none => intro e s' q; cases q
 | some d =>
  show RelO s l a (match d with | _ => _) _
  cases d with
  | nop => exact RelO.same
  | undo => exact RelO.undo hl
  | _ =>
   show RelO s l a _ (someS _ _ _ _)
   unfold someS
   refine RelO.cond RelO.same ?_
   unfold f19_do doS
   repeat' first
    | exact RelO.leaf hl (fun _ => rfl)
    | exact RelO.leaf hl (fun q => by cases q)
    | refine RelO.condB ?_ ?_
    | refine RelO.bindB fun r => ?_
theorem tell_cx {m : Nat} {s : BkS} {a : ByteArray} {r : Int × BkS} (h : tellS m s a = some r) : CX E0 19 (bookX s) [.string a] (ii r.1) (bookX r.2) := by
 refine CX.ofKC (a := a) rfl rfl fun l hl => ?_
 obtain ⟨o, h1, h2, h3⟩ := tell_rel hl r.1 r.2 h
 exact ⟨o, f19_ok m _ a _ h1, h2, h3⟩
end Go.Xm
