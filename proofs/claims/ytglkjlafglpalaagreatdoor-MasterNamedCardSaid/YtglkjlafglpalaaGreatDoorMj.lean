/- The abstract machine, part 9: code and calls; the theorem 'run_ok': what the machine answers to a call, the model's call does. -/
import Derived.Test.YtglkjlafglpalaaGreatDoorMz
import Derived.Scope
namespace Go.Xm
open Go.RowKit
set_option linter.unusedVariables false
set_option linter.unusedSimpArgs false
inductive Ex where
 | normal
 | exit (i : Nat)
 | ret
inductive Rs where
 | none
 | some (e : Ex) (t : Tr) (h : Heap) (c : Nat)
inductive XC where
 | skip
 | region (l : List GI)
 | regionQ (ds : List (List Nat)) (fs : List (Bool × Bool)) (n : Nat) (l : List GI)
 | regionT (l l' : List GI)
 | regionP (p : List (Bool × GI)) (l l' : List GI)
 | regionA (ds : List (List Nat)) (fs : List (Bool × Bool)) (n : Nat) (l : List GI)
 | seq (a b : XC)
 | cond (c : Src) (a b : XC)
 | block (id : Nat) (c : XC)
 | loop (c : XC)
 | scope (f : Nat → XC) (c : XC)
 | exit (id : Nat)
 | ret
 | bad
noncomputable def reads : List GI → Nat
 | .ins (.rd _ _) :: l => reads l + 1
 | .g _ _ _ (.rd _ _) :: l => reads l + 1
 | _ => 0
noncomputable def noEf : List GI → Bool
 | [] => true
 | .ins (.ef _ _) :: _ => false
 | .g _ _ _ (.ef _ _) :: _ => false
 | _ :: l => noEf l
def loose (ops : Array Oper) (n : Nat) : List Nat :=
 (List.range ops.size).foldl (fun S t => match (decide (n < t) && !((List.range t).any fun j => decide (n ≤ j) && !S.contains j && Region.waitsFor .any ops t j)) with
  | true => t :: S
  | false => S) []
def preOf (ops : Array Oper) (n : Nat) : List Nat :=
 (List.range ops.size).reverse.foldl (fun S i => match ((loose ops n).contains i || (decide (i < n) && (!((List.range (n + 1)).any fun j => decide (i < j) && Region.waitsFor .any ops j i) || S.any fun j => Region.waitsFor .any ops j i))) with
  | true => i :: S
  | false => S) []
def headOf (p : List Nat) (n : Nat) : List Nat := (List.range n).filter fun i => !p.contains i
def tailOf (ops : Array Oper) (p : List Nat) (n : Nat) : List Nat := (List.range ops.size).filter fun i => decide (n < i) && !p.contains i
noncomputable def compA (E : Env) (nt : Nat) (ops : Array Oper) : XC := match Region.noSelect ops with
 | true => .regionA (depsOf ops) (freeI ops) ops.size (ops.toList.map (compG E nt ops.toList))
 | false => .bad
noncomputable def compL (E : Env) (nt : Nat) (ops : Array Oper) (p H : List Nat) (n : Nat) (T : List Nat) : XC :=
 match (preTailB .any ops.toList.toArray p H n T && (opsAt ops.toList p).all fun o => match o.op with | .load _ _ => false | _ => true) with
 | true => .regionP ((opsAt ops.toList p).map fun o => (isMove o, compG E nt ops.toList o)) ((opsAt ops.toList H).map (compG E nt ops.toList)) ((opsAt ops.toList (n :: T)).map (compG E nt ops.toList))
 | false => compA E nt ops
noncomputable def compP (E : Env) (nt : Nat) (ops : Array Oper) (n : Nat) : XC :=
 match Nat.ble ops.size 40 with
 | true => compL E nt ops (preOf ops n) (headOf (preOf ops n) n) n (tailOf ops (preOf ops n) n)
 | false => compA E nt ops
noncomputable def compR (E : Env) (nt : Nat) (ops : Array Oper) (draw : Bool) : XC :=
 match draw with
 | false => .region (ops.toList.map (compG E nt ops.toList))
 | true => match Nat.ble ops.size 40 with
  | false => compA E nt ops
  | true => match (Region.lexB .any ops && noEf (ops.toList.map (compG E nt ops.toList)) && Region.noSelect ops) with
   | true => .regionQ (depsOf ops) (freeI ops) ops.size (ops.toList.map (compG E nt ops.toList))
   | false => match Region.lexTailB .any ops.toList.toArray (reads (ops.toList.map (compG E nt ops.toList))) with
    | true => .regionT ((ops.toList.map (compG E nt ops.toList)).take (reads (ops.toList.map (compG E nt ops.toList)))) ((ops.toList.map (compG E nt ops.toList)).drop (reads (ops.toList.map (compG E nt ops.toList))))
    | false => compP E nt ops (reads (ops.toList.map (compG E nt ops.toList)))
abbrev jmp : Nat := 1000000
noncomputable def compJ (E : Env) (nt : Nat) : Code → XC × (Nat → Option XC)
 | .skip => (.skip, fun _ => none)
 | .region _ ops draw => (compR E nt ops draw, fun _ => none)
 | .seq a b => (.seq (compJ E nt a).1 (compJ E nt b).1, fun l => match (compJ E nt a).2 l with
  | some x => some (.seq x (compJ E nt b).1)
  | none => (compJ E nt b).2 l)
 | .cond c a b => (.cond (src nt c) (compJ E nt a).1 (compJ E nt b).1, fun _ => none)
 | .block id c => (Bool.casesOn (Nat.blt id jmp) .bad (.block id (compJ E nt c).1), fun _ => none)
 | .loop c => (.loop (compJ E nt c).1, fun _ => none)
 | .exit id => (Bool.casesOn (Nat.blt id jmp) .bad (.exit id), fun _ => none)
 | .ret => (.ret, fun _ => none)
 | .scope c => (.scope (fun l => ((compJ E nt c).2 l).getD .bad) (compJ E nt c).1, fun _ => none)
 | .label l' => (.skip, fun l => match l' == l with
  | true => some .skip
  | false => none)
 | .goto l => (.exit (jmp + l), fun _ => none)
 | _ => (.bad, fun _ => none)
noncomputable def comp (E : Env) (nt : Nat) (c : Code) : XC := (compJ E nt c).1
theorem compJ_label (E : Env) (nt : Nat) : ∀ (c : Code) (l : Nat), (compJ E nt c).2 l = (findLabel c l).map (comp E nt)
 | .skip, l | .region _ _ _, l | .cond _ _ _, l | .block _ _, l | .loop _, l | .exit _, l | .ret, l | .scope _, l | .goto _, l | .rangeFunc _ _ _ _, l | .refuse _, l => rfl
 | .label l', l => by
  show (match l' == l with | true => some XC.skip | false => none) = (if l' == l then some Code.skip else none).map (comp E nt)
  cases l' == l <;> rfl
 | .seq a b, l => by
  have ha := compJ_label E nt a l
  have hb := compJ_label E nt b l
  show (match (compJ E nt a).2 l with | some x => some (XC.seq x (compJ E nt b).1) | none => (compJ E nt b).2 l) = (match findLabel a l with | some rest => some (Code.seq rest b) | none => findLabel b l).map (comp E nt)
  rw [ha, hb]
  cases findLabel a l <;> rfl
abbrev Run := XC → Tr → Heap → Nat → Rs
noncomputable def initTm (l : List Value) : Nat → Tr → Tr :=
 List.rec (fun _ t => t) (fun v _ ih i t => ih (i + 1) (t.set (path 12 i) v)) l
noncomputable def resV (E : Env) (nt : Nat) (tm : Tr) (h : Heap) : ResultVar → Option Value
 | .tmp t => some (ev tm (src nt (.tmp t)))
 | .cell a t => match E.ty t with
  | some d => match aggB d.u with
   | true => rLoadN d.size (src nt (.tmp a)) tm h
   | false => rLoad1 (src nt (.tmp a)) tm h
  | none => none
noncomputable def resL (E : Env) (nt : Nat) (tm : Tr) (h : Heap) : List ResultVar → Option (List Value)
 | [] => some []
 | r :: l => match resV E nt tm h r, resL E nt tm h l with
  | some v, some vs => some (v :: vs)
  | _, _ => none
noncomputable def resOf (E : Env) (nt : Nat) (tm : Tr) (h : Heap) (l : List ResultVar) : Option Value :=
 match resL E nt tm h l with
 | some [v] => some v
 | some vs => some (.tuple vs.toArray)
 | none => none
noncomputable def hlow (c : Nat) (h : Heap) : Heap := List.rec [] (fun p _ ih => Bool.casesOn (Nat.blt p.1 c) ih (p :: ih)) h
noncomputable def finish (E : Env) (nt : Nat) (rs : List ResultVar) (r : Rs) (k : Value → Heap → Nat → Option (Value × Heap × Nat)) : Option (Value × Heap × Nat) :=
 Rs.casesOn r none (fun e tm h c => Ex.casesOn e (Option.casesOn (resOf E nt tm h rs) none (fun v => k v h c)) (fun _ => none) (Option.casesOn (resOf E nt tm h rs) none (fun v => k v h c)))
noncomputable def noFrz (h : Heap) : Bool := List.rec true (fun p _ ih => Bool.casesOn (frz p.2) ih false) h
theorem noFrz_ok : ∀ (h : Heap), noFrz h = true → ∀ i o, hget h i = some o → frz o = false
 | [], _, i, o, hi => by cases hi
 | p :: h, hn, i, o, hi => by
  have e : noFrz (p :: h) = Bool.casesOn (frz p.2) (noFrz h) false := rfl
  rw [e] at hn
  cases hf : frz p.2 with
  | true => rw [hf] at hn; cases hn
  | false =>
   rw [hf] at hn
   rw [hget_cons] at hi
   split at hi
   ·cases hi; exact hf
   ·exact noFrz_ok h hn i o hi
def ref0 (c : Nat) : Value → Bool
 | .slice (some a) _ _ => Nat.blt a.block c
 | .pointer (some a) => Nat.blt a.block c
 | .map (some r) => Nat.blt r c
 | _ => true
def ref1 (c : Nat) : Value → Bool
 | .func _ f b => f.toList.all (ref0 c) && b.toList.all (ref0 c)
 | .agg cs => cs.toList.all (ref0 c)
 | .tuple cs => cs.toList.all (ref0 c)
 | .iface _ v => plain v
 | v => ref0 c v
noncomputable def closedH (c : Nat) (h : Heap) : Bool :=
 List.rec true (fun p _ ih => Bool.casesOn (Nat.blt p.1 c) ih (XObj.casesOn p.2 (fun cs _ _ _ => Bool.casesOn (cs.all (ref1 c)) false ih) (fun _ _ => ih) (fun _ => ih) (fun _ _ _ _ _ => ih) (fun _ => ih))) h
noncomputable def revLow (c : Nat) (h : Heap) (l : List (Nat × XObj)) : Heap :=
 List.rec h (fun p _ ih => Bool.casesOn (Nat.blt p.1 c) ih (XObj.casesOn p.2 (fun _ _ _ _ => ih) (fun _ _ => ih) (fun _ => ih) (fun _ j _ _ _ => Bool.casesOn (Nat.blt j c) (reviveH 30 ih p.1) ih) (fun _ => ih))) l
theorem HRel.revLow {B : Bd} {ρ : Rho} {h : Heap} {w : World} (H : HRel B ρ h w) (c : Nat) : ∀ l : List (Nat × XObj), HRel B ρ (Xm.revLow c h l) w
 | [] => H
 | p :: l => by
  have ih := HRel.revLow H c l
  obtain ⟨i, o⟩ := p
  show HRel B ρ (Bool.casesOn (motive := fun _ => Heap) (Nat.blt i c) (Xm.revLow c h l) (XObj.casesOn (motive := fun _ => Heap) o (fun _ _ _ _ => Xm.revLow c h l) (fun _ _ => Xm.revLow c h l) (fun _ => Xm.revLow c h l) (fun _ j _ _ _ => Bool.casesOn (Nat.blt j c) (Xm.reviveH 30 (Xm.revLow c h l) i) (Xm.revLow c h l)) (fun _ => Xm.revLow c h l))) w
  cases Nat.blt i c with
  | false => exact ih
  | true =>
   cases o with
   | cells _ _ _ _ => exact ih
   | iter _ _ => exact ih
   | imap _ => exact ih
   | ext _ => exact ih
   | was _ j _ _ _ =>
    show HRel B ρ (Bool.casesOn (motive := fun _ => Heap) (Nat.blt j c) (Xm.reviveH 30 (Xm.revLow c h l) i) (Xm.revLow c h l)) w
    cases Nat.blt j c with
    | false => exact ih.reviveH 30 _
    | true => exact ih
noncomputable def cleanH (fast : Bool) (c : Nat) (h : Heap) : Heap := Bool.casesOn fast h (revLow c h h)
theorem HRel.cleanH {B : Bd} {ρ : Rho} {h : Heap} {w : World} (H : HRel B ρ h w) (fast : Bool) (c : Nat) : HRel B ρ (Xm.cleanH fast c h) w := by
 cases fast with
 | false => exact H
 | true => exact H.revLow c h
noncomputable def lowOk (fast : Bool) (c : Nat) (h : Heap) : Bool := Bool.casesOn fast true (closedH c h)
noncomputable def lowF (fast : Bool) (c : Nat) (v : Value) (h : Heap) (c' : Nat) : Option (Value × Heap × Nat) :=
 match (plain v && lowOk fast c h) with
 | true => some (v, hlow c (cleanH fast c h), c')
 | false => some (v, h, c')
noncomputable def runF (E : Env) (ih : Run) (F : Func) (args : List Value) (h : Heap) (c : Nat) : Option (Value × Heap × Nat) :=
 match F.body with
 | none => none
 | some code =>
  match (Nat.ble args.length F.ntmps && Nat.ble F.ntmps 4000) with
  | false => none
  | true => match args.all plain with
   | true => finish E F.ntmps F.results.toList (ih (comp E F.ntmps code) (initTm args 0 .nil) [] c)
    (fun v h' c' => match plain v with
     | true => some (v, h, c)
     | false => match noFrz h' with
      | true => some (v, h' ++ h, c')
      | false => none)
   | false => finish E F.ntmps F.results.toList (ih (comp E F.ntmps code) (initTm args 0 .nil) h c)
    (fun v h' c' => lowF E.fast c v h' c')
noncomputable def revArgs (args : List Value) (h : Heap) : Heap :=
 List.rec h (fun v _ ih => match v with
  | .slice (some a) _ _ => reviveH 30 ih a.block
  | _ => ih) args
theorem HRel.revArgs {B : Bd} {ρ : Rho} {h : Heap} {w : World} (H : HRel B ρ h w) : ∀ args : List Value, HRel B ρ (Xm.revArgs args h) w
 | [] => H
 | v :: l => by
  have ih := HRel.revArgs H l
  show HRel B ρ (match v with | .slice (some a) _ _ => Xm.reviveH 30 (Xm.revArgs l h) a.block | _ => Xm.revArgs l h) w
  split
  ·exact ih.reviveH 30 _
  ·exact ih
noncomputable def revH (E : Env) (args : List Value) (h : Heap) : Heap := Bool.casesOn E.keep h (revArgs args h)
theorem HRel.revH (E : Env) {B : Bd} {ρ : Rho} {h : Heap} {w : World} (H : HRel B ρ h w) (args : List Value) : HRel B ρ (Xm.revH E args h) w := by
 unfold Xm.revH
 cases E.keep with
 | true => exact H.revArgs args
 | false => exact H
noncomputable def callF (E : Env) (ih : Run) : CallF := fun k args h c =>
 match E.prim k with
 | some g => Option.casesOn (g args) none (fun v => some (v, h, c))
 | none => match E.ext k with
  | some g => Option.casesOn (g args) none (fun v => some (v, h, c))
  | none => match E.same k with
   | true => match args with
    | [v] => some (v, h, c)
    | _ => none
   | false => match E.hprim k with
    | some g => g args (revH E args h) c
    | none => match E.fn k with
     | some F => runF E ih F args (revH E args h) c
     | none => none
noncomputable def callQ (E : Env) (ih : Run) (h : Heap) (c : Nat) : CallQ := fun k args =>
 match E.prim k with
 | some g => g args
 | none => match E.ext k with
  | some g => g args
  | none => match E.fn k with
   | some F => match args.all plain with
    | true => match runF E ih F args [] 0 with
     | some (v, _, _) => match plain v with
      | true => some v
      | false => none
     | none => none
    | false => match keysOk h with
     | true => match runF E ih F args (frzH h) c with
      | some (v, _, _) => match plain v with
       | true => some v
       | false => none
      | none => none
     | false => none
   | none => none
noncomputable def pins (mv : Bool) (g : GI) (tm : Tr) : Option Tr :=
 GI.casesOn g (fun i => Ins.casesOn i
  (fun d f => Option.casesOn (f tm []) none (fun v => Bool.casesOn (mv || (plain v || ptrV v)) none (some (putX d v tm))))
  (fun _ _ => none) (fun _ _ _ => none) none)
  (fun _ _ _ _ => none) none
noncomputable def pops (l : List (Bool × GI)) : Tr → Option Tr :=
 List.rec (fun tm => some tm) (fun g _ ih tm => Option.casesOn (pins g.1 g.2 tm) none ih) l
noncomputable def bindR (r : Rs) (f : Tr → Heap → Nat → Rs) : Rs :=
 Rs.casesOn r .none (fun e t h c => Ex.casesOn e (f t h c) (fun i => .some (.exit i) t h c) (.some .ret t h c))
noncomputable def stepX (E : Env) (ih : Run) (x : XC) (tm : Tr) (h : Heap) (c : Nat) : Rs :=
 XC.casesOn x (.some .normal tm h c)
  (fun l => Os.casesOn (xops (callF E ih) l tm h c) .none (fun t h c => .some .normal t h c))
  (fun ds fs n l => Option.casesOn (qops (callQ E ih h c) l h tm) (Os.casesOn (runA c (callF E ih) ds fs l n [⟨0, tm, h, c⟩]) .none (fun t h c => .some .normal t h c)) (fun t => .some .normal t h c))
  (fun l l' => Option.casesOn (qops noCall l h tm) .none (fun t => Os.casesOn (xops (callF E ih) l' t h c) .none (fun t h c => .some .normal t h c)))
  (fun p l l' => Option.casesOn (pops p tm) .none (fun t => Option.casesOn (qops noCall l h t) .none (fun t => Os.casesOn (xops (callF E ih) l' t h c) .none (fun t h c => .some .normal t h c))))
  (fun ds fs n l => Os.casesOn (runA c (callF E ih) ds fs l n [⟨0, tm, h, c⟩]) .none (fun t h c => .some .normal t h c))
  (fun a b => bindR (ih a tm h c) (ih b))
  (fun s a b => match ev tm s with
   | .bool t => Bool.casesOn t (ih b tm h c) (ih a tm h c)
   | _ => .none)
  (fun id x => Rs.casesOn (ih x tm h c) .none (fun e t h c => Ex.casesOn e (.some .normal t h c) (fun i => Bool.casesOn (Nat.beq i id) (.some (.exit i) t h c) (.some .normal t h c)) (.some .ret t h c)))
  (fun x => bindR (ih x tm h c) (ih (.loop x)))
  (fun f x => Rs.casesOn (ih x tm h c) .none (fun e t h c => Ex.casesOn e (.some .normal t h c) (fun i => Bool.casesOn (Nat.blt i jmp) (ih (.scope f (f (i - jmp))) t h c) (.some (.exit i) t h c)) (.some .ret t h c)))
  (fun id => .some (.exit id) tm h c)
  (.some .ret tm h c)
  .none
noncomputable def exec (E : Env) (n : Nat) : Run := Nat.rec (fun _ _ _ _ => .none) (fun _ ih => stepX E ih) n
def exO : Ex → Exit
 | .normal => .normal
 | .exit i => .exit i
 | .ret => .ret
def exOf : Ex → Exit
 | .normal => .normal
 | .exit i => match Nat.blt i jmp with
  | true => .exit i
  | false => .goto (i - jmp)
 | .ret => .ret
def hops (P : Program) (body : Code) (Q : Exit → Act → World → Prop) : Nat → Code → Act → World → Prop
 | 0, _, _, _ => False
 | n + 1, r, a, w => r.wp P (fun e a w => match e with
  | .goto l => match findLabel body l with
   | some r' => hops P body Q n r' a w
   | none => Q (.goto l) a w
  | e => Q e a w) a w
theorem hops_mono {P : Program} {body : Code} {Q Q' : Exit → Act → World → Prop} (hQ : ∀ e a w, Q e a w → Q' e a w) : ∀ (n : Nat) (r : Code) (a : Act) (w : World), hops P body Q n r a w → hops P body Q' n r a w
 | 0, _, _, _, h => h
 | n + 1, r, a, w, h => by
  refine wp_mono h (fun e a w he => ?_)
  cases e with
  | goto l =>
   simp only at he ⊢
   cases hf : findLabel body l with
   | none => rw [hf] at he; exact hQ _ _ _ he
   | some r' => rw [hf] at he; exact hops_mono hQ n r' a w he
  | _ => exact hQ _ _ _ he
theorem wp_scope_hops {P : Program} {Q : Exit → Act → World → Prop} {a : Act} {w : World} {c : Code} (n : Nat) (h : hops P c Q n c a w) : (Code.scope c).wp P Q a w := by
 intro b k cs
 have key : ∀ n r a w, hops P c Q n r a w →
  ∃ e a' w', Q e a' w' ∧ Arrives P (lone (b.at a (.code r :: .inScope c :: k)) cs w) b k cs e a' w' := by
  intro n
  induction n with
  | zero => intro r a w h; exact h.elim
  | succ n ih =>
   intro r a w h
   obtain ⟨e, a₁, w₁, hq, harr⟩ := h b (.inScope c :: k) cs
   cases e with
   | normal => exact ⟨.normal, a₁, w₁, hq, Steps.trans harr (.one step_inScope)⟩
   | exit id => exact ⟨.exit id, a₁, w₁, hq, fun k' hk => harr k' (by simp [exitTo, hk])⟩
   | goto l =>
    simp only at hq
    cases hf : findLabel c l with
    | none => rw [hf] at hq; exact ⟨.goto l, a₁, w₁, hq, fun k' hk => harr k' (by simp [gotoIn, hf, hk])⟩
    | some r' =>
     rw [hf] at hq
     obtain ⟨e₂, a₂, w₂, hq₂, harr₂⟩ := ih r' a₁ w₁ hq
     exact ⟨e₂, a₂, w₂, hq₂, .of_steps (harr _ (by simp [gotoIn, hf])) harr₂⟩
   | ret => exact ⟨_, a₁, w₁, hq, harr⟩
   | panic ch => exact ⟨_, a₁, w₁, hq, harr⟩
   | outgrown => exact ⟨_, a₁, w₁, hq, harr⟩
 obtain ⟨e, a', w', hq, harr⟩ := key n c a w h
 exact ⟨e, a', w', hq, .of_steps (.one step_scope) harr⟩
def SOk (E : Env) (ih : Run) : Prop :=
 ∀ nt code tm h c e tm' h' c', ih (comp E nt code) tm h c = .some e tm' h' c' → ∀ (B : Bd) (ρ : Rho) (a : Act) (w : World), TRel ρ nt tm a → HRel B ρ h w → ρ.length = c → B.n ≤ w.heap.size → B.ge E.G → E.inv w →
  code.wp E.P (fun e' a' w' => e' = exOf e ∧ Post B nt ρ w a.defers tm' h' c' a' w') a w
theorem initTm_get : ∀ (l : List Value) (i : Nat) (t : Tr) (j : Nat), i + l.length ≤ 4000 → j < 4000 → (initTm l i t).get (path 12 j) = if i ≤ j ∧ j < i + l.length then l[j - i]?.getD undef else t.get (path 12 j)
 | [], i, t, j, _, _ => by
  have : ¬ (i ≤ j ∧ j < i + ([] : List Value).length) := by simp only [List.length_nil]; omega
  rw [if_neg this]; rfl
 | v :: l, i, t, j, hi, hj => by
  have h0 : initTm (v :: l) i t = initTm l (i + 1) (t.set (path 12 i) v) := rfl
  simp only [List.length_cons] at hi
  rw [h0, initTm_get l (i + 1) _ j (by omega) hj]
  by_cases h1 : i + 1 ≤ j ∧ j < i + 1 + l.length
  ·rw [if_pos h1, if_pos (by simp only [List.length_cons]; omega)]
   have : j - i = (j - (i + 1)) + 1 := by omega
   rw [this, List.getElem?_cons_succ]
  ·rw [if_neg h1]
   by_cases h2 : j = i
   ·subst h2
    rw [Tr.get_set_same, if_pos (by simp only [List.length_cons]; omega)]
    simp
   ·rw [Tr.get_set_ne _ _ _ _ (fun e => h2 (path_inj 12 i j (by omega) (by omega) e).symm), if_neg (by simp only [List.length_cons]; omega)]
theorem initTm_rel {ρ : Rho} {args args' : List Value} (h : Cells ρ args args') {nt : Nat} (h1 : args.length ≤ nt) (h2 : nt ≤ 4000) :
 TRel ρ nt (initTm args 0 .nil) { tmps := args'.toArray ++ Array.replicate (nt - args'.toArray.size) undef, defers := [] } := by
 have hl := h.1
 refine ⟨by simp; omega, h2, fun t ht => ?_⟩
 rw [initTm_get args 0 .nil t (by omega) (by omega)]
 by_cases hlt : t < args.length
 ·rw [if_pos (by omega)]
  have e1 : args[t]? = some args[t] := List.getElem?_eq_getElem hlt
  have hlt' : t < args'.length := by omega
  have e2 : args'[t]? = some args'[t] := List.getElem?_eq_getElem hlt'
  have e3 : (args'.toArray ++ Array.replicate (nt - args'.toArray.size) undef).getD t undef = args'[t] := by
   simp [Array.getElem?_append, hlt']
  simp only [Nat.sub_zero, e1, Option.getD_some]
  rw [e3]
  exact h.2 t _ _ e1 e2
 ·rw [if_neg (by omega), Tr.get_nil]
  have hge : ¬ t < args'.length := by omega
  have e3 : (args'.toArray ++ Array.replicate (nt - args'.toArray.size) undef).getD t undef = undef := by
   rw [Array.getD_eq_getD_getElem?, Array.getElem?_append]
   simp only [List.size_toArray, hge, if_false, Array.getElem?_replicate]
   split <;> rfl
  rw [e3]
  exact VRel.undef ρ
theorem loadVar_of {P : Program} {ty : Nat → Option XTy} (hT : TyOk P ty) {nt : Nat} {t : TypeId} {s : Nat} {f : RF} (hok : RdOk P nt { dst := none, op := .load t (.tmp s), type := 0, pos := "", after := #[], guard := none } f)
 {d : XTy} (hd : ty t = some d) {tm : Tr} {h : Heap} {v : Value} (hf : f tm h = some v) {B : Bd} {ρ : Rho} {a : Act} {w : World} (ht : TRel ρ nt tm a) (hh : HRel B ρ h w) :
 ∃ v', VRel ρ v v' ∧ (do loadVar t (← asAddr (a.tmps.getD s undef)) : Sem Value).run P w = .ok v' w := by
 obtain ⟨v', h1, h2⟩ := hok tm h v hf B ρ a w ht hh
 have h3 := h2 w (Below.refl _ _)
 refine ⟨v', h1, ?_⟩
 simp only [execOp, Instr.loadAt, Act.eval] at h3
 have hag := hT.isAgg hd w
 generalize a.tmps.getD s undef = x at h3 ⊢
 cases x with
 | pointer p =>
  cases p with
  | none => simp [Instr.sureAddr] at h3
  | some p =>
   simp only [Instr.sureAddr, asAddr, Sem.run_bind, Sem.run_pure, Result.andThen_ok] at h3 ⊢
   cases hl : (loadVar t p).run P w with
   | ok u w' =>
    rw [hl] at h3
    simp only [Result.andThen_ok, Result.ok.injEq, Next.value.injEq] at h3
    rw [h3.1, h3.2]
   | halt q w' => rw [hl] at h3; simp at h3
 | _ => simp [Instr.sureAddr] at h3
def resSem (a : Act) : ResultVar → Sem Value
 | .tmp t => pure (a.tmps.getD t undef)
 | .cell p t => do loadVar t (← asAddr (a.tmps.getD p undef))
theorem resV_ok {E : Env} (hE : E.Ok) {nt : Nat} {tm : Tr} {h : Heap} {r : ResultVar} {v : Value} (hr : resV E nt tm h r = some v) {B : Bd} {ρ : Rho} {a : Act} {w : World} (ht : TRel ρ nt tm a) (hh : HRel B ρ h w) :
 ∃ v', VRel ρ v v' ∧ (resSem a r).run E.P w = .ok v' w := by
 cases r with
 | tmp t =>
  simp only [resV, Option.some.injEq] at hr
  subst hr
  exact ⟨a.tmps.getD t undef, src_ok ht (.tmp t), rfl⟩
 | cell p t =>
  simp only [resV] at hr
  split at hr
  ·rename_i d hd
   split at hr
   ·rename_i hb
    exact loadVar_of hE.ty (rLoadN_ok hE.ty rfl hd hb) hd hr ht hh
   ·rename_i hb
    exact loadVar_of hE.ty (rLoad1_ok hE.ty rfl hd hb) hd hr ht hh
  ·cases hr
theorem resL_ok {E : Env} (hE : E.Ok) {nt : Nat} {tm : Tr} {h : Heap} {B : Bd} {ρ : Rho} {a : Act} {w : World} (ht : TRel ρ nt tm a) (hh : HRel B ρ h w) : ∀ (l : List ResultVar) (vs : List Value), resL E nt tm h l = some vs →
 ∃ vs', Cells ρ vs vs' ∧ (l.mapM (resSem a)).run E.P w = .ok vs' w
 | [], vs, hl => by
  simp only [resL, Option.some.injEq] at hl
  subst hl
  exact ⟨[], Cells.nil ρ, rfl⟩
 | r :: l, vs, hl => by
  simp only [resL] at hl
  split at hl
  ·rename_i v vs0 h1 h2
   cases hl
   obtain ⟨v', p1, p2⟩ := resV_ok hE h1 ht hh
   obtain ⟨vs', q1, q2⟩ := resL_ok hE ht hh l vs0 h2
   refine ⟨v' :: vs', ?_, ?_⟩
   ·have := Cells.append (a := [v]) (c := [v']) ⟨rfl, fun i u u' e1 e2 => by
     cases i with
     | zero => simp at e1 e2; subst e1; subst e2; exact p1
     | succ i => simp at e1⟩ q1
    simpa using this
   ·simp only [List.mapM_cons, Sem.run_bind]
    rw [p2]
    simp only [Result.andThen_ok, q2, Sem.run_pure]
  ·cases hl
theorem resOf_ok {E : Env} (hE : E.Ok) {F : Func} {tm : Tr} {h : Heap} {v : Value} (hr : resOf E F.ntmps tm h F.results.toList = some v) {B : Bd} {ρ : Rho} {a : Act} {w : World} (ht : TRel ρ F.ntmps tm a) (hh : HRel B ρ h w) :
 ∃ v', VRel ρ v v' ∧ (results F a.tmps).run E.P w = .ok v' w := by
 unfold resOf at hr
 have key : ∀ vs, resL E F.ntmps tm h F.results.toList = some vs → ∃ vs', Cells ρ vs vs' ∧ (results F a.tmps).run E.P w = .ok (if hs : vs'.toArray.size = 1 then vs'.toArray[0] else .tuple vs'.toArray) w := by
  intro vs hvs
  obtain ⟨vs', q1, q2⟩ := resL_ok hE ht hh F.results.toList vs hvs
  refine ⟨vs', q1, ?_⟩
  have hres : results F a.tmps = (do let vs ← F.results.mapM (resSem a); pure (if h : vs.size = 1 then vs[0] else .tuple vs)) := by
   unfold results
   congr 1
  rw [hres, Array.mapM_eq_mapM_toList]
  simp only [Sem.run_bind, Sem.run_map, q2, Result.andThen_ok, Sem.run_pure]
 split at hr
 ·rename_i v0 hv
  cases hr
  obtain ⟨vs', q1, q2⟩ := key _ hv
  have hl := q1.1
  match vs', hl, q1, q2 with
  | [v'], _, q1, q2 => exact ⟨v', q1.2 0 v v' rfl rfl, by rw [q2]; rfl⟩
 ·rename_i vs hne hv
  cases hr
  obtain ⟨vs', q1, q2⟩ := key _ hv
  have hn : ¬ vs'.toArray.size = 1 := by
   intro e
   have e1 : vs.length = 1 := by rw [q1.1]; simpa using e
   match vs, e1 with
   | [x], _ => exact hne x rfl
  rw [dif_neg hn] at q2
  exact ⟨_, .tuple _ _ (by simpa using q1.1) (fun i u u' e1 e2 => q1.2 i u u' (by simpa using e1) (by simpa using e2)), q2⟩
 ·cases hr
theorem hget_append : ∀ (h h0 : Heap) (i : Nat), hget (h ++ h0) i = (hget h i).or (hget h0 i)
 | [], h0, i => by simp [hget_nil]
 | p :: h, h0, i => by
  rw [List.cons_append, hget_cons, hget_cons, hget_append h h0 i]
  split <;> simp
theorem hget_low : ∀ (c : Nat) (h : Heap) (i : Nat) (o : XObj), hget (hlow c h) i = some o → hget h i = some o
 | c, [], i, o, e => by simp [hlow, hget_nil] at e
 | c, p :: h, i, o, e => by
  have h0 : hlow c (p :: h) = Bool.casesOn (motive := fun _ => Heap) (Nat.blt p.1 c) (hlow c h) (p :: hlow c h) := rfl
  rw [h0] at e
  rw [hget_cons]
  cases hb : Nat.blt p.1 c with
  | true =>
   rw [hb] at e
   have e' : hget (p :: hlow c h) i = some o := e
   rw [hget_cons] at e'
   split at e'
   ·rename_i hp; rw [if_pos hp]; exact e'
   ·rename_i hp; rw [if_neg hp]; exact hget_low c h i o e'
  | false =>
   rw [hb] at e
   have e' : hget (hlow c h) i = some o := e
   have e2 := hget_low c h i o e'
   split
   ·rename_i hp
    -- the entry was dropped, so its number is not below c; but a kept one is
    exfalso
    have hk : ∀ (h : Heap) (o : XObj), hget (hlow c h) i = some o → Nat.blt i c = true := by
     intro h
     induction h with
     | nil => intro o e; simp [hlow, hget_nil] at e
     | cons q h ih =>
      intro o e
      have h0 : hlow c (q :: h) = Bool.casesOn (motive := fun _ => Heap) (Nat.blt q.1 c) (hlow c h) (q :: hlow c h) := rfl
      rw [h0] at e
      cases hb2 : Nat.blt q.1 c with
      | true =>
       rw [hb2] at e
       have e' : hget (q :: hlow c h) i = some o := e
       rw [hget_cons] at e'
       split at e'
       ·rename_i hq; rw [← hq]; exact hb2
       ·exact ih o e'
      | false => rw [hb2] at e; exact ih o e
    have := hk h o e'
    rw [← hp, hb] at this
    cases this
   ·exact e2
theorem HRel.union {B : Bd} {ρ ρ' : Rho} {h h' : Heap} {w w' : World} (H : HRel B ρ h w) (hle : Rho.le ρ ρ') (H' : HRel w.heap.size ρ' h' w') (hfr : ∀ i o, hget h' i = some o → frz o = false) (hB : B.n ≤ w.heap.size) (b : Below w.heap.size w w') : HRel B ρ' (h' ++ h) w' := by
 have K := H.keep hle (fun k hk => b.block k hk)
 have sp : ∀ i o, hget (h' ++ h) i = some o → hget h' i = some o ∨ (hget h' i = none ∧ hget h i = some o) := by
  intro i o e
  rw [hget_append] at e
  cases h1 : hget h' i with
  | none => rw [h1] at e; exact .inr ⟨rfl, by simpa using e⟩
  | some x => rw [h1] at e; exact .inl (by simpa using e)
 have lo : ∀ i o L, hget h i = some o → ρ'[i]? = some L → ¬ L.gho → own ρ' L o → L.b < w.heap.size := by
  intro i o L hi hL hn ho
  obtain ⟨M, m1, _, m3⟩ := H.ok i o hi
  have := hle i M m1
  rw [hL] at this
  cases this
  exact m3.lt hn (own_down hle m3 ho)
 have hi' : ∀ i o L, hget h' i = some o → ρ'[i]? = some L → ¬ L.gho → w.heap.size ≤ L.b := by
  intro i o L hi hL hn
  rcases (H'.at hi hL).1 (hfr i o hi) hn with q | q
  ·exact q
  ·cases q
 refine ⟨fun i o e => ?_, fun i j o o' L L' e1 e2 hL hL' n1 n2 o1 o2 hz hb => ?_, ?_⟩
 ·rcases sp i o e with e | ⟨_, e⟩
  ·obtain ⟨L, l1, l2, l3⟩ := H'.ok i o e
   exact ⟨L, l1, fun q n => (by
    rcases l2 q n with q' | q'
    ·exact Bd.may_of hB q'
    ·cases q'), l3⟩
  ·exact K.ok i o e
 ·rcases sp i o e1 with e1 | ⟨_, e1⟩ <;> rcases sp j o' e2 with e2 | ⟨_, e2⟩
  ·exact H'.inj i j o o' L L' e1 e2 hL hL' n1 n2 o1 o2 hz hb
  ·have := hi' i o L e1 hL n1
   have := lo j o' L' e2 hL' n2 o2
   omega
  ·have := lo i o L e1 hL n1 o1
   have := hi' j o' L' e2 hL' n2
   omega
  ·exact K.inj i j o o' L L' e1 e2 hL hL' n1 n2 o1 o2 hz hb
 ·obtain ⟨f1, a1, a2, a3⟩ := K.ext
  obtain ⟨f0, p1, p2, p3⟩ := H.ext
  obtain ⟨f2, b1, b2, b3⟩ := H'.ext
  have lowK : ∀ i p x, hget h i = some (.ext p) → x ∈ f0 i → x < w.heap.size := fun i p x e hx => by
   obtain ⟨L, l1, l2, _⟩ := p1 i p e
   exact p.lt _ _ _ l2 x (.inr hx)
  have upK : ∀ i p x, hget h' i = some (.ext p) → x ∈ f2 i → w.heap.size ≤ x := fun i p x e hx => by
   obtain ⟨L, l1, l2, l3⟩ := b1 i p e
   rcases l3 x hx with q | q
   ·exact q
   ·cases q
  have iz : ∀ i p, hget (h' ++ h) i = some (.ext p) → (hget h' i = some (.ext p)) ∨ ((hget h' i).isSome = false ∧ hget h i = some (.ext p)) := fun i p e => by
   rcases sp i _ e with e | ⟨e1, e⟩
   ·exact .inl e
   ·exact .inr ⟨by rw [e1]; rfl, e⟩
  obtain ⟨gf, ga, gb⟩ : ∃ gf : Nat → List Nat, (∀ i, (hget h' i).isSome = true → gf i = f2 i) ∧ (∀ i, ¬ (hget h' i).isSome = true → gf i = f0 i) :=
   ⟨fun i => if (hget h' i).isSome = true then f2 i else f0 i, fun i e => if_pos e, fun i e => if_neg e⟩
  refine ⟨gf, fun i p e => ?_, fun i p j o L e1 e2 hL g ow hm => ?_, fun i p j q e1 e2 ne x hx hy => ?_⟩
  ·rcases iz i p e with e | ⟨en, e⟩
   ·obtain ⟨L, l1, l2, l3⟩ := b1 i p e
    have es : (hget h' i).isSome = true := by rw [e]; rfl
    refine ⟨L, l1, by rw [ga i es]; exact l2, fun x hx => ?_⟩
    rw [ga i es] at hx
    exact Bd.may_of hB (upK i p x e hx)
   ·obtain ⟨L, l1, l2, l3⟩ := p1 i p e
    have es : ¬ (hget h' i).isSome = true := by rw [en]; exact Bool.noConfusion
    refine ⟨L, hle i L l1, ?_, fun x hx => ?_⟩
    ·rw [gb i es]
     exact p.frame _ _ _ _ l2 (fun x hx => b.block x (p.lt _ _ _ l2 x hx))
    ·rw [gb i es] at hx
     exact l3 x hx
  ·rcases iz i p e1 with e | ⟨en, e⟩
   ·have es : (hget h' i).isSome = true := by rw [e]; rfl
    rw [ga i es] at hm
    rcases sp j o e2 with k | ⟨_, k⟩
    ·exact b2 i p j o L e k hL g ow hm
    ·have := lo j o L k hL g ow
     have := upK i p _ e hm
     omega
   ·have es : ¬ (hget h' i).isSome = true := by rw [en]; exact Bool.noConfusion
    rw [gb i es] at hm
    rcases sp j o e2 with k | ⟨_, k⟩
    ·have := hi' j o L k hL g
     have := lowK i p _ e hm
     omega
    ·obtain ⟨M, m1, _, m3⟩ := H.ok j o k
     have := hle j M m1
     rw [hL] at this; cases this
     exact p2 i p j o L e k m1 g (own_down hle m3 ow) hm
  ·rcases iz i p e1 with e | ⟨en, e⟩ <;> rcases iz j q e2 with k | ⟨kn, k⟩
   ·rw [ga i (by rw [e]; rfl)] at hx
    rw [ga j (by rw [k]; rfl)] at hy
    exact b3 i p j q e k ne x hx hy
   ·rw [ga i (by rw [e]; rfl)] at hx
    rw [gb j (by rw [kn]; exact Bool.noConfusion)] at hy
    have := upK i p x e hx
    have := lowK j q x k hy
    omega
   ·rw [gb i (by rw [en]; exact Bool.noConfusion)] at hx
    rw [ga j (by rw [k]; rfl)] at hy
    have := lowK i p x e hx
    have := upK j q x k hy
    omega
   ·rw [gb i (by rw [en]; exact Bool.noConfusion)] at hx
    rw [gb j (by rw [kn]; exact Bool.noConfusion)] at hy
    exact p3 i p j q e k ne x hx hy
theorem body_ok {E : Env} (hE : E.Ok) {ih : Run} (hS : SOk E ih) {k : Nat} {F : Func} (hF : E.fn k = some F) {code : Code} (hb : F.body = some code) {args args' : List Value} {h h' : Heap} {c c' : Nat} (h1 : args.length ≤ F.ntmps) (h2 : F.ntmps ≤ 4000)
 {e : Ex} {tm' : Tr} (hx : ih (comp E F.ntmps code) (initTm args 0 .nil) h c = .some e tm' h' c') (he : ∀ i, e ≠ .exit i) {v : Value} (hv : resOf E F.ntmps tm' h' F.results.toList = some v)
 {B : Bd} {ρ : Rho} {w : World} (hargs : Cells ρ args args') (hh : HRel B ρ h w) (hc : ρ.length = c) (hB : B.n ≤ w.heap.size) (hG : B.ge E.G) (hI : E.inv w) :
 Calls E.P k args'.toArray w (fun e w' => ∃ v' ρ', e = .returned v' ∧ VRel ρ' v v' ∧ Rho.le ρ ρ' ∧ ρ'.length = c' ∧ HRel B ρ' h' w' ∧ Bel B w w') := by
 obtain ⟨f1, f2, f3⟩ := hE.fn k F hF
 refine calls_of_wp f1 hb ?_
 have ht := initTm_rel hargs h1 h2
 refine wp_mono (hS F.ntmps code _ h c e tm' h' c' hx B ρ _ w ht hh hc hB hG hI) ?_
 rintro e' a' w' ⟨rfl, hd, ρ', p1, p2, p3, p4, p5⟩
 obtain ⟨v', q1, q2⟩ := resOf_ok hE hv p1 p4
 cases e with
 | normal => exact ⟨hd, v', q2, v', ρ', rfl, q1, p2, p3, p4, p5⟩
 | exit i => exact absurd rfl (he i)
 | ret => exact ⟨hd, v', q2, v', ρ', rfl, q1, p2, p3, p4, p5⟩
theorem finish_some {E : Env} {nt : Nat} {rs : List ResultVar} {r : Rs} {k : Value → Heap → Nat → Option (Value × Heap × Nat)} {x : Value × Heap × Nat} (h : finish E nt rs r k = some x) :
 ∃ e tm h' c' v, r = .some e tm h' c' ∧ (∀ i, e ≠ .exit i) ∧ resOf E nt tm h' rs = some v ∧ k v h' c' = some x := by
 cases r with
 | none => cases h
 | some e tm h' c' =>
  cases e with
  | normal =>
   have h0 : Option.casesOn (motive := fun _ => Option (Value × Heap × Nat)) (resOf E nt tm h' rs) none (fun v => k v h' c') = some x := h
   cases hv : resOf E nt tm h' rs with
   | none => rw [hv] at h0; cases h0
   | some v => rw [hv] at h0; exact ⟨_, _, _, _, v, rfl, (fun i q => by cases q), hv, h0⟩
  | exit i => cases h
  | ret =>
   have h0 : Option.casesOn (motive := fun _ => Option (Value × Heap × Nat)) (resOf E nt tm h' rs) none (fun v => k v h' c') = some x := h
   cases hv : resOf E nt tm h' rs with
   | none => rw [hv] at h0; cases h0
   | some v => rw [hv] at h0; exact ⟨_, _, _, _, v, rfl, (fun i q => by cases q), hv, h0⟩
theorem Cells.plain_refl (ρ : Rho) {l : List Value} (h : l.all plain = true) : Cells ρ l l :=
 ⟨rfl, fun i u u' e1 e2 => by rw [e1] at e2; cases e2; exact VRel.plain_refl ρ (List.all_eq_true.1 h u (List.mem_of_getElem? e1))⟩
theorem runF_ok {E : Env} (hE : E.Ok) {ih : Run} (hS : SOk E ih) {k : Nat} {F : Func} (hF : E.fn k = some F) {args args' : List Value} {h h' : Heap} {c c' : Nat} {v : Value} (hx : runF E ih F args h c = some (v, h', c'))
 {B : Bd} {ρ : Rho} {w : World} (hargs : Cells ρ args args') (hh : HRel B ρ h w) (hc : ρ.length = c) (hB : B.n ≤ w.heap.size) (hG : B.ge E.G) (hI : E.inv w) :
 Calls E.P k args'.toArray w (fun e w' => ∃ v' ρ', e = .returned v' ∧ VRel ρ' v v' ∧ Rho.le ρ ρ' ∧ ρ'.length = c' ∧ HRel B ρ' h' w' ∧ Bel B w w') := by
 unfold runF at hx
 split at hx
 ·cases hx
 ·rename_i code hb
  split at hx
  ·cases hx
  ·rename_i hn
   simp only [Bool.and_eq_true, Nat.ble_eq] at hn
   split at hx
   ·rename_i hp
    obtain ⟨e, tm1, h1, c1, v1, r1, r2, r3, r4⟩ := finish_some hx
    have hb0 := body_ok hE hS hF hb hn.1 hn.2 r1 r2 r3 hargs (HRel.nil w.heap.size ρ w) hc (Nat.le_refl _) (Bd.ge_at (Nat.le_trans hG.1 hB)) hI
    split at r4
    ·rename_i hpv
     cases r4
     refine hb0.mono ?_
     rintro e w' ⟨v', ρ', rfl, q1, q2, q3, q4, q5⟩
     exact ⟨v', ρ, rfl, by rw [q1.plain_eq hpv]; exact VRel.plain_refl ρ hpv, Rho.le_refl ρ, hc, hh.keepB q5.below, Bel.of q5.below hB⟩
    ·split at r4
     ·rename_i hfr
      cases r4
      refine hb0.mono ?_
      rintro e w' ⟨v', ρ', rfl, q1, q2, q3, q4, q5⟩
      exact ⟨v', ρ', rfl, q1, q2, q3, hh.union q2 q4 (noFrz_ok _ hfr) hB q5.below, Bel.of q5.below hB⟩
     ·cases r4
   ·obtain ⟨e, tm1, h1, c1, v1, r1, r2, r3, r4⟩ := finish_some hx
    have hb0 := body_ok hE hS hF hb hn.1 hn.2 r1 r2 r3 hargs hh hc hB hG hI
    unfold lowF at r4
    split at r4
    ·cases r4
     refine hb0.mono ?_
     rintro e w' ⟨v', ρ', rfl, q1, q2, q3, q4, q5⟩
     exact ⟨v', ρ', rfl, q1, q2, q3, (q4.cleanH E.fast _).sub (fun i o hi => hget_low _ _ i o hi), q5⟩
    ·cases r4
     refine hb0.mono ?_
     rintro e w' ⟨v', ρ', rfl, q1, q2, q3, q4, q5⟩
     exact ⟨v', ρ', rfl, q1, q2, q3, q4, q5⟩
theorem callF_ok {E : Env} (hE : E.Ok) {ih : Run} (hS : SOk E ih) : CallOk E (callF E ih) := by
 intro k args h c v h' c' hx B ρ w args' hargs hh hc hB hG hI
 unfold callF at hx
 split at hx
 ·rename_i g hg
  cases hv : g args with
  | none => rw [hv] at hx; cases hx
  | some u =>
   rw [hv] at hx
   cases hx
   obtain ⟨⟨F, f1, f2, f3⟩, hp⟩ := hE.prim k g hg
   obtain ⟨p1, p2, p3⟩ := hp args _ hv
   have he := hargs.plain_eq p1
   subst he
   refine .inr ⟨run_callFunc_go f1 f2 f3 _ w, (p3 w hI).mono ?_⟩
   rintro e w' ⟨rfl, hb⟩
   exact ⟨_, ρ, rfl, VRel.plain_refl ρ p2, Rho.le_refl ρ, hc, hh.keepB hb, Bel.of hb hB⟩
 ·split at hx
  ·rename_i g hg
   cases hv : g args with
   | none => rw [hv] at hx; cases hx
   | some u =>
    rw [hv] at hx
    cases hx
    obtain ⟨p1, p2, p3⟩ := hE.ext k g hg args _ hv
    have he := hargs.plain_eq p1
    subst he
    exact .inl ⟨_, p3 w, VRel.plain_refl ρ p2, rfl, rfl⟩
  ·split at hx
   ·rename_i hsm
    split at hx
    ·rename_i u
     cases hx
     obtain ⟨u', q1, q2⟩ := hargs.get (i := 0) rfl
     have hl := hargs.1
     match args', hl, q1 with
     | [x], _, q1 =>
      simp only [List.getElem?_cons_zero, Option.some.injEq] at q1
      subst q1
      exact .inl ⟨x, hE.same k hsm x w, q2, rfl, rfl⟩
    ·cases hx
   ·split at hx
    ·rename_i g hg
     obtain ⟨⟨F, f1, f2, f3⟩, hp⟩ := hE.hprim k g hg
     exact .inr ⟨run_callFunc_go f1 f2 f3 _ w, hp args _ c v h' c' hx B ρ w args' hargs (hh.revH E args) hc hB hG hI⟩
    ·split at hx
     ·rename_i F hF
      obtain ⟨f1, f2, f3⟩ := hE.fn k F hF
      exact .inr ⟨run_callFunc_go f1 f2 f3 _ w, runF_ok hE hS hF hx hargs (hh.revH E args) hc hB hG hI⟩
     ·cases hx
theorem callQ_ok {E : Env} (hE : E.Ok) {ih : Run} (hS : SOk E ih) {h : Heap} {c : Nat} : CallQOk E h c (callQ E ih h c) := by
 intro k args v hx
 unfold callQ at hx
 split at hx
 ·rename_i g hg
  obtain ⟨⟨F, f1, f2, f3⟩, hp⟩ := hE.prim k g hg
  obtain ⟨p1, p2, p3⟩ := hp args _ hx
  refine ⟨p2, fun B ρ w args' hargs hh hc hG hI w' hb => .inr ?_⟩
  have he := hargs.plain_eq p1
  subst he
  exact ⟨run_callFunc_go f1 f2 f3 _ w', p3 w' (hE.keepN hG hI hb)⟩
 ·split at hx
  ·rename_i g hg
   obtain ⟨p1, p2, p3⟩ := hE.ext k g hg args _ hx
   refine ⟨p2, fun B ρ w args' hargs hh hc hG hI w' hb => .inl ?_⟩
   have he := hargs.plain_eq p1
   subst he
   exact p3 w'
  ·split at hx
   ·rename_i F hF
    obtain ⟨f1, f2, f3⟩ := hE.fn k F hF
    split at hx
    ·rename_i hp
     split at hx
     ·rename_i v0 h0 c0 hr
      split at hx
      ·rename_i hpv
       cases hx
       refine ⟨hpv, fun B ρ w args' hargs hh hc hG hI w' hb => .inr ⟨run_callFunc_go f1 f2 f3 _ w', ?_⟩⟩
       have he := hargs.plain_eq hp
       subst he
       refine (runF_ok hE hS hF hr (B := w'.heap.size) (ρ := []) (w := w') (Cells.plain_refl [] hp) (HRel.nil _ _ _) rfl (Nat.le_refl _) (Bd.ge_at (Nat.le_trans hG hb.size)) (hE.keepN hG hI hb)).mono ?_
       rintro e w'' ⟨v', ρ', rfl, q1, q2, q3, q4, q5⟩
       exact ⟨by rw [q1.plain_eq hpv], q5.below⟩
      ·cases hx
     ·cases hx
    ·split at hx
     ·rename_i hk
      split at hx
      ·rename_i v0 h0 c0 hr
       split at hx
       ·rename_i hpv
        cases hx
        refine ⟨hpv, fun B ρ w args' hargs hh hc hG hI w' hb => .inr ⟨run_callFunc_go f1 f2 f3 _ w', ?_⟩⟩
        refine (runF_ok hE hS hF hr (B := w'.heap.size) (ρ := ρ) (w := w') hargs ((hh.keepB hb).frozen hk w'.heap.size) hc (Nat.le_refl _) (Bd.ge_at (Nat.le_trans hG hb.size)) (hE.keepN hG hI hb)).mono ?_
        rintro e w'' ⟨v', ρ', rfl, q1, q2, q3, q4, q5⟩
        exact ⟨by rw [q1.plain_eq hpv], q5.below⟩
       ·cases hx
      ·cases hx
     ·cases hx
   ·cases hx
theorem map_get {E : Env} (hE : E.Ok) (nt : Nat) (all : List Oper) : ∀ (i : Nat) (o : Oper) (g : GI), all[i]? = some o → (all.map (compG E nt all))[i]? = some g → GIOk E nt all o g := by
 intro i o g h1 h2
 rw [List.getElem?_map, h1] at h2
 cases h2
 exact compG_ok hE nt all o
theorem maps_get {E : Env} (hE : E.Ok) (nt : Nat) (all l : List Oper) : ∀ (i : Nat) (o : Oper) (g : GI), l[i]? = some o → (l.map (compG E nt all))[i]? = some g → GIOk E nt all o g := by
 intro i o g h1 h2
 rw [List.getElem?_map, h1] at h2
 cases h2
 exact compG_ok hE nt all o
theorem pins_ok {E : Env} {nt : Nat} {all : List Oper} {o : Oper} {g : GI} (hg : GIOk E nt all o g) {tm tm' : Tr} (hx : pins (isMove o) g tm = some tm') {ρ : Rho} {a : Act} (ht : TRel ρ nt tm a) (w : World) :
 ∃ v, Yields E.P all.toArray o v a ∧ TRel ρ nt tm' (a.put o.dst v) := by
 cases g with
 | ins i =>
  obtain ⟨hgd, hi⟩ := hg
  have hw : Region.wanted o (yielded all.toArray a.tmps) = true := by simp [Region.wanted, hgd]
  cases i with
  | rd d f =>
   obtain ⟨hd, hok⟩ := hi
   have hx' : Option.casesOn (motive := fun _ => Option Tr) (f tm []) none (fun v => Bool.casesOn (isMove o || (plain v || ptrV v)) none (some (putX d v tm))) = some tm' := hx
   cases hf : f tm [] with
   | none => rw [hf] at hx'; cases hx'
   | some v =>
    rw [hf] at hx'
    have hx2 : Bool.casesOn (motive := fun _ => Option Tr) (isMove o || (plain v || ptrV v)) none (some (putX d v tm)) = some tm' := hx'
    cases hb : (isMove o || (plain v || ptrV v)) with
    | false => rw [hb] at hx2; cases hx2
    | true =>
     rw [hb] at hx2
     cases hx2
     have key : ∀ w, ∃ v', VRel ρ v v' ∧ (execOp a.eval o).run E.P w = .ok (.value v') w := fun w => by
      exact hok.2 tm v hf ρ a w ht
     simp only [Bool.or_eq_true] at hb
     rcases hb with hb | hb
     ·have hm : ∃ x, ∀ w, (execOp a.eval o).run E.P w = .ok (.value (a.eval x)) w := by
       unfold isMove at hb
       split at hb
       ·rename_i x ho; exact ⟨x, fun w => by simp [execOp, ho]⟩
       ·rename_i x ho; exact ⟨x, fun w => by simp [execOp, ho]⟩
       ·cases hb
      obtain ⟨x, hx⟩ := hm
      obtain ⟨v', p1, p2⟩ := key w
      rw [hx w] at p2
      cases p2
      exact ⟨a.eval x, .inl ⟨hw, hx⟩, putX_ok ht hd p1⟩
     ·rcases hb with hb | hb
      ·refine ⟨v, .inl ⟨hw, fun w => ?_⟩, putX_ok ht hd (VRel.plain_refl ρ hb)⟩
       obtain ⟨v', p1, p2⟩ := key w
       rw [p1.plain_eq hb] at p2
       exact p2
      ·obtain ⟨v0, r1, r2⟩ := key w
       refine ⟨v0, .inl ⟨hw, fun w => ?_⟩, putX_ok ht hd r1⟩
       obtain ⟨v', p1, p2⟩ := key w
       rw [r1.ptr_uniq hb p1]
       exact p2
  | _ => cases hx
 | _ => cases hx
theorem pops_ok {E : Env} (hE : E.Ok) {nt : Nat} {all : List Oper} (w : World) {ρ : Rho} {Q : Act → Prop} : ∀ (l : List Oper) (tm tm' : Tr), pops (l.map fun o => (isMove o, compG E nt all o)) tm = some tm' → ∀ (a : Act), TRel ρ nt tm a →
 (∀ a', a'.defers = a.defers → TRel ρ nt tm' a' → Q a') → wpPure E.P all.toArray Q l a
 | [], tm, tm', hx, a, ht, hQ => by
  have hx : some tm = some tm' := hx
  cases hx
  exact hQ a rfl ht
 | o :: l, tm, tm', hx, a, ht, hQ => by
  have hx' : Option.casesOn (motive := fun _ => Option Tr) (pins (isMove o) (compG E nt all o) tm) none (pops (l.map fun o => (isMove o, compG E nt all o))) = some tm' := hx
  cases hp : pins (isMove o) (compG E nt all o) tm with
  | none => rw [hp] at hx'; cases hx'
  | some tm1 =>
   rw [hp] at hx'
   obtain ⟨v, q1, q2⟩ := pins_ok (compG_ok hE nt all o) hp ht w
   exact ⟨v, q1, pops_ok hE w l tm1 tm' hx' _ q2 (fun a' d1 t1 => hQ a' (d1.trans (put_defers _ _ _)) t1)⟩
theorem Post.trans {B : Bd} {nt : Nat} {ρ ρ1 : Rho} {w w1 w2 : World} {ds : List Deferred} {tm' : Tr} {h' : Heap} {c' : Nat} {a2 : Act} (l1 : Rho.le ρ ρ1) (b1 : Bel B w w1) (p : Post B nt ρ1 w1 ds tm' h' c' a2 w2) : Post B nt ρ w ds tm' h' c' a2 w2 := by
 obtain ⟨d, ρ2, t2, l2, n2, r2, b2⟩ := p
 exact ⟨d, ρ2, t2, Rho.le_trans l1 l2, n2, r2, b1.trans b2⟩
theorem bindR_some {r : Rs} {f : Tr → Heap → Nat → Rs} {e : Ex} {t : Tr} {h : Heap} {c : Nat} (hx : bindR r f = .some e t h c) :
 (∃ t1 h1 c1, r = .some .normal t1 h1 c1 ∧ f t1 h1 c1 = .some e t h c) ∨ (r = .some e t h c ∧ e ≠ .normal) := by
 cases r with
 | none => cases hx
 | some e1 t1 h1 c1 =>
  cases e1 with
  | normal => exact .inl ⟨t1, h1, c1, rfl, hx⟩
  | exit i => cases hx; exact .inr ⟨rfl, fun q => by cases q⟩
  | ret => cases hx; exact .inr ⟨rfl, fun q => by cases q⟩
theorem then_ne {next : Act → World → Prop} {Q : Exit → Act → World → Prop} {e : Ex} (he : e ≠ .normal) {a : Act} {w : World} (h : Q (exOf e) a w) : Exit.then next Q (exOf e) a w := by
 cases e with
 | normal => exact absurd rfl he
 | exit i =>
  unfold exOf at h ⊢
  cases hb : Nat.blt i jmp <;> simp only [hb] at h ⊢ <;> exact h
 | ret => exact h
def LOk (E : Env) (n : Nat) : Prop :=
 ∀ nt code tm h c e tm' h' c', exec E n (.loop (comp E nt code)) tm h c = .some e tm' h' c' → ∀ (B : Bd) (ρ : Rho) (a : Act) (w : World), TRel ρ nt tm a → HRel B ρ h w → ρ.length = c → B.n ≤ w.heap.size → B.ge E.G → E.inv w →
  Code.rounds E.P code (fun e' a' w' => e' = exOf e ∧ Post B nt ρ w a.defers tm' h' c' a' w') n a w
theorem exec_succ (E : Env) (n : Nat) (x : XC) (tm : Tr) (h : Heap) (c : Nat) : exec E (n + 1) x tm h c = stepX E (exec E n) x tm h c := rfl
theorem loop_step {E : Env} (hE : E.Ok) {n : Nat} (hS : SOk E (exec E n)) (hL : LOk E n) : LOk E (n + 1) := by
 intro nt code tm h c e tm' h' c' hx B ρ a w ht hh hc hB hG hI
 rw [exec_succ] at hx
 have hx' : bindR (exec E n (comp E nt code) tm h c) (exec E n (.loop (comp E nt code))) = .some e tm' h' c' := hx
 rw [rounds_succ]
 rcases bindR_some hx' with ⟨t1, h1, c1, r1, r2⟩ | ⟨r1, r2⟩
 ·refine wp_mono (hS nt code tm h c _ t1 h1 c1 r1 B ρ a w ht hh hc hB hG hI) ?_
  rintro e' a1 w1 ⟨rfl, d1, ρ1, p1, p2, p3, p4, p5⟩
  have := hL nt code t1 h1 c1 e tm' h' c' r2 B ρ1 a1 w1 p1 p4 p3 (Nat.le_trans hB p5.size) hG (hE.keep hG hI p5)
  show Code.rounds _ _ _ _ _ _
  have mono : ∀ (k : Nat) (Q Q' : Exit → Act → World → Prop), (∀ e a w, Q e a w → Q' e a w) → ∀ a w, Code.rounds E.P code Q k a w → Code.rounds E.P code Q' k a w := by
   intro k
   induction k with
   | zero => intro Q Q' _ a w hr; exact hr.elim
   | succ k ih =>
    intro Q Q' hq a w hr
    rw [rounds_succ] at hr ⊢
    refine wp_mono hr (fun e a w he => ?_)
    cases e <;> first | exact ih Q Q' hq _ _ he | exact hq _ _ _ he
  refine mono n _ _ (fun e2 a2 w2 q => ?_) a1 w1 this
  refine ⟨q.1, ?_⟩
  have := Post.trans p2 p5 q.2
  rw [d1] at this
  exact this
 ·refine wp_mono (hS nt code tm h c e tm' h' c' r1 B ρ a w ht hh hc hB hG hI) ?_
  rintro e' a1 w1 ⟨rfl, p⟩
  exact then_ne r2 ⟨rfl, p⟩
def JOk (E : Env) (n : Nat) : Prop :=
 ∀ nt body r tm h c e tm' h' c', exec E n (.scope (fun l => ((compJ E nt body).2 l).getD .bad) (comp E nt r)) tm h c = .some e tm' h' c' → ∀ (B : Bd) (ρ : Rho) (a : Act) (w : World), TRel ρ nt tm a → HRel B ρ h w → ρ.length = c → B.n ≤ w.heap.size → B.ge E.G → E.inv w →
  hops E.P body (fun e' a' w' => e' = exOf e ∧ Post B nt ρ w a.defers tm' h' c' a' w') n r a w
theorem bad_none (E : Env) (n : Nat) (f : Nat → XC) (tm : Tr) (h : Heap) (c : Nat) : exec E n (.scope f .bad) tm h c = .none := by
 cases n with
 | zero => rfl
 | succ n => cases n <;> rfl
theorem jump_step {E : Env} (hE : E.Ok) {n : Nat} (hS : SOk E (exec E n)) (hJ : JOk E n) : JOk E (n + 1) := by
 intro nt body r tm h c e tm' h' c' hx B ρ a w ht hh hc hB hG hI
 rw [exec_succ] at hx
 generalize hf : (fun l => ((compJ E nt body).2 l).getD .bad) = f at hx
 have hx' : Rs.casesOn (motive := fun _ => Rs) (exec E n (comp E nt r) tm h c) .none (fun e t h c => Ex.casesOn (motive := fun _ => Rs) e (.some .normal t h c) (fun i => Bool.casesOn (Nat.blt i jmp) (exec E n (.scope f (f (i - jmp))) t h c) (.some (.exit i) t h c)) (.some .ret t h c)) = .some e tm' h' c' := hx
 cases hr : exec E n (comp E nt r) tm h c with
 | none => rw [hr] at hx'; cases hx'
 | some e1 t1 h1 c1 =>
  rw [hr] at hx'
  refine wp_mono (hS nt r tm h c e1 t1 h1 c1 hr B ρ a w ht hh hc hB hG hI) ?_
  rintro e' a1 w1 ⟨rfl, p⟩
  cases e1 with
  | normal =>
   have : Rs.some .normal t1 h1 c1 = .some e tm' h' c' := hx'
   cases this
   exact ⟨rfl, p⟩
  | ret =>
   have : Rs.some .ret t1 h1 c1 = .some e tm' h' c' := hx'
   cases this
   exact ⟨rfl, p⟩
  | exit i =>
   have hx2 : Bool.casesOn (motive := fun _ => Rs) (Nat.blt i jmp) (exec E n (.scope f (f (i - jmp))) t1 h1 c1) (.some (.exit i) t1 h1 c1) = .some e tm' h' c' := hx'
   cases hb : Nat.blt i jmp with
   | true =>
    rw [hb] at hx2
    have : Rs.some (.exit i) t1 h1 c1 = .some e tm' h' c' := hx2
    cases this
    have e0 : exOf (.exit i) = .exit i := by simp only [exOf, hb]
    rw [e0]
    exact ⟨rfl, p⟩
   | false =>
    rw [hb] at hx2
    have hx3 : exec E n (.scope f (f (i - jmp))) t1 h1 c1 = .some e tm' h' c' := hx2
    have e0 : exOf (.exit i) = .goto (i - jmp) := by simp only [exOf, hb]
    rw [e0]
    have hfl : f (i - jmp) = ((findLabel body (i - jmp)).map (comp E nt)).getD .bad := by rw [← hf]; show ((compJ E nt body).2 (i - jmp)).getD .bad = _; rw [compJ_label]
    simp only
    cases hl : findLabel body (i - jmp) with
    | none =>
     rw [hl] at hfl
     have hfl : f (i - jmp) = .bad := hfl
     rw [hfl, bad_none] at hx3
     cases hx3
    | some r' =>
     rw [hl] at hfl
     have hfl : f (i - jmp) = comp E nt r' := hfl
     rw [hfl, ← hf] at hx3
     obtain ⟨d1, ρ1, p1, p2, p3, p4, p5⟩ := p
     refine hops_mono (fun e2 a2 w2 q => ?_) n r' a1 w1 (hJ nt body r' t1 h1 c1 e tm' h' c' hx3 B ρ1 a1 w1 p1 p4 p3 (Nat.le_trans hB p5.size) hG (hE.keep hG hI p5))
     refine ⟨q.1, ?_⟩
     have := Post.trans p2 p5 q.2
     rw [d1] at this
     exact this
set_option maxHeartbeats 1000000 in
theorem exec_step {E : Env} (hE : E.Ok) {n : Nat} (hS : SOk E (exec E n)) (hL : LOk E (n + 1)) (hJ : JOk E (n + 1)) : SOk E (exec E (n + 1)) := by
 intro nt code tm h c e tm' h' c' hx B ρ a w ht hh hc hB hG hI
 have hx0 := hx
 rw [exec_succ] at hx
 cases code with
 | skip =>
  have hx : Rs.some .normal tm h c = .some e tm' h' c' := hx
  cases hx
  exact wp_skip ⟨rfl, rfl, ρ, ht, Rho.le_refl ρ, hc, hh, Bel.refl B w⟩
 | region id ops draw =>
  cases draw with
  | false =>
   have hx' : Os.casesOn (motive := fun _ => Rs) (xops (callF E (exec E n)) (ops.toList.map (compG E nt ops.toList)) tm h c) .none (fun t h c => .some .normal t h c) = .some e tm' h' c' := hx
   cases ho : xops (callF E (exec E n)) (ops.toList.map (compG E nt ops.toList)) tm h c with
   | none => rw [ho] at hx'; cases hx'
   | some t1 h1 c1 =>
    rw [ho] at hx'
    cases hx'
    refine wp_region_list ?_
    have := xops_ok hE (callF_ok hE hS) (all := ops.toList) (Q := fun e' a' w' => e' = exOf .normal ∧ Post B nt ρ w a.defers tm' h' c' a' w') ops.toList _ (by simp) (map_get hE nt ops.toList) tm tm' h h' c c' ho B ρ a w ht hh hc hB hG hI (fun a' w' p => ⟨rfl, p⟩)
    simpa using this
  | true =>
   replace hx : stepX E (exec E n) (compR E nt ops true) tm h c = .some e tm' h' c' := hx
   simp only [compR] at hx
   have anyA : Region.noSelect ops = true → ∀ {e : Ex} {tm' : Tr} {h' : Heap} {c' : Nat}, stepX E (exec E n) (.regionA (depsOf ops) (freeI ops) ops.size (ops.toList.map (compG E nt ops.toList))) tm h c = .some e tm' h' c' → (Code.region id ops true).wp E.P (fun e' a' w' => e' = exOf e ∧ Post B nt ρ w a.defers tm' h' c' a' w') a w := by
    intro hsel e tm' h' c' hx
    have hx' : Os.casesOn (motive := fun _ => Rs) (runA c (callF E (exec E n)) (depsOf ops) (freeI ops) (ops.toList.map (compG E nt ops.toList)) ops.size [⟨0, tm, h, c⟩]) .none (fun t h c => .some .normal t h c) = .some e tm' h' c' := hx
    cases ho : runA c (callF E (exec E n)) (depsOf ops) (freeI ops) (ops.toList.map (compG E nt ops.toList)) ops.size [⟨0, tm, h, c⟩] with
    | none => rw [ho] at hx'; cases hx'
    | some t1 h1 c1 =>
     rw [ho] at hx'
     cases hx'
     have hhd : HRel B ρ h w.drew := hh.keepB (drew_below w)
     have hId : E.inv w.drew := hE.keepN (Nat.le_trans hG.1 hB) hI (drew_below w)
     have hops : ops.toList.toArray = ops := by simp
     refine wp_region_any (Q := fun e' a' w' => e' = exOf .normal ∧ Post B nt ρ w a.defers tm' h' c' a' w') hE.mixed ?_
     have key := runA_ok hE (callF_ok hE hS) (all := ops.toList) (Q := fun e' a' w' => e' = exOf .normal ∧ Post B nt ρ w a.defers tm' h' c' a' w') (fun c a w q => by have := q.1; cases this) (by rw [hops]; exact hsel) hG hc (Nat.le_trans hB (drew_below w).size) hId ops.size _ (by rw [hops]; exact ho) _ (List.mem_singleton_self _) ρ a w.drew ht hhd hc (Rho.le_refl ρ) (Bel.refl B w.drew) rfl
      (fun a' w' p => ⟨rfl, Post.trans (Rho.le_refl ρ) ((Bel.refl B w).drew) p⟩) _ (by rw [hops]; exact RelA.start _)
     rw [hops] at key
     exact key
   have anyC : ∀ {e : Ex} {tm' : Tr} {h' : Heap} {c' : Nat}, stepX E (exec E n) (compA E nt ops) tm h c = .some e tm' h' c' → (Code.region id ops true).wp E.P (fun e' a' w' => e' = exOf e ∧ Post B nt ρ w a.defers tm' h' c' a' w') a w := by
    intro e tm' h' c' hx
    unfold compA at hx
    split at hx
    ·rename_i hsel; exact anyA hsel hx
    ·cases hx
   split at hx
   case h_1 => exact anyC hx
   split at hx
   ·rename_i hlex0
    have hlex : Region.lexB .any ops = true := by simp only [Bool.and_eq_true] at hlex0; exact hlex0.1.1
    have hsel : Region.noSelect ops = true := by simp only [Bool.and_eq_true] at hlex0; exact hlex0.2
    have hx' : Option.casesOn (motive := fun _ => Rs) (qops (callQ E (exec E n) h c) (ops.toList.map (compG E nt ops.toList)) h tm) (Os.casesOn (motive := fun _ => Rs) (runA c (callF E (exec E n)) (depsOf ops) (freeI ops) (ops.toList.map (compG E nt ops.toList)) ops.size [⟨0, tm, h, c⟩]) .none (fun t h c => .some .normal t h c)) (fun t => .some .normal t h c) = .some e tm' h' c' := hx
    cases ho : qops (callQ E (exec E n) h c) (ops.toList.map (compG E nt ops.toList)) h tm with
    | none =>
     rw [ho] at hx'
     exact anyA hsel hx'
    | some t1 =>
     rw [ho] at hx'
     cases hx'
     have hhd : HRel B ρ h w.drew := hh.keepB (drew_below w)
     have hId : E.inv w.drew := hE.keepN (Nat.le_trans hG.1 hB) hI (drew_below w)
     refine wp_region_quiet (C := fun w' => Below w.drew.heap.size w.drew w') hE.mixed hlex (Below.refl _ _) ?_
     have := qops_ok (callQ_ok hE hS) (all := ops.toList) (Q := fun a' => ∀ w', Below w.drew.heap.size w.drew w' → (Exit.normal = exOf .normal ∧ Post B nt ρ w a.defers tm' h c a' w')) hhd hc (Nat.le_trans hG.1 hB) hId ops.toList _ (by simp) (map_get hE nt ops.toList) tm tm' ho a ht
      (fun a' d1 t1 w' hw' => ⟨rfl, d1, ρ, t1, Rho.le_refl ρ, hc, hhd.keepB hw', (Bel.refl B w).drew.trans (Bel.of hw' hB)⟩)
     simpa using this
   ·split at hx
    ·rename_i htail
     have hx' : Option.casesOn (motive := fun _ => Rs) (qops noCall ((ops.toList.map (compG E nt ops.toList)).take (reads (ops.toList.map (compG E nt ops.toList)))) h tm) .none
      (fun t => Os.casesOn (motive := fun _ => Rs) (xops (callF E (exec E n)) ((ops.toList.map (compG E nt ops.toList)).drop (reads (ops.toList.map (compG E nt ops.toList)))) t h c) .none (fun t h c => .some .normal t h c)) = .some e tm' h' c' := hx
     generalize hk : reads (ops.toList.map (compG E nt ops.toList)) = k at hx' htail
     cases ho : qops noCall ((ops.toList.map (compG E nt ops.toList)).take k) h tm with
     | none => rw [ho] at hx'; cases hx'
     | some t1 =>
      rw [ho] at hx'
      have hx2 : Os.casesOn (motive := fun _ => Rs) (xops (callF E (exec E n)) ((ops.toList.map (compG E nt ops.toList)).drop k) t1 h c) .none (fun t h c => .some .normal t h c) = .some e tm' h' c' := hx'
      cases ho2 : xops (callF E (exec E n)) ((ops.toList.map (compG E nt ops.toList)).drop k) t1 h c with
      | none => rw [ho2] at hx2; cases hx2
      | some t2 h2 c2 =>
       rw [ho2] at hx2
       cases hx2
       have hhd : HRel B ρ h w.drew := hh.keepB (drew_below w)
       have hId : E.inv w.drew := hE.keepN (Nat.le_trans hG.1 hB) hI (drew_below w)
       have hwp := wp_region_still_tail (P := E.P) (id := id) (Q := fun e' a' w' => e' = exOf .normal ∧ Post B nt ρ w a.defers tm' h' c' a' w') (a := a) (w := w) (l := ops.toList) k hE.mixed htail ?_
       ·simpa using hwp
       ·refine qops_still (E := E) (all := ops.toList) hhd (Nat.le_trans hG.1 hB) hId (ops.toList.take k) _ (by simp) (fun i o g e1 e2 => ?_) tm t1 ho a ht (fun a1 d1 r1 => ?_)
        ·rw [List.getElem?_take] at e1 e2
         split at e1
         ·rename_i hlt
          rw [if_pos hlt] at e2
          exact map_get hE nt ops.toList i o g e1 e2
         ·cases e1
        ·refine xops_ok hE (callF_ok hE hS) (all := ops.toList) (ops.toList.drop k) _ (by simp) (fun i o g e1 e2 => ?_) t1 tm' h h' c c' ho2 B ρ a1 w.drew r1 hhd hc hB hG hId (fun a2 w2 p => ⟨rfl, ?_⟩)
         ·rw [List.getElem?_drop] at e1 e2
          exact map_get hE nt ops.toList _ o g e1 e2
         ·have := Post.trans (Rho.le_refl ρ) ((Bel.refl B w).drew) p
          rw [d1] at this
          exact this
    ·generalize reads (ops.toList.map (compG E nt ops.toList)) = k at hx
     unfold compP at hx
     split at hx
     case h_2 => exact anyC hx
     generalize preOf ops k = pl at hx
     generalize headOf pl k = Hl at hx
     generalize tailOf ops pl k = Tl at hx
     unfold compL at hx
     split at hx
     ·rename_i hpre0
      have hpre := ((Bool.and_eq_true _ _).mp hpre0).1
      have hx' : Option.casesOn (motive := fun _ => Rs) (pops ((opsAt ops.toList pl).map fun o => (isMove o, compG E nt ops.toList o)) tm) .none (fun t => Option.casesOn (motive := fun _ => Rs) (qops noCall ((opsAt ops.toList Hl).map (compG E nt ops.toList)) h t) .none
       (fun t => Os.casesOn (motive := fun _ => Rs) (xops (callF E (exec E n)) ((opsAt ops.toList (k :: Tl)).map (compG E nt ops.toList)) t h c) .none (fun t h c => .some .normal t h c))) = .some e tm' h' c' := hx
      cases hp : pops ((opsAt ops.toList pl).map fun o => (isMove o, compG E nt ops.toList o)) tm with
      | none => rw [hp] at hx'; cases hx'
      | some t0 =>
       rw [hp] at hx'
       have hx1 : Option.casesOn (motive := fun _ => Rs) (qops noCall ((opsAt ops.toList Hl).map (compG E nt ops.toList)) h t0) .none
        (fun t => Os.casesOn (motive := fun _ => Rs) (xops (callF E (exec E n)) ((opsAt ops.toList (k :: Tl)).map (compG E nt ops.toList)) t h c) .none (fun t h c => .some .normal t h c)) = .some e tm' h' c' := hx'
       cases ho : qops noCall ((opsAt ops.toList Hl).map (compG E nt ops.toList)) h t0 with
       | none => rw [ho] at hx1; cases hx1
       | some t1 =>
        rw [ho] at hx1
        have hx2 : Os.casesOn (motive := fun _ => Rs) (xops (callF E (exec E n)) ((opsAt ops.toList (k :: Tl)).map (compG E nt ops.toList)) t1 h c) .none (fun t h c => .some .normal t h c) = .some e tm' h' c' := hx1
        cases ho2 : xops (callF E (exec E n)) ((opsAt ops.toList (k :: Tl)).map (compG E nt ops.toList)) t1 h c with
        | none => rw [ho2] at hx2; cases hx2
        | some t2 h2 c2 =>
         rw [ho2] at hx2
         cases hx2
         have hhd : HRel B ρ h w.drew := hh.keepB (drew_below w)
         have hId : E.inv w.drew := hE.keepN (Nat.le_trans hG.1 hB) hI (drew_below w)
         have hwp := wp_region_pre (P := E.P) (id := id) (Q := fun e' a' w' => e' = exOf .normal ∧ Post B nt ρ w a.defers tm' h' c' a' w') (a := a) (w := w) (l := ops.toList) pl Hl k Tl hE.mixed hpre (fun c a w q => by have := q.1; cases this) ?_
         ·simpa using hwp
         ·refine pops_ok hE w (opsAt ops.toList pl) tm t0 hp a ht (fun a0 d0 r0 => ?_)
          refine qops_still (E := E) (all := ops.toList) hhd (Nat.le_trans hG.1 hB) hId (opsAt ops.toList Hl) _ (by simp) (maps_get hE nt ops.toList _) t0 t1 ho a0 r0 (fun a1 d1 r1 => ?_)
          refine xops_ok hE (callF_ok hE hS) (all := ops.toList) (opsAt ops.toList (k :: Tl)) _ (by simp) (maps_get hE nt ops.toList _) t1 tm' h h' c c' ho2 B ρ a1 w.drew r1 hhd hc hB hG hId (fun a2 w2 p => ⟨rfl, ?_⟩)
          have := Post.trans (Rho.le_refl ρ) ((Bel.refl B w).drew) p
          rw [d1, d0] at this
          exact this
     ·exact anyC hx
 | seq x y =>
  have hx' : bindR (exec E n (comp E nt x) tm h c) (exec E n (comp E nt y)) = .some e tm' h' c' := hx
  refine wp_seq ?_
  rcases bindR_some hx' with ⟨t1, h1, c1, r1, r2⟩ | ⟨r1, r2⟩
  ·refine wp_mono (hS nt x tm h c _ t1 h1 c1 r1 B ρ a w ht hh hc hB hG hI) ?_
   rintro e' a1 w1 ⟨rfl, d1, ρ1, p1, p2, p3, p4, p5⟩
   refine wp_mono (hS nt y t1 h1 c1 e tm' h' c' r2 B ρ1 a1 w1 p1 p4 p3 (Nat.le_trans hB p5.size) hG (hE.keep hG hI p5)) ?_
   rintro e2 a2 w2 ⟨rfl, q⟩
   have := Post.trans p2 p5 q
   rw [d1] at this
   exact ⟨rfl, this⟩
  ·refine wp_mono (hS nt x tm h c e tm' h' c' r1 B ρ a w ht hh hc hB hG hI) ?_
   rintro e' a1 w1 ⟨rfl, p⟩
   exact then_ne r2 ⟨rfl, p⟩
 | cond s x y =>
  replace hx : (match ev tm (src nt s) with | .bool t => Bool.casesOn (motive := fun _ => Rs) t (exec E n (comp E nt y) tm h c) (exec E n (comp E nt x) tm h c) | _ => .none) = .some e tm' h' c' := hx
  have hs := src_ok ht s
  split at hx
  ·rename_i t hev
   rw [hev] at hs
   generalize e1 : a.eval s = s' at hs
   cases hs
   cases t with
   | true => exact wp_cond e1 (hS nt x tm h c e tm' h' c' hx B ρ a w ht hh hc hB hG hI)
   | false => exact wp_cond e1 (hS nt y tm h c e tm' h' c' hx B ρ a w ht hh hc hB hG hI)
  ·cases hx
 | block id x =>
  have hx1 : stepX E (exec E n) (Bool.casesOn (Nat.blt id jmp) .bad (.block id (comp E nt x))) tm h c = .some e tm' h' c' := hx
  have hid0 : Nat.blt id jmp = true := by
   cases hb : Nat.blt id jmp with
   | true => rfl
   | false => rw [hb] at hx1; cases hx1
  rw [hid0] at hx1
  have hx' : Rs.casesOn (motive := fun _ => Rs) (exec E n (comp E nt x) tm h c) .none (fun e t h c => Ex.casesOn (motive := fun _ => Rs) e (.some .normal t h c) (fun i => Bool.casesOn (Nat.beq i id) (.some (.exit i) t h c) (.some .normal t h c)) (.some .ret t h c)) = .some e tm' h' c' := hx1
  refine wp_block ?_
  cases hr : exec E n (comp E nt x) tm h c with
  | none => rw [hr] at hx'; cases hx'
  | some e1 t1 h1 c1 =>
   rw [hr] at hx'
   refine wp_mono (hS nt x tm h c e1 t1 h1 c1 hr B ρ a w ht hh hc hB hG hI) ?_
   rintro e' a1 w1 ⟨rfl, p⟩
   cases e1 with
   | normal =>
    have : Rs.some .normal t1 h1 c1 = .some e tm' h' c' := hx'
    cases this
    exact ⟨rfl, p⟩
   | ret =>
    have : Rs.some .ret t1 h1 c1 = .some e tm' h' c' := hx'
    cases this
    exact ⟨rfl, p⟩
   | exit i =>
    have hx2 : Bool.casesOn (motive := fun _ => Rs) (Nat.beq i id) (.some (.exit i) t1 h1 c1) (.some .normal t1 h1 c1) = .some e tm' h' c' := hx'
    by_cases hid : i = id
    ·have hb : Nat.beq i id = true := by simpa using hid
     rw [hb] at hx2
     have : Rs.some .normal t1 h1 c1 = .some e tm' h' c' := hx2
     cases this
     subst hid
     simp only [exOf, hid0, Exit.inBlock, if_true]
     exact ⟨trivial, p⟩
    ·rw [nbeq_ne hid] at hx2
     have : Rs.some (.exit i) t1 h1 c1 = .some e tm' h' c' := hx2
     cases this
     cases hb : Nat.blt i jmp with
     | true =>
      simp only [exOf, hb, Exit.inBlock, hid, if_false]
      exact ⟨trivial, p⟩
     | false =>
      simp only [exOf, hb, Exit.inBlock]
      exact ⟨trivial, p⟩
 | loop x =>
  have hx2 : exec E (n + 1) (.loop (comp E nt x)) tm h c = .some e tm' h' c' := hx0
  exact wp_loop_rounds (n + 1) (hL nt x tm h c e tm' h' c' hx2 B ρ a w ht hh hc hB hG hI)
 | exit id =>
  have hx1 : stepX E (exec E n) (Bool.casesOn (Nat.blt id jmp) .bad (.exit id)) tm h c = .some e tm' h' c' := hx
  have hid0 : Nat.blt id jmp = true := by
   cases hb : Nat.blt id jmp with
   | true => rfl
   | false => rw [hb] at hx1; cases hx1
  rw [hid0] at hx1
  have hx2 : Rs.some (.exit id) tm h c = .some e tm' h' c' := hx1
  cases hx2
  have e0 : exOf (.exit id) = .exit id := by simp only [exOf, hid0]
  rw [e0]
  exact wp_exit ⟨rfl, rfl, ρ, ht, Rho.le_refl ρ, hc, hh, Bel.refl B w⟩
 | ret =>
  have hx : Rs.some .ret tm h c = .some e tm' h' c' := hx
  cases hx
  exact wp_ret ⟨rfl, rfl, ρ, ht, Rho.le_refl ρ, hc, hh, Bel.refl B w⟩
 | rangeFunc f p x y => cases hx
 | scope x =>
  have hx2 : exec E (n + 1) (.scope (fun l => ((compJ E nt x).2 l).getD .bad) (comp E nt x)) tm h c = .some e tm' h' c' := hx0
  exact wp_scope_hops (n + 1) (hJ nt x x tm h c e tm' h' c' hx2 B ρ a w ht hh hc hB hG hI)
 | label l =>
  have hx : Rs.some .normal tm h c = .some e tm' h' c' := hx
  cases hx
  exact wp_label ⟨rfl, rfl, ρ, ht, Rho.le_refl ρ, hc, hh, Bel.refl B w⟩
 | goto l =>
  have hx : Rs.some (.exit (jmp + l)) tm h c = .some e tm' h' c' := hx
  cases hx
  have e0 : exOf (.exit (jmp + l)) = .goto l := by
   have hb : Nat.blt (jmp + l) jmp = false := by
    cases hb : Nat.blt (jmp + l) jmp with
    | false => rfl
    | true => rw [Nat.blt_eq] at hb; omega
   simp only [exOf, hb, Nat.add_sub_cancel_left]
  rw [e0]
  exact wp_goto ⟨rfl, rfl, ρ, ht, Rho.le_refl ρ, hc, hh, Bel.refl B w⟩
 | refuse s => cases hx
theorem exec_all {E : Env} (hE : E.Ok) : ∀ n, SOk E (exec E n) ∧ LOk E n ∧ JOk E n
 | 0 => ⟨fun nt code tm h c e tm' h' c' hx => (by cases hx), fun nt code tm h c e tm' h' c' hx => (by cases hx), fun nt body r tm h c e tm' h' c' hx => (by cases hx)⟩
 | n + 1 =>
  have ih := exec_all hE n
  have hL := loop_step hE ih.1 ih.2.1
  have hJ := jump_step hE ih.1 ih.2.2
  ⟨exec_step hE ih.1 hL hJ, hL, hJ⟩
theorem exec_ok {E : Env} (hE : E.Ok) (n : Nat) : SOk E (exec E n) ∧ LOk E n := ⟨(exec_all hE n).1, (exec_all hE n).2.1⟩
def xty (P : Program) (t : Nat) : Option XTy :=
 match P.underlying t with
 | some u => match P.info? t with
  | some i => match i.zero with
   | some z => some ⟨u, i.size, i.bytes, z⟩
   | none => none
  | none => none
 | none => none
theorem xty_ok (P : Program) : TyOk P (xty P) := by
 intro t x h
 unfold xty at h
 split at h
 ·rename_i u hu
  split at h
  ·rename_i i hi
   split at h
   ·rename_i z hz
    cases h
    exact ⟨hu, i, hi, rfl, rfl, hz⟩
   ·cases h
  ·cases h
 ·cases h
def xfn (P : Program) (k : Nat) : Option Func :=
 match P.funcs[k]? with
 | some F => match (F.body.isSome && !(F.name == "runtime.NumGoroutine")) with
  | true => some F
  | false => none
 | none => none
theorem xfn_ok (P : Program) : ∀ k F, xfn P k = some F → P.funcs[k]? = some F ∧ (F.name == "runtime.NumGoroutine") = false ∧ F.body.isSome = true := by
 intro k F h
 unfold xfn at h
 split at h
 ·rename_i F0 hF
  split at h
  ·rename_i hb
   cases h
   simp only [Bool.and_eq_true, Bool.not_eq_true'] at hb
   exact ⟨hF, hb.2, hb.1⟩
  ·cases h
 ·cases h
def stdEnv (P : Program) (prim ext : Nat → Option (List Value → Option Value)) (same : Nat → Bool) (G : Nat) (inv : World → Prop) : Env := ⟨P, xty P, xfn P, prim, ext, fun _ => none, same, G, inv, false, false, fun _ => [], fun _ _ => none, false⟩
theorem stdEnv_ok {P : Program} {prim ext : Nat → Option (List Value → Option Value)} {same : Nat → Bool} {G : Nat} {inv : World → Prop} (hm : P.follows .mixedOrders = true)
 (hp : ∀ k g, prim k = some g → (∃ F, P.funcs[k]? = some F ∧ (F.name == "runtime.NumGoroutine") = false ∧ F.body.isSome = true) ∧
  ∀ args v, g args = some v → args.all plain = true ∧ plain v = true ∧ ∀ w, inv w → Calls P k args.toArray w (fun e w' => e = .returned v ∧ RowKit.Below w.heap.size w w'))
 (hk : ∀ w w', inv w → (∀ k, k < G → w'.heap[k]? = w.heap[k]?) → inv w')
 (he : ∀ k g, ext k = some g → ∀ args v, g args = some v → args.all plain = true ∧ plain v = true ∧ ∀ w, (callFunc k args.toArray).run P w = .ok (.value v) w) (hs : ∀ k, same k = true → ∀ v w, (callFunc k #[v]).run P w = .ok (.value v) w) : (stdEnv P prim ext same G inv).Ok :=
 ⟨hm, xty_ok P, xfn_ok P, hp, he, (fun k g h => by cases h), hk, hs, (fun name t k h => by cases h), fun g t v h => by cases h⟩
end Go.Xm
