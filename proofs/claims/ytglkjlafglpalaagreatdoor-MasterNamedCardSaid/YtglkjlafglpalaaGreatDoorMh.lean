/- The abstract machine, part 7: code, calls, and the theorem: what the machine answers, the model does. -/
import Derived.Test.YtglkjlafglpalaaGreatDoorMo
import Derived.LoopN
import Derived.StillTail
namespace Go.Xm
open Go.RowKit
set_option linter.unusedVariables false
set_option linter.unusedSimpArgs false
structure Env where
 P : Program
 ty : Nat → Option XTy
 fn : Nat → Option Func
 prim : Nat → Option (List Value → Option Value)
 ext : Nat → Option (List Value → Option Value)
 hprim : Nat → Option (List Value → Heap → Nat → Option (Value × Heap × Nat))
 same : Nat → Bool
 G : Nat
 inv : World → Prop
 keep : Bool
 inpl : Bool
 meth : String → List (Nat × Nat) := fun _ => []
 glob : Nat → Nat → Option Value := fun _ _ => none
 fast : Bool := false
structure Env.Ok (E : Env) : Prop where
 mixed : E.P.follows .mixedOrders = true
 ty : TyOk E.P E.ty
 fn : ∀ k F, E.fn k = some F → E.P.funcs[k]? = some F ∧ (F.name == "runtime.NumGoroutine") = false ∧ F.body.isSome = true
 prim : ∀ k g, E.prim k = some g → (∃ F, E.P.funcs[k]? = some F ∧ (F.name == "runtime.NumGoroutine") = false ∧ F.body.isSome = true) ∧
  ∀ args v, g args = some v → args.all plain = true ∧ plain v = true ∧ ∀ w, E.inv w → Calls E.P k args.toArray w (fun e w' => e = .returned v ∧ Below w.heap.size w w')
 ext : ∀ k g, E.ext k = some g → ∀ args v, g args = some v → args.all plain = true ∧ plain v = true ∧ ∀ w, (callFunc k args.toArray).run E.P w = .ok (.value v) w
 hprim : ∀ k g, E.hprim k = some g → (∃ F, E.P.funcs[k]? = some F ∧ (F.name == "runtime.NumGoroutine") = false ∧ F.body.isSome = true) ∧
  ∀ args h c v h' c', g args h c = some (v, h', c') → ∀ (B : Bd) (ρ : Rho) (w : World) (args' : List Value), Cells ρ args args' → HRel B ρ h w → ρ.length = c → B.n ≤ w.heap.size → B.ge E.G → E.inv w →
   Calls E.P k args'.toArray w (fun e w' => ∃ v' ρ', e = .returned v' ∧ VRel ρ' v v' ∧ Rho.le ρ ρ' ∧ ρ'.length = c' ∧ HRel B ρ' h' w' ∧ Bel B w w')
 keeps : ∀ w w', E.inv w → (∀ k, k < E.G → w'.heap[k]? = w.heap[k]?) → E.inv w'
 same : ∀ k, E.same k = true → ∀ v w, (callFunc k #[v]).run E.P w = .ok (.value v) w
 meth : ∀ name t k, (t, k) ∈ E.meth name → ∀ v args w, (callMethod (.iface t v) name args).run E.P w = (callFunc k (#[v] ++ args)).run E.P w
 glob : ∀ g t v, E.glob g t = some v → plain v = true ∧ ∀ w, E.inv w → (Instr.loadAt t (.pointer (some ⟨g, 0, none⟩))).run E.P w = .ok v w
theorem Bd.ge_not {B : Bd} {G k : Nat} (hG : B.ge G) (hk : k < G) : ¬ B.may k := fun q => by
 rcases q with q | q
 ·exact absurd (Nat.lt_of_lt_of_le hk (Nat.le_trans hG.1 q)) (Nat.lt_irrefl _)
 ·exact absurd (Nat.lt_of_lt_of_le hk (hG.2 k q)) (Nat.lt_irrefl _)
theorem Env.Ok.keep {E : Env} (hE : E.Ok) {B : Bd} {w w' : World} (hG : B.ge E.G) (hI : E.inv w) (b : Bel B w w') : E.inv w' :=
 hE.keeps w w' hI (fun k hk => b.block k (Bd.ge_not hG hk))
theorem Env.Ok.keepN {E : Env} (hE : E.Ok) {n : Nat} {w w' : World} (hG : E.G ≤ n) (hI : E.inv w) (b : Below n w w') : E.inv w' :=
 hE.keeps w w' hI (fun k hk => b.block k (Nat.lt_of_lt_of_le hk hG))
theorem run_callFunc_go {P : Program} {k : FuncId} {F : Func} (h1 : P.funcs[k]? = some F) (h2 : (F.name == "runtime.NumGoroutine") = false) (h3 : F.body.isSome = true) (args : Array Value) (w : World) :
 (callFunc k args).run P w = .ok (.enter k args) w := by
 have h2' : F.name ≠ "runtime.NumGoroutine" := by simpa using h2
 have h3' : ¬ F.body = none := by intro e; rw [e] at h3; cases h3
 simp [callFunc, h1, h2', h3']
def keyN (ty : Nat → Option XTy) (key : TypeId) : Option Nat :=
 match ty key with
 | some Dk => match Dk.u with
  | .int .i64 => some 1
  | .string => some 0
  | .array n e => match ty e with
   | some De => match De.u with
    | .int .i64 => match (Nat.beq De.size 1 && (!Nat.beq n 1 && !Nat.beq n 0)) with
     | true => some n
     | false => none
    | _ => none
   | none => none
  | _ => none
 | none => none
theorem keyN_ok {P : Program} {ty : Nat → Option XTy} (hT : TyOk P ty) {key : TypeId} {n : Nat} (h : keyN ty key = some n) : KeyTy P key n := by
 unfold keyN at h
 split at h
 ·rename_i Dk hk
  split at h
  ·rename_i hu
   cases h
   exact .inl ⟨rfl, by rw [(hT key Dk hk).1, hu]⟩
  ·rename_i hu
   cases h
   exact .inr (.inl ⟨rfl, by rw [(hT key Dk hk).1, hu]⟩)
  ·rename_i m e hu
   split at h
   ·rename_i De he
    split at h
    ·rename_i hue
     split at h
     ·rename_i hb
      cases h
      simp only [Bool.and_eq_true, Bool.not_eq_true'] at hb
      obtain ⟨h1, i, h2, h3, _⟩ := hT e De he
      refine .inr (.inr ⟨fun q => by subst q; exact absurd hb.2.1 (by decide), fun q => by subst q; exact absurd hb.2.2 (by decide), e, i, by rw [(hT key Dk hk).1, hu], by rw [h1, hue], h2, h3.trans (Nat.eq_of_beq_eq_true hb.1)⟩)
     ·cases h
    ·cases h
   ·cases h
  ·cases h
 ·cases h
def mark1 : Value := .chan (some 1)
theorem mark1_none {ρ : Rho} {v : Value} (h : VRel ρ mark1 v) : False := by
 unfold mark1 at h
 cases h
def methB : List Value → TypeId → Option Nat
 | .int _ t :: .int _ k :: l, u => match Nat.beq t.toNat u with
  | true => some k.toNat
  | false => methB l u
 | _, _ => none
def mtab : List (Nat × Nat) → List Value
 | [] => []
 | p :: l => .int .i64 p.1 :: .int .i64 p.2 :: mtab l
theorem methB_mem {u k : Nat} : ∀ {l : List (Nat × Nat)}, methB (mtab l) u = some k → (u, k) ∈ l
 | [], h => by cases h
 | p :: l, h => by
  have e : methB (mtab (p :: l)) u = (match Nat.beq p.1 u with | true => some p.2 | false => methB (mtab l) u) := rfl
  rw [e] at h
  cases hb : Nat.beq p.1 u with
  | true =>
   rw [hb] at h
   have h1 := Nat.eq_of_beq_eq_true hb
   have h2 : some p.2 = some k := h
   cases h2
   rw [← h1]
   exact List.mem_cons_self ..
  | false =>
   rw [hb] at h
   exact List.mem_cons_of_mem _ (methB_mem h)
def calleeV (f : Value) (args : List Value) : Option (Nat × List Value) :=
 match f with
 | .func (.func k) a b => some (k, a.toList ++ args ++ b.toList)
 | .chan (some 1) => match args with
  | .tuple tbl :: .iface t v :: l => match methB tbl.toList t with
   | some k => some (k, v :: l)
   | none => none
  | _ => none
 | _ => none
inductive Ins where
 | rd (d : Option (List Bool)) (f : RF)
 | ef (d : Option (List Bool)) (f : EF)
 | call (d : Option (List Bool)) (f : Src) (args : List Src)
 | bad
def dstP (nt : Nat) : Option Tmp → Option (Option (List Bool))
 | none => some none
 | some d => match Nat.blt d nt with
  | true => some (some (path 12 d))
  | false => none
noncomputable def putX (d : Option (List Bool)) (v : Value) (tm : Tr) : Tr := Option.casesOn d tm (fun p => tm.set p v)
theorem putX_ok {ρ : Rho} {nt : Nat} {tm : Tr} {a : Act} (h : TRel ρ nt tm a) {dst : Option Tmp} {d : Option (List Bool)} (hd : dstP nt dst = some d) {v v' : Value} (hv : VRel ρ v v') : TRel ρ nt (putX d v tm) (a.put dst v') := by
 cases dst with
 | none => simp only [dstP, Option.some.injEq] at hd; subst hd; exact h
 | some k =>
  simp only [dstP] at hd
  split at hd
  ·rename_i hk
   cases hd
   exact h.put (by simpa [Nat.blt_eq] using hk) hv
  ·cases hd
def ptrOp : BinOp → Option Bool
 | .eql => some false
 | .neq => some true
 | _ => none
theorem ptrOp_eq {op : BinOp} {neg : Bool} (h : ptrOp op = some neg) : op = (if neg then .neq else .eql) := by
 cases op <;> simp [ptrOp] at h <;> subst h <;> rfl
def globOf (E : Env) (t : TypeId) : Operand → Option Value
 | .global g => E.glob g t
 | _ => none
noncomputable def rGlob (v : Value) : RF := fun _ h => List.casesOn h none (fun _ _ => some v)
noncomputable def natS (s : Nat) (f : Nat → Option Value) : Option Value := Nat.casesOn s (f 0) (fun p => f (Nat.succ p))
theorem natS_eq (s : Nat) (f : Nat → Option Value) : natS s f = f s := by cases s <;> rfl
noncomputable def boolS (b : Bool) : Option Value := Bool.casesOn b (some (.bool false)) (some (.bool true))
theorem boolS_eq (b : Bool) : boolS b = some (.bool b) := by cases b <;> rfl
noncomputable def capS (s : Nat) : Option Value := Bool.casesOn (Nat.ble s 9223372036854775807) none (natS s fun s => some (.int .i64 (.ofNat s)))
theorem capS_eq {s : Nat} {v : Value} (h : capS s = some v) : v = .int .i64 (.ofNat s) ∧ s ≤ 9223372036854775807 := by
 unfold capS at h
 cases hb : Nat.ble s 9223372036854775807 with
 | true =>
  rw [hb] at h
  have h : natS s (fun s => some (.int .i64 (.ofNat s))) = some v := h
  rw [natS_eq] at h
  cases h
  exact ⟨rfl, Nat.le_of_ble_eq_true hb⟩
 | false => rw [hb] at h; cases h
noncomputable def fastN (op : BinOp) (a b : Nat) : Option Value :=
 match op with
 | .add => capS (a + b)
 | .sub => Bool.casesOn (Nat.ble a 9223372036854775807) none (Bool.casesOn (Nat.ble b a) none (capS (a - b)))
 | .mul => capS (a * b)
 | .quo => Nat.casesOn b none (fun p => capS (a / Nat.succ p))
 | .rem => Nat.casesOn b none (fun p => capS (a % Nat.succ p))
 | .eql => boolS (Nat.beq a b)
 | .neq => boolS (not (Nat.beq a b))
 | .lss => boolS (Nat.blt a b)
 | .leq => boolS (Nat.ble a b)
 | .gtr => boolS (Nat.blt b a)
 | .geq => boolS (Nat.ble b a)
 | _ => none
theorem wrap_small {s : Nat} (h : s ≤ 9223372036854775807) : IntKind.wrap .i64 (Int.ofNat s) = Int.ofNat s := by
 simp only [IntKind.wrap, IntKind.bits, IntKind.signed]
 simp
 omega
theorem fastN_ok {op : BinOp} {a b : Nat} {v : Value} (h : fastN op a b = some v) : xInt op .i64 (.ofNat a) (.ofNat b) = some v := by
 cases op <;> simp only [fastN] at h
 case add =>
  obtain ⟨rfl, h2⟩ := capS_eq h
  have e : (Int.ofNat a + Int.ofNat b) = Int.ofNat (a + b) := rfl
  simp only [xInt, e, wrap_small h2]
 case mul =>
  obtain ⟨rfl, h2⟩ := capS_eq h
  have e : (Int.ofNat a * Int.ofNat b) = Int.ofNat (a * b) := rfl
  simp only [xInt, e, wrap_small h2]
 case sub =>
  cases h1 : Nat.ble a 9223372036854775807 with
  | false => rw [h1] at h; cases h
  | true =>
   rw [h1] at h
   cases h3 : Nat.ble b a with
   | false => rw [h3] at h; cases h
   | true =>
    rw [h3] at h
    obtain ⟨rfl, h2⟩ := capS_eq (s := a - b) h
    have h4 := Nat.le_of_ble_eq_true h3
    have e : (Int.ofNat a - Int.ofNat b) = Int.ofNat (a - b) := by simp only [Int.ofNat_eq_natCast]; omega
    simp only [xInt, e, wrap_small h2]
 case quo =>
  cases b with
  | zero => cases h
  | succ p =>
   obtain ⟨rfl, h2⟩ := capS_eq (s := a / (p + 1)) h
   have e : (Int.ofNat a).tdiv (Int.ofNat (p + 1)) = Int.ofNat (a / (p + 1)) := rfl
   simp only [xInt, e, wrap_small h2]
   rfl
 case rem =>
  cases b with
  | zero => cases h
  | succ p =>
   obtain ⟨rfl, h2⟩ := capS_eq (s := a % (p + 1)) h
   rfl
 case eql =>
  rw [boolS_eq] at h; cases h
  simp only [xInt]
  congr 2
  rw [Bool.eq_iff_iff]
  simp
  omega
 case neq =>
  rw [boolS_eq] at h; cases h
  simp only [xInt]
  congr 2
  cases hb : Nat.beq a b with
  | true => have e := Nat.eq_of_beq_eq_true hb; subst e; simp
  | false =>
   have e := Nat.ne_of_beq_eq_false hb
   simp
   omega
 case lss => rw [boolS_eq] at h; cases h; simp only [xInt]; congr 2; rw [Bool.eq_iff_iff]; simp [Nat.blt_eq]
 case leq => rw [boolS_eq] at h; cases h; simp only [xInt]; congr 2; rw [Bool.eq_iff_iff]; simp
 case gtr => rw [boolS_eq] at h; cases h; simp only [xInt]; congr 2; rw [Bool.eq_iff_iff]; simp [Nat.blt_eq]
 case geq => rw [boolS_eq] at h; cases h; simp only [xInt]; congr 2; rw [Bool.eq_iff_iff]; simp
 all_goals cases h
noncomputable def fastI (op : BinOp) (x y : Value) : Option Value :=
 match x, y with
 | .int .i64 (.ofNat a), .int .i64 (.ofNat b) => fastN op a b
 | _, _ => none
noncomputable def rFast (op : BinOp) (x y : Src) (f : RF) : RF := fun tm h =>
 match fastI op (ev tm x) (ev tm y) with
 | some v => some v
 | none => f tm h
theorem rFast_ok {P : Program} {nt : Nat} {o : Oper} {op : BinOp} {t t' : TypeId} {x y : Operand} {f : RF} (ho : o.op = .binOp op t x y t') (hp : RdOk P nt o f) : RdOk P nt o (rFast op (src nt x) (src nt y) f) := by
 intro tm h v hf B ρ a w ht hh
 unfold rFast at hf
 split at hf
 ·rename_i v0 hv
  cases hf
  unfold fastI at hv
  split at hv
  ·rename_i m n hx hy
   have h1 := src_ok ht x
   have h2 := src_ok ht y
   rw [hx] at h1
   rw [hy] at h2
   generalize e1 : a.eval x = x' at h1
   generalize e2 : a.eval y = y' at h2
   cases h1
   cases h2
   have hv := fastN_ok hv
   generalize Int.ofNat m = zm at hv e1
   generalize Int.ofNat n = zn at hv e2
   exact ⟨v, xInt_rel hv, fun w' _ => by simp [execOp, ho, e1, e2, xGuard_ok, xInt_ok hv w']⟩
  ·cases hv
 ·exact hp tm h v hf B ρ a w ht hh
noncomputable def rBinE (b : Bool) (P : Program) (nt : Nat) (o : Oper) (op : BinOp) (x y : Src) : RF :=
 match b with
 | true => rFast op x y (rBin P nt o op x y)
 | false => rBin P nt o op x y
theorem rBinE_ok {b : Bool} {P : Program} {nt : Nat} {o : Oper} {op : BinOp} {t t' : TypeId} {x y : Operand} (ho : o.op = .binOp op t x y t') : RdOk P nt o (rBinE b P nt o op (src nt x) (src nt y)) := by
 cases b with
 | true => exact rFast_ok ho (rBin_ok ho)
 | false => exact rBin_ok ho
noncomputable def rMapLen (x : Src) : RF := fun tm h =>
 match ev tm x with
 | .map none => some (.int .i64 0)
 | .map (some r) => match hget h r with
  | some (.imap es) => some (.int .i64 (Int.ofNat es.length))
  | _ => none
 | _ => none
theorem rMapLen_ok {P : Program} {ty : Nat → Option XTy} (hT : TyOk P ty) {nt : Nat} {o : Oper} {t key elem : TypeId} {x : Operand} {d : XTy} {ts : Array TypeId} (ho : o.op = .call { callee := .builtin .len, args := #[x], argTypes := ts })
 (hts : ts[0]? = some t) (hd : ty t = some d) (hu : d.u = .map key elem) : RdOk P nt o (rMapLen (src nt x)) := by
 intro tm h v hf B ρ a w ht hh
 have hx := src_ok ht x
 have hun := fun w' => hT.und hd w'
 unfold rMapLen at hf
 split at hf
 ·rename_i hp
  cases hf
  rw [hp] at hx
  generalize e1 : a.eval x = x' at hx
  cases hx
  refine ⟨.int .i64 0, .int _ _, fun w' _ => ?_⟩
  simp [execOp, ho, resolve, e1, invoke, builtin, Builtin.len_, hts, hun w', hu, goInt]
 ·rename_i r hp
  rw [hp] at hx
  generalize e1 : a.eval x = x' at hx
  cases hx with
  | map r L hL =>
   split at hf
   ·rename_i es hg
    cases hf
    obtain ⟨_, _, _, E, clock, g1, g2, _⟩ := hh.at hg hL
    have hlt : L.b < w.heap.size := (Array.getElem?_eq_some_iff.1 g1).1
    have hsz : E.size = es.length := by
     have := congrArg List.length g2
     simpa using this
    refine ⟨.int .i64 es.length, .int _ _, fun w' b => ?_⟩
    have hb : w'.heap[L.b]? = some (.map E clock) := by rw [b.block _ hlt]; exact g1
    simp [execOp, ho, resolve, e1, invoke, builtin, Builtin.len_, hts, hun w', hu, goInt, MapKept.run_getObj_map hb, hsz]
   ·cases hf
 ·cases hf
noncomputable def rMapNil (neg : Bool) (x y : Src) : RF := fun tm _ =>
 match ev tm y with
 | .map none => match ev tm x with
  | .map none => some (.bool (!neg))
  | .map (some _) => some (.bool neg)
  | _ => none
 | _ => none
theorem run_map_nil {P : Program} {t key elem : TypeId} (ht : P.underlying t = some (.map key elem)) (w : World) (a : Option Nat) (neg : Bool) :
 (binOp (if neg then .neq else .eql) t (.map a) (.map none)).run P w = .ok (.bool (a.isNone != neg)) w := by
 have he : (Op.equal t (.map a) (.map none)).run P w = .ok a.isNone w := by
  have h : ∀ d : Nat, (Op.equalIn (d + 1) t (.map a) (.map none)).run P w = .ok a.isNone w := by
   intro d
   cases a with
   | none => simp [Op.equalIn, run_underlying ht]
   | some a => simp [Op.equalIn, run_underlying ht]
  simp [Op.equal, Op.maxDepth, h 9999]
 cases neg
 ·have : (binOp .eql t (.map a) (.map none)) = (do pure (.bool (← Op.equal t (.map a) (.map none)))) := by unfold binOp; rfl
  simp only [Bool.false_eq_true, if_false, this, Sem.run_bind, he, Result.andThen_ok, Sem.run_pure]
  simp
 ·have : (binOp .neq t (.map a) (.map none)) = (do pure (.bool !(← Op.equal t (.map a) (.map none)))) := by unfold binOp; rfl
  simp only [if_true, this, Sem.run_bind, he, Result.andThen_ok, Sem.run_pure]
  simp
theorem rMapNil_ok {P : Program} {ty : Nat → Option XTy} (hT : TyOk P ty) {nt : Nat} {o : Oper} {neg : Bool} {t t' key elem : TypeId} {x y : Operand} {d : XTy} (ho : o.op = .binOp (if neg then .neq else .eql) t x y t')
 (hd : ty t = some d) (hu : d.u = .map key elem) : RdOk P nt o (rMapNil neg (src nt x) (src nt y)) := by
 intro tm h v hf B ρ a w ht hh
 have hx := src_ok ht x
 have hy := src_ok ht y
 obtain ⟨ht', _⟩ := hT t d hd
 rw [hu] at ht'
 have hex : ∀ {p : Option Nat}, a.eval x = .map p → a.eval y = .map none → ∀ w', (execOp a.eval o).run P w' = .ok (.value (.bool (p.isNone != neg))) w' := by
  intro p e1 e2 w'
  have hb := run_map_nil ht' w' p neg
  have hg : (eqGuard (if neg then .neq else .eql) t x y (.map p) (.map none)).run P w' = .ok () w' := by
   unfold eqGuard
   cases neg <;> simp
  simp only [execOp, ho, e1, e2, Sem.run_bind, hg, Result.andThen_ok, hb, Sem.run_pure]
 unfold rMapNil at hf
 split at hf
 ·rename_i h2
  rw [h2] at hy
  generalize e2 : a.eval y = y' at hy
  cases hy
  split at hf
  ·rename_i h1
   rw [h1] at hx
   generalize e1 : a.eval x = x' at hx
   cases hx
   cases hf
   exact ⟨.bool (!neg), .bool _, fun w' _ => by have := hex e1 e2 w'; simpa using this⟩
  ·rename_i r h1
   rw [h1] at hx
   generalize e1 : a.eval x = x' at hx
   cases hx
   cases hf
   exact ⟨.bool neg, .bool _, fun w' _ => by have := hex e1 e2 w'; simpa using this⟩
  ·cases hf
 ·cases hf
noncomputable def rIfNil (neg : Bool) (x : Src) : RF := fun tm _ =>
 match ev tm x with
 | .nilIface => some (.bool (!neg))
 | .iface _ _ => some (.bool neg)
 | _ => none
theorem run_if_nil {P : Program} {t : TypeId} {ms : Array (String × TypeId)} (ht : P.underlying t = some (.interface ms)) (w : World) {v : Value} {b : Bool} (hv : (v = .nilIface ∧ b = true) ∨ (∃ u x, v = .iface u x) ∧ b = false) (neg : Bool) :
 (binOp (if neg then .neq else .eql) t v .nilIface).run P w = .ok (.bool (b != neg)) w := by
 have he : (Op.equal t v .nilIface).run P w = .ok b w := by
  have h : ∀ d : Nat, (Op.equalIn (d + 1) t v .nilIface).run P w = .ok b w := by
   intro d
   rcases hv with ⟨rfl, rfl⟩ | ⟨⟨u, x, rfl⟩, rfl⟩
   ·simp [Op.equalIn, run_underlying ht]
   ·simp [Op.equalIn, run_underlying ht]
  simp [Op.equal, Op.maxDepth, h 9999]
 have hb : ∀ op, (op = .eql ∨ op = .neq) → binOp op t v .nilIface = (if op = .eql then (do pure (.bool (← Op.equal t v .nilIface))) else (do pure (.bool !(← Op.equal t v .nilIface)))) := by
  intro op hop
  rcases hv with ⟨rfl, _⟩ | ⟨⟨u, x, rfl⟩, _⟩ <;> rcases hop with rfl | rfl <;> (unfold binOp; rfl)
 cases neg
 ·simp only [Bool.false_eq_true, if_false, hb .eql (.inl rfl), if_true, Sem.run_bind, he, Result.andThen_ok, Sem.run_pure]
  simp
 ·simp only [if_true, hb .neq (.inr rfl), reduceCtorEq, if_false, Sem.run_bind, he, Result.andThen_ok, Sem.run_pure]
  simp
theorem rIfNil_ok {P : Program} {ty : Nat → Option XTy} (hT : TyOk P ty) {nt : Nat} {o : Oper} {neg : Bool} {t t' : TypeId} {ms : Array (String × TypeId)} {x : Operand} {d : XTy} (ho : o.op = .binOp (if neg then .neq else .eql) t x (.const .nilIface) t')
 (hd : ty t = some d) (hu : d.u = .interface ms) : RdOk P nt o (rIfNil neg (src nt x)) := by
 intro tm h v hf B ρ a w ht hh
 have hx := src_ok ht x
 obtain ⟨ht', _⟩ := hT t d hd
 rw [hu] at ht'
 have hex : ∀ {u : Value} {b : Bool}, a.eval x = u → ((u = .nilIface ∧ b = true) ∨ (∃ k y, u = .iface k y) ∧ b = false) → ∀ w', (execOp a.eval o).run P w' = .ok (.value (.bool (b != neg))) w' := by
  intro u b e1 hv w'
  have hb := run_if_nil ht' w' hv neg
  have hg : (eqGuard (if neg then .neq else .eql) t x (.const .nilIface) u .nilIface).run P w' = .ok () w' := by
   unfold eqGuard
   rcases hv with ⟨rfl, _⟩ | ⟨⟨k, y, rfl⟩, _⟩ <;> cases neg <;> simp
  have e2 : a.eval (.const .nilIface) = .nilIface := rfl
  simp only [execOp, ho, e1, e2, Sem.run_bind, hg, Result.andThen_ok, hb, Sem.run_pure]
 unfold rIfNil at hf
 split at hf
 ·rename_i h1
  rw [h1] at hx
  generalize e1 : a.eval x = x' at hx
  cases hx
  cases hf
  exact ⟨.bool (!neg), .bool _, fun w' _ => by have := hex (b := true) e1 (.inl ⟨rfl, rfl⟩) w'; simpa using this⟩
 ·rename_i k y h1
  rw [h1] at hx
  generalize e1 : a.eval x = x' at hx
  cases hx with
  | iface _ _ u hu' =>
   cases hf
   exact ⟨.bool neg, .bool _, fun w' _ => by have := hex (b := false) e1 (.inr ⟨⟨_, _, rfl⟩, rfl⟩) w'; simpa using this⟩
 ·cases hf
noncomputable def revB (b : Nat) (h : Heap) : Heap :=
 match hget h b with
 | some (.was _ _ _ _ _) => reviveH 30 h b
 | _ => h
noncomputable def revV (v : Value) (h : Heap) : Heap :=
 match v with
 | .slice (some a) _ _ => revB a.block h
 | .pointer (some a) => revB a.block h
 | _ => h
theorem HRel.revV {B : Bd} {ρ : Rho} {h : Heap} {w : World} (H : HRel B ρ h w) (v : Value) : HRel B ρ (Xm.revV v h) w := by
 have hb : ∀ b, HRel B ρ (revB b h) w := fun b => by
  unfold revB
  split
  ·exact H.reviveH 30 _
  ·exact H
 unfold Xm.revV
 split
 ·exact hb _
 ·exact hb _
 ·exact H
noncomputable def rRev (b : Bool) (x : Src) (f : RF) : RF :=
 match b with
 | true => fun tm h => f tm (revV (ev tm x) h)
 | false => f
theorem rRev_ok {P : Program} {nt : Nat} {o : Oper} {b : Bool} {x : Src} {f : RF} (hp : RdOk P nt o f) : RdOk P nt o (rRev b x f) := by
 cases b with
 | false => exact hp
 | true =>
  intro tm h v hf B ρ a w ht hh
  exact hp tm _ v hf B ρ a w ht (hh.revV _)
noncomputable def compOp (E : Env) (nt : Nat) (o : Oper) : Ins :=
 match dstP nt o.dst with
 | none => .bad
 | some d =>
  match o.op with
  | .move x => .rd d (rMove (src nt x))
  | .assign x => .rd d (rMove (src nt x))
  | .pick c x y => .rd d (rPick (src nt c) (src nt x) (src nt y))
  | .binOp op t x y _ => match ptrOp op with
   | some neg => match E.ty t with
    | some D => match D.u with
     | .pointer e => match E.ty e with
      | some De => match De.size with
       | 0 => .bad
       | _ + 1 => .rd d (rPtrEq neg (src nt x) (src nt y) (rPure E.P nt o))
      | none => .bad
     | .struct fs => match ((fs.toList.all fun f => f.name != "_") && (!E.P.stoodInHeld t && !E.P.eqGuardType E.P.depth t)) with
      | true => .rd d (rEqS neg E.ty fs.toList (src nt x) (src nt y) (rBinE E.fast E.P nt o op (src nt x) (src nt y)))
      | false => .rd d (rBinE E.fast E.P nt o op (src nt x) (src nt y))
     | .slice _ => .rd d (rSliceNil neg (src nt x) (src nt y))
     | .map _ _ => .rd d (rMapNil neg (src nt x) (src nt y))
     | .interface _ => match y with
      | .const .nilIface => .rd d (rIfNil neg (src nt x))
      | _ => .rd d (rBinE E.fast E.P nt o op (src nt x) (src nt y))
     | _ => .rd d (rBinE E.fast E.P nt o op (src nt x) (src nt y))
    | none => .rd d (rBinE E.fast E.P nt o op (src nt x) (src nt y))
   | none => .rd d (rBinE E.fast E.P nt o op (src nt x) (src nt y))
  | .nilCheck x => .rd d (rNil (src nt x))
  | .extract x k => .rd d (rExtract k (src nt x))
  | .makeFunc fn f c => .rd d (rFunc nt fn f.toList c.toList)
  | .box e x => .ef d (eBox (src nt x) e)
  | .load t x => match globOf E t x with
   | some v => .rd d (rGlob v)
   | none => match E.ty t with
    | some D => match aggB D.u with
     | true => .rd d (rRev E.fast (src nt x) (rLoadN D.size (src nt x)))
     | false => .rd d (rRev E.fast (src nt x) (rLoad1 (src nt x)))
    | none => .bad
  | .makeInterface t x => match E.ty t with
   | some D => match ifaceB D.u with
    | false => .rd d (rIface t (src nt x))
    | true => .bad
   | none => .bad
  | .store t x y => match E.ty t with
   | some D => match Nat.beq D.size 0 with
    | true => .ef d (eStore0 (src nt x) (src nt y))
    | false => .ef d (eStore D.size (src nt x) (src nt y))
   | none => .bad
  | .alloc e => match E.ty e with
   | some D => match D.zero.cells.toList.all closedV with
    | true => .ef d (eAlloc D.zero.cells.toList e)
    | false => .bad
   | none => .bad
  | .fieldAddr s x k => match E.ty s with
   | some D => match D.u with
    | .struct fs => match fs[k]? with
     | some f => match E.ty f.type with
      | some Df => match Df.size with
       | 0 => .bad
       | _ + 1 => .rd d (rFieldAddr f.offset (src nt x))
      | none => .bad
     | none => .bad
    | _ => .bad
   | none => .bad
  | .indexAddr t x i => match E.ty t with
   | some D => match D.u with
    | .slice e => match E.ty e with
     | some De => .rd d (rIdxS De.size (src nt x) (src nt i))
     | none => .bad
    | .array len e => match E.ty e with
     | some De => .rd d (rIdxA len De.size (src nt x) (src nt i))
     | none => .bad
    | _ => .bad
   | none => .bad
  | .slice t x lo hi mx => match E.ty t with
   | some D => match D.u with
    | .slice e => match E.ty e with
     | some De => .rd d (rRev E.fast (src nt x) (rCutS nt De.size (src nt x) lo hi mx))
     | none => .bad
    | .string => match mx with
     | none => .rd d (rCutT nt (src nt x) lo hi (rPure E.P nt o))
     | some _ => .rd d (rPure E.P nt o)
    | _ => .rd d (rPure E.P nt o)
   | none => .bad
  | .build t parts => match E.ty t with
   | some D => match D.zero.cells.toList.all closedV with
    | true => match D.u with
     | .struct fs => match placesOf E.ty fs.toList with
      | some l => .rd d (rBuild nt (fun i => l.toArray[i]?) D.zero.cells parts.toList)
      | none => .bad
     | .array _ e => match E.ty e with
      | some De => .rd d (rBuild nt (fun i => some (i * De.size, De.size)) D.zero.cells parts.toList)
      | none => .bad
     | _ => .bad
    | false => .bad
   | none => .bad
  | .buildSlice t len parts => match E.ty t with
   | some D => match D.u with
    | .slice e => match E.ty e with
     | some De => match (Nat.ble (len * De.size) 16777216 && (bsBase De.zero.cells (len * De.size)).toList.all closedV) with
      | true => .ef d (eBuildSlice nt De.size (len * De.size) len e De.zero.cells parts.toList)
      | false => .bad
     | none => .bad
    | _ => .bad
   | none => .bad
  | .call c => match c.callee with
   | .value f => .call d (src nt f) (c.args.toList.map (src nt))
   | .invoke r name => .call d (.k mark1) (.k (.tuple (mtab (E.meth name)).toArray) :: src nt r :: c.args.toList.map (src nt))
   | .builtin .append => match c.args.toList, c.argTypes.toList with
    | [s, x], [t, xt] => match E.ty t, E.ty xt with
     | some D, some Dx => match D.u with
      | .slice e => match E.ty e with
       | some De => match (Nat.beq De.zero.cells.size De.size && Nat.ble 1 De.size && (match Dx.u with | .string => true | .slice _ => true | _ => false)) with
        | true => .ef d (eAppend false De.size De.bytes e (src nt s) (src nt x))
        | false => .bad
       | none => .bad
      | _ => .bad
     | _, _ => .bad
    | _, _ => .bad
   | .builtin .len => match c.args.toList, c.argTypes.toList with
    | [x], [t] => match E.ty t with
     | some D => match D.u with
      | .slice _ => .rd d (rLen (src nt x))
      | .map _ _ => .rd d (rMapLen (src nt x))
      | _ => .rd d (rPure E.P nt o)
     | none => .bad
    | _, _ => .bad
   | .builtin .cap => match c.args.toList, c.argTypes.toList with
    | [x], [t] => match E.ty t with
     | some D => match D.u with
      | .slice _ => .rd d (rCap (src nt x) (rPure E.P nt o))
      | _ => .rd d (rPure E.P nt o)
     | none => .bad
    | _, _ => .bad
   | .builtin .clear => match c.args.toList, c.argTypes.toList with
    | [x], [t] => match E.ty t with
     | some D => match D.u with
      | .slice e => match E.ty e with
       | some De => .ef d (eClear De.zero.cells (src nt x))
       | none => .bad
      | .map _ _ => .ef d (eMapClear (src nt x))
      | _ => .bad
     | none => .bad
    | _, _ => .bad
   | .builtin .delete => match c.args.toList, c.argTypes.toList with
    | [m, i], [t, _] => match E.ty t with
     | some D => match D.u with
      | .map key _ => match keyN E.ty key with
       | some n => .ef d (eMapDelete n (src nt m) (src nt i))
       | none => .bad
      | _ => .bad
     | none => .bad
    | _, _ => .bad
   | .builtin .unsafeSliceData => match c.args.toList with
    | [x] => .rd d (rSliceData (src nt x))
    | _ => .bad
   | .builtin .unsafeString => match c.args.toList, c.argTypes.toList with
    | [x, y], [pt, _] => match E.ty pt with
     | some D => match D.u with
      | .pointer e => match E.ty e with
       | some De => match De.size with
        | 1 => .ef d (fun tm h c => match eUnsafeString (src nt x) (src nt y) tm h c with
         | some r => match ev tm (src nt x) with
          | .pointer (some a) => match hget h a.block with
           | some (.cells _ _ e' _) => match Nat.beq e' e with
            | true => some r
            | false => none
           | _ => none
          | _ => some r
         | none => none)
        | _ => .bad
       | none => .bad
      | _ => .bad
     | none => .bad
    | _, _ => .bad
   | .builtin _ => .rd d (rPure E.P nt o)
  | .unOp _ _ _ => .rd d (rPure E.P nt o)
  | .convert s t x => match E.ty s, E.ty t with
   | some Ds, some Dt => match Ds.u, Dt.u with
    | .pointer e, .unsafePointer => match E.ty e with
     | some De => match De.size with
      | 0 => .bad
      | _ + 1 => .rd d (rToUnsafe (src nt x) (rPure E.P nt o))
     | none => .bad
    | .unsafePointer, .pointer u => match E.ty u with
     | some _ => .rd d (rFromUnsafe E.P u (src nt x) (rPure E.P nt o))
     | none => .bad
    | .slice e, .string => match E.ty e with
     | some De => match De.u with
      | .int .u8 => .rd d (rBytesS (src nt x) (rPure E.P nt o))
      | _ => .rd d (rPure E.P nt o)
     | none => .rd d (rPure E.P nt o)
    | _, _ => .rd d (rPure E.P nt o)
   | _, _ => .rd d (rPure E.P nt o)
  | .field t x k => .rd d (rField E.ty t k (src nt x) (rPure E.P nt o))
  | .index t x i => match E.ty t with
   | some D => match D.u with
    | .string => .rd d (rIdxT (src nt x) (src nt i) (rPure E.P nt o))
    | .array len e => match E.ty e with
     | some De => match (Nat.beq De.size 1 && !(aggB De.u)) with
      | true => .rd d (rIdxV len (src nt x) (src nt i) (rPure E.P nt o))
      | false => .rd d (rPure E.P nt o)
     | none => .rd d (rPure E.P nt o)
    | _ => .rd d (rPure E.P nt o)
   | none => .rd d (rPure E.P nt o)
  | .makeMap _ none => .ef d eMakeMap
  | .lookup t x i ok => match E.ty t with
   | some D => match D.u with
    | .map key elem => match keyN E.ty key, E.ty elem with
     | some n, some De => .rd d (rLookup n (src nt x) (src nt i) De.zero ok)
     | _, _ => .bad
    | _ => .bad
   | none => .bad
  | .mapUpdate t m k x => match E.ty t with
   | some D => match D.u with
    | .map key _ => match keyN E.ty key with
     | some n => .ef d (eMapUpdate n (src nt m) (src nt k) (src nt x))
     | none => .bad
    | _ => .bad
   | none => .bad
  | .typeAssert x _ a ok => match E.ty a with
   | some D => match ifaceB D.u with
    | true => .bad
    | false => .rd d (rAssert a D.zero ok (src nt x))
   | none => .bad
  | _ => .bad
def CallsAs (E : Env) (nt : Nat) (o : Oper) (f : Src) (args : List Src) : Prop :=
 ∀ (ρ : Rho) (tm : Tr) (a : Act), TRel ρ nt tm a → ∀ k xs, calleeV (ev tm f) (args.map (ev tm)) = some (k, xs) → ∃ xs', Cells ρ xs xs' ∧ ∀ w, (execOp a.eval o).run E.P w = (callFunc k xs'.toArray).run E.P w
theorem resolve_value {P : Program} (a : Act) (c : Call) (fo : Operand) (ty : TypeId) (w : World) (k : FuncId) (f b : Array Value) (hc : c.callee = .value fo) (hf : a.eval fo = .func (.func k) f b) :
 ((do let d ← resolve a.eval c ty; invoke d.target d.args) : Sem Next).run P w = (callFunc k (f ++ c.args.map a.eval ++ b)).run P w := by
 simp [resolve, hc, Deferred.ofValue, hf, invoke]
theorem cells_src {ρ : Rho} {nt : Nat} {tm : Tr} {a : Act} (ht : TRel ρ nt tm a) (l : List Operand) : Cells ρ ((l.map (src nt)).map (ev tm)) (l.map a.eval) := by
 refine ⟨by simp, fun i u u' q1 q2 => ?_⟩
 simp only [List.map_map, List.getElem?_map, Option.map_eq_some_iff, Function.comp] at q1 q2
 obtain ⟨x, x1, x2⟩ := q1
 obtain ⟨y, y1, y2⟩ := q2
 rw [x1] at y1
 cases y1
 rw [← x2, ← y2]
 exact src_ok ht x
theorem callsAs_value {E : Env} {nt : Nat} {o : Oper} {cc : Call} {fo : Operand} (ho : o.op = .call cc) (hcal : cc.callee = .value fo) : CallsAs E nt o (src nt fo) (cc.args.toList.map (src nt)) := by
 intro ρ tm a ht k xs hx
 have hfo := src_ok ht fo
 generalize e0 : ev tm (src nt fo) = v at hx hfo
 unfold calleeV at hx
 split at hx
 ·rename_i k' fa fb
  cases hx
  generalize e1 : a.eval fo = fo' at hfo
  cases hfo with
  | func fn f f' b b' hf hb r1 r2 =>
   refine ⟨f'.toList ++ (cc.args.toList.map a.eval) ++ b'.toList, Cells.append (Cells.append ⟨by simpa using hf, fun i u u' q1 q2 => r1 i u u' (by simpa using q1) (by simpa using q2)⟩ (cells_src ht _)) ⟨by simpa using hb, fun i u u' q1 q2 => r2 i u u' (by simpa using q1) (by simpa using q2)⟩, fun w => ?_⟩
   have hrun := resolve_value (P := E.P) a cc fo o.type w k f' b' hcal e1
   have harr : (f' ++ cc.args.map a.eval ++ b') = (f'.toList ++ (cc.args.toList.map a.eval) ++ b'.toList).toArray := by
    apply Array.ext'; simp
   rw [harr] at hrun
   rw [← hrun]; simp only [execOp, ho]
 ·exact absurd hfo (fun q => mark1_none q)
 ·cases hx
theorem callsAs_invoke {E : Env} (hE : E.Ok) {nt : Nat} {o : Oper} {cc : Call} {r : Operand} {name : String} (ho : o.op = .call cc) (hcal : cc.callee = .invoke r name) :
 CallsAs E nt o (.k mark1) (.k (.tuple (mtab (E.meth name)).toArray) :: src nt r :: cc.args.toList.map (src nt)) := by
 intro ρ tm a ht k xs hx
 have hr := src_ok ht r
 have hx : (match ev tm (src nt r) with | .iface t v => (match methB (mtab (E.meth name)) t with | some k => some (k, v :: (cc.args.toList.map (src nt)).map (ev tm)) | none => none) | _ => none) = some (k, xs) := by
  rw [← hx]
  show _ = calleeV mark1 (.tuple (mtab (E.meth name)).toArray :: ev tm (src nt r) :: (cc.args.toList.map (src nt)).map (ev tm))
  generalize ev tm (src nt r) = u
  cases u <;> rfl
 generalize e0 : ev tm (src nt r) = u at hx hr
 split at hx
 ·rename_i t v
  split at hx
  ·rename_i k' hk
   cases hx
   generalize e1 : a.eval r = r' at hr
   cases hr with
   | iface t v v' hv =>
    refine ⟨v' :: cc.args.toList.map a.eval, Cells.append (a := [v]) (c := [v']) ⟨rfl, fun i x x' q1 q2 => by
     cases i with
     | zero => simp at q1 q2; subst q1; subst q2; exact hv
     | succ i => simp at q1⟩ (cells_src ht _), fun w => ?_⟩
    have hm := hE.meth name t k (methB_mem hk) v' (cc.args.map a.eval) w
    have harr : (#[v'] ++ cc.args.map a.eval) = (v' :: cc.args.toList.map a.eval).toArray := by
     apply Array.ext'; simp
    rw [harr] at hm
    rw [← hm]
    have hex : ((#[Value.iface t v'] ++ cc.args.map a.eval).extract 1 (#[Value.iface t v'] ++ cc.args.map a.eval).size) = cc.args.map a.eval := by
     apply Array.ext'; simp [List.take_of_length_le]
    have hg : (#[Value.iface t v'] ++ cc.args.map a.eval)[0]? = some (Value.iface t v') := by
     rw [← Array.getElem?_toList]; simp
    have hx0 : (cc.args.map a.eval).extract 0 cc.args.size = cc.args.map a.eval := by
     apply Array.ext'; simp [List.take_of_length_le]
    simp only [execOp, ho, resolve, hcal, e1, invoke]
    simp
    rw [hg, hx0]
  ·cases hx
 ·cases hx
def RdI (E : Env) (nt : Nat) (o : Oper) (f : RF) : Prop :=
 (∀ tm h v, f tm h = some v → ∀ (B : Bd) (ρ : Rho) (a : Act) (w : World), TRel ρ nt tm a → HRel B ρ h w → E.inv w → E.G ≤ w.heap.size →
  ∃ v', VRel ρ v v' ∧ ∀ w', Below w.heap.size w w' → (execOp a.eval o).run E.P w' = .ok (.value v') w') ∧
 ∀ tm v, f tm [] = some v → ∀ (ρ : Rho) (a : Act) (w : World), TRel ρ nt tm a → ∃ v', VRel ρ v v' ∧ (execOp a.eval o).run E.P w = .ok (.value v') w
theorem RdOk.I {E : Env} {nt : Nat} {o : Oper} {f : RF} (h : RdOk E.P nt o f) : RdI E nt o f :=
 ⟨fun tm hp v hf B ρ a w ht hh _ _ => h tm hp v hf B ρ a w ht hh, fun tm v hf ρ a w ht =>
  let ⟨v', h1, h2⟩ := h tm [] v hf (0 : Nat) ρ a w ht (HRel.nil _ _ _)
  ⟨v', h1, h2 w (Below.refl _ _)⟩⟩
theorem rGlob_ok {E : Env} (hE : E.Ok) {nt : Nat} {o : Oper} {t : TypeId} {x : Operand} {v : Value} (ho : o.op = .load t x) (hv : globOf E t x = some v) : RdI E nt o (rGlob v) := by
 cases x with
 | global g =>
  obtain ⟨h1, h2⟩ := hE.glob g t v hv
  refine ⟨fun tm h u hu B ρ a w ht hh hI hG => ?_, fun tm u hu => by cases hu⟩
  cases h with
  | nil => cases hu
  | cons p l =>
   cases hu
   refine ⟨v, VRel.plain_refl ρ h1, fun w' hb => ?_⟩
   have h3 := h2 w' (hE.keepN hG hI hb)
   simp only [execOp, ho, Act.eval]
   simp only [Sem.run_bind, h3, Result.andThen_ok, Sem.run_pure]
 | _ => cases hv
def InsOk (E : Env) (nt : Nat) (o : Oper) : Ins → Prop
 | .rd d f => dstP nt o.dst = some d ∧ RdI E nt o f
 | .ef d f => dstP nt o.dst = some d ∧ EfOk E.P nt o f
 | .call d f args => dstP nt o.dst = some d ∧ CallsAs E nt o f args
 | .bad => True
theorem arr2 {α : Type} {x : Array α} {a b : α} (h : x.toList = [a, b]) : x = #[a, b] := by
 apply Array.ext'; simpa using h
theorem arr1 {α : Type} {x : Array α} {a : α} (h : x.toList = [a]) : x = #[a] := by
 apply Array.ext'; simpa using h
set_option maxHeartbeats 4000000 in
theorem compOp_ok {E : Env} (hE : E.Ok) (nt : Nat) (o : Oper) : InsOk E nt o (compOp E nt o) := by
 have hT := hE.ty
 unfold compOp
 split
 ·trivial
 ·rename_i d hd
  have pure_ok : (∀ cs b, o.op ≠ .select cs b) → InsOk E nt o (.rd d (rPure E.P nt o)) := fun h => ⟨hd, RdOk.I (rPure_ok h)⟩
  split
  ·rename_i x ho; exact ⟨hd, RdOk.I (rMove_ok (.inl ho))⟩
  ·rename_i x ho; exact ⟨hd, RdOk.I (rMove_ok (.inr ho))⟩
  ·rename_i c x y ho; exact ⟨hd, RdOk.I (rPick_ok ho)⟩
  ·rename_i op t x y t' ho
   split
   ·rename_i neg hneg
    split
    ·rename_i D hD
     split
     ·rename_i e hu
      split
      ·rename_i De hDe
       split
       ·trivial
       ·rename_i m hm
        have ho' := ho
        rw [ptrOp_eq hneg] at ho'
        exact ⟨hd, RdOk.I (rPtrEq_ok hT ho' hD hu hDe (by rw [hm]; exact Nat.succ_ne_zero _) (rPure_ok (fun cs b e => by rw [ho] at e; cases e)))⟩
      ·trivial
     ·rename_i fs hu
      split
      ·rename_i hb
       simp only [Bool.and_eq_true, Bool.not_eq_true'] at hb
       have ho' := ho
       rw [ptrOp_eq hneg] at ho'
       exact ⟨hd, RdOk.I (rEqS_ok hT ho' hD hu hb.1 hb.2.1 hb.2.2 (rBinE_ok ho))⟩
      ·exact ⟨hd, RdOk.I (rBinE_ok ho)⟩
     ·rename_i e hu
      have ho' := ho
      rw [ptrOp_eq hneg] at ho'
      exact ⟨hd, RdOk.I (rSliceNil_ok hT ho' hD hu)⟩
     ·rename_i k1 e1 hu
      have ho' := ho
      rw [ptrOp_eq hneg] at ho'
      exact ⟨hd, RdOk.I (rMapNil_ok hT ho' hD hu)⟩
     ·rename_i ms hu
      split
      ·have ho' := ho
       rw [ptrOp_eq hneg] at ho'
       exact ⟨hd, RdOk.I (rIfNil_ok hT ho' hD hu)⟩
      ·exact ⟨hd, RdOk.I (rBinE_ok ho)⟩
     ·exact ⟨hd, RdOk.I (rBinE_ok ho)⟩
    ·exact ⟨hd, RdOk.I (rBinE_ok ho)⟩
   ·exact ⟨hd, RdOk.I (rBinE_ok ho)⟩
  ·rename_i x ho; exact ⟨hd, RdOk.I (rNil_ok ho)⟩
  ·rename_i x k ho; exact ⟨hd, RdOk.I (rExtract_ok ho)⟩
  ·rename_i fn f c ho; exact ⟨hd, RdOk.I (rFunc_ok ho)⟩
  ·rename_i e x ho; exact ⟨hd, eBox_ok ho⟩
  ·rename_i t x ho
   split
   ·rename_i v hv; exact ⟨hd, rGlob_ok hE ho hv⟩
   ·split
    ·rename_i D hD
     split
     ·rename_i hb; exact ⟨hd, RdOk.I (rRev_ok (rLoadN_ok hT ho hD hb))⟩
     ·rename_i hb; exact ⟨hd, RdOk.I (rRev_ok (rLoad1_ok hT ho hD hb))⟩
    ·trivial
  ·rename_i t x ho
   split
   ·rename_i D hD
    split
    ·rename_i hb; exact ⟨hd, RdOk.I (rIface_ok hT ho hD hb)⟩
    ·trivial
   ·trivial
  ·rename_i t x y ho
   split
   ·rename_i D hD
    split
    ·rename_i hz; exact ⟨hd, eStore0_ok hT ho hD (Nat.eq_of_beq_eq_true hz)⟩
    ·exact ⟨hd, eStore_ok hT ho hD⟩
   ·trivial
  ·rename_i e ho
   split
   ·rename_i D hD
    split
    ·rename_i hb; exact ⟨hd, eAlloc_ok hT ho hD hb⟩
    ·trivial
   ·trivial
  ·rename_i s x k ho
   split
   ·rename_i D hD
    split
    ·rename_i fs hu
     split
     ·rename_i f hf
      split
      ·rename_i Df hDf
       split
       ·trivial
       ·rename_i m hm; exact ⟨hd, RdOk.I (rFieldAddr_ok hT ho hD hu hf hDf (by rw [hm]; exact Nat.succ_ne_zero _))⟩
      ·trivial
     ·trivial
    ·trivial
   ·trivial
  ·rename_i t x i ho
   split
   ·rename_i D hD
    split
    ·rename_i e hu
     split
     ·rename_i De hDe; exact ⟨hd, RdOk.I (rIdxS_ok hT ho hD hu hDe)⟩
     ·trivial
    ·rename_i len e hu
     split
     ·rename_i De hDe; exact ⟨hd, RdOk.I (rIdxA_ok hT ho hD hu hDe)⟩
     ·trivial
    ·trivial
   ·trivial
  ·rename_i t x lo hi mx ho
   split
   ·rename_i D hD
    split
    ·rename_i e hu
     split
     ·rename_i De hDe; exact ⟨hd, RdOk.I (rRev_ok (rCutS_ok hT ho hD hu hDe))⟩
     ·trivial
    ·rename_i hu
     split
     ·exact ⟨hd, RdOk.I (rCutT_ok hT ho hD hu (rPure_ok (fun cs b e => by rw [ho] at e; cases e)))⟩
     ·exact pure_ok (fun cs b e => by rw [ho] at e; cases e)
    ·exact pure_ok (fun cs b e => by rw [ho] at e; cases e)
   ·trivial
  ·rename_i t parts ho
   split
   ·rename_i D hD
    split
    ·rename_i hz
     split
     ·rename_i fs hu
      split
      ·rename_i l hl; exact ⟨hd, RdOk.I (rBuildS_ok hT ho hD hu hz hl)⟩
      ·trivial
     ·rename_i len e hu
      split
      ·rename_i De hDe; exact ⟨hd, RdOk.I (rBuildA_ok hT ho hD hu hDe hz)⟩
      ·trivial
     ·trivial
    ·trivial
   ·trivial
  ·rename_i t len parts ho
   split
   ·rename_i D hD
    split
    ·rename_i e hu
     split
     ·rename_i De hDe
      split
      ·rename_i hb
       simp only [Bool.and_eq_true, Nat.ble_eq] at hb
       exact ⟨hd, eBuildSlice_ok hT ho hD hu hDe hb.1 hb.2⟩
      ·trivial
     ·trivial
    ·trivial
   ·trivial
  ·rename_i c ho
   have hns : ∀ cs b, o.op ≠ .select cs b := fun cs b e => by rw [ho] at e; cases e
   split
   ·rename_i f hf; exact ⟨hd, callsAs_value ho hf⟩
   ·rename_i r name hf; exact ⟨hd, callsAs_invoke hE ho hf⟩
   ·rename_i hc
    split
    ·rename_i s x t xt h1 h2
     split
     ·rename_i D Dx hD hDx
      split
      ·rename_i e hu
       split
       ·rename_i De hDe
        split
        ·rename_i hb
         simp only [Bool.and_eq_true, Nat.ble_eq] at hb
         obtain ⟨⟨b1, b2⟩, b3⟩ := hb
         have hO : o.op = .call { callee := .builtin .append, args := #[s, x], argTypes := #[t, xt] } := by
          rw [ho]
          obtain ⟨cc, ca, ct⟩ := c
          simp only at hc h1 h2
          rw [hc, arr2 h1, arr2 h2]
         have hN : NoInt Dx.u := by
          cases hdx : Dx.u <;> rw [hdx] at b3 <;> first | exact .inl rfl | exact .inr ⟨_, rfl⟩ | cases b3
         have hAp : ∀ kp, EfOk E.P nt o (eAppend kp De.size De.bytes e (src nt s) (src nt x)) := fun kp =>
          eAppend_ok (d := D) (dx := Dx) hT hO hD hu hDx hN hDe (Nat.eq_of_beq_eq_true b1) (by omega) kp
         refine ⟨hd, ?_⟩
         exact hAp false
        ·trivial
       ·trivial
      ·trivial
     ·trivial
    ·trivial
   ·rename_i hc
    split
    ·rename_i x t h1 h2
     split
     ·rename_i D hD
      split
      ·rename_i e hu
       refine ⟨hd, RdOk.I (rLen_ok (t := t) (d := D) (ts := #[t]) hT ?_ rfl hD hu)⟩
       rw [ho]
       obtain ⟨cc, ca, ct⟩ := c
       simp only at hc h1 h2
       rw [hc, arr1 h1, arr1 h2]
      ·rename_i k1 e1 hu
       refine ⟨hd, RdOk.I (rMapLen_ok (t := t) (d := D) (ts := #[t]) hT ?_ rfl hD hu)⟩
       rw [ho]
       obtain ⟨cc, ca, ct⟩ := c
       simp only at hc h1 h2
       rw [hc, arr1 h1, arr1 h2]
      ·exact pure_ok hns
     ·trivial
    ·trivial
   ·rename_i hc
    split
    ·rename_i x t h1 h2
     split
     ·rename_i D hD
      split
      ·rename_i e hu
       refine ⟨hd, RdOk.I (rCap_ok (t := t) (d := D) hT ?_ hD hu (rPure_ok hns))⟩
       rw [ho]
       obtain ⟨cc, ca, ct⟩ := c
       simp only at hc h1 h2
       rw [hc, arr1 h1, arr1 h2]
      ·exact pure_ok hns
     ·trivial
    ·trivial
   ·rename_i hc
    split
    ·rename_i x t h1 h2
     split
     ·rename_i D hD
      split
      ·rename_i e hu
       split
       ·rename_i De hDe
        refine ⟨hd, eClear_ok (t := t) (d := D) hT ?_ hD hu hDe⟩
        rw [ho]
        obtain ⟨cc, ca, ct⟩ := c
        simp only at hc h1 h2
        rw [hc, arr1 h1, arr1 h2]
       ·trivial
      ·rename_i k1 e1 hu
       refine ⟨hd, eMapClear_ok (t := t) (d := D) hT ?_ hD hu⟩
       rw [ho]
       obtain ⟨cc, ca, ct⟩ := c
       simp only at hc h1 h2
       rw [hc, arr1 h1, arr1 h2]
      ·trivial
     ·trivial
    ·trivial
   ·rename_i hc
    split
    ·rename_i m i t t2 h1 h2
     split
     ·rename_i D hD
      split
      ·rename_i k1 e1 hu
       split
       ·rename_i n hK
        refine ⟨hd, eMapDelete_ok (t := t) (t2 := t2) (d := D) hT ?_ hD hu (keyN_ok hT hK)⟩
        rw [ho]
        obtain ⟨cc, ca, ct⟩ := c
        simp only at hc h1 h2
        rw [hc, arr2 h1, arr2 h2]
       ·trivial
      ·trivial
     ·trivial
    ·trivial
   ·rename_i hc
    split
    ·rename_i x h1
     refine ⟨hd, RdOk.I (rSliceData_ok (ts := c.argTypes) ?_)⟩
     rw [ho]
     obtain ⟨cc, ca, ct⟩ := c
     simp only at hc h1
     rw [hc, arr1 h1]
    ·trivial
   ·rename_i hc
    split
    ·rename_i x y pt it h1 h2
     split
     ·rename_i D hD
      split
      ·rename_i e hu
       split
       ·rename_i De hDe
        split
        ·rename_i hsz
         refine ⟨hd, eUnsafeString_ok (pt := pt) (it := it) hT ?_ hD hu hDe hsz⟩
         rw [ho]
         obtain ⟨cc, ca, ct⟩ := c
         simp only at hc h1 h2
         rw [hc, arr2 h1, arr2 h2]
        ·trivial
       ·trivial
      ·trivial
     ·trivial
    ·trivial
   ·exact pure_ok hns
  ·rename_i ho; exact pure_ok (fun cs b e => by rw [ho] at e; cases e)
  ·rename_i s t x ho
   have hns : ∀ cs b, o.op ≠ .select cs b := fun cs b e => by rw [ho] at e; cases e
   split
   ·rename_i Ds Dt hs ht
    split
    ·rename_i e hus hut
     split
     ·rename_i De hDe
      split
      ·trivial
      ·rename_i m hm; exact ⟨hd, RdOk.I (rToUnsafe_ok hT ho hs hus ht hut hDe (by rw [hm]; exact Nat.succ_ne_zero _) (rPure_ok hns))⟩
     ·trivial
    ·rename_i u hus hut
     split
     ·rename_i Du hDu; exact ⟨hd, RdOk.I (rFromUnsafe_ok hT ho hs hus ht hut hDu (rPure_ok hns))⟩
     ·trivial
    ·rename_i e hus hut
     split
     ·rename_i De hDe
      split
      ·rename_i hDu; exact ⟨hd, RdOk.I (rBytesS_ok hT ho hs hus ht hut hDe hDu (rPure_ok hns))⟩
      ·exact pure_ok hns
     ·exact pure_ok hns
    ·exact pure_ok hns
   ·exact pure_ok hns
  ·rename_i t x k ho; exact ⟨hd, RdOk.I (rField_ok hT ho (rPure_ok (fun cs b e => by rw [ho] at e; cases e)))⟩
  ·rename_i t x i ho
   have hns : ∀ cs b, o.op ≠ .select cs b := fun cs b e => by rw [ho] at e; cases e
   split
   ·rename_i D hD
    split
    ·rename_i hu; exact ⟨hd, RdOk.I (rIdxT_ok hT ho hD hu (rPure_ok hns))⟩
    ·rename_i len e hu
     split
     ·rename_i De hDe
      split
      ·rename_i hb
       simp only [Bool.and_eq_true, Bool.not_eq_true'] at hb
       exact ⟨hd, RdOk.I (rIdxV_ok hT ho hD hu hDe (Nat.eq_of_beq_eq_true hb.1) hb.2 (rPure_ok hns))⟩
      ·exact pure_ok hns
     ·exact pure_ok hns
    ·exact pure_ok hns
   ·exact pure_ok hns
  ·rename_i t ho; exact ⟨hd, eMakeMap_ok ho⟩
  ·rename_i t x i ok ho
   split
   ·rename_i D hD
    split
    ·rename_i key elem hu
     split
     ·rename_i n De hK hEl
      exact ⟨hd, RdOk.I (rLookup_ok hT ho hD hu (keyN_ok hT hK) hEl)⟩
     ·trivial
    ·trivial
   ·trivial
  ·rename_i t m k x ho
   split
   ·rename_i D hD
    split
    ·rename_i key el hu
     split
     ·rename_i n hK
      exact ⟨hd, eMapUpdate_ok hT ho hD hu (keyN_ok hT hK)⟩
     ·trivial
    ·trivial
   ·trivial
  ·rename_i x t0 a ok ho
   split
   ·rename_i D hD
    split
    ·trivial
    ·rename_i hb; exact ⟨hd, RdOk.I (rAssert_ok hT ho hD hb)⟩
   ·trivial
  ·trivial
inductive GI where
 | ins (i : Ins)
 | g (p : List Bool) (want : Bool) (d : Option (List Bool)) (i : Ins)
 | bad
def dstAt : List Oper → Nat → Option Tmp
 | [], _ => none
 | o :: _, 0 => o.dst
 | _ :: l, n + 1 => dstAt l n
theorem dstAt_eq : ∀ (l : List Oper) (j : Nat), dstAt l j = (l[j]?).bind (·.dst)
 | [], _ => rfl
 | _ :: _, 0 => rfl
 | _ :: l, n + 1 => by simpa [dstAt] using dstAt_eq l n
noncomputable def compG (E : Env) (nt : Nat) (all : List Oper) (o : Oper) : GI :=
 match o.guard with
 | none => .ins (compOp E nt o)
 | some (j, want) => match dstP nt (dstAt all j), dstP nt o.dst with
  | some (some p), some d => .g p want d (compOp E nt o)
  | _, _ => .bad
def GIOk (E : Env) (nt : Nat) (all : List Oper) (o : Oper) : GI → Prop
 | .ins i => o.guard = none ∧ InsOk E nt o i
 | .g p want d i => ∃ j dj, o.guard = some (j, want) ∧ (all[j]?).bind (·.dst) = some dj ∧ dj < nt ∧ p = path 12 dj ∧ dstP nt o.dst = some d ∧ InsOk E nt o i
 | .bad => True
theorem compG_ok {E : Env} (hE : E.Ok) (nt : Nat) (all : List Oper) (o : Oper) : GIOk E nt all o (compG E nt all o) := by
 unfold compG
 split
 ·rename_i hg; exact ⟨hg, compOp_ok hE nt o⟩
 ·rename_i j want hg
  split
  ·rename_i p d hp hd
   cases hdj : dstAt all j with
   | none => rw [hdj] at hp; simp [dstP] at hp
   | some dj =>
    rw [hdj] at hp
    simp only [dstP] at hp
    split at hp
    ·rename_i hlt
     cases hp
     exact ⟨j, dj, hg, by rw [← dstAt_eq]; exact hdj, by simpa [Nat.blt_eq] using hlt, rfl, hd, compOp_ok hE nt o⟩
    ·cases hp
  ·trivial
def wantB (v : Value) (want : Bool) : Option Bool :=
 match v with
 | .bool b => match b, want with
  | true, true => some true
  | false, false => some true
  | _, _ => some false
 | .tuple _ => some false
 | _ => none
theorem wanted_of {ρ : Rho} {nt : Nat} {tm : Tr} {a : Act} (ht : TRel ρ nt tm a) {all : List Oper} {o : Oper} {j dj : Nat} {want : Bool} (hg : o.guard = some (j, want)) (hj : (all[j]?).bind (·.dst) = some dj) (hlt : dj < nt) {r : Bool}
 (hr : wantB (tm.get (path 12 dj)) want = some r) : Region.wanted o (yielded all.toArray a.tmps) = r := by
 have hv := ht.2.2 dj hlt
 have hsz : dj < a.tmps.size := by rw [ht.1]; exact hlt
 have hget : a.tmps[dj]? = some (a.tmps.getD dj undef) := by simp [hsz]
 have hy : yielded all.toArray a.tmps j = match a.tmps.getD dj undef with | .bool b => some b | _ => none := by
  unfold yielded
  have : (all.toArray[j]?).bind (·.dst) = some dj := by simpa using hj
  rw [this]
  simp only [Option.bind_some, hget]
  cases a.tmps.getD dj undef <;> rfl
 simp only [Region.wanted, hg, hy]
 generalize a.tmps.getD dj undef = x at hv
 generalize tm.get (path 12 dj) = y at hv hr
 unfold wantB at hr
 cases y with
 | bool b =>
  cases hv
  cases b <;> cases want <;> simp at hr <;> subst hr <;> rfl
 | tuple cs =>
  cases hv
  simp at hr
  subst hr
  rfl
 | _ => cases hr
inductive Os where
 | none
 | some (t : Tr) (h : Heap) (c : Nat)
abbrev CallF := Nat → List Value → Heap → Nat → Option (Value × Heap × Nat)
noncomputable def xins (call : CallF) (i : Ins) (tm : Tr) (h : Heap) (c : Nat) : Os :=
 Ins.casesOn i
  (fun d f => Option.casesOn (f tm h) .none (fun v => .some (putX d v tm) h c))
  (fun d f => Option.casesOn (f tm h c) .none (fun r => .some (putX d r.1 tm) r.2.1 r.2.2))
  (fun d f args => match calleeV (ev tm f) (args.map (ev tm)) with
   | some (k, xs) => Option.casesOn (call k xs h c) .none (fun r => .some (putX d r.1 tm) r.2.1 r.2.2)
   | none => .none)
  .none
noncomputable def xgi (call : CallF) (g : GI) (tm : Tr) (h : Heap) (c : Nat) : Os :=
 GI.casesOn g (fun i => xins call i tm h c)
  (fun p want d i => Option.casesOn (wantB (tm.get p) want) .none (fun b => Bool.casesOn b (.some (putX d undef tm) h c) (xins call i tm h c)))
  .none
noncomputable def xops (call : CallF) (l : List GI) : Tr → Heap → Nat → Os :=
 List.rec (fun tm h c => .some tm h c) (fun g _ ih tm h c => Os.casesOn (xgi call g tm h c) .none ih) l
def CallOk (E : Env) (call : CallF) : Prop :=
 ∀ k args h c v h' c', call k args h c = some (v, h', c') → ∀ (B : Bd) (ρ : Rho) (w : World) (args' : List Value), Cells ρ args args' → HRel B ρ h w → ρ.length = c → B.n ≤ w.heap.size → B.ge E.G → E.inv w →
  (∃ v', (callFunc k args'.toArray).run E.P w = .ok (.value v') w ∧ VRel ρ v v' ∧ h' = h ∧ c' = c) ∨
  ((callFunc k args'.toArray).run E.P w = .ok (.enter k args'.toArray) w ∧
   Calls E.P k args'.toArray w (fun e w' => ∃ v' ρ', e = .returned v' ∧ VRel ρ' v v' ∧ Rho.le ρ ρ' ∧ ρ'.length = c' ∧ HRel B ρ' h' w' ∧ Bel B w w'))
def Post (B : Bd) (nt : Nat) (ρ : Rho) (w : World) (ds : List Deferred) (tm' : Tr) (h' : Heap) (c' : Nat) (a' : Act) (w' : World) : Prop :=
 a'.defers = ds ∧ ∃ ρ', TRel ρ' nt tm' a' ∧ Rho.le ρ ρ' ∧ ρ'.length = c' ∧ HRel B ρ' h' w' ∧ Bel B w w'
theorem put_defers (a : Act) (d : Option Tmp) (v : Value) : (a.put d v).defers = a.defers := by cases d <;> rfl
theorem xins_ok {E : Env} {call : CallF} (hcall : CallOk E call) {nt : Nat} {o : Oper} {i : Ins} (hi : InsOk E nt o i) {tm tm' : Tr} {h h' : Heap} {c c' : Nat} (hx : xins call i tm h c = .some tm' h' c')
 {B : Bd} {ρ : Rho} {a : Act} {w : World} (ht : TRel ρ nt tm a) (hh : HRel B ρ h w) (hc : ρ.length = c) (hB : B.n ≤ w.heap.size) (hG : B.ge E.G) (hI : E.inv w) {K : Act → World → Prop} {Q : Exit → Act → World → Prop}
 (hK : ∀ a' w', Post B nt ρ w a.defers tm' h' c' a' w' → K a' w') : o.wp E.P a w K Q := by
 cases i with
 | rd d f =>
  obtain ⟨hd, hok⟩ := hi
  simp only [xins] at hx
  cases hf : f tm h with
  | none => rw [hf] at hx; cases hx
  | some v =>
   rw [hf] at hx
   cases hx
   obtain ⟨v', h1, h2⟩ := hok.1 tm h v hf B ρ a w ht hh hI (Nat.le_trans hG.1 hB)
   have hr := h2 w (Below.refl _ _)
   unfold Oper.wp
   rw [hr]
   exact hK _ _ ⟨put_defers _ _ _, ρ, putX_ok ht hd h1, Rho.le_refl ρ, hc, hh, Bel.refl B w⟩
 | ef d f =>
  obtain ⟨hd, hok⟩ := hi
  simp only [xins] at hx
  cases hf : f tm h c with
  | none => rw [hf] at hx; cases hx
  | some r =>
   obtain ⟨v, hp, cp⟩ := r
   rw [hf] at hx
   cases hx
   obtain ⟨v', w', ρ', h1, h2, h3, h4, h5, h6⟩ := hok tm h c v _ _ hf B ρ a w ht hh hc hB
   unfold Oper.wp
   have hp := hK (a.put o.dst v') w' ⟨put_defers _ _ _, ρ', putX_ok (ht.mono h3) hd h2, h3, h4, h5, h6⟩
   rcases h1 with h1 | ⟨h1, rfl⟩
   ·rw [h1]; exact hp
   ·rw [h1]; exact hp
 | call d f args =>
  obtain ⟨hd, hcs⟩ := hi
  simp only [xins] at hx
  split at hx
  ·rename_i k xs hev
   obtain ⟨xs', hargs, hex⟩ := hcs ρ tm a ht k xs hev
   cases hcl : call k xs h c with
   | none => rw [hcl] at hx; cases hx
   | some r =>
    obtain ⟨v, hp, cp⟩ := r
    rw [hcl] at hx
    cases hx
    rcases hcall k _ h c v _ _ hcl B ρ w _ hargs hh hc hB hG hI with ⟨v', q1, q2, rfl, rfl⟩ | ⟨q1, q2⟩
    ·unfold Oper.wp
     rw [hex, q1]
     exact hK _ _ ⟨put_defers _ _ _, ρ, putX_ok ht hd q2, Rho.le_refl ρ, hc, hh, Bel.refl B w⟩
    ·unfold Oper.wp
     rw [hex, q1]
     refine q2.mono ?_
     rintro e w' ⟨v', ρ', rfl, p1, p2, p3, p4, p5⟩
     exact hK _ _ ⟨put_defers _ _ _, ρ', putX_ok (ht.mono p2) hd p1, p2, p3, p4, p5⟩
  ·cases hx
 | bad => cases hx
theorem xops_pre {E : Env} {call : CallF} (hE : E.Ok) (hcall : CallOk E call) {nt : Nat} {all : List Oper} {Q : Exit → Act → World → Prop} (l2 : List Oper) : ∀ (l : List Oper) (gs : List GI), gs.length = l.length → (∀ (i : Nat) o g, l[i]? = some o → gs[i]? = some g → GIOk E nt all o g) →
 ∀ (tm tm' : Tr) (h h' : Heap) (c c' : Nat), xops call gs tm h c = .some tm' h' c' → ∀ (B : Bd) (ρ : Rho) (a : Act) (w : World), TRel ρ nt tm a → HRel B ρ h w → ρ.length = c → B.n ≤ w.heap.size → B.ge E.G → E.inv w →
  (∀ a' w', Post B nt ρ w a.defers tm' h' c' a' w' → wpList E.P all.toArray Q l2 a' w') → wpList E.P all.toArray Q (l ++ l2) a w
 | [], gs, hl, hok, tm, tm', h, h', c, c', hx, B, ρ, a, w, ht, hh, hc, hB, hG, hI, hQ => by
  have : gs = [] := List.eq_nil_of_length_eq_zero (by simpa using hl)
  subst this
  simp only [xops] at hx
  cases hx
  exact hQ a w ⟨rfl, ρ, ht, Rho.le_refl ρ, hc, hh, Bel.refl B w⟩
 | o :: l, [], hl, hok, tm, tm', h, h', c, c', hx, B, ρ, a, w, ht, hh, hc, hB, hG, hI, hQ => by simp at hl
 | o :: l, g :: gs, hl, hok, tm, tm', h, h', c, c', hx, B, ρ, a, w, ht, hh, hc, hB, hG, hI, hQ => by
  have hg := hok 0 o g rfl rfl
  have hok' : ∀ (i : Nat) o g, l[i]? = some o → gs[i]? = some g → GIOk E nt all o g := fun i o' g' e1 e2 => hok (i + 1) o' g' (by simpa using e1) (by simpa using e2)
  have hx0 : xops call (g :: gs) tm h c = Os.casesOn (motive := fun _ => Os) (xgi call g tm h c) .none (xops call gs) := rfl
  rw [hx0] at hx
  cases hgi : xgi call g tm h c with
  | none => rw [hgi] at hx; cases hx
  | some tm1 h1 c1 =>
   rw [hgi] at hx
   have hx' : xops call gs tm1 h1 c1 = .some tm' h' c' := hx
   -- the rest, from any later state
   have rest : ∀ a' w', Post B nt ρ w a.defers tm1 h1 c1 a' w' → wpList E.P all.toArray Q (l ++ l2) a' w' := by
    intro a' w' hp
    obtain ⟨d1, ρ1, t1, l1, n1, r1, b1⟩ := hp
    refine xops_pre hE hcall l2 l gs (by simpa using hl) hok' tm1 tm' h1 h' c1 c' hx' B ρ1 a' w' t1 r1 n1 (Nat.le_trans hB b1.size) hG (hE.keep hG hI b1) (fun a2 w2 hp2 => ?_)
    obtain ⟨d2, ρ2, t2, l2, n2, r2, b2⟩ := hp2
    exact hQ a2 w2 ⟨d2.trans d1, ρ2, t2, Rho.le_trans l1 l2, n2, r2, b1.trans b2⟩
   refine wpList_step (rest := l ++ l2) (fun K hK => ?_)
   have rest' : ∀ a' w', Post B nt ρ w a.defers tm1 h1 c1 a' w' → K a' w' := fun a' w' hp => hK _ _ (rest a' w' hp)
   cases g with
   | ins i =>
    obtain ⟨hgd, hi⟩ := hg
    rw [if_pos (by simp [Region.wanted, hgd])]
    exact xins_ok hcall hi hgi ht hh hc hB hG hI rest'
   | g p want d i =>
    obtain ⟨j, dj, q1, q2, q3, q4, q5, q6⟩ := hg
    subst q4
    have hgi' : Option.casesOn (motive := fun _ => Os) (wantB (tm.get (path 12 dj)) want) .none (fun b => Bool.casesOn b (.some (putX d undef tm) h c) (xins call i tm h c)) = .some tm1 h1 c1 := hgi
    cases hw : wantB (tm.get (path 12 dj)) want with
    | none => rw [hw] at hgi'; cases hgi'
    | some r =>
     rw [hw] at hgi'
     have hwd := wanted_of ht q1 q2 q3 hw
     cases r with
     | true =>
      rw [if_pos hwd]
      exact xins_ok hcall q6 hgi' ht hh hc hB hG hI rest'
     | false =>
      rw [if_neg (by rw [hwd]; simp)]
      have hgi2 : Os.some (putX d undef tm) h c = .some tm1 h1 c1 := hgi'
      cases hgi2
      exact rest' _ _ ⟨put_defers _ _ _, ρ, putX_ok ht q5 (VRel.undef ρ), Rho.le_refl ρ, hc, hh, Bel.refl B w⟩
   | bad => cases hgi
theorem xops_ok {E : Env} {call : CallF} (hE : E.Ok) (hcall : CallOk E call) {nt : Nat} {all : List Oper} {Q : Exit → Act → World → Prop} (l : List Oper) (gs : List GI) (hl : gs.length = l.length) (hok : ∀ (i : Nat) o g, l[i]? = some o → gs[i]? = some g → GIOk E nt all o g)
 (tm tm' : Tr) (h h' : Heap) (c c' : Nat) (hx : xops call gs tm h c = .some tm' h' c') (B : Bd) (ρ : Rho) (a : Act) (w : World) (ht : TRel ρ nt tm a) (hh : HRel B ρ h w) (hc : ρ.length = c) (hB : B.n ≤ w.heap.size) (hG : B.ge E.G) (hI : E.inv w)
 (hQ : ∀ a' w', Post B nt ρ w a.defers tm' h' c' a' w' → Q .normal a' w') : wpList E.P all.toArray Q l a w := by
 have := xops_pre hE hcall (all := all) (Q := Q) [] l gs hl hok tm tm' h h' c c' hx B ρ a w ht hh hc hB hG hI (fun a' w' p => wpList_nil (hQ a' w' p))
 rwa [List.append_nil] at this
abbrev CallQ := Nat → List Value → Option Value
def CallQOk (E : Env) (h : Heap) (c : Nat) (call : CallQ) : Prop :=
 ∀ k args v, call k args = some v → plain v = true ∧ ∀ (B : Bd) (ρ : Rho) (w : World) (args' : List Value), Cells ρ args args' → HRel B ρ h w → ρ.length = c → E.G ≤ w.heap.size → E.inv w → ∀ w', Below w.heap.size w w' →
  ((callFunc k args'.toArray).run E.P w' = .ok (.value v) w' ∨
  ((callFunc k args'.toArray).run E.P w' = .ok (.enter k args'.toArray) w' ∧ Calls E.P k args'.toArray w' (fun e w'' => e = .returned v ∧ Below w'.heap.size w' w'')))
noncomputable def qins (call : CallQ) (i : Ins) (tm : Tr) (h : Heap) : Option Tr :=
 Ins.casesOn i
  (fun d f => Option.casesOn (f tm h) .none (fun v => .some (putX d v tm)))
  (fun _ _ => .none)
  (fun d f args => match calleeV (ev tm f) (args.map (ev tm)) with
   | some (k, xs) => Option.casesOn (call k xs) .none (fun v => .some (putX d v tm))
   | none => .none)
  .none
noncomputable def qgi (call : CallQ) (g : GI) (tm : Tr) (h : Heap) : Option Tr :=
 GI.casesOn g (fun i => qins call i tm h)
  (fun p want d i => Option.casesOn (wantB (tm.get p) want) .none (fun b => Bool.casesOn b (.some (putX d undef tm)) (qins call i tm h)))
  .none
noncomputable def qops (call : CallQ) (l : List GI) (h : Heap) : Tr → Option Tr :=
 List.rec (fun tm => .some tm) (fun g _ ih tm => Option.casesOn (qgi call g tm h) .none ih) l
theorem Cells.plain_eq {ρ : Rho} : ∀ {a b : List Value}, Cells ρ a b → a.all plain = true → b = a
 | [], [], _, _ => rfl
 | [], _ :: _, h, _ => by have := h.1; simp at this
 | _ :: _, [], h, _ => by have := h.1; simp at this
 | v :: a, v' :: b, h, hp => by
  simp only [List.all_cons, Bool.and_eq_true] at hp
  have e1 := (h.2 0 v v' rfl rfl).plain_eq hp.1
  have e2 := Cells.plain_eq (ρ := ρ) (a := a) (b := b) ⟨by have := h.1; simpa using this, fun i u u' x y => h.2 (i + 1) u u' (by simpa using x) (by simpa using y)⟩ hp.2
  rw [e1, e2]
theorem qins_ok {E : Env} {call : CallQ} {h : Heap} {c : Nat} (hcall : CallQOk E h c call) {nt : Nat} {o : Oper} {i : Ins} (hi : InsOk E nt o i) {tm tm' : Tr} (hx : qins call i tm h = some tm')
 {B : Bd} {ρ : Rho} {a : Act} {w : World} (ht : TRel ρ nt tm a) (hh : HRel B ρ h w) (hc : ρ.length = c) (hG : E.G ≤ w.heap.size) (hI : E.inv w) {K : Act → Prop}
 (hK : ∀ a', a'.defers = a.defers → TRel ρ nt tm' a' → K a') : o.quiet E.P a (fun w' => Below w.heap.size w w') K := by
 cases i with
 | rd d f =>
  obtain ⟨hd, hok⟩ := hi
  simp only [qins] at hx
  cases hf : f tm h with
  | none => rw [hf] at hx; cases hx
  | some v =>
   rw [hf] at hx
   cases hx
   obtain ⟨v', h1, h2⟩ := hok.1 tm h v hf B ρ a w ht hh hI hG
   refine ⟨v', fun w' hw' => ?_, hK _ (put_defers _ _ _) (putX_ok ht hd h1)⟩
   unfold Oper.quietAt
   rw [h2 w' hw']
   exact ⟨rfl, rfl⟩
 | ef d f => cases hx
 | call d f args =>
  obtain ⟨hd, hcs⟩ := hi
  simp only [qins] at hx
  split at hx
  ·rename_i k xs hev
   obtain ⟨xs', hargs, hex⟩ := hcs ρ tm a ht k xs hev
   cases hcl : call k xs with
   | none => rw [hcl] at hx; cases hx
   | some v =>
    rw [hcl] at hx
    cases hx
    obtain ⟨p2, p3⟩ := hcall k _ v hcl
    refine ⟨v, fun w' hw' => ?_, hK _ (put_defers _ _ _) (putX_ok ht hd (VRel.plain_refl ρ p2))⟩
    unfold Oper.quietAt
    rw [hex]
    rcases p3 B ρ w _ hargs hh hc hG hI w' hw' with q | ⟨q1, q2⟩
    ·rw [q]; exact ⟨rfl, rfl⟩
    ·rw [q1]
     exact ⟨rfl, q2.mono fun e w'' ⟨he, hb⟩ => ⟨he, hw'.trans (hb.mono hw'.size)⟩⟩
  ·cases hx
 | bad => cases hx
theorem qops_pre {E : Env} {call : CallQ} {h : Heap} {c : Nat} (hcall : CallQOk E h c call) {nt : Nat} {all : List Oper} {Q : Act → Prop} {B : Bd} {ρ : Rho} {w : World} (hh : HRel B ρ h w) (hc : ρ.length = c) (hG : E.G ≤ w.heap.size) (hI : E.inv w) (l2 : List Oper) : ∀ (l : List Oper) (gs : List GI), gs.length = l.length → (∀ (i : Nat) o g, l[i]? = some o → gs[i]? = some g → GIOk E nt all o g) →
 ∀ (tm tm' : Tr), qops call gs h tm = some tm' → ∀ (a : Act), TRel ρ nt tm a →
  (∀ a', a'.defers = a.defers → TRel ρ nt tm' a' → wpQuiet E.P all.toArray (fun w' => Below w.heap.size w w') Q l2 a') → wpQuiet E.P all.toArray (fun w' => Below w.heap.size w w') Q (l ++ l2) a
 | [], gs, hl, hok, tm, tm', hx, a, ht, hQ => by
  have : gs = [] := List.eq_nil_of_length_eq_zero (by simpa using hl)
  subst this
  simp only [qops] at hx
  cases hx
  exact hQ a rfl ht
 | o :: l, [], hl, hok, tm, tm', hx, a, ht, hQ => by simp at hl
 | o :: l, g :: gs, hl, hok, tm, tm', hx, a, ht, hQ => by
  have hg := hok 0 o g rfl rfl
  have hok' : ∀ (i : Nat) o g, l[i]? = some o → gs[i]? = some g → GIOk E nt all o g := fun i o' g' e1 e2 => hok (i + 1) o' g' (by simpa using e1) (by simpa using e2)
  have hx0 : qops call (g :: gs) h tm = Option.casesOn (motive := fun _ => Option Tr) (qgi call g tm h) .none (qops call gs h) := rfl
  rw [hx0] at hx
  cases hgi : qgi call g tm h with
  | none => rw [hgi] at hx; cases hx
  | some tm1 =>
   rw [hgi] at hx
   have hx' : qops call gs h tm1 = some tm' := hx
   have rest : ∀ a', a'.defers = a.defers → TRel ρ nt tm1 a' → wpQuiet E.P all.toArray (fun w' => Below w.heap.size w w') Q (l ++ l2) a' := fun a' d1 t1 =>
    qops_pre hcall hh hc hG hI l2 l gs (by simpa using hl) hok' tm1 tm' hx' a' t1 (fun a2 d2 t2 => hQ a2 (d2.trans d1) t2)
   refine wpQuiet_step (rest := l ++ l2) (fun K hK => ?_)
   have rest' : ∀ a', a'.defers = a.defers → TRel ρ nt tm1 a' → K a' := fun a' d1 t1 => hK _ (rest a' d1 t1)
   cases g with
   | ins i =>
    obtain ⟨hgd, hi⟩ := hg
    rw [if_pos (by simp [Region.wanted, hgd])]
    exact qins_ok hcall hi hgi ht hh hc hG hI rest'
   | g p want d i =>
    obtain ⟨j, dj, q1, q2, q3, q4, q5, q6⟩ := hg
    subst q4
    have hgi' : Option.casesOn (motive := fun _ => Option Tr) (wantB (tm.get (path 12 dj)) want) .none (fun b => Bool.casesOn b (.some (putX d undef tm)) (qins call i tm h)) = some tm1 := hgi
    cases hw : wantB (tm.get (path 12 dj)) want with
    | none => rw [hw] at hgi'; cases hgi'
    | some r =>
     rw [hw] at hgi'
     have hwd := wanted_of ht q1 q2 q3 hw
     cases r with
     | true =>
      rw [if_pos hwd]
      exact qins_ok hcall q6 hgi' ht hh hc hG hI rest'
     | false =>
      rw [if_neg (by rw [hwd]; simp)]
      have hgi2 : some (putX d undef tm) = some tm1 := hgi'
      cases hgi2
      exact rest' _ (put_defers _ _ _) (putX_ok ht q5 (VRel.undef ρ))
   | bad => cases hgi
theorem qops_ok {E : Env} {call : CallQ} {h : Heap} {c : Nat} (hcall : CallQOk E h c call) {nt : Nat} {all : List Oper} {Q : Act → Prop} {B : Bd} {ρ : Rho} {w : World} (hh : HRel B ρ h w) (hc : ρ.length = c) (hG : E.G ≤ w.heap.size) (hI : E.inv w) (l : List Oper) (gs : List GI) (hl : gs.length = l.length) (hok : ∀ (i : Nat) o g, l[i]? = some o → gs[i]? = some g → GIOk E nt all o g)
 (tm tm' : Tr) (hx : qops call gs h tm = some tm') (a : Act) (ht : TRel ρ nt tm a) (hQ : ∀ a', a'.defers = a.defers → TRel ρ nt tm' a' → Q a') : wpQuiet E.P all.toArray (fun w' => Below w.heap.size w w') Q l a := by
 have := qops_pre hcall (all := all) (Q := Q) hh hc hG hI [] l gs hl hok tm tm' hx a ht (fun a' p q => wpQuiet_nil (hQ a' p q))
 rwa [List.append_nil] at this
def noCall : CallQ := fun _ _ => none
theorem qins_still {E : Env} {nt : Nat} {o : Oper} {i : Ins} (hi : InsOk E nt o i) {tm tm' : Tr} {h : Heap} (hx : qins noCall i tm h = some tm')
 {B : Bd} {ρ : Rho} {a : Act} {w : World} (ht : TRel ρ nt tm a) (hh : HRel B ρ h w) (hG : E.G ≤ w.heap.size) (hI : E.inv w) {K : Act → Prop}
 (hK : ∀ a', a'.defers = a.defers → TRel ρ nt tm' a' → K a') : o.still E.P a w K := by
 cases i with
 | rd d f =>
  obtain ⟨hd, hok⟩ := hi
  simp only [qins] at hx
  cases hf : f tm h with
  | none => rw [hf] at hx; cases hx
  | some v =>
   rw [hf] at hx
   cases hx
   obtain ⟨v', h1, h2⟩ := hok.1 tm h v hf B ρ a w ht hh hI hG
   unfold Oper.still
   rw [h2 w (Below.refl _ _)]
   exact ⟨rfl, hK _ (put_defers _ _ _) (putX_ok ht hd h1)⟩
 | ef d f => cases hx
 | call d f args =>
  simp only [qins, noCall] at hx
  split at hx <;> cases hx
 | bad => cases hx
theorem qops_still_pre {E : Env} {nt : Nat} {all : List Oper} {Q : Act → Prop} {B : Bd} {ρ : Rho} {h : Heap} {w : World} (hh : HRel B ρ h w) (hG : E.G ≤ w.heap.size) (hI : E.inv w) (l2 : List Oper) : ∀ (l : List Oper) (gs : List GI), gs.length = l.length → (∀ (i : Nat) o g, l[i]? = some o → gs[i]? = some g → GIOk E nt all o g) →
 ∀ (tm tm' : Tr), qops noCall gs h tm = some tm' → ∀ (a : Act), TRel ρ nt tm a →
  (∀ a', a'.defers = a.defers → TRel ρ nt tm' a' → wpStill E.P all.toArray w Q l2 a') → wpStill E.P all.toArray w Q (l ++ l2) a
 | [], gs, hl, hok, tm, tm', hx, a, ht, hQ => by
  have : gs = [] := List.eq_nil_of_length_eq_zero (by simpa using hl)
  subst this
  simp only [qops] at hx
  cases hx
  exact hQ a rfl ht
 | o :: l, [], hl, hok, tm, tm', hx, a, ht, hQ => by simp at hl
 | o :: l, g :: gs, hl, hok, tm, tm', hx, a, ht, hQ => by
  have hg := hok 0 o g rfl rfl
  have hok' : ∀ (i : Nat) o g, l[i]? = some o → gs[i]? = some g → GIOk E nt all o g := fun i o' g' e1 e2 => hok (i + 1) o' g' (by simpa using e1) (by simpa using e2)
  have hx0 : qops noCall (g :: gs) h tm = Option.casesOn (motive := fun _ => Option Tr) (qgi noCall g tm h) .none (qops noCall gs h) := rfl
  rw [hx0] at hx
  cases hgi : qgi noCall g tm h with
  | none => rw [hgi] at hx; cases hx
  | some tm1 =>
   rw [hgi] at hx
   have hx' : qops noCall gs h tm1 = some tm' := hx
   have rest : ∀ a', a'.defers = a.defers → TRel ρ nt tm1 a' → wpStill E.P all.toArray w Q (l ++ l2) a' := fun a' d1 t1 =>
    qops_still_pre hh hG hI l2 l gs (by simpa using hl) hok' tm1 tm' hx' a' t1 (fun a2 d2 t2 => hQ a2 (d2.trans d1) t2)
   refine wpStill_step (rest := l ++ l2) (fun K hK => ?_)
   have rest' : ∀ a', a'.defers = a.defers → TRel ρ nt tm1 a' → K a' := fun a' d1 t1 => hK _ (rest a' d1 t1)
   cases g with
   | ins i =>
    obtain ⟨hgd, hi⟩ := hg
    rw [if_pos (by simp [Region.wanted, hgd])]
    exact qins_still hi hgi ht hh hG hI rest'
   | g p want d i =>
    obtain ⟨j, dj, q1, q2, q3, q4, q5, q6⟩ := hg
    subst q4
    have hgi' : Option.casesOn (motive := fun _ => Option Tr) (wantB (tm.get (path 12 dj)) want) .none (fun b => Bool.casesOn b (.some (putX d undef tm)) (qins noCall i tm h)) = some tm1 := hgi
    cases hw : wantB (tm.get (path 12 dj)) want with
    | none => rw [hw] at hgi'; cases hgi'
    | some r =>
     rw [hw] at hgi'
     have hwd := wanted_of ht q1 q2 q3 hw
     cases r with
     | true =>
      rw [if_pos hwd]
      exact qins_still q6 hgi' ht hh hG hI rest'
     | false =>
      rw [if_neg (by rw [hwd]; simp)]
      have hgi2 : some (putX d undef tm) = some tm1 := hgi'
      cases hgi2
      exact rest' _ (put_defers _ _ _) (putX_ok ht q5 (VRel.undef ρ))
   | bad => cases hgi
theorem qops_still {E : Env} {nt : Nat} {all : List Oper} {Q : Act → Prop} {B : Bd} {ρ : Rho} {h : Heap} {w : World} (hh : HRel B ρ h w) (hG : E.G ≤ w.heap.size) (hI : E.inv w) (l : List Oper) (gs : List GI) (hl : gs.length = l.length) (hok : ∀ (i : Nat) o g, l[i]? = some o → gs[i]? = some g → GIOk E nt all o g)
 (tm tm' : Tr) (hx : qops noCall gs h tm = some tm') (a : Act) (ht : TRel ρ nt tm a) (hQ : ∀ a', a'.defers = a.defers → TRel ρ nt tm' a' → Q a') : wpStill E.P all.toArray w Q l a := by
 have := qops_still_pre (all := all) (Q := Q) hh hG hI [] l gs hl hok tm tm' hx a ht (fun a' p q => wpStill_nil (hQ a' p q))
 rwa [List.append_nil] at this
noncomputable def frzH (h : Heap) : Heap := List.rec [] (fun p _ ih => XObj.casesOn p.2 (fun cs fz e es => (p.1, .cells cs (fz + (cs.length + 1)) e es) :: ih) (fun _ _ => ih) (fun _ => ih) (fun _ _ _ _ _ => ih) (fun _ => ih)) h
noncomputable def keysOk (h : Heap) : Bool := List.rec true (fun p t ih => Option.casesOn (hget t p.1) ih (fun _ => false)) h
theorem frzH_cells : ∀ (h : Heap), keysOk h = true → ∀ (i : Nat) (o' : XObj), hget (frzH h) i = some o' → ∃ cs fz e es, o' = .cells cs (fz + (cs.length + 1)) e es ∧ hget h i = some (.cells cs fz e es)
 | [], _, i, o', hi => by cases hi
 | p :: h, hk, i, o', hi => by
  have e1 : keysOk (p :: h) = Option.casesOn (motive := fun _ => Bool) (hget h p.1) (keysOk h) (fun _ => false) := rfl
  rw [e1] at hk
  cases hp : hget h p.1 with
  | some x => rw [hp] at hk; cases hk
  | none =>
   rw [hp] at hk
   have ih := frzH_cells h hk
   obtain ⟨j, o⟩ := p
   cases o with
   | cells cs fz e es =>
    have e0 : frzH ((j, .cells cs fz e es) :: h) = (j, .cells cs (fz + (cs.length + 1)) e es) :: frzH h := rfl
    rw [e0, hget_cons] at hi
    rw [hget_cons]
    by_cases q : j = i
    ·rw [if_pos q] at hi ⊢
     cases hi
     exact ⟨cs, fz, e, es, rfl, rfl⟩
    ·rw [if_neg q] at hi ⊢
     exact ih i o' hi
   | iter s pos =>
    have e0 : frzH ((j, .iter s pos) :: h) = frzH h := rfl
    rw [e0] at hi
    obtain ⟨cs, fz, e, es, g1, g2⟩ := ih i o' hi
    rw [hget_cons]
    by_cases q : j = i
    ·subst q
     have hp : hget h j = none := hp
     rw [hp] at g2; cases g2
    ·rw [if_neg q]
     exact ⟨cs, fz, e, es, g1, g2⟩
   | imap es' =>
    have e0 : frzH ((j, .imap es') :: h) = frzH h := rfl
    rw [e0] at hi
    obtain ⟨cs, fz, e, es, g1, g2⟩ := ih i o' hi
    rw [hget_cons]
    by_cases q : j = i
    ·subst q
     have hp : hget h j = none := hp
     rw [hp] at g2; cases g2
    ·rw [if_neg q]
     exact ⟨cs, fz, e, es, g1, g2⟩
   | was cs0 k0 fz0 el0 es0 =>
    have e0 : frzH ((j, .was cs0 k0 fz0 el0 es0) :: h) = frzH h := rfl
    rw [e0] at hi
    obtain ⟨cs, fz, e, es, g1, g2⟩ := ih i o' hi
    rw [hget_cons]
    by_cases q : j = i
    ·subst q
     have hp : hget h j = none := hp
     rw [hp] at g2; cases g2
    ·rw [if_neg q]
     exact ⟨cs, fz, e, es, g1, g2⟩
   | ext p =>
    have e0 : frzH ((j, .ext p) :: h) = frzH h := rfl
    rw [e0] at hi
    obtain ⟨cs, fz, e, es, g1, g2⟩ := ih i o' hi
    rw [hget_cons]
    by_cases q : j = i
    ·subst q
     have hp : hget h j = none := hp
     rw [hp] at g2; cases g2
    ·rw [if_neg q]
     exact ⟨cs, fz, e, es, g1, g2⟩
theorem frzH_noX {h : Heap} (hk : keysOk h = true) : noX (frzH h) := fun i p e => by
 obtain ⟨cs, fz, el, es, g1, g2⟩ := frzH_cells h hk i _ e
 cases g1
theorem HRel.frozen {B : Bd} {ρ : Rho} {h : Heap} {w : World} (H : HRel B ρ h w) (hk : keysOk h = true) (B' : Bd) : HRel B' ρ (frzH h) w := by
 refine ⟨fun i o' hi => ?_, fun i j o o' L L' h1 h2 h3 h4 n1 n2 _ _ hz hb => ?_, .none (frzH_noX hk)⟩
 ·obtain ⟨cs, fz, e, es, rfl, g2⟩ := frzH_cells h hk i o' hi
  obtain ⟨L, p1, _, p3⟩ := H.ok i _ g2
  refine ⟨L, p1, fun q => ?_, ?_⟩
  ·have : frz (.cells cs (fz + (cs.length + 1)) e es) = true := by
    show Nat.blt cs.length (fz + (cs.length + 1)) = true
    rw [Nat.blt_eq]; omega
   rw [this] at q; cases q
  ·obtain ⟨q0, q | ⟨C, fr, q1, q2, q3, q4, q5, q6⟩⟩ := p3
   ·exact ⟨q0, .inl q⟩
   ·exact ⟨q0, .inr ⟨C, fr, q1, q2, q3, q4, by omega, q6⟩⟩
 ·exfalso
  obtain ⟨cs, fz, e, es, rfl, g2⟩ := frzH_cells h hk i o h1
  obtain ⟨cs', fz', e', es', rfl, g2'⟩ := frzH_cells h hk j o' h2
  have fr : ∀ (cs : List Value) (fz : Nat) (e : TypeId) (es : Nat), frz (.cells cs (fz + (cs.length + 1)) e es) = true := fun cs fz e es => by
   show Nat.blt cs.length (fz + (cs.length + 1)) = true
   rw [Nat.blt_eq]; omega
  rcases hz with q | q <;> (rw [fr] at q; cases q)
end Go.Xm
