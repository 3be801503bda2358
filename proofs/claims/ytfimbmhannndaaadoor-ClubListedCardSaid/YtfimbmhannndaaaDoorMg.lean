/- The abstract machine, part 7: code, calls, and the theorem: what the machine answers, the model does. -/
import Derived.Test.YtfimbmhannndaaaDoorMo
import Derived.LoopN
import Derived.StillTail
namespace Go.Xm
open Go.RowKit
structure Env where
  P : Program
  ty : Nat → Option XTy
  fn : Nat → Option Func
  prim : Nat → Option (List Value → Option Value)
  ext : Nat → Option (List Value → Option Value)
  hprim : Nat → Option (List Value → Heap → Nat → Option (Value × Heap × Nat))
  same : Nat → Bool
  G : Nat
  inv : World → Prop
  keep : Bool
  inpl : Bool
structure Env.Ok (E : Env) : Prop where
  mixed : E.P.follows .mixedOrders = true
  ty : TyOk E.P E.ty
  fn : ∀ k F, E.fn k = some F → E.P.funcs[k]? = some F ∧ (F.name == "runtime.NumGoroutine") = false ∧ F.body.isSome = true
  prim : ∀ k g, E.prim k = some g → (∃ F, E.P.funcs[k]? = some F ∧ (F.name == "runtime.NumGoroutine") = false ∧ F.body.isSome = true) ∧
    ∀ args v, g args = some v → args.all plain = true ∧ plain v = true ∧ ∀ w, E.inv w → Calls E.P k args.toArray w (fun e w' => e = .returned v ∧ Below w.heap.size w w')
  ext : ∀ k g, E.ext k = some g → ∀ args v, g args = some v → args.all plain = true ∧ plain v = true ∧ ∀ w, (callFunc k args.toArray).run E.P w = .ok (.value v) w
  hprim : ∀ k g, E.hprim k = some g → (∃ F, E.P.funcs[k]? = some F ∧ (F.name == "runtime.NumGoroutine") = false ∧ F.body.isSome = true) ∧
    ∀ args h c v h' c', g args h c = some (v, h', c') → ∀ (B : Bd) (ρ : Rho) (w : World) (args' : List Value), Cells ρ args args' → HRel B ρ h w → ρ.length = c → B.n ≤ w.heap.size → B.ge E.G → E.inv w →
      Calls E.P k args'.toArray w (fun e w' => ∃ v' ρ', e = .returned v' ∧ VRel ρ' v v' ∧ Rho.le ρ ρ' ∧ ρ'.length = c' ∧ HRel B ρ' h' w' ∧ Bel B w w')
  keeps : ∀ w w', E.inv w → (∀ k, k < E.G → w'.heap[k]? = w.heap[k]?) → E.inv w'
  same : ∀ k, E.same k = true → ∀ v w, (callFunc k #[v]).run E.P w = .ok (.value v) w
theorem Bd.ge_not {B : Bd} {G k : Nat} (hG : B.ge G) (hk : k < G) : ¬ B.may k := fun q => by
  rcases q with q | q
  · exact absurd (Nat.lt_of_lt_of_le hk (Nat.le_trans hG.1 q)) (Nat.lt_irrefl _)
  · exact absurd (Nat.lt_of_lt_of_le hk (hG.2 k q)) (Nat.lt_irrefl _)
theorem Env.Ok.keep {E : Env} (hE : E.Ok) {B : Bd} {w w' : World} (hG : B.ge E.G) (hI : E.inv w) (b : Bel B w w') : E.inv w' :=
  hE.keeps w w' hI (fun k hk => b.block k (Bd.ge_not hG hk))
theorem Env.Ok.keepN {E : Env} (hE : E.Ok) {n : Nat} {w w' : World} (hG : E.G ≤ n) (hI : E.inv w) (b : Below n w w') : E.inv w' :=
  hE.keeps w w' hI (fun k hk => b.block k (Nat.lt_of_lt_of_le hk hG))
theorem run_callFunc_go {P : Program} {k : FuncId} {F : Func} (h1 : P.funcs[k]? = some F) (h2 : (F.name == "runtime.NumGoroutine") = false) (h3 : F.body.isSome = true) (args : Array Value) (w : World) :
    (callFunc k args).run P w = .ok (.enter k args) w := by
  have h2' : F.name ≠ "runtime.NumGoroutine" := by simpa using h2
  have h3' : ¬ F.body = none := by intro e; rw [e] at h3; cases h3
  simp [callFunc, h1, h2', h3']
def keyN (ty : Nat → Option XTy) (key : TypeId) : Option Nat :=
  match ty key with
  | some Dk => match Dk.u with
    | .int .i64 => some 1
    | .array n e => match ty e with
      | some De => match De.u with
        | .int .i64 => match (Nat.beq De.size 1 && !Nat.beq n 1) with
          | true => some n
          | false => none
        | _ => none
      | none => none
    | _ => none
  | none => none
theorem keyN_ok {P : Program} {ty : Nat → Option XTy} (hT : TyOk P ty) {key : TypeId} {n : Nat} (h : keyN ty key = some n) : KeyTy P key n := by
  unfold keyN at h
  split at h
  · rename_i Dk hk
    split at h
    · rename_i hu
      cases h
      exact .inl ⟨rfl, by rw [(hT key Dk hk).1, hu]⟩
    · rename_i m e hu
      split at h
      · rename_i De he
        split at h
        · rename_i hue
          split at h
          · rename_i hb
            cases h
            simp only [Bool.and_eq_true, Bool.not_eq_true'] at hb
            obtain ⟨h1, i, h2, h3, _⟩ := hT e De he
            refine .inr ⟨fun q => by subst q; exact absurd hb.2 (by decide), e, i, by rw [(hT key Dk hk).1, hu], by rw [h1, hue], h2, h3.trans (Nat.eq_of_beq_eq_true hb.1)⟩
          · cases h
        · cases h
      · cases h
    · cases h
  · cases h
inductive Ins where
  | rd (d : Option (List Bool)) (f : RF)
  | ef (d : Option (List Bool)) (f : EF)
  | call (d : Option (List Bool)) (f : Src) (args : List Src)
  | bad
def dstP (nt : Nat) : Option Tmp → Option (Option (List Bool))
  | none => some none
  | some d => match Nat.blt d nt with
    | true => some (some (path 12 d))
    | false => none
noncomputable def putX (d : Option (List Bool)) (v : Value) (tm : Tr) : Tr := Option.casesOn d tm (fun p => tm.set p v)
theorem putX_ok {ρ : Rho} {nt : Nat} {tm : Tr} {a : Act} (h : TRel ρ nt tm a) {dst : Option Tmp} {d : Option (List Bool)} (hd : dstP nt dst = some d) {v v' : Value} (hv : VRel ρ v v') : TRel ρ nt (putX d v tm) (a.put dst v') := by
  cases dst with
  | none => simp only [dstP, Option.some.injEq] at hd; subst hd; exact h
  | some k =>
    simp only [dstP] at hd
    split at hd
    · rename_i hk
      cases hd
      exact h.put (by simpa [Nat.blt_eq] using hk) hv
    · cases hd
def ptrOp : BinOp → Option Bool
  | .eql => some false
  | .neq => some true
  | _ => none
theorem ptrOp_eq {op : BinOp} {neg : Bool} (h : ptrOp op = some neg) : op = (if neg then .neq else .eql) := by
  cases op <;> simp [ptrOp] at h <;> subst h <;> rfl
noncomputable def compOp (E : Env) (nt : Nat) (o : Oper) : Ins :=
  match dstP nt o.dst with
  | none => .bad
  | some d =>
    match o.op with
    | .move x => .rd d (rMove (src nt x))
    | .assign x => .rd d (rMove (src nt x))
    | .pick c x y => .rd d (rPick (src nt c) (src nt x) (src nt y))
    | .binOp op t x y _ => match ptrOp op with
      | some neg => match E.ty t with
        | some D => match D.u with
          | .pointer e => match E.ty e with
            | some De => match De.size with
              | 0 => .bad
              | _ + 1 => .rd d (rPtrEq neg (src nt x) (src nt y) (rPure E.P nt o))
            | none => .bad
          | .array 2 e => match E.ty e with
            | some De => match De.u with
              | .int .i64 => match (Nat.beq De.size 1 && !E.P.eqGuardType E.P.depth t) with
                | true => .rd d (rEq2 neg (src nt x) (src nt y) (rBin E.P nt o op (src nt x) (src nt y)))
                | false => .rd d (rBin E.P nt o op (src nt x) (src nt y))
              | _ => .rd d (rBin E.P nt o op (src nt x) (src nt y))
            | none => .rd d (rBin E.P nt o op (src nt x) (src nt y))
          | .struct fs => match ((fs.toList.all fun f => f.name != "_") && (!E.P.stoodInHeld t && !E.P.eqGuardType E.P.depth t)) with
            | true => .rd d (rEqS neg E.ty fs.toList (src nt x) (src nt y) (rBin E.P nt o op (src nt x) (src nt y)))
            | false => .rd d (rBin E.P nt o op (src nt x) (src nt y))
          | .slice _ => .rd d (rSliceNil neg (src nt x) (src nt y))
          | _ => .rd d (rBin E.P nt o op (src nt x) (src nt y))
        | none => .rd d (rBin E.P nt o op (src nt x) (src nt y))
      | none => .rd d (rBin E.P nt o op (src nt x) (src nt y))
    | .nilCheck x => .rd d (rNil (src nt x))
    | .extract x k => .rd d (rExtract k (src nt x))
    | .makeFunc fn f c => .rd d (rFunc nt fn f.toList c.toList)
    | .next x true => .ef d (eNext (src nt x))
    | .box e x => .ef d (eBox (src nt x) e)
    | .load t x => match E.ty t with
      | some D => match aggB D.u with
        | true => .rd d (rLoadN D.size (src nt x))
        | false => .rd d (rLoad1 (src nt x))
      | none => .bad
    | .makeInterface t x => match E.ty t with
      | some D => match ifaceB D.u with
        | false => .rd d (rIface t (src nt x))
        | true => .bad
      | none => .bad
    | .store t x y => match E.ty t with
      | some D => match Nat.beq D.size 0 with
        | true => .ef d (eStore0 (src nt x) (src nt y))
        | false => .ef d (eStore D.size (src nt x) (src nt y))
      | none => .bad
    | .alloc e => match E.ty e with
      | some D => match D.zero.cells.toList.all closedV with
        | true => .ef d (eAlloc D.zero.cells.toList e)
        | false => .bad
      | none => .bad
    | .fieldAddr s x k => match E.ty s with
      | some D => match D.u with
        | .struct fs => match fs[k]? with
          | some f => match E.ty f.type with
            | some Df => match Df.size with
              | 0 => .bad
              | _ + 1 => .rd d (rFieldAddr f.offset (src nt x))
            | none => .bad
          | none => .bad
        | _ => .bad
      | none => .bad
    | .indexAddr t x i => match E.ty t with
      | some D => match D.u with
        | .slice e => match E.ty e with
          | some De => .rd d (rIdxS De.size (src nt x) (src nt i))
          | none => .bad
        | .array len e => match E.ty e with
          | some De => .rd d (rIdxA len De.size (src nt x) (src nt i))
          | none => .bad
        | _ => .bad
      | none => .bad
    | .slice t x lo hi mx => match E.ty t with
      | some D => match D.u with
        | .slice e => match E.ty e with
          | some De => .rd d (rCutS nt De.size (src nt x) lo hi mx)
          | none => .bad
        | .string => match mx with
          | none => .rd d (rCutT nt (src nt x) lo hi (rPure E.P nt o))
          | some _ => .rd d (rPure E.P nt o)
        | .pointer arr => match mx with
          | none => match E.ty arr with
            | some Da => match Da.u with
              | .array n e => match E.ty e with
                | some De => .rd d (rCutA nt De.size n (src nt x) lo hi)
                | none => .bad
              | _ => .bad
            | none => .bad
          | some _ => .bad
        | .array n e => match mx with
          | none => match E.ty e with
            | some De => .rd d (rCutA nt De.size n (src nt x) lo hi)
            | none => .bad
          | some _ => .bad
        | _ => .rd d (rPure E.P nt o)
      | none => .bad
    | .build t parts => match E.ty t with
      | some D => match D.zero.cells.toList.all closedV with
        | true => match D.u with
          | .struct fs => match placesOf E.ty fs.toList with
            | some l => .rd d (rBuild nt (fun i => l.toArray[i]?) D.zero.cells parts.toList)
            | none => .bad
          | .array _ e => match E.ty e with
            | some De => .rd d (rBuild nt (fun i => some (i * De.size, De.size)) D.zero.cells parts.toList)
            | none => .bad
          | _ => .bad
        | false => .bad
      | none => .bad
    | .buildSlice t len parts => match E.ty t with
      | some D => match D.u with
        | .slice e => match E.ty e with
          | some De => match (E.keep && Nat.beq len 0 && Nat.beq parts.size 0) with
           | true => .ef d eEmpty
           | false => match (Nat.ble (len * De.size) 16777216 && (bsBase De.zero.cells (len * De.size)).toList.all closedV) with
            | true => .ef d (eBuildSlice nt De.size (len * De.size) len e De.zero.cells parts.toList)
            | false => .bad
          | none => .bad
        | _ => .bad
      | none => .bad
    | .makeSlice t x y => match E.ty t with
      | some D => match D.u with
        | .slice e => match E.ty e with
          | some De => .ef d (eMakeSlice De.size De.bytes e De.zero.cells (src nt x) (src nt y))
          | none => .bad
        | _ => .bad
      | none => .bad
    | .range t x => match E.ty t with
      | some D => match D.u with
        | .string => .ef d (eRange (src nt x))
        | _ => .bad
      | none => .bad
    | .call c => match c.callee with
      | .value f => .call d (src nt f) (c.args.toList.map (src nt))
      | .builtin .append => match c.args.toList, c.argTypes.toList with
        | [s, x], [t, xt] => match E.ty t, E.ty xt with
          | some D, some Dx => match D.u with
            | .slice e => match E.ty e with
              | some De => match (Nat.beq De.zero.cells.size De.size && Nat.ble 1 De.size && (match Dx.u with | .string => true | .slice _ => true | _ => false)) with
                | true => .ef d (match E.keep with
                  | true => match E.inpl with
                    | true => eAppendG De.size De.bytes e (src nt s) (src nt x)
                    | false => eAppendK De.size De.bytes e (src nt s) (src nt x)
                  | false => eAppend false De.size De.bytes e (src nt s) (src nt x))
                | false => match Dx.u with
                  | .int .i64 => match De.zero.cells.toList with
                    | [z] => match (closedV z && Nat.beq De.size 1) with
                      | true => .ef d (eAppendZ De.bytes e z (src nt s) (src nt x))
                      | false => .bad
                    | _ => .bad
                  | _ => .bad
              | none => .bad
            | _ => .bad
          | _, _ => .bad
        | _, _ => .bad
      | .builtin .len => match c.args.toList, c.argTypes.toList with
        | [x], [t] => match E.ty t with
          | some D => match D.u with
            | .slice _ => .rd d (rLen (src nt x))
            | _ => .rd d (rPure E.P nt o)
          | none => .bad
        | _, _ => .bad
      | .builtin .cap => match c.args.toList, c.argTypes.toList with
        | [x], [t] => match E.ty t with
          | some D => match D.u with
            | .slice _ => .rd d (rCap (src nt x) (rPure E.P nt o))
            | _ => .rd d (rPure E.P nt o)
          | none => .bad
        | _, _ => .bad
      | .builtin .clear => match c.args.toList, c.argTypes.toList with
        | [x], [t] => match E.ty t with
          | some D => match D.u with
            | .slice e => match E.ty e with
              | some De => .ef d (eClear De.zero.cells (src nt x))
              | none => .bad
            | _ => .bad
          | none => .bad
        | _, _ => .bad
      | .builtin .copy => match c.args.toList, c.argTypes.toList with
        | [s, x], [t, _] => match E.ty t with
          | some D => match D.u with
            | .slice e => match E.ty e with
              | some De => .ef d (eCopy De.size (src nt s) (src nt x))
              | none => .bad
            | _ => .bad
          | none => .bad
        | _, _ => .bad
      | .builtin .unsafeSliceData => match c.args.toList with
        | [x] => .rd d (rSliceData (src nt x))
        | _ => .bad
      | .builtin .unsafeString => match c.args.toList, c.argTypes.toList with
        | [x, y], [pt, _] => match E.ty pt with
          | some D => match D.u with
            | .pointer e => match E.ty e with
              | some De => match De.size with
                | 1 => .ef d (fun tm h c => match eUnsafeString (src nt x) (src nt y) tm h c with
                  | some r => match ev tm (src nt x) with
                    | .pointer (some a) => match hget h a.block with
                      | some (.cells _ _ e' _) => match Nat.beq e' e with
                        | true => some r
                        | false => none
                      | _ => none
                    | _ => some r
                  | none => none)
                | _ => .bad
              | none => .bad
            | _ => .bad
          | none => .bad
        | _, _ => .bad
      | .builtin _ => .rd d (rPure E.P nt o)
      | _ => .bad
    | .unOp _ _ _ => .rd d (rPure E.P nt o)
    | .convert s t x => match E.ty s, E.ty t with
      | some Ds, some Dt => match Ds.u, Dt.u with
        | .pointer e, .unsafePointer => match E.ty e with
          | some De => match De.size with
            | 0 => .bad
            | _ + 1 => .rd d (rToUnsafe (src nt x) (rPure E.P nt o))
          | none => .bad
        | .unsafePointer, .pointer u => match E.ty u with
          | some _ => .rd d (rFromUnsafe E.P u (src nt x) (rPure E.P nt o))
          | none => .bad
        | _, _ => .rd d (rPure E.P nt o)
      | _, _ => .rd d (rPure E.P nt o)
    | .field t x k => .rd d (rField E.ty t k (src nt x) (rPure E.P nt o))
    | .index t x i => match E.ty t with
      | some D => match D.u with
        | .string => .rd d (rIdxT (src nt x) (src nt i) (rPure E.P nt o))
        | _ => .rd d (rPure E.P nt o)
      | none => .rd d (rPure E.P nt o)
    | .makeMap _ none => .ef d eMakeMap
    | .lookup t x i ok => match E.ty t with
      | some D => match D.u with
        | .map key elem => match keyN E.ty key, E.ty elem with
          | some n, some De => .rd d (rLookup n (src nt x) (src nt i) De.zero ok)
          | _, _ => .bad
        | _ => .bad
      | none => .bad
    | .mapUpdate t m k x => match E.ty t with
      | some D => match D.u with
        | .map key _ => match keyN E.ty key with
          | some n => .ef d (eMapUpdate n (src nt m) (src nt k) (src nt x))
          | none => .bad
        | _ => .bad
      | none => .bad
    | .typeAssert x _ a ok => match E.ty a with
      | some D => match ifaceB D.u with
        | true => .bad
        | false => .rd d (rAssert a D.zero ok (src nt x))
      | none => .bad
    | _ => .bad
def InsOk (E : Env) (nt : Nat) (o : Oper) : Ins → Prop
  | .rd d f => dstP nt o.dst = some d ∧ RdOk E.P nt o f
  | .ef d f => dstP nt o.dst = some d ∧ EfOk E.P nt o f
  | .call d f args => dstP nt o.dst = some d ∧ ∃ c fo, o.op = .call c ∧ c.callee = .value fo ∧ f = src nt fo ∧ args = c.args.toList.map (src nt)
  | .bad => True
theorem arr2 {α : Type} {x : Array α} {a b : α} (h : x.toList = [a, b]) : x = #[a, b] := by
  apply Array.ext'; simpa using h
theorem arr1 {α : Type} {x : Array α} {a : α} (h : x.toList = [a]) : x = #[a] := by
  apply Array.ext'; simpa using h
set_option maxHeartbeats 4000000 in
theorem compOp_ok {E : Env} (hE : E.Ok) (nt : Nat) (o : Oper) : InsOk E nt o (compOp E nt o) := by
  have hT := hE.ty
  unfold compOp
  split
  · trivial
  · rename_i d hd
    have pure_ok : (∀ cs b, o.op ≠ .select cs b) → InsOk E nt o (.rd d (rPure E.P nt o)) := fun h => ⟨hd, rPure_ok h⟩
    split
    · rename_i x ho; exact ⟨hd, rMove_ok (.inl ho)⟩
    · rename_i x ho; exact ⟨hd, rMove_ok (.inr ho)⟩
    · rename_i c x y ho; exact ⟨hd, rPick_ok ho⟩
    · rename_i op t x y t' ho
      split
      · rename_i neg hneg
        split
        · rename_i D hD
          split
          · rename_i e hu
            split
            · rename_i De hDe
              split
              · trivial
              · rename_i m hm
                have ho' := ho
                rw [ptrOp_eq hneg] at ho'
                exact ⟨hd, rPtrEq_ok hT ho' hD hu hDe (by rw [hm]; exact Nat.succ_ne_zero _) (rPure_ok (fun cs b e => by rw [ho] at e; cases e))⟩
            · trivial
          · rename_i e hu
            split
            · rename_i De hDe
              split
              · rename_i hi
                split
                · rename_i hb
                  simp only [Bool.and_eq_true, Bool.not_eq_true'] at hb
                  have ho' := ho
                  rw [ptrOp_eq hneg] at ho'
                  exact ⟨hd, rEq2_ok hT ho' hD hu hDe hi (Nat.eq_of_beq_eq_true hb.1) hb.2 (rBin_ok ho)⟩
                · exact ⟨hd, rBin_ok ho⟩
              · exact ⟨hd, rBin_ok ho⟩
            · exact ⟨hd, rBin_ok ho⟩
          · rename_i fs hu
            split
            · rename_i hb
              simp only [Bool.and_eq_true, Bool.not_eq_true'] at hb
              have ho' := ho
              rw [ptrOp_eq hneg] at ho'
              exact ⟨hd, rEqS_ok hT ho' hD hu hb.1 hb.2.1 hb.2.2 (rBin_ok ho)⟩
            · exact ⟨hd, rBin_ok ho⟩
          · rename_i e hu
            have ho' := ho
            rw [ptrOp_eq hneg] at ho'
            exact ⟨hd, rSliceNil_ok hT ho' hD hu⟩
          · exact ⟨hd, rBin_ok ho⟩
        · exact ⟨hd, rBin_ok ho⟩
      · exact ⟨hd, rBin_ok ho⟩
    · rename_i x ho; exact ⟨hd, rNil_ok ho⟩
    · rename_i x k ho; exact ⟨hd, rExtract_ok ho⟩
    · rename_i fn f c ho; exact ⟨hd, rFunc_ok ho⟩
    · rename_i x ho; exact ⟨hd, eNext_ok ho⟩
    · rename_i e x ho; exact ⟨hd, eBox_ok ho⟩
    · rename_i t x ho
      split
      · rename_i D hD
        split
        · rename_i hb; exact ⟨hd, rLoadN_ok hT ho hD hb⟩
        · rename_i hb; exact ⟨hd, rLoad1_ok hT ho hD hb⟩
      · trivial
    · rename_i t x ho
      split
      · rename_i D hD
        split
        · rename_i hb; exact ⟨hd, rIface_ok hT ho hD hb⟩
        · trivial
      · trivial
    · rename_i t x y ho
      split
      · rename_i D hD
        split
        · rename_i hz; exact ⟨hd, eStore0_ok hT ho hD (Nat.eq_of_beq_eq_true hz)⟩
        · exact ⟨hd, eStore_ok hT ho hD⟩
      · trivial
    · rename_i e ho
      split
      · rename_i D hD
        split
        · rename_i hb; exact ⟨hd, eAlloc_ok hT ho hD hb⟩
        · trivial
      · trivial
    · rename_i s x k ho
      split
      · rename_i D hD
        split
        · rename_i fs hu
          split
          · rename_i f hf
            split
            · rename_i Df hDf
              split
              · trivial
              · rename_i m hm; exact ⟨hd, rFieldAddr_ok hT ho hD hu hf hDf (by rw [hm]; exact Nat.succ_ne_zero _)⟩
            · trivial
          · trivial
        · trivial
      · trivial
    · rename_i t x i ho
      split
      · rename_i D hD
        split
        · rename_i e hu
          split
          · rename_i De hDe; exact ⟨hd, rIdxS_ok hT ho hD hu hDe⟩
          · trivial
        · rename_i len e hu
          split
          · rename_i De hDe; exact ⟨hd, rIdxA_ok hT ho hD hu hDe⟩
          · trivial
        · trivial
      · trivial
    · rename_i t x lo hi mx ho
      split
      · rename_i D hD
        split
        · rename_i e hu
          split
          · rename_i De hDe; exact ⟨hd, rCutS_ok hT ho hD hu hDe⟩
          · trivial
        · rename_i hu
          split
          · exact ⟨hd, rCutT_ok hT ho hD hu (rPure_ok (fun cs b e => by rw [ho] at e; cases e))⟩
          · exact pure_ok (fun cs b e => by rw [ho] at e; cases e)
        · rename_i arr hu
          split
          · split
            · rename_i Da hDa
              split
              · rename_i n e hua
                split
                · rename_i De hDe; exact ⟨hd, rCutA_ok hT ho hD hu hDa hua hDe⟩
                · trivial
              · trivial
            · trivial
          · trivial
        · rename_i n e hu
          split
          · split
            · rename_i De hDe; exact ⟨hd, rCutB_ok hT ho hD hu hDe⟩
            · trivial
          · trivial
        · exact pure_ok (fun cs b e => by rw [ho] at e; cases e)
      · trivial
    · rename_i t parts ho
      split
      · rename_i D hD
        split
        · rename_i hz
          split
          · rename_i fs hu
            split
            · rename_i l hl; exact ⟨hd, rBuildS_ok hT ho hD hu hz hl⟩
            · trivial
          · rename_i len e hu
            split
            · rename_i De hDe; exact ⟨hd, rBuildA_ok hT ho hD hu hDe hz⟩
            · trivial
          · trivial
        · trivial
      · trivial
    · rename_i t len parts ho
      split
      · rename_i D hD
        split
        · rename_i e hu
          split
          · rename_i De hDe
            split
            · rename_i hk
              simp only [Bool.and_eq_true] at hk
              have k1 := Nat.eq_of_beq_eq_true hk.1.2
              have k2 := Nat.eq_of_beq_eq_true hk.2
              subst k1
              have k2 : parts = #[] := Array.eq_empty_of_size_eq_zero k2
              subst k2
              exact ⟨hd, eEmpty_ok hT ho hD hu hDe⟩
            · split
              · rename_i hb
                simp only [Bool.and_eq_true, Nat.ble_eq] at hb
                exact ⟨hd, eBuildSlice_ok hT ho hD hu hDe hb.1 hb.2⟩
              · trivial
          · trivial
        · trivial
      · trivial
    · rename_i t x y ho
      split
      · rename_i D hD
        split
        · rename_i e hu
          split
          · rename_i De hDe; exact ⟨hd, eMakeSlice_ok hT ho hD hu hDe⟩
          · trivial
        · trivial
      · trivial
    · rename_i t x ho
      split
      · rename_i D hD
        split
        · rename_i hu; exact ⟨hd, eRange_ok hT ho hD hu⟩
        · trivial
      · trivial
    · rename_i c ho
      have hns : ∀ cs b, o.op ≠ .select cs b := fun cs b e => by rw [ho] at e; cases e
      split
      · rename_i f hf; exact ⟨hd, c, f, ho, hf, rfl, rfl⟩
      · rename_i hc
        split
        · rename_i s x t xt h1 h2
          split
          · rename_i D Dx hD hDx
            split
            · rename_i e hu
              split
              · rename_i De hDe
                split
                · rename_i hb
                  simp only [Bool.and_eq_true, Nat.ble_eq] at hb
                  obtain ⟨⟨b1, b2⟩, b3⟩ := hb
                  have hO : o.op = .call { callee := .builtin .append, args := #[s, x], argTypes := #[t, xt] } := by
                    rw [ho]
                    obtain ⟨cc, ca, ct⟩ := c
                    simp only at hc h1 h2
                    rw [hc, arr2 h1, arr2 h2]
                  have hN : NoInt Dx.u := by
                    cases hdx : Dx.u <;> rw [hdx] at b3 <;> first | exact .inl rfl | exact .inr ⟨_, rfl⟩ | cases b3
                  have hAp : ∀ kp, EfOk E.P nt o (eAppend kp De.size De.bytes e (src nt s) (src nt x)) := fun kp =>
                    eAppend_ok (d := D) (dx := Dx) hT hO hD hu hDx hN hDe (Nat.eq_of_beq_eq_true b1) (by omega) kp
                  refine ⟨hd, ?_⟩
                  cases E.keep with
                  | true =>
                    cases E.inpl with
                    | true => exact eAppendG_ok (eAppendF_ok (d := D) (dx := Dx) hT hO hD hu hDx hN hDe (by omega)) (eAppendK_ok (hAp true))
                    | false => exact eAppendK_ok (hAp true)
                  | false => exact hAp false
                · split
                  · rename_i hdx
                    split
                    · rename_i z hz
                      split
                      · rename_i hb
                        simp only [Bool.and_eq_true] at hb
                        refine ⟨hd, eAppendZ_ok (d := D) (dx := Dx) hT ?_ hD hu hDx hdx hDe hz hb.1 (Nat.eq_of_beq_eq_true hb.2)⟩
                        rw [ho]
                        obtain ⟨cc, ca, ct⟩ := c
                        simp only at hc h1 h2
                        rw [hc, arr2 h1, arr2 h2]
                      · trivial
                    · trivial
                  · trivial
              · trivial
            · trivial
          · trivial
        · trivial
      · rename_i hc
        split
        · rename_i x t h1 h2
          split
          · rename_i D hD
            split
            · rename_i e hu
              refine ⟨hd, rLen_ok (t := t) (d := D) (ts := #[t]) hT ?_ rfl hD hu⟩
              rw [ho]
              obtain ⟨cc, ca, ct⟩ := c
              simp only at hc h1 h2
              rw [hc, arr1 h1, arr1 h2]
            · exact pure_ok hns
          · trivial
        · trivial
      · rename_i hc
        split
        · rename_i x t h1 h2
          split
          · rename_i D hD
            split
            · rename_i e hu
              refine ⟨hd, rCap_ok (t := t) (d := D) hT ?_ hD hu (rPure_ok hns)⟩
              rw [ho]
              obtain ⟨cc, ca, ct⟩ := c
              simp only at hc h1 h2
              rw [hc, arr1 h1, arr1 h2]
            · exact pure_ok hns
          · trivial
        · trivial
      · rename_i hc
        split
        · rename_i x t h1 h2
          split
          · rename_i D hD
            split
            · rename_i e hu
              split
              · rename_i De hDe
                refine ⟨hd, eClear_ok (t := t) (d := D) hT ?_ hD hu hDe⟩
                rw [ho]
                obtain ⟨cc, ca, ct⟩ := c
                simp only at hc h1 h2
                rw [hc, arr1 h1, arr1 h2]
              · trivial
            · trivial
          · trivial
        · trivial
      · rename_i hc
        split
        · rename_i s x t t2 h1 h2
          split
          · rename_i D hD
            split
            · rename_i e hu
              split
              · rename_i De hDe
                refine ⟨hd, eCopy_ok (t := t) (t2 := t2) (d := D) hT ?_ hD hu hDe⟩
                rw [ho]
                obtain ⟨cc, ca, ct⟩ := c
                simp only at hc h1 h2
                rw [hc, arr2 h1, arr2 h2]
              · trivial
            · trivial
          · trivial
        · trivial
      · rename_i hc
        split
        · rename_i x h1
          refine ⟨hd, rSliceData_ok (ts := c.argTypes) ?_⟩
          rw [ho]
          obtain ⟨cc, ca, ct⟩ := c
          simp only at hc h1
          rw [hc, arr1 h1]
        · trivial
      · rename_i hc
        split
        · rename_i x y pt it h1 h2
          split
          · rename_i D hD
            split
            · rename_i e hu
              split
              · rename_i De hDe
                split
                · rename_i hsz
                  refine ⟨hd, eUnsafeString_ok (pt := pt) (it := it) hT ?_ hD hu hDe hsz⟩
                  rw [ho]
                  obtain ⟨cc, ca, ct⟩ := c
                  simp only at hc h1 h2
                  rw [hc, arr2 h1, arr2 h2]
                · trivial
              · trivial
            · trivial
          · trivial
        · trivial
      · exact pure_ok hns
      · trivial
    · rename_i ho; exact pure_ok (fun cs b e => by rw [ho] at e; cases e)
    · rename_i s t x ho
      have hns : ∀ cs b, o.op ≠ .select cs b := fun cs b e => by rw [ho] at e; cases e
      split
      · rename_i Ds Dt hs ht
        split
        · rename_i e hus hut
          split
          · rename_i De hDe
            split
            · trivial
            · rename_i m hm; exact ⟨hd, rToUnsafe_ok hT ho hs hus ht hut hDe (by rw [hm]; exact Nat.succ_ne_zero _) (rPure_ok hns)⟩
          · trivial
        · rename_i u hus hut
          split
          · rename_i Du hDu; exact ⟨hd, rFromUnsafe_ok hT ho hs hus ht hut hDu (rPure_ok hns)⟩
          · trivial
        · exact pure_ok hns
      · exact pure_ok hns
    · rename_i t x k ho; exact ⟨hd, rField_ok hT ho (rPure_ok (fun cs b e => by rw [ho] at e; cases e))⟩
    · rename_i t x i ho
      have hns : ∀ cs b, o.op ≠ .select cs b := fun cs b e => by rw [ho] at e; cases e
      split
      · rename_i D hD
        split
        · rename_i hu; exact ⟨hd, rIdxT_ok hT ho hD hu (rPure_ok hns)⟩
        · exact pure_ok hns
      · exact pure_ok hns
    · rename_i t ho; exact ⟨hd, eMakeMap_ok ho⟩
    · rename_i t x i ok ho
      split
      · rename_i D hD
        split
        · rename_i key elem hu
          split
          · rename_i n De hK hEl
            exact ⟨hd, rLookup_ok hT ho hD hu (keyN_ok hT hK) hEl⟩
          · trivial
        · trivial
      · trivial
    · rename_i t m k x ho
      split
      · rename_i D hD
        split
        · rename_i key el hu
          split
          · rename_i n hK
            exact ⟨hd, eMapUpdate_ok hT ho hD hu (keyN_ok hT hK)⟩
          · trivial
        · trivial
      · trivial
    · rename_i x t0 a ok ho
      split
      · rename_i D hD
        split
        · trivial
        · rename_i hb; exact ⟨hd, rAssert_ok hT ho hD hb⟩
      · trivial
    · trivial
end Go.Xm
