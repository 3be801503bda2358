/- The abstract machine, part 2: operations that only read, and that the model does the same on every world that holds what they read. -/
import Derived.Test.YtfgggididakkbaaGreatDoorMa
namespace Go.Xm
open Go.RowKit

/-! ### Runs that ask no memory -/
def runP (P : Program) {α : Type} : Sem α → Option α
  | .pure a => some a
  | .program k => runP P (k P)
  | .mark _ k => runP P k
  | _ => none

theorem runP_ok {P : Program} {α : Type} : ∀ (s : Sem α) (a : α), runP P s = some a → ∀ w, s.run P w = .ok a w
  | .pure b, a, h, w => by simp [runP] at h; subst h; rfl
  | .program k, a, h, w => by simp only [runP] at h; simp only [Sem.run]; exact runP_ok (k P) a h w
  | .mark m k, a, h, w => by simp only [runP] at h; simp only [Sem.run]; exact runP_ok k a h w
  | .load _ _ _, a, h, _ => by simp [runP] at h
  | .store _ _ _ _, a, h, _ => by simp [runP] at h
  | .new _ _, a, h, _ => by simp [runP] at h
  | .shape _ _, a, h, _ => by simp [runP] at h
  | .freeze _ _ _, a, h, _ => by simp [runP] at h
  | .frozen _ _, a, h, _ => by simp [runP] at h
  | .getObj _ _, a, h, _ => by simp [runP] at h
  | .setObj _ _ _, a, h, _ => by simp [runP] at h
  | .choose _ _, a, h, _ => by simp [runP] at h
  | .sys _ _, a, h, _ => by simp [runP] at h
  | .halt _, a, h, _ => by simp [runP] at h

/-! ### Types -/
structure XTy where
  u : TypeDesc
  size : Nat
  bytes : Nat
  zero : Value

def TyOk (P : Program) (ty : Nat → Option XTy) : Prop :=
  ∀ t x, ty t = some x → P.underlying t = some x.u ∧ ∃ i, P.info? t = some i ∧ i.size = x.size ∧ i.bytes = x.bytes ∧ i.zero = some x.zero

theorem TyOk.und {P : Program} {ty : Nat → Option XTy} (h : TyOk P ty) {t : Nat} {x : XTy} (e : ty t = some x) (w : World) : (underlying t).run P w = .ok x.u w := by
  simp [underlying, (h t x e).1]

theorem TyOk.sizeOf {P : Program} {ty : Nat → Option XTy} (h : TyOk P ty) {t : Nat} {x : XTy} (e : ty t = some x) (w : World) : (Go.sizeOf t).run P w = .ok x.size w := by
  obtain ⟨_, i, h1, h2, _⟩ := h t x e
  simp [Go.sizeOf, typeInfo, h1, h2]

theorem TyOk.zero {P : Program} {ty : Nat → Option XTy} (h : TyOk P ty) {t : Nat} {x : XTy} (e : ty t = some x) (w : World) : (zeroValue t).run P w = .ok x.zero w := by
  obtain ⟨_, i, h1, h2, h3, h4⟩ := h t x e
  simp [zeroValue, typeInfo, h1, h4]

def aggB : TypeDesc → Bool
  | .struct _ => true
  | .array _ _ => true
  | _ => false

theorem TyOk.isAgg {P : Program} {ty : Nat → Option XTy} (h : TyOk P ty) {t : Nat} {x : XTy} (e : ty t = some x) (w : World) : (Go.isAgg t).run P w = .ok (aggB x.u) w := by
  unfold Go.isAgg
  rw [Sem.run_bind, h.und e w]
  simp only [Result.andThen_ok]
  cases x.u <;> rfl

/-! ### What a reading operation is -/
abbrev RF := Tr → Heap → Option Value

def RdOk (P : Program) (nt : Nat) (o : Oper) (f : RF) : Prop :=
  ∀ tm h v, f tm h = some v → ∀ (B : Bd) (ρ : Rho) (a : Act) (w : World), TRel ρ nt tm a → HRel B ρ h w →
    ∃ v', VRel ρ v v' ∧ ∀ w', Below w.heap.size w w' → (execOp a.eval o).run P w' = .ok (.value v') w'

theorem RdOk.of_all {P : Program} {nt : Nat} {o : Oper} {f : RF} (h : ∀ tm hp v, f tm hp = some v → ∀ (B : Bd) (ρ : Rho) (a : Act) (w : World), TRel ρ nt tm a → HRel B ρ hp w →
    ∃ v', VRel ρ v v' ∧ ∀ w', (execOp a.eval o).run P w' = .ok (.value v') w') : RdOk P nt o f := fun tm hp v hf B ρ a w ht hh =>
  let ⟨v', h1, h2⟩ := h tm hp v hf B ρ a w ht hh
  ⟨v', h1, fun w' _ => h2 w'⟩

/-! move, assign, pick -/
noncomputable def rMove (x : Src) : RF := fun tm _ => some (ev tm x)

theorem rMove_ok {P : Program} {nt : Nat} {o : Oper} {x : Operand} (ho : o.op = .move x ∨ o.op = .assign x) : RdOk P nt o (rMove (src nt x)) := by
  apply RdOk.of_all
  intro tm h v hf B ρ a w ht hh
  cases hf
  refine ⟨a.eval x, src_ok ht x, fun w' => ?_⟩
  rcases ho with ho | ho <;> simp [execOp, ho]

noncomputable def rPick (c x y : Src) : RF := fun tm _ => match ev tm c with
  | .bool b => some (Bool.casesOn b (ev tm y) (ev tm x))
  | _ => none

theorem rPick_ok {P : Program} {nt : Nat} {o : Oper} {c x y : Operand} (ho : o.op = .pick c x y) : RdOk P nt o (rPick (src nt c) (src nt x) (src nt y)) := by
  apply RdOk.of_all
  intro tm h v hf B ρ a w ht hh
  have hc := src_ok ht c
  unfold rPick at hf
  split at hf
  · rename_i b hb
    rw [hb] at hc
    cases hf
    generalize hce : a.eval c = cv at hc
    cases hc
    cases b
    · exact ⟨a.eval y, src_ok ht y, fun w' => by simp [execOp, ho, hce, asBool]⟩
    · exact ⟨a.eval x, src_ok ht x, fun w' => by simp [execOp, ho, hce, asBool]⟩
  · cases hf

/-! The fallback: all operands plain, no memory asked. -/
def plainOps (nt : Nat) (tm : Tr) (l : List Operand) : Prop := ∀ x ∈ l, plain (ev tm (src nt x)) = true

noncomputable def rPure (P : Program) (nt : Nat) (o : Oper) : RF := fun tm _ =>
  match o.op.operands.toList.all (fun x => plain (ev tm (src nt x))) with
  | true => match runP P (execOp (fun x => ev tm (src nt x)) o) with
    | some (.value v) => match plain v with
      | true => some v
      | false => none
    | _ => none
  | false => none

theorem rPure_ok {P : Program} {nt : Nat} {o : Oper} (hs : ∀ cs b, o.op ≠ .select cs b) : RdOk P nt o (rPure P nt o) := by
  apply RdOk.of_all
  intro tm h v hf B ρ a w ht hh
  unfold rPure at hf
  split at hf
  · rename_i hall
    split at hf
    · rename_i v0 hr
      split at hf
      · rename_i hp
        cases hf
        refine ⟨v, VRel.plain_refl ρ hp, fun w' => ?_⟩
        have he : execOp a.eval o = execOp (fun x => ev tm (src nt x)) o := execOp_congr o hs fun x hx => by
          have hpx : plain (ev tm (src nt x)) = true := List.all_eq_true.1 hall x (by simpa using hx)
          exact (src_ok ht x).plain_eq hpx
        rw [he]
        exact runP_ok _ _ hr w'
      · cases hf
    · cases hf
  · cases hf

/-! int operations -/
/-- Where the divisor is not 0. -/
noncomputable def nz (b : Int) (x : Option Value) : Option Value :=
  Int.casesOn b (fun n => Nat.casesOn n none (fun _ => x)) (fun _ => x)

theorem nz_some {b : Int} {x : Option Value} {v : Value} (h : nz b x = some v) : ¬ b = 0 ∧ x = some v := by
  cases b with
  | ofNat n => cases n with
    | zero => cases h
    | succ n => exact ⟨fun e => (by have : (Int.ofNat (n + 1)) = 0 := e; cases this), h⟩
  | negSucc n => exact ⟨fun e => (by cases e), h⟩

theorem nz_ne {b : Int} {x : Option Value} (h : (b != 0) = true) : nz b x = x := by
  cases b with
  | ofNat n => cases n with
    | zero => exact absurd h (by decide)
    | succ n => rfl
  | negSucc n => rfl

noncomputable def xInt (op : BinOp) (k : IntKind) (a b : Int) : Option Value :=
  match op with
  | .add => some (.int k (k.wrap (a + b)))
  | .sub => some (.int k (k.wrap (a - b)))
  | .mul => some (.int k (k.wrap (a * b)))
  | .quo => nz b (some (.int k (k.wrap (a.tdiv b))))
  | .rem => nz b (some (.int k (a.tmod b)))
  | .eql => some (.bool (a == b))
  | .neq => some (.bool (a != b))
  | .lss => some (.bool (decide (a < b)))
  | .leq => some (.bool (decide (a ≤ b)))
  | .gtr => some (.bool (decide (a > b)))
  | .geq => some (.bool (decide (a ≥ b)))
  | _ => none

def sameK (a b : IntKind) : Bool :=
  match a, b with
  | .i64, .i64 => true
  | .u8, .u8 => true
  | .i32, .i32 => true
  | .u64, .u64 => true
  | .u16, .u16 => true
  | .u32, .u32 => true
  | _, _ => false

theorem sameK_eq {a b : IntKind} (h : sameK a b = true) : a = b := by
  cases a <;> cases b <;> first | rfl | (simp [sameK] at h)

theorem xInt_ok {P : Program} {op : BinOp} {t : TypeId} {k : IntKind} {a b : Int} {v : Value} (h : xInt op k a b = some v) (w : World) :
    (binOp op t (.int k a) (.int k b)).run P w = .ok v w := by
  cases op <;> simp only [xInt] at h <;> first
    | (cases h; done)
    | (obtain ⟨h0, h1⟩ := nz_some h; cases h1; simp [binOp, Op.intDiv, h0]; done)
    | (cases h; simp [binOp, Op.intArith, Op.intCmp]; done)

theorem xInt_rel {ρ : Rho} {op : BinOp} {k : IntKind} {a b : Int} {v : Value} (h : xInt op k a b = some v) : VRel ρ v v := by
  cases op <;> simp only [xInt] at h <;> first
    | (cases h; done)
    | (obtain ⟨h0, h1⟩ := nz_some h; cases h1; exact .int _ _)
    | (cases h; first | exact .int _ _ | exact .bool _)

theorem xGuard_ok {P : Program} {op : BinOp} {t : TypeId} {x y : Operand} {k : IntKind} {m n : Int} (w : World) : (eqGuard op t x y (.int k m) (.int k n)).run P w = .ok () w := by
  unfold eqGuard
  cases op <;> simp

/-- Strings, as lists of bytes. -/
noncomputable def xStr (op : BinOp) (a b : ByteArray) : Option Value :=
  match op with
  | .eql => some (.bool (a.data.toList == b.data.toList))
  | .neq => some (.bool (!(a.data.toList == b.data.toList)))
  | .add => match Nat.ble (a.size + b.size) 9223372036854775807 with
    | true => some (.string ⟨⟨a.data.toList ++ b.data.toList⟩⟩)
    | false => none
  | _ => none

theorem bytes_append (a b : ByteArray) : a ++ b = ⟨⟨a.data.toList ++ b.data.toList⟩⟩ := by
  apply ByteArray.ext
  rw [ByteArray.data_append]
  apply Array.ext'
  simp

theorem xStr_ok {P : Program} {op : BinOp} {t : TypeId} {x y : Operand} {a b : ByteArray} {v : Value} (h : xStr op a b = some v) (w : World) :
    (binOp op t (.string a) (.string b)).run P w = .ok v w ∧ (eqGuard op t x y (.string a) (.string b)).run P w = .ok () w ∧ plain v = true := by
  have hg : (eqGuard op t x y (.string a) (.string b)).run P w = .ok () w := by
    unfold eqGuard
    cases op <;> simp
  refine ⟨?_, hg, ?_⟩
  · cases op <;> simp only [xStr] at h
    case add =>
      split at h
      · rename_i hb
        cases h
        have hb := Nat.le_of_ble_eq_true hb
        have hn : ¬ (9223372036854775807 : Int) < (a.size : Int) + (b.size : Int) := by omega
        have hmax : IntKind.i64.max = 9223372036854775807 := rfl
        simp [binOp, Op.stringOp, hmax, hn, bytes_append]
      · cases h
    case eql => cases h; simp [binOp, Op.stringOp, ByteArray.toList_eq]
    case neq => cases h; simp [binOp, Op.stringOp, ByteArray.toList_eq]
    all_goals cases h
  · cases op <;> simp only [xStr] at h
    case add => split at h <;> cases h; rfl
    case eql => cases h; rfl
    case neq => cases h; rfl
    all_goals cases h

/-- Shifts. -/
def shOp : BinOp → Option Bool
  | .shl => some true
  | .shr => some false
  | _ => none

def shV (left : Bool) (k : IntKind) (a b : Int) : Int :=
  match left with
  | true => k.wrap (a * 2 ^ (min b.toNat k.bits))
  | false => a.fdiv (2 ^ (min b.toNat k.bits))

theorem shOp_ok {P : Program} {op : BinOp} {l : Bool} {t : TypeId} {k k' : IntKind} {a b : Int} (h : shOp op = some l) (h0 : 0 ≤ b) (w : World) : (binOp op t (.int k a) (.int k' b)).run P w = .ok (.int k (shV l k a b)) w := by
  have hn : ¬ b < 0 := by omega
  cases op <;> simp only [shOp] at h <;> first
    | (cases h; done)
    | (cases h; simp [binOp, Op.shift, hn, shV]; done)

theorem shGuard_ok {P : Program} {op : BinOp} {l : Bool} {t : TypeId} {x y : Operand} {v u : Value} (h : shOp op = some l) (w : World) : (eqGuard op t x y v u).run P w = .ok () w := by
  unfold eqGuard
  cases op <;> simp only [shOp] at h <;> first
    | (cases h; done)
    | simp

noncomputable def rBin (P : Program) (nt : Nat) (o : Oper) (op : BinOp) (x y : Src) : RF := fun tm h =>
  match ev tm x, ev tm y with
  | .string a, .string b => match op with
    | .add => match Nat.ble (a.size + b.size) 9223372036854775807 with
      | true => some (.string ⟨⟨a.data.toList ++ b.data.toList⟩⟩)
      | false => none
    | _ => match xStr op a b with
      | some v => some v
      | none => rPure P nt o tm h
  | .int k a, .int k' b => match shOp op with
   | some l => match decide (0 ≤ b) with
    | true => some (.int k (shV l k a b))
    | false => none
   | none => match sameK k k' with
    | true => match op with
      | .quo => match (b != 0) with
        | true => some (.int k (k.wrap (a.tdiv b)))
        | false => none
      | .rem => match (b != 0) with
        | true => some (.int k (a.tmod b))
        | false => none
      | _ => match xInt op k a b with
        | some v => some v
        | none => rPure P nt o tm h
    | false => rPure P nt o tm h
  | _, _ => rPure P nt o tm h

theorem rBin_ok {P : Program} {nt : Nat} {o : Oper} {op : BinOp} {t t' : TypeId} {x y : Operand} (ho : o.op = .binOp op t x y t') : RdOk P nt o (rBin P nt o op (src nt x) (src nt y)) := by
  have hp : RdOk P nt o (rPure P nt o) := rPure_ok (fun cs b e => by rw [ho] at e; cases e)
  intro tm h v hf B ρ a w ht hh
  unfold rBin at hf
  split at hf
  · rename_i m n hx hy
    have main : ∀ v0, xStr op m n = some v0 → v0 = v → ∃ v', VRel ρ v v' ∧ ∀ w', Below w.heap.size w w' → (execOp a.eval o).run P w' = .ok (.value v') w' := by
      rintro v0 hv rfl
      have h1 := src_ok ht x
      have h2 := src_ok ht y
      rw [hx] at h1
      rw [hy] at h2
      generalize e1 : a.eval x = x' at h1
      generalize e2 : a.eval y = y' at h2
      cases h1
      cases h2
      exact ⟨v0, VRel.plain_refl ρ (xStr_ok (P := P) (t := t) (x := x) (y := y) hv w).2.2, fun w' _ => by
        obtain ⟨q1, q2, _⟩ := xStr_ok (P := P) (t := t) (x := x) (y := y) hv w'
        simp [execOp, ho, e1, e2, q1, q2]⟩
    split at hf
    · split at hf
      · rename_i hb
        exact main _ (by simp only [xStr]; rw [hb]) (Option.some.inj hf)
      · cases hf
    · split at hf
      · rename_i v0 hv
        exact main _ hv (Option.some.inj hf)
      · exact hp tm h v hf B ρ a w ht hh
  · rename_i k m k' n hx hy
    split at hf
    · rename_i l hl
      split at hf
      · rename_i hb
        have hb := of_decide_eq_true hb
        cases hf
        have h1 := src_ok ht x
        have h2 := src_ok ht y
        rw [hx] at h1
        rw [hy] at h2
        generalize e1 : a.eval x = x' at h1
        generalize e2 : a.eval y = y' at h2
        cases h1
        cases h2
        exact ⟨_, .int _ _, fun w' _ => by simp [execOp, ho, e1, e2, shGuard_ok hl, shOp_ok hl hb w']⟩
      · cases hf
    split at hf
    · rename_i hk
      have hk' := sameK_eq hk
      subst hk'
      have main : ∀ v0, xInt op k m n = some v0 → v0 = v → ∃ v', VRel ρ v v' ∧ ∀ w', Below w.heap.size w w' → (execOp a.eval o).run P w' = .ok (.value v') w' := by
        rintro v0 hv rfl
        have h1 := src_ok ht x
        have h2 := src_ok ht y
        rw [hx] at h1
        rw [hy] at h2
        generalize e1 : a.eval x = x' at h1
        generalize e2 : a.eval y = y' at h2
        cases h1
        cases h2
        exact ⟨v0, xInt_rel hv, fun w' _ => by simp [execOp, ho, e1, e2, xGuard_ok, xInt_ok hv w']⟩
      split at hf
      · split at hf
        · rename_i hb
          exact main _ (nz_ne hb) (Option.some.inj hf)
        · cases hf
      · split at hf
        · rename_i hb
          exact main _ (nz_ne hb) (Option.some.inj hf)
        · cases hf
      · split at hf
        · rename_i v0 hv
          exact main _ hv (Option.some.inj hf)
        · exact hp tm h v hf B ρ a w ht hh
    · exact hp tm h v hf B ρ a w ht hh
  · exact hp tm h v hf B ρ a w ht hh

/-! loads -/
noncomputable def lget (l : List Value) (n : Nat) : Option Value :=
  List.rec (fun _ => none) (fun v _ ih n => Nat.casesOn n (some v) ih) l n

theorem lget_eq : ∀ (l : List Value) (n : Nat), lget l n = l[n]?
  | [], _ => rfl
  | _ :: _, 0 => rfl
  | _ :: l, n + 1 => (lget_eq l n).trans (by simp)

noncomputable def rLoad1 (x : Src) : RF := fun tm h =>
  match ev tm x with
  | .pointer (some a) => match hget h a.block with
    | some (.cells cs _ _ _) => lget cs a.off
    | _ => none
  | _ => none

noncomputable def rLoadN (n : Nat) (x : Src) : RF := fun tm h =>
  match ev tm x with
  | .pointer (some a) => match hget h a.block with
    | some (.cells cs _ _ _) => match Nat.ble (a.off + n) cs.length with
      | true => some (.agg ((cs.drop a.off).take n).toArray)
      | false => none
    | _ => none
  | _ => none

theorem cell_of_heap {w : World} {b : Nat} {C : Array Value} {e : TypeId} {fr : Nat × Nat} (h : w.heap[b]? = some (.cells C e fr)) (i : Nat) : w.cell? ⟨b, i, none⟩ = C[i]? := by
  simp [World.cell?, h]

/-- A row that has cells has a block. -/
theorem OOk.real {ρ : Rho} {w : World} {L : Loc} {cs : List Value} {fz : Nat} {e : TypeId} {es : Nat} (h : OOk ρ w L (.cells cs fz e es)) (hne : cs ≠ [] ∨ es = 0) :
    L.es = es ∧ ¬ L.gho ∧ ∃ C fr, w.heap[L.b]? = some (.cells C e fr) ∧ C.size = L.sz ∧ L.sh + cs.length ≤ L.sz ∧
      (∀ (i : Nat) (v : Value), cs[i]? = some v → ∃ v', C[L.sh + i]? = some v' ∧ VRel ρ v v') ∧ fr.2 ≤ L.sh + fz ∧ (L.es = 0 → L.sh = 0 ∧ L.sz = cs.length) := by
  have hn : ¬ L.gho := by
    intro g
    obtain ⟨h0, hg | ⟨C, fr, h1, h2, h3, _⟩⟩ := h
    · rcases hne with q | q
      · exact q hg.2
      · exact g.1 (h0.trans q)
    · rcases hne with q | q
      · have := List.length_pos_iff.2 q
        have := g.2
        omega
      · exact g.1 (h0.trans q)
  obtain ⟨h0, hg | h1⟩ := h
  · exact absurd hg.1 hn
  · exact ⟨h0, hn, h1⟩

/-- The cell of an abstract block, in every later world. -/
theorem HRel.cell {B : Bd} {ρ : Rho} {h : Heap} {w : World} (H : HRel B ρ h w) {i : Nat} {cs : List Value} {fz : Nat} {e : TypeId} {es : Nat} {L : Loc} (hi : hget h i = some (.cells cs fz e es)) (hL : ρ[i]? = some L)
    {n : Nat} {v : Value} (hv : cs[n]? = some v) : ∃ v', VRel ρ v v' ∧ ∀ w', Below w.heap.size w w' → w'.cell? ⟨L.b, L.sh + n, none⟩ = some v' := by
  obtain ⟨_, _, C, fr, h1, h2, h3, h4, h5⟩ := (H.at hi hL).2.real (.inl (by intro q; subst q; simp at hv))
  obtain ⟨v', c1, c2⟩ := h4 n v hv
  refine ⟨v', c2, fun w' b => ?_⟩
  have hlt : L.b < w.heap.size := (Array.getElem?_eq_some_iff.1 h1).1
  rw [b.cell (p := ⟨L.b, L.sh + n, none⟩) hlt, cell_of_heap h1]
  exact c1

theorem rLoad1_ok {P : Program} {ty : Nat → Option XTy} (hT : TyOk P ty) {nt : Nat} {o : Oper} {t : TypeId} {x : Operand} {d : XTy} (ho : o.op = .load t x) (hd : ty t = some d) (ha : aggB d.u = false) :
    RdOk P nt o (rLoad1 (src nt x)) := by
  intro tm h v hf B ρ a w ht hh
  have hx := src_ok ht x
  unfold rLoad1 at hf
  split at hf
  · rename_i p hp
    rw [hp] at hx
    generalize e1 : a.eval x = x' at hx
    cases hx with
    | ptr i off L hL =>
      split at hf
      · rename_i cs fz el es hg
        rw [lget_eq] at hf
        obtain ⟨v', c1, c2⟩ := hh.cell hg hL hf
        refine ⟨v', c1, fun w' b => ?_⟩
        simp [execOp, ho, e1, Instr.loadAt, Instr.sureAddr, loadVar, hT.isAgg hd, ha, c2 w' b]
      · cases hf
  · cases hf

theorem Addr.add_none (b o n : Nat) : (⟨b, o, none⟩ : Addr).add n = ⟨b, o + n, none⟩ := by
  unfold Addr.add
  split
  · rename_i h; rw [h]; rfl
  · rfl

theorem rLoadN_ok {P : Program} {ty : Nat → Option XTy} (hT : TyOk P ty) {nt : Nat} {o : Oper} {t : TypeId} {x : Operand} {d : XTy} (ho : o.op = .load t x) (hd : ty t = some d) (ha : aggB d.u = true) :
    RdOk P nt o (rLoadN d.size (src nt x)) := by
  intro tm h v hf B ρ a w ht hh
  have hx := src_ok ht x
  unfold rLoadN at hf
  split at hf
  · rename_i p hp
    rw [hp] at hx
    generalize e1 : a.eval x = x' at hx
    cases hx with
    | ptr i off L hL =>
      split at hf
      · rename_i cs fz el es hg
        split at hf
        · rename_i hle
          have hle' : off + d.size ≤ cs.length := by simpa [Nat.ble_eq] using hle
          cases hf
          by_cases hcs : cs = []
          · subst hcs
            have h0 : d.size = 0 := by
              have : off + d.size ≤ 0 := hle'
              omega
            rw [h0]
            refine ⟨.agg #[], .agg _ _ rfl (fun j u u' hu hu' => by simp at hu'), fun w' b => ?_⟩
            have hl := run_loadCells (P := P) (w := w') ⟨L.b, L.sh + off, none⟩ 0 (fun _ => undef) (fun j hj => by omega)
            simp [execOp, ho, e1, Instr.loadAt, Instr.sureAddr, loadVar, hT.isAgg hd, ha, hT.sizeOf hd, h0, hl]
          obtain ⟨_, _, C, fr, h1, h2, h3, h4, h5⟩ := (hh.at hg hL).2.real (.inl hcs)
          have hlt : L.b < w.heap.size := (Array.getElem?_eq_some_iff.1 h1).1
          -- the cells in the world
          have hcell : ∀ j, j < d.size → ∃ v', C[L.sh + off + j]? = some v' ∧ VRel ρ (cs[off + j]?.getD undef) v' := by
            intro j hj
            have hs : cs[off + j]? = some (cs[off + j]'(by omega)) := List.getElem?_eq_getElem _
            obtain ⟨v', c1, c2⟩ := h4 (off + j) _ hs
            exact ⟨v', by rw [Nat.add_assoc]; exact c1, by rw [hs]; exact c2⟩
          have hf' : ∀ j, ∃ v', j < d.size → C[L.sh + off + j]? = some v' ∧ VRel ρ (cs[off + j]?.getD undef) v' := by
            intro j
            by_cases hj : j < d.size
            · obtain ⟨v', c⟩ := hcell j hj; exact ⟨v', fun _ => c⟩
            · exact ⟨undef, fun hj' => absurd hj' hj⟩
          obtain ⟨f, hf⟩ := Classical.axiomOfChoice hf'
          refine ⟨.agg ((List.range d.size).map f).toArray, ?_, fun w' b => ?_⟩
          · refine .agg _ _ (by simp; omega) (fun j u u' hu hu' => ?_)
            have hj : j < d.size := by
              have := (Array.getElem?_eq_some_iff.1 hu').1
              simpa using this
            have e3 : u' = f j := by simpa [hj] using hu'.symm
            have e4 : u = cs[off + j]?.getD undef := by
              simp [hj] at hu
              rw [hu]; rfl
            rw [e3, e4]
            exact (hf j hj).2
          · have hl := run_loadCells (P := P) (w := w') ⟨L.b, L.sh + off, none⟩ d.size f (fun j hj => by
              rw [Addr.add_none, b.cell (p := ⟨L.b, L.sh + off + j, none⟩) hlt, cell_of_heap h1]
              exact (hf j hj).1)
            simp [execOp, ho, e1, Instr.loadAt, Instr.sureAddr, loadVar, hT.isAgg hd, ha, hT.sizeOf hd, hl]
        · cases hf
      · cases hf
  · cases hf

end Go.Xm
