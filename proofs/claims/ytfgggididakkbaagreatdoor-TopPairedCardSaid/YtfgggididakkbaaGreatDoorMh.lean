/- The abstract machine, part 8: regions. -/
import Derived.Test.YtfgggididakkbaaGreatDoorMg
namespace Go.Xm
open Go.RowKit
set_option linter.unusedVariables false
set_option linter.unusedSimpArgs false

/-! ### Guards -/
inductive GI where
  | ins (i : Ins)
  | g (p : List Bool) (want : Bool) (d : Option (List Bool)) (i : Ins)
  | bad

def dstAt : List Oper → Nat → Option Tmp
  | [], _ => none
  | o :: _, 0 => o.dst
  | _ :: l, n + 1 => dstAt l n

theorem dstAt_eq : ∀ (l : List Oper) (j : Nat), dstAt l j = (l[j]?).bind (·.dst)
  | [], _ => rfl
  | _ :: _, 0 => rfl
  | _ :: l, n + 1 => by simpa [dstAt] using dstAt_eq l n

noncomputable def compG (E : Env) (nt : Nat) (all : List Oper) (o : Oper) : GI :=
  match o.guard with
  | none => .ins (compOp E nt o)
  | some (j, want) => match dstP nt (dstAt all j), dstP nt o.dst with
    | some (some p), some d => .g p want d (compOp E nt o)
    | _, _ => .bad

/-- What is known of an operation behind its guard. -/
def GIOk (E : Env) (nt : Nat) (all : List Oper) (o : Oper) : GI → Prop
  | .ins i => o.guard = none ∧ InsOk E nt o i
  | .g p want d i => ∃ j dj, o.guard = some (j, want) ∧ (all[j]?).bind (·.dst) = some dj ∧ dj < nt ∧ p = path 12 dj ∧ dstP nt o.dst = some d ∧ InsOk E nt o i
  | .bad => True

theorem compG_ok {E : Env} (hE : E.Ok) (nt : Nat) (all : List Oper) (o : Oper) : GIOk E nt all o (compG E nt all o) := by
  unfold compG
  split
  · rename_i hg; exact ⟨hg, compOp_ok hE nt o⟩
  · rename_i j want hg
    split
    · rename_i p d hp hd
      cases hdj : dstAt all j with
      | none => rw [hdj] at hp; simp [dstP] at hp
      | some dj =>
        rw [hdj] at hp
        simp only [dstP] at hp
        split at hp
        · rename_i hlt
          cases hp
          exact ⟨j, dj, hg, by rw [← dstAt_eq]; exact hdj, by simpa [Nat.blt_eq] using hlt, rfl, hd, compOp_ok hE nt o⟩
        · cases hp
    · trivial

/-- Is the operation wanted, by the tree. -/
def wantB (v : Value) (want : Bool) : Option Bool :=
  match v with
  | .bool b => match b, want with
    | true, true => some true
    | false, false => some true
    | _, _ => some false
  | .tuple _ => some false
  | _ => none

theorem wanted_of {ρ : Rho} {nt : Nat} {tm : Tr} {a : Act} (ht : TRel ρ nt tm a) {all : List Oper} {o : Oper} {j dj : Nat} {want : Bool} (hg : o.guard = some (j, want)) (hj : (all[j]?).bind (·.dst) = some dj) (hlt : dj < nt) {r : Bool}
    (hr : wantB (tm.get (path 12 dj)) want = some r) : Region.wanted o (yielded all.toArray a.tmps) = r := by
  have hv := ht.2.2 dj hlt
  have hsz : dj < a.tmps.size := by rw [ht.1]; exact hlt
  have hget : a.tmps[dj]? = some (a.tmps.getD dj undef) := by simp [hsz]
  have hy : yielded all.toArray a.tmps j = match a.tmps.getD dj undef with | .bool b => some b | _ => none := by
    unfold yielded
    have : (all.toArray[j]?).bind (·.dst) = some dj := by simpa using hj
    rw [this]
    simp only [Option.bind_some, hget]
    cases a.tmps.getD dj undef <;> rfl
  simp only [Region.wanted, hg, hy]
  generalize a.tmps.getD dj undef = x at hv
  generalize tm.get (path 12 dj) = y at hv hr
  unfold wantB at hr
  cases y with
  | bool b =>
    cases hv
    cases b <;> cases want <;> simp at hr <;> subst hr <;> rfl
  | tuple cs =>
    cases hv
    simp at hr
    subst hr
    rfl
  | _ => cases hr

/-! ### The machine's step over operations -/
inductive Os where
  | none
  | some (t : Tr) (h : Heap) (c : Nat)

abbrev CallF := Nat → List Value → Heap → Nat → Option (Value × Heap × Nat)

noncomputable def xins (call : CallF) (i : Ins) (tm : Tr) (h : Heap) (c : Nat) : Os :=
  Ins.casesOn i
    (fun d f => Option.casesOn (f tm h) .none (fun v => .some (putX d v tm) h c))
    (fun d f => Option.casesOn (f tm h c) .none (fun r => .some (putX d r.1 tm) r.2.1 r.2.2))
    (fun d f args => match calleeV (ev tm f) (args.map (ev tm)) with
      | some (k, xs) => Option.casesOn (call k xs h c) .none (fun r => .some (putX d r.1 tm) r.2.1 r.2.2)
      | none => .none)
    .none

noncomputable def xgi (call : CallF) (g : GI) (tm : Tr) (h : Heap) (c : Nat) : Os :=
  GI.casesOn g (fun i => xins call i tm h c)
    (fun p want d i => Option.casesOn (wantB (tm.get p) want) .none (fun b => Bool.casesOn b (.some (putX d undef tm) h c) (xins call i tm h c)))
    .none

noncomputable def xops (call : CallF) (l : List GI) : Tr → Heap → Nat → Os :=
  List.rec (fun tm h c => .some tm h c) (fun g _ ih tm h c => Os.casesOn (xgi call g tm h c) .none ih) l

/-- What a call is worth: an answer at once, or a call of the model's. -/
def CallOk (E : Env) (call : CallF) : Prop :=
  ∀ k args h c v h' c', call k args h c = some (v, h', c') → ∀ (B : Bd) (ρ : Rho) (w : World) (args' : List Value), Cells ρ args args' → HRel B ρ h w → ρ.length = c → B.n ≤ w.heap.size → B.ge E.G → E.inv w →
    (∃ v', (callFunc k args'.toArray).run E.P w = .ok (.value v') w ∧ VRel ρ v v' ∧ h' = h ∧ c' = c) ∨
    ((callFunc k args'.toArray).run E.P w = .ok (.enter k args'.toArray) w ∧
      Calls E.P k args'.toArray w (fun e w' => ∃ v' ρ', e = .returned v' ∧ VRel ρ' v v' ∧ Rho.le ρ ρ' ∧ ρ'.length = c' ∧ HRel B ρ' h' w' ∧ Bel B w w'))

/-- What follows an operation. -/
def Post (B : Bd) (nt : Nat) (ρ : Rho) (w : World) (ds : List Deferred) (tm' : Tr) (h' : Heap) (c' : Nat) (a' : Act) (w' : World) : Prop :=
  a'.defers = ds ∧ ∃ ρ', TRel ρ' nt tm' a' ∧ Rho.le ρ ρ' ∧ ρ'.length = c' ∧ HRel B ρ' h' w' ∧ Bel B w w'

theorem put_defers (a : Act) (d : Option Tmp) (v : Value) : (a.put d v).defers = a.defers := by cases d <;> rfl

theorem xins_ok {E : Env} {call : CallF} (hcall : CallOk E call) {nt : Nat} {o : Oper} {i : Ins} (hi : InsOk E nt o i) {tm tm' : Tr} {h h' : Heap} {c c' : Nat} (hx : xins call i tm h c = .some tm' h' c')
    {B : Bd} {ρ : Rho} {a : Act} {w : World} (ht : TRel ρ nt tm a) (hh : HRel B ρ h w) (hc : ρ.length = c) (hB : B.n ≤ w.heap.size) (hG : B.ge E.G) (hI : E.inv w) {K : Act → World → Prop} {Q : Exit → Act → World → Prop}
    (hK : ∀ a' w', Post B nt ρ w a.defers tm' h' c' a' w' → K a' w') : o.wp E.P a w K Q := by
  cases i with
  | rd d f =>
    obtain ⟨hd, hok⟩ := hi
    simp only [xins] at hx
    cases hf : f tm h with
    | none => rw [hf] at hx; cases hx
    | some v =>
      rw [hf] at hx
      cases hx
      obtain ⟨v', h1, h2⟩ := hok.1 tm h v hf B ρ a w ht hh hI (Nat.le_trans hG.1 hB)
      have hr := h2 w (Below.refl _ _)
      unfold Oper.wp
      rw [hr]
      exact hK _ _ ⟨put_defers _ _ _, ρ, putX_ok ht hd h1, Rho.le_refl ρ, hc, hh, Bel.refl B w⟩
  | ef d f =>
    obtain ⟨hd, hok⟩ := hi
    simp only [xins] at hx
    cases hf : f tm h c with
    | none => rw [hf] at hx; cases hx
    | some r =>
      obtain ⟨v, hp, cp⟩ := r
      rw [hf] at hx
      cases hx
      obtain ⟨v', w', ρ', h1, h2, h3, h4, h5, h6⟩ := hok tm h c v _ _ hf B ρ a w ht hh hc hB
      unfold Oper.wp
      have hp := hK (a.put o.dst v') w' ⟨put_defers _ _ _, ρ', putX_ok (ht.mono h3) hd h2, h3, h4, h5, h6⟩
      rcases h1 with h1 | ⟨h1, rfl⟩
      · rw [h1]; exact hp
      · rw [h1]; exact hp
  | call d f args =>
    obtain ⟨hd, hcs⟩ := hi
    simp only [xins] at hx
    split at hx
    · rename_i k xs hev
      obtain ⟨xs', hargs, hex⟩ := hcs ρ tm a ht k xs hev
      cases hcl : call k xs h c with
      | none => rw [hcl] at hx; cases hx
      | some r =>
        obtain ⟨v, hp, cp⟩ := r
        rw [hcl] at hx
        cases hx
        rcases hcall k _ h c v _ _ hcl B ρ w _ hargs hh hc hB hG hI with ⟨v', q1, q2, rfl, rfl⟩ | ⟨q1, q2⟩
        · unfold Oper.wp
          rw [hex, q1]
          exact hK _ _ ⟨put_defers _ _ _, ρ, putX_ok ht hd q2, Rho.le_refl ρ, hc, hh, Bel.refl B w⟩
        · unfold Oper.wp
          rw [hex, q1]
          refine q2.mono ?_
          rintro e w' ⟨v', ρ', rfl, p1, p2, p3, p4, p5⟩
          exact hK _ _ ⟨put_defers _ _ _, ρ', putX_ok (ht.mono p2) hd p1, p2, p3, p4, p5⟩
    · cases hx
  | bad => cases hx

theorem xops_pre {E : Env} {call : CallF} (hE : E.Ok) (hcall : CallOk E call) {nt : Nat} {all : List Oper} {Q : Exit → Act → World → Prop} (l2 : List Oper) : ∀ (l : List Oper) (gs : List GI), gs.length = l.length → (∀ (i : Nat) o g, l[i]? = some o → gs[i]? = some g → GIOk E nt all o g) →
    ∀ (tm tm' : Tr) (h h' : Heap) (c c' : Nat), xops call gs tm h c = .some tm' h' c' → ∀ (B : Bd) (ρ : Rho) (a : Act) (w : World), TRel ρ nt tm a → HRel B ρ h w → ρ.length = c → B.n ≤ w.heap.size → B.ge E.G → E.inv w →
      (∀ a' w', Post B nt ρ w a.defers tm' h' c' a' w' → wpList E.P all.toArray Q l2 a' w') → wpList E.P all.toArray Q (l ++ l2) a w
  | [], gs, hl, hok, tm, tm', h, h', c, c', hx, B, ρ, a, w, ht, hh, hc, hB, hG, hI, hQ => by
    have : gs = [] := List.eq_nil_of_length_eq_zero (by simpa using hl)
    subst this
    simp only [xops] at hx
    cases hx
    exact hQ a w ⟨rfl, ρ, ht, Rho.le_refl ρ, hc, hh, Bel.refl B w⟩
  | o :: l, [], hl, hok, tm, tm', h, h', c, c', hx, B, ρ, a, w, ht, hh, hc, hB, hG, hI, hQ => by simp at hl
  | o :: l, g :: gs, hl, hok, tm, tm', h, h', c, c', hx, B, ρ, a, w, ht, hh, hc, hB, hG, hI, hQ => by
    have hg := hok 0 o g rfl rfl
    have hok' : ∀ (i : Nat) o g, l[i]? = some o → gs[i]? = some g → GIOk E nt all o g := fun i o' g' e1 e2 => hok (i + 1) o' g' (by simpa using e1) (by simpa using e2)
    have hx0 : xops call (g :: gs) tm h c = Os.casesOn (motive := fun _ => Os) (xgi call g tm h c) .none (xops call gs) := rfl
    rw [hx0] at hx
    cases hgi : xgi call g tm h c with
    | none => rw [hgi] at hx; cases hx
    | some tm1 h1 c1 =>
      rw [hgi] at hx
      have hx' : xops call gs tm1 h1 c1 = .some tm' h' c' := hx
      -- the rest, from any later state
      have rest : ∀ a' w', Post B nt ρ w a.defers tm1 h1 c1 a' w' → wpList E.P all.toArray Q (l ++ l2) a' w' := by
        intro a' w' hp
        obtain ⟨d1, ρ1, t1, l1, n1, r1, b1⟩ := hp
        refine xops_pre hE hcall l2 l gs (by simpa using hl) hok' tm1 tm' h1 h' c1 c' hx' B ρ1 a' w' t1 r1 n1 (Nat.le_trans hB b1.size) hG (hE.keep hG hI b1) (fun a2 w2 hp2 => ?_)
        obtain ⟨d2, ρ2, t2, l2, n2, r2, b2⟩ := hp2
        exact hQ a2 w2 ⟨d2.trans d1, ρ2, t2, Rho.le_trans l1 l2, n2, r2, b1.trans b2⟩
      refine wpList_step (rest := l ++ l2) (fun K hK => ?_)
      have rest' : ∀ a' w', Post B nt ρ w a.defers tm1 h1 c1 a' w' → K a' w' := fun a' w' hp => hK _ _ (rest a' w' hp)
      cases g with
      | ins i =>
        obtain ⟨hgd, hi⟩ := hg
        rw [if_pos (by simp [Region.wanted, hgd])]
        exact xins_ok hcall hi hgi ht hh hc hB hG hI rest'
      | g p want d i =>
        obtain ⟨j, dj, q1, q2, q3, q4, q5, q6⟩ := hg
        subst q4
        have hgi' : Option.casesOn (motive := fun _ => Os) (wantB (tm.get (path 12 dj)) want) .none (fun b => Bool.casesOn b (.some (putX d undef tm) h c) (xins call i tm h c)) = .some tm1 h1 c1 := hgi
        cases hw : wantB (tm.get (path 12 dj)) want with
        | none => rw [hw] at hgi'; cases hgi'
        | some r =>
          rw [hw] at hgi'
          have hwd := wanted_of ht q1 q2 q3 hw
          cases r with
          | true =>
            rw [if_pos hwd]
            exact xins_ok hcall q6 hgi' ht hh hc hB hG hI rest'
          | false =>
            rw [if_neg (by rw [hwd]; simp)]
            have hgi2 : Os.some (putX d undef tm) h c = .some tm1 h1 c1 := hgi'
            cases hgi2
            exact rest' _ _ ⟨put_defers _ _ _, ρ, putX_ok ht q5 (VRel.undef ρ), Rho.le_refl ρ, hc, hh, Bel.refl B w⟩
      | bad => cases hgi

theorem xops_ok {E : Env} {call : CallF} (hE : E.Ok) (hcall : CallOk E call) {nt : Nat} {all : List Oper} {Q : Exit → Act → World → Prop} (l : List Oper) (gs : List GI) (hl : gs.length = l.length) (hok : ∀ (i : Nat) o g, l[i]? = some o → gs[i]? = some g → GIOk E nt all o g)
    (tm tm' : Tr) (h h' : Heap) (c c' : Nat) (hx : xops call gs tm h c = .some tm' h' c') (B : Bd) (ρ : Rho) (a : Act) (w : World) (ht : TRel ρ nt tm a) (hh : HRel B ρ h w) (hc : ρ.length = c) (hB : B.n ≤ w.heap.size) (hG : B.ge E.G) (hI : E.inv w)
    (hQ : ∀ a' w', Post B nt ρ w a.defers tm' h' c' a' w' → Q .normal a' w') : wpList E.P all.toArray Q l a w := by
  have := xops_pre hE hcall (all := all) (Q := Q) [] l gs hl hok tm tm' h h' c c' hx B ρ a w ht hh hc hB hG hI (fun a' w' p => wpList_nil (hQ a' w' p))
  rwa [List.append_nil] at this

/-! ### Regions that draw their order: operations that only read -/
abbrev CallQ := Nat → List Value → Option Value

/-- A call that leaves memory alone, whatever it makes, at a heap h. -/
def CallQOk (E : Env) (h : Heap) (c : Nat) (call : CallQ) : Prop :=
  ∀ k args v, call k args = some v → plain v = true ∧ ∀ (B : Bd) (ρ : Rho) (w : World) (args' : List Value), Cells ρ args args' → HRel B ρ h w → ρ.length = c → E.G ≤ w.heap.size → E.inv w → ∀ w', Below w.heap.size w w' →
    ((callFunc k args'.toArray).run E.P w' = .ok (.value v) w' ∨
    ((callFunc k args'.toArray).run E.P w' = .ok (.enter k args'.toArray) w' ∧ Calls E.P k args'.toArray w' (fun e w'' => e = .returned v ∧ Below w'.heap.size w' w'')))

noncomputable def qins (call : CallQ) (i : Ins) (tm : Tr) (h : Heap) : Option Tr :=
  Ins.casesOn i
    (fun d f => Option.casesOn (f tm h) .none (fun v => .some (putX d v tm)))
    (fun _ _ => .none)
    (fun d f args => match calleeV (ev tm f) (args.map (ev tm)) with
      | some (k, xs) => Option.casesOn (call k xs) .none (fun v => .some (putX d v tm))
      | none => .none)
    .none

noncomputable def qgi (call : CallQ) (g : GI) (tm : Tr) (h : Heap) : Option Tr :=
  GI.casesOn g (fun i => qins call i tm h)
    (fun p want d i => Option.casesOn (wantB (tm.get p) want) .none (fun b => Bool.casesOn b (.some (putX d undef tm)) (qins call i tm h)))
    .none

noncomputable def qops (call : CallQ) (l : List GI) (h : Heap) : Tr → Option Tr :=
  List.rec (fun tm => .some tm) (fun g _ ih tm => Option.casesOn (qgi call g tm h) .none ih) l

theorem Cells.plain_eq {ρ : Rho} : ∀ {a b : List Value}, Cells ρ a b → a.all plain = true → b = a
  | [], [], _, _ => rfl
  | [], _ :: _, h, _ => by have := h.1; simp at this
  | _ :: _, [], h, _ => by have := h.1; simp at this
  | v :: a, v' :: b, h, hp => by
    simp only [List.all_cons, Bool.and_eq_true] at hp
    have e1 := (h.2 0 v v' rfl rfl).plain_eq hp.1
    have e2 := Cells.plain_eq (ρ := ρ) (a := a) (b := b) ⟨by have := h.1; simpa using this, fun i u u' x y => h.2 (i + 1) u u' (by simpa using x) (by simpa using y)⟩ hp.2
    rw [e1, e2]

theorem qins_ok {E : Env} {call : CallQ} {h : Heap} {c : Nat} (hcall : CallQOk E h c call) {nt : Nat} {o : Oper} {i : Ins} (hi : InsOk E nt o i) {tm tm' : Tr} (hx : qins call i tm h = some tm')
    {B : Bd} {ρ : Rho} {a : Act} {w : World} (ht : TRel ρ nt tm a) (hh : HRel B ρ h w) (hc : ρ.length = c) (hG : E.G ≤ w.heap.size) (hI : E.inv w) {K : Act → Prop}
    (hK : ∀ a', a'.defers = a.defers → TRel ρ nt tm' a' → K a') : o.quiet E.P a (fun w' => Below w.heap.size w w') K := by
  cases i with
  | rd d f =>
    obtain ⟨hd, hok⟩ := hi
    simp only [qins] at hx
    cases hf : f tm h with
    | none => rw [hf] at hx; cases hx
    | some v =>
      rw [hf] at hx
      cases hx
      obtain ⟨v', h1, h2⟩ := hok.1 tm h v hf B ρ a w ht hh hI hG
      refine ⟨v', fun w' hw' => ?_, hK _ (put_defers _ _ _) (putX_ok ht hd h1)⟩
      unfold Oper.quietAt
      rw [h2 w' hw']
      exact ⟨rfl, rfl⟩
  | ef d f => cases hx
  | call d f args =>
    obtain ⟨hd, hcs⟩ := hi
    simp only [qins] at hx
    split at hx
    · rename_i k xs hev
      obtain ⟨xs', hargs, hex⟩ := hcs ρ tm a ht k xs hev
      cases hcl : call k xs with
      | none => rw [hcl] at hx; cases hx
      | some v =>
        rw [hcl] at hx
        cases hx
        obtain ⟨p2, p3⟩ := hcall k _ v hcl
        refine ⟨v, fun w' hw' => ?_, hK _ (put_defers _ _ _) (putX_ok ht hd (VRel.plain_refl ρ p2))⟩
        unfold Oper.quietAt
        rw [hex]
        rcases p3 B ρ w _ hargs hh hc hG hI w' hw' with q | ⟨q1, q2⟩
        · rw [q]; exact ⟨rfl, rfl⟩
        · rw [q1]
          exact ⟨rfl, q2.mono fun e w'' ⟨he, hb⟩ => ⟨he, hw'.trans (hb.mono hw'.size)⟩⟩
    · cases hx
  | bad => cases hx

theorem qops_pre {E : Env} {call : CallQ} {h : Heap} {c : Nat} (hcall : CallQOk E h c call) {nt : Nat} {all : List Oper} {Q : Act → Prop} {B : Bd} {ρ : Rho} {w : World} (hh : HRel B ρ h w) (hc : ρ.length = c) (hG : E.G ≤ w.heap.size) (hI : E.inv w) (l2 : List Oper) : ∀ (l : List Oper) (gs : List GI), gs.length = l.length → (∀ (i : Nat) o g, l[i]? = some o → gs[i]? = some g → GIOk E nt all o g) →
    ∀ (tm tm' : Tr), qops call gs h tm = some tm' → ∀ (a : Act), TRel ρ nt tm a →
      (∀ a', a'.defers = a.defers → TRel ρ nt tm' a' → wpQuiet E.P all.toArray (fun w' => Below w.heap.size w w') Q l2 a') → wpQuiet E.P all.toArray (fun w' => Below w.heap.size w w') Q (l ++ l2) a
  | [], gs, hl, hok, tm, tm', hx, a, ht, hQ => by
    have : gs = [] := List.eq_nil_of_length_eq_zero (by simpa using hl)
    subst this
    simp only [qops] at hx
    cases hx
    exact hQ a rfl ht
  | o :: l, [], hl, hok, tm, tm', hx, a, ht, hQ => by simp at hl
  | o :: l, g :: gs, hl, hok, tm, tm', hx, a, ht, hQ => by
    have hg := hok 0 o g rfl rfl
    have hok' : ∀ (i : Nat) o g, l[i]? = some o → gs[i]? = some g → GIOk E nt all o g := fun i o' g' e1 e2 => hok (i + 1) o' g' (by simpa using e1) (by simpa using e2)
    have hx0 : qops call (g :: gs) h tm = Option.casesOn (motive := fun _ => Option Tr) (qgi call g tm h) .none (qops call gs h) := rfl
    rw [hx0] at hx
    cases hgi : qgi call g tm h with
    | none => rw [hgi] at hx; cases hx
    | some tm1 =>
      rw [hgi] at hx
      have hx' : qops call gs h tm1 = some tm' := hx
      have rest : ∀ a', a'.defers = a.defers → TRel ρ nt tm1 a' → wpQuiet E.P all.toArray (fun w' => Below w.heap.size w w') Q (l ++ l2) a' := fun a' d1 t1 =>
        qops_pre hcall hh hc hG hI l2 l gs (by simpa using hl) hok' tm1 tm' hx' a' t1 (fun a2 d2 t2 => hQ a2 (d2.trans d1) t2)
      refine wpQuiet_step (rest := l ++ l2) (fun K hK => ?_)
      have rest' : ∀ a', a'.defers = a.defers → TRel ρ nt tm1 a' → K a' := fun a' d1 t1 => hK _ (rest a' d1 t1)
      cases g with
      | ins i =>
        obtain ⟨hgd, hi⟩ := hg
        rw [if_pos (by simp [Region.wanted, hgd])]
        exact qins_ok hcall hi hgi ht hh hc hG hI rest'
      | g p want d i =>
        obtain ⟨j, dj, q1, q2, q3, q4, q5, q6⟩ := hg
        subst q4
        have hgi' : Option.casesOn (motive := fun _ => Option Tr) (wantB (tm.get (path 12 dj)) want) .none (fun b => Bool.casesOn b (.some (putX d undef tm)) (qins call i tm h)) = some tm1 := hgi
        cases hw : wantB (tm.get (path 12 dj)) want with
        | none => rw [hw] at hgi'; cases hgi'
        | some r =>
          rw [hw] at hgi'
          have hwd := wanted_of ht q1 q2 q3 hw
          cases r with
          | true =>
            rw [if_pos hwd]
            exact qins_ok hcall q6 hgi' ht hh hc hG hI rest'
          | false =>
            rw [if_neg (by rw [hwd]; simp)]
            have hgi2 : some (putX d undef tm) = some tm1 := hgi'
            cases hgi2
            exact rest' _ (put_defers _ _ _) (putX_ok ht q5 (VRel.undef ρ))
      | bad => cases hgi

theorem qops_ok {E : Env} {call : CallQ} {h : Heap} {c : Nat} (hcall : CallQOk E h c call) {nt : Nat} {all : List Oper} {Q : Act → Prop} {B : Bd} {ρ : Rho} {w : World} (hh : HRel B ρ h w) (hc : ρ.length = c) (hG : E.G ≤ w.heap.size) (hI : E.inv w) (l : List Oper) (gs : List GI) (hl : gs.length = l.length) (hok : ∀ (i : Nat) o g, l[i]? = some o → gs[i]? = some g → GIOk E nt all o g)
    (tm tm' : Tr) (hx : qops call gs h tm = some tm') (a : Act) (ht : TRel ρ nt tm a) (hQ : ∀ a', a'.defers = a.defers → TRel ρ nt tm' a' → Q a') : wpQuiet E.P all.toArray (fun w' => Below w.heap.size w w') Q l a := by
  have := qops_pre hcall (all := all) (Q := Q) hh hc hG hI [] l gs hl hok tm tm' hx a ht (fun a' p q => wpQuiet_nil (hQ a' p q))
  rwa [List.append_nil] at this

/-! ### Regions that draw their order, reads first, then one operation behind the other -/
def noCall : CallQ := fun _ _ => none

theorem qins_still {E : Env} {nt : Nat} {o : Oper} {i : Ins} (hi : InsOk E nt o i) {tm tm' : Tr} {h : Heap} (hx : qins noCall i tm h = some tm')
    {B : Bd} {ρ : Rho} {a : Act} {w : World} (ht : TRel ρ nt tm a) (hh : HRel B ρ h w) (hG : E.G ≤ w.heap.size) (hI : E.inv w) {K : Act → Prop}
    (hK : ∀ a', a'.defers = a.defers → TRel ρ nt tm' a' → K a') : o.still E.P a w K := by
  cases i with
  | rd d f =>
    obtain ⟨hd, hok⟩ := hi
    simp only [qins] at hx
    cases hf : f tm h with
    | none => rw [hf] at hx; cases hx
    | some v =>
      rw [hf] at hx
      cases hx
      obtain ⟨v', h1, h2⟩ := hok.1 tm h v hf B ρ a w ht hh hI hG
      unfold Oper.still
      rw [h2 w (Below.refl _ _)]
      exact ⟨rfl, hK _ (put_defers _ _ _) (putX_ok ht hd h1)⟩
  | ef d f => cases hx
  | call d f args =>
    simp only [qins, noCall] at hx
    split at hx <;> cases hx
  | bad => cases hx

theorem qops_still_pre {E : Env} {nt : Nat} {all : List Oper} {Q : Act → Prop} {B : Bd} {ρ : Rho} {h : Heap} {w : World} (hh : HRel B ρ h w) (hG : E.G ≤ w.heap.size) (hI : E.inv w) (l2 : List Oper) : ∀ (l : List Oper) (gs : List GI), gs.length = l.length → (∀ (i : Nat) o g, l[i]? = some o → gs[i]? = some g → GIOk E nt all o g) →
    ∀ (tm tm' : Tr), qops noCall gs h tm = some tm' → ∀ (a : Act), TRel ρ nt tm a →
      (∀ a', a'.defers = a.defers → TRel ρ nt tm' a' → wpStill E.P all.toArray w Q l2 a') → wpStill E.P all.toArray w Q (l ++ l2) a
  | [], gs, hl, hok, tm, tm', hx, a, ht, hQ => by
    have : gs = [] := List.eq_nil_of_length_eq_zero (by simpa using hl)
    subst this
    simp only [qops] at hx
    cases hx
    exact hQ a rfl ht
  | o :: l, [], hl, hok, tm, tm', hx, a, ht, hQ => by simp at hl
  | o :: l, g :: gs, hl, hok, tm, tm', hx, a, ht, hQ => by
    have hg := hok 0 o g rfl rfl
    have hok' : ∀ (i : Nat) o g, l[i]? = some o → gs[i]? = some g → GIOk E nt all o g := fun i o' g' e1 e2 => hok (i + 1) o' g' (by simpa using e1) (by simpa using e2)
    have hx0 : qops noCall (g :: gs) h tm = Option.casesOn (motive := fun _ => Option Tr) (qgi noCall g tm h) .none (qops noCall gs h) := rfl
    rw [hx0] at hx
    cases hgi : qgi noCall g tm h with
    | none => rw [hgi] at hx; cases hx
    | some tm1 =>
      rw [hgi] at hx
      have hx' : qops noCall gs h tm1 = some tm' := hx
      have rest : ∀ a', a'.defers = a.defers → TRel ρ nt tm1 a' → wpStill E.P all.toArray w Q (l ++ l2) a' := fun a' d1 t1 =>
        qops_still_pre hh hG hI l2 l gs (by simpa using hl) hok' tm1 tm' hx' a' t1 (fun a2 d2 t2 => hQ a2 (d2.trans d1) t2)
      refine wpStill_step (rest := l ++ l2) (fun K hK => ?_)
      have rest' : ∀ a', a'.defers = a.defers → TRel ρ nt tm1 a' → K a' := fun a' d1 t1 => hK _ (rest a' d1 t1)
      cases g with
      | ins i =>
        obtain ⟨hgd, hi⟩ := hg
        rw [if_pos (by simp [Region.wanted, hgd])]
        exact qins_still hi hgi ht hh hG hI rest'
      | g p want d i =>
        obtain ⟨j, dj, q1, q2, q3, q4, q5, q6⟩ := hg
        subst q4
        have hgi' : Option.casesOn (motive := fun _ => Option Tr) (wantB (tm.get (path 12 dj)) want) .none (fun b => Bool.casesOn b (.some (putX d undef tm)) (qins noCall i tm h)) = some tm1 := hgi
        cases hw : wantB (tm.get (path 12 dj)) want with
        | none => rw [hw] at hgi'; cases hgi'
        | some r =>
          rw [hw] at hgi'
          have hwd := wanted_of ht q1 q2 q3 hw
          cases r with
          | true =>
            rw [if_pos hwd]
            exact qins_still q6 hgi' ht hh hG hI rest'
          | false =>
            rw [if_neg (by rw [hwd]; simp)]
            have hgi2 : some (putX d undef tm) = some tm1 := hgi'
            cases hgi2
            exact rest' _ (put_defers _ _ _) (putX_ok ht q5 (VRel.undef ρ))
      | bad => cases hgi

theorem qops_still {E : Env} {nt : Nat} {all : List Oper} {Q : Act → Prop} {B : Bd} {ρ : Rho} {h : Heap} {w : World} (hh : HRel B ρ h w) (hG : E.G ≤ w.heap.size) (hI : E.inv w) (l : List Oper) (gs : List GI) (hl : gs.length = l.length) (hok : ∀ (i : Nat) o g, l[i]? = some o → gs[i]? = some g → GIOk E nt all o g)
    (tm tm' : Tr) (hx : qops noCall gs h tm = some tm') (a : Act) (ht : TRel ρ nt tm a) (hQ : ∀ a', a'.defers = a.defers → TRel ρ nt tm' a' → Q a') : wpStill E.P all.toArray w Q l a := by
  have := qops_still_pre (all := all) (Q := Q) hh hG hI [] l gs hl hok tm tm' hx a ht (fun a' p q => wpStill_nil (hQ a' p q))
  rwa [List.append_nil] at this

/-! ### Heaps that are only read -/
noncomputable def frzH (h : Heap) : Heap := List.rec [] (fun p _ ih => XObj.casesOn p.2 (fun cs fz e es => (p.1, .cells cs (fz + (cs.length + 1)) e es) :: ih) (fun _ _ => ih) (fun _ => ih) (fun _ _ _ _ _ => ih)) h

/-- All numbers of a heap, each once. -/
noncomputable def keysOk (h : Heap) : Bool := List.rec true (fun p t ih => Option.casesOn (hget t p.1) ih (fun _ => false)) h

theorem frzH_cells : ∀ (h : Heap), keysOk h = true → ∀ (i : Nat) (o' : XObj), hget (frzH h) i = some o' → ∃ cs fz e es, o' = .cells cs (fz + (cs.length + 1)) e es ∧ hget h i = some (.cells cs fz e es)
  | [], _, i, o', hi => by cases hi
  | p :: h, hk, i, o', hi => by
    have e1 : keysOk (p :: h) = Option.casesOn (motive := fun _ => Bool) (hget h p.1) (keysOk h) (fun _ => false) := rfl
    rw [e1] at hk
    cases hp : hget h p.1 with
    | some x => rw [hp] at hk; cases hk
    | none =>
      rw [hp] at hk
      have ih := frzH_cells h hk
      obtain ⟨j, o⟩ := p
      cases o with
      | cells cs fz e es =>
        have e0 : frzH ((j, .cells cs fz e es) :: h) = (j, .cells cs (fz + (cs.length + 1)) e es) :: frzH h := rfl
        rw [e0, hget_cons] at hi
        rw [hget_cons]
        by_cases q : j = i
        · rw [if_pos q] at hi ⊢
          cases hi
          exact ⟨cs, fz, e, es, rfl, rfl⟩
        · rw [if_neg q] at hi ⊢
          exact ih i o' hi
      | iter s pos =>
        have e0 : frzH ((j, .iter s pos) :: h) = frzH h := rfl
        rw [e0] at hi
        obtain ⟨cs, fz, e, es, g1, g2⟩ := ih i o' hi
        rw [hget_cons]
        by_cases q : j = i
        · subst q
          have hp : hget h j = none := hp
          rw [hp] at g2; cases g2
        · rw [if_neg q]
          exact ⟨cs, fz, e, es, g1, g2⟩
      | imap es' =>
        have e0 : frzH ((j, .imap es') :: h) = frzH h := rfl
        rw [e0] at hi
        obtain ⟨cs, fz, e, es, g1, g2⟩ := ih i o' hi
        rw [hget_cons]
        by_cases q : j = i
        · subst q
          have hp : hget h j = none := hp
          rw [hp] at g2; cases g2
        · rw [if_neg q]
          exact ⟨cs, fz, e, es, g1, g2⟩
      | was cs0 k0 fz0 el0 es0 =>
        have e0 : frzH ((j, .was cs0 k0 fz0 el0 es0) :: h) = frzH h := rfl
        rw [e0] at hi
        obtain ⟨cs, fz, e, es, g1, g2⟩ := ih i o' hi
        rw [hget_cons]
        by_cases q : j = i
        · subst q
          have hp : hget h j = none := hp
          rw [hp] at g2; cases g2
        · rw [if_neg q]
          exact ⟨cs, fz, e, es, g1, g2⟩

theorem HRel.frozen {B : Bd} {ρ : Rho} {h : Heap} {w : World} (H : HRel B ρ h w) (hk : keysOk h = true) (B' : Bd) : HRel B' ρ (frzH h) w := by
  refine ⟨fun i o' hi => ?_, fun i j o o' L L' h1 h2 h3 h4 n1 n2 _ _ hz hb => ?_⟩
  · obtain ⟨cs, fz, e, es, rfl, g2⟩ := frzH_cells h hk i o' hi
    obtain ⟨L, p1, _, p3⟩ := H.ok i _ g2
    refine ⟨L, p1, fun q => ?_, ?_⟩
    · have : frz (.cells cs (fz + (cs.length + 1)) e es) = true := by
        show Nat.blt cs.length (fz + (cs.length + 1)) = true
        rw [Nat.blt_eq]; omega
      rw [this] at q; cases q
    · obtain ⟨q0, q | ⟨C, fr, q1, q2, q3, q4, q5, q6⟩⟩ := p3
      · exact ⟨q0, .inl q⟩
      · exact ⟨q0, .inr ⟨C, fr, q1, q2, q3, q4, by omega, q6⟩⟩
  · exfalso
    obtain ⟨cs, fz, e, es, rfl, g2⟩ := frzH_cells h hk i o h1
    obtain ⟨cs', fz', e', es', rfl, g2'⟩ := frzH_cells h hk j o' h2
    have fr : ∀ (cs : List Value) (fz : Nat) (e : TypeId) (es : Nat), frz (.cells cs (fz + (cs.length + 1)) e es) = true := fun cs fz e es => by
      show Nat.blt cs.length (fz + (cs.length + 1)) = true
      rw [Nat.blt_eq]; omega
    rcases hz with q | q <;> (rw [fr] at q; cases q)

end Go.Xm
