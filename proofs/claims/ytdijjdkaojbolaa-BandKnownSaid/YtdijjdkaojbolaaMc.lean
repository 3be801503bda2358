/- The abstract machine, part 3: more operations that only read: addresses, cuts of slices, parts of structs, functions as values. -/
import Derived.Test.YtdijjdkaojbolaaMb
namespace Go.Xm
open Go.RowKit

/-! nilCheck -/
noncomputable def rNil (x : Src) : RF := fun tm _ =>
  match ev tm x with
  | .pointer (some a) => some (.pointer (some a))
  | .func (.func f) a b => some (.func (.func f) a b)
  | _ => none

theorem rNil_ok {P : Program} {nt : Nat} {o : Oper} {x : Operand} (ho : o.op = .nilCheck x) : RdOk P nt o (rNil (src nt x)) := by
  apply RdOk.of_all
  intro tm h v hf B ρ a w ht hh
  have hx := src_ok ht x
  unfold rNil at hf
  split at hf
  · rename_i p hp
    cases hf
    rw [hp] at hx
    refine ⟨a.eval x, hx, fun w' => ?_⟩
    generalize e1 : a.eval x = x' at hx
    cases hx
    simp [execOp, ho, e1]
  · rename_i f b c hp
    cases hf
    rw [hp] at hx
    refine ⟨a.eval x, hx, fun w' => ?_⟩
    generalize e1 : a.eval x = x' at hx
    cases hx
    simp [execOp, ho, e1]
  · cases hf

/-! fieldAddr -/
noncomputable def rFieldAddr (off : Nat) (x : Src) : RF := fun tm _ =>
  match ev tm x with
  | .pointer (some ⟨i, o, _⟩) => some (.pointer (some ⟨i, o + off, none⟩))
  | _ => none

theorem rFieldAddr_ok {P : Program} {ty : Nat → Option XTy} (hT : TyOk P ty) {nt : Nat} {o : Oper} {s : TypeId} {x : Operand} {k : Nat} {d df : XTy} {fs : Array Field} {f : Field} (ho : o.op = .fieldAddr s x k)
    (hd : ty s = some d) (hu : d.u = .struct fs) (hk : fs[k]? = some f) (hf0 : ty f.type = some df) (hz : df.size ≠ 0) : RdOk P nt o (rFieldAddr f.offset (src nt x)) := by
  apply RdOk.of_all
  intro tm h v hf B ρ a w ht hh
  have hx := src_ok ht x
  unfold rFieldAddr at hf
  split at hf
  · rename_i i off sp hp
    cases hf
    rw [hp] at hx
    generalize e1 : a.eval x = x' at hx
    cases hx with
    | ptr i off L hL =>
      have hsz := fun w' => hT.sizeOf hf0 w'
      have hun := fun w' => hT.und hd w'
      refine ⟨.pointer (some ⟨L.b, L.sh + (off + f.offset), none⟩), .ptr i _ L hL, fun w' => ?_⟩
      simp [execOp, ho, e1, Instr.fieldAt, hun w', hu, hk, Instr.sureAddr, fieldPlace, hsz w', hz, Addr.add_none, Nat.add_assoc]
  · cases hf

/-! extract -/
noncomputable def rExtract (k : Nat) (x : Src) : RF := fun tm _ =>
  match ev tm x with
  | .tuple vs => lget vs.toList k
  | _ => none

theorem rExtract_ok {P : Program} {nt : Nat} {o : Oper} {x : Operand} {k : Nat} (ho : o.op = .extract x k) : RdOk P nt o (rExtract k (src nt x)) := by
  apply RdOk.of_all
  intro tm h v hf B ρ a w ht hh
  have hx := src_ok ht x
  unfold rExtract at hf
  split at hf
  · rename_i vs hp
    rw [hp] at hx
    generalize e1 : a.eval x = x' at hx
    cases hx with
    | tuple c c' hc hr =>
      rw [lget_eq] at hf
      have hk : vs[k]? = some v := by simpa using hf
      have hlt : k < c'.size := by have := (Array.getElem?_eq_some_iff.1 hk).1; omega
      have hk' : c'[k]? = some (c'[k]'hlt) := Array.getElem?_eq_getElem hlt
      refine ⟨_, hr k v _ hk hk', fun w' => ?_⟩
      simp [execOp, ho, e1, Instr.extract, hk']
  · cases hf

/-! makeInterface, makeFunc -/
def ifaceB : TypeDesc → Bool
  | .interface _ => true
  | _ => false

noncomputable def rIface (t : TypeId) (x : Src) : RF := fun tm _ => some (.iface t (ev tm x))

theorem rIface_ok {P : Program} {ty : Nat → Option XTy} (hT : TyOk P ty) {nt : Nat} {o : Oper} {t : TypeId} {x : Operand} {d : XTy} (ho : o.op = .makeInterface t x) (hd : ty t = some d) (hi : ifaceB d.u = false) :
    RdOk P nt o (rIface t (src nt x)) := by
  apply RdOk.of_all
  intro tm h v hf B ρ a w ht hh
  cases hf
  refine ⟨.iface t (a.eval x), .iface t _ _ (src_ok ht x), fun w' => ?_⟩
  have hun := hT.und hd w'
  simp only [execOp, ho, Instr.makeInterface]
  cases hu : d.u <;> rw [hu] at hun hi <;> first | (simp [ifaceB] at hi; done) | simp [hun]

noncomputable def rFunc (nt : Nat) (fn : Fn) (f c : List Operand) : RF := fun tm _ =>
  some (.func fn (f.map fun x => ev tm (src nt x)).toArray (c.map fun x => ev tm (src nt x)).toArray)

theorem evs_rel {ρ : Rho} {nt : Nat} {tm : Tr} {a : Act} (ht : TRel ρ nt tm a) (l : Array Operand) :
    ∀ (i : Nat) (v v' : Value), (l.toList.map fun x => ev tm (src nt x)).toArray[i]? = some v → (l.map a.eval)[i]? = some v' → VRel ρ v v' := by
  intro i v v' h1 h2
  simp only [List.getElem?_toArray, List.getElem?_map, Array.getElem?_toList, Option.map_eq_some_iff] at h1
  simp only [Array.getElem?_map, Option.map_eq_some_iff] at h2
  obtain ⟨x, e1, e2⟩ := h1
  obtain ⟨y, e3, e4⟩ := h2
  rw [e1] at e3
  cases e3
  rw [← e2, ← e4]
  exact src_ok ht x

theorem rFunc_ok {P : Program} {nt : Nat} {o : Oper} {fn : Fn} {f c : Array Operand} (ho : o.op = .makeFunc fn f c) : RdOk P nt o (rFunc nt fn f.toList c.toList) := by
  apply RdOk.of_all
  intro tm h v hf B ρ a w ht hh
  cases hf
  refine ⟨.func fn (f.map a.eval) (c.map a.eval), .func fn _ _ _ _ (by simp) (by simp) (evs_rel ht f) (evs_rel ht c), fun w' => ?_⟩
  simp [execOp, ho, Instr.makeFunc]

/-! len of a slice -/
noncomputable def rLen (x : Src) : RF := fun tm _ =>
  match ev tm x with
  | .slice _ n _ => some (.int .i64 n)
  | _ => none

theorem rLen_ok {P : Program} {ty : Nat → Option XTy} (hT : TyOk P ty) {nt : Nat} {o : Oper} {t e : TypeId} {x : Operand} {d : XTy} {ts : Array TypeId} (ho : o.op = .call { callee := .builtin .len, args := #[x], argTypes := ts })
    (hts : ts[0]? = some t) (hd : ty t = some d) (hu : d.u = .slice e) : RdOk P nt o (rLen (src nt x)) := by
  apply RdOk.of_all
  intro tm h v hf B ρ a w ht hh
  have hx := src_ok ht x
  unfold rLen at hf
  split at hf
  · rename_i b n c hp
    cases hf
    rw [hp] at hx
    generalize e1 : a.eval x = x' at hx
    have hun := fun w' => hT.und hd w'
    have : ∃ b' c', x' = .slice b' n c' := by cases hx <;> exact ⟨_, _, rfl⟩
    obtain ⟨b', c', rfl⟩ := this
    refine ⟨.int .i64 n, .int _ _, fun w' => ?_⟩
    simp [execOp, ho, resolve, e1, invoke, builtin, Builtin.len_, hts, hun w', hu, goInt]
  · cases hf

/-! indexAddr -/
noncomputable def rIdxS (size : Nat) (x i : Src) : RF := fun tm _ =>
  match ev tm x, ev tm i with
  | .slice (some ⟨b, o, _⟩) len cap, .int _ (.ofNat n) => match Nat.blt n len with
    | true => match cap with
      | 0 => none
      | _ + 1 => some (.pointer (some ⟨b, o + n * size, none⟩))
    | false => none
  | _, _ => none

theorem rIdxS_ok {P : Program} {ty : Nat → Option XTy} (hT : TyOk P ty) {nt : Nat} {o : Oper} {t e : TypeId} {x i : Operand} {d de : XTy} (ho : o.op = .indexAddr t x i) (hd : ty t = some d) (hu : d.u = .slice e) (hde : ty e = some de) :
    RdOk P nt o (rIdxS de.size (src nt x) (src nt i)) := by
  apply RdOk.of_all
  intro tm h v hf B ρ a w ht hh
  have hx := src_ok ht x
  have hi := src_ok ht i
  unfold rIdxS at hf
  split at hf
  · rename_i b off sp len cap k n hp hq
    rw [hp] at hx
    rw [hq] at hi
    generalize e1 : a.eval x = x' at hx
    generalize e2 : a.eval i = i' at hi
    split at hf
    · rename_i hlt
      have hlt' : n < len := by simpa [Nat.blt_eq] using hlt
      split at hf
      · cases hf
      · rename_i cap
        cases hf
        cases hi
        cases hx with
        | slice b off len cp L o' cap' hL h0 h1 =>
          have ho' : o' = L.sh + off := by
            by_cases es : L.es = 0
            · exact (h0 es).1
            · rcases (h1 es).2.2.1 with h | h
              · exact h
              · omega
          subst ho'
          refine ⟨.pointer (some ⟨L.b, L.sh + (off + n * de.size), none⟩), .ptr b _ L hL, fun w' => ?_⟩
          have hun := hT.und hd w'
          have hsz := hT.sizeOf hde w'
          simp [execOp, ho, e1, e2, Instr.indexAt, asIntOf, hun, hu, hsz, hlt', Addr.add_none, Nat.add_assoc]
    · cases hf
  · cases hf

noncomputable def rIdxA (len size : Nat) (x i : Src) : RF := fun tm _ =>
  match ev tm x, ev tm i with
  | .pointer (some ⟨b, o, _⟩), .int _ (.ofNat n) => match Nat.blt n len with
    | true => some (.pointer (some ⟨b, o + n * size, none⟩))
    | false => none
  | _, _ => none

theorem rIdxA_ok {P : Program} {ty : Nat → Option XTy} (hT : TyOk P ty) {nt : Nat} {o : Oper} {t e : TypeId} {len : Nat} {x i : Operand} {d de : XTy} (ho : o.op = .indexAddr t x i) (hd : ty t = some d) (hu : d.u = .array len e) (hde : ty e = some de) :
    RdOk P nt o (rIdxA len de.size (src nt x) (src nt i)) := by
  apply RdOk.of_all
  intro tm h v hf B ρ a w ht hh
  have hx := src_ok ht x
  have hi := src_ok ht i
  unfold rIdxA at hf
  split at hf
  · rename_i b off sp k n hp hq
    rw [hp] at hx
    rw [hq] at hi
    generalize e1 : a.eval x = x' at hx
    generalize e2 : a.eval i = i' at hi
    split at hf
    · rename_i hlt
      have hlt' : n < len := by simpa [Nat.blt_eq] using hlt
      cases hf
      cases hi
      cases hx with
      | ptr b off L hL =>
        refine ⟨.pointer (some ⟨L.b, L.sh + (off + n * de.size), none⟩), .ptr b _ L hL, fun w' => ?_⟩
        have hun := hT.und hd w'
        have hsz := hT.sizeOf hde w'
        simp [execOp, ho, e1, e2, Instr.indexAt, asIntOf, hun, hu, hsz, hlt', Addr.add_none, Nat.add_assoc, Instr.sureAddr]
    · cases hf
  · cases hf

/-! cuts -/
/-- The bound that stands there, or none. -/
noncomputable def bnd (nt : Nat) (tm : Tr) (x : Option Operand) : Option (Option Nat) :=
  match x with
  | none => some none
  | some x => match ev tm (src nt x) with
    | .int _ (.ofNat n) => some (some n)
    | _ => none

/-- Low, high and end of a cut. -/
def cutB (len cap : Nat) (lo hi mx : Option Nat) : Option (Nat × Nat × Nat) :=
  match (Nat.ble (mx.getD cap) cap && Nat.ble (hi.getD len) (mx.getD cap) && Nat.ble (lo.getD 0) (hi.getD len) && (mx.isNone || hi.isSome)) with
  | true => some (lo.getD 0, hi.getD len, mx.getD cap)
  | false => none

theorem cutB_ok {len cap : Nat} {lo hi mx : Option Nat} {l h m : Nat} (e : cutB len cap lo hi mx = some (l, h, m)) :
    l = lo.getD 0 ∧ h = hi.getD len ∧ m = mx.getD cap ∧ m ≤ cap ∧ h ≤ m ∧ l ≤ h ∧ (mx = none ∨ hi.isSome = true) := by
  unfold cutB at e
  split at e
  · rename_i hb
    simp only [Bool.and_eq_true, Bool.or_eq_true, Nat.ble_eq] at hb
    simp only [Option.some.injEq, Prod.mk.injEq] at e
    obtain ⟨e1, e2, e3⟩ := e
    subst e1; subst e2; subst e3
    refine ⟨rfl, rfl, rfl, hb.1.1.1, hb.1.1.2, hb.1.2, ?_⟩
    rcases hb.2 with q | q
    · exact .inl (by cases mx <;> first | rfl | cases q)
    · exact .inr q
  · cases e

theorem run_sliceBound_nat {P : Program} (w : World) (k : IntKind) (n y : Nat) (c : BoundsCode) (h : n ≤ y) : (Instr.sliceBound (.int k (n : Int)) y c).run P w = .ok n w := by
  simp [Instr.sliceBound, asIntOf, h]

/-- What the operand of a bound is in the world. -/
def BndOk (a : Act) (x : Option Operand) (b : Option Nat) : Prop :=
  match x, b with
  | none, none => True
  | some x, some n => ∃ k, a.eval x = .int k (Int.ofNat n)
  | _, _ => False

theorem bnd_ok {ρ : Rho} {nt : Nat} {tm : Tr} {a : Act} (ht : TRel ρ nt tm a) {x : Option Operand} {b : Option Nat} (h : bnd nt tm x = some b) : BndOk a x b := by
  cases x with
  | none => simp [bnd] at h; subst h; trivial
  | some x =>
    simp only [bnd] at h
    split at h
    · rename_i k n hk
      cases h
      have := src_ok ht x
      rw [hk] at this
      generalize e1 : a.eval x = x' at this
      cases this
      exact ⟨_, e1⟩
    · cases h

theorem run_sliceBounds {P : Program} (w : World) (a : Act) (isS : Bool) (len cap cap' : Nat) (hc : cap ≤ cap') (lo hi mx : Option Operand) (l h m : Option Nat) (hl : BndOk a lo l) (hh : BndOk a hi h) (hm : BndOk a mx m)
    {l2 h2 m2 : Nat} (hr : cutB len cap l h m = some (l2, h2, m2)) :
    (Instr.sliceBounds isS len cap' (lo.map a.eval) (hi.map a.eval) (mx.map a.eval)).run P w = .ok (l2, h2, m.getD cap') w := by
  obtain ⟨e1, e2, e3, b1, b2, b3, b4⟩ := cutB_ok hr
  have hM : h2 ≤ m.getD cap' := by cases m with
    | none => simp only [Option.getD_none] at e3 ⊢; omega
    | some m => simp only [Option.getD_some] at e3 ⊢; omega
  have hM' : m.getD cap' ≤ cap' := by cases m with
    | none => exact Nat.le_refl _
    | some m => simp only [Option.getD_some] at e3 ⊢; omega
  cases mx with
  | none => cases m with
    | some m => exact hm.elim
    | none =>
      cases hi with
      | none => cases h with
        | some h => exact hh.elim
        | none =>
          cases lo with
          | none => cases l with
            | some l => exact hl.elim
            | none =>
              simp only [Option.getD_none] at e1 e2
              subst e1; subst e2
              simp [Instr.sliceBounds]
          | some lo => cases l with
            | none => exact hl.elim
            | some l =>
              obtain ⟨k, e⟩ := hl
              simp only [Option.getD_none, Option.getD_some] at e1 e2
              subst e1; subst e2
              have q := fun c => run_sliceBound_nat (P := P) w k l2 h2 c b3
              simp only [Instr.sliceBounds, Option.map_some, Option.map_none, e]
              simp [q]
      | some hi => cases h with
        | none => exact hh.elim
        | some h =>
          obtain ⟨kh, eh⟩ := hh
          have qh := fun c => run_sliceBound_nat (P := P) w kh h cap' c (by simp only [Option.getD_some, Option.getD_none] at e2 hM; omega)
          cases lo with
          | none => cases l with
            | some l => exact hl.elim
            | none =>
              simp only [Option.getD_none, Option.getD_some] at e1 e2
              subst e1; subst e2
              simp only [Instr.sliceBounds, Option.map_some, Option.map_none, eh]
              simp [qh]
          | some lo => cases l with
            | none => exact hl.elim
            | some l =>
              obtain ⟨k, e⟩ := hl
              simp only [Option.getD_some] at e1 e2
              subst e1; subst e2
              have q := fun c => run_sliceBound_nat (P := P) w k l2 h2 c b3
              simp only [Instr.sliceBounds, Option.map_some, Option.map_none, e, eh]
              simp [q, qh]
  | some mx => cases m with
    | none => exact hm.elim
    | some m =>
      obtain ⟨km, em⟩ := hm
      have qm := fun c => run_sliceBound_nat (P := P) w km m cap' c hM'
      cases hi with
      | none => cases h with
        | some h => exact hh.elim
        | none => rcases b4 with b4 | b4 <;> cases b4
      | some hi => cases h with
        | none => exact hh.elim
        | some h =>
          obtain ⟨kh, eh⟩ := hh
          have qh := fun c => run_sliceBound_nat (P := P) w kh h m c (by simp only [Option.getD_some] at e2 hM; omega)
          cases lo with
          | none => cases l with
            | some l => exact hl.elim
            | none =>
              simp only [Option.getD_none, Option.getD_some] at e1 e2
              subst e1; subst e2
              simp only [Instr.sliceBounds, Option.map_some, Option.map_none, eh, em]
              simp [qh, qm]
          | some lo => cases l with
            | none => exact hl.elim
            | some l =>
              obtain ⟨k, e⟩ := hl
              simp only [Option.getD_some] at e1 e2
              subst e1; subst e2
              have q := fun c => run_sliceBound_nat (P := P) w k l2 h2 c b3
              simp only [Instr.sliceBounds, Option.map_some, e, eh, em]
              simp [q, qh, qm]

noncomputable def rCutS (nt size : Nat) (x : Src) (lo hi mx : Option Operand) : RF := fun tm h =>
  match ev tm x with
  | .slice (some ⟨b, o, _⟩) len cap => match hget h b with
    | some (.cells _ _ _ es) => match (es == 0 || es == size) with
      | true => match bnd nt tm lo, bnd nt tm hi, bnd nt tm mx with
        | some l, some h, some m => match cutB len cap l h m with
          | some (l, h, m) => some (.slice (some (if m = l then ⟨b, o, none⟩ else ⟨b, o + l * size, none⟩)) (h - l) (m - l))
          | none => none
        | _, _, _ => none
      | false => none
    | _ => none
  | .slice none 0 0 => match bnd nt tm lo, bnd nt tm hi, bnd nt tm mx with
    | some l, some h, some m => match cutB 0 0 l h m with
      | some (0, 0, 0) => some (.slice none 0 0)
      | _ => none
    | _, _, _ => none
  | _ => none

theorem rCutS_ok {P : Program} {ty : Nat → Option XTy} (hT : TyOk P ty) {nt : Nat} {o : Oper} {t e : TypeId} {x : Operand} {lo hi mx : Option Operand} {d de : XTy} (ho : o.op = .slice t x lo hi mx) (hd : ty t = some d) (hu : d.u = .slice e) (hde : ty e = some de) :
    RdOk P nt o (rCutS nt de.size (src nt x) lo hi mx) := by
  apply RdOk.of_all
  intro tm h v hf B ρ a w ht hh
  have hx := src_ok ht x
  unfold rCutS at hf
  split at hf
  · rename_i b off sp len cap hp
    rw [hp] at hx
    generalize e1 : a.eval x = x' at hx
    split at hf
    · rename_i cs fz el es hg
      split at hf
      · rename_i hes
        split at hf
        · rename_i l h' m hl hhh hm
          split at hf
          · rename_i l2 h2 m2 hcut
            cases hf
            cases hx with
            | slice b off len cap L o' cap' hL h0 h1 =>
              obtain ⟨_, hLe, _⟩ := hh.at hg hL
              have hes' : L.es = 0 ∨ L.es = de.size := by
                rw [hLe]
                simpa using hes
              have hcc : cap ≤ cap' := by
                by_cases z : L.es = 0
                · rw [(h0 z).2]; exact Nat.le_refl _
                · exact (h1 z).1
              obtain ⟨r1, r2, r3, r4, r5, r6, _⟩ := cutB_ok hcut
              -- the end in the world
              have hM : m2 ≤ m.getD cap' ∧ (L.es = 0 → m.getD cap' = m2) ∧ m.getD cap' ≤ cap' := by
                cases m with
                | none => simp only [Option.getD_none] at r3 ⊢; exact ⟨by omega, fun z => by rw [(h0 z).2, r3], Nat.le_refl _⟩
                | some m => simp only [Option.getD_some] at r3 ⊢; exact ⟨by omega, fun _ => r3.symm, by omega⟩
              refine ⟨.slice (some (if m.getD cap' = l2 then ⟨L.b, o', none⟩ else ⟨L.b, o' + l2 * de.size, none⟩)) (h2 - l2) (m.getD cap' - l2), ?_, fun w' => ?_⟩
              · by_cases z : L.es = 0
                · rw [hM.2.1 z]
                  obtain ⟨z1, z2⟩ := h0 z
                  by_cases em : m2 = l2
                  · rw [if_pos em, if_pos em]
                    exact .slice b off _ _ L o' _ hL (fun _ => ⟨z1, rfl⟩) (fun q => absurd z q)
                  · rw [if_neg em, if_neg em]
                    exact .slice b _ _ _ L _ _ hL (fun _ => ⟨by rw [z1, Nat.add_assoc], rfl⟩) (fun q => absurd z q)
                · obtain ⟨z1, z2, z3, z4⟩ := h1 z
                  have hsz : L.es = de.size := hes'.resolve_left z
                  have hmul : ∀ p, p ≤ cap' → l2 ≤ p → o' + l2 * de.size + (p - l2) * L.es ≤ L.sz := by
                    intro p hp1 hp2
                    have h3 : l2 * de.size + (p - l2) * L.es = p * L.es := by rw [hsz, ← Nat.add_mul]; congr 1; omega
                    have h4 : p * L.es ≤ cap' * L.es := Nat.mul_le_mul_right _ hp1
                    omega
                  by_cases em : m2 = l2
                  · rw [if_pos em]
                    have c0 : m2 - l2 = 0 := by omega
                    rw [c0]
                    by_cases em' : m.getD cap' = l2
                    · rw [if_pos em']
                      refine .slice b off _ _ L o' _ hL (fun q => absurd q z) (fun _ => ⟨Nat.zero_le _, ?_, .inr rfl, by omega⟩)
                      have : m.getD cap' - l2 = 0 := by omega
                      rw [this]
                      have := hM.2.2
                      omega
                    · rw [if_neg em']
                      exact .slice b off _ _ L _ _ hL (fun q => absurd q z) (fun _ => ⟨Nat.zero_le _, hmul _ hM.2.2 (by omega), .inr rfl, by omega⟩)
                  · rw [if_neg em]
                    have em'' : ¬ m.getD cap' = l2 := by omega
                    rw [if_neg em'']
                    refine .slice b _ _ _ L _ _ hL (fun q => absurd q z) (fun _ => ⟨by omega, hmul _ hM.2.2 (by omega), ?_, by omega⟩)
                    rcases z3 with z3 | z3
                    · exact .inl (by rw [z3, Nat.add_assoc])
                    · exact absurd (show m2 = l2 by omega) em
              · have hun := hT.und hd w'
                have hsz := hT.sizeOf hde w'
                have r1' := run_sliceBounds (P := P) w' a true len cap cap' hcc lo hi mx l h' m (bnd_ok ht hl) (bnd_ok ht hhh) (bnd_ok ht hm) hcut
                simp only [execOp, ho, e1, Instr.sliceAt]
                simp [hun, hu, Instr.slice, r1', hsz]
                split <;> simp [Addr.add_none]
          · cases hf
        · cases hf
      · cases hf
    · cases hf
  · rename_i hp
    rw [hp] at hx
    generalize e1 : a.eval x = x' at hx
    cases hx
    split at hf
    · rename_i l h' m hl hhh hm
      split at hf
      · rename_i hcut
        cases hf
        refine ⟨.slice none 0 0, .snil, fun w' => ?_⟩
        have hun := hT.und hd w'
        have hsz := hT.sizeOf hde w'
        have r1 := run_sliceBounds (P := P) w' a true 0 0 0 (Nat.le_refl _) lo hi mx l h' m (bnd_ok ht hl) (bnd_ok ht hhh) (bnd_ok ht hm) hcut
        obtain ⟨_, _, r3, _⟩ := cutB_ok hcut
        have hm0 : m.getD 0 = 0 := r3.symm
        rw [hm0] at r1
        simp only [execOp, ho, e1, Instr.sliceAt]
        simp [hun, hu, Instr.slice, r1, hsz]
      · cases hf
    · cases hf
  · cases hf

end Go.Xm
