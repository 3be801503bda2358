/- The abstract machine, part 3: more operations that only read: addresses, cuts of slices, parts of structs, functions as values. -/
import Derived.Test.YtfgggididakkbaaGreatDoorMb
namespace Go.Xm
open Go.RowKit

/-! nilCheck -/
noncomputable def rNil (x : Src) : RF := fun tm _ =>
  match ev tm x with
  | .pointer (some a) => some (.pointer (some a))
  | .func (.func f) a b => some (.func (.func f) a b)
  | _ => none

theorem rNil_ok {P : Program} {nt : Nat} {o : Oper} {x : Operand} (ho : o.op = .nilCheck x) : RdOk P nt o (rNil (src nt x)) := by
  apply RdOk.of_all
  intro tm h v hf B ρ a w ht hh
  have hx := src_ok ht x
  unfold rNil at hf
  split at hf
  · rename_i p hp
    cases hf
    rw [hp] at hx
    refine ⟨a.eval x, hx, fun w' => ?_⟩
    generalize e1 : a.eval x = x' at hx
    cases hx
    simp [execOp, ho, e1]
  · rename_i f b c hp
    cases hf
    rw [hp] at hx
    refine ⟨a.eval x, hx, fun w' => ?_⟩
    generalize e1 : a.eval x = x' at hx
    cases hx
    simp [execOp, ho, e1]
  · cases hf

/-! fieldAddr -/
noncomputable def rFieldAddr (off : Nat) (x : Src) : RF := fun tm _ =>
  match ev tm x with
  | .pointer (some ⟨i, o, _⟩) => some (.pointer (some ⟨i, o + off, none⟩))
  | _ => none

theorem rFieldAddr_ok {P : Program} {ty : Nat → Option XTy} (hT : TyOk P ty) {nt : Nat} {o : Oper} {s : TypeId} {x : Operand} {k : Nat} {d df : XTy} {fs : Array Field} {f : Field} (ho : o.op = .fieldAddr s x k)
    (hd : ty s = some d) (hu : d.u = .struct fs) (hk : fs[k]? = some f) (hf0 : ty f.type = some df) (hz : df.size ≠ 0) : RdOk P nt o (rFieldAddr f.offset (src nt x)) := by
  apply RdOk.of_all
  intro tm h v hf B ρ a w ht hh
  have hx := src_ok ht x
  unfold rFieldAddr at hf
  split at hf
  · rename_i i off sp hp
    cases hf
    rw [hp] at hx
    generalize e1 : a.eval x = x' at hx
    cases hx with
    | ptr i off L hL =>
      have hsz := fun w' => hT.sizeOf hf0 w'
      have hun := fun w' => hT.und hd w'
      refine ⟨.pointer (some ⟨L.b, L.sh + (off + f.offset), none⟩), .ptr i _ L hL, fun w' => ?_⟩
      simp [execOp, ho, e1, Instr.fieldAt, hun w', hu, hk, Instr.sureAddr, fieldPlace, hsz w', hz, Addr.add_none, Nat.add_assoc]
  · cases hf

/-! extract -/
noncomputable def rExtract (k : Nat) (x : Src) : RF := fun tm _ =>
  match ev tm x with
  | .tuple vs => lget vs.toList k
  | _ => none

theorem rExtract_ok {P : Program} {nt : Nat} {o : Oper} {x : Operand} {k : Nat} (ho : o.op = .extract x k) : RdOk P nt o (rExtract k (src nt x)) := by
  apply RdOk.of_all
  intro tm h v hf B ρ a w ht hh
  have hx := src_ok ht x
  unfold rExtract at hf
  split at hf
  · rename_i vs hp
    rw [hp] at hx
    generalize e1 : a.eval x = x' at hx
    cases hx with
    | tuple c c' hc hr =>
      rw [lget_eq] at hf
      have hk : vs[k]? = some v := by simpa using hf
      have hlt : k < c'.size := by have := (Array.getElem?_eq_some_iff.1 hk).1; omega
      have hk' : c'[k]? = some (c'[k]'hlt) := Array.getElem?_eq_getElem hlt
      refine ⟨_, hr k v _ hk hk', fun w' => ?_⟩
      simp [execOp, ho, e1, Instr.extract, hk']
  · cases hf

/-! makeInterface, makeFunc -/
def ifaceB : TypeDesc → Bool
  | .interface _ => true
  | _ => false

noncomputable def rIface (t : TypeId) (x : Src) : RF := fun tm _ => some (.iface t (ev tm x))

theorem rIface_ok {P : Program} {ty : Nat → Option XTy} (hT : TyOk P ty) {nt : Nat} {o : Oper} {t : TypeId} {x : Operand} {d : XTy} (ho : o.op = .makeInterface t x) (hd : ty t = some d) (hi : ifaceB d.u = false) :
    RdOk P nt o (rIface t (src nt x)) := by
  apply RdOk.of_all
  intro tm h v hf B ρ a w ht hh
  cases hf
  refine ⟨.iface t (a.eval x), .iface t _ _ (src_ok ht x), fun w' => ?_⟩
  have hun := hT.und hd w'
  simp only [execOp, ho, Instr.makeInterface]
  cases hu : d.u <;> rw [hu] at hun hi <;> first | (simp [ifaceB] at hi; done) | simp [hun]

noncomputable def rFunc (nt : Nat) (fn : Fn) (f c : List Operand) : RF := fun tm _ =>
  some (.func fn (f.map fun x => ev tm (src nt x)).toArray (c.map fun x => ev tm (src nt x)).toArray)

theorem evs_rel {ρ : Rho} {nt : Nat} {tm : Tr} {a : Act} (ht : TRel ρ nt tm a) (l : Array Operand) :
    ∀ (i : Nat) (v v' : Value), (l.toList.map fun x => ev tm (src nt x)).toArray[i]? = some v → (l.map a.eval)[i]? = some v' → VRel ρ v v' := by
  intro i v v' h1 h2
  simp only [List.getElem?_toArray, List.getElem?_map, Array.getElem?_toList, Option.map_eq_some_iff] at h1
  simp only [Array.getElem?_map, Option.map_eq_some_iff] at h2
  obtain ⟨x, e1, e2⟩ := h1
  obtain ⟨y, e3, e4⟩ := h2
  rw [e1] at e3
  cases e3
  rw [← e2, ← e4]
  exact src_ok ht x

theorem rFunc_ok {P : Program} {nt : Nat} {o : Oper} {fn : Fn} {f c : Array Operand} (ho : o.op = .makeFunc fn f c) : RdOk P nt o (rFunc nt fn f.toList c.toList) := by
  apply RdOk.of_all
  intro tm h v hf B ρ a w ht hh
  cases hf
  refine ⟨.func fn (f.map a.eval) (c.map a.eval), .func fn _ _ _ _ (by simp) (by simp) (evs_rel ht f) (evs_rel ht c), fun w' => ?_⟩
  simp [execOp, ho, Instr.makeFunc]

/-! len of a slice -/
noncomputable def rLen (x : Src) : RF := fun tm _ =>
  match ev tm x with
  | .slice _ n _ => some (.int .i64 n)
  | _ => none

theorem rLen_ok {P : Program} {ty : Nat → Option XTy} (hT : TyOk P ty) {nt : Nat} {o : Oper} {t e : TypeId} {x : Operand} {d : XTy} {ts : Array TypeId} (ho : o.op = .call { callee := .builtin .len, args := #[x], argTypes := ts })
    (hts : ts[0]? = some t) (hd : ty t = some d) (hu : d.u = .slice e) : RdOk P nt o (rLen (src nt x)) := by
  apply RdOk.of_all
  intro tm h v hf B ρ a w ht hh
  have hx := src_ok ht x
  unfold rLen at hf
  split at hf
  · rename_i b n c hp
    cases hf
    rw [hp] at hx
    generalize e1 : a.eval x = x' at hx
    have hun := fun w' => hT.und hd w'
    have : ∃ b' c', x' = .slice b' n c' := by cases hx <;> exact ⟨_, _, rfl⟩
    obtain ⟨b', c', rfl⟩ := this
    refine ⟨.int .i64 n, .int _ _, fun w' => ?_⟩
    simp [execOp, ho, resolve, e1, invoke, builtin, Builtin.len_, hts, hun w', hu, goInt]
  · cases hf

/-! indexAddr -/
noncomputable def rIdxS (size : Nat) (x i : Src) : RF := fun tm _ =>
  match ev tm x, ev tm i with
  | .slice (some ⟨b, o, _⟩) len _, .int _ n => match inRow n len with
    | true => some (.pointer (some ⟨b, o + n.toNat * size, none⟩))
    | false => none
  | _, _ => none

theorem rIdxS_ok {P : Program} {ty : Nat → Option XTy} (hT : TyOk P ty) {nt : Nat} {o : Oper} {t e : TypeId} {x i : Operand} {d de : XTy} (ho : o.op = .indexAddr t x i) (hd : ty t = some d) (hu : d.u = .slice e) (hde : ty e = some de) :
    RdOk P nt o (rIdxS de.size (src nt x) (src nt i)) := by
  apply RdOk.of_all
  intro tm h v hf B ρ a w ht hh
  have hx := src_ok ht x
  have hi := src_ok ht i
  unfold rIdxS at hf
  split at hf
  · rename_i b off sp len cap k n hp hq
    rw [hp] at hx
    rw [hq] at hi
    generalize e1 : a.eval x = x' at hx
    generalize e2 : a.eval i = i' at hi
    split at hf
    · rename_i hlt
      obtain ⟨hn, hlt⟩ := inRow_iff.1 hlt
      obtain ⟨n, rfl⟩ : ∃ m : Nat, n = m := ⟨n.toNat, by omega⟩
      have hlt' : n < len := by omega
      cases hf
      cases hi
      cases hx with
      | sliceN b off L hL hes => omega
      | zslice b off k a hk => omega
      | slice b off len cp L o' cap' hL hz h0 h1 =>
        have ho' : o' = L.sh + off := by
          rcases hz with h | h
          · exact h
          · omega
        subst ho'
        refine ⟨.pointer (some ⟨L.b, L.sh + (off + n * de.size), none⟩), .ptr b _ L hL, fun w' => ?_⟩
        have hun := hT.und hd w'
        have hsz := hT.sizeOf hde w'
        simp [execOp, ho, e1, e2, Instr.indexAt, asIntOf, hun, hu, hsz, hlt', Addr.add_none, Nat.add_assoc]
    · cases hf
  · cases hf

noncomputable def rIdxA (len size : Nat) (x i : Src) : RF := fun tm _ =>
  match ev tm x, ev tm i with
  | .pointer (some ⟨b, o, _⟩), .int _ n => match inRow n len with
    | true => some (.pointer (some ⟨b, o + n.toNat * size, none⟩))
    | false => none
  | _, _ => none

theorem rIdxA_ok {P : Program} {ty : Nat → Option XTy} (hT : TyOk P ty) {nt : Nat} {o : Oper} {t e : TypeId} {len : Nat} {x i : Operand} {d de : XTy} (ho : o.op = .indexAddr t x i) (hd : ty t = some d) (hu : d.u = .array len e) (hde : ty e = some de) :
    RdOk P nt o (rIdxA len de.size (src nt x) (src nt i)) := by
  apply RdOk.of_all
  intro tm h v hf B ρ a w ht hh
  have hx := src_ok ht x
  have hi := src_ok ht i
  unfold rIdxA at hf
  split at hf
  · rename_i b off sp k n hp hq
    rw [hp] at hx
    rw [hq] at hi
    generalize e1 : a.eval x = x' at hx
    generalize e2 : a.eval i = i' at hi
    split at hf
    · rename_i hlt
      obtain ⟨hn, hlt⟩ := inRow_iff.1 hlt
      obtain ⟨n, rfl⟩ : ∃ m : Nat, n = m := ⟨n.toNat, by omega⟩
      have hlt' : n < len := by omega
      cases hf
      cases hi
      cases hx with
      | ptr b off L hL =>
        refine ⟨.pointer (some ⟨L.b, L.sh + (off + n * de.size), none⟩), .ptr b _ L hL, fun w' => ?_⟩
        have hun := hT.und hd w'
        have hsz := hT.sizeOf hde w'
        simp [execOp, ho, e1, e2, Instr.indexAt, asIntOf, hun, hu, hsz, hlt', Addr.add_none, Nat.add_assoc, Instr.sureAddr]
    · cases hf
  · cases hf

/-! cuts -/
/-- The bound that stands there, or none. -/
noncomputable def bnd (nt : Nat) (tm : Tr) (x : Option Operand) : Option (Option Int) :=
  match x with
  | none => some none
  | some x => match ev tm (src nt x) with
    | .int _ n => some (some n)
    | _ => none

/-- The bounds of a cut: low, high, end, all that there is. -/
def cutOK (lo hi mx : Int) (cap : Nat) : Bool := decide (0 ≤ lo) && (decide (lo ≤ hi) && (decide (hi ≤ mx) && decide (mx ≤ (cap : Int))))

theorem cutOK_iff {lo hi mx : Int} {cap : Nat} : cutOK lo hi mx cap = true ↔ 0 ≤ lo ∧ lo ≤ hi ∧ hi ≤ mx ∧ mx ≤ (cap : Int) := by simp [cutOK]

/-- Low, high and end of a cut. -/
def cutB (len cap : Nat) (lo hi mx : Option Nat) : Option (Nat × Nat × Nat) :=
  match (Nat.ble (mx.getD cap) cap && Nat.ble (hi.getD len) (mx.getD cap) && Nat.ble (lo.getD 0) (hi.getD len) && (mx.isNone || hi.isSome)) with
  | true => some (lo.getD 0, hi.getD len, mx.getD cap)
  | false => none

theorem cutB_ok {len cap : Nat} {lo hi mx : Option Nat} {l h m : Nat} (e : cutB len cap lo hi mx = some (l, h, m)) :
    l = lo.getD 0 ∧ h = hi.getD len ∧ m = mx.getD cap ∧ m ≤ cap ∧ h ≤ m ∧ l ≤ h ∧ (mx = none ∨ hi.isSome = true) := by
  unfold cutB at e
  split at e
  · rename_i hb
    simp only [Bool.and_eq_true, Bool.or_eq_true, Nat.ble_eq] at hb
    simp only [Option.some.injEq, Prod.mk.injEq] at e
    obtain ⟨e1, e2, e3⟩ := e
    subst e1; subst e2; subst e3
    refine ⟨rfl, rfl, rfl, hb.1.1.1, hb.1.1.2, hb.1.2, ?_⟩
    rcases hb.2 with q | q
    · exact .inl (by cases mx <;> first | rfl | cases q)
    · exact .inr q
  · cases e

theorem run_sliceBound_nat {P : Program} (w : World) (k : IntKind) (n y : Nat) (c : BoundsCode) (h : n ≤ y) : (Instr.sliceBound (.int k (n : Int)) y c).run P w = .ok n w := by
  simp [Instr.sliceBound, asIntOf, h]

/-- What the operand of a bound is in the world. -/
def BndOk (a : Act) (x : Option Operand) (b : Option Nat) : Prop :=
  match x, b with
  | none, none => True
  | some x, some n => ∃ k, a.eval x = .int k (Int.ofNat n)
  | _, _ => False

theorem bnd_ok {ρ : Rho} {nt : Nat} {tm : Tr} {a : Act} (ht : TRel ρ nt tm a) {x : Option Operand} {b : Option Int} (h : bnd nt tm x = some b) (hb : 0 ≤ b.getD 0) : BndOk a x (b.map Int.toNat) := by
  cases x with
  | none => simp [bnd] at h; subst h; trivial
  | some x =>
    simp only [bnd] at h
    split at h
    · rename_i k n hk
      cases h
      have := src_ok ht x
      rw [hk] at this
      generalize e1 : a.eval x = x' at this
      cases this
      refine ⟨k, ?_⟩
      rw [e1]
      have hb : 0 ≤ n := hb
      have : Int.ofNat n.toNat = n := Int.toNat_of_nonneg hb
      rw [this]
    · cases h

theorem run_sliceBounds {P : Program} (w : World) (a : Act) (isS : Bool) (len cap cap' : Nat) (hc : cap ≤ cap') (lo hi mx : Option Operand) (l h m : Option Nat) (hl : BndOk a lo l) (hh : BndOk a hi h) (hm : BndOk a mx m)
    {l2 h2 m2 : Nat} (hr : cutB len cap l h m = some (l2, h2, m2)) :
    (Instr.sliceBounds isS len cap' (lo.map a.eval) (hi.map a.eval) (mx.map a.eval)).run P w = .ok (l2, h2, m.getD cap') w := by
  obtain ⟨e1, e2, e3, b1, b2, b3, b4⟩ := cutB_ok hr
  have hM : h2 ≤ m.getD cap' := by cases m with
    | none => simp only [Option.getD_none] at e3 ⊢; omega
    | some m => simp only [Option.getD_some] at e3 ⊢; omega
  have hM' : m.getD cap' ≤ cap' := by cases m with
    | none => exact Nat.le_refl _
    | some m => simp only [Option.getD_some] at e3 ⊢; omega
  cases mx with
  | none => cases m with
    | some m => exact hm.elim
    | none =>
      cases hi with
      | none => cases h with
        | some h => exact hh.elim
        | none =>
          cases lo with
          | none => cases l with
            | some l => exact hl.elim
            | none =>
              simp only [Option.getD_none] at e1 e2
              subst e1; subst e2
              simp [Instr.sliceBounds]
          | some lo => cases l with
            | none => exact hl.elim
            | some l =>
              obtain ⟨k, e⟩ := hl
              simp only [Option.getD_none, Option.getD_some] at e1 e2
              subst e1; subst e2
              have q := fun c => run_sliceBound_nat (P := P) w k l2 h2 c b3
              simp only [Instr.sliceBounds, Option.map_some, Option.map_none, e]
              simp [q]
      | some hi => cases h with
        | none => exact hh.elim
        | some h =>
          obtain ⟨kh, eh⟩ := hh
          have qh := fun c => run_sliceBound_nat (P := P) w kh h cap' c (by simp only [Option.getD_some, Option.getD_none] at e2 hM; omega)
          cases lo with
          | none => cases l with
            | some l => exact hl.elim
            | none =>
              simp only [Option.getD_none, Option.getD_some] at e1 e2
              subst e1; subst e2
              simp only [Instr.sliceBounds, Option.map_some, Option.map_none, eh]
              simp [qh]
          | some lo => cases l with
            | none => exact hl.elim
            | some l =>
              obtain ⟨k, e⟩ := hl
              simp only [Option.getD_some] at e1 e2
              subst e1; subst e2
              have q := fun c => run_sliceBound_nat (P := P) w k l2 h2 c b3
              simp only [Instr.sliceBounds, Option.map_some, Option.map_none, e, eh]
              simp [q, qh]
  | some mx => cases m with
    | none => exact hm.elim
    | some m =>
      obtain ⟨km, em⟩ := hm
      have qm := fun c => run_sliceBound_nat (P := P) w km m cap' c hM'
      cases hi with
      | none => cases h with
        | some h => exact hh.elim
        | none => rcases b4 with b4 | b4 <;> cases b4
      | some hi => cases h with
        | none => exact hh.elim
        | some h =>
          obtain ⟨kh, eh⟩ := hh
          have qh := fun c => run_sliceBound_nat (P := P) w kh h m c (by simp only [Option.getD_some] at e2 hM; omega)
          cases lo with
          | none => cases l with
            | some l => exact hl.elim
            | none =>
              simp only [Option.getD_none, Option.getD_some] at e1 e2
              subst e1; subst e2
              simp only [Instr.sliceBounds, Option.map_some, Option.map_none, eh, em]
              simp [qh, qm]
          | some lo => cases l with
            | none => exact hl.elim
            | some l =>
              obtain ⟨k, e⟩ := hl
              simp only [Option.getD_some] at e1 e2
              subst e1; subst e2
              have q := fun c => run_sliceBound_nat (P := P) w k l2 h2 c b3
              simp only [Instr.sliceBounds, Option.map_some, e, eh, em]
              simp [q, qh, qm]

noncomputable def rCutS (nt size : Nat) (x : Src) (lo hi mx : Option Operand) : RF := fun tm h =>
  match ev tm x with
  | .slice (some ⟨b, o, none⟩) len cap => match hget h b with
    | some (.cells _ _ _ es) => match (Nat.beq es 0 || Nat.beq es size) with
      | true => match bnd nt tm lo, bnd nt tm hi, bnd nt tm mx with
        | some l, some h, some m => match (m.isNone || h.isSome) with
          | true => match cutOK (l.getD 0) (h.getD len) (m.getD cap) cap with
            | true => match (m.isSome && Nat.beq ((m.getD cap).toNat - (l.getD 0).toNat) 0) with
              | true => some (.slice (some ⟨b, o, some 0⟩) 0 0)
              | false => some (.slice (some ⟨b, o + (l.getD 0).toNat * size, none⟩) ((h.getD len).toNat - (l.getD 0).toNat) ((m.getD cap).toNat - (l.getD 0).toNat))
            | false => none
          | false => none
        | _, _, _ => none
      | false => none
    | _ => none
  | .slice none 0 0 => match bnd nt tm lo, bnd nt tm hi, bnd nt tm mx with
    | some l, some h, some m => match (m.isNone || h.isSome) with
      | true => match cutOK (l.getD 0) (h.getD 0) (m.getD 0) 0 with
        | true => some (.slice none 0 0)
        | false => none
      | false => none
    | _, _, _ => none
  | _ => none

theorem map_toNat (b : Option Int) (n : Nat) (h : 0 ≤ b.getD n) : (b.map Int.toNat).getD n = (b.getD n).toNat ∧ 0 ≤ b.getD 0 := by
  cases b with
  | none => simp
  | some m => exact ⟨rfl, h⟩

theorem cutB_of {len cap : Nat} {l h m : Option Int} (hc : cutOK (l.getD 0) (h.getD len) (m.getD cap) cap = true) (hs : (m.isNone || h.isSome) = true) :
    cutB len cap (l.map Int.toNat) (h.map Int.toNat) (m.map Int.toNat) = some ((l.getD 0).toNat, (h.getD len).toNat, (m.getD cap).toNat) ∧ 0 ≤ l.getD 0 ∧ 0 ≤ h.getD 0 ∧ 0 ≤ m.getD 0 := by
  obtain ⟨c1, c2, c3, c4⟩ := cutOK_iff.1 hc
  obtain ⟨a1, a2⟩ := map_toNat l 0 (by simpa using c1)
  obtain ⟨b1, b2⟩ := map_toNat h len (by omega)
  obtain ⟨d1, d2⟩ := map_toNat m cap (by omega)
  refine ⟨?_, a2, b2, d2⟩
  unfold cutB
  have z : ((0 : Nat) : Int) = 0 := rfl
  rw [z] at a1
  rw [a1, b1, d1]
  have hs' : ((m.map Int.toNat).isNone || (h.map Int.toNat).isSome) = true := by cases m <;> cases h <;> simp_all
  rw [hs']
  have q : (Nat.ble (m.getD cap).toNat cap && Nat.ble (h.getD len).toNat (m.getD cap).toNat && Nat.ble (l.getD 0).toNat (h.getD len).toNat && true) = true := by
    simp only [Bool.and_eq_true, Nat.ble_eq]
    refine ⟨⟨⟨?_, ?_⟩, ?_⟩, trivial⟩ <;> omega
  rw [q]

theorem rCutS_ok {P : Program} {ty : Nat → Option XTy} (hT : TyOk P ty) {nt : Nat} {o : Oper} {t e : TypeId} {x : Operand} {lo hi mx : Option Operand} {d de : XTy} (ho : o.op = .slice t x lo hi mx) (hd : ty t = some d) (hu : d.u = .slice e) (hde : ty e = some de) :
    RdOk P nt o (rCutS nt de.size (src nt x) lo hi mx) := by
  apply RdOk.of_all
  intro tm h v hf B ρ a w ht hh
  have hx := src_ok ht x
  unfold rCutS at hf
  split at hf
  · rename_i b off len cap hp
    rw [hp] at hx
    generalize e1 : a.eval x = x' at hx
    split at hf
    · rename_i cs fz el es hg
      split at hf
      · rename_i hes
        split at hf
        · rename_i l h' m hl hhh hm
          split at hf
          · rename_i hs
            split at hf
            · rename_i hc
              obtain ⟨hcut, g1, g2, g3⟩ := cutB_of hc hs
              obtain ⟨c1, c2, c3, c4⟩ := cutOK_iff.1 hc
              have hbl := bnd_ok ht hl g1
              have hbh := bnd_ok ht hhh g2
              have hbm := bnd_ok ht hm g3
              generalize hl2 : (l.getD 0).toNat = l2 at *
              generalize hh2 : (h'.getD ↑len).toNat = h2 at *
              generalize hm2 : (m.getD ↑cap).toNat = m2 at *
              have r1 : m2 ≤ cap := by omega
              have r2 : h2 ≤ m2 := by omega
              have r3 : l2 ≤ h2 := by omega
              split at hf
              · rename_i hzc
                cases hf
                simp only [Bool.and_eq_true] at hzc
                have hz0 := Nat.eq_of_beq_eq_true hzc.2
                obtain ⟨m, rfl⟩ : ∃ q, m = some q := Option.isSome_iff_exists.1 hzc.1
                have hm3 : m.toNat = m2 := hm2
                cases hx with
                | sliceN b off L hL hes2 =>
                  refine ⟨.slice none 0 0, .zslice b off 0 none (fun q => absurd rfl q), fun w' => ?_⟩
                  have hun := hT.und hd w'
                  have hsz := hT.sizeOf hde w'
                  have q := run_sliceBounds (P := P) w' a true 0 0 0 (Nat.le_refl _) lo hi mx _ _ _ hbl hbh hbm hcut
                  have q0 : l2 = 0 ∧ h2 = 0 := by omega
                  have q1 : ((some m).map Int.toNat).getD 0 = 0 := by
                    show m.toNat = 0
                    omega
                  rw [q0.1, q0.2, q1] at q
                  simp only [execOp, ho, e1, Instr.sliceAt]
                  simp [hun, hu, Instr.slice, q, hsz]
                | slice b off len cap L o' cap' hL hz h0 h1 =>
                  have hcc : cap ≤ cap' := by
                    by_cases z : L.es = 0
                    · rw [h0 z]; exact Nat.le_refl _
                    · exact (h1 z).1
                  refine ⟨.slice (some ⟨L.b, o', none⟩) 0 0, .zslice b off 0 _ (fun q => absurd rfl q), fun w' => ?_⟩
                  have hun := hT.und hd w'
                  have hsz := hT.sizeOf hde w'
                  have r1' := run_sliceBounds (P := P) w' a true len cap cap' hcc lo hi mx _ _ _ hbl hbh hbm hcut
                  have q1 : ((some m).map Int.toNat).getD cap' = m2 := hm3
                  rw [q1] at r1'
                  have qa : m2 = l2 := by omega
                  have qb : h2 = l2 := by omega
                  rw [qa, qb] at r1'
                  simp only [execOp, ho, e1, Instr.sliceAt]
                  simp [hun, hu, Instr.slice, r1', hsz]
              cases hf
              cases hx with
              | sliceN b off L hL hes2 =>
                have k1 : m2 - l2 = 0 := by omega
                have k2 : h2 - l2 = 0 := by omega
                refine ⟨.slice none 0 0, ?_, fun w' => ?_⟩
                · rw [k2, k1]
                  exact .sliceN b _ L hL hes2
                · have hun := hT.und hd w'
                  have hsz := hT.sizeOf hde w'
                  have q := run_sliceBounds (P := P) w' a true 0 0 0 (Nat.le_refl _) lo hi mx _ _ _ hbl hbh hbm hcut
                  have q0 : l2 = 0 ∧ h2 = 0 := by omega
                  have q1 : (m.map Int.toNat).getD 0 = 0 := by
                    have := (map_toNat m 0 (by omega)).1
                    rw [this]; omega
                  rw [q0.1, q0.2, q1] at q
                  simp only [execOp, ho, e1, Instr.sliceAt]
                  simp [hun, hu, Instr.slice, q, hsz]
              | slice b off len cap L o' cap' hL hz h0 h1 =>
                have hLe : L.es = es := by
                  obtain ⟨_, hO⟩ := hh.at hg hL
                  exact hO.1
                have hes' : L.es = 0 ∨ L.es = de.size := by
                  rw [hLe]
                  rcases Bool.or_eq_true _ _ ▸ hes with q | q
                  · exact .inl (Nat.eq_of_beq_eq_true q)
                  · exact .inr (Nat.eq_of_beq_eq_true q)
                have hcc : cap ≤ cap' := by
                  by_cases z : L.es = 0
                  · rw [h0 z]; exact Nat.le_refl _
                  · exact (h1 z).1
                -- the end in the world
                have hM : m2 ≤ (m.map Int.toNat).getD cap' ∧ (L.es = 0 → (m.map Int.toNat).getD cap' = m2) ∧ (m.map Int.toNat).getD cap' ≤ cap' := by
                  cases m with
                  | none => simp at hm2 ⊢; exact ⟨by omega, fun z => by rw [h0 z]; exact hm2⟩
                  | some m => simp at hm2 ⊢; exact ⟨by omega, fun _ => hm2, by omega⟩
                generalize hm3 : (m.map Int.toNat).getD cap' = m3 at *
                refine ⟨.slice (some (if m3 = l2 then ⟨L.b, o', none⟩ else ⟨L.b, o' + l2 * de.size, none⟩)) (h2 - l2) (m3 - l2), ?_, fun w' => ?_⟩
                · have hoff : (if m3 = l2 then (⟨L.b, o', none⟩ : Addr) else ⟨L.b, o' + l2 * de.size, none⟩) = ⟨L.b, (if m3 = l2 then o' else o' + l2 * de.size), none⟩ := by split <;> rfl
                  rw [hoff]
                  refine .slice b _ _ _ L _ _ hL ?_ (fun z => by rw [hM.2.1 z]) (fun z => ?_)
                  · by_cases em : m3 = l2
                    · exact .inr (by omega)
                    · rw [if_neg em]
                      rcases hz with hz | hz
                      · exact .inl (by rw [hz, Nat.add_assoc])
                      · exact .inr (by omega)
                  · obtain ⟨z1, z2, z4⟩ := h1 z
                    have hsz : L.es = de.size := hes'.resolve_left z
                    refine ⟨by omega, ?_, by split <;> omega⟩
                    have h4 : m3 * L.es ≤ cap' * L.es := Nat.mul_le_mul_right _ hM.2.2
                    by_cases em : m3 = l2
                    · rw [if_pos em]
                      have : m3 - l2 = 0 := by omega
                      rw [this]
                      omega
                    · rw [if_neg em]
                      have h3 : l2 * de.size + (m3 - l2) * L.es = m3 * L.es := by rw [hsz, ← Nat.add_mul]; congr 1; omega
                      omega
                · have hun := hT.und hd w'
                  have hsz := hT.sizeOf hde w'
                  have r1' := run_sliceBounds (P := P) w' a true len cap cap' hcc lo hi mx _ _ _ hbl hbh hbm hcut
                  rw [hm3] at r1'
                  simp only [execOp, ho, e1, Instr.sliceAt]
                  simp [hun, hu, Instr.slice, r1', hsz]
                  split <;> simp [Addr.add_none]
            · cases hf
          · cases hf
        · cases hf
      · cases hf
    · cases hf
  · rename_i hp
    rw [hp] at hx
    generalize e1 : a.eval x = x' at hx
    cases hx
    split at hf
    · rename_i l h' m hl hhh hm
      split at hf
      · rename_i hs
        split at hf
        · rename_i hc
          cases hf
          obtain ⟨hcut, g1, g2, g3⟩ := cutB_of (len := 0) (cap := 0) hc hs
          obtain ⟨c1, c2, c3, c4⟩ := cutOK_iff.1 hc
          have q0 : (l.getD 0).toNat = 0 ∧ (h'.getD 0).toNat = 0 ∧ 0 ≤ m.getD 0 := by
            omega
          refine ⟨.slice none 0 0, .snil, fun w' => ?_⟩
          have hun := hT.und hd w'
          have hsz := hT.sizeOf hde w'
          have q := run_sliceBounds (P := P) w' a true 0 0 0 (Nat.le_refl _) lo hi mx _ _ _ (bnd_ok ht hl g1) (bnd_ok ht hhh g2) (bnd_ok ht hm g3) hcut
          have q1 : (m.map Int.toNat).getD 0 = 0 := by
            have := (map_toNat m 0 q0.2.2).1
            rw [this]
            have z : ((0 : Nat) : Int) = 0 := rfl
            rw [z] at c4
            have z2 : m.getD ((0 : Nat) : Int) = m.getD 0 := rfl
            rw [z2]
            omega
          have e0 : (h'.getD ((0 : Nat) : Int)).toNat = 0 := q0.2.1
          rw [q0.1, e0, q1] at q
          simp only [execOp, ho, e1, Instr.sliceAt]
          simp [hun, hu, Instr.slice, q, hsz]
        · cases hf
      · cases hf
    · cases hf
  · cases hf

end Go.Xm
