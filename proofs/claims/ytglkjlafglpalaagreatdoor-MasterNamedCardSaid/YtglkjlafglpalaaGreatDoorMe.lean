/- The abstract machine, part 3: more operations that only read: addresses, cuts of slices, parts of structs, functions as values. -/
import Derived.Test.YtglkjlafglpalaaGreatDoorMb
import Derived.Lib.FrozenHead
import Derived.Lib.OthersKept
import Derived.Lib.Builder
import Derived.Lib.UnsafeStr
namespace Go.Xm
open Go.RowKit
noncomputable def rNil (x : Src) : RF := fun tm _ =>
 match ev tm x with
 | .pointer (some a) => some (.pointer (some a))
 | .func (.func f) a b => some (.func (.func f) a b)
 | _ => none
theorem rNil_ok {P : Program} {nt : Nat} {o : Oper} {x : Operand} (ho : o.op = .nilCheck x) : RdOk P nt o (rNil (src nt x)) := by
 apply RdOk.of_all
 intro tm h v hf B ρ a w ht hh
 have hx := src_ok ht x
 unfold rNil at hf
 split at hf
 ·rename_i p hp
  cases hf
  rw [hp] at hx
  refine ⟨a.eval x, hx, fun w' => ?_⟩
  generalize e1 : a.eval x = x' at hx
  cases hx
  simp [execOp, ho, e1]
 ·rename_i f b c hp
  cases hf
  rw [hp] at hx
  refine ⟨a.eval x, hx, fun w' => ?_⟩
  generalize e1 : a.eval x = x' at hx
  cases hx
  simp [execOp, ho, e1]
 ·cases hf
noncomputable def rFieldAddr (off : Nat) (x : Src) : RF := fun tm _ =>
 match ev tm x with
 | .pointer (some ⟨i, o, _⟩) => some (.pointer (some ⟨i, o + off, none⟩))
 | _ => none
theorem rFieldAddr_ok {P : Program} {ty : Nat → Option XTy} (hT : TyOk P ty) {nt : Nat} {o : Oper} {s : TypeId} {x : Operand} {k : Nat} {d df : XTy} {fs : Array Field} {f : Field} (ho : o.op = .fieldAddr s x k)
 (hd : ty s = some d) (hu : d.u = .struct fs) (hk : fs[k]? = some f) (hf0 : ty f.type = some df) (hz : df.size ≠ 0) : RdOk P nt o (rFieldAddr f.offset (src nt x)) := by
 apply RdOk.of_all
 intro tm h v hf B ρ a w ht hh
 have hx := src_ok ht x
 unfold rFieldAddr at hf
 split at hf
 ·rename_i i off sp hp
  cases hf
  rw [hp] at hx
  generalize e1 : a.eval x = x' at hx
  cases hx with
  | ptr i off L hL =>
   have hsz := fun w' => hT.sizeOf hf0 w'
   have hun := fun w' => hT.und hd w'
   refine ⟨.pointer (some ⟨L.b, L.sh + (off + f.offset), none⟩), .ptr i _ L hL, fun w' => ?_⟩
   simp [execOp, ho, e1, Instr.fieldAt, hun w', hu, hk, Instr.sureAddr, fieldPlace, hsz w', hz, Addr.add_none, Nat.add_assoc]
 ·cases hf
noncomputable def rExtract (k : Nat) (x : Src) : RF := fun tm _ =>
 match ev tm x with
 | .tuple vs => lget vs.toList k
 | _ => none
theorem rExtract_ok {P : Program} {nt : Nat} {o : Oper} {x : Operand} {k : Nat} (ho : o.op = .extract x k) : RdOk P nt o (rExtract k (src nt x)) := by
 apply RdOk.of_all
 intro tm h v hf B ρ a w ht hh
 have hx := src_ok ht x
 unfold rExtract at hf
 split at hf
 ·rename_i vs hp
  rw [hp] at hx
  generalize e1 : a.eval x = x' at hx
  cases hx with
  | tuple c c' hc hr =>
   rw [lget_eq] at hf
   have hk : vs[k]? = some v := by simpa using hf
   have hlt : k < c'.size := by have := (Array.getElem?_eq_some_iff.1 hk).1; omega
   have hk' : c'[k]? = some (c'[k]'hlt) := Array.getElem?_eq_getElem hlt
   refine ⟨_, hr k v _ hk hk', fun w' => ?_⟩
   simp [execOp, ho, e1, Instr.extract, hk']
 ·cases hf
def ifaceB : TypeDesc → Bool
 | .interface _ => true
 | _ => false
noncomputable def rIface (t : TypeId) (x : Src) : RF := fun tm _ => some (.iface t (ev tm x))
theorem rIface_ok {P : Program} {ty : Nat → Option XTy} (hT : TyOk P ty) {nt : Nat} {o : Oper} {t : TypeId} {x : Operand} {d : XTy} (ho : o.op = .makeInterface t x) (hd : ty t = some d) (hi : ifaceB d.u = false) :
 RdOk P nt o (rIface t (src nt x)) := by
 apply RdOk.of_all
 intro tm h v hf B ρ a w ht hh
 cases hf
 refine ⟨.iface t (a.eval x), .iface t _ _ (src_ok ht x), fun w' => ?_⟩
 have hun := hT.und hd w'
 simp only [execOp, ho, Instr.makeInterface]
 cases hu : d.u <;> rw [hu] at hun hi <;> first | (simp [ifaceB] at hi; done) | simp [hun]
noncomputable def rFunc (nt : Nat) (fn : Fn) (f c : List Operand) : RF := fun tm _ =>
 some (.func fn (f.map fun x => ev tm (src nt x)).toArray (c.map fun x => ev tm (src nt x)).toArray)
theorem evs_rel {ρ : Rho} {nt : Nat} {tm : Tr} {a : Act} (ht : TRel ρ nt tm a) (l : Array Operand) :
 ∀ (i : Nat) (v v' : Value), (l.toList.map fun x => ev tm (src nt x)).toArray[i]? = some v → (l.map a.eval)[i]? = some v' → VRel ρ v v' := by
 intro i v v' h1 h2
 simp only [List.getElem?_toArray, List.getElem?_map, Array.getElem?_toList, Option.map_eq_some_iff] at h1
 simp only [Array.getElem?_map, Option.map_eq_some_iff] at h2
 obtain ⟨x, e1, e2⟩ := h1
 obtain ⟨y, e3, e4⟩ := h2
 rw [e1] at e3
 cases e3
 rw [← e2, ← e4]
 exact src_ok ht x
theorem rFunc_ok {P : Program} {nt : Nat} {o : Oper} {fn : Fn} {f c : Array Operand} (ho : o.op = .makeFunc fn f c) : RdOk P nt o (rFunc nt fn f.toList c.toList) := by
 apply RdOk.of_all
 intro tm h v hf B ρ a w ht hh
 cases hf
 refine ⟨.func fn (f.map a.eval) (c.map a.eval), .func fn _ _ _ _ (by simp) (by simp) (evs_rel ht f) (evs_rel ht c), fun w' => ?_⟩
 simp [execOp, ho, Instr.makeFunc]
noncomputable def rLen (x : Src) : RF := fun tm _ =>
 match ev tm x with
 | .slice _ n _ => some (.int .i64 n)
 | _ => none
theorem rLen_ok {P : Program} {ty : Nat → Option XTy} (hT : TyOk P ty) {nt : Nat} {o : Oper} {t e : TypeId} {x : Operand} {d : XTy} {ts : Array TypeId} (ho : o.op = .call { callee := .builtin .len, args := #[x], argTypes := ts })
 (hts : ts[0]? = some t) (hd : ty t = some d) (hu : d.u = .slice e) : RdOk P nt o (rLen (src nt x)) := by
 apply RdOk.of_all
 intro tm h v hf B ρ a w ht hh
 have hx := src_ok ht x
 unfold rLen at hf
 split at hf
 ·rename_i b n c hp
  cases hf
  rw [hp] at hx
  generalize e1 : a.eval x = x' at hx
  have hun := fun w' => hT.und hd w'
  have : ∃ b' c', x' = .slice b' n c' := by cases hx <;> exact ⟨_, _, rfl⟩
  obtain ⟨b', c', rfl⟩ := this
  refine ⟨.int .i64 n, .int _ _, fun w' => ?_⟩
  simp [execOp, ho, resolve, e1, invoke, builtin, Builtin.len_, hts, hun w', hu, goInt]
 ·cases hf
noncomputable def rIdxS (size : Nat) (x i : Src) : RF := fun tm _ =>
 match ev tm x, ev tm i with
 | .slice (some ⟨b, o, _⟩) len _, .int _ n => match inRow n len with
  | true => some (.pointer (some ⟨b, o + n.toNat * size, none⟩))
  | false => none
 | _, _ => none
theorem rIdxS_ok {P : Program} {ty : Nat → Option XTy} (hT : TyOk P ty) {nt : Nat} {o : Oper} {t e : TypeId} {x i : Operand} {d de : XTy} (ho : o.op = .indexAddr t x i) (hd : ty t = some d) (hu : d.u = .slice e) (hde : ty e = some de) :
 RdOk P nt o (rIdxS de.size (src nt x) (src nt i)) := by
 apply RdOk.of_all
 intro tm h v hf B ρ a w ht hh
 have hx := src_ok ht x
 have hi := src_ok ht i
 unfold rIdxS at hf
 split at hf
 ·rename_i b off sp len cap k n hp hq
  rw [hp] at hx
  rw [hq] at hi
  generalize e1 : a.eval x = x' at hx
  generalize e2 : a.eval i = i' at hi
  split at hf
  ·rename_i hlt
   obtain ⟨hn, hlt⟩ := inRow_iff.1 hlt
   obtain ⟨n, rfl⟩ : ∃ m : Nat, n = m := ⟨n.toNat, by omega⟩
   have hlt' : n < len := by omega
   cases hf
   cases hi
   cases hx with
   | sliceN b off L hL hes => omega
   | zslice b off k a hk => omega
   | slice b off len cp L o' cap' hL hz h0 h1 =>
    have ho' : o' = L.sh + off := by
     rcases hz with h | h
     ·exact h
     ·omega
    subst ho'
    refine ⟨.pointer (some ⟨L.b, L.sh + (off + n * de.size), none⟩), .ptr b _ L hL, fun w' => ?_⟩
    have hun := hT.und hd w'
    have hsz := hT.sizeOf hde w'
    simp [execOp, ho, e1, e2, Instr.indexAt, asIntOf, hun, hu, hsz, hlt', Addr.add_none, Nat.add_assoc]
  ·cases hf
 ·cases hf
noncomputable def rIdxA (len size : Nat) (x i : Src) : RF := fun tm _ =>
 match ev tm x, ev tm i with
 | .pointer (some ⟨b, o, _⟩), .int _ n => match inRow n len with
  | true => some (.pointer (some ⟨b, o + n.toNat * size, none⟩))
  | false => none
 | _, _ => none
theorem rIdxA_ok {P : Program} {ty : Nat → Option XTy} (hT : TyOk P ty) {nt : Nat} {o : Oper} {t e : TypeId} {len : Nat} {x i : Operand} {d de : XTy} (ho : o.op = .indexAddr t x i) (hd : ty t = some d) (hu : d.u = .array len e) (hde : ty e = some de) :
 RdOk P nt o (rIdxA len de.size (src nt x) (src nt i)) := by
 apply RdOk.of_all
 intro tm h v hf B ρ a w ht hh
 have hx := src_ok ht x
 have hi := src_ok ht i
 unfold rIdxA at hf
 split at hf
 ·rename_i b off sp k n hp hq
  rw [hp] at hx
  rw [hq] at hi
  generalize e1 : a.eval x = x' at hx
  generalize e2 : a.eval i = i' at hi
  split at hf
  ·rename_i hlt
   obtain ⟨hn, hlt⟩ := inRow_iff.1 hlt
   obtain ⟨n, rfl⟩ : ∃ m : Nat, n = m := ⟨n.toNat, by omega⟩
   have hlt' : n < len := by omega
   cases hf
   cases hi
   cases hx with
   | ptr b off L hL =>
    refine ⟨.pointer (some ⟨L.b, L.sh + (off + n * de.size), none⟩), .ptr b _ L hL, fun w' => ?_⟩
    have hun := hT.und hd w'
    have hsz := hT.sizeOf hde w'
    simp [execOp, ho, e1, e2, Instr.indexAt, asIntOf, hun, hu, hsz, hlt', Addr.add_none, Nat.add_assoc, Instr.sureAddr]
  ·cases hf
 ·cases hf
noncomputable def bnd (nt : Nat) (tm : Tr) (x : Option Operand) : Option (Option Int) :=
 match x with
 | none => some none
 | some x => match ev tm (src nt x) with
  | .int _ n => some (some n)
  | _ => none
def cutOK (lo hi mx : Int) (cap : Nat) : Bool := decide (0 ≤ lo) && (decide (lo ≤ hi) && (decide (hi ≤ mx) && decide (mx ≤ (cap : Int))))
theorem cutOK_iff {lo hi mx : Int} {cap : Nat} : cutOK lo hi mx cap = true ↔ 0 ≤ lo ∧ lo ≤ hi ∧ hi ≤ mx ∧ mx ≤ (cap : Int) := by simp [cutOK]
def cutB (len cap : Nat) (lo hi mx : Option Nat) : Option (Nat × Nat × Nat) :=
 match (Nat.ble (mx.getD cap) cap && Nat.ble (hi.getD len) (mx.getD cap) && Nat.ble (lo.getD 0) (hi.getD len) && (mx.isNone || hi.isSome)) with
 | true => some (lo.getD 0, hi.getD len, mx.getD cap)
 | false => none
theorem cutB_ok {len cap : Nat} {lo hi mx : Option Nat} {l h m : Nat} (e : cutB len cap lo hi mx = some (l, h, m)) :
 l = lo.getD 0 ∧ h = hi.getD len ∧ m = mx.getD cap ∧ m ≤ cap ∧ h ≤ m ∧ l ≤ h ∧ (mx = none ∨ hi.isSome = true) := by
 unfold cutB at e
 split at e
 ·rename_i hb
  simp only [Bool.and_eq_true, Bool.or_eq_true, Nat.ble_eq] at hb
  simp only [Option.some.injEq, Prod.mk.injEq] at e
  obtain ⟨e1, e2, e3⟩ := e
  subst e1; subst e2; subst e3
  refine ⟨rfl, rfl, rfl, hb.1.1.1, hb.1.1.2, hb.1.2, ?_⟩
  rcases hb.2 with q | q
  ·exact .inl (by cases mx <;> first | rfl | cases q)
  ·exact .inr q
 ·cases e
theorem run_sliceBound_nat {P : Program} (w : World) (k : IntKind) (n y : Nat) (c : BoundsCode) (h : n ≤ y) : (Instr.sliceBound (.int k (n : Int)) y c).run P w = .ok n w := by
 simp [Instr.sliceBound, asIntOf, h]
def BndOk (a : Act) (x : Option Operand) (b : Option Nat) : Prop :=
 match x, b with
 | none, none => True
 | some x, some n => ∃ k, a.eval x = .int k (Int.ofNat n)
 | _, _ => False
theorem bnd_ok {ρ : Rho} {nt : Nat} {tm : Tr} {a : Act} (ht : TRel ρ nt tm a) {x : Option Operand} {b : Option Int} (h : bnd nt tm x = some b) (hb : 0 ≤ b.getD 0) : BndOk a x (b.map Int.toNat) := by
 cases x with
 | none => simp [bnd] at h; subst h; trivial
 | some x =>
  simp only [bnd] at h
  split at h
  ·rename_i k n hk
   cases h
   have := src_ok ht x
   rw [hk] at this
   generalize e1 : a.eval x = x' at this
   cases this
   refine ⟨k, ?_⟩
   rw [e1]
   have hb : 0 ≤ n := hb
   have : Int.ofNat n.toNat = n := Int.toNat_of_nonneg hb
   rw [this]
  ·cases h
theorem run_sliceBounds {P : Program} (w : World) (a : Act) (isS : Bool) (len cap cap' : Nat) (hc : cap ≤ cap') (lo hi mx : Option Operand) (l h m : Option Nat) (hl : BndOk a lo l) (hh : BndOk a hi h) (hm : BndOk a mx m)
 {l2 h2 m2 : Nat} (hr : cutB len cap l h m = some (l2, h2, m2)) :
 (Instr.sliceBounds isS len cap' (lo.map a.eval) (hi.map a.eval) (mx.map a.eval)).run P w = .ok (l2, h2, m.getD cap') w := by
 obtain ⟨e1, e2, e3, b1, b2, b3, b4⟩ := cutB_ok hr
 have hM : h2 ≤ m.getD cap' := by cases m with
  | none => simp only [Option.getD_none] at e3 ⊢; omega
  | some m => simp only [Option.getD_some] at e3 ⊢; omega
 have hM' : m.getD cap' ≤ cap' := by cases m with
  | none => exact Nat.le_refl _
  | some m => simp only [Option.getD_some] at e3 ⊢; omega
 cases mx with
 | none => cases m with
  | some m => exact hm.elim
  | none =>
   cases hi with
   | none => cases h with
    | some h => exact hh.elim
    | none =>
     cases lo with
     | none => cases l with
      | some l => exact hl.elim
      | none =>
       simp only [Option.getD_none] at e1 e2
       subst e1; subst e2
       simp [Instr.sliceBounds]
     | some lo => cases l with
      | none => exact hl.elim
      | some l =>
       obtain ⟨k, e⟩ := hl
       simp only [Option.getD_none, Option.getD_some] at e1 e2
       subst e1; subst e2
       have q := fun c => run_sliceBound_nat (P := P) w k l2 h2 c b3
       simp only [Instr.sliceBounds, Option.map_some, Option.map_none, e]
       simp [q]
   | some hi => cases h with
    | none => exact hh.elim
    | some h =>
     obtain ⟨kh, eh⟩ := hh
     have qh := fun c => run_sliceBound_nat (P := P) w kh h cap' c (by simp only [Option.getD_some, Option.getD_none] at e2 hM; omega)
     cases lo with
     | none => cases l with
      | some l => exact hl.elim
      | none =>
       simp only [Option.getD_none, Option.getD_some] at e1 e2
       subst e1; subst e2
       simp only [Instr.sliceBounds, Option.map_some, Option.map_none, eh]
       simp [qh]
     | some lo => cases l with
      | none => exact hl.elim
      | some l =>
       obtain ⟨k, e⟩ := hl
       simp only [Option.getD_some] at e1 e2
       subst e1; subst e2
       have q := fun c => run_sliceBound_nat (P := P) w k l2 h2 c b3
       simp only [Instr.sliceBounds, Option.map_some, Option.map_none, e, eh]
       simp [q, qh]
 | some mx => cases m with
  | none => exact hm.elim
  | some m =>
   obtain ⟨km, em⟩ := hm
   have qm := fun c => run_sliceBound_nat (P := P) w km m cap' c hM'
   cases hi with
   | none => cases h with
    | some h => exact hh.elim
    | none => rcases b4 with b4 | b4 <;> cases b4
   | some hi => cases h with
    | none => exact hh.elim
    | some h =>
     obtain ⟨kh, eh⟩ := hh
     have qh := fun c => run_sliceBound_nat (P := P) w kh h m c (by simp only [Option.getD_some] at e2 hM; omega)
     cases lo with
     | none => cases l with
      | some l => exact hl.elim
      | none =>
       simp only [Option.getD_none, Option.getD_some] at e1 e2
       subst e1; subst e2
       simp only [Instr.sliceBounds, Option.map_some, Option.map_none, eh, em]
       simp [qh, qm]
     | some lo => cases l with
      | none => exact hl.elim
      | some l =>
       obtain ⟨k, e⟩ := hl
       simp only [Option.getD_some] at e1 e2
       subst e1; subst e2
       have q := fun c => run_sliceBound_nat (P := P) w k l2 h2 c b3
       simp only [Instr.sliceBounds, Option.map_some, e, eh, em]
       simp [q, qh, qm]
noncomputable def rCutS (nt size : Nat) (x : Src) (lo hi mx : Option Operand) : RF := fun tm h =>
 match ev tm x with
 | .slice (some ⟨b, o, none⟩) len cap => match hget h b with
  | some (.cells _ _ _ es) => match (Nat.beq es 0 || Nat.beq es size) with
   | true => match bnd nt tm lo, bnd nt tm hi, bnd nt tm mx with
    | some l, some h, some m => match (m.isNone || h.isSome) with
     | true => match cutOK (l.getD 0) (h.getD len) (m.getD cap) cap with
      | true => match (m.isSome && Nat.beq ((m.getD cap).toNat - (l.getD 0).toNat) 0) with
       | true => some (.slice (some ⟨b, o, some 0⟩) 0 0)
       | false => some (.slice (some ⟨b, o + (l.getD 0).toNat * size, none⟩) ((h.getD len).toNat - (l.getD 0).toNat) ((m.getD cap).toNat - (l.getD 0).toNat))
      | false => none
     | false => none
    | _, _, _ => none
   | false => none
  | _ => none
 | .slice none 0 0 => match bnd nt tm lo, bnd nt tm hi, bnd nt tm mx with
  | some l, some h, some m => match (m.isNone || h.isSome) with
   | true => match cutOK (l.getD 0) (h.getD 0) (m.getD 0) 0 with
    | true => some (.slice none 0 0)
    | false => none
   | false => none
  | _, _, _ => none
 | _ => none
theorem map_toNat (b : Option Int) (n : Nat) (h : 0 ≤ b.getD n) : (b.map Int.toNat).getD n = (b.getD n).toNat ∧ 0 ≤ b.getD 0 := by
 cases b with
 | none => simp
 | some m => exact ⟨rfl, h⟩
theorem cutB_of {len cap : Nat} {l h m : Option Int} (hc : cutOK (l.getD 0) (h.getD len) (m.getD cap) cap = true) (hs : (m.isNone || h.isSome) = true) :
 cutB len cap (l.map Int.toNat) (h.map Int.toNat) (m.map Int.toNat) = some ((l.getD 0).toNat, (h.getD len).toNat, (m.getD cap).toNat) ∧ 0 ≤ l.getD 0 ∧ 0 ≤ h.getD 0 ∧ 0 ≤ m.getD 0 := by
 obtain ⟨c1, c2, c3, c4⟩ := cutOK_iff.1 hc
 obtain ⟨a1, a2⟩ := map_toNat l 0 (by simpa using c1)
 obtain ⟨b1, b2⟩ := map_toNat h len (by omega)
 obtain ⟨d1, d2⟩ := map_toNat m cap (by omega)
 refine ⟨?_, a2, b2, d2⟩
 unfold cutB
 have z : ((0 : Nat) : Int) = 0 := rfl
 rw [z] at a1
 rw [a1, b1, d1]
 have hs' : ((m.map Int.toNat).isNone || (h.map Int.toNat).isSome) = true := by cases m <;> cases h <;> simp_all
 rw [hs']
 have q : (Nat.ble (m.getD cap).toNat cap && Nat.ble (h.getD len).toNat (m.getD cap).toNat && Nat.ble (l.getD 0).toNat (h.getD len).toNat && true) = true := by
  simp only [Bool.and_eq_true, Nat.ble_eq]
  refine ⟨⟨⟨?_, ?_⟩, ?_⟩, trivial⟩ <;> omega
 rw [q]
theorem rCutS_all {P : Program} {ty : Nat → Option XTy} (hT : TyOk P ty) {nt : Nat} {o : Oper} {t e : TypeId} {x : Operand} {lo hi mx : Option Operand} {d de : XTy} (ho : o.op = .slice t x lo hi mx) (hd : ty t = some d) (hu : d.u = .slice e) (hde : ty e = some de) :
 ∀ tm hp v, rCutS nt de.size (src nt x) lo hi mx tm hp = some v → ∀ (B : Bd) (ρ : Rho) (a : Act) (w : World), TRel ρ nt tm a → HRel B ρ hp w →
 ∃ v', VRel ρ v v' ∧ ∀ w', (execOp a.eval o).run P w' = .ok (.value v') w' := by
 intro tm h v hf B ρ a w ht hh
 have hx := src_ok ht x
 unfold rCutS at hf
 split at hf
 ·rename_i b off len cap hp
  rw [hp] at hx
  generalize e1 : a.eval x = x' at hx
  split at hf
  ·rename_i cs fz el es hg
   split at hf
   ·rename_i hes
    split at hf
    ·rename_i l h' m hl hhh hm
     split at hf
     ·rename_i hs
      split at hf
      ·rename_i hc
       obtain ⟨hcut, g1, g2, g3⟩ := cutB_of hc hs
       obtain ⟨c1, c2, c3, c4⟩ := cutOK_iff.1 hc
       have hbl := bnd_ok ht hl g1
       have hbh := bnd_ok ht hhh g2
       have hbm := bnd_ok ht hm g3
       generalize hl2 : (l.getD 0).toNat = l2 at *
       generalize hh2 : (h'.getD ↑len).toNat = h2 at *
       generalize hm2 : (m.getD ↑cap).toNat = m2 at *
       have r1 : m2 ≤ cap := by omega
       have r2 : h2 ≤ m2 := by omega
       have r3 : l2 ≤ h2 := by omega
       split at hf
       ·rename_i hzc
        cases hf
        simp only [Bool.and_eq_true] at hzc
        have hz0 := Nat.eq_of_beq_eq_true hzc.2
        obtain ⟨m, rfl⟩ : ∃ q, m = some q := Option.isSome_iff_exists.1 hzc.1
        have hm3 : m.toNat = m2 := hm2
        cases hx with
        | sliceN b off L hL hes2 =>
         refine ⟨.slice none 0 0, .zslice b off 0 none (fun q => absurd rfl q), fun w' => ?_⟩
         have hun := hT.und hd w'
         have hsz := hT.sizeOf hde w'
         have q := run_sliceBounds (P := P) w' a true 0 0 0 (Nat.le_refl _) lo hi mx _ _ _ hbl hbh hbm hcut
         have q0 : l2 = 0 ∧ h2 = 0 := by omega
         have q1 : ((some m).map Int.toNat).getD 0 = 0 := by
          show m.toNat = 0
          omega
         rw [q0.1, q0.2, q1] at q
         simp only [execOp, ho, e1, Instr.sliceAt]
         simp [hun, hu, Instr.slice, q, hsz]
        | slice b off len cap L o' cap' hL hz h0 h1 =>
         have hcc : cap ≤ cap' := by
          by_cases z : L.es = 0
          ·rw [h0 z]; exact Nat.le_refl _
          ·exact (h1 z).1
         refine ⟨.slice (some ⟨L.b, o', none⟩) 0 0, .zslice b off 0 _ (fun q => absurd rfl q), fun w' => ?_⟩
         have hun := hT.und hd w'
         have hsz := hT.sizeOf hde w'
         have r1' := run_sliceBounds (P := P) w' a true len cap cap' hcc lo hi mx _ _ _ hbl hbh hbm hcut
         have q1 : ((some m).map Int.toNat).getD cap' = m2 := hm3
         rw [q1] at r1'
         have qa : m2 = l2 := by omega
         have qb : h2 = l2 := by omega
         rw [qa, qb] at r1'
         simp only [execOp, ho, e1, Instr.sliceAt]
         simp [hun, hu, Instr.slice, r1', hsz]
       cases hf
       cases hx with
       | sliceN b off L hL hes2 =>
        have k1 : m2 - l2 = 0 := by omega
        have k2 : h2 - l2 = 0 := by omega
        refine ⟨.slice none 0 0, ?_, fun w' => ?_⟩
        ·rw [k2, k1]
         exact .sliceN b _ L hL hes2
        ·have hun := hT.und hd w'
         have hsz := hT.sizeOf hde w'
         have q := run_sliceBounds (P := P) w' a true 0 0 0 (Nat.le_refl _) lo hi mx _ _ _ hbl hbh hbm hcut
         have q0 : l2 = 0 ∧ h2 = 0 := by omega
         have q1 : (m.map Int.toNat).getD 0 = 0 := by
          have := (map_toNat m 0 (by omega)).1
          rw [this]; omega
         rw [q0.1, q0.2, q1] at q
         simp only [execOp, ho, e1, Instr.sliceAt]
         simp [hun, hu, Instr.slice, q, hsz]
       | slice b off len cap L o' cap' hL hz h0 h1 =>
        have hLe : L.es = es := by
         obtain ⟨_, hO⟩ := hh.at hg hL
         exact hO.1
        have hes' : L.es = 0 ∨ L.es = de.size := by
         rw [hLe]
         rcases Bool.or_eq_true _ _ ▸ hes with q | q
         ·exact .inl (Nat.eq_of_beq_eq_true q)
         ·exact .inr (Nat.eq_of_beq_eq_true q)
        have hcc : cap ≤ cap' := by
         by_cases z : L.es = 0
         ·rw [h0 z]; exact Nat.le_refl _
         ·exact (h1 z).1
        -- the end in the world
        have hM : m2 ≤ (m.map Int.toNat).getD cap' ∧ (L.es = 0 → (m.map Int.toNat).getD cap' = m2) ∧ (m.map Int.toNat).getD cap' ≤ cap' := by
         cases m with
         | none => simp at hm2 ⊢; exact ⟨by omega, fun z => by rw [h0 z]; exact hm2⟩
         | some m => simp at hm2 ⊢; exact ⟨by omega, fun _ => hm2, by omega⟩
        generalize hm3 : (m.map Int.toNat).getD cap' = m3 at *
        refine ⟨.slice (some (if m3 = l2 then ⟨L.b, o', none⟩ else ⟨L.b, o' + l2 * de.size, none⟩)) (h2 - l2) (m3 - l2), ?_, fun w' => ?_⟩
        ·have hoff : (if m3 = l2 then (⟨L.b, o', none⟩ : Addr) else ⟨L.b, o' + l2 * de.size, none⟩) = ⟨L.b, (if m3 = l2 then o' else o' + l2 * de.size), none⟩ := by split <;> rfl
         rw [hoff]
         refine .slice b _ _ _ L _ _ hL ?_ (fun z => by rw [hM.2.1 z]) (fun z => ?_)
         ·by_cases em : m3 = l2
          ·exact .inr (by omega)
          ·rw [if_neg em]
           rcases hz with hz | hz
           ·exact .inl (by rw [hz, Nat.add_assoc])
           ·exact .inr (by omega)
         ·obtain ⟨z1, z2, z4⟩ := h1 z
          have hsz : L.es = de.size := hes'.resolve_left z
          refine ⟨by omega, ?_, by split <;> omega⟩
          have h4 : m3 * L.es ≤ cap' * L.es := Nat.mul_le_mul_right _ hM.2.2
          by_cases em : m3 = l2
          ·rw [if_pos em]
           have : m3 - l2 = 0 := by omega
           rw [this]
           omega
          ·rw [if_neg em]
           have h3 : l2 * de.size + (m3 - l2) * L.es = m3 * L.es := by rw [hsz, ← Nat.add_mul]; congr 1; omega
           omega
        ·have hun := hT.und hd w'
         have hsz := hT.sizeOf hde w'
         have r1' := run_sliceBounds (P := P) w' a true len cap cap' hcc lo hi mx _ _ _ hbl hbh hbm hcut
         rw [hm3] at r1'
         simp only [execOp, ho, e1, Instr.sliceAt]
         simp [hun, hu, Instr.slice, r1', hsz]
         split <;> simp [Addr.add_none]
      ·cases hf
     ·cases hf
    ·cases hf
   ·cases hf
  ·cases hf
 ·rename_i hp
  rw [hp] at hx
  generalize e1 : a.eval x = x' at hx
  cases hx
  split at hf
  ·rename_i l h' m hl hhh hm
   split at hf
   ·rename_i hs
    split at hf
    ·rename_i hc
     cases hf
     obtain ⟨hcut, g1, g2, g3⟩ := cutB_of (len := 0) (cap := 0) hc hs
     obtain ⟨c1, c2, c3, c4⟩ := cutOK_iff.1 hc
     have q0 : (l.getD 0).toNat = 0 ∧ (h'.getD 0).toNat = 0 ∧ 0 ≤ m.getD 0 := by
      omega
     refine ⟨.slice none 0 0, .snil, fun w' => ?_⟩
     have hun := hT.und hd w'
     have hsz := hT.sizeOf hde w'
     have q := run_sliceBounds (P := P) w' a true 0 0 0 (Nat.le_refl _) lo hi mx _ _ _ (bnd_ok ht hl g1) (bnd_ok ht hhh g2) (bnd_ok ht hm g3) hcut
     have q1 : (m.map Int.toNat).getD 0 = 0 := by
      have := (map_toNat m 0 q0.2.2).1
      rw [this]
      have z : ((0 : Nat) : Int) = 0 := rfl
      rw [z] at c4
      have z2 : m.getD ((0 : Nat) : Int) = m.getD 0 := rfl
      rw [z2]
      omega
     have e0 : (h'.getD ((0 : Nat) : Int)).toNat = 0 := q0.2.1
     rw [q0.1, e0, q1] at q
     simp only [execOp, ho, e1, Instr.sliceAt]
     simp [hun, hu, Instr.slice, q, hsz]
    ·cases hf
   ·cases hf
  ·cases hf
 ·cases hf
theorem rCutS_ok {P : Program} {ty : Nat → Option XTy} (hT : TyOk P ty) {nt : Nat} {o : Oper} {t e : TypeId} {x : Operand} {lo hi mx : Option Operand} {d de : XTy} (ho : o.op = .slice t x lo hi mx) (hd : ty t = some d) (hu : d.u = .slice e) (hde : ty e = some de) :
 RdOk P nt o (rCutS nt de.size (src nt x) lo hi mx) := RdOk.of_all (rCutS_all hT ho hd hu hde)
abbrev EF := Tr → Heap → Nat → Option (Value × Heap × Nat)
def EfPost (P : Program) (o : Oper) (B : Bd) (ρ : Rho) (a : Act) (w : World) (v : Value) (h' : Heap) (c' : Nat) : Prop :=
 ∃ v' w' ρ', ((execOp a.eval o).run P w = .ok (.value v') w' ∨ ((execOp a.eval o).run P w = .ok .skip w' ∧ v' = undef)) ∧
  VRel ρ' v v' ∧ Rho.le ρ ρ' ∧ ρ'.length = c' ∧ HRel B ρ' h' w' ∧ Bel B w w'
def EfOk (P : Program) (nt : Nat) (o : Oper) (f : EF) : Prop :=
 ∀ tm h c v h' c', f tm h c = some (v, h', c') → ∀ (B : Bd) (ρ : Rho) (a : Act) (w : World), TRel ρ nt tm a → HRel B ρ h w → ρ.length = c → B.n ≤ w.heap.size →
  EfPost P o B ρ a w v h' c'
theorem heap_new (w : World) (o : Obj) : (w.alloc o).heap[w.heap.size]? = some o := by
 show (w.heap.push o)[w.heap.size]? = some o
 simp
theorem heap_old (w : World) (o : Obj) {k : Nat} (h : k < w.heap.size) : (w.alloc o).heap[k]? = w.heap[k]? := Below.heap_alloc w o k h
def Cells (ρ : Rho) (cs : List Value) (C : List Value) : Prop := cs.length = C.length ∧ ∀ (i : Nat) (v v' : Value), cs[i]? = some v → C[i]? = some v' → VRel ρ v v'
theorem Cells.mono {ρ ρ' : Rho} (hle : Rho.le ρ ρ') {cs C : List Value} (h : Cells ρ cs C) : Cells ρ' cs C := ⟨h.1, fun i v v' a b => (h.2 i v v' a b).mono hle⟩
theorem Cells.nil (ρ : Rho) : Cells ρ [] [] := ⟨rfl, fun i v v' a => by simp at a⟩
theorem Cells.append {ρ : Rho} {a b c d : List Value} (h : Cells ρ a c) (k : Cells ρ b d) : Cells ρ (a ++ b) (c ++ d) := by
 refine ⟨by simp [h.1, k.1], fun i v v' e1 e2 => ?_⟩
 by_cases hi : i < a.length
 ·rw [List.getElem?_append_left hi] at e1
  rw [List.getElem?_append_left (by rw [← h.1]; exact hi)] at e2
  exact h.2 i v v' e1 e2
 ·rw [List.getElem?_append_right (by omega)] at e1
  rw [List.getElem?_append_right (by rw [← h.1]; omega), ← h.1] at e2
  exact k.2 _ v v' e1 e2
theorem Cells.take {ρ : Rho} {a c : List Value} (h : Cells ρ a c) (n : Nat) : Cells ρ (a.take n) (c.take n) := by
 refine ⟨by simp [h.1], fun i v v' e1 e2 => ?_⟩
 rw [List.getElem?_take] at e1 e2
 split at e1
 ·exact h.2 i v v' e1 (by rename_i hi; rw [if_pos hi] at e2; exact e2)
 ·cases e1
theorem Cells.drop {ρ : Rho} {a c : List Value} (h : Cells ρ a c) (n : Nat) : Cells ρ (a.drop n) (c.drop n) := by
 refine ⟨by simp [h.1], fun i v v' e1 e2 => ?_⟩
 rw [List.getElem?_drop] at e1 e2
 exact h.2 _ v v' e1 e2
theorem Cells.get {ρ : Rho} {a c : List Value} (h : Cells ρ a c) {i : Nat} {v : Value} (e : a[i]? = some v) : ∃ v', c[i]? = some v' ∧ VRel ρ v v' := by
 have hi : i < c.length := by have := (List.getElem?_eq_some_iff.1 e).1; rw [← h.1]; exact this
 exact ⟨c[i], List.getElem?_eq_getElem hi, h.2 i v _ e (List.getElem?_eq_getElem hi)⟩
theorem OOk.cells {ρ : Rho} {w : World} {L : Loc} {cs : List Value} {fz : Nat} {e : TypeId} {es : Nat} (h : OOk ρ w L (.cells cs fz e es)) (hne : cs ≠ [] ∨ es = 0) :
 L.es = es ∧ ¬ L.gho ∧ ∃ C fr, w.heap[L.b]? = some (.cells C e fr) ∧ C.size = L.sz ∧ L.sh + cs.length ≤ L.sz ∧ Cells ρ cs ((C.toList.drop L.sh).take cs.length) ∧ fr.2 ≤ L.sh + fz ∧ (L.es = 0 → L.sh = 0 ∧ L.sz = cs.length) := by
 obtain ⟨h0, hn, C, fr, h1, h2, h3, h4, h5, h6⟩ := h.real hne
 refine ⟨h0, hn, C, fr, h1, h2, h3, ⟨by simp; omega, fun i v v' e1 e2 => ?_⟩, h5, h6⟩
 obtain ⟨u, a, b⟩ := h4 i v e1
 rw [List.getElem?_take] at e2
 split at e2
 ·rw [List.getElem?_drop, Array.getElem?_toList, a] at e2
  cases e2
  exact b
 ·cases e2
theorem OOk.cellsN {ρ : Rho} {w : World} {L : Loc} {cs : List Value} {fz : Nat} {e : TypeId} {es : Nat} (h : OOk ρ w L (.cells cs fz e es)) (hn : ¬ L.gho) :
 ∃ C fr, w.heap[L.b]? = some (.cells C e fr) ∧ C.size = L.sz ∧ L.sh + cs.length ≤ L.sz ∧ Cells ρ cs ((C.toList.drop L.sh).take cs.length) ∧ fr.2 ≤ L.sh + fz ∧ (L.es = 0 → L.sh = 0 ∧ L.sz = cs.length) := by
 obtain ⟨h0, hg | ⟨C, fr, h1, h2, h3, h4, h5, h6⟩⟩ := h
 ·exact absurd hg.1 hn
 refine ⟨C, fr, h1, h2, h3, ⟨by simp; omega, fun i v v' e1 e2 => ?_⟩, h5, h6⟩
 obtain ⟨u, a, b⟩ := h4 i v e1
 rw [List.getElem?_take] at e2
 split at e2
 ·rw [List.getElem?_drop, Array.getElem?_toList, a] at e2
  cases e2
  exact b
 ·cases e2
theorem OOk.mk_cells {ρ : Rho} {w : World} {L : Loc} {cs : List Value} {fz : Nat} {e : TypeId} {es : Nat} {C : Array Value} {fr : Nat × Nat} (h0 : L.es = es) (h1 : w.heap[L.b]? = some (.cells C e fr)) (h2 : C.size = L.sz)
 (h3 : L.sh + cs.length ≤ L.sz) (h4 : Cells ρ cs ((C.toList.drop L.sh).take cs.length)) (h5 : fr.2 ≤ L.sh + fz) (h6 : L.es = 0 → L.sh = 0 ∧ L.sz = cs.length) : OOk ρ w L (.cells cs fz e es) := by
 refine ⟨h0, .inr ⟨C, fr, h1, h2, h3, fun i v e1 => ?_, h5, h6⟩⟩
 obtain ⟨v', a, b⟩ := h4.get e1
 have hi : i < cs.length := (List.getElem?_eq_some_iff.1 e1).1
 rw [List.getElem?_take, if_pos hi, List.getElem?_drop, Array.getElem?_toList] at a
 exact ⟨v', a, b⟩
theorem HRel.newCells {B : Bd} {ρ : Rho} {h : Heap} {w : World} (H : HRel B ρ h w) (hB : B.n ≤ w.heap.size) {cs : List Value} {C : Array Value} (hc : Cells ρ cs C.toList) (e : TypeId) :
 HRel B (ρ ++ [⟨w.heap.size, 0, C.size, 0⟩]) ((ρ.length, .cells cs 0 e 0) :: h) (w.alloc (.cells C e)) := by
 have hl : cs.length = C.size := by simpa using hc.1
 refine H.new hB (Nat.le_refl _) (fun k hk => heap_old w _ hk) ?_
 refine OOk.mk_cells (C := C) (fr := (0, 0)) rfl (heap_new w _) rfl (by show 0 + cs.length ≤ C.size; omega) ?_ (Nat.zero_le _) (fun _ => ⟨rfl, hl.symm⟩)
 have : (C.toList.drop 0).take cs.length = C.toList := by rw [List.drop_zero, hc.1]; exact List.take_length
 rw [this]
 exact hc.mono (Rho.le_push _ _)
theorem HRel.newCellsS {B : Bd} {ρ : Rho} {h : Heap} {w : World} (H : HRel B ρ h w) (hB : B.n ≤ w.heap.size) {cs : List Value} {C D : Array Value} (hc : Cells ρ cs D.toList) (hD : D = C.extract 0 cs.length) (hl : cs.length ≤ C.size) (e : TypeId) {es : Nat} (hes : es = 0 → cs.length = C.size) :
 HRel B (ρ ++ [⟨w.heap.size, 0, C.size, es⟩]) ((ρ.length, .cells cs 0 e es) :: h) (w.alloc (.cells C e)) := by
 refine H.new hB (Nat.le_refl _) (fun k hk => heap_old w _ hk) ?_
 refine OOk.mk_cells (C := C) (fr := (0, 0)) rfl (heap_new w _) rfl (by show 0 + cs.length ≤ C.size; omega) ?_ (Nat.zero_le _) (fun q => ⟨rfl, (hes q).symm⟩)
 have : (C.toList.drop 0).take cs.length = D.toList := by rw [hD]; simp
 rw [this]
 exact hc.mono (Rho.le_push _ _)
def solid : Value → Bool
 | .chan (some (_ + 2)) => true
 | .chan _ => false
 | _ => true
theorem VRel.cells {ρ : Rho} {v v' : Value} (h : VRel ρ v v') (hs : solid v = true) : Cells ρ v.cells.toList v'.cells.toList := by
 have one : ∀ (a b : Value), VRel ρ a b → Cells ρ [a] [b] := by
  intro a b hab
  refine ⟨rfl, fun i u u' e1 e2 => ?_⟩
  cases i with
  | zero => simp at e1 e2; subst e1; subst e2; exact hab
  | succ i => simp at e1
 cases h with
 | poison v => simp [solid] at hs
 | tok b => exact one _ _ (.tok b)
 | agg c c' hc hr =>
  exact ⟨by simpa [Value.cells] using hc, fun i u u' e1 e2 => hr i u u' (by simpa [Value.cells] using e1) (by simpa [Value.cells] using e2)⟩
 | bool b => exact one _ _ (.bool b)
 | int k n => exact one _ _ (.int k n)
 | string s => exact one _ _ (.string s)
 | pnil => exact one _ _ .pnil
 | ptr i o L h => exact one _ _ (.ptr i o L h)
 | snil => exact one _ _ .snil
 | slice i o len cap L o' cap' h hz h0 h1 => exact one _ _ (.slice i o len cap L o' cap' h hz h0 h1)
 | sliceN i o L h hes => exact one _ _ (.sliceN i o L h hes)
 | zslice i o k a hk => exact one _ _ (.zslice i o k a hk)
 | mnil => exact one _ _ .mnil
 | map r L h => exact one _ _ (.map r L h)
 | fnil => exact one _ _ .fnil
 | inil => exact one _ _ .inil
 | iface t v v' h => exact one _ _ (.iface t v v' h)
 | func fn f f' c c' hf hc h1 h2 => exact one _ _ (.func fn f f' c c' hf hc h1 h2)
 | tuple c c' hc hr => exact one _ _ (.tuple c c' hc hr)
def one1 : Value → Bool
 | .agg _ | .tuple _ => false
 | .chan (some (_ + 2)) => true
 | .chan _ => false
 | _ => true
theorem VRel.one1 {ρ : Rho} {v v' : Value} (h : VRel ρ v v') (hs : Xm.one1 v = true) : v'.oneCell' = true := by
 cases h <;> first | rfl | simp [Xm.one1] at hs
theorem Cells.one1 {ρ : Rho} {cs C : List Value} (h : Cells ρ cs C) (hs : cs.all Xm.one1 = true) : ∀ u ∈ C, u.oneCell' = true := by
 intro u hu
 obtain ⟨i, hi⟩ := List.getElem?_of_mem hu
 have hlt : i < cs.length := by have := (List.getElem?_eq_some_iff.1 hi).1; rw [h.1]; exact this
 exact (h.2 i _ u (List.getElem?_eq_getElem hlt) hi).one1 (List.all_eq_true.1 hs _ (List.getElem_mem hlt))
theorem Cells.closed {cs : List Value} (ρ : Rho) (h : cs.all closedV = true) : Cells ρ cs cs := by
 refine ⟨rfl, fun i v v' e1 e2 => ?_⟩
 rw [e1] at e2
 cases e2
 exact VRel.closed_refl ρ (List.all_eq_true.1 h v (List.mem_of_getElem? e1))
noncomputable def eAlloc (z : List Value) (e : TypeId) : EF := fun _ h c => some (.pointer (some ⟨c, 0, none⟩), (c, .cells z 0 e 0) :: h, c + 1)
theorem below_alloc {B : Bd} {w : World} (hB : B.n ≤ w.heap.size) (o : Obj) : Bel B w (w.alloc o) := (Bel.refl B w).alloc hB o
theorem eAlloc_ok {P : Program} {ty : Nat → Option XTy} (hT : TyOk P ty) {nt : Nat} {o : Oper} {e : TypeId} {d : XTy} (ho : o.op = .alloc e) (hd : ty e = some d) (hz : d.zero.cells.toList.all closedV = true) : EfOk P nt o (eAlloc d.zero.cells.toList e) := by
 intro tm h c v h' c' hf B ρ a w ht hh hc hB
 cases hf
 subst hc
 have hzr := hT.zero hd w
 refine ⟨.pointer (some ⟨w.heap.size, 0, none⟩), w.alloc (.cells d.zero.cells e), ρ ++ [⟨w.heap.size, 0, d.zero.cells.size, 0⟩], .inl ?_, ?_, Rho.le_push _ _, by simp, hh.newCells hB (Cells.closed ρ hz) e, below_alloc hB _⟩
 ·simp [execOp, ho, Instr.alloc, hzr, newVar, newRow]
 ·exact .ptr ρ.length 0 ⟨w.heap.size, 0, d.zero.cells.size, 0⟩ (by simp)
noncomputable def eBox (x : Src) (e : TypeId) : EF := fun tm h c =>
 match solid (ev tm x) with
 | true => some (.pointer (some ⟨c, 0, none⟩), (c, .cells (ev tm x).cells.toList 0 e 0) :: h, c + 1)
 | false => none
theorem eBox_ok {P : Program} {nt : Nat} {o : Oper} {e : TypeId} {x : Operand} (ho : o.op = .box e x) : EfOk P nt o (eBox (src nt x) e) := by
 intro tm h c v h' c' hf B ρ a w ht hh hc hB
 have hx := src_ok ht x
 unfold eBox at hf
 split at hf
 ·rename_i hs
  cases hf
  subst hc
  refine ⟨.pointer (some ⟨w.heap.size, 0, none⟩), w.alloc (.cells (a.eval x).cells e), ρ ++ [⟨w.heap.size, 0, (a.eval x).cells.size, 0⟩], .inl ?_, ?_, Rho.le_push _ _, by simp, hh.newCells hB (hx.cells hs) e, below_alloc hB _⟩
  ·simp [execOp, ho, Instr.box, newVar, newRow]
  ·exact .ptr ρ.length 0 ⟨w.heap.size, 0, (a.eval x).cells.size, 0⟩ (by simp)
 ·cases hf
theorem zipIdx_foldl_size (l : List (Value × Nat)) : ∀ (cs : Array Value) (off : Nat), (l.foldl (fun cs (p : Value × Nat) => cs.setIfInBounds (off + p.2) p.1) cs).size = cs.size := by
 induction l with
 | nil => intro cs off; rfl
 | cons p l ih => intro cs off; rw [List.foldl_cons, ih]; simp
theorem fold_rel {ρ : Rho} (off : Nat) : ∀ (l l' : List Value) (n : Nat) (cs C : Array Value), Cells ρ l l' → Cells ρ cs.toList C.toList →
 Cells ρ ((l.zipIdx n).foldl (fun cs (p : Value × Nat) => cs.setIfInBounds (off + p.2) p.1) cs).toList ((l'.zipIdx n).foldl (fun cs (p : Value × Nat) => cs.setIfInBounds (off + p.2) p.1) C).toList
 | [], [], _, _, _, _, h => h
 | [], _ :: _, _, _, _, h, _ => by have := h.1; simp at this
 | _ :: _, [], _, _, _, h, _ => by have := h.1; simp at this
 | v :: l, v' :: l', n, cs, C, hl, h => by
  simp only [List.zipIdx_cons, List.foldl_cons]
  refine fold_rel off l l' (n + 1) _ _ ⟨by have := hl.1; simpa using this, fun i u u' e1 e2 => hl.2 (i + 1) u u' (by simpa using e1) (by simpa using e2)⟩ ?_
  refine ⟨by simpa using h.1, fun i u u' e1 e2 => ?_⟩
  have hsz : cs.size = C.size := by simpa using h.1
  simp only [Array.getElem?_toList, Array.getElem?_setIfInBounds] at e1 e2
  by_cases hi : off + n = i
  ·rw [if_pos hi] at e1 e2
   split at e1
   ·rw [if_pos (by omega)] at e2
    cases e1; cases e2
    exact hl.2 0 v v' rfl rfl
   ·cases e1
  ·rw [if_neg hi] at e1 e2
   exact h.2 i u u' (by simpa using e1) (by simpa using e2)
def PartsRel (ρ : Rho) (l l' : List (Nat × Value)) : Prop := l.length = l'.length ∧ ∀ (i : Nat) (p p' : Nat × Value), l[i]? = some p → l'[i]? = some p' → p.1 = p'.1 ∧ solid p.2 = true ∧ VRel ρ p.2 p'.2
theorem fill_rel {ρ : Rho} (place : Nat → Option (Nat × Nat)) : ∀ (l l' : List (Nat × Value)) (cs C r : Array Value), PartsRel ρ l l' → Cells ρ cs.toList C.toList → Instr.fill place cs l = some r →
 ∃ r', Instr.fill place C l' = some r' ∧ Cells ρ r.toList r'.toList
 | [], [], cs, C, r, _, h, e => by simp only [Instr.fill, Option.some.injEq] at e; subst e; exact ⟨C, rfl, h⟩
 | [], _ :: _, _, _, _, h, _, _ => by have := h.1; simp at this
 | _ :: _, [], _, _, _, h, _, _ => by have := h.1; simp at this
 | (i, v) :: l, (i', v') :: l', cs, C, r, hl, h, e => by
  obtain ⟨e1, e2, e3⟩ := hl.2 0 (i, v) (i', v') rfl rfl
  simp only at e1 e2 e3
  subst e1
  simp only [Instr.fill] at e ⊢
  cases hp : place i with
  | none => rw [hp] at e; cases e
  | some q =>
   obtain ⟨off, size⟩ := q
   rw [hp] at e
   simp only at e ⊢
   have hcl := e3.cells e2
   have hv : v.cells.size = v'.cells.size := by simpa using hcl.1
   have hsz : cs.size = C.size := by simpa using h.1
   by_cases hb : v.cells.size ≠ size ∨ off + v.cells.size > cs.size
   ·rw [if_pos (by simpa using hb)] at e; cases e
   ·have hb' : ¬ (v'.cells.size ≠ size ∨ off + v'.cells.size > C.size) := by rw [← hv, ← hsz]; exact hb
    rw [if_neg (by simpa using hb)] at e
    rw [if_neg (by simpa using hb')]
    have hf := fold_rel off v.cells.toList v'.cells.toList 0 cs C hcl h
    rw [← Array.foldl_toList] at e ⊢
    simp only [Array.toList_zipIdx] at e ⊢
    exact fill_rel place l l' _ _ r ⟨by have := hl.1; simpa using this, fun j p p' a b => hl.2 (j + 1) p p' (by simpa using a) (by simpa using b)⟩ hf e
noncomputable def partsV (nt : Nat) (tm : Tr) (l : List (Nat × Operand)) : List (Nat × Value) := l.map fun p => (p.1, ev tm (src nt p.2))
theorem parts_rel {ρ : Rho} {nt : Nat} {tm : Tr} {a : Act} (ht : TRel ρ nt tm a) (l : List (Nat × Operand)) (hs : (partsV nt tm l).all (fun p => solid p.2) = true) :
 PartsRel ρ (partsV nt tm l) (l.map fun p => (p.1, a.eval p.2)) := by
 refine ⟨by simp [partsV], fun i p p' e1 e2 => ?_⟩
 have hsol := List.all_eq_true.1 hs p (List.mem_of_getElem? e1)
 simp only [partsV, List.getElem?_map, Option.map_eq_some_iff] at e1 e2
 obtain ⟨q, a1, a2⟩ := e1
 obtain ⟨q', b1, b2⟩ := e2
 rw [a1] at b1
 cases b1
 subst a2; subst b2
 exact ⟨rfl, hsol, src_ok ht q.2⟩
noncomputable def rBuild (nt : Nat) (place : Nat → Option (Nat × Nat)) (z : Array Value) (parts : List (Nat × Operand)) : RF := fun tm _ =>
 match (partsV nt tm parts).all (fun p => solid p.2) with
 | true => match Instr.fill place z (partsV nt tm parts) with
  | some r => some (.agg r)
  | none => none
 | false => none
def placesOf (ty : Nat → Option XTy) : List Field → Option (List (Nat × Nat))
 | [] => some []
 | f :: fs => match ty f.type, placesOf ty fs with
  | some d, some l => some ((f.offset, d.size) :: l)
  | _, _ => none
theorem run_placesOf {P : Program} {ty : Nat → Option XTy} (hT : TyOk P ty) (w : World) : ∀ (fs : List Field) (l : List (Nat × Nat)), placesOf ty fs = some l →
 (fs.mapM fun f => do pure (f.offset, ← sizeOf f.type) : Sem (List (Nat × Nat))).run P w = .ok l w
 | [], l, h => by simp only [placesOf, Option.some.injEq] at h; subst h; rfl
 | f :: fs, l, h => by
  simp only [placesOf] at h
  split at h
  ·rename_i d l0 h1 h2
   cases h
   have hs := hT.sizeOf h1 w
   have ih := run_placesOf hT w fs l0 h2
   simp only [List.mapM_cons, Sem.run_bind, hs, Result.andThen_ok, Sem.run_pure, ih]
  ·cases h
theorem rBuildS_ok {P : Program} {ty : Nat → Option XTy} (hT : TyOk P ty) {nt : Nat} {o : Oper} {t : TypeId} {parts : Array (Nat × Operand)} {d : XTy} {fs : Array Field} {l : List (Nat × Nat)} (ho : o.op = .build t parts)
 (hd : ty t = some d) (hu : d.u = .struct fs) (hz : d.zero.cells.toList.all closedV = true) (hp : placesOf ty fs.toList = some l) :
 RdOk P nt o (rBuild nt (fun i => l.toArray[i]?) d.zero.cells parts.toList) := by
 apply RdOk.of_all
 intro tm h v hf B ρ a w ht hh
 unfold rBuild at hf
 split at hf
 ·rename_i hs
  split at hf
  ·rename_i r hr
   cases hf
   obtain ⟨r', e1, e2⟩ := fill_rel (ρ := ρ) (fun i => l.toArray[i]?) _ _ d.zero.cells d.zero.cells r (parts_rel ht parts.toList hs) (Cells.closed ρ hz) hr
   refine ⟨.agg r', .agg r r' (by simpa using e2.1) (fun i u u' a1 a2 => e2.2 i u u' (by simpa using a1) (by simpa using a2)), fun w' => ?_⟩
   have hun := hT.und hd w'
   have hzr := hT.zero hd w'
   have hpl := run_placesOf hT w' fs.toList l hp
   have hmap : (parts.map fun p => (p.1, a.eval p.2)).toList = parts.toList.map fun p => (p.1, a.eval p.2) := by simp
   simp only [execOp, ho, Instr.build, Sem.run_bind, hzr, Result.andThen_ok, hun, hu, Array.mapM_eq_mapM_toList, Sem.run_map, hpl, hmap, e1, Sem.run_pure]
  ·cases hf
 ·cases hf
theorem rBuildA_ok {P : Program} {ty : Nat → Option XTy} (hT : TyOk P ty) {nt : Nat} {o : Oper} {t e : TypeId} {len : Nat} {parts : Array (Nat × Operand)} {d de : XTy} (ho : o.op = .build t parts)
 (hd : ty t = some d) (hu : d.u = .array len e) (hde : ty e = some de) (hz : d.zero.cells.toList.all closedV = true) :
 RdOk P nt o (rBuild nt (fun i => some (i * de.size, de.size)) d.zero.cells parts.toList) := by
 apply RdOk.of_all
 intro tm h v hf B ρ a w ht hh
 unfold rBuild at hf
 split at hf
 ·rename_i hs
  split at hf
  ·rename_i r hr
   cases hf
   obtain ⟨r', e1, e2⟩ := fill_rel (ρ := ρ) (fun i => some (i * de.size, de.size)) _ _ d.zero.cells d.zero.cells r (parts_rel ht parts.toList hs) (Cells.closed ρ hz) hr
   refine ⟨.agg r', .agg r r' (by simpa using e2.1) (fun i u u' a1 a2 => e2.2 i u u' (by simpa using a1) (by simpa using a2)), fun w' => ?_⟩
   have hun := hT.und hd w'
   have hzr := hT.zero hd w'
   have hsz := hT.sizeOf hde w'
   have hmap : (parts.map fun p => (p.1, a.eval p.2)).toList = parts.toList.map fun p => (p.1, a.eval p.2) := by simp
   simp only [execOp, ho, Instr.build, Sem.run_bind, hzr, Result.andThen_ok, hun, hu, hsz, hmap, e1, Sem.run_pure]
  ·cases hf
 ·cases hf
def bsBase (z : Array Value) (n : Nat) : Array Value := ((List.range n).map fun i => z[i % z.size]!).toArray
theorem bsBase_eq (z : Array Value) (n : Nat) : ((Array.range n).map fun i => z[i % z.size]!) = bsBase z n := by
 apply Array.ext'
 simp [bsBase]
noncomputable def eBuildSlice (nt size n len : Nat) (e : TypeId) (z : Array Value) (parts : List (Nat × Operand)) : EF := fun tm h c =>
 match (partsV nt tm parts).all (fun p => solid p.2) with
 | true => match Instr.fill (fun i => some (i * size, size)) (bsBase z n) (partsV nt tm parts) with
  | some r => some (.slice (some ⟨c, 0, none⟩) len len, (c, .cells r.toList 0 e size) :: h, c + 1)
  | none => none
 | false => none
theorem fill_size (place : Nat → Option (Nat × Nat)) : ∀ (l : List (Nat × Value)) (cs r : Array Value), Instr.fill place cs l = some r → r.size = cs.size
 | [], cs, r, h => by simp only [Instr.fill, Option.some.injEq] at h; rw [← h]
 | (i, v) :: l, cs, r, h => by
  simp only [Instr.fill] at h
  cases hp : place i with
  | none => rw [hp] at h; cases h
  | some q =>
   obtain ⟨off, size⟩ := q
   rw [hp] at h
   simp only at h
   split at h
   ·cases h
   ·rw [← Array.foldl_toList] at h
    simp only [Array.toList_zipIdx] at h
    have := fill_size place l _ r h
    rw [this, zipIdx_foldl_size]
theorem eBuildSlice_ok {P : Program} {ty : Nat → Option XTy} (hT : TyOk P ty) {nt : Nat} {o : Oper} {t e : TypeId} {len : Nat} {parts : Array (Nat × Operand)} {d de : XTy} (ho : o.op = .buildSlice t len parts)
 (hd : ty t = some d) (hu : d.u = .slice e) (hde : ty e = some de) (hn : len * de.size ≤ 16777216) (hz : (bsBase de.zero.cells (len * de.size)).toList.all closedV = true) :
 EfOk P nt o (eBuildSlice nt de.size (len * de.size) len e de.zero.cells parts.toList) := by
 intro tm h c v h' c' hf B ρ a w ht hh hc hB
 unfold eBuildSlice at hf
 split at hf
 ·rename_i hs
  split at hf
  ·rename_i r hr
   cases hf
   subst hc
   obtain ⟨r', e1, e2⟩ := fill_rel (ρ := ρ) (fun i => some (i * de.size, de.size)) _ _ _ _ r (parts_rel ht parts.toList hs) (Cells.closed ρ hz) hr
   have hun := hT.und hd w
   have hsz := hT.sizeOf hde w
   have hzr := hT.zero hde w
   have hmap : (parts.map fun p => (p.1, a.eval p.2)).toList = parts.toList.map fun p => (p.1, a.eval p.2) := by simp
   have hrs : r'.size = len * de.size := by
    rw [fill_size _ _ _ _ e1]
    simp [bsBase]
   have hl : r.toList.length = r'.size := by simpa using e2.1
   refine ⟨.slice (some ⟨w.heap.size, 0, none⟩) len len, w.alloc (.cells r' e), ρ ++ [⟨w.heap.size, 0, r'.size, de.size⟩], .inl ?_, ?_, Rho.le_push _ _, by simp, hh.newCellsS hB e2 (by rw [hl]; simp) (by omega) e (fun _ => hl), below_alloc hB _⟩
   ·have hn' : ¬ (len * de.size > 2 ^ 24) := by omega
    simp only [execOp, ho, Instr.buildSlice, Sem.run_bind, hun, hu, Result.andThen_ok, hsz]
    rw [if_neg hn']
    by_cases h0 : len * de.size = 0
    ·have hb0 : bsBase de.zero.cells (len * de.size) = #[] := by rw [h0]; rfl
     rw [hb0] at e1
     have hr0 : Array.range 0 = #[] := rfl
     simp [h0, e1, newRow, hr0]
    ·have hb1 : ((Array.range (len * de.size)).map fun x => de.zero.cells[x % de.zero.cells.size]!) = bsBase de.zero.cells (len * de.size) := bsBase_eq _ _
     simp only [h0, if_false, Sem.run_bind, hzr, Result.andThen_ok, Sem.run_pure, hb1, hmap, e1]
     simp [newRow]
   ·exact .slice ρ.length 0 len len ⟨w.heap.size, 0, r'.size, de.size⟩ 0 len (by simp) (.inl rfl) (fun _ => rfl) (fun q => ⟨Nat.le_refl _, by show 0 + len * de.size ≤ r'.size; omega, Nat.le_refl _⟩)
  ·cases hf
 ·cases hf
theorem bsBase_closed {z : Array Value} (hz : z.toList.all closedV = true) (n : Nat) (h0 : 0 < z.size ∨ n = 0) : (bsBase z n).toList.all closedV = true := by
 simp only [bsBase, List.all_eq_true, List.mem_map, List.mem_range]
 rintro v ⟨i, hi, rfl⟩
 have h1 : 0 < z.size := h0.resolve_right (by omega)
 have h2 : i % z.size < z.size := Nat.mod_lt _ h1
 rw [getElem!_pos z (i % z.size) h2]
 exact List.all_eq_true.1 hz _ (by simp)
theorem below_setRow {B : Bd} {w : World} {g : Nat} (hg : B.may g) (C : Array Value) : Bel B w (w.setRow g C) :=
 ⟨rfl, rfl, rfl, by simp [World.setRow], fun k hk => setRow_other w g k C (fun q => hk (by rw [q]; exact hg))⟩
theorem HRel.setCells {B : Bd} {ρ : Rho} {h : Heap} {w : World} (H : HRel B ρ h w) {i : Nat} {cs : List Value} {fz : Nat} {e : TypeId} {es : Nat} {L : Loc} (hi : hget h i = some (.cells cs fz e es)) (hL : ρ[i]? = some L)
 {off : Nat} {vs vs' : List Value} (hv : Cells ρ vs vs') (hne : cs ≠ [] ∨ es = 0) (hvn : vs ≠ []) (hoff : off + vs.length ≤ cs.length) (hfz : fz ≤ off) {P : Program} (h1 : ∀ u ∈ vs', u.oneCell' = true) :
 ∃ w', (storeCells ⟨L.b, L.sh + off, none⟩ vs').run P w = .ok () w' ∧ HRel B ρ (hset h i (.cells (cs.take off ++ vs ++ cs.drop (off + vs.length)) fz e es)) w' ∧ Bel B w w' := by
 obtain ⟨hB0, ho⟩ := H.at hi hL
 obtain ⟨h0, hng, C, fr, c1, c2, c3, c4, c5, c6⟩ := ho.real hne
 have hvl : vs.length = vs'.length := hv.1
 have hB1 : frz (.cells cs fz e es) = false := by
  cases hf : frz (.cells cs fz e es) with
  | false => rfl
  | true =>
   have := frz_cells hf
   have := List.length_pos_iff.2 hvn
   omega
 have hB : B.may L.b := hB0 hB1 hng
 have hrun := run_storeCells_atF P L.b (L.sh + off) e fr vs' 0 C w c1 (by omega) (by omega) h1
 simp only [Nat.add_zero] at hrun
 refine ⟨_, hrun, H.set hi hL hng hB (fun k _ hk => setRow_other w L.b k _ hk) ?_ hB1, below_setRow hB _⟩
 refine ⟨h0, .inr ⟨_, fr, setRow_heap w L.b C _ e fr c1, ?_, ?_, ?_, c5, ?_⟩⟩
 ·simp; omega
 ·simp; omega
 ·intro j u hj
  simp only [List.getElem?_toArray]
  have hC : (C.toList.take (L.sh + off)).length = L.sh + off := by simp; omega
  have hcs : (cs.take off).length = off := by simp; omega
  by_cases j1 : j < off
  ·rw [List.append_assoc, List.getElem?_append_left (by omega)] at hj
   rw [List.append_assoc, List.getElem?_append_left (by omega)]
   rw [List.getElem?_take, if_pos j1] at hj
   rw [List.getElem?_take, if_pos (by omega)]
   obtain ⟨u', q1, q2⟩ := c4 j u hj
   exact ⟨u', by simpa using q1, q2⟩
  ·by_cases j2 : j < off + vs.length
   ·rw [List.append_assoc, List.getElem?_append_right (by omega), List.getElem?_append_left (by omega)] at hj
    rw [List.append_assoc, List.getElem?_append_right (by omega), List.getElem?_append_left (by omega)]
    have hidx : L.sh + j - (C.toList.take (L.sh + off)).length = j - (cs.take off).length := by omega
    rw [hidx]
    exact hv.get hj
   ·rw [List.getElem?_append_right (by simp; omega)] at hj
    rw [List.getElem?_append_right (by simp; omega)]
    rw [List.getElem?_drop] at hj ⊢
    have e1 : off + vs.length + (j - (cs.take off ++ vs).length) = j := by simp; omega
    have e2 : L.sh + off + vs'.length + (L.sh + j - (C.toList.take (L.sh + off) ++ vs').length) = L.sh + j := by simp; omega
    rw [e1] at hj
    rw [e2]
    obtain ⟨u', q1, q2⟩ := c4 j u hj
    exact ⟨u', by simpa using q1, q2⟩
 ·intro z
  obtain ⟨z1, z2⟩ := c6 z
  exact ⟨z1, by simp; omega⟩
noncomputable def eStore (size : Nat) (x y : Src) : EF := fun tm h c =>
 match ev tm x with
 | .pointer (some ⟨i, off, _⟩) => match hget h i with
  | some (.cells cs fz e es) =>
   match (Nat.ble 1 size && solid (ev tm y) && (ev tm y).cells.toList.all one1 && Nat.beq (ev tm y).cells.size size && Nat.ble fz off && Nat.ble (off + size) cs.length) with
   | true => some (undef, hset h i (.cells (cs.take off ++ (ev tm y).cells.toList ++ cs.drop (off + size)) fz e es), c)
   | false => none
  | _ => none
 | _ => none
theorem eStore_ok {P : Program} {ty : Nat → Option XTy} (hT : TyOk P ty) {nt : Nat} {o : Oper} {t : TypeId} {x y : Operand} {d : XTy} (ho : o.op = .store t x y) (hd : ty t = some d) : EfOk P nt o (eStore d.size (src nt x) (src nt y)) := by
 intro tm h c v h' c' hf B ρ a w ht hh hc hB
 have hx := src_ok ht x
 have hy := src_ok ht y
 unfold eStore at hf
 split at hf
 ·rename_i i off sp hp
  rw [hp] at hx
  generalize e1 : a.eval x = x' at hx
  cases hx with
  | ptr i off L hL =>
   split at hf
   ·rename_i cs fz e es hg
    split at hf
    ·rename_i hb
     cases hf
     simp only [Bool.and_eq_true, Nat.ble_eq] at hb
     obtain ⟨⟨⟨⟨⟨b0, b1⟩, b2⟩, b3⟩, b4⟩, b5⟩ := hb
     have b3' := Nat.eq_of_beq_eq_true b3
     have hcl := hy.cells b1
     have hlen : (ev tm (src nt y)).cells.toList.length = d.size := by simpa using b3'
     have hlen' : (a.eval y).cells.size = d.size := by have := hcl.1; simp at this; omega
     obtain ⟨w', r1, r2, r3⟩ := hh.setCells (P := P) hg hL hcl (.inl (by intro q; subst q; simp at b5; omega)) (by intro q; rw [q] at hlen; simp at hlen; omega) (by rw [hlen]; exact b5) b4 (hcl.one1 b2)
     have hsz := hT.sizeOf hd w
     refine ⟨undef, w', ρ, .inr ⟨?_, rfl⟩, VRel.undef ρ, Rho.le_refl ρ, hc, ?_, r3⟩
     ·simp [execOp, ho, e1, Instr.storeAt, Instr.sureAddr, storeVar, hsz, hlen', r1]
     ·rw [hlen] at r2; exact r2
    ·cases hf
   ·cases hf
 ·cases hf
noncomputable def eStore0 (x y : Src) : EF := fun tm h c =>
 match ev tm x with
 | .pointer (some _) => match (solid (ev tm y) && Nat.beq (ev tm y).cells.size 0) with
  | true => some (undef, h, c)
  | false => none
 | _ => none
theorem eStore0_ok {P : Program} {ty : Nat → Option XTy} (hT : TyOk P ty) {nt : Nat} {o : Oper} {t : TypeId} {x y : Operand} {d : XTy} (ho : o.op = .store t x y) (hd : ty t = some d) (h0 : d.size = 0) : EfOk P nt o (eStore0 (src nt x) (src nt y)) := by
 intro tm h c v h' c' hf B ρ a w ht hh hc hB
 have hx := src_ok ht x
 have hy := src_ok ht y
 unfold eStore0 at hf
 split at hf
 ·rename_i p hp
  rw [hp] at hx
  generalize e1 : a.eval x = x' at hx
  cases hx with
  | ptr i off L hL =>
   split at hf
   ·rename_i hb
    cases hf
    simp only [Bool.and_eq_true] at hb
    obtain ⟨b1, b3⟩ := hb
    have b3' := Nat.eq_of_beq_eq_true b3
    have hcl := hy.cells b1
    have hlen' : (a.eval y).cells.size = 0 := by have := hcl.1; simp at this; omega
    have hnil : (a.eval y).cells.toList = [] := List.eq_nil_of_length_eq_zero (by simpa using hlen')
    have hsz := hT.sizeOf hd w
    rw [h0] at hsz
    refine ⟨undef, w, ρ, .inr ⟨?_, rfl⟩, VRel.undef ρ, Rho.le_refl ρ, hc, hh, Bel.refl _ _⟩
    simp [execOp, ho, e1, Instr.storeAt, Instr.sureAddr, storeVar, hsz, hlen', hnil, storeCells]
   ·cases hf
 ·cases hf
end Go.Xm
