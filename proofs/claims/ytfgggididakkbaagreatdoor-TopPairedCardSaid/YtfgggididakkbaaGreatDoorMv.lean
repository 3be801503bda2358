/- The abstract machine, between parts 6 and 7: a letter of a string, a part of a string, with their checks in the open. -/
import Derived.Test.YtfgggididakkbaaGreatDoorMu
namespace Go.Xm
open Go.RowKit

def byteAt (s : ByteArray) (n : Int) : Int := ((s.data.toList.getD n.toNat 0).toNat : Int)

noncomputable def rIdxT (x i : Src) (fb : RF) : RF := fun tm h =>
  match ev tm x, ev tm i with
  | .string s, .int _ n => match inRow n s.size with
    | true => some (.int .u8 (byteAt s n))
    | false => none
  | _, _ => fb tm h

theorem rIdxT_ok {P : Program} {ty : Nat → Option XTy} (hT : TyOk P ty) {nt : Nat} {o : Oper} {t : TypeId} {x i : Operand} {d : XTy} {fb : RF} (ho : o.op = .index t x i) (hd : ty t = some d) (hu : d.u = .string) (hfb : RdOk P nt o fb) :
    RdOk P nt o (rIdxT (src nt x) (src nt i) fb) := by
  intro tm h v hf B ρ a w ht hh
  have hx := src_ok ht x
  have hi := src_ok ht i
  unfold rIdxT at hf
  split at hf
  · rename_i s k n hp hq
    rw [hp] at hx
    rw [hq] at hi
    generalize e1 : a.eval x = x' at hx
    generalize e2 : a.eval i = i' at hi
    split at hf
    · rename_i hb
      cases hf
      cases hx
      cases hi
      simp only [inRow, Bool.and_eq_true, decide_eq_true_eq] at hb
      obtain ⟨h0, h1⟩ := hb
      have hlt : n.toNat < s.size := by omega
      have hget : s[n.toNat]? = some s[n.toNat] := by simp [hlt]
      have hby : (s[n.toNat]).toNat = (s.data.toList.getD n.toNat 0).toNat := by
        have : s[n.toNat] = s.data.toList.getD n.toNat 0 := by
          have hl : n.toNat < s.data.toList.length := by simpa using hlt
          rw [List.getD_eq_getElem?_getD, List.getElem?_eq_getElem hl]
          rfl
        rw [this]
      refine ⟨.int .u8 (byteAt s n), .int _ _, fun w' _ => ?_⟩
      have hun := hT.und hd w'
      simp [execOp, ho, e1, e2, Instr.index, asIntOf, hun, hu, h0, hlt, byteAt, hby]
    · cases hf
  · exact hfb tm h v hf B ρ a w ht hh

noncomputable def rIdxV (len : Nat) (x i : Src) (fb : RF) : RF := fun tm h =>
  match ev tm x, ev tm i with
  | .agg cs, .int _ n => match inRow n len, cs.toList[n.toNat]? with
    | true, some v => some v
    | _, _ => fb tm h
  | _, _ => fb tm h

theorem rIdxV_ok {P : Program} {ty : Nat → Option XTy} (hT : TyOk P ty) {nt : Nat} {o : Oper} {t e : TypeId} {x i : Operand} {d de : XTy} {len : Nat} {fb : RF} (ho : o.op = .index t x i) (hd : ty t = some d) (hu : d.u = .array len e)
    (hde : ty e = some de) (hz : de.size = 1) (hag : aggB de.u = false) (hfb : RdOk P nt o fb) : RdOk P nt o (rIdxV len (src nt x) (src nt i) fb) := by
  intro tm h v hf B ρ a w ht hh
  have hx := src_ok ht x
  have hi := src_ok ht i
  unfold rIdxV at hf
  split at hf
  · rename_i cs k n hp hq
    split at hf
    · rename_i u hb hu0
      cases hf
      rw [hp] at hx
      rw [hq] at hi
      generalize e1 : a.eval x = x' at hx
      generalize e2 : a.eval i = i' at hi
      cases hi
      cases hx with
      | agg _ c' hsz hr =>
        simp only [inRow, Bool.and_eq_true, decide_eq_true_eq] at hb
        have h1 : cs[n.toNat]? = some v := by simpa using hu0
        have hlt : n.toNat < cs.size := (Array.getElem?_eq_some_iff.1 h1).1
        have h2 : c'[n.toNat]? = some (c'[n.toNat]'(by omega)) := Array.getElem?_eq_getElem _
        refine ⟨_, hr _ _ _ h1 h2, fun w' _ => ?_⟩
        have hun := hT.und hd w'
        have ha := hT.isAgg hde w'
        rw [hag] at ha
        have hsz' := hT.sizeOf hde w'
        rw [hz] at hsz'
        have h3 : n.toNat * 1 = n.toNat := Nat.mul_one _
        have hq : (part e c' n.toNat).run P w' = .ok (c'[n.toNat]'(by omega)) w' := by simp only [part, Sem.run_bind, ha, Result.andThen_ok, h2]; rfl
        simp only [execOp, ho, e1, e2, Instr.index, asIntOf, Sem.run_bind, Sem.run_pure, Result.andThen_ok, hun, hu, hb.1, hb.2, and_self, if_true, hsz', h3, hq]
    · exact hfb tm h v hf B ρ a w ht hh
  · exact hfb tm h v hf B ρ a w ht hh

/-- The bounds of a part: from a number, or the beginning, to a number, or the end. -/
def cutOk (lo hi : Int) (len : Nat) : Bool := decide (0 ≤ lo) && (decide (lo ≤ hi) && decide (hi ≤ (len : Int)))

def cutT (s : ByteArray) (lo hi : Int) : ByteArray := ⟨⟨(s.data.toList.drop lo.toNat).take (hi.toNat - lo.toNat)⟩⟩

theorem extract_cut (s : ByteArray) (a b : Nat) : s.extract a b = ⟨⟨(s.data.toList.drop a).take (b - a)⟩⟩ := by
  apply ByteArray.ext
  rw [ByteArray.data_extract]
  apply Array.ext'
  simp

noncomputable def rCutT (nt : Nat) (x : Src) (lo hi : Option Operand) (fb : RF) : RF := fun tm h =>
  match ev tm x with
  | .string s => match lo, hi with
    | some l, some r => match ev tm (src nt l), ev tm (src nt r) with
      | .int _ a, .int _ b => match cutOk a b s.size with
        | true => some (.string (cutT s a b))
        | false => none
      | _, _ => fb tm h
    | some l, none => match ev tm (src nt l) with
      | .int _ a => match cutOk a (s.size : Int) s.size with
        | true => some (.string (cutT s a (s.size : Int)))
        | false => none
      | _ => fb tm h
    | none, some r => match ev tm (src nt r) with
      | .int _ b => match cutOk 0 b s.size with
        | true => some (.string (cutT s 0 b))
        | false => none
      | _ => fb tm h
    | none, none => fb tm h
  | _ => fb tm h

theorem rCutT_ok {P : Program} {ty : Nat → Option XTy} (hT : TyOk P ty) {nt : Nat} {o : Oper} {t : TypeId} {x : Operand} {lo hi : Option Operand} {d : XTy} {fb : RF} (ho : o.op = .slice t x lo hi none) (hd : ty t = some d) (hu : d.u = .string) (hfb : RdOk P nt o fb) :
    RdOk P nt o (rCutT nt (src nt x) lo hi fb) := by
  intro tm h v hf B ρ a w ht hh
  have hx := src_ok ht x
  have hfb' := fun hf => hfb tm h v hf B ρ a w ht hh
  unfold rCutT at hf
  split at hf
  · rename_i s hp
    rw [hp] at hx
    generalize e1 : a.eval x = x' at hx
    cases hx
    split at hf
    · rename_i l r
      have hl := src_ok ht l
      have hr := src_ok ht r
      split at hf
      · rename_i ka m kb n q1 q2
        rw [q1] at hl
        rw [q2] at hr
        generalize e2 : a.eval l = l' at hl
        generalize e3 : a.eval r = r' at hr
        cases hl
        cases hr
        split at hf
        · rename_i hb
          cases hf
          simp only [cutOk, Bool.and_eq_true, decide_eq_true_eq] at hb
          obtain ⟨h0, h1, h2⟩ := hb
          refine ⟨.string (cutT s m n), .string _, fun w' _ => ?_⟩
          have hun := hT.und hd w'
          have n0 : 0 ≤ n := by omega
          have m1 : max n 0 = n := by omega
          simp [execOp, ho, e1, e2, e3, Instr.sliceAt, Instr.slice, Instr.sliceBounds, Instr.sliceBound, asIntOf, hun, hu, h0, n0, m1, h1, h2, cutT, extract_cut]
        · cases hf
      · exact hfb' hf
    · rename_i l
      have hl := src_ok ht l
      split at hf
      · rename_i ka m q1
        rw [q1] at hl
        generalize e2 : a.eval l = l' at hl
        cases hl
        split at hf
        · rename_i hb
          cases hf
          simp only [cutOk, Bool.and_eq_true, decide_eq_true_eq] at hb
          obtain ⟨h0, h1, h2⟩ := hb
          refine ⟨.string (cutT s m (s.size : Int)), .string _, fun w' _ => ?_⟩
          have hun := hT.und hd w'
          simp [execOp, ho, e1, e2, Instr.sliceAt, Instr.slice, Instr.sliceBounds, Instr.sliceBound, asIntOf, hun, hu, h0, h1, cutT, extract_cut]
        · cases hf
      · exact hfb' hf
    · rename_i r
      have hr := src_ok ht r
      split at hf
      · rename_i kb n q2
        rw [q2] at hr
        generalize e3 : a.eval r = r' at hr
        cases hr
        split at hf
        · rename_i hb
          cases hf
          simp only [cutOk, Bool.and_eq_true, decide_eq_true_eq] at hb
          obtain ⟨h0, h1, h2⟩ := hb
          refine ⟨.string (cutT s 0 n), .string _, fun w' _ => ?_⟩
          have hun := hT.und hd w'
          simp [execOp, ho, e1, e3, Instr.sliceAt, Instr.slice, Instr.sliceBounds, Instr.sliceBound, asIntOf, hun, hu, h1, h2, cutT, extract_cut]
        · cases hf
      · exact hfb' hf
    · exact hfb' hf
  · exact hfb' hf

end Go.Xm
