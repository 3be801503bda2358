/- The abstract machine, part 19: short words for values and blocks; operations that leave memory as it is. Conditions: none; nothing here speaks of one program. -/
import Derived.Test.YtfgggididakkbaaGreatDoorMr
namespace Go.Xm

abbrev ii (n : Int) : Value := .int .i64 n
abbrev pp (i o : Nat) : Value := .pointer (some ⟨i, o, none⟩)
abbrev sl (i o len cap : Nat) : Value := .slice (some ⟨i, o, none⟩) len cap
abbrev s0 (i len : Nat) : Value := .slice (some ⟨i, 0, none⟩) len len
abbrev rc {α : Type} (f : α → List Value) (xs : List α) (fz : Nat) (e : TypeId) (es : Nat) : XObj := .cells (rowC f xs) fz e es
abbrev tI : List Value → Value := fun l => .agg l.toArray

theorem XR.runS {E : Env} (hE : E.Ok) {nt k : Nat} {ops : Array Oper} {j : Nat} (n m : Nat) (σ' : St) {σ : St} {h : Heap} {c : Nat} {Q : QP} (hl : (σ'.map Prod.fst).all (fun i => Nat.blt i nt) = true)
    (hr : obsO (σ'.map Prod.fst) (xops (callF E (exec E n)) (((gsOf E nt ops).drop j).take m) (trS nt σ) h c) = some (σ', h, c)) (hx : XR E nt k ops (j + m) σ' h c Q) : XR E nt k ops j σ h c Q :=
  XR.run hE n m _ hl hr hx

theorem XR.runT {E : Env} (hE : E.Ok) {nt k : Nat} {ops : Array Oper} {j : Nat} (n m : Nat) (σ' : St) (h' : Heap) (c' : Nat) {σ : St} {h : Heap} {c : Nat} {Q : QP} (hl : (σ'.map Prod.fst).all (fun i => Nat.blt i nt) = true)
    (hr : obsO (σ'.map Prod.fst) (xops (callF E (exec E n)) (((gsOf E nt ops).drop j).take m) (trS nt σ) h c) = some (σ', h', c')) (hx : XR E nt k ops (j + m) σ' h' c' Q) : XR E nt k ops j σ h c Q :=
  XR.run hE n m _ hl hr hx

theorem XR.convS {E : Env} {nt k : Nat} {ops : Array Oper} {j : Nat} (σ' : St) {σ : St} {h : Heap} {c : Nat} {Q : QP} (e : σ = σ') (hx : XR E nt k ops j σ' h c Q) : XR E nt k ops j σ h c Q := by subst e; exact hx

end Go.Xm
