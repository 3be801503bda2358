/- Short forms of the abstract machine's rules, at this program's tables. Conditions: none. -/
import Derived.Test.YtlfobnldaneccaaGreatDoorTe
import Derived.Test.YtlfobnldaneccaaGreatDoorNd
import Derived.Test.YtlfobnldaneccaaGreatDoorNf
namespace Go.Xm
open Go.RowKit
set_option linter.unusedVariables false
theorem rwI {xs : List Int} : (rowC (encI .i64) xs).all flt = true := rowC_scal (encI_ok .i64) xs
theorem sQ {nt k : Nat} {code : Code} {σ : St} {h : Heap} {c : Nat} {Q : QP} (hx : XQ E0 nt k (lft code) σ h c (Then (fun σ h c => XQ E0 nt k (rgt code) σ h c Q) Q)) (hs : isSeq code = true := by kernel_rfl) : XQ E0 nt k code σ h c Q := XQ.seq E0_ok hs hx
theorem rQ {nt k : Nat} {code : Code} {σ : St} {h : Heap} {c : Nat} {Q : QP} (hx : XR E0 nt k (opsOf code) 0 σ h c Q) (hs : drawOf code = some false := by kernel_rfl) : XQ E0 nt k code σ h c Q := XQ.region hs hx
theorem qQ {nt k : Nat} {code : Code} {σ : St} {h : Heap} {c : Nat} {Q : QP} (hx : XR E0 nt k (opsOf (lft code)) 0 σ h c (Then (fun σ h c => XQ E0 nt k (rgt code) σ h c Q) Q)) (hs : isSeq code = true := by kernel_rfl) (hd : drawOf (lft code) = some false := by kernel_rfl) : XQ E0 nt k code σ h c Q := XQ.seq E0_ok hs (XQ.region hd hx)
theorem dQ {nt k : Nat} {ops : Array Oper} {j : Nat} {σ : St} {h : Heap} {c : Nat} {Q : QP} (hq : Q .normal σ h c) (hj : Nat.ble ops.size j = true := by kernel_rfl) : XR E0 nt k ops j σ h c Q := XR.done hj hq
theorem nQ {nt k : Nat} {ops : Array Oper} {j : Nat} {code : Code} {σ : St} {h : Heap} {c : Nat} {Q Q' : QP} (e : XQ E0 nt k code σ h c Q' → Q .normal σ h c) (hx : XR E0 nt k (opsOf (lft code)) 0 σ h c (Then (fun σ h c => XQ E0 nt k (rgt code) σ h c Q') Q'))
    (hs : isSeq code = true := by kernel_rfl) (hd : drawOf (lft code) = some false := by kernel_rfl) (hj : Nat.ble ops.size j = true := by kernel_rfl) : XR E0 nt k ops j σ h c Q := XR.done hj (e (XQ.seq E0_ok hs (XQ.region hd hx)))
theorem rS {nt k : Nat} {ops : Array Oper} {j : Nat} (m : Nat) (σ' : St) {σ : St} {h : Heap} {c : Nat} {Q : QP} (hx : XR E0 nt k ops (j + m) σ' h c Q) (hl : (σ'.map Prod.fst).all (fun i => Nat.blt i nt) = true := by rfl)
    (hr : obsO (σ'.map Prod.fst) (xops (callF E0 (exec E0 1)) (((gsOf E0 nt ops).drop j).take m) (trS nt σ) h c) = some (σ', h, c) := by kernel_rfl) : XR E0 nt k ops j σ h c Q := XR.runS E0_ok 1 m σ' hl hr hx
theorem rT {nt k : Nat} {ops : Array Oper} {j : Nat} (m : Nat) (σ' : St) (h' : Heap) (c' : Nat) {σ : St} {h : Heap} {c : Nat} {Q : QP} (hx : XR E0 nt k ops (j + m) σ' h' c' Q) (hl : (σ'.map Prod.fst).all (fun i => Nat.blt i nt) = true := by rfl)
    (hr : obsO (σ'.map Prod.fst) (xops (callF E0 (exec E0 1)) (((gsOf E0 nt ops).drop j).take m) (trS nt σ) h c) = some (σ', h', c') := by kernel_rfl) : XR E0 nt k ops j σ h c Q := XR.runT E0_ok 1 m σ' h' c' hl hr hx
theorem iT {nt k : Nat} {code : Code} (s : Operand) {σ : St} {h : Heap} {c : Nat} {Q : QP} (hx : XQ E0 nt k (lft code) σ h c Q) (hs : condOf code = some s := by kernel_rfl) (hb : ev (trS nt σ) (src nt s) = .bool true := by kernel_rfl) : XQ E0 nt k code σ h c Q :=
  XQ.cond hs hb (fun _ => hx) (fun q => by cases q)
theorem iF {nt k : Nat} {code : Code} (s : Operand) {σ : St} {h : Heap} {c : Nat} {Q : QP} (hx : XQ E0 nt k (rgt code) σ h c Q) (hs : condOf code = some s := by kernel_rfl) (hb : ev (trS nt σ) (src nt s) = .bool false := by kernel_rfl) : XQ E0 nt k code σ h c Q :=
  XQ.cond hs hb (fun q => by cases q) (fun _ => hx)
theorem kQ {nt k : Nat} {code : Code} {σ : St} {h : Heap} {c : Nat} {Q : QP} (hq : Q .normal σ h c) (hs : isSkip code = true := by kernel_rfl) : XQ E0 nt k code σ h c Q := XQ.skip hs hq
abbrev xt : Bool := true
end Go.Xm
namespace Go.Xm
open Go.RowKit
set_option linter.unusedVariables false
abbrev rI (l : List Int) : XObj := rc (encI .i64) l 0 3 1
abbrev iM (l : List (List Int × Int)) : XObj := .imap (imA (Value.int .i64) l)
end Go.Xm
