/- The examples of the chapters up to the club hold. Conditions: the library's tables lie in their variables. -/
import Derived.Test.YtfgggididakkbaaGreatDoorTe
import Derived.Test.YtfgggididakkbaaGreatDoorTw
namespace Go.Xm
open Go.RowKit
set_option maxRecDepth 100000

def sameFn (k : Nat) : Bool := Nat.beq k 103

theorem sameFn_ok : ∀ k, sameFn k = true → ∀ v w, (callFunc k #[v]).run Proofs.Tryz.prog w = .ok (.value v) w := by
  intro k h v w
  have hk := Nat.eq_of_beq_eq_true h
  subst hk
  rw [Go.run_callFunc_extern Proofs.Tryz.func103 (by kernel_rfl) (by kernel_rfl) (by kernel_rfl) (e := Extern.AbiNoEscape.same) (by kernel_rfl)]
  rfl

noncomputable def Eb0 : Env := { E0 with same := sameFn }
theorem Eb0_ok : Eb0.Ok := ⟨E0_ok.mixed, E0_ok.ty, E0_ok.fn, E0_ok.prim, E0_ok.ext, E0_ok.hprim, E0_ok.keeps, sameFn_ok, E0_ok.meth, E0_ok.glob⟩

theorem bench_ok (w : World) (hI : seatInv w) : Calls Proofs.Tryz.prog 64 #[] w fun e w' => e = .returned (.bool true) ∧ Below w.heap.size w w' :=
  runW (n := 100000) Eb0_ok rfl rfl rfl (by kernel_rfl) (fun _ h => seatInv_size h) w hI
noncomputable def Eb1 : Env := withW Eb0 64
theorem Eb1_ok : Eb1.Ok := withW_ok Eb0_ok (F := Proofs.Tryz.f64) (by kernel_rfl) (fun w hI => bench_ok w hI)

theorem band_ok (w : World) (hI : seatInv w) : Calls Proofs.Tryz.prog 52 #[] w fun e w' => e = .returned (.bool true) ∧ Below w.heap.size w w' :=
  runW (n := 100000) Eb1_ok rfl rfl rfl (by kernel_rfl) (fun _ h => seatInv_size h) w hI
noncomputable def Eb2 : Env := withW Eb1 52
theorem Eb2_ok : Eb2.Ok := withW_ok Eb1_ok (F := Proofs.Tryz.f52) (by kernel_rfl) (fun w hI => band_ok w hI)

theorem bond_ok (w : World) (hI : seatInv w) : Calls Proofs.Tryz.prog 40 #[] w fun e w' => e = .returned (.bool true) ∧ Below w.heap.size w w' :=
  runW (n := 100000) Eb2_ok rfl rfl rfl (by kernel_rfl) (fun _ h => seatInv_size h) w hI
noncomputable def Eb3 : Env := withW Eb2 40
theorem Eb3_ok : Eb3.Ok := withW_ok Eb2_ok (F := Proofs.Tryz.f40) (by kernel_rfl) (fun w hI => bond_ok w hI)

theorem club_ok (w : World) (hI : seatInv w) : Calls Proofs.Tryz.prog 18 #[] w fun e w' => e = .returned (.bool true) ∧ Below w.heap.size w w' :=
  runW (n := 100000) Eb3_ok rfl rfl rfl (by kernel_rfl) (fun _ h => seatInv_size h) w hI

noncomputable def Eb4 : Env := withW Eb3 18
theorem Eb4_ok : Eb4.Ok := withW_ok Eb3_ok (F := Proofs.Tryz.f18) (by kernel_rfl) (fun w hI => club_ok w hI)

end Go.Xm
