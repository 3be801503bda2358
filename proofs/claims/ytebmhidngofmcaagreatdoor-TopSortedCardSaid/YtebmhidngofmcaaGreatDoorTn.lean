/- TopSorted: the machine's tables with the runs that are told; the function as one in Lean; its runs for one to six bays. Conditions: the library's variables hold what their texts lay. -/
import Derived.Test.YtebmhidngofmcaaGreatDoorTq1
import Derived.Test.YtebmhidngofmcaaGreatDoorTq3
import Derived.Test.YtebmhidngofmcaaGreatDoorTq4
import Derived.Test.YtebmhidngofmcaaGreatDoorTq5
namespace Go.Xm
set_option maxRecDepth 100000

theorem runQ2 : runs (fastEnv E3) 1000 Proofs.Tryz.f4 mQ2 = true := by kernel_rfl

noncomputable def tabQ : List Run1 := [mQ1, mQ2, mQ5, mQ6, mQ7, mQ4]

theorem told_of {m : Run1} (h : runs (fastEnv E3) 1000 Proofs.Tryz.f4 m = true) : Told E3 4 m := Told.of (fastEnv_ok E3_ok) (F := Proofs.Tryz.f4) (by kernel_rfl) h

theorem toldQ : ∀ m ∈ tabQ, Told E3 4 m := by
  intro m hm
  rcases List.mem_cons.1 hm with rfl | hm
  · exact told_of runQ1
  rcases List.mem_cons.1 hm with rfl | hm
  · exact told_of runQ2
  rcases List.mem_cons.1 hm with rfl | hm
  · exact told_of runQ5
  rcases List.mem_cons.1 hm with rfl | hm
  · exact told_of runQ6
  rcases List.mem_cons.1 hm with rfl | hm
  · exact told_of runQ7
  rcases List.mem_cons.1 hm with rfl | hm
  · exact told_of runQ4
  · cases hm

noncomputable def L1 : Env := memoE E3 (fastEnv E3) 1000 4 Proofs.Tryz.f4 tabQ
theorem L1_ok : L1.Ok := memoE_ok E3_ok (F := Proofs.Tryz.f4) (by kernel_rfl) toldQ (fun hx => Told.run (fastEnv_ok E3_ok) (F := Proofs.Tryz.f4) (by kernel_rfl) hx)

noncomputable def L2 : Env := memoE E3 (fastEnv L1) 1000 4 Proofs.Tryz.f4 tabQ
theorem L2_ok : L2.Ok := memoE_ok E3_ok (F := Proofs.Tryz.f4) (by kernel_rfl) toldQ (fun hx => Told.run (fastEnv_ok L1_ok) (F := Proofs.Tryz.f4) (by kernel_rfl) hx)

noncomputable def E4 : Env := memoE E3 (fastEnv L2) 1000 4 Proofs.Tryz.f4 tabQ
theorem E4_ok : E4.Ok := memoE_ok E3_ok (F := Proofs.Tryz.f4) (by kernel_rfl) toldQ (fun hx => Told.run (fastEnv_ok L2_ok) (F := Proofs.Tryz.f4) (by kernel_rfl) hx)


open Go.RowKit
set_option linter.unusedVariables false
set_option linter.unusedSimpArgs false
set_option maxRecDepth 20000

/-! vitola/vitolatop.TopSorted -/
noncomputable def f5_C5 : Code := Proofs.Tryz.f3.body.getD .skip

noncomputable def f5_E1 : FB := finB E4 34 [.tmp 2]

noncomputable def f5_E2 : FB := thenB (runB (fastEnv E4) 34 100000 (rgt f5_C5) f5_E1) f5_E1

noncomputable def f5_E3 : FB := thenB (runB (fastEnv E4) 34 100000 (rgt (rgt f5_C5)) f5_E1) f5_E1

noncomputable def f5_E4 : FB := thenB (runB (fastEnv E4) 34 100000 (rgt (rgt (rgt f5_C5))) f5_E1) f5_E1

noncomputable def f5_E5 : FB := thenB (runB (fastEnv E4) 34 100000 (rgt (rgt (rgt (rgt f5_C5)))) f5_E1) f5_E1

noncomputable def f5_E6 : FB := thenB (runB (fastEnv E4) 34 100000 (rgt (rgt (rgt (rgt (rgt f5_C5))))) f5_E1) f5_E1

noncomputable def f5_E7 : FB := thenB (runB (fastEnv E4) 34 100000 (rgt (rgt (rgt (rgt (rgt (rgt f5_C5)))))) f5_E1) f5_E1

noncomputable def f5_E8 : FB := thenB (runB (fastEnv E4) 34 100000 (rgt (rgt (rgt (rgt (rgt (rgt (rgt f5_C5))))))) f5_E1) f5_E1

noncomputable def f5 (m : Nat) (a : Int) : Option (Bool) :=
  cond (runB (fastEnv E4) 34 100000 (lft (rgt (rgt (rgt (rgt (rgt (rgt f5_C5))))))) f5_E8 (trS 34 [(3, pp 0 0), (4, pp 1 0), (5, pp 2 0), (6, pp 3 0)]) [(3, .cells [.func (.func 4) #[] #[pp 2 0, pp 0 0, pp 3 0, pp 1 0]] 0 22 0), (2, .cells [.bool true] 0 4 0), (1, .cells [ii 0] 0 3 0), (0, .cells [ii (w64 (1 + (Int.tmod (w64 a) 6)))] 0 3 0)] 4) (
    some true
  ) none

theorem f5_ok (m : Nat) (a : Int) (o : Bool) (h : f5 m a = some o) (w : World) (hI : seatInv w) : Calls Proofs.Tryz.prog 3 #[.int .u8 a] w fun e w' => e = .returned (.bool o) ∧ Below w.heap.size w w' := by
  refine KC.calls (E := E4) (args := [.int .u8 a]) (v := .bool o) rfl rfl (KC.bodyN E4_ok (F := Proofs.Tryz.f3) (by kernel_rfl) (code := f5_C5) (by kernel_rfl) (nt := 34) (by kernel_rfl) (rs := [.tmp 2]) (by kernel_rfl) (by kernel_rfl) (σ := [(0, .int .u8 a)]) (by kernel_rfl) ?_) w (seatInv_size hI) hI
  unfold f5 at h
  refine XQ.seq E4_ok (by kernel_rfl) ?_
  refine XQ.region (by kernel_rfl) ?_
  refine XR.runS E4_ok 1 1 [(0, .int .u8 a)] rfl (by kernel_rfl) ?_
  refine XR.done (by kernel_rfl) ?_
  show XQ _ _ _ _ _ _ _ _
  refine XQ.seq E4_ok (by kernel_rfl) ?_
  refine XQ.region (by kernel_rfl) ?_
  refine XR.runT E4_ok 1 6 [(3, pp 0 0)] [(0, .cells [ii (w64 (1 + (Int.tmod (w64 a) 6)))] 0 3 0)] 1 rfl (by kernel_rfl) ?_
  refine XR.done (by kernel_rfl) ?_
  show XQ _ _ _ _ _ _ _ _
  refine XQ.seq E4_ok (by kernel_rfl) ?_
  refine XQ.region (by kernel_rfl) ?_
  refine XR.runT E4_ok 1 2 [(3, pp 0 0), (4, pp 1 0)] [(1, .cells [ii 0] 0 3 0), (0, .cells [ii (w64 (1 + (Int.tmod (w64 a) 6)))] 0 3 0)] 2 rfl (by kernel_rfl) ?_
  refine XR.done (by kernel_rfl) ?_
  show XQ _ _ _ _ _ _ _ _
  refine XQ.seq E4_ok (by kernel_rfl) ?_
  refine XQ.region (by kernel_rfl) ?_
  refine XR.runT E4_ok 1 2 [(3, pp 0 0), (4, pp 1 0), (5, pp 2 0)] [(2, .cells [.bool true] 0 4 0), (1, .cells [ii 0] 0 3 0), (0, .cells [ii (w64 (1 + (Int.tmod (w64 a) 6)))] 0 3 0)] 3 rfl (by kernel_rfl) ?_
  refine XR.done (by kernel_rfl) ?_
  show XQ _ _ _ _ _ _ _ _
  refine XQ.seq E4_ok (by kernel_rfl) ?_
  refine XQ.region (by kernel_rfl) ?_
  refine XR.runT E4_ok 1 1 [(3, pp 0 0), (4, pp 1 0), (5, pp 2 0), (6, pp 3 0)] [(3, .cells [.nilFunc] 0 22 0), (2, .cells [.bool true] 0 4 0), (1, .cells [ii 0] 0 3 0), (0, .cells [ii (w64 (1 + (Int.tmod (w64 a) 6)))] 0 3 0)] 4 rfl (by kernel_rfl) ?_
  refine XR.done (by kernel_rfl) ?_
  show XQ _ _ _ _ _ _ _ _
  refine XQ.seq E4_ok (by kernel_rfl) ?_
  refine XQ.region (by kernel_rfl) ?_
  refine XR.runT E4_ok 1 2 [(3, pp 0 0), (4, pp 1 0), (5, pp 2 0), (6, pp 3 0)] [(3, .cells [.func (.func 4) #[] #[pp 2 0, pp 0 0, pp 3 0, pp 1 0]] 0 22 0), (2, .cells [.bool true] 0 4 0), (1, .cells [ii 0] 0 3 0), (0, .cells [ii (w64 (1 + (Int.tmod (w64 a) 6)))] 0 3 0)] 4 rfl (by kernel_rfl) ?_
  refine XR.done (by kernel_rfl) ?_
  show XQ _ _ _ _ _ _ _ _
  refine XQ.seq E4_ok (by kernel_rfl) ?_
  cases b1 : (runB (fastEnv E4) 34 100000 (lft (rgt (rgt (rgt (rgt (rgt (rgt f5_C5))))))) f5_E8 (trS 34 [(3, pp 0 0), (4, pp 1 0), (5, pp 2 0), (6, pp 3 0)]) [(3, .cells [.func (.func 4) #[] #[pp 2 0, pp 0 0, pp 3 0, pp 1 0]] 0 22 0), (2, .cells [.bool true] 0 4 0), (1, .cells [ii 0] 0 3 0), (0, .cells [ii (w64 (1 + (Int.tmod (w64 a) 6)))] 0 3 0)] 4 : Bool) with
  | false => cases (cF b1 h)
  | true =>
    have h := cT b1 h
    have h := Option.some.inj h
    subst h
    exact XQ.runI (E := E4) E4_ok (f := f5_E8) 100000 (good_thenI E4_ok 100000 good_fin) b1


set_option maxRecDepth 100000

noncomputable def runN (z : Int) : Bool :=
  runB (fastEnv E4) 34 100000 (lft (rgt (rgt (rgt (rgt (rgt (rgt f5_C5))))))) f5_E8 (trS 34 [(3, pp 0 0), (4, pp 1 0), (5, pp 2 0), (6, pp 3 0)]) [(3, .cells [.func (.func 4) #[] #[pp 2 0, pp 0 0, pp 3 0, pp 1 0]] 0 22 0), (2, .cells [.bool true] 0 4 0), (1, .cells [ii 0] 0 3 0), (0, .cells [ii z] 0 3 0)] 4



theorem run_1 : runN (.ofNat 1) = true := by kernel_rfl
theorem run_2 : runN (.ofNat 2) = true := by kernel_rfl
theorem run_3 : runN (.ofNat 3) = true := by kernel_rfl
theorem run_4 : runN (.ofNat 4) = true := by kernel_rfl
theorem run_5 : runN (.ofNat 5) = true := by kernel_rfl


end Go.Xm
