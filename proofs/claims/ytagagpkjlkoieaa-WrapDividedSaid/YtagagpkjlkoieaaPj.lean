/- What these functions of the program compute, as functions in Lean, and the proofs that they do: wrap.Gaps. Conditions: none. -/
import Derived.Test.YtagagpkjlkoieaaPa
namespace Go.Xm
open Go.RowKit
set_option linter.unusedVariables false
set_option linter.unusedSimpArgs false
set_option maxRecDepth 20000

/-! vitola/wrap.Gaps -/
noncomputable def f31_C31 : Code := Proofs.Try.f31.body.getD .skip
noncomputable def f31_C74 : Code := Proofs.Try.f74.body.getD .skip
noncomputable def f31_C72 : Code := Proofs.Try.f72.body.getD .skip
noncomputable def f31_C73 : Code := Proofs.Try.f73.body.getD .skip
noncomputable def f31_L1 : Code := lft (lft (lft (rgt (rgt (rgt f31_C72)))))
noncomputable def f31_L2 : Code := lft (lft (rgt (lft (rgt (rgt (rgt (rgt (rgt f31_C74))))))))

def f31_1 (m : Nat) : Nat → Int → Int → Int → Int → Int → Int → Option (Int × Int × Int)
 | 0, _, _, _, _, _, _ => none
 | fuel + 1, a_Marks, a_Step, a_Turns, xh3_2_1, xh3_3_1, xh3_4_1 =>
  cond (decide (xh3_2_1 < a_Turns)) (
   cond (xh3_2_1 == 1) (
    f31_1 m fuel a_Marks a_Step a_Turns (w64 (xh3_2_1 + 1)) 1 1
   ) (
    (f59 m a_Marks a_Step (w64 (xh3_2_1 + 1)) xh3_2_1).bind fun r6 =>
     (f59 m a_Marks a_Step (w64 (xh3_2_1 + 1)) xh3_3_1).bind fun r7 =>
      cond (decide (r6 < r7)) (
       f31_1 m fuel a_Marks a_Step a_Turns (w64 (xh3_2_1 + 1)) xh3_2_1 xh3_4_1
      ) (
       (f59 m a_Marks a_Step (w64 (xh3_2_1 + 1)) xh3_4_1).bind fun r9 =>
        f31_1 m fuel a_Marks a_Step a_Turns (w64 (xh3_2_1 + 1)) xh3_3_1 (cond (decide (r6 > r9)) xh3_2_1 xh3_4_1)
      )
   )
  ) (
   some (xh3_2_1, xh3_3_1, xh3_4_1)
  )

theorem f31_1_ok (m : Nat) : ∀ (fuel : Nat) (a_Marks : Int) (a_Step : Int) (a_Turns : Int) (xh3_2_1 : Int) (xh3_3_1 : Int) (xh3_4_1 : Int) (o : (Int × Int × Int)), f31_1 m fuel a_Marks a_Step a_Turns xh3_2_1 xh3_3_1 xh3_4_1 = some o → ∀ Q : QP, Q (.exit 0) [(5, pp 2 0)] [(2, .cells [ii a_Marks, ii a_Step, ii o.1, ii o.2.1, ii o.2.2] 0 88 0), (1, .cells [ii a_Marks, ii a_Step, ii a_Turns] 0 23 0), (0, .cells [ii a_Marks, ii a_Step, ii a_Turns] 0 23 0)] 3 → XL E0 29 2 fuel f31_L1 [(1, pp 2 0), (5, pp 3 0)] [(3, .cells [ii a_Marks, ii a_Step, ii xh3_2_1, ii xh3_3_1, ii xh3_4_1] 0 88 0), (2, .cells [ii a_Marks, ii a_Step, ii a_Turns] 0 23 0), (1, .cells [ii a_Marks, ii a_Step, ii a_Turns] 0 23 0), (0, .cells [ii a_Marks, ii a_Step, ii a_Turns] 0 23 0)] 4 Q
 | 0, a_Marks, a_Step, a_Turns, xh3_2_1, xh3_3_1, xh3_4_1, o, h, Q, hQ => by cases h
 | fuel + 1, a_Marks, a_Step, a_Turns, xh3_2_1, xh3_3_1, xh3_4_1, o, h, Q, hQ => by
  unfold f31_1 at h
  refine XL.succ E0_ok ?_
  refine XQ.seq E0_ok (by kernel_rfl) ?_
  refine XQ.seq E0_ok (by kernel_rfl) ?_
  refine XQ.quiet E0_ok (by kernel_rfl) (by kernel_rfl) ?_
  refine XU.run E0_ok 1 8 [1, 5, 25] rfl (σ' := [(1, pp 2 0), (5, pp 3 0), (25, .bool (decide (xh3_2_1 < a_Turns)))]) (by kernel_rfl) ?_
  refine XU.done (by kernel_rfl) ?_
  show XQ _ _ _ _ _ _ _ _
  cases b1 : (decide (xh3_2_1 < a_Turns) : Bool) with
  | true =>
   have h := cT b1 h
   refine XQ.cond (s := (.tmp 25)) (b := true) (by kernel_rfl) (by kernel_rfl) (fun _ => ?_) (fun q => by cases q)
   refine XQ.skip (by kernel_rfl) ?_
   show XQ _ _ _ _ _ _ _ _
   refine XQ.block (id := 1) (by kernel_rfl) ?_
   refine XQ.region (by kernel_rfl) ?_
   refine XR.runS E0_ok 1 1 [(1, pp 2 0), (5, pp 3 0), (26, pp 3 0)] rfl (by kernel_rfl) ?_
   refine XR.callK E0_ok [1, 5] rfl (K := 73) (args := [pp 3 0]) (d := (some (path 12 27))) (by kernel_rfl) ?_
   refine KC.bodyN E0_ok (F := Proofs.Try.f73) (by kernel_rfl) (code := f31_C73) (by kernel_rfl) (nt := 66) (by kernel_rfl) (rs := []) (by kernel_rfl) (by kernel_rfl) (σ := [(0, pp 3 0)]) (by kernel_rfl) ?_
   refine XQ.seq E0_ok (by kernel_rfl) ?_
   refine XQ.region (by kernel_rfl) ?_
   refine XR.runS E0_ok 1 6 [(0, pp 3 0), (2, ii xh3_2_1)] rfl (by kernel_rfl) ?_
   refine XR.done (by kernel_rfl) ?_
   show XQ _ _ _ _ _ _ _ _
   refine XQ.seq E0_ok (by kernel_rfl) ?_
   refine XQ.region (by kernel_rfl) ?_
   refine XR.runT E0_ok 1 10 [(0, pp 3 0), (2, ii xh3_2_1)] [(3, .cells [ii a_Marks, ii a_Step, ii (w64 (xh3_2_1 + 1)), ii xh3_3_1, ii xh3_4_1] 0 88 0), (2, .cells [ii a_Marks, ii a_Step, ii a_Turns] 0 23 0), (1, .cells [ii a_Marks, ii a_Step, ii a_Turns] 0 23 0), (0, .cells [ii a_Marks, ii a_Step, ii a_Turns] 0 23 0)] 4 rfl (by kernel_rfl) ?_
   refine XR.done (by kernel_rfl) ?_
   show XQ _ _ _ _ _ _ _ _
   refine XQ.seq E0_ok (by kernel_rfl) ?_
   refine XQ.seq E0_ok (by kernel_rfl) ?_
   refine XQ.region (by kernel_rfl) ?_
   refine XR.runS E0_ok 1 2 [(0, pp 3 0), (2, ii xh3_2_1), (19, .bool (xh3_2_1 == 1))] rfl (by kernel_rfl) ?_
   refine XR.done (by kernel_rfl) ?_
   show XQ _ _ _ _ _ _ _ _
   cases b2 : (xh3_2_1 == 1 : Bool) with
   | true =>
    have h := cT b2 h
    refine XQ.cond (s := (.tmp 19)) (b := true) (by kernel_rfl) (by kernel_rfl) (fun _ => ?_) (fun q => by cases q)
    refine XQ.seq E0_ok (by kernel_rfl) ?_
    refine XQ.region (by kernel_rfl) ?_
    refine XR.runT E0_ok 1 5 [] [(3, .cells [ii a_Marks, ii a_Step, ii (w64 (xh3_2_1 + 1)), ii 1, ii 1] 0 88 0), (2, .cells [ii a_Marks, ii a_Step, ii a_Turns] 0 23 0), (1, .cells [ii a_Marks, ii a_Step, ii a_Turns] 0 23 0), (0, .cells [ii a_Marks, ii a_Step, ii a_Turns] 0 23 0)] 4 rfl (by kernel_rfl) ?_
    refine XR.done (by kernel_rfl) ?_
    show XQ _ _ _ _ _ _ _ _
    refine XQ.ret (by kernel_rfl) ?_
    refine ⟨fun i q => (by cases q), .tuple #[], (by kernel_rfl), ?_⟩
    refine XR.conv (σ' := [(1, pp 2 0), (5, pp 3 0)]) (h' := [(3, .cells [ii a_Marks, ii a_Step, ii (w64 (xh3_2_1 + 1)), ii 1, ii 1] 0 88 0), (2, .cells [ii a_Marks, ii a_Step, ii a_Turns] 0 23 0), (1, .cells [ii a_Marks, ii a_Step, ii a_Turns] 0 23 0), (0, .cells [ii a_Marks, ii a_Step, ii a_Turns] 0 23 0)]) (c' := 4) ?_ (by kernel_rfl)
    refine XR.done (by kernel_rfl) ?_
    show XL _ _ _ _ _ _ _ _ _
    refine XL.ren (σ' := [(1, pp 2 0), (5, pp 3 0)]) (h' := [(3, .cells [ii a_Marks, ii a_Step, ii (w64 (xh3_2_1 + 1)), ii 1, ii 1] 0 88 0), (2, .cells [ii a_Marks, ii a_Step, ii a_Turns] 0 23 0), (1, .cells [ii a_Marks, ii a_Step, ii a_Turns] 0 23 0), (0, .cells [ii a_Marks, ii a_Step, ii a_Turns] 0 23 0)]) (c' := 4) [0, 1, 2, 3] (by decide) rfl ⟨by kernel_rfl, by kernel_rfl, trivial⟩ ⟨⟨_, _, rfl, rfl, .inr ⟨_, _, _, _, rfl, rfl⟩⟩, ⟨_, _, rfl, rfl, .inr ⟨_, _, _, _, rfl, rfl⟩⟩, ⟨_, _, rfl, rfl, .inr ⟨_, _, _, _, rfl, rfl⟩⟩, ⟨_, _, rfl, rfl, .inr ⟨_, _, _, _, rfl, rfl⟩⟩, trivial⟩ rfl ?_
    refine XL.conv (f31_1_ok m fuel a_Marks a_Step a_Turns (w64 (xh3_2_1 + 1)) 1 1 o h Q hQ) (by first | rfl | simp)
   | false =>
    have h := cF b2 h
    refine XQ.cond (s := (.tmp 19)) (b := false) (by kernel_rfl) (by kernel_rfl) (fun q => by cases q) (fun _ => ?_)
    refine XQ.skip (by kernel_rfl) ?_
    show XQ _ _ _ _ _ _ _ _
    refine XQ.seq E0_ok (by kernel_rfl) ?_
    refine XQ.region (by kernel_rfl) ?_
    refine XR.runS E0_ok 1 5 [(0, pp 3 0), (2, ii xh3_2_1), (27, .agg #[ii a_Marks, ii a_Step, ii (w64 (xh3_2_1 + 1))]), (28, ii xh3_2_1)] rfl (by kernel_rfl) ?_
    obtain ⟨r6, r6_h, h⟩ := bS h
    refine XR.call E0_ok [0, 2, 29] rfl (K := 59) (args := [.agg #[ii a_Marks, ii a_Step, ii (w64 (xh3_2_1 + 1))], ii xh3_2_1]) (d := (some (path 12 29))) (by kernel_rfl) (KC.of_calls E0_ok (F := Proofs.Try.f59) (v := ii r6) (by kernel_rfl) rfl rfl (fun w hI => f59_ok m a_Marks a_Step (w64 (xh3_2_1 + 1)) xh3_2_1 r6 r6_h w hI)) ?_
    rintro _ _ _ ⟨rfl, rfl, rfl⟩
    refine XR.conv (σ' := [(0, pp 3 0), (2, ii xh3_2_1), (29, ii r6)]) (h' := [(3, .cells [ii a_Marks, ii a_Step, ii (w64 (xh3_2_1 + 1)), ii xh3_3_1, ii xh3_4_1] 0 88 0), (2, .cells [ii a_Marks, ii a_Step, ii a_Turns] 0 23 0), (1, .cells [ii a_Marks, ii a_Step, ii a_Turns] 0 23 0), (0, .cells [ii a_Marks, ii a_Step, ii a_Turns] 0 23 0)]) (c' := 4) ?_ (by kernel_rfl)
    refine XR.runS E0_ok 1 1 [(0, pp 3 0), (2, ii xh3_2_1), (3, ii r6)] rfl (by kernel_rfl) ?_
    refine XR.done (by kernel_rfl) ?_
    show XQ _ _ _ _ _ _ _ _
    refine XQ.block (id := 0) (by kernel_rfl) ?_
    refine XQ.seq E0_ok (by kernel_rfl) ?_
    refine XQ.quiet E0_ok (by kernel_rfl) (by kernel_rfl) ?_
    refine XU.run E0_ok 1 10 [0, 2, 3, 31, 35, 40] rfl (σ' := [(0, pp 3 0), (2, ii xh3_2_1), (3, ii r6), (31, ii r6), (35, .agg #[ii a_Marks, ii a_Step, ii (w64 (xh3_2_1 + 1))]), (40, ii xh3_3_1)]) (by kernel_rfl) ?_
    obtain ⟨r7, r7_h, h⟩ := bS h
    refine XU.call E0_ok [0, 2, 3, 31, 41] rfl (K := 59) (F := Proofs.Try.f59) (args := [.agg #[ii a_Marks, ii a_Step, ii (w64 (xh3_2_1 + 1))], ii xh3_3_1]) (d := (some (path 12 41))) (v := ii r7) (by kernel_rfl) (by kernel_rfl) rfl rfl (fun w hI => f59_ok m a_Marks a_Step (w64 (xh3_2_1 + 1)) xh3_3_1 r7 r7_h w hI) (σ' := [(0, pp 3 0), (2, ii xh3_2_1), (3, ii r6), (31, ii r6), (41, ii r7)]) (by kernel_rfl) ?_
    refine XU.run E0_ok 1 2 [0, 2, 3, 30] rfl (σ' := [(0, pp 3 0), (2, ii xh3_2_1), (3, ii r6), (30, .bool (decide (r6 < r7)))]) (by kernel_rfl) ?_
    refine XU.done (by kernel_rfl) ?_
    show XQ _ _ _ _ _ _ _ _
    cases b3 : (decide (r6 < r7) : Bool) with
    | true =>
     have h := cT b3 h
     refine XQ.cond (s := (.tmp 30)) (b := true) (by kernel_rfl) (by kernel_rfl) (fun _ => ?_) (fun q => by cases q)
     refine XQ.region (by kernel_rfl) ?_
     refine XR.runT E0_ok 1 6 [] [(3, .cells [ii a_Marks, ii a_Step, ii (w64 (xh3_2_1 + 1)), ii xh3_2_1, ii xh3_4_1] 0 88 0), (2, .cells [ii a_Marks, ii a_Step, ii a_Turns] 0 23 0), (1, .cells [ii a_Marks, ii a_Step, ii a_Turns] 0 23 0), (0, .cells [ii a_Marks, ii a_Step, ii a_Turns] 0 23 0)] 4 rfl (by kernel_rfl) ?_
     refine XR.done (by kernel_rfl) ?_
     refine ⟨fun i q => (by cases q), .tuple #[], (by kernel_rfl), ?_⟩
     refine XR.conv (σ' := [(1, pp 2 0), (5, pp 3 0)]) (h' := [(3, .cells [ii a_Marks, ii a_Step, ii (w64 (xh3_2_1 + 1)), ii xh3_2_1, ii xh3_4_1] 0 88 0), (2, .cells [ii a_Marks, ii a_Step, ii a_Turns] 0 23 0), (1, .cells [ii a_Marks, ii a_Step, ii a_Turns] 0 23 0), (0, .cells [ii a_Marks, ii a_Step, ii a_Turns] 0 23 0)]) (c' := 4) ?_ (by kernel_rfl)
     refine XR.done (by kernel_rfl) ?_
     show XL _ _ _ _ _ _ _ _ _
     refine XL.ren (σ' := [(1, pp 2 0), (5, pp 3 0)]) (h' := [(3, .cells [ii a_Marks, ii a_Step, ii (w64 (xh3_2_1 + 1)), ii xh3_2_1, ii xh3_4_1] 0 88 0), (2, .cells [ii a_Marks, ii a_Step, ii a_Turns] 0 23 0), (1, .cells [ii a_Marks, ii a_Step, ii a_Turns] 0 23 0), (0, .cells [ii a_Marks, ii a_Step, ii a_Turns] 0 23 0)]) (c' := 4) [0, 1, 2, 3] (by decide) rfl ⟨by kernel_rfl, by kernel_rfl, trivial⟩ ⟨⟨_, _, rfl, rfl, .inr ⟨_, _, _, _, rfl, rfl⟩⟩, ⟨_, _, rfl, rfl, .inr ⟨_, _, _, _, rfl, rfl⟩⟩, ⟨_, _, rfl, rfl, .inr ⟨_, _, _, _, rfl, rfl⟩⟩, ⟨_, _, rfl, rfl, .inr ⟨_, _, _, _, rfl, rfl⟩⟩, trivial⟩ rfl ?_
     refine XL.conv (f31_1_ok m fuel a_Marks a_Step a_Turns (w64 (xh3_2_1 + 1)) xh3_2_1 xh3_4_1 o h Q hQ) (by first | rfl | simp)
    | false =>
     have h := cF b3 h
     refine XQ.cond (s := (.tmp 30)) (b := false) (by kernel_rfl) (by kernel_rfl) (fun q => by cases q) (fun _ => ?_)
     refine XQ.seq E0_ok (by kernel_rfl) ?_
     refine XQ.quiet E0_ok (by kernel_rfl) (by kernel_rfl) ?_
     refine XU.run E0_ok 1 10 [0, 2, 49, 53, 58] rfl (σ' := [(0, pp 3 0), (2, ii xh3_2_1), (49, ii r6), (53, .agg #[ii a_Marks, ii a_Step, ii (w64 (xh3_2_1 + 1))]), (58, ii xh3_4_1)]) (by kernel_rfl) ?_
     obtain ⟨r9, r9_h, h⟩ := bS h
     refine XU.call E0_ok [0, 2, 49, 59] rfl (K := 59) (F := Proofs.Try.f59) (args := [.agg #[ii a_Marks, ii a_Step, ii (w64 (xh3_2_1 + 1))], ii xh3_4_1]) (d := (some (path 12 59))) (v := ii r9) (by kernel_rfl) (by kernel_rfl) rfl rfl (fun w hI => f59_ok m a_Marks a_Step (w64 (xh3_2_1 + 1)) xh3_4_1 r9 r9_h w hI) (σ' := [(0, pp 3 0), (2, ii xh3_2_1), (49, ii r6), (59, ii r9)]) (by kernel_rfl) ?_
     refine XU.run E0_ok 1 2 [0, 2, 48] rfl (σ' := [(0, pp 3 0), (2, ii xh3_2_1), (48, .bool (decide (r6 > r9)))]) (by kernel_rfl) ?_
     refine XU.done (by kernel_rfl) ?_
     show XQ _ _ _ _ _ _ _ _
     refine XQ.meetC (σ' := []) (h' := [(3, .cells [ii a_Marks, ii a_Step, ii (w64 (xh3_2_1 + 1)), ii xh3_3_1, ii (cond (decide (r6 > r9)) xh3_2_1 xh3_4_1)] 0 88 0), (2, .cells [ii a_Marks, ii a_Step, ii a_Turns] 0 23 0), (1, .cells [ii a_Marks, ii a_Step, ii a_Turns] 0 23 0), (0, .cells [ii a_Marks, ii a_Step, ii a_Turns] 0 23 0)]) (c' := 4) ?_ ?_
     rotate_left
     ·refine XQ.cond (s := (.tmp 48)) (b := decide (r6 > r9)) (by kernel_rfl) (by kernel_rfl) (fun b4 => ?_) (fun b4 => ?_)
      ·refine XQ.region (by kernel_rfl) ?_
       refine XR.runT E0_ok 1 6 [] [(3, .cells [ii a_Marks, ii a_Step, ii (w64 (xh3_2_1 + 1)), ii xh3_3_1, ii xh3_2_1] 0 88 0), (2, .cells [ii a_Marks, ii a_Step, ii a_Turns] 0 23 0), (1, .cells [ii a_Marks, ii a_Step, ii a_Turns] 0 23 0), (0, .cells [ii a_Marks, ii a_Step, ii a_Turns] 0 23 0)] 4 rfl (by kernel_rfl) ?_
       refine XR.done (by kernel_rfl) ?_
       refine ⟨rfl, ?_, ?_⟩
       ·try rw [b4]
        exact trivial
       ·try rw [b4]
        kernel_rfl
      ·refine XQ.skip (by kernel_rfl) ?_
       refine ⟨rfl, ?_, ?_⟩
       ·try rw [b4]
        exact trivial
       ·try rw [b4]
        kernel_rfl
     refine ⟨fun i q => (by cases q), .tuple #[], (by kernel_rfl), ?_⟩
     refine XR.conv (σ' := [(1, pp 2 0), (5, pp 3 0)]) (h' := [(3, .cells [ii a_Marks, ii a_Step, ii (w64 (xh3_2_1 + 1)), ii xh3_3_1, ii (cond (decide (r6 > r9)) xh3_2_1 xh3_4_1)] 0 88 0), (2, .cells [ii a_Marks, ii a_Step, ii a_Turns] 0 23 0), (1, .cells [ii a_Marks, ii a_Step, ii a_Turns] 0 23 0), (0, .cells [ii a_Marks, ii a_Step, ii a_Turns] 0 23 0)]) (c' := 4) ?_ (by kernel_rfl)
     refine XR.done (by kernel_rfl) ?_
     show XL _ _ _ _ _ _ _ _ _
     refine XL.ren (σ' := [(1, pp 2 0), (5, pp 3 0)]) (h' := [(3, .cells [ii a_Marks, ii a_Step, ii (w64 (xh3_2_1 + 1)), ii xh3_3_1, ii (cond (decide (r6 > r9)) xh3_2_1 xh3_4_1)] 0 88 0), (2, .cells [ii a_Marks, ii a_Step, ii a_Turns] 0 23 0), (1, .cells [ii a_Marks, ii a_Step, ii a_Turns] 0 23 0), (0, .cells [ii a_Marks, ii a_Step, ii a_Turns] 0 23 0)]) (c' := 4) [0, 1, 2, 3] (by decide) rfl ⟨by kernel_rfl, by kernel_rfl, trivial⟩ ⟨⟨_, _, rfl, rfl, .inr ⟨_, _, _, _, rfl, rfl⟩⟩, ⟨_, _, rfl, rfl, .inr ⟨_, _, _, _, rfl, rfl⟩⟩, ⟨_, _, rfl, rfl, .inr ⟨_, _, _, _, rfl, rfl⟩⟩, ⟨_, _, rfl, rfl, .inr ⟨_, _, _, _, rfl, rfl⟩⟩, trivial⟩ rfl ?_
     refine XL.conv (f31_1_ok m fuel a_Marks a_Step a_Turns (w64 (xh3_2_1 + 1)) xh3_3_1 (cond (decide (r6 > r9)) xh3_2_1 xh3_4_1) o h Q hQ) (by first | rfl | simp)
  | false =>
   have h := cF b1 h
   refine XQ.cond (s := (.tmp 25)) (b := false) (by kernel_rfl) (by kernel_rfl) (fun q => by cases q) (fun _ => ?_)
   refine XQ.ren (σ' := [(5, pp 2 0)]) (h' := [(2, .cells [ii a_Marks, ii a_Step, ii xh3_2_1, ii xh3_3_1, ii xh3_4_1] 0 88 0), (1, .cells [ii a_Marks, ii a_Step, ii a_Turns] 0 23 0), (0, .cells [ii a_Marks, ii a_Step, ii a_Turns] 0 23 0)]) (c' := 3) [0, 1, 3] (by decide) rfl ⟨by kernel_rfl, trivial⟩ ⟨⟨_, _, rfl, rfl, .inr ⟨_, _, _, _, rfl, rfl⟩⟩, ⟨_, _, rfl, rfl, .inr ⟨_, _, _, _, rfl, rfl⟩⟩, ⟨_, _, rfl, rfl, .inr ⟨_, _, _, _, rfl, rfl⟩⟩, trivial⟩ rfl ?_
   refine XQ.exit (i := 0) (by kernel_rfl) ?_
   cases h
   exact hQ

def f31_2 (m : Nat) : Nat → Int → Int → Int → Int → Int → Int → Int → Int → Int → List Int → Option (List Int)
 | 0, _, _, _, _, _, _, _, _, _, _ => none
 | fuel + 1, a_Marks, a_Step, a_Turns, x9_2, x22_2, x23_2, xh1_2_2, xh1_3_2, xh1_4_2, lh2_2 =>
  cond (decide (x23_2 < x22_2)) (
   (f77 m a_Marks a_Step xh1_2_2 xh1_3_2 xh1_4_2 x9_2).bind fun r14 =>
    cond (fitsB (lh2_2.length + 1) 8) (
     (f69 m a_Marks a_Step xh1_2_2 xh1_3_2 xh1_4_2 x9_2).bind fun r15 =>
      f31_2 m fuel a_Marks a_Step a_Turns r15 x22_2 (w64 (x23_2 + 1)) xh1_2_2 xh1_3_2 xh1_4_2 (lh2_2 ++ [r14])
    ) none
  ) (
   some (lh2_2)
  )

theorem f31_2_ok (m : Nat) : ∀ (fuel : Nat) (a_Marks : Int) (a_Step : Int) (a_Turns : Int) (x9_2 : Int) (x22_2 : Int) (x23_2 : Int) (xh1_2_2 : Int) (xh1_3_2 : Int) (xh1_4_2 : Int) (lh2_2 : List Int) (o : (List Int)), f31_2 m fuel a_Marks a_Step a_Turns x9_2 x22_2 x23_2 xh1_2_2 xh1_3_2 xh1_4_2 lh2_2 = some o → ∀ Q : QP, Q (.exit 0) [(8, s0 1 o.length)] [(1, rc (encI .i64) o 0 3 1), (0, .cells [ii a_Marks, ii a_Step, ii a_Turns] 0 23 0)] 2 → XL E0 37 1 fuel f31_L2 [(1, .func (.func 77) #[] #[]), (6, pp 1 0), (8, s0 2 lh2_2.length), (9, ii x9_2), (22, ii x22_2), (23, ii x23_2)] [(2, rc (encI .i64) lh2_2 0 3 1), (1, .cells [ii a_Marks, ii a_Step, ii xh1_2_2, ii xh1_3_2, ii xh1_4_2] 0 88 0), (0, .cells [ii a_Marks, ii a_Step, ii a_Turns] 0 23 0)] 3 Q
 | 0, a_Marks, a_Step, a_Turns, x9_2, x22_2, x23_2, xh1_2_2, xh1_3_2, xh1_4_2, lh2_2, o, h, Q, hQ => by cases h
 | fuel + 1, a_Marks, a_Step, a_Turns, x9_2, x22_2, x23_2, xh1_2_2, xh1_3_2, xh1_4_2, lh2_2, o, h, Q, hQ => by
  unfold f31_2 at h
  refine XL.succ E0_ok ?_
  refine XQ.seq E0_ok (by kernel_rfl) ?_
  refine XQ.region (by kernel_rfl) ?_
  refine XR.runS E0_ok 1 1 [(1, .func (.func 77) #[] #[]), (6, pp 1 0), (8, s0 2 lh2_2.length), (9, ii x9_2), (22, ii x22_2), (23, ii x23_2), (24, .bool (decide (x23_2 < x22_2)))] rfl (by kernel_rfl) ?_
  refine XR.done (by kernel_rfl) ?_
  show XQ _ _ _ _ _ _ _ _
  refine XQ.seq E0_ok (by kernel_rfl) ?_
  cases b1 : (decide (x23_2 < x22_2) : Bool) with
  | true =>
   have h := cT b1 h
   refine XQ.cond (s := (.tmp 24)) (b := true) (by kernel_rfl) (by kernel_rfl) (fun _ => ?_) (fun q => by cases q)
   refine XQ.skip (by kernel_rfl) ?_
   show XQ _ _ _ _ _ _ _ _
   refine XQ.seq E0_ok (by kernel_rfl) ?_
   refine XQ.block (id := 1) (by kernel_rfl) ?_
   refine XQ.seq E0_ok (by kernel_rfl) ?_
   refine XQ.region (by kernel_rfl) ?_
   refine XR.runS E0_ok 1 4 [(1, .func (.func 77) #[] #[]), (6, pp 1 0), (9, ii x9_2), (22, ii x22_2), (23, ii x23_2), (25, s0 2 lh2_2.length), (26, .func (.func 77) #[] #[]), (27, pp 1 0), (28, ii x9_2)] rfl (by kernel_rfl) ?_
   obtain ⟨r14, r14_h, h⟩ := bS h
   refine XR.call E0_ok [1, 6, 9, 22, 23, 25, 29] rfl (K := 77) (args := [pp 1 0, ii x9_2]) (d := (some (path 12 29))) (by kernel_rfl) (KQ.call (KC.quiet E0_ok (args0 := [pp 0 0, ii x9_2]) (h0 := [(0, .cells [ii a_Marks, ii a_Step, ii xh1_2_2, ii xh1_3_2, ii xh1_4_2] (0 + (5 + 1)) 88 0)]) (n := 1) (V := ii r14) [1] (f77_ok m (0 + (5 + 1)) a_Marks a_Step xh1_2_2 xh1_3_2 xh1_4_2 x9_2 r14 r14_h) rfl (by rfl) (by decide) rfl (by kernel_rfl) ⟨⟨_, _, rfl, rfl, .inr ⟨_, _, _, _, rfl, rfl⟩⟩, trivial⟩) rfl) ?_
   rintro _ _ _ ⟨rfl, rfl, rfl⟩
   refine XR.conv (σ' := [(1, .func (.func 77) #[] #[]), (6, pp 1 0), (9, ii x9_2), (22, ii x22_2), (23, ii x23_2), (25, s0 2 lh2_2.length), (29, ii r14)]) (h' := [(2, rc (encI .i64) lh2_2 0 3 1), (1, .cells [ii a_Marks, ii a_Step, ii xh1_2_2, ii xh1_3_2, ii xh1_4_2] 0 88 0), (0, .cells [ii a_Marks, ii a_Step, ii a_Turns] 0 23 0)]) (c' := 3) ?_ (by kernel_rfl)
   refine XR.runT E0_ok 1 1 [(1, .func (.func 77) #[] #[]), (6, pp 1 0), (9, ii x9_2), (22, ii x22_2), (23, ii x23_2), (25, s0 2 lh2_2.length), (30, s0 3 1)] [(3, .cells [ii r14] 0 3 1), (2, rc (encI .i64) lh2_2 0 3 1), (1, .cells [ii a_Marks, ii a_Step, ii xh1_2_2, ii xh1_3_2, ii xh1_4_2] 0 88 0), (0, .cells [ii a_Marks, ii a_Step, ii a_Turns] 0 23 0)] 4 rfl (by kernel_rfl) ?_
   cases b2 : (fitsB (lh2_2.length + 1) 8 : Bool) with
   | false => cases (cF b2 h)
   | true =>
    have h := cT b2 h
    refine XR.ef E0_ok [1, 6, 9, 22, 23, 31] rfl (e_append (encI_ok .i64) (bytes := 8) (e := 3) (x := (src 37 (.tmp 25))) (y := (src 37 (.tmp 30))) (b := 2) (len := lh2_2.length) (cap := lh2_2.length) (xs := lh2_2) (m := 0) (ys := [r14]) (d := (some (path 12 31))) (n' := (lh2_2 ++ [r14]).length) (h' := [(4, rc (encI .i64) (lh2_2 ++ [r14]) 0 3 1), (3, .cells [ii r14] 0 3 1), (1, .cells [ii a_Marks, ii a_Step, ii xh1_2_2, ii xh1_3_2, ii xh1_4_2] 0 88 0), (0, .cells [ii a_Marks, ii a_Step, ii a_Turns] 0 23 0)]) (by kernel_rfl) (by kernel_rfl) (by kernel_rfl) (by kernel_rfl) rfl (by simp) (by simp) b2 (by simp) (by kernel_rfl)) (σ' := [(1, .func (.func 77) #[] #[]), (6, pp 1 0), (9, ii x9_2), (22, ii x22_2), (23, ii x23_2), (31, s0 4 ((lh2_2 ++ [r14]).length))]) (by kernel_rfl) ?_
    refine XR.runS E0_ok 1 1 [(1, .func (.func 77) #[] #[]), (6, pp 1 0), (8, s0 4 ((lh2_2 ++ [r14]).length)), (9, ii x9_2), (22, ii x22_2), (23, ii x23_2)] rfl (by kernel_rfl) ?_
    refine XR.done (by kernel_rfl) ?_
    show XQ _ _ _ _ _ _ _ _
    refine XQ.region (by kernel_rfl) ?_
    refine XR.runS E0_ok 1 2 [(1, .func (.func 77) #[] #[]), (6, pp 1 0), (8, s0 4 ((lh2_2 ++ [r14]).length)), (22, ii x22_2), (23, ii x23_2), (32, pp 1 0), (33, ii x9_2)] rfl (by kernel_rfl) ?_
    obtain ⟨r15, r15_h, h⟩ := bS h
    refine XR.call E0_ok [1, 6, 8, 22, 23, 34] rfl (K := 69) (args := [pp 1 0, ii x9_2]) (d := (some (path 12 34))) (by kernel_rfl) (KQ.call (KC.quiet E0_ok (args0 := [pp 0 0, ii x9_2]) (h0 := [(0, .cells [ii a_Marks, ii a_Step, ii xh1_2_2, ii xh1_3_2, ii xh1_4_2] (0 + (5 + 1)) 88 0)]) (n := 1) (V := ii r15) [1] (f69_ok m (0 + (5 + 1)) a_Marks a_Step xh1_2_2 xh1_3_2 xh1_4_2 x9_2 r15 r15_h) rfl (by rfl) (by decide) rfl (by kernel_rfl) ⟨⟨_, _, rfl, rfl, .inr ⟨_, _, _, _, rfl, rfl⟩⟩, trivial⟩) rfl) ?_
    rintro _ _ _ ⟨rfl, rfl, rfl⟩
    refine XR.conv (σ' := [(1, .func (.func 77) #[] #[]), (6, pp 1 0), (8, s0 4 ((lh2_2 ++ [r14]).length)), (22, ii x22_2), (23, ii x23_2), (34, ii r15)]) (h' := [(4, rc (encI .i64) (lh2_2 ++ [r14]) 0 3 1), (3, .cells [ii r14] 0 3 1), (1, .cells [ii a_Marks, ii a_Step, ii xh1_2_2, ii xh1_3_2, ii xh1_4_2] 0 88 0), (0, .cells [ii a_Marks, ii a_Step, ii a_Turns] 0 23 0)]) (c' := 5) ?_ (by kernel_rfl)
    refine XR.runS E0_ok 1 1 [(1, .func (.func 77) #[] #[]), (6, pp 1 0), (8, s0 4 ((lh2_2 ++ [r14]).length)), (9, ii r15), (22, ii x22_2), (23, ii x23_2)] rfl (by kernel_rfl) ?_
    refine XR.done (by kernel_rfl) ?_
    show XQ _ _ _ _ _ _ _ _
    refine XQ.region (by kernel_rfl) ?_
    refine XR.runS E0_ok 1 2 [(1, .func (.func 77) #[] #[]), (6, pp 1 0), (8, s0 4 ((lh2_2 ++ [r14]).length)), (9, ii r15), (22, ii x22_2), (23, ii (w64 (x23_2 + 1)))] rfl (by kernel_rfl) ?_
    refine XR.done (by kernel_rfl) ?_
    show XL _ _ _ _ _ _ _ _ _
    refine XL.ren (σ' := [(1, .func (.func 77) #[] #[]), (6, pp 1 0), (8, s0 2 ((lh2_2 ++ [r14]).length)), (9, ii r15), (22, ii x22_2), (23, ii (w64 (x23_2 + 1)))]) (h' := [(2, rc (encI .i64) (lh2_2 ++ [r14]) 0 3 1), (1, .cells [ii a_Marks, ii a_Step, ii xh1_2_2, ii xh1_3_2, ii xh1_4_2] 0 88 0), (0, .cells [ii a_Marks, ii a_Step, ii a_Turns] 0 23 0)]) (c' := 3) [0, 1, 4] (by decide) rfl ⟨by kernel_rfl, by kernel_rfl, by kernel_rfl, by kernel_rfl, by kernel_rfl, by kernel_rfl, trivial⟩ ⟨⟨_, _, rfl, rfl, .inl ⟨rfl, rowC_scal (encI_ok .i64) _⟩⟩, ⟨_, _, rfl, rfl, .inr ⟨_, _, _, _, rfl, rfl⟩⟩, ⟨_, _, rfl, rfl, .inr ⟨_, _, _, _, rfl, rfl⟩⟩, trivial⟩ rfl ?_
    refine XL.conv (f31_2_ok m fuel a_Marks a_Step a_Turns r15 x22_2 (w64 (x23_2 + 1)) xh1_2_2 xh1_3_2 xh1_4_2 (lh2_2 ++ [r14]) o h Q hQ) (by first | rfl | simp)
  | false =>
   have h := cF b1 h
   refine XQ.cond (s := (.tmp 24)) (b := false) (by kernel_rfl) (by kernel_rfl) (fun q => by cases q) (fun _ => ?_)
   refine XQ.ren (σ' := [(8, s0 1 lh2_2.length)]) (h' := [(1, rc (encI .i64) lh2_2 0 3 1), (0, .cells [ii a_Marks, ii a_Step, ii a_Turns] 0 23 0)]) (c' := 2) [0, 2] (by decide) rfl ⟨by kernel_rfl, trivial⟩ ⟨⟨_, _, rfl, rfl, .inl ⟨rfl, rowC_scal (encI_ok .i64) _⟩⟩, ⟨_, _, rfl, rfl, .inr ⟨_, _, _, _, rfl, rfl⟩⟩, trivial⟩ rfl ?_
   refine XQ.exit (i := 0) (by kernel_rfl) ?_
   cases h
   exact hQ

def f31 (m : Nat) (a_Marks : Int) (a_Step : Int) (a_Turns : Int) : Option ((List Int) × Int) :=
 (f20 m a_Marks a_Step a_Turns).bind fun r1 =>
  cond (r1 != 0) (
   some ([], r1)
  ) (
   (f31_1 m m a_Marks a_Step a_Turns 1 0 0).bind fun o1 =>
    (f31_2 m m a_Marks a_Step a_Turns 0 o1.1 0 o1.1 o1.2.1 o1.2.2 []).bind fun o2 =>
     some (o2, 0)
  )

theorem f31_ok (m : Nat) (a_Marks : Int) (a_Step : Int) (a_Turns : Int) (o : (List Int) × Int) (h : f31 m a_Marks a_Step a_Turns = some o) : KC E0 31 [.agg #[ii a_Marks, ii a_Step, ii a_Turns]] [] 0 (fun v h' c' => v = .tuple #[s0 0 o.1.length, ii o.2] ∧ h' = [(0, rc (encI .i64) o.1 0 3 1)] ∧ c' = 1) := by
 refine KC.bodyN E0_ok (F := Proofs.Try.f31) (by kernel_rfl) (code := f31_C31) (by kernel_rfl) (nt := 8) (by kernel_rfl) (rs := [.tmp 2, .tmp 3]) (by kernel_rfl) (by kernel_rfl) (σ := [(0, .agg #[ii a_Marks, ii a_Step, ii a_Turns])]) (by kernel_rfl) ?_
 unfold f31 at h
 refine XQ.seq E0_ok (by kernel_rfl) ?_
 refine XQ.region (by kernel_rfl) ?_
 refine XR.runT E0_ok 1 3 [(1, pp 0 0)] [(0, .cells [ii a_Marks, ii a_Step, ii a_Turns] 0 23 0)] 1 rfl (by kernel_rfl) ?_
 refine XR.done (by kernel_rfl) ?_
 show XQ _ _ _ _ _ _ _ _
 refine XQ.seq E0_ok (by kernel_rfl) ?_
 refine XQ.region (by kernel_rfl) ?_
 refine XR.runS E0_ok 1 1 [(4, .agg #[ii a_Marks, ii a_Step, ii a_Turns])] rfl (by kernel_rfl) ?_
 refine XR.callK E0_ok [5] rfl (K := 74) (args := [.agg #[ii a_Marks, ii a_Step, ii a_Turns], .func (.func 77) #[] #[]]) (d := (some (path 12 5))) (by kernel_rfl) ?_
 refine KC.bodyN E0_ok (F := Proofs.Try.f74) (by kernel_rfl) (code := f31_C74) (by kernel_rfl) (nt := 37) (by kernel_rfl) (rs := [.tmp 4, .tmp 5]) (by kernel_rfl) (by kernel_rfl) (σ := [(0, .agg #[ii a_Marks, ii a_Step, ii a_Turns]), (1, .func (.func 77) #[] #[])]) (by kernel_rfl) ?_
 refine XQ.seq E0_ok (by kernel_rfl) ?_
 refine XQ.region (by kernel_rfl) ?_
 refine XR.runT E0_ok 1 3 [(1, .func (.func 77) #[] #[]), (2, pp 1 0)] [(1, .cells [ii a_Marks, ii a_Step, ii a_Turns] 0 23 0), (0, .cells [ii a_Marks, ii a_Step, ii a_Turns] 0 23 0)] 2 rfl (by kernel_rfl) ?_
 refine XR.done (by kernel_rfl) ?_
 show XQ _ _ _ _ _ _ _ _
 refine XQ.seq E0_ok (by kernel_rfl) ?_
 refine XQ.region (by kernel_rfl) ?_
 refine XR.runS E0_ok 1 1 [(1, .func (.func 77) #[] #[]), (11, .agg #[ii a_Marks, ii a_Step, ii a_Turns])] rfl (by kernel_rfl) ?_
 refine XR.callK E0_ok [1, 12] rfl (K := 72) (args := [.agg #[ii a_Marks, ii a_Step, ii a_Turns]]) (d := (some (path 12 12))) (by kernel_rfl) ?_
 refine KC.bodyN E0_ok (F := Proofs.Try.f72) (by kernel_rfl) (code := f31_C72) (by kernel_rfl) (nt := 29) (by kernel_rfl) (rs := [.tmp 2, .tmp 3]) (by kernel_rfl) (by kernel_rfl) (σ := [(0, .agg #[ii a_Marks, ii a_Step, ii a_Turns])]) (by kernel_rfl) ?_
 refine XQ.seq E0_ok (by kernel_rfl) ?_
 refine XQ.region (by kernel_rfl) ?_
 refine XR.runT E0_ok 1 3 [(1, pp 2 0)] [(2, .cells [ii a_Marks, ii a_Step, ii a_Turns] 0 23 0), (1, .cells [ii a_Marks, ii a_Step, ii a_Turns] 0 23 0), (0, .cells [ii a_Marks, ii a_Step, ii a_Turns] 0 23 0)] 3 rfl (by kernel_rfl) ?_
 refine XR.done (by kernel_rfl) ?_
 show XQ _ _ _ _ _ _ _ _
 refine XQ.seq E0_ok (by kernel_rfl) ?_
 refine XQ.seq E0_ok (by kernel_rfl) ?_
 refine XQ.region (by kernel_rfl) ?_
 refine XR.runS E0_ok 1 1 [(1, pp 2 0), (6, .agg #[ii a_Marks, ii a_Step, ii a_Turns])] rfl (by kernel_rfl) ?_
 obtain ⟨r1, r1_h, h⟩ := bS h
 refine XR.call E0_ok [1, 7] rfl (K := 20) (args := [.agg #[ii a_Marks, ii a_Step, ii a_Turns]]) (d := (some (path 12 7))) (by kernel_rfl) (KC.of_calls E0_ok (F := Proofs.Try.f20) (v := ii r1) (by kernel_rfl) rfl rfl (fun w hI => f20_ok m a_Marks a_Step a_Turns r1 r1_h w hI)) ?_
 rintro _ _ _ ⟨rfl, rfl, rfl⟩
 refine XR.conv (σ' := [(1, pp 2 0), (7, ii r1)]) (h' := [(2, .cells [ii a_Marks, ii a_Step, ii a_Turns] 0 23 0), (1, .cells [ii a_Marks, ii a_Step, ii a_Turns] 0 23 0), (0, .cells [ii a_Marks, ii a_Step, ii a_Turns] 0 23 0)]) (c' := 3) ?_ (by kernel_rfl)
 refine XR.runS E0_ok 1 1 [(1, pp 2 0), (4, ii r1)] rfl (by kernel_rfl) ?_
 refine XR.done (by kernel_rfl) ?_
 show XQ _ _ _ _ _ _ _ _
 refine XQ.seq E0_ok (by kernel_rfl) ?_
 refine XQ.region (by kernel_rfl) ?_
 refine XR.runS E0_ok 1 2 [(1, pp 2 0), (4, ii r1), (9, .bool (r1 != 0))] rfl (by kernel_rfl) ?_
 refine XR.done (by kernel_rfl) ?_
 show XQ _ _ _ _ _ _ _ _
 cases b1 : (r1 != 0 : Bool) with
 | true =>
  have h := cT b1 h
  refine XQ.cond (s := (.tmp 9)) (b := true) (by kernel_rfl) (by kernel_rfl) (fun _ => ?_) (fun q => by cases q)
  refine XQ.seq E0_ok (by kernel_rfl) ?_
  refine XQ.region (by kernel_rfl) ?_
  refine XR.runS E0_ok 1 3 [(2, .pointer none), (3, ii r1)] rfl (by kernel_rfl) ?_
  refine XR.done (by kernel_rfl) ?_
  show XQ _ _ _ _ _ _ _ _
  refine XQ.ret (by kernel_rfl) ?_
  refine ⟨fun i q => (by cases q), .tuple #[.pointer none, ii r1], (by kernel_rfl), ?_⟩
  refine XR.conv (σ' := [(1, .func (.func 77) #[] #[]), (12, .tuple #[.pointer none, ii r1])]) (h' := [(2, .cells [ii a_Marks, ii a_Step, ii a_Turns] 0 23 0), (1, .cells [ii a_Marks, ii a_Step, ii a_Turns] 0 23 0), (0, .cells [ii a_Marks, ii a_Step, ii a_Turns] 0 23 0)]) (c' := 3) ?_ (by kernel_rfl)
  refine XR.runS E0_ok 1 5 [(1, .func (.func 77) #[] #[]), (6, .pointer none), (7, ii r1)] rfl (by kernel_rfl) ?_
  refine XR.done (by kernel_rfl) ?_
  show XQ _ _ _ _ _ _ _ _
  refine XQ.seq E0_ok (by kernel_rfl) ?_
  refine XQ.seq E0_ok (by kernel_rfl) ?_
  refine XQ.region (by kernel_rfl) ?_
  refine XR.runS E0_ok 1 2 [(1, .func (.func 77) #[] #[]), (6, .pointer none), (7, ii r1), (16, .bool (r1 != 0))] rfl (by kernel_rfl) ?_
  refine XR.done (by kernel_rfl) ?_
  show XQ _ _ _ _ _ _ _ _
  rw [b1]
  refine XQ.cond (s := (.tmp 16)) (b := true) (by kernel_rfl) (by kernel_rfl) (fun _ => ?_) (fun q => by cases q)
  refine XQ.seq E0_ok (by kernel_rfl) ?_
  refine XQ.region (by kernel_rfl) ?_
  refine XR.runS E0_ok 1 3 [(4, .slice none 0 0), (5, ii r1)] rfl (by kernel_rfl) ?_
  refine XR.done (by kernel_rfl) ?_
  show XQ _ _ _ _ _ _ _ _
  refine XQ.ghost 3 1 rfl (σ' := [(4, s0 3 0), (5, ii r1)]) (h' := [(2, .cells [ii a_Marks, ii a_Step, ii a_Turns] 0 23 0), (1, .cells [ii a_Marks, ii a_Step, ii a_Turns] 0 23 0), (0, .cells [ii a_Marks, ii a_Step, ii a_Turns] 0 23 0)]) ⟨by kernel_rfl, by kernel_rfl, trivial⟩ ⟨⟨_, rfl, .inl rfl⟩, ⟨_, rfl, .inl rfl⟩, ⟨_, rfl, .inl rfl⟩, trivial⟩ ?_
  refine XQ.conv (σ' := [(4, s0 3 0), (5, ii r1)]) (h' := [(3, rc (encI .i64) [] 0 3 1), (2, .cells [ii a_Marks, ii a_Step, ii a_Turns] 0 23 0), (1, .cells [ii a_Marks, ii a_Step, ii a_Turns] 0 23 0), (0, .cells [ii a_Marks, ii a_Step, ii a_Turns] 0 23 0)]) (c' := 4) ?_ (by kernel_rfl)
  refine XQ.ret (by kernel_rfl) ?_
  refine ⟨fun i q => (by cases q), .tuple #[s0 3 0, ii r1], (by kernel_rfl), ?_⟩
  refine XR.conv (σ' := [(5, .tuple #[s0 3 0, ii r1])]) (h' := [(3, rc (encI .i64) [] 0 3 1), (2, .cells [ii a_Marks, ii a_Step, ii a_Turns] 0 23 0), (1, .cells [ii a_Marks, ii a_Step, ii a_Turns] 0 23 0), (0, .cells [ii a_Marks, ii a_Step, ii a_Turns] 0 23 0)]) (c' := 4) ?_ (by kernel_rfl)
  refine XR.runS E0_ok 1 4 [(2, s0 3 0), (3, ii r1)] rfl (by kernel_rfl) ?_
  refine XR.done (by kernel_rfl) ?_
  show XQ _ _ _ _ _ _ _ _
  refine XQ.ren (σ' := [(2, s0 0 0), (3, ii r1)]) (h' := [(0, rc (encI .i64) [] 0 3 1)]) (c' := 1) [3] (by decide) rfl ⟨by kernel_rfl, by kernel_rfl, trivial⟩ ⟨⟨_, _, rfl, rfl, .inl ⟨rfl, rowC_scal (encI_ok .i64) _⟩⟩, trivial⟩ rfl ?_
  refine XQ.ret (by kernel_rfl) ?_
  have h := Option.some.inj h
  subst h
  exact ⟨fun i q => (by cases q), .tuple #[s0 0 0, ii r1], (by kernel_rfl), (by kernel_rfl), (by kernel_rfl), rfl⟩
 | false =>
  have h := cF b1 h
  refine XQ.cond (s := (.tmp 9)) (b := false) (by kernel_rfl) (by kernel_rfl) (fun q => by cases q) (fun _ => ?_)
  refine XQ.skip (by kernel_rfl) ?_
  show XQ _ _ _ _ _ _ _ _
  refine XQ.seq E0_ok (by kernel_rfl) ?_
  refine XQ.region (by kernel_rfl) ?_
  refine XR.runT E0_ok 1 8 [(1, pp 2 0), (5, pp 3 0)] [(3, .cells [ii a_Marks, ii a_Step, ii 1, ii 0, ii 0] 0 88 0), (2, .cells [ii a_Marks, ii a_Step, ii a_Turns] 0 23 0), (1, .cells [ii a_Marks, ii a_Step, ii a_Turns] 0 23 0), (0, .cells [ii a_Marks, ii a_Step, ii a_Turns] 0 23 0)] 4 rfl (by kernel_rfl) ?_
  refine XR.done (by kernel_rfl) ?_
  show XQ _ _ _ _ _ _ _ _
  refine XQ.seq E0_ok (by kernel_rfl) ?_
  refine XQ.block (id := 0) (by kernel_rfl) ?_
  refine XQ.loop m (by kernel_rfl) ?_
  obtain ⟨o1, o1_h, h⟩ := bS h
  refine XL.ren (σ' := [(1, pp 2 0), (5, pp 3 0)]) (h' := [(3, .cells [ii a_Marks, ii a_Step, ii 1, ii 0, ii 0] 0 88 0), (2, .cells [ii a_Marks, ii a_Step, ii a_Turns] 0 23 0), (1, .cells [ii a_Marks, ii a_Step, ii a_Turns] 0 23 0), (0, .cells [ii a_Marks, ii a_Step, ii a_Turns] 0 23 0)]) (c' := 4) [0, 1, 2, 3] (by decide) rfl ⟨by kernel_rfl, by kernel_rfl, trivial⟩ ⟨⟨_, _, rfl, rfl, .inr ⟨_, _, _, _, rfl, rfl⟩⟩, ⟨_, _, rfl, rfl, .inr ⟨_, _, _, _, rfl, rfl⟩⟩, ⟨_, _, rfl, rfl, .inr ⟨_, _, _, _, rfl, rfl⟩⟩, ⟨_, _, rfl, rfl, .inr ⟨_, _, _, _, rfl, rfl⟩⟩, trivial⟩ rfl ?_
  refine XL.conv (f31_1_ok m m a_Marks a_Step a_Turns 1 0 0 o1 o1_h _ ?_) (by first | rfl | simp)
  show XQ _ _ _ _ _ _ _ _
  refine XQ.seq E0_ok (by kernel_rfl) ?_
  refine XQ.region (by kernel_rfl) ?_
  refine XR.runS E0_ok 1 3 [(2, pp 2 0), (3, ii 0)] rfl (by kernel_rfl) ?_
  refine XR.done (by kernel_rfl) ?_
  show XQ _ _ _ _ _ _ _ _
  refine XQ.ret (by kernel_rfl) ?_
  refine ⟨fun i q => (by cases q), .tuple #[pp 2 0, ii 0], (by kernel_rfl), ?_⟩
  refine XR.conv (σ' := [(1, .func (.func 77) #[] #[]), (12, .tuple #[pp 2 0, ii 0])]) (h' := [(2, .cells [ii a_Marks, ii a_Step, ii o1.1, ii o1.2.1, ii o1.2.2] 0 88 0), (1, .cells [ii a_Marks, ii a_Step, ii a_Turns] 0 23 0), (0, .cells [ii a_Marks, ii a_Step, ii a_Turns] 0 23 0)]) (c' := 3) ?_ (by kernel_rfl)
  refine XR.runS E0_ok 1 5 [(1, .func (.func 77) #[] #[]), (6, pp 2 0), (7, ii 0)] rfl (by kernel_rfl) ?_
  refine XR.done (by kernel_rfl) ?_
  show XQ _ _ _ _ _ _ _ _
  refine XQ.seq E0_ok (by kernel_rfl) ?_
  refine XQ.seq E0_ok (by kernel_rfl) ?_
  refine XQ.region (by kernel_rfl) ?_
  refine XR.runS E0_ok 1 2 [(1, .func (.func 77) #[] #[]), (6, pp 2 0), (7, ii 0), (16, .bool false)] rfl (by kernel_rfl) ?_
  refine XR.done (by kernel_rfl) ?_
  show XQ _ _ _ _ _ _ _ _
  refine XQ.cond (s := (.tmp 16)) (b := false) (by kernel_rfl) (by kernel_rfl) (fun q => by cases q) (fun _ => ?_)
  refine XQ.skip (by kernel_rfl) ?_
  show XQ _ _ _ _ _ _ _ _
  refine XQ.seq E0_ok (by kernel_rfl) ?_
  refine XQ.region (by kernel_rfl) ?_
  refine XR.runS E0_ok 1 1 [(1, .func (.func 77) #[] #[]), (6, pp 2 0), (8, .slice none 0 0)] rfl (by kernel_rfl) ?_
  refine XR.done (by kernel_rfl) ?_
  show XQ _ _ _ _ _ _ _ _
  refine XQ.ghost 3 1 rfl (σ' := [(1, .func (.func 77) #[] #[]), (6, pp 2 0), (8, s0 3 0)]) (h' := [(2, .cells [ii a_Marks, ii a_Step, ii o1.1, ii o1.2.1, ii o1.2.2] 0 88 0), (1, .cells [ii a_Marks, ii a_Step, ii a_Turns] 0 23 0), (0, .cells [ii a_Marks, ii a_Step, ii a_Turns] 0 23 0)]) ⟨by kernel_rfl, by kernel_rfl, by kernel_rfl, trivial⟩ ⟨⟨_, rfl, .inl rfl⟩, ⟨_, rfl, .inl rfl⟩, ⟨_, rfl, .inl rfl⟩, trivial⟩ ?_
  refine XQ.conv (σ' := [(1, .func (.func 77) #[] #[]), (6, pp 2 0), (8, s0 3 0)]) (h' := [(3, rc (encI .i64) [] 0 3 1), (2, .cells [ii a_Marks, ii a_Step, ii o1.1, ii o1.2.1, ii o1.2.2] 0 88 0), (1, .cells [ii a_Marks, ii a_Step, ii a_Turns] 0 23 0), (0, .cells [ii a_Marks, ii a_Step, ii a_Turns] 0 23 0)]) (c' := 4) ?_ (by kernel_rfl)
  refine XQ.seq E0_ok (by kernel_rfl) ?_
  refine XQ.region (by kernel_rfl) ?_
  refine XR.runS E0_ok 1 1 [(1, .func (.func 77) #[] #[]), (6, pp 2 0), (8, s0 3 0), (9, ii 0)] rfl (by kernel_rfl) ?_
  refine XR.done (by kernel_rfl) ?_
  show XQ _ _ _ _ _ _ _ _
  refine XQ.seq E0_ok (by kernel_rfl) ?_
  refine XQ.seq E0_ok (by kernel_rfl) ?_
  refine XQ.region (by kernel_rfl) ?_
  refine XR.runS E0_ok 1 6 [(1, .func (.func 77) #[] #[]), (6, pp 2 0), (8, s0 3 0), (9, ii 0), (22, ii o1.1), (23, ii 0)] rfl (by kernel_rfl) ?_
  refine XR.done (by kernel_rfl) ?_
  show XQ _ _ _ _ _ _ _ _
  refine XQ.block (id := 0) (by kernel_rfl) ?_
  refine XQ.loop m (by kernel_rfl) ?_
  obtain ⟨o2, o2_h, h⟩ := bS h
  refine XL.ren (σ' := [(1, .func (.func 77) #[] #[]), (6, pp 1 0), (8, s0 2 0), (9, ii 0), (22, ii o1.1), (23, ii 0)]) (h' := [(2, rc (encI .i64) [] 0 3 1), (1, .cells [ii a_Marks, ii a_Step, ii o1.1, ii o1.2.1, ii o1.2.2] 0 88 0), (0, .cells [ii a_Marks, ii a_Step, ii a_Turns] 0 23 0)]) (c' := 3) [0, 2, 3] (by decide) rfl ⟨by kernel_rfl, by kernel_rfl, by kernel_rfl, by kernel_rfl, by kernel_rfl, by kernel_rfl, trivial⟩ ⟨⟨_, _, rfl, rfl, .inl ⟨rfl, rowC_scal (encI_ok .i64) _⟩⟩, ⟨_, _, rfl, rfl, .inr ⟨_, _, _, _, rfl, rfl⟩⟩, ⟨_, _, rfl, rfl, .inr ⟨_, _, _, _, rfl, rfl⟩⟩, trivial⟩ rfl ?_
  refine XL.conv (f31_2_ok m m a_Marks a_Step a_Turns 0 o1.1 0 o1.1 o1.2.1 o1.2.2 [] o2 o2_h _ ?_) (by first | rfl | simp)
  show XQ _ _ _ _ _ _ _ _
  refine XQ.seq E0_ok (by kernel_rfl) ?_
  refine XQ.region (by kernel_rfl) ?_
  refine XR.runS E0_ok 1 3 [(4, s0 1 o2.length), (5, ii 0)] rfl (by kernel_rfl) ?_
  refine XR.done (by kernel_rfl) ?_
  show XQ _ _ _ _ _ _ _ _
  refine XQ.ret (by kernel_rfl) ?_
  refine ⟨fun i q => (by cases q), .tuple #[s0 1 o2.length, ii 0], (by kernel_rfl), ?_⟩
  refine XR.conv (σ' := [(5, .tuple #[s0 1 o2.length, ii 0])]) (h' := [(1, rc (encI .i64) o2 0 3 1), (0, .cells [ii a_Marks, ii a_Step, ii a_Turns] 0 23 0)]) (c' := 2) ?_ (by kernel_rfl)
  refine XR.runS E0_ok 1 4 [(2, s0 1 o2.length), (3, ii 0)] rfl (by kernel_rfl) ?_
  refine XR.done (by kernel_rfl) ?_
  show XQ _ _ _ _ _ _ _ _
  refine XQ.ren (σ' := [(2, s0 0 o2.length), (3, ii 0)]) (h' := [(0, rc (encI .i64) o2 0 3 1)]) (c' := 1) [1] (by decide) rfl ⟨by kernel_rfl, by kernel_rfl, trivial⟩ ⟨⟨_, _, rfl, rfl, .inl ⟨rfl, rowC_scal (encI_ok .i64) _⟩⟩, trivial⟩ rfl ?_
  refine XQ.ret (by kernel_rfl) ?_
  have h := Option.some.inj h
  subst h
  exact ⟨fun i q => (by cases q), .tuple #[s0 0 o2.length, ii 0], (by kernel_rfl), (by kernel_rfl), (by kernel_rfl), rfl⟩

end Go.Xm
