/- What these functions of the program compute, as functions in Lean, and the proofs that they do: wrap.Next, wrap.Divides. Conditions: none. -/
import Derived.Test.YtagagpkjlkoieaaPa
namespace Go.Xm
open Go.RowKit
set_option linter.unusedVariables false
set_option linter.unusedSimpArgs false
set_option maxRecDepth 20000

/-! vitola/wrap.Next -/
noncomputable def f22_C22 : Code := Proofs.Try.f22.body.getD .skip
noncomputable def f22_C68 : Code := Proofs.Try.f68.body.getD .skip
noncomputable def f22_C72 : Code := Proofs.Try.f72.body.getD .skip
noncomputable def f22_C73 : Code := Proofs.Try.f73.body.getD .skip
noncomputable def f22_L1 : Code := lft (lft (lft (rgt (rgt (rgt f22_C72)))))

def f22_1 (m : Nat) : Nat → Int → Int → Int → Int → Int → Int → Option (Int × Int × Int)
 | 0, _, _, _, _, _, _ => none
 | fuel + 1, a_Marks, a_Step, a_Turns, xh3_2_1, xh3_3_1, xh3_4_1 =>
  cond (decide (xh3_2_1 < a_Turns)) (
   cond (xh3_2_1 == 1) (
    f22_1 m fuel a_Marks a_Step a_Turns (w64 (xh3_2_1 + 1)) 1 1
   ) (
    (f59 m a_Marks a_Step (w64 (xh3_2_1 + 1)) xh3_2_1).bind fun r6 =>
     (f59 m a_Marks a_Step (w64 (xh3_2_1 + 1)) xh3_3_1).bind fun r7 =>
      cond (decide (r6 < r7)) (
       f22_1 m fuel a_Marks a_Step a_Turns (w64 (xh3_2_1 + 1)) xh3_2_1 xh3_4_1
      ) (
       (f59 m a_Marks a_Step (w64 (xh3_2_1 + 1)) xh3_4_1).bind fun r9 =>
        f22_1 m fuel a_Marks a_Step a_Turns (w64 (xh3_2_1 + 1)) xh3_3_1 (cond (decide (r6 > r9)) xh3_2_1 xh3_4_1)
      )
   )
  ) (
   some (xh3_2_1, xh3_3_1, xh3_4_1)
  )

theorem f22_1_ok (m : Nat) : ∀ (fuel : Nat) (a_Marks : Int) (a_Step : Int) (a_Turns : Int) (xh3_2_1 : Int) (xh3_3_1 : Int) (xh3_4_1 : Int) (o : (Int × Int × Int)), f22_1 m fuel a_Marks a_Step a_Turns xh3_2_1 xh3_3_1 xh3_4_1 = some o → ∀ Q : QP, Q (.exit 0) [(5, pp 2 0)] [(2, .cells [ii a_Marks, ii a_Step, ii o.1, ii o.2.1, ii o.2.2] 0 88 0), (1, .cells [ii a_Marks, ii a_Step, ii a_Turns] 0 23 0), (0, .cells [ii a_Marks, ii a_Step, ii a_Turns] 0 23 0)] 3 → XL E0 29 2 fuel f22_L1 [(1, pp 2 0), (5, pp 3 0)] [(3, .cells [ii a_Marks, ii a_Step, ii xh3_2_1, ii xh3_3_1, ii xh3_4_1] 0 88 0), (2, .cells [ii a_Marks, ii a_Step, ii a_Turns] 0 23 0), (1, .cells [ii a_Marks, ii a_Step, ii a_Turns] 0 23 0), (0, .cells [ii a_Marks, ii a_Step, ii a_Turns] 0 23 0)] 4 Q
 | 0, a_Marks, a_Step, a_Turns, xh3_2_1, xh3_3_1, xh3_4_1, o, h, Q, hQ => by cases h
 | fuel + 1, a_Marks, a_Step, a_Turns, xh3_2_1, xh3_3_1, xh3_4_1, o, h, Q, hQ => by
  unfold f22_1 at h
  refine XL.succ E0_ok ?_
  refine XQ.seq E0_ok (by kernel_rfl) ?_
  refine XQ.seq E0_ok (by kernel_rfl) ?_
  refine XQ.quiet E0_ok (by kernel_rfl) (by kernel_rfl) ?_
  refine XU.run E0_ok 1 8 [1, 5, 25] rfl (σ' := [(1, pp 2 0), (5, pp 3 0), (25, .bool (decide (xh3_2_1 < a_Turns)))]) (by kernel_rfl) ?_
  refine XU.done (by kernel_rfl) ?_
  show XQ _ _ _ _ _ _ _ _
  cases b1 : (decide (xh3_2_1 < a_Turns) : Bool) with
  | true =>
   have h := cT b1 h
   refine XQ.cond (s := (.tmp 25)) (b := true) (by kernel_rfl) (by kernel_rfl) (fun _ => ?_) (fun q => by cases q)
   refine XQ.skip (by kernel_rfl) ?_
   show XQ _ _ _ _ _ _ _ _
   refine XQ.block (id := 1) (by kernel_rfl) ?_
   refine XQ.region (by kernel_rfl) ?_
   refine XR.runS E0_ok 1 1 [(1, pp 2 0), (5, pp 3 0), (26, pp 3 0)] rfl (by kernel_rfl) ?_
   refine XR.callK E0_ok [1, 5] rfl (K := 73) (args := [pp 3 0]) (d := (some (path 12 27))) (by kernel_rfl) ?_
   refine KC.bodyN E0_ok (F := Proofs.Try.f73) (by kernel_rfl) (code := f22_C73) (by kernel_rfl) (nt := 66) (by kernel_rfl) (rs := []) (by kernel_rfl) (by kernel_rfl) (σ := [(0, pp 3 0)]) (by kernel_rfl) ?_
   refine XQ.seq E0_ok (by kernel_rfl) ?_
   refine XQ.region (by kernel_rfl) ?_
   refine XR.runS E0_ok 1 6 [(0, pp 3 0), (2, ii xh3_2_1)] rfl (by kernel_rfl) ?_
   refine XR.done (by kernel_rfl) ?_
   show XQ _ _ _ _ _ _ _ _
   refine XQ.seq E0_ok (by kernel_rfl) ?_
   refine XQ.region (by kernel_rfl) ?_
   refine XR.runT E0_ok 1 10 [(0, pp 3 0), (2, ii xh3_2_1)] [(3, .cells [ii a_Marks, ii a_Step, ii (w64 (xh3_2_1 + 1)), ii xh3_3_1, ii xh3_4_1] 0 88 0), (2, .cells [ii a_Marks, ii a_Step, ii a_Turns] 0 23 0), (1, .cells [ii a_Marks, ii a_Step, ii a_Turns] 0 23 0), (0, .cells [ii a_Marks, ii a_Step, ii a_Turns] 0 23 0)] 4 rfl (by kernel_rfl) ?_
   refine XR.done (by kernel_rfl) ?_
   show XQ _ _ _ _ _ _ _ _
   refine XQ.seq E0_ok (by kernel_rfl) ?_
   refine XQ.seq E0_ok (by kernel_rfl) ?_
   refine XQ.region (by kernel_rfl) ?_
   refine XR.runS E0_ok 1 2 [(0, pp 3 0), (2, ii xh3_2_1), (19, .bool (xh3_2_1 == 1))] rfl (by kernel_rfl) ?_
   refine XR.done (by kernel_rfl) ?_
   show XQ _ _ _ _ _ _ _ _
   cases b2 : (xh3_2_1 == 1 : Bool) with
   | true =>
    have h := cT b2 h
    refine XQ.cond (s := (.tmp 19)) (b := true) (by kernel_rfl) (by kernel_rfl) (fun _ => ?_) (fun q => by cases q)
    refine XQ.seq E0_ok (by kernel_rfl) ?_
    refine XQ.region (by kernel_rfl) ?_
    refine XR.runT E0_ok 1 5 [] [(3, .cells [ii a_Marks, ii a_Step, ii (w64 (xh3_2_1 + 1)), ii 1, ii 1] 0 88 0), (2, .cells [ii a_Marks, ii a_Step, ii a_Turns] 0 23 0), (1, .cells [ii a_Marks, ii a_Step, ii a_Turns] 0 23 0), (0, .cells [ii a_Marks, ii a_Step, ii a_Turns] 0 23 0)] 4 rfl (by kernel_rfl) ?_
    refine XR.done (by kernel_rfl) ?_
    show XQ _ _ _ _ _ _ _ _
    refine XQ.ret (by kernel_rfl) ?_
    refine ⟨fun i q => (by cases q), .tuple #[], (by kernel_rfl), ?_⟩
    refine XR.conv (σ' := [(1, pp 2 0), (5, pp 3 0)]) (h' := [(3, .cells [ii a_Marks, ii a_Step, ii (w64 (xh3_2_1 + 1)), ii 1, ii 1] 0 88 0), (2, .cells [ii a_Marks, ii a_Step, ii a_Turns] 0 23 0), (1, .cells [ii a_Marks, ii a_Step, ii a_Turns] 0 23 0), (0, .cells [ii a_Marks, ii a_Step, ii a_Turns] 0 23 0)]) (c' := 4) ?_ (by kernel_rfl)
    refine XR.done (by kernel_rfl) ?_
    show XL _ _ _ _ _ _ _ _ _
    refine XL.ren (σ' := [(1, pp 2 0), (5, pp 3 0)]) (h' := [(3, .cells [ii a_Marks, ii a_Step, ii (w64 (xh3_2_1 + 1)), ii 1, ii 1] 0 88 0), (2, .cells [ii a_Marks, ii a_Step, ii a_Turns] 0 23 0), (1, .cells [ii a_Marks, ii a_Step, ii a_Turns] 0 23 0), (0, .cells [ii a_Marks, ii a_Step, ii a_Turns] 0 23 0)]) (c' := 4) [0, 1, 2, 3] (by decide) rfl ⟨by kernel_rfl, by kernel_rfl, trivial⟩ ⟨⟨_, _, rfl, rfl, .inr ⟨_, _, _, _, rfl, rfl⟩⟩, ⟨_, _, rfl, rfl, .inr ⟨_, _, _, _, rfl, rfl⟩⟩, ⟨_, _, rfl, rfl, .inr ⟨_, _, _, _, rfl, rfl⟩⟩, ⟨_, _, rfl, rfl, .inr ⟨_, _, _, _, rfl, rfl⟩⟩, trivial⟩ rfl ?_
    refine XL.conv (f22_1_ok m fuel a_Marks a_Step a_Turns (w64 (xh3_2_1 + 1)) 1 1 o h Q hQ) (by first | rfl | simp)
   | false =>
    have h := cF b2 h
    refine XQ.cond (s := (.tmp 19)) (b := false) (by kernel_rfl) (by kernel_rfl) (fun q => by cases q) (fun _ => ?_)
    refine XQ.skip (by kernel_rfl) ?_
    show XQ _ _ _ _ _ _ _ _
    refine XQ.seq E0_ok (by kernel_rfl) ?_
    refine XQ.region (by kernel_rfl) ?_
    refine XR.runS E0_ok 1 5 [(0, pp 3 0), (2, ii xh3_2_1), (27, .agg #[ii a_Marks, ii a_Step, ii (w64 (xh3_2_1 + 1))]), (28, ii xh3_2_1)] rfl (by kernel_rfl) ?_
    obtain ⟨r6, r6_h, h⟩ := bS h
    refine XR.call E0_ok [0, 2, 29] rfl (K := 59) (args := [.agg #[ii a_Marks, ii a_Step, ii (w64 (xh3_2_1 + 1))], ii xh3_2_1]) (d := (some (path 12 29))) (by kernel_rfl) (KC.of_calls E0_ok (F := Proofs.Try.f59) (v := ii r6) (by kernel_rfl) rfl rfl (fun w hI => f59_ok m a_Marks a_Step (w64 (xh3_2_1 + 1)) xh3_2_1 r6 r6_h w hI)) ?_
    rintro _ _ _ ⟨rfl, rfl, rfl⟩
    refine XR.conv (σ' := [(0, pp 3 0), (2, ii xh3_2_1), (29, ii r6)]) (h' := [(3, .cells [ii a_Marks, ii a_Step, ii (w64 (xh3_2_1 + 1)), ii xh3_3_1, ii xh3_4_1] 0 88 0), (2, .cells [ii a_Marks, ii a_Step, ii a_Turns] 0 23 0), (1, .cells [ii a_Marks, ii a_Step, ii a_Turns] 0 23 0), (0, .cells [ii a_Marks, ii a_Step, ii a_Turns] 0 23 0)]) (c' := 4) ?_ (by kernel_rfl)
    refine XR.runS E0_ok 1 1 [(0, pp 3 0), (2, ii xh3_2_1), (3, ii r6)] rfl (by kernel_rfl) ?_
    refine XR.done (by kernel_rfl) ?_
    show XQ _ _ _ _ _ _ _ _
    refine XQ.block (id := 0) (by kernel_rfl) ?_
    refine XQ.seq E0_ok (by kernel_rfl) ?_
    refine XQ.quiet E0_ok (by kernel_rfl) (by kernel_rfl) ?_
    refine XU.run E0_ok 1 10 [0, 2, 3, 31, 35, 40] rfl (σ' := [(0, pp 3 0), (2, ii xh3_2_1), (3, ii r6), (31, ii r6), (35, .agg #[ii a_Marks, ii a_Step, ii (w64 (xh3_2_1 + 1))]), (40, ii xh3_3_1)]) (by kernel_rfl) ?_
    obtain ⟨r7, r7_h, h⟩ := bS h
    refine XU.call E0_ok [0, 2, 3, 31, 41] rfl (K := 59) (F := Proofs.Try.f59) (args := [.agg #[ii a_Marks, ii a_Step, ii (w64 (xh3_2_1 + 1))], ii xh3_3_1]) (d := (some (path 12 41))) (v := ii r7) (by kernel_rfl) (by kernel_rfl) rfl rfl (fun w hI => f59_ok m a_Marks a_Step (w64 (xh3_2_1 + 1)) xh3_3_1 r7 r7_h w hI) (σ' := [(0, pp 3 0), (2, ii xh3_2_1), (3, ii r6), (31, ii r6), (41, ii r7)]) (by kernel_rfl) ?_
    refine XU.run E0_ok 1 2 [0, 2, 3, 30] rfl (σ' := [(0, pp 3 0), (2, ii xh3_2_1), (3, ii r6), (30, .bool (decide (r6 < r7)))]) (by kernel_rfl) ?_
    refine XU.done (by kernel_rfl) ?_
    show XQ _ _ _ _ _ _ _ _
    cases b3 : (decide (r6 < r7) : Bool) with
    | true =>
     have h := cT b3 h
     refine XQ.cond (s := (.tmp 30)) (b := true) (by kernel_rfl) (by kernel_rfl) (fun _ => ?_) (fun q => by cases q)
     refine XQ.region (by kernel_rfl) ?_
     refine XR.runT E0_ok 1 6 [] [(3, .cells [ii a_Marks, ii a_Step, ii (w64 (xh3_2_1 + 1)), ii xh3_2_1, ii xh3_4_1] 0 88 0), (2, .cells [ii a_Marks, ii a_Step, ii a_Turns] 0 23 0), (1, .cells [ii a_Marks, ii a_Step, ii a_Turns] 0 23 0), (0, .cells [ii a_Marks, ii a_Step, ii a_Turns] 0 23 0)] 4 rfl (by kernel_rfl) ?_
     refine XR.done (by kernel_rfl) ?_
     refine ⟨fun i q => (by cases q), .tuple #[], (by kernel_rfl), ?_⟩
     refine XR.conv (σ' := [(1, pp 2 0), (5, pp 3 0)]) (h' := [(3, .cells [ii a_Marks, ii a_Step, ii (w64 (xh3_2_1 + 1)), ii xh3_2_1, ii xh3_4_1] 0 88 0), (2, .cells [ii a_Marks, ii a_Step, ii a_Turns] 0 23 0), (1, .cells [ii a_Marks, ii a_Step, ii a_Turns] 0 23 0), (0, .cells [ii a_Marks, ii a_Step, ii a_Turns] 0 23 0)]) (c' := 4) ?_ (by kernel_rfl)
     refine XR.done (by kernel_rfl) ?_
     show XL _ _ _ _ _ _ _ _ _
     refine XL.ren (σ' := [(1, pp 2 0), (5, pp 3 0)]) (h' := [(3, .cells [ii a_Marks, ii a_Step, ii (w64 (xh3_2_1 + 1)), ii xh3_2_1, ii xh3_4_1] 0 88 0), (2, .cells [ii a_Marks, ii a_Step, ii a_Turns] 0 23 0), (1, .cells [ii a_Marks, ii a_Step, ii a_Turns] 0 23 0), (0, .cells [ii a_Marks, ii a_Step, ii a_Turns] 0 23 0)]) (c' := 4) [0, 1, 2, 3] (by decide) rfl ⟨by kernel_rfl, by kernel_rfl, trivial⟩ ⟨⟨_, _, rfl, rfl, .inr ⟨_, _, _, _, rfl, rfl⟩⟩, ⟨_, _, rfl, rfl, .inr ⟨_, _, _, _, rfl, rfl⟩⟩, ⟨_, _, rfl, rfl, .inr ⟨_, _, _, _, rfl, rfl⟩⟩, ⟨_, _, rfl, rfl, .inr ⟨_, _, _, _, rfl, rfl⟩⟩, trivial⟩ rfl ?_
     refine XL.conv (f22_1_ok m fuel a_Marks a_Step a_Turns (w64 (xh3_2_1 + 1)) xh3_2_1 xh3_4_1 o h Q hQ) (by first | rfl | simp)
    | false =>
     have h := cF b3 h
     refine XQ.cond (s := (.tmp 30)) (b := false) (by kernel_rfl) (by kernel_rfl) (fun q => by cases q) (fun _ => ?_)
     refine XQ.seq E0_ok (by kernel_rfl) ?_
     refine XQ.quiet E0_ok (by kernel_rfl) (by kernel_rfl) ?_
     refine XU.run E0_ok 1 10 [0, 2, 49, 53, 58] rfl (σ' := [(0, pp 3 0), (2, ii xh3_2_1), (49, ii r6), (53, .agg #[ii a_Marks, ii a_Step, ii (w64 (xh3_2_1 + 1))]), (58, ii xh3_4_1)]) (by kernel_rfl) ?_
     obtain ⟨r9, r9_h, h⟩ := bS h
     refine XU.call E0_ok [0, 2, 49, 59] rfl (K := 59) (F := Proofs.Try.f59) (args := [.agg #[ii a_Marks, ii a_Step, ii (w64 (xh3_2_1 + 1))], ii xh3_4_1]) (d := (some (path 12 59))) (v := ii r9) (by kernel_rfl) (by kernel_rfl) rfl rfl (fun w hI => f59_ok m a_Marks a_Step (w64 (xh3_2_1 + 1)) xh3_4_1 r9 r9_h w hI) (σ' := [(0, pp 3 0), (2, ii xh3_2_1), (49, ii r6), (59, ii r9)]) (by kernel_rfl) ?_
     refine XU.run E0_ok 1 2 [0, 2, 48] rfl (σ' := [(0, pp 3 0), (2, ii xh3_2_1), (48, .bool (decide (r6 > r9)))]) (by kernel_rfl) ?_
     refine XU.done (by kernel_rfl) ?_
     show XQ _ _ _ _ _ _ _ _
     refine XQ.meetC (σ' := []) (h' := [(3, .cells [ii a_Marks, ii a_Step, ii (w64 (xh3_2_1 + 1)), ii xh3_3_1, ii (cond (decide (r6 > r9)) xh3_2_1 xh3_4_1)] 0 88 0), (2, .cells [ii a_Marks, ii a_Step, ii a_Turns] 0 23 0), (1, .cells [ii a_Marks, ii a_Step, ii a_Turns] 0 23 0), (0, .cells [ii a_Marks, ii a_Step, ii a_Turns] 0 23 0)]) (c' := 4) ?_ ?_
     rotate_left
     ·refine XQ.cond (s := (.tmp 48)) (b := decide (r6 > r9)) (by kernel_rfl) (by kernel_rfl) (fun b4 => ?_) (fun b4 => ?_)
      ·refine XQ.region (by kernel_rfl) ?_
       refine XR.runT E0_ok 1 6 [] [(3, .cells [ii a_Marks, ii a_Step, ii (w64 (xh3_2_1 + 1)), ii xh3_3_1, ii xh3_2_1] 0 88 0), (2, .cells [ii a_Marks, ii a_Step, ii a_Turns] 0 23 0), (1, .cells [ii a_Marks, ii a_Step, ii a_Turns] 0 23 0), (0, .cells [ii a_Marks, ii a_Step, ii a_Turns] 0 23 0)] 4 rfl (by kernel_rfl) ?_
       refine XR.done (by kernel_rfl) ?_
       refine ⟨rfl, ?_, ?_⟩
       ·try rw [b4]
        exact trivial
       ·try rw [b4]
        kernel_rfl
      ·refine XQ.skip (by kernel_rfl) ?_
       refine ⟨rfl, ?_, ?_⟩
       ·try rw [b4]
        exact trivial
       ·try rw [b4]
        kernel_rfl
     refine ⟨fun i q => (by cases q), .tuple #[], (by kernel_rfl), ?_⟩
     refine XR.conv (σ' := [(1, pp 2 0), (5, pp 3 0)]) (h' := [(3, .cells [ii a_Marks, ii a_Step, ii (w64 (xh3_2_1 + 1)), ii xh3_3_1, ii (cond (decide (r6 > r9)) xh3_2_1 xh3_4_1)] 0 88 0), (2, .cells [ii a_Marks, ii a_Step, ii a_Turns] 0 23 0), (1, .cells [ii a_Marks, ii a_Step, ii a_Turns] 0 23 0), (0, .cells [ii a_Marks, ii a_Step, ii a_Turns] 0 23 0)]) (c' := 4) ?_ (by kernel_rfl)
     refine XR.done (by kernel_rfl) ?_
     show XL _ _ _ _ _ _ _ _ _
     refine XL.ren (σ' := [(1, pp 2 0), (5, pp 3 0)]) (h' := [(3, .cells [ii a_Marks, ii a_Step, ii (w64 (xh3_2_1 + 1)), ii xh3_3_1, ii (cond (decide (r6 > r9)) xh3_2_1 xh3_4_1)] 0 88 0), (2, .cells [ii a_Marks, ii a_Step, ii a_Turns] 0 23 0), (1, .cells [ii a_Marks, ii a_Step, ii a_Turns] 0 23 0), (0, .cells [ii a_Marks, ii a_Step, ii a_Turns] 0 23 0)]) (c' := 4) [0, 1, 2, 3] (by decide) rfl ⟨by kernel_rfl, by kernel_rfl, trivial⟩ ⟨⟨_, _, rfl, rfl, .inr ⟨_, _, _, _, rfl, rfl⟩⟩, ⟨_, _, rfl, rfl, .inr ⟨_, _, _, _, rfl, rfl⟩⟩, ⟨_, _, rfl, rfl, .inr ⟨_, _, _, _, rfl, rfl⟩⟩, ⟨_, _, rfl, rfl, .inr ⟨_, _, _, _, rfl, rfl⟩⟩, trivial⟩ rfl ?_
     refine XL.conv (f22_1_ok m fuel a_Marks a_Step a_Turns (w64 (xh3_2_1 + 1)) xh3_3_1 (cond (decide (r6 > r9)) xh3_2_1 xh3_4_1) o h Q hQ) (by first | rfl | simp)
  | false =>
   have h := cF b1 h
   refine XQ.cond (s := (.tmp 25)) (b := false) (by kernel_rfl) (by kernel_rfl) (fun q => by cases q) (fun _ => ?_)
   refine XQ.ren (σ' := [(5, pp 2 0)]) (h' := [(2, .cells [ii a_Marks, ii a_Step, ii xh3_2_1, ii xh3_3_1, ii xh3_4_1] 0 88 0), (1, .cells [ii a_Marks, ii a_Step, ii a_Turns] 0 23 0), (0, .cells [ii a_Marks, ii a_Step, ii a_Turns] 0 23 0)]) (c' := 3) [0, 1, 3] (by decide) rfl ⟨by kernel_rfl, trivial⟩ ⟨⟨_, _, rfl, rfl, .inr ⟨_, _, _, _, rfl, rfl⟩⟩, ⟨_, _, rfl, rfl, .inr ⟨_, _, _, _, rfl, rfl⟩⟩, ⟨_, _, rfl, rfl, .inr ⟨_, _, _, _, rfl, rfl⟩⟩, trivial⟩ rfl ?_
   refine XQ.exit (i := 0) (by kernel_rfl) ?_
   cases h
   exact hQ

def f22 (m : Nat) (a_Marks : Int) (a_Step : Int) (a_Turns : Int) (b : Int) : Option (Int × Int) :=
 (f20 m a_Marks a_Step a_Turns).bind fun r1 =>
  cond (r1 != 0) (
   some (0, r1)
  ) (
   (f22_1 m m a_Marks a_Step a_Turns 1 0 0).bind fun o1 =>
    cond (decide (b < 0)) (
     some (0, 2)
    ) (
     cond (decide (b ≥ a_Turns)) (
      some (0, 2)
     ) (
      (f69 m a_Marks a_Step o1.1 o1.2.1 o1.2.2 b).bind fun r10 =>
       some (r10, 0)
     )
    )
  )

theorem f22_ok (m : Nat) (a_Marks : Int) (a_Step : Int) (a_Turns : Int) (b : Int) (o : Int × Int) (h : f22 m a_Marks a_Step a_Turns b = some o) (w : World) (hI : anyInv w) : Calls Proofs.Try.prog 22 #[.agg #[ii a_Marks, ii a_Step, ii a_Turns], ii b] w fun e w' => e = .returned (.tuple #[ii o.1, ii o.2]) ∧ Below w.heap.size w w' := by
 refine KC.calls (E := E0) (args := [.agg #[ii a_Marks, ii a_Step, ii a_Turns], ii b]) (v := .tuple #[ii o.1, ii o.2]) rfl rfl (KC.bodyN E0_ok (F := Proofs.Try.f22) (by kernel_rfl) (code := f22_C22) (by kernel_rfl) (nt := 11) (by kernel_rfl) (rs := [.tmp 4, .tmp 5]) (by kernel_rfl) (by kernel_rfl) (σ := [(0, .agg #[ii a_Marks, ii a_Step, ii a_Turns]), (1, ii b)]) (by kernel_rfl) ?_) w (anyInv_size hI) hI
 unfold f22 at h
 refine XQ.seq E0_ok (by kernel_rfl) ?_
 refine XQ.region (by kernel_rfl) ?_
 refine XR.runT E0_ok 1 3 [(1, ii b), (2, pp 0 0)] [(0, .cells [ii a_Marks, ii a_Step, ii a_Turns] 0 23 0)] 1 rfl (by kernel_rfl) ?_
 refine XR.done (by kernel_rfl) ?_
 show XQ _ _ _ _ _ _ _ _
 refine XQ.seq E0_ok (by kernel_rfl) ?_
 refine XQ.region (by kernel_rfl) ?_
 refine XR.runS E0_ok 1 2 [(6, .agg #[ii a_Marks, ii a_Step, ii a_Turns]), (7, ii b)] rfl (by kernel_rfl) ?_
 refine XR.callK E0_ok [8] rfl (K := 68) (args := [.agg #[ii a_Marks, ii a_Step, ii a_Turns], ii b, .func (.func 69) #[] #[]]) (d := (some (path 12 8))) (by kernel_rfl) ?_
 refine KC.bodyN E0_ok (F := Proofs.Try.f68) (by kernel_rfl) (code := f22_C68) (by kernel_rfl) (nt := 32) (by kernel_rfl) (rs := [.tmp 6, .tmp 7]) (by kernel_rfl) (by kernel_rfl) (σ := [(0, .agg #[ii a_Marks, ii a_Step, ii a_Turns]), (1, ii b), (2, .func (.func 69) #[] #[])]) (by kernel_rfl) ?_
 refine XQ.seq E0_ok (by kernel_rfl) ?_
 refine XQ.region (by kernel_rfl) ?_
 refine XR.runT E0_ok 1 3 [(1, ii b), (2, .func (.func 69) #[] #[]), (3, pp 1 0)] [(1, .cells [ii a_Marks, ii a_Step, ii a_Turns] 0 23 0), (0, .cells [ii a_Marks, ii a_Step, ii a_Turns] 0 23 0)] 2 rfl (by kernel_rfl) ?_
 refine XR.done (by kernel_rfl) ?_
 show XQ _ _ _ _ _ _ _ _
 refine XQ.seq E0_ok (by kernel_rfl) ?_
 refine XQ.region (by kernel_rfl) ?_
 refine XR.runS E0_ok 1 1 [(1, ii b), (2, .func (.func 69) #[] #[]), (3, pp 1 0), (11, .agg #[ii a_Marks, ii a_Step, ii a_Turns])] rfl (by kernel_rfl) ?_
 refine XR.callK E0_ok [1, 2, 3, 12] rfl (K := 72) (args := [.agg #[ii a_Marks, ii a_Step, ii a_Turns]]) (d := (some (path 12 12))) (by kernel_rfl) ?_
 refine KC.bodyN E0_ok (F := Proofs.Try.f72) (by kernel_rfl) (code := f22_C72) (by kernel_rfl) (nt := 29) (by kernel_rfl) (rs := [.tmp 2, .tmp 3]) (by kernel_rfl) (by kernel_rfl) (σ := [(0, .agg #[ii a_Marks, ii a_Step, ii a_Turns])]) (by kernel_rfl) ?_
 refine XQ.seq E0_ok (by kernel_rfl) ?_
 refine XQ.region (by kernel_rfl) ?_
 refine XR.runT E0_ok 1 3 [(1, pp 2 0)] [(2, .cells [ii a_Marks, ii a_Step, ii a_Turns] 0 23 0), (1, .cells [ii a_Marks, ii a_Step, ii a_Turns] 0 23 0), (0, .cells [ii a_Marks, ii a_Step, ii a_Turns] 0 23 0)] 3 rfl (by kernel_rfl) ?_
 refine XR.done (by kernel_rfl) ?_
 show XQ _ _ _ _ _ _ _ _
 refine XQ.seq E0_ok (by kernel_rfl) ?_
 refine XQ.seq E0_ok (by kernel_rfl) ?_
 refine XQ.region (by kernel_rfl) ?_
 refine XR.runS E0_ok 1 1 [(1, pp 2 0), (6, .agg #[ii a_Marks, ii a_Step, ii a_Turns])] rfl (by kernel_rfl) ?_
 obtain ⟨r1, r1_h, h⟩ := bS h
 refine XR.call E0_ok [1, 7] rfl (K := 20) (args := [.agg #[ii a_Marks, ii a_Step, ii a_Turns]]) (d := (some (path 12 7))) (by kernel_rfl) (KC.of_calls E0_ok (F := Proofs.Try.f20) (v := ii r1) (by kernel_rfl) rfl rfl (fun w hI => f20_ok m a_Marks a_Step a_Turns r1 r1_h w hI)) ?_
 rintro _ _ _ ⟨rfl, rfl, rfl⟩
 refine XR.conv (σ' := [(1, pp 2 0), (7, ii r1)]) (h' := [(2, .cells [ii a_Marks, ii a_Step, ii a_Turns] 0 23 0), (1, .cells [ii a_Marks, ii a_Step, ii a_Turns] 0 23 0), (0, .cells [ii a_Marks, ii a_Step, ii a_Turns] 0 23 0)]) (c' := 3) ?_ (by kernel_rfl)
 refine XR.runS E0_ok 1 1 [(1, pp 2 0), (4, ii r1)] rfl (by kernel_rfl) ?_
 refine XR.done (by kernel_rfl) ?_
 show XQ _ _ _ _ _ _ _ _
 refine XQ.seq E0_ok (by kernel_rfl) ?_
 refine XQ.region (by kernel_rfl) ?_
 refine XR.runS E0_ok 1 2 [(1, pp 2 0), (4, ii r1), (9, .bool (r1 != 0))] rfl (by kernel_rfl) ?_
 refine XR.done (by kernel_rfl) ?_
 show XQ _ _ _ _ _ _ _ _
 cases b1 : (r1 != 0 : Bool) with
 | true =>
  have h := cT b1 h
  refine XQ.cond (s := (.tmp 9)) (b := true) (by kernel_rfl) (by kernel_rfl) (fun _ => ?_) (fun q => by cases q)
  refine XQ.seq E0_ok (by kernel_rfl) ?_
  refine XQ.region (by kernel_rfl) ?_
  refine XR.runS E0_ok 1 3 [(2, .pointer none), (3, ii r1)] rfl (by kernel_rfl) ?_
  refine XR.done (by kernel_rfl) ?_
  show XQ _ _ _ _ _ _ _ _
  refine XQ.ret (by kernel_rfl) ?_
  refine ⟨fun i q => (by cases q), .tuple #[.pointer none, ii r1], (by kernel_rfl), ?_⟩
  refine XR.conv (σ' := [(1, ii b), (2, .func (.func 69) #[] #[]), (3, pp 1 0), (12, .tuple #[.pointer none, ii r1])]) (h' := [(2, .cells [ii a_Marks, ii a_Step, ii a_Turns] 0 23 0), (1, .cells [ii a_Marks, ii a_Step, ii a_Turns] 0 23 0), (0, .cells [ii a_Marks, ii a_Step, ii a_Turns] 0 23 0)]) (c' := 3) ?_ (by kernel_rfl)
  refine XR.runS E0_ok 1 5 [(1, ii b), (2, .func (.func 69) #[] #[]), (3, pp 1 0), (8, .pointer none), (9, ii r1)] rfl (by kernel_rfl) ?_
  refine XR.done (by kernel_rfl) ?_
  show XQ _ _ _ _ _ _ _ _
  refine XQ.seq E0_ok (by kernel_rfl) ?_
  refine XQ.block (id := 0) (by kernel_rfl) ?_
  refine XQ.seq E0_ok (by kernel_rfl) ?_
  refine XQ.region (by kernel_rfl) ?_
  refine XR.runS E0_ok 1 3 [(1, ii b), (2, .func (.func 69) #[] #[]), (3, pp 1 0), (8, .pointer none), (9, ii r1), (15, .bool (r1 != 0))] rfl (by kernel_rfl) ?_
  refine XR.done (by kernel_rfl) ?_
  show XQ _ _ _ _ _ _ _ _
  rw [b1]
  refine XQ.cond (s := (.tmp 15)) (b := true) (by kernel_rfl) (by kernel_rfl) (fun _ => ?_) (fun q => by cases q)
  refine XQ.seq E0_ok (by kernel_rfl) ?_
  refine XQ.region (by kernel_rfl) ?_
  refine XR.runS E0_ok 1 3 [(6, ii 0), (7, ii r1)] rfl (by kernel_rfl) ?_
  refine XR.done (by kernel_rfl) ?_
  show XQ _ _ _ _ _ _ _ _
  refine XQ.ret (by kernel_rfl) ?_
  refine ⟨fun i q => (by cases q), .tuple #[ii 0, ii r1], (by kernel_rfl), ?_⟩
  refine XR.conv (σ' := [(8, .tuple #[ii 0, ii r1])]) (h' := [(2, .cells [ii a_Marks, ii a_Step, ii a_Turns] 0 23 0), (1, .cells [ii a_Marks, ii a_Step, ii a_Turns] 0 23 0), (0, .cells [ii a_Marks, ii a_Step, ii a_Turns] 0 23 0)]) (c' := 3) ?_ (by kernel_rfl)
  refine XR.runS E0_ok 1 4 [(4, ii 0), (5, ii r1)] rfl (by kernel_rfl) ?_
  refine XR.done (by kernel_rfl) ?_
  show XQ _ _ _ _ _ _ _ _
  refine XQ.ret (by kernel_rfl) ?_
  have h := Option.some.inj h
  subst h
  exact ⟨fun i q => (by cases q), .tuple #[ii 0, ii r1], (by kernel_rfl), rfl⟩
 | false =>
  have h := cF b1 h
  refine XQ.cond (s := (.tmp 9)) (b := false) (by kernel_rfl) (by kernel_rfl) (fun q => by cases q) (fun _ => ?_)
  refine XQ.skip (by kernel_rfl) ?_
  show XQ _ _ _ _ _ _ _ _
  refine XQ.seq E0_ok (by kernel_rfl) ?_
  refine XQ.region (by kernel_rfl) ?_
  refine XR.runT E0_ok 1 8 [(1, pp 2 0), (5, pp 3 0)] [(3, .cells [ii a_Marks, ii a_Step, ii 1, ii 0, ii 0] 0 88 0), (2, .cells [ii a_Marks, ii a_Step, ii a_Turns] 0 23 0), (1, .cells [ii a_Marks, ii a_Step, ii a_Turns] 0 23 0), (0, .cells [ii a_Marks, ii a_Step, ii a_Turns] 0 23 0)] 4 rfl (by kernel_rfl) ?_
  refine XR.done (by kernel_rfl) ?_
  show XQ _ _ _ _ _ _ _ _
  refine XQ.seq E0_ok (by kernel_rfl) ?_
  refine XQ.block (id := 0) (by kernel_rfl) ?_
  refine XQ.loop m (by kernel_rfl) ?_
  obtain ⟨o1, o1_h, h⟩ := bS h
  refine XL.ren (σ' := [(1, pp 2 0), (5, pp 3 0)]) (h' := [(3, .cells [ii a_Marks, ii a_Step, ii 1, ii 0, ii 0] 0 88 0), (2, .cells [ii a_Marks, ii a_Step, ii a_Turns] 0 23 0), (1, .cells [ii a_Marks, ii a_Step, ii a_Turns] 0 23 0), (0, .cells [ii a_Marks, ii a_Step, ii a_Turns] 0 23 0)]) (c' := 4) [0, 1, 2, 3] (by decide) rfl ⟨by kernel_rfl, by kernel_rfl, trivial⟩ ⟨⟨_, _, rfl, rfl, .inr ⟨_, _, _, _, rfl, rfl⟩⟩, ⟨_, _, rfl, rfl, .inr ⟨_, _, _, _, rfl, rfl⟩⟩, ⟨_, _, rfl, rfl, .inr ⟨_, _, _, _, rfl, rfl⟩⟩, ⟨_, _, rfl, rfl, .inr ⟨_, _, _, _, rfl, rfl⟩⟩, trivial⟩ rfl ?_
  refine XL.conv (f22_1_ok m m a_Marks a_Step a_Turns 1 0 0 o1 o1_h _ ?_) (by first | rfl | simp)
  show XQ _ _ _ _ _ _ _ _
  refine XQ.seq E0_ok (by kernel_rfl) ?_
  refine XQ.region (by kernel_rfl) ?_
  refine XR.runS E0_ok 1 3 [(2, pp 2 0), (3, ii 0)] rfl (by kernel_rfl) ?_
  refine XR.done (by kernel_rfl) ?_
  show XQ _ _ _ _ _ _ _ _
  refine XQ.ret (by kernel_rfl) ?_
  refine ⟨fun i q => (by cases q), .tuple #[pp 2 0, ii 0], (by kernel_rfl), ?_⟩
  refine XR.conv (σ' := [(1, ii b), (2, .func (.func 69) #[] #[]), (3, pp 1 0), (12, .tuple #[pp 2 0, ii 0])]) (h' := [(2, .cells [ii a_Marks, ii a_Step, ii o1.1, ii o1.2.1, ii o1.2.2] 0 88 0), (1, .cells [ii a_Marks, ii a_Step, ii a_Turns] 0 23 0), (0, .cells [ii a_Marks, ii a_Step, ii a_Turns] 0 23 0)]) (c' := 3) ?_ (by kernel_rfl)
  refine XR.runS E0_ok 1 5 [(1, ii b), (2, .func (.func 69) #[] #[]), (3, pp 1 0), (8, pp 2 0), (9, ii 0)] rfl (by kernel_rfl) ?_
  refine XR.done (by kernel_rfl) ?_
  show XQ _ _ _ _ _ _ _ _
  refine XQ.seq E0_ok (by kernel_rfl) ?_
  refine XQ.block (id := 0) (by kernel_rfl) ?_
  refine XQ.seq E0_ok (by kernel_rfl) ?_
  refine XQ.region (by kernel_rfl) ?_
  refine XR.runS E0_ok 1 3 [(1, ii b), (2, .func (.func 69) #[] #[]), (3, pp 1 0), (8, pp 2 0), (9, ii 0), (15, .bool false)] rfl (by kernel_rfl) ?_
  refine XR.done (by kernel_rfl) ?_
  show XQ _ _ _ _ _ _ _ _
  refine XQ.cond (s := (.tmp 15)) (b := false) (by kernel_rfl) (by kernel_rfl) (fun q => by cases q) (fun _ => ?_)
  refine XQ.seq E0_ok (by kernel_rfl) ?_
  refine XQ.region (by kernel_rfl) ?_
  refine XR.runS E0_ok 1 3 [(1, ii b), (2, .func (.func 69) #[] #[]), (3, pp 1 0), (8, pp 2 0), (22, .bool (decide (b < 0)))] rfl (by kernel_rfl) ?_
  cases b3 : (decide (b < 0) : Bool) with
  | true =>
   have h := cT b3 h
   refine XR.runS E0_ok 1 6 [(1, ii b), (2, .func (.func 69) #[] #[]), (8, pp 2 0), (19, .bool true)] rfl (by kernel_rfl) ?_
   refine XR.done (by kernel_rfl) ?_
   show XQ _ _ _ _ _ _ _ _
   refine XQ.cond (s := (.tmp 19)) (b := true) (by kernel_rfl) (by kernel_rfl) (fun _ => ?_) (fun q => by cases q)
   refine XQ.seq E0_ok (by kernel_rfl) ?_
   refine XQ.region (by kernel_rfl) ?_
   refine XR.runS E0_ok 1 2 [(6, ii 0), (7, ii 2)] rfl (by kernel_rfl) ?_
   refine XR.done (by kernel_rfl) ?_
   show XQ _ _ _ _ _ _ _ _
   refine XQ.ret (by kernel_rfl) ?_
   refine ⟨fun i q => (by cases q), .tuple #[ii 0, ii 2], (by kernel_rfl), ?_⟩
   refine XR.conv (σ' := [(8, .tuple #[ii 0, ii 2])]) (h' := [(2, .cells [ii a_Marks, ii a_Step, ii o1.1, ii o1.2.1, ii o1.2.2] 0 88 0), (1, .cells [ii a_Marks, ii a_Step, ii a_Turns] 0 23 0), (0, .cells [ii a_Marks, ii a_Step, ii a_Turns] 0 23 0)]) (c' := 3) ?_ (by kernel_rfl)
   refine XR.runS E0_ok 1 4 [(4, ii 0), (5, ii 2)] rfl (by kernel_rfl) ?_
   refine XR.done (by kernel_rfl) ?_
   show XQ _ _ _ _ _ _ _ _
   refine XQ.ret (by kernel_rfl) ?_
   have h := Option.some.inj h
   subst h
   exact ⟨fun i q => (by cases q), .tuple #[ii 0, ii 2], (by kernel_rfl), rfl⟩
  | false =>
   have h := cF b3 h
   refine XR.runS E0_ok 1 6 [(1, ii b), (2, .func (.func 69) #[] #[]), (8, pp 2 0), (19, .bool (decide (b ≥ a_Turns)))] rfl (by kernel_rfl) ?_
   refine XR.done (by kernel_rfl) ?_
   show XQ _ _ _ _ _ _ _ _
   cases b4 : (decide (b ≥ a_Turns) : Bool) with
   | true =>
    have h := cT b4 h
    refine XQ.cond (s := (.tmp 19)) (b := true) (by kernel_rfl) (by kernel_rfl) (fun _ => ?_) (fun q => by cases q)
    refine XQ.seq E0_ok (by kernel_rfl) ?_
    refine XQ.region (by kernel_rfl) ?_
    refine XR.runS E0_ok 1 2 [(6, ii 0), (7, ii 2)] rfl (by kernel_rfl) ?_
    refine XR.done (by kernel_rfl) ?_
    show XQ _ _ _ _ _ _ _ _
    refine XQ.ret (by kernel_rfl) ?_
    refine ⟨fun i q => (by cases q), .tuple #[ii 0, ii 2], (by kernel_rfl), ?_⟩
    refine XR.conv (σ' := [(8, .tuple #[ii 0, ii 2])]) (h' := [(2, .cells [ii a_Marks, ii a_Step, ii o1.1, ii o1.2.1, ii o1.2.2] 0 88 0), (1, .cells [ii a_Marks, ii a_Step, ii a_Turns] 0 23 0), (0, .cells [ii a_Marks, ii a_Step, ii a_Turns] 0 23 0)]) (c' := 3) ?_ (by kernel_rfl)
    refine XR.runS E0_ok 1 4 [(4, ii 0), (5, ii 2)] rfl (by kernel_rfl) ?_
    refine XR.done (by kernel_rfl) ?_
    show XQ _ _ _ _ _ _ _ _
    refine XQ.ret (by kernel_rfl) ?_
    have h := Option.some.inj h
    subst h
    exact ⟨fun i q => (by cases q), .tuple #[ii 0, ii 2], (by kernel_rfl), rfl⟩
   | false =>
    have h := cF b4 h
    refine XQ.cond (s := (.tmp 19)) (b := false) (by kernel_rfl) (by kernel_rfl) (fun q => by cases q) (fun _ => ?_)
    refine XQ.skip (by kernel_rfl) ?_
    show XQ _ _ _ _ _ _ _ _
    refine XQ.seq E0_ok (by kernel_rfl) ?_
    refine XQ.region (by kernel_rfl) ?_
    refine XR.runS E0_ok 1 3 [(28, .func (.func 69) #[] #[]), (29, pp 2 0), (30, ii b)] rfl (by kernel_rfl) ?_
    obtain ⟨r10, r10_h, h⟩ := bS h
    refine XR.call E0_ok [31] rfl (K := 69) (args := [pp 2 0, ii b]) (d := (some (path 12 31))) (by kernel_rfl) (KQ.call (KC.quiet E0_ok (args0 := [pp 0 0, ii b]) (h0 := [(0, .cells [ii a_Marks, ii a_Step, ii o1.1, ii o1.2.1, ii o1.2.2] (0 + (5 + 1)) 88 0)]) (n := 1) (V := ii r10) [2] (f69_ok m (0 + (5 + 1)) a_Marks a_Step o1.1 o1.2.1 o1.2.2 b r10 r10_h) rfl (by rfl) (by decide) rfl (by kernel_rfl) ⟨⟨_, _, rfl, rfl, .inr ⟨_, _, _, _, rfl, rfl⟩⟩, trivial⟩) rfl) ?_
    rintro _ _ _ ⟨rfl, rfl, rfl⟩
    refine XR.conv (σ' := [(31, ii r10)]) (h' := [(2, .cells [ii a_Marks, ii a_Step, ii o1.1, ii o1.2.1, ii o1.2.2] 0 88 0), (1, .cells [ii a_Marks, ii a_Step, ii a_Turns] 0 23 0), (0, .cells [ii a_Marks, ii a_Step, ii a_Turns] 0 23 0)]) (c' := 3) ?_ (by kernel_rfl)
    refine XR.runS E0_ok 1 2 [(6, ii r10), (7, ii 0)] rfl (by kernel_rfl) ?_
    refine XR.done (by kernel_rfl) ?_
    show XQ _ _ _ _ _ _ _ _
    refine XQ.ret (by kernel_rfl) ?_
    refine ⟨fun i q => (by cases q), .tuple #[ii r10, ii 0], (by kernel_rfl), ?_⟩
    refine XR.conv (σ' := [(8, .tuple #[ii r10, ii 0])]) (h' := [(2, .cells [ii a_Marks, ii a_Step, ii o1.1, ii o1.2.1, ii o1.2.2] 0 88 0), (1, .cells [ii a_Marks, ii a_Step, ii a_Turns] 0 23 0), (0, .cells [ii a_Marks, ii a_Step, ii a_Turns] 0 23 0)]) (c' := 3) ?_ (by kernel_rfl)
    refine XR.runS E0_ok 1 4 [(4, ii r10), (5, ii 0)] rfl (by kernel_rfl) ?_
    refine XR.done (by kernel_rfl) ?_
    show XQ _ _ _ _ _ _ _ _
    refine XQ.ret (by kernel_rfl) ?_
    have h := Option.some.inj h
    subst h
    exact ⟨fun i q => (by cases q), .tuple #[ii r10, ii 0], (by kernel_rfl), rfl⟩

/-! vitola/wrap.Divides -/
end Go.Xm
