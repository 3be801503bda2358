/- What these functions of the program compute, as functions in Lean, and the proofs that they do: wrap.Before, vitolalaw05.WrapMany. Conditions: none. -/
import Derived.Test.YtagagpkjlkoieaaQa
import Derived.Test.YtagagpkjlkoieaaQd
import Derived.Test.YtagagpkjlkoieaaNb
namespace Go.Xm
open Go.RowKit
set_option linter.unusedVariables false
set_option linter.unusedSimpArgs false
set_option maxRecDepth 20000

/-! vitola/wrap.Before -/
noncomputable def f24_C24 : Code := Proofs.Try.f24.body.getD .skip
noncomputable def f24_C68 : Code := Proofs.Try.f68.body.getD .skip
noncomputable def f24_C72 : Code := Proofs.Try.f72.body.getD .skip
noncomputable def f24_C73 : Code := Proofs.Try.f73.body.getD .skip
noncomputable def f24_L1 : Code := lft (lft (lft (rgt (rgt (rgt f24_C72)))))

def f24_1 (m : Nat) : Nat → Int → Int → Int → Int → Int → Int → Option (Int × Int × Int)
 | 0, _, _, _, _, _, _ => none
 | fuel + 1, a_Marks, a_Step, a_Turns, xh3_2_1, xh3_3_1, xh3_4_1 =>
  cond (decide (xh3_2_1 < a_Turns)) (
   cond (xh3_2_1 == 1) (
    f24_1 m fuel a_Marks a_Step a_Turns (w64 (xh3_2_1 + 1)) 1 1
   ) (
    (f59 m a_Marks a_Step (w64 (xh3_2_1 + 1)) xh3_2_1).bind fun r6 =>
     (f59 m a_Marks a_Step (w64 (xh3_2_1 + 1)) xh3_3_1).bind fun r7 =>
      cond (decide (r6 < r7)) (
       f24_1 m fuel a_Marks a_Step a_Turns (w64 (xh3_2_1 + 1)) xh3_2_1 xh3_4_1
      ) (
       (f59 m a_Marks a_Step (w64 (xh3_2_1 + 1)) xh3_4_1).bind fun r9 =>
        f24_1 m fuel a_Marks a_Step a_Turns (w64 (xh3_2_1 + 1)) xh3_3_1 (cond (decide (r6 > r9)) xh3_2_1 xh3_4_1)
      )
   )
  ) (
   some (xh3_2_1, xh3_3_1, xh3_4_1)
  )

theorem f24_1_ok (m : Nat) : ∀ (fuel : Nat) (a_Marks : Int) (a_Step : Int) (a_Turns : Int) (xh3_2_1 : Int) (xh3_3_1 : Int) (xh3_4_1 : Int) (o : (Int × Int × Int)), f24_1 m fuel a_Marks a_Step a_Turns xh3_2_1 xh3_3_1 xh3_4_1 = some o → ∀ Q : QP, Q (.exit 0) [(5, pp 2 0)] [(2, .cells [ii a_Marks, ii a_Step, ii o.1, ii o.2.1, ii o.2.2] 0 88 0), (1, .cells [ii a_Marks, ii a_Step, ii a_Turns] 0 23 0), (0, .cells [ii a_Marks, ii a_Step, ii a_Turns] 0 23 0)] 3 → XL E0 29 2 fuel f24_L1 [(1, pp 2 0), (5, pp 3 0)] [(3, .cells [ii a_Marks, ii a_Step, ii xh3_2_1, ii xh3_3_1, ii xh3_4_1] 0 88 0), (2, .cells [ii a_Marks, ii a_Step, ii a_Turns] 0 23 0), (1, .cells [ii a_Marks, ii a_Step, ii a_Turns] 0 23 0), (0, .cells [ii a_Marks, ii a_Step, ii a_Turns] 0 23 0)] 4 Q
 | 0, a_Marks, a_Step, a_Turns, xh3_2_1, xh3_3_1, xh3_4_1, o, h, Q, hQ => by cases h
 | fuel + 1, a_Marks, a_Step, a_Turns, xh3_2_1, xh3_3_1, xh3_4_1, o, h, Q, hQ => by
  unfold f24_1 at h
  refine XL.succ E0_ok ?_
  refine XQ.seq E0_ok (by kernel_rfl) ?_
  refine XQ.seq E0_ok (by kernel_rfl) ?_
  refine XQ.quiet E0_ok (by kernel_rfl) (by kernel_rfl) ?_
  refine XU.run E0_ok 1 8 [1, 5, 25] rfl (σ' := [(1, pp 2 0), (5, pp 3 0), (25, .bool (decide (xh3_2_1 < a_Turns)))]) (by kernel_rfl) ?_
  refine XU.done (by kernel_rfl) ?_
  show XQ _ _ _ _ _ _ _ _
  cases b1 : (decide (xh3_2_1 < a_Turns) : Bool) with
  | true =>
   have h := cT b1 h
   refine XQ.cond (s := (.tmp 25)) (b := true) (by kernel_rfl) (by kernel_rfl) (fun _ => ?_) (fun q => by cases q)
   refine XQ.skip (by kernel_rfl) ?_
   show XQ _ _ _ _ _ _ _ _
   refine XQ.block (id := 1) (by kernel_rfl) ?_
   refine XQ.region (by kernel_rfl) ?_
   refine XR.runS E0_ok 1 1 [(1, pp 2 0), (5, pp 3 0), (26, pp 3 0)] rfl (by kernel_rfl) ?_
   refine XR.callK E0_ok [1, 5] rfl (K := 73) (args := [pp 3 0]) (d := (some (path 12 27))) (by kernel_rfl) ?_
   refine KC.bodyN E0_ok (F := Proofs.Try.f73) (by kernel_rfl) (code := f24_C73) (by kernel_rfl) (nt := 66) (by kernel_rfl) (rs := []) (by kernel_rfl) (by kernel_rfl) (σ := [(0, pp 3 0)]) (by kernel_rfl) ?_
   refine XQ.seq E0_ok (by kernel_rfl) ?_
   refine XQ.region (by kernel_rfl) ?_
   refine XR.runS E0_ok 1 6 [(0, pp 3 0), (2, ii xh3_2_1)] rfl (by kernel_rfl) ?_
   refine XR.done (by kernel_rfl) ?_
   show XQ _ _ _ _ _ _ _ _
   refine XQ.seq E0_ok (by kernel_rfl) ?_
   refine XQ.region (by kernel_rfl) ?_
   refine XR.runT E0_ok 1 10 [(0, pp 3 0), (2, ii xh3_2_1)] [(3, .cells [ii a_Marks, ii a_Step, ii (w64 (xh3_2_1 + 1)), ii xh3_3_1, ii xh3_4_1] 0 88 0), (2, .cells [ii a_Marks, ii a_Step, ii a_Turns] 0 23 0), (1, .cells [ii a_Marks, ii a_Step, ii a_Turns] 0 23 0), (0, .cells [ii a_Marks, ii a_Step, ii a_Turns] 0 23 0)] 4 rfl (by kernel_rfl) ?_
   refine XR.done (by kernel_rfl) ?_
   show XQ _ _ _ _ _ _ _ _
   refine XQ.seq E0_ok (by kernel_rfl) ?_
   refine XQ.seq E0_ok (by kernel_rfl) ?_
   refine XQ.region (by kernel_rfl) ?_
   refine XR.runS E0_ok 1 2 [(0, pp 3 0), (2, ii xh3_2_1), (19, .bool (xh3_2_1 == 1))] rfl (by kernel_rfl) ?_
   refine XR.done (by kernel_rfl) ?_
   show XQ _ _ _ _ _ _ _ _
   cases b2 : (xh3_2_1 == 1 : Bool) with
   | true =>
    have h := cT b2 h
    refine XQ.cond (s := (.tmp 19)) (b := true) (by kernel_rfl) (by kernel_rfl) (fun _ => ?_) (fun q => by cases q)
    refine XQ.seq E0_ok (by kernel_rfl) ?_
    refine XQ.region (by kernel_rfl) ?_
    refine XR.runT E0_ok 1 5 [] [(3, .cells [ii a_Marks, ii a_Step, ii (w64 (xh3_2_1 + 1)), ii 1, ii 1] 0 88 0), (2, .cells [ii a_Marks, ii a_Step, ii a_Turns] 0 23 0), (1, .cells [ii a_Marks, ii a_Step, ii a_Turns] 0 23 0), (0, .cells [ii a_Marks, ii a_Step, ii a_Turns] 0 23 0)] 4 rfl (by kernel_rfl) ?_
    refine XR.done (by kernel_rfl) ?_
    show XQ _ _ _ _ _ _ _ _
    refine XQ.ret (by kernel_rfl) ?_
    refine ⟨fun i q => (by cases q), .tuple #[], (by kernel_rfl), ?_⟩
    refine XR.conv (σ' := [(1, pp 2 0), (5, pp 3 0)]) (h' := [(3, .cells [ii a_Marks, ii a_Step, ii (w64 (xh3_2_1 + 1)), ii 1, ii 1] 0 88 0), (2, .cells [ii a_Marks, ii a_Step, ii a_Turns] 0 23 0), (1, .cells [ii a_Marks, ii a_Step, ii a_Turns] 0 23 0), (0, .cells [ii a_Marks, ii a_Step, ii a_Turns] 0 23 0)]) (c' := 4) ?_ (by kernel_rfl)
    refine XR.done (by kernel_rfl) ?_
    show XL _ _ _ _ _ _ _ _ _
    refine XL.ren (σ' := [(1, pp 2 0), (5, pp 3 0)]) (h' := [(3, .cells [ii a_Marks, ii a_Step, ii (w64 (xh3_2_1 + 1)), ii 1, ii 1] 0 88 0), (2, .cells [ii a_Marks, ii a_Step, ii a_Turns] 0 23 0), (1, .cells [ii a_Marks, ii a_Step, ii a_Turns] 0 23 0), (0, .cells [ii a_Marks, ii a_Step, ii a_Turns] 0 23 0)]) (c' := 4) [0, 1, 2, 3] (by decide) rfl ⟨by kernel_rfl, by kernel_rfl, trivial⟩ ⟨⟨_, _, rfl, rfl, .inr ⟨_, _, _, _, rfl, rfl⟩⟩, ⟨_, _, rfl, rfl, .inr ⟨_, _, _, _, rfl, rfl⟩⟩, ⟨_, _, rfl, rfl, .inr ⟨_, _, _, _, rfl, rfl⟩⟩, ⟨_, _, rfl, rfl, .inr ⟨_, _, _, _, rfl, rfl⟩⟩, trivial⟩ rfl ?_
    refine XL.conv (f24_1_ok m fuel a_Marks a_Step a_Turns (w64 (xh3_2_1 + 1)) 1 1 o h Q hQ) (by first | rfl | simp)
   | false =>
    have h := cF b2 h
    refine XQ.cond (s := (.tmp 19)) (b := false) (by kernel_rfl) (by kernel_rfl) (fun q => by cases q) (fun _ => ?_)
    refine XQ.skip (by kernel_rfl) ?_
    show XQ _ _ _ _ _ _ _ _
    refine XQ.seq E0_ok (by kernel_rfl) ?_
    refine XQ.region (by kernel_rfl) ?_
    refine XR.runS E0_ok 1 5 [(0, pp 3 0), (2, ii xh3_2_1), (27, .agg #[ii a_Marks, ii a_Step, ii (w64 (xh3_2_1 + 1))]), (28, ii xh3_2_1)] rfl (by kernel_rfl) ?_
    obtain ⟨r6, r6_h, h⟩ := bS h
    refine XR.call E0_ok [0, 2, 29] rfl (K := 59) (args := [.agg #[ii a_Marks, ii a_Step, ii (w64 (xh3_2_1 + 1))], ii xh3_2_1]) (d := (some (path 12 29))) (by kernel_rfl) (KC.of_calls E0_ok (F := Proofs.Try.f59) (v := ii r6) (by kernel_rfl) rfl rfl (fun w hI => f59_ok m a_Marks a_Step (w64 (xh3_2_1 + 1)) xh3_2_1 r6 r6_h w hI)) ?_
    rintro _ _ _ ⟨rfl, rfl, rfl⟩
    refine XR.conv (σ' := [(0, pp 3 0), (2, ii xh3_2_1), (29, ii r6)]) (h' := [(3, .cells [ii a_Marks, ii a_Step, ii (w64 (xh3_2_1 + 1)), ii xh3_3_1, ii xh3_4_1] 0 88 0), (2, .cells [ii a_Marks, ii a_Step, ii a_Turns] 0 23 0), (1, .cells [ii a_Marks, ii a_Step, ii a_Turns] 0 23 0), (0, .cells [ii a_Marks, ii a_Step, ii a_Turns] 0 23 0)]) (c' := 4) ?_ (by kernel_rfl)
    refine XR.runS E0_ok 1 1 [(0, pp 3 0), (2, ii xh3_2_1), (3, ii r6)] rfl (by kernel_rfl) ?_
    refine XR.done (by kernel_rfl) ?_
    show XQ _ _ _ _ _ _ _ _
    refine XQ.block (id := 0) (by kernel_rfl) ?_
    refine XQ.seq E0_ok (by kernel_rfl) ?_
    refine XQ.quiet E0_ok (by kernel_rfl) (by kernel_rfl) ?_
    refine XU.run E0_ok 1 10 [0, 2, 3, 31, 35, 40] rfl (σ' := [(0, pp 3 0), (2, ii xh3_2_1), (3, ii r6), (31, ii r6), (35, .agg #[ii a_Marks, ii a_Step, ii (w64 (xh3_2_1 + 1))]), (40, ii xh3_3_1)]) (by kernel_rfl) ?_
    obtain ⟨r7, r7_h, h⟩ := bS h
    refine XU.call E0_ok [0, 2, 3, 31, 41] rfl (K := 59) (F := Proofs.Try.f59) (args := [.agg #[ii a_Marks, ii a_Step, ii (w64 (xh3_2_1 + 1))], ii xh3_3_1]) (d := (some (path 12 41))) (v := ii r7) (by kernel_rfl) (by kernel_rfl) rfl rfl (fun w hI => f59_ok m a_Marks a_Step (w64 (xh3_2_1 + 1)) xh3_3_1 r7 r7_h w hI) (σ' := [(0, pp 3 0), (2, ii xh3_2_1), (3, ii r6), (31, ii r6), (41, ii r7)]) (by kernel_rfl) ?_
    refine XU.run E0_ok 1 2 [0, 2, 3, 30] rfl (σ' := [(0, pp 3 0), (2, ii xh3_2_1), (3, ii r6), (30, .bool (decide (r6 < r7)))]) (by kernel_rfl) ?_
    refine XU.done (by kernel_rfl) ?_
    show XQ _ _ _ _ _ _ _ _
    cases b3 : (decide (r6 < r7) : Bool) with
    | true =>
     have h := cT b3 h
     refine XQ.cond (s := (.tmp 30)) (b := true) (by kernel_rfl) (by kernel_rfl) (fun _ => ?_) (fun q => by cases q)
     refine XQ.region (by kernel_rfl) ?_
     refine XR.runT E0_ok 1 6 [] [(3, .cells [ii a_Marks, ii a_Step, ii (w64 (xh3_2_1 + 1)), ii xh3_2_1, ii xh3_4_1] 0 88 0), (2, .cells [ii a_Marks, ii a_Step, ii a_Turns] 0 23 0), (1, .cells [ii a_Marks, ii a_Step, ii a_Turns] 0 23 0), (0, .cells [ii a_Marks, ii a_Step, ii a_Turns] 0 23 0)] 4 rfl (by kernel_rfl) ?_
     refine XR.done (by kernel_rfl) ?_
     refine ⟨fun i q => (by cases q), .tuple #[], (by kernel_rfl), ?_⟩
     refine XR.conv (σ' := [(1, pp 2 0), (5, pp 3 0)]) (h' := [(3, .cells [ii a_Marks, ii a_Step, ii (w64 (xh3_2_1 + 1)), ii xh3_2_1, ii xh3_4_1] 0 88 0), (2, .cells [ii a_Marks, ii a_Step, ii a_Turns] 0 23 0), (1, .cells [ii a_Marks, ii a_Step, ii a_Turns] 0 23 0), (0, .cells [ii a_Marks, ii a_Step, ii a_Turns] 0 23 0)]) (c' := 4) ?_ (by kernel_rfl)
     refine XR.done (by kernel_rfl) ?_
     show XL _ _ _ _ _ _ _ _ _
     refine XL.ren (σ' := [(1, pp 2 0), (5, pp 3 0)]) (h' := [(3, .cells [ii a_Marks, ii a_Step, ii (w64 (xh3_2_1 + 1)), ii xh3_2_1, ii xh3_4_1] 0 88 0), (2, .cells [ii a_Marks, ii a_Step, ii a_Turns] 0 23 0), (1, .cells [ii a_Marks, ii a_Step, ii a_Turns] 0 23 0), (0, .cells [ii a_Marks, ii a_Step, ii a_Turns] 0 23 0)]) (c' := 4) [0, 1, 2, 3] (by decide) rfl ⟨by kernel_rfl, by kernel_rfl, trivial⟩ ⟨⟨_, _, rfl, rfl, .inr ⟨_, _, _, _, rfl, rfl⟩⟩, ⟨_, _, rfl, rfl, .inr ⟨_, _, _, _, rfl, rfl⟩⟩, ⟨_, _, rfl, rfl, .inr ⟨_, _, _, _, rfl, rfl⟩⟩, ⟨_, _, rfl, rfl, .inr ⟨_, _, _, _, rfl, rfl⟩⟩, trivial⟩ rfl ?_
     refine XL.conv (f24_1_ok m fuel a_Marks a_Step a_Turns (w64 (xh3_2_1 + 1)) xh3_2_1 xh3_4_1 o h Q hQ) (by first | rfl | simp)
    | false =>
     have h := cF b3 h
     refine XQ.cond (s := (.tmp 30)) (b := false) (by kernel_rfl) (by kernel_rfl) (fun q => by cases q) (fun _ => ?_)
     refine XQ.seq E0_ok (by kernel_rfl) ?_
     refine XQ.quiet E0_ok (by kernel_rfl) (by kernel_rfl) ?_
     refine XU.run E0_ok 1 10 [0, 2, 49, 53, 58] rfl (σ' := [(0, pp 3 0), (2, ii xh3_2_1), (49, ii r6), (53, .agg #[ii a_Marks, ii a_Step, ii (w64 (xh3_2_1 + 1))]), (58, ii xh3_4_1)]) (by kernel_rfl) ?_
     obtain ⟨r9, r9_h, h⟩ := bS h
     refine XU.call E0_ok [0, 2, 49, 59] rfl (K := 59) (F := Proofs.Try.f59) (args := [.agg #[ii a_Marks, ii a_Step, ii (w64 (xh3_2_1 + 1))], ii xh3_4_1]) (d := (some (path 12 59))) (v := ii r9) (by kernel_rfl) (by kernel_rfl) rfl rfl (fun w hI => f59_ok m a_Marks a_Step (w64 (xh3_2_1 + 1)) xh3_4_1 r9 r9_h w hI) (σ' := [(0, pp 3 0), (2, ii xh3_2_1), (49, ii r6), (59, ii r9)]) (by kernel_rfl) ?_
     refine XU.run E0_ok 1 2 [0, 2, 48] rfl (σ' := [(0, pp 3 0), (2, ii xh3_2_1), (48, .bool (decide (r6 > r9)))]) (by kernel_rfl) ?_
     refine XU.done (by kernel_rfl) ?_
     show XQ _ _ _ _ _ _ _ _
     refine XQ.meetC (σ' := []) (h' := [(3, .cells [ii a_Marks, ii a_Step, ii (w64 (xh3_2_1 + 1)), ii xh3_3_1, ii (cond (decide (r6 > r9)) xh3_2_1 xh3_4_1)] 0 88 0), (2, .cells [ii a_Marks, ii a_Step, ii a_Turns] 0 23 0), (1, .cells [ii a_Marks, ii a_Step, ii a_Turns] 0 23 0), (0, .cells [ii a_Marks, ii a_Step, ii a_Turns] 0 23 0)]) (c' := 4) ?_ ?_
     rotate_left
     ·refine XQ.cond (s := (.tmp 48)) (b := decide (r6 > r9)) (by kernel_rfl) (by kernel_rfl) (fun b4 => ?_) (fun b4 => ?_)
      ·refine XQ.region (by kernel_rfl) ?_
       refine XR.runT E0_ok 1 6 [] [(3, .cells [ii a_Marks, ii a_Step, ii (w64 (xh3_2_1 + 1)), ii xh3_3_1, ii xh3_2_1] 0 88 0), (2, .cells [ii a_Marks, ii a_Step, ii a_Turns] 0 23 0), (1, .cells [ii a_Marks, ii a_Step, ii a_Turns] 0 23 0), (0, .cells [ii a_Marks, ii a_Step, ii a_Turns] 0 23 0)] 4 rfl (by kernel_rfl) ?_
       refine XR.done (by kernel_rfl) ?_
       refine ⟨rfl, ?_, ?_⟩
       ·try rw [b4]
        exact trivial
       ·try rw [b4]
        kernel_rfl
      ·refine XQ.skip (by kernel_rfl) ?_
       refine ⟨rfl, ?_, ?_⟩
       ·try rw [b4]
        exact trivial
       ·try rw [b4]
        kernel_rfl
     refine ⟨fun i q => (by cases q), .tuple #[], (by kernel_rfl), ?_⟩
     refine XR.conv (σ' := [(1, pp 2 0), (5, pp 3 0)]) (h' := [(3, .cells [ii a_Marks, ii a_Step, ii (w64 (xh3_2_1 + 1)), ii xh3_3_1, ii (cond (decide (r6 > r9)) xh3_2_1 xh3_4_1)] 0 88 0), (2, .cells [ii a_Marks, ii a_Step, ii a_Turns] 0 23 0), (1, .cells [ii a_Marks, ii a_Step, ii a_Turns] 0 23 0), (0, .cells [ii a_Marks, ii a_Step, ii a_Turns] 0 23 0)]) (c' := 4) ?_ (by kernel_rfl)
     refine XR.done (by kernel_rfl) ?_
     show XL _ _ _ _ _ _ _ _ _
     refine XL.ren (σ' := [(1, pp 2 0), (5, pp 3 0)]) (h' := [(3, .cells [ii a_Marks, ii a_Step, ii (w64 (xh3_2_1 + 1)), ii xh3_3_1, ii (cond (decide (r6 > r9)) xh3_2_1 xh3_4_1)] 0 88 0), (2, .cells [ii a_Marks, ii a_Step, ii a_Turns] 0 23 0), (1, .cells [ii a_Marks, ii a_Step, ii a_Turns] 0 23 0), (0, .cells [ii a_Marks, ii a_Step, ii a_Turns] 0 23 0)]) (c' := 4) [0, 1, 2, 3] (by decide) rfl ⟨by kernel_rfl, by kernel_rfl, trivial⟩ ⟨⟨_, _, rfl, rfl, .inr ⟨_, _, _, _, rfl, rfl⟩⟩, ⟨_, _, rfl, rfl, .inr ⟨_, _, _, _, rfl, rfl⟩⟩, ⟨_, _, rfl, rfl, .inr ⟨_, _, _, _, rfl, rfl⟩⟩, ⟨_, _, rfl, rfl, .inr ⟨_, _, _, _, rfl, rfl⟩⟩, trivial⟩ rfl ?_
     refine XL.conv (f24_1_ok m fuel a_Marks a_Step a_Turns (w64 (xh3_2_1 + 1)) xh3_3_1 (cond (decide (r6 > r9)) xh3_2_1 xh3_4_1) o h Q hQ) (by first | rfl | simp)
  | false =>
   have h := cF b1 h
   refine XQ.cond (s := (.tmp 25)) (b := false) (by kernel_rfl) (by kernel_rfl) (fun q => by cases q) (fun _ => ?_)
   refine XQ.ren (σ' := [(5, pp 2 0)]) (h' := [(2, .cells [ii a_Marks, ii a_Step, ii xh3_2_1, ii xh3_3_1, ii xh3_4_1] 0 88 0), (1, .cells [ii a_Marks, ii a_Step, ii a_Turns] 0 23 0), (0, .cells [ii a_Marks, ii a_Step, ii a_Turns] 0 23 0)]) (c' := 3) [0, 1, 3] (by decide) rfl ⟨by kernel_rfl, trivial⟩ ⟨⟨_, _, rfl, rfl, .inr ⟨_, _, _, _, rfl, rfl⟩⟩, ⟨_, _, rfl, rfl, .inr ⟨_, _, _, _, rfl, rfl⟩⟩, ⟨_, _, rfl, rfl, .inr ⟨_, _, _, _, rfl, rfl⟩⟩, trivial⟩ rfl ?_
   refine XQ.exit (i := 0) (by kernel_rfl) ?_
   cases h
   exact hQ

def f24 (m : Nat) (a_Marks : Int) (a_Step : Int) (a_Turns : Int) (b : Int) : Option (Int × Int) :=
 (f20 m a_Marks a_Step a_Turns).bind fun r1 =>
  cond (r1 != 0) (
   some (0, r1)
  ) (
   (f24_1 m m a_Marks a_Step a_Turns 1 0 0).bind fun o1 =>
    cond (decide (b < 0)) (
     some (0, 2)
    ) (
     cond (decide (b ≥ a_Turns)) (
      some (0, 2)
     ) (
      (f71 m a_Marks a_Step o1.1 o1.2.1 o1.2.2 b).bind fun r10 =>
       some (r10, 0)
     )
    )
  )

theorem f24_ok (m : Nat) (a_Marks : Int) (a_Step : Int) (a_Turns : Int) (b : Int) (o : Int × Int) (h : f24 m a_Marks a_Step a_Turns b = some o) (w : World) (hI : anyInv w) : Calls Proofs.Try.prog 24 #[.agg #[ii a_Marks, ii a_Step, ii a_Turns], ii b] w fun e w' => e = .returned (.tuple #[ii o.1, ii o.2]) ∧ Below w.heap.size w w' := by
 refine KC.calls (E := E0) (args := [.agg #[ii a_Marks, ii a_Step, ii a_Turns], ii b]) (v := .tuple #[ii o.1, ii o.2]) rfl rfl (KC.bodyN E0_ok (F := Proofs.Try.f24) (by kernel_rfl) (code := f24_C24) (by kernel_rfl) (nt := 11) (by kernel_rfl) (rs := [.tmp 4, .tmp 5]) (by kernel_rfl) (by kernel_rfl) (σ := [(0, .agg #[ii a_Marks, ii a_Step, ii a_Turns]), (1, ii b)]) (by kernel_rfl) ?_) w (anyInv_size hI) hI
 unfold f24 at h
 refine XQ.seq E0_ok (by kernel_rfl) ?_
 refine XQ.region (by kernel_rfl) ?_
 refine XR.runT E0_ok 1 3 [(1, ii b), (2, pp 0 0)] [(0, .cells [ii a_Marks, ii a_Step, ii a_Turns] 0 23 0)] 1 rfl (by kernel_rfl) ?_
 refine XR.done (by kernel_rfl) ?_
 show XQ _ _ _ _ _ _ _ _
 refine XQ.seq E0_ok (by kernel_rfl) ?_
 refine XQ.region (by kernel_rfl) ?_
 refine XR.runS E0_ok 1 2 [(6, .agg #[ii a_Marks, ii a_Step, ii a_Turns]), (7, ii b)] rfl (by kernel_rfl) ?_
 refine XR.callK E0_ok [8] rfl (K := 68) (args := [.agg #[ii a_Marks, ii a_Step, ii a_Turns], ii b, .func (.func 71) #[] #[]]) (d := (some (path 12 8))) (by kernel_rfl) ?_
 refine KC.bodyN E0_ok (F := Proofs.Try.f68) (by kernel_rfl) (code := f24_C68) (by kernel_rfl) (nt := 32) (by kernel_rfl) (rs := [.tmp 6, .tmp 7]) (by kernel_rfl) (by kernel_rfl) (σ := [(0, .agg #[ii a_Marks, ii a_Step, ii a_Turns]), (1, ii b), (2, .func (.func 71) #[] #[])]) (by kernel_rfl) ?_
 refine XQ.seq E0_ok (by kernel_rfl) ?_
 refine XQ.region (by kernel_rfl) ?_
 refine XR.runT E0_ok 1 3 [(1, ii b), (2, .func (.func 71) #[] #[]), (3, pp 1 0)] [(1, .cells [ii a_Marks, ii a_Step, ii a_Turns] 0 23 0), (0, .cells [ii a_Marks, ii a_Step, ii a_Turns] 0 23 0)] 2 rfl (by kernel_rfl) ?_
 refine XR.done (by kernel_rfl) ?_
 show XQ _ _ _ _ _ _ _ _
 refine XQ.seq E0_ok (by kernel_rfl) ?_
 refine XQ.region (by kernel_rfl) ?_
 refine XR.runS E0_ok 1 1 [(1, ii b), (2, .func (.func 71) #[] #[]), (3, pp 1 0), (11, .agg #[ii a_Marks, ii a_Step, ii a_Turns])] rfl (by kernel_rfl) ?_
 refine XR.callK E0_ok [1, 2, 3, 12] rfl (K := 72) (args := [.agg #[ii a_Marks, ii a_Step, ii a_Turns]]) (d := (some (path 12 12))) (by kernel_rfl) ?_
 refine KC.bodyN E0_ok (F := Proofs.Try.f72) (by kernel_rfl) (code := f24_C72) (by kernel_rfl) (nt := 29) (by kernel_rfl) (rs := [.tmp 2, .tmp 3]) (by kernel_rfl) (by kernel_rfl) (σ := [(0, .agg #[ii a_Marks, ii a_Step, ii a_Turns])]) (by kernel_rfl) ?_
 refine XQ.seq E0_ok (by kernel_rfl) ?_
 refine XQ.region (by kernel_rfl) ?_
 refine XR.runT E0_ok 1 3 [(1, pp 2 0)] [(2, .cells [ii a_Marks, ii a_Step, ii a_Turns] 0 23 0), (1, .cells [ii a_Marks, ii a_Step, ii a_Turns] 0 23 0), (0, .cells [ii a_Marks, ii a_Step, ii a_Turns] 0 23 0)] 3 rfl (by kernel_rfl) ?_
 refine XR.done (by kernel_rfl) ?_
 show XQ _ _ _ _ _ _ _ _
 refine XQ.seq E0_ok (by kernel_rfl) ?_
 refine XQ.seq E0_ok (by kernel_rfl) ?_
 refine XQ.region (by kernel_rfl) ?_
 refine XR.runS E0_ok 1 1 [(1, pp 2 0), (6, .agg #[ii a_Marks, ii a_Step, ii a_Turns])] rfl (by kernel_rfl) ?_
 obtain ⟨r1, r1_h, h⟩ := bS h
 refine XR.call E0_ok [1, 7] rfl (K := 20) (args := [.agg #[ii a_Marks, ii a_Step, ii a_Turns]]) (d := (some (path 12 7))) (by kernel_rfl) (KC.of_calls E0_ok (F := Proofs.Try.f20) (v := ii r1) (by kernel_rfl) rfl rfl (fun w hI => f20_ok m a_Marks a_Step a_Turns r1 r1_h w hI)) ?_
 rintro _ _ _ ⟨rfl, rfl, rfl⟩
 refine XR.conv (σ' := [(1, pp 2 0), (7, ii r1)]) (h' := [(2, .cells [ii a_Marks, ii a_Step, ii a_Turns] 0 23 0), (1, .cells [ii a_Marks, ii a_Step, ii a_Turns] 0 23 0), (0, .cells [ii a_Marks, ii a_Step, ii a_Turns] 0 23 0)]) (c' := 3) ?_ (by kernel_rfl)
 refine XR.runS E0_ok 1 1 [(1, pp 2 0), (4, ii r1)] rfl (by kernel_rfl) ?_
 refine XR.done (by kernel_rfl) ?_
 show XQ _ _ _ _ _ _ _ _
 refine XQ.seq E0_ok (by kernel_rfl) ?_
 refine XQ.region (by kernel_rfl) ?_
 refine XR.runS E0_ok 1 2 [(1, pp 2 0), (4, ii r1), (9, .bool (r1 != 0))] rfl (by kernel_rfl) ?_
 refine XR.done (by kernel_rfl) ?_
 show XQ _ _ _ _ _ _ _ _
 cases b1 : (r1 != 0 : Bool) with
 | true =>
  have h := cT b1 h
  refine XQ.cond (s := (.tmp 9)) (b := true) (by kernel_rfl) (by kernel_rfl) (fun _ => ?_) (fun q => by cases q)
  refine XQ.seq E0_ok (by kernel_rfl) ?_
  refine XQ.region (by kernel_rfl) ?_
  refine XR.runS E0_ok 1 3 [(2, .pointer none), (3, ii r1)] rfl (by kernel_rfl) ?_
  refine XR.done (by kernel_rfl) ?_
  show XQ _ _ _ _ _ _ _ _
  refine XQ.ret (by kernel_rfl) ?_
  refine ⟨fun i q => (by cases q), .tuple #[.pointer none, ii r1], (by kernel_rfl), ?_⟩
  refine XR.conv (σ' := [(1, ii b), (2, .func (.func 71) #[] #[]), (3, pp 1 0), (12, .tuple #[.pointer none, ii r1])]) (h' := [(2, .cells [ii a_Marks, ii a_Step, ii a_Turns] 0 23 0), (1, .cells [ii a_Marks, ii a_Step, ii a_Turns] 0 23 0), (0, .cells [ii a_Marks, ii a_Step, ii a_Turns] 0 23 0)]) (c' := 3) ?_ (by kernel_rfl)
  refine XR.runS E0_ok 1 5 [(1, ii b), (2, .func (.func 71) #[] #[]), (3, pp 1 0), (8, .pointer none), (9, ii r1)] rfl (by kernel_rfl) ?_
  refine XR.done (by kernel_rfl) ?_
  show XQ _ _ _ _ _ _ _ _
  refine XQ.seq E0_ok (by kernel_rfl) ?_
  refine XQ.block (id := 0) (by kernel_rfl) ?_
  refine XQ.seq E0_ok (by kernel_rfl) ?_
  refine XQ.region (by kernel_rfl) ?_
  refine XR.runS E0_ok 1 3 [(1, ii b), (2, .func (.func 71) #[] #[]), (3, pp 1 0), (8, .pointer none), (9, ii r1), (15, .bool (r1 != 0))] rfl (by kernel_rfl) ?_
  refine XR.done (by kernel_rfl) ?_
  show XQ _ _ _ _ _ _ _ _
  rw [b1]
  refine XQ.cond (s := (.tmp 15)) (b := true) (by kernel_rfl) (by kernel_rfl) (fun _ => ?_) (fun q => by cases q)
  refine XQ.seq E0_ok (by kernel_rfl) ?_
  refine XQ.region (by kernel_rfl) ?_
  refine XR.runS E0_ok 1 3 [(6, ii 0), (7, ii r1)] rfl (by kernel_rfl) ?_
  refine XR.done (by kernel_rfl) ?_
  show XQ _ _ _ _ _ _ _ _
  refine XQ.ret (by kernel_rfl) ?_
  refine ⟨fun i q => (by cases q), .tuple #[ii 0, ii r1], (by kernel_rfl), ?_⟩
  refine XR.conv (σ' := [(8, .tuple #[ii 0, ii r1])]) (h' := [(2, .cells [ii a_Marks, ii a_Step, ii a_Turns] 0 23 0), (1, .cells [ii a_Marks, ii a_Step, ii a_Turns] 0 23 0), (0, .cells [ii a_Marks, ii a_Step, ii a_Turns] 0 23 0)]) (c' := 3) ?_ (by kernel_rfl)
  refine XR.runS E0_ok 1 4 [(4, ii 0), (5, ii r1)] rfl (by kernel_rfl) ?_
  refine XR.done (by kernel_rfl) ?_
  show XQ _ _ _ _ _ _ _ _
  refine XQ.ret (by kernel_rfl) ?_
  have h := Option.some.inj h
  subst h
  exact ⟨fun i q => (by cases q), .tuple #[ii 0, ii r1], (by kernel_rfl), rfl⟩
 | false =>
  have h := cF b1 h
  refine XQ.cond (s := (.tmp 9)) (b := false) (by kernel_rfl) (by kernel_rfl) (fun q => by cases q) (fun _ => ?_)
  refine XQ.skip (by kernel_rfl) ?_
  show XQ _ _ _ _ _ _ _ _
  refine XQ.seq E0_ok (by kernel_rfl) ?_
  refine XQ.region (by kernel_rfl) ?_
  refine XR.runT E0_ok 1 8 [(1, pp 2 0), (5, pp 3 0)] [(3, .cells [ii a_Marks, ii a_Step, ii 1, ii 0, ii 0] 0 88 0), (2, .cells [ii a_Marks, ii a_Step, ii a_Turns] 0 23 0), (1, .cells [ii a_Marks, ii a_Step, ii a_Turns] 0 23 0), (0, .cells [ii a_Marks, ii a_Step, ii a_Turns] 0 23 0)] 4 rfl (by kernel_rfl) ?_
  refine XR.done (by kernel_rfl) ?_
  show XQ _ _ _ _ _ _ _ _
  refine XQ.seq E0_ok (by kernel_rfl) ?_
  refine XQ.block (id := 0) (by kernel_rfl) ?_
  refine XQ.loop m (by kernel_rfl) ?_
  obtain ⟨o1, o1_h, h⟩ := bS h
  refine XL.ren (σ' := [(1, pp 2 0), (5, pp 3 0)]) (h' := [(3, .cells [ii a_Marks, ii a_Step, ii 1, ii 0, ii 0] 0 88 0), (2, .cells [ii a_Marks, ii a_Step, ii a_Turns] 0 23 0), (1, .cells [ii a_Marks, ii a_Step, ii a_Turns] 0 23 0), (0, .cells [ii a_Marks, ii a_Step, ii a_Turns] 0 23 0)]) (c' := 4) [0, 1, 2, 3] (by decide) rfl ⟨by kernel_rfl, by kernel_rfl, trivial⟩ ⟨⟨_, _, rfl, rfl, .inr ⟨_, _, _, _, rfl, rfl⟩⟩, ⟨_, _, rfl, rfl, .inr ⟨_, _, _, _, rfl, rfl⟩⟩, ⟨_, _, rfl, rfl, .inr ⟨_, _, _, _, rfl, rfl⟩⟩, ⟨_, _, rfl, rfl, .inr ⟨_, _, _, _, rfl, rfl⟩⟩, trivial⟩ rfl ?_
  refine XL.conv (f24_1_ok m m a_Marks a_Step a_Turns 1 0 0 o1 o1_h _ ?_) (by first | rfl | simp)
  show XQ _ _ _ _ _ _ _ _
  refine XQ.seq E0_ok (by kernel_rfl) ?_
  refine XQ.region (by kernel_rfl) ?_
  refine XR.runS E0_ok 1 3 [(2, pp 2 0), (3, ii 0)] rfl (by kernel_rfl) ?_
  refine XR.done (by kernel_rfl) ?_
  show XQ _ _ _ _ _ _ _ _
  refine XQ.ret (by kernel_rfl) ?_
  refine ⟨fun i q => (by cases q), .tuple #[pp 2 0, ii 0], (by kernel_rfl), ?_⟩
  refine XR.conv (σ' := [(1, ii b), (2, .func (.func 71) #[] #[]), (3, pp 1 0), (12, .tuple #[pp 2 0, ii 0])]) (h' := [(2, .cells [ii a_Marks, ii a_Step, ii o1.1, ii o1.2.1, ii o1.2.2] 0 88 0), (1, .cells [ii a_Marks, ii a_Step, ii a_Turns] 0 23 0), (0, .cells [ii a_Marks, ii a_Step, ii a_Turns] 0 23 0)]) (c' := 3) ?_ (by kernel_rfl)
  refine XR.runS E0_ok 1 5 [(1, ii b), (2, .func (.func 71) #[] #[]), (3, pp 1 0), (8, pp 2 0), (9, ii 0)] rfl (by kernel_rfl) ?_
  refine XR.done (by kernel_rfl) ?_
  show XQ _ _ _ _ _ _ _ _
  refine XQ.seq E0_ok (by kernel_rfl) ?_
  refine XQ.block (id := 0) (by kernel_rfl) ?_
  refine XQ.seq E0_ok (by kernel_rfl) ?_
  refine XQ.region (by kernel_rfl) ?_
  refine XR.runS E0_ok 1 3 [(1, ii b), (2, .func (.func 71) #[] #[]), (3, pp 1 0), (8, pp 2 0), (9, ii 0), (15, .bool false)] rfl (by kernel_rfl) ?_
  refine XR.done (by kernel_rfl) ?_
  show XQ _ _ _ _ _ _ _ _
  refine XQ.cond (s := (.tmp 15)) (b := false) (by kernel_rfl) (by kernel_rfl) (fun q => by cases q) (fun _ => ?_)
  refine XQ.seq E0_ok (by kernel_rfl) ?_
  refine XQ.region (by kernel_rfl) ?_
  refine XR.runS E0_ok 1 3 [(1, ii b), (2, .func (.func 71) #[] #[]), (3, pp 1 0), (8, pp 2 0), (22, .bool (decide (b < 0)))] rfl (by kernel_rfl) ?_
  cases b3 : (decide (b < 0) : Bool) with
  | true =>
   have h := cT b3 h
   refine XR.runS E0_ok 1 6 [(1, ii b), (2, .func (.func 71) #[] #[]), (8, pp 2 0), (19, .bool true)] rfl (by kernel_rfl) ?_
   refine XR.done (by kernel_rfl) ?_
   show XQ _ _ _ _ _ _ _ _
   refine XQ.cond (s := (.tmp 19)) (b := true) (by kernel_rfl) (by kernel_rfl) (fun _ => ?_) (fun q => by cases q)
   refine XQ.seq E0_ok (by kernel_rfl) ?_
   refine XQ.region (by kernel_rfl) ?_
   refine XR.runS E0_ok 1 2 [(6, ii 0), (7, ii 2)] rfl (by kernel_rfl) ?_
   refine XR.done (by kernel_rfl) ?_
   show XQ _ _ _ _ _ _ _ _
   refine XQ.ret (by kernel_rfl) ?_
   refine ⟨fun i q => (by cases q), .tuple #[ii 0, ii 2], (by kernel_rfl), ?_⟩
   refine XR.conv (σ' := [(8, .tuple #[ii 0, ii 2])]) (h' := [(2, .cells [ii a_Marks, ii a_Step, ii o1.1, ii o1.2.1, ii o1.2.2] 0 88 0), (1, .cells [ii a_Marks, ii a_Step, ii a_Turns] 0 23 0), (0, .cells [ii a_Marks, ii a_Step, ii a_Turns] 0 23 0)]) (c' := 3) ?_ (by kernel_rfl)
   refine XR.runS E0_ok 1 4 [(4, ii 0), (5, ii 2)] rfl (by kernel_rfl) ?_
   refine XR.done (by kernel_rfl) ?_
   show XQ _ _ _ _ _ _ _ _
   refine XQ.ret (by kernel_rfl) ?_
   have h := Option.some.inj h
   subst h
   exact ⟨fun i q => (by cases q), .tuple #[ii 0, ii 2], (by kernel_rfl), rfl⟩
  | false =>
   have h := cF b3 h
   refine XR.runS E0_ok 1 6 [(1, ii b), (2, .func (.func 71) #[] #[]), (8, pp 2 0), (19, .bool (decide (b ≥ a_Turns)))] rfl (by kernel_rfl) ?_
   refine XR.done (by kernel_rfl) ?_
   show XQ _ _ _ _ _ _ _ _
   cases b4 : (decide (b ≥ a_Turns) : Bool) with
   | true =>
    have h := cT b4 h
    refine XQ.cond (s := (.tmp 19)) (b := true) (by kernel_rfl) (by kernel_rfl) (fun _ => ?_) (fun q => by cases q)
    refine XQ.seq E0_ok (by kernel_rfl) ?_
    refine XQ.region (by kernel_rfl) ?_
    refine XR.runS E0_ok 1 2 [(6, ii 0), (7, ii 2)] rfl (by kernel_rfl) ?_
    refine XR.done (by kernel_rfl) ?_
    show XQ _ _ _ _ _ _ _ _
    refine XQ.ret (by kernel_rfl) ?_
    refine ⟨fun i q => (by cases q), .tuple #[ii 0, ii 2], (by kernel_rfl), ?_⟩
    refine XR.conv (σ' := [(8, .tuple #[ii 0, ii 2])]) (h' := [(2, .cells [ii a_Marks, ii a_Step, ii o1.1, ii o1.2.1, ii o1.2.2] 0 88 0), (1, .cells [ii a_Marks, ii a_Step, ii a_Turns] 0 23 0), (0, .cells [ii a_Marks, ii a_Step, ii a_Turns] 0 23 0)]) (c' := 3) ?_ (by kernel_rfl)
    refine XR.runS E0_ok 1 4 [(4, ii 0), (5, ii 2)] rfl (by kernel_rfl) ?_
    refine XR.done (by kernel_rfl) ?_
    show XQ _ _ _ _ _ _ _ _
    refine XQ.ret (by kernel_rfl) ?_
    have h := Option.some.inj h
    subst h
    exact ⟨fun i q => (by cases q), .tuple #[ii 0, ii 2], (by kernel_rfl), rfl⟩
   | false =>
    have h := cF b4 h
    refine XQ.cond (s := (.tmp 19)) (b := false) (by kernel_rfl) (by kernel_rfl) (fun q => by cases q) (fun _ => ?_)
    refine XQ.skip (by kernel_rfl) ?_
    show XQ _ _ _ _ _ _ _ _
    refine XQ.seq E0_ok (by kernel_rfl) ?_
    refine XQ.region (by kernel_rfl) ?_
    refine XR.runS E0_ok 1 3 [(28, .func (.func 71) #[] #[]), (29, pp 2 0), (30, ii b)] rfl (by kernel_rfl) ?_
    obtain ⟨r10, r10_h, h⟩ := bS h
    refine XR.call E0_ok [31] rfl (K := 71) (args := [pp 2 0, ii b]) (d := (some (path 12 31))) (by kernel_rfl) (KQ.call (KC.quiet E0_ok (args0 := [pp 0 0, ii b]) (h0 := [(0, .cells [ii a_Marks, ii a_Step, ii o1.1, ii o1.2.1, ii o1.2.2] (0 + (5 + 1)) 88 0)]) (n := 1) (V := ii r10) [2] (f71_ok m (0 + (5 + 1)) a_Marks a_Step o1.1 o1.2.1 o1.2.2 b r10 r10_h) rfl (by rfl) (by decide) rfl (by kernel_rfl) ⟨⟨_, _, rfl, rfl, .inr ⟨_, _, _, _, rfl, rfl⟩⟩, trivial⟩) rfl) ?_
    rintro _ _ _ ⟨rfl, rfl, rfl⟩
    refine XR.conv (σ' := [(31, ii r10)]) (h' := [(2, .cells [ii a_Marks, ii a_Step, ii o1.1, ii o1.2.1, ii o1.2.2] 0 88 0), (1, .cells [ii a_Marks, ii a_Step, ii a_Turns] 0 23 0), (0, .cells [ii a_Marks, ii a_Step, ii a_Turns] 0 23 0)]) (c' := 3) ?_ (by kernel_rfl)
    refine XR.runS E0_ok 1 2 [(6, ii r10), (7, ii 0)] rfl (by kernel_rfl) ?_
    refine XR.done (by kernel_rfl) ?_
    show XQ _ _ _ _ _ _ _ _
    refine XQ.ret (by kernel_rfl) ?_
    refine ⟨fun i q => (by cases q), .tuple #[ii r10, ii 0], (by kernel_rfl), ?_⟩
    refine XR.conv (σ' := [(8, .tuple #[ii r10, ii 0])]) (h' := [(2, .cells [ii a_Marks, ii a_Step, ii o1.1, ii o1.2.1, ii o1.2.2] 0 88 0), (1, .cells [ii a_Marks, ii a_Step, ii a_Turns] 0 23 0), (0, .cells [ii a_Marks, ii a_Step, ii a_Turns] 0 23 0)]) (c' := 3) ?_ (by kernel_rfl)
    refine XR.runS E0_ok 1 4 [(4, ii r10), (5, ii 0)] rfl (by kernel_rfl) ?_
    refine XR.done (by kernel_rfl) ?_
    show XQ _ _ _ _ _ _ _ _
    refine XQ.ret (by kernel_rfl) ?_
    have h := Option.some.inj h
    subst h
    exact ⟨fun i q => (by cases q), .tuple #[ii r10, ii 0], (by kernel_rfl), rfl⟩

/-! vitola/vitolalaw05.WrapMany -/
noncomputable def f7_C7 : Code := Proofs.Try.f7.body.getD .skip
noncomputable def f7_L1 : Code := lft (lft (rgt (lft (rgt (rgt (rgt (rgt (rgt (rgt (rgt (rgt (rgt f7_C7))))))))))))
noncomputable def f7_L2 : Code := lft (lft (rgt (lft (rgt (rgt (rgt (rgt (rgt (rgt (rgt (lft (lft (rgt (rgt f7_L1))))))))))))))

inductive Of7_2 where
 | r
 | x2 (x21_x22 : Int)

def f7_2 (m : Nat) : Nat → Int → Int → Int → Int → Int → Int → Int → Int → List Int → List (Int × Int) → Int → Int → Int → Int → Option Of7_2
 | 0, _, _, _, _, _, _, _, _, _, _, _, _, _, _ => none
 | fuel + 1, x5_1, x10_1, x12_1, x106_1, x107_1, xh0_0_1, xh0_1_1, xh0_2_1, lh1_1, mh2_1, x16_2, x21_2, x182_2, x183_2 =>
  cond (decide (x183_2 < x182_2)) (
   cond (inRow x183_2 lh1_1.length) (
    cond (inRow x107_1 lh1_1.length) (
     cond ((List.getD lh1_1 (Int.toNat x183_2) 0) != (List.getD lh1_1 (Int.toNat x107_1) 0)) (
      cond (inRow x16_2 lh1_1.length) (
       cond ((List.getD lh1_1 (Int.toNat x183_2) 0) != (List.getD lh1_1 (Int.toNat x16_2) 0)) (
        cond (xh0_0_1 != 0) (
         cond (decide ((Int.tmod (w64 ((w64 ((List.getD lh1_1 (Int.toNat x183_2) 0) - (List.getD lh1_1 (Int.toNat x107_1) 0))) + xh0_0_1)) xh0_0_1) < x21_2)) (
          some (.r)
         ) (
          f7_2 m fuel x5_1 x10_1 x12_1 x106_1 x107_1 xh0_0_1 xh0_1_1 xh0_2_1 lh1_1 mh2_1 x16_2 x21_2 x182_2 (w64 (x183_2 + 1))
         )
        ) none
       ) (
        f7_2 m fuel x5_1 x10_1 x12_1 x106_1 x107_1 xh0_0_1 xh0_1_1 xh0_2_1 lh1_1 mh2_1 x16_2 x21_2 x182_2 (w64 (x183_2 + 1))
       )
      ) none
     ) (
      f7_2 m fuel x5_1 x10_1 x12_1 x106_1 x107_1 xh0_0_1 xh0_1_1 xh0_2_1 lh1_1 mh2_1 x16_2 x21_2 x182_2 (w64 (x183_2 + 1))
     )
    ) none
   ) none
  ) (
   some (.x2 x21_2)
  )

theorem f7_2_ok (m : Nat) : ∀ (fuel : Nat) (x5_1 : Int) (x10_1 : Int) (x12_1 : Int) (x106_1 : Int) (x107_1 : Int) (xh0_0_1 : Int) (xh0_1_1 : Int) (xh0_2_1 : Int) (lh1_1 : List Int) (mh2_1 : List (Int × Int)) (x16_2 : Int) (x21_2 : Int) (x182_2 : Int) (x183_2 : Int) (o : Of7_2), f7_2 m fuel x5_1 x10_1 x12_1 x106_1 x107_1 xh0_0_1 xh0_1_1 xh0_2_1 lh1_1 mh2_1 x16_2 x21_2 x182_2 x183_2 = some o → ∀ Q : QP, (match o with | .r => Q .ret [(2, .bool false)] [] 0 | .x2 x21_x22 => Q (.exit 2) [(3, pp 0 0), (4, s0 1 lh1_1.length), (5, ii x5_1), (10, ii x10_1), (12, ii x12_1), (14, .map (some 2)), (21, ii x21_x22), (106, ii x106_1), (107, ii x107_1)] [(2, .imap (imC (Value.int .i64) mh2_1)), (1, rc (encI .i64) lh1_1 0 3 1), (0, .cells [ii xh0_0_1, ii xh0_1_1, ii xh0_2_1] 0 23 0)] 3) → XL E0 273 0 fuel f7_L2 [(3, pp 0 0), (4, s0 1 lh1_1.length), (5, ii x5_1), (10, ii x10_1), (12, ii x12_1), (14, .map (some 2)), (15, ii x107_1), (16, ii x16_2), (21, ii x21_2), (106, ii x106_1), (107, ii x107_1), (181, s0 1 lh1_1.length), (182, ii x182_2), (183, ii x183_2)] [(2, .imap (imC (Value.int .i64) mh2_1)), (1, rc (encI .i64) lh1_1 0 3 1), (0, .cells [ii xh0_0_1, ii xh0_1_1, ii xh0_2_1] 0 23 0)] 3 Q
 | 0, x5_1, x10_1, x12_1, x106_1, x107_1, xh0_0_1, xh0_1_1, xh0_2_1, lh1_1, mh2_1, x16_2, x21_2, x182_2, x183_2, o, h, Q, hQ => by cases h
 | fuel + 1, x5_1, x10_1, x12_1, x106_1, x107_1, xh0_0_1, xh0_1_1, xh0_2_1, lh1_1, mh2_1, x16_2, x21_2, x182_2, x183_2, o, h, Q, hQ => by
  unfold f7_2 at h
  refine XL.succ E0_ok ?_
  refine XQ.seq E0_ok (by kernel_rfl) ?_
  refine XQ.region (by kernel_rfl) ?_
  refine XR.runS E0_ok 1 1 [(3, pp 0 0), (4, s0 1 lh1_1.length), (5, ii x5_1), (10, ii x10_1), (12, ii x12_1), (14, .map (some 2)), (15, ii x107_1), (16, ii x16_2), (21, ii x21_2), (106, ii x106_1), (107, ii x107_1), (181, s0 1 lh1_1.length), (182, ii x182_2), (183, ii x183_2), (184, .bool (decide (x183_2 < x182_2)))] rfl (by kernel_rfl) ?_
  refine XR.done (by kernel_rfl) ?_
  show XQ _ _ _ _ _ _ _ _
  refine XQ.seq E0_ok (by kernel_rfl) ?_
  cases b1 : (decide (x183_2 < x182_2) : Bool) with
  | true =>
   have h := cT b1 h
   refine XQ.cond (s := (.tmp 184)) (b := true) (by kernel_rfl) (by kernel_rfl) (fun _ => ?_) (fun q => by cases q)
   refine XQ.skip (by kernel_rfl) ?_
   show XQ _ _ _ _ _ _ _ _
   refine XQ.seq E0_ok (by kernel_rfl) ?_
   refine XQ.block (id := 3) (by kernel_rfl) ?_
   refine XQ.seq E0_ok (by kernel_rfl) ?_
   refine XQ.region (by kernel_rfl) ?_
   cases b2 : (inRow x183_2 lh1_1.length : Bool) with
   | false => cases (cF b2 h)
   | true =>
    have h := cT b2 h
    refine XR.rd E0_ok [3, 4, 5, 10, 12, 14, 15, 16, 21, 106, 107, 181, 182, 183, 185] rfl (v := pp 1 ((Int.toNat x183_2) * 1)) (v_idx (s := 1) (x := (src 273 (.tmp 181))) (y := (src 273 (.tmp 183))) (b := 1) (o := 0) (len := lh1_1.length) (cap := lh1_1.length) (ik := .i64) (i := x183_2) (off := (Int.toNat x183_2) * 1) (d := (some (path 12 185))) (by kernel_rfl) (by kernel_rfl) (by kernel_rfl) b2 (by omega)) (σ' := [(3, pp 0 0), (4, s0 1 lh1_1.length), (5, ii x5_1), (10, ii x10_1), (12, ii x12_1), (14, .map (some 2)), (15, ii x107_1), (16, ii x16_2), (21, ii x21_2), (106, ii x106_1), (107, ii x107_1), (181, s0 1 lh1_1.length), (182, ii x182_2), (183, ii x183_2), (185, pp 1 ((Int.toNat x183_2) * 1))]) (by kernel_rfl) ?_
    refine XR.rd E0_ok [3, 4, 5, 10, 12, 14, 15, 16, 21, 106, 107, 181, 182, 183, 186] rfl (v := ii (List.getD lh1_1 (Int.toNat x183_2) 0)) (v_load1 (encI_ok .i64) (x := (src 273 (.tmp 185))) (b := 1) (off := (Int.toNat x183_2) * 1) (xs := lh1_1) (fz := 0) (e := 3) (es := 1) (d := (some (path 12 186))) (by kernel_rfl) (by kernel_rfl) (by kernel_rfl) (Int.toNat x183_2) 0 0 (by first | rfl | omega) (row_len (inRow_toNat b2) (by simp)) rfl rfl) (σ' := [(3, pp 0 0), (4, s0 1 lh1_1.length), (5, ii x5_1), (10, ii x10_1), (12, ii x12_1), (14, .map (some 2)), (15, ii x107_1), (16, ii x16_2), (21, ii x21_2), (106, ii x106_1), (107, ii x107_1), (181, s0 1 lh1_1.length), (182, ii x182_2), (183, ii x183_2), (186, ii (List.getD lh1_1 (Int.toNat x183_2) 0))]) (by kernel_rfl) ?_
    refine XR.runS E0_ok 1 1 [(3, pp 0 0), (4, s0 1 lh1_1.length), (5, ii x5_1), (10, ii x10_1), (12, ii x12_1), (14, .map (some 2)), (15, ii x107_1), (16, ii x16_2), (21, ii x21_2), (23, ii (List.getD lh1_1 (Int.toNat x183_2) 0)), (106, ii x106_1), (107, ii x107_1), (181, s0 1 lh1_1.length), (182, ii x182_2), (183, ii x183_2)] rfl (by kernel_rfl) ?_
    refine XR.done (by kernel_rfl) ?_
    show XQ _ _ _ _ _ _ _ _
    refine XQ.seq E0_ok (by kernel_rfl) ?_
    refine XQ.quiet E0_ok (by kernel_rfl) (by kernel_rfl) ?_
    refine XU.run E0_ok 1 3 [3, 4, 5, 10, 12, 14, 15, 16, 21, 23, 106, 107, 181, 182, 183, 187, 188, 189] rfl (σ' := [(3, pp 0 0), (4, s0 1 lh1_1.length), (5, ii x5_1), (10, ii x10_1), (12, ii x12_1), (14, .map (some 2)), (15, ii x107_1), (16, ii x16_2), (21, ii x21_2), (23, ii (List.getD lh1_1 (Int.toNat x183_2) 0)), (106, ii x106_1), (107, ii x107_1), (181, s0 1 lh1_1.length), (182, ii x182_2), (183, ii x183_2), (187, ii (List.getD lh1_1 (Int.toNat x183_2) 0)), (188, s0 1 lh1_1.length), (189, ii x107_1)]) (by kernel_rfl) ?_
    cases b3 : (inRow x107_1 lh1_1.length : Bool) with
    | false => cases (cF b3 h)
    | true =>
     have h := cT b3 h
     refine XU.rd E0_ok [3, 4, 5, 10, 12, 14, 15, 16, 21, 23, 106, 107, 181, 182, 183, 187, 190] rfl (v := pp 1 ((Int.toNat x107_1) * 1)) (v_idx (s := 1) (x := (src 273 (.tmp 188))) (y := (src 273 (.tmp 189))) (b := 1) (o := 0) (len := lh1_1.length) (cap := lh1_1.length) (ik := .i64) (i := x107_1) (off := (Int.toNat x107_1) * 1) (d := (some (path 12 190))) (by kernel_rfl) (by kernel_rfl) (by kernel_rfl) b3 (by omega)) (σ' := [(3, pp 0 0), (4, s0 1 lh1_1.length), (5, ii x5_1), (10, ii x10_1), (12, ii x12_1), (14, .map (some 2)), (15, ii x107_1), (16, ii x16_2), (21, ii x21_2), (23, ii (List.getD lh1_1 (Int.toNat x183_2) 0)), (106, ii x106_1), (107, ii x107_1), (181, s0 1 lh1_1.length), (182, ii x182_2), (183, ii x183_2), (187, ii (List.getD lh1_1 (Int.toNat x183_2) 0)), (190, pp 1 ((Int.toNat x107_1) * 1))]) (by kernel_rfl) ?_
     refine XU.rd E0_ok [3, 4, 5, 10, 12, 14, 15, 16, 21, 23, 106, 107, 181, 182, 183, 187, 191] rfl (v := ii (List.getD lh1_1 (Int.toNat x107_1) 0)) (v_load1 (encI_ok .i64) (x := (src 273 (.tmp 190))) (b := 1) (off := (Int.toNat x107_1) * 1) (xs := lh1_1) (fz := 0) (e := 3) (es := 1) (d := (some (path 12 191))) (by kernel_rfl) (by kernel_rfl) (by kernel_rfl) (Int.toNat x107_1) 0 0 (by first | rfl | omega) (row_len (inRow_toNat b3) (by simp)) rfl rfl) (σ' := [(3, pp 0 0), (4, s0 1 lh1_1.length), (5, ii x5_1), (10, ii x10_1), (12, ii x12_1), (14, .map (some 2)), (15, ii x107_1), (16, ii x16_2), (21, ii x21_2), (23, ii (List.getD lh1_1 (Int.toNat x183_2) 0)), (106, ii x106_1), (107, ii x107_1), (181, s0 1 lh1_1.length), (182, ii x182_2), (183, ii x183_2), (187, ii (List.getD lh1_1 (Int.toNat x183_2) 0)), (191, ii (List.getD lh1_1 (Int.toNat x107_1) 0))]) (by kernel_rfl) ?_
     refine XU.run E0_ok 1 2 [3, 4, 5, 10, 12, 14, 15, 16, 21, 23, 106, 107, 181, 182, 183, 193] rfl (σ' := [(3, pp 0 0), (4, s0 1 lh1_1.length), (5, ii x5_1), (10, ii x10_1), (12, ii x12_1), (14, .map (some 2)), (15, ii x107_1), (16, ii x16_2), (21, ii x21_2), (23, ii (List.getD lh1_1 (Int.toNat x183_2) 0)), (106, ii x106_1), (107, ii x107_1), (181, s0 1 lh1_1.length), (182, ii x182_2), (183, ii x183_2), (193, .bool ((List.getD lh1_1 (Int.toNat x183_2) 0) != (List.getD lh1_1 (Int.toNat x107_1) 0)))]) (by kernel_rfl) ?_
     cases b4 : ((List.getD lh1_1 (Int.toNat x183_2) 0) != (List.getD lh1_1 (Int.toNat x107_1) 0) : Bool) with
     | true =>
      have h := cT b4 h
      refine XU.run E0_ok 1 3 [3, 4, 5, 10, 12, 14, 15, 16, 21, 23, 106, 107, 181, 182, 183, 193, 194, 195, 196] rfl (σ' := [(3, pp 0 0), (4, s0 1 lh1_1.length), (5, ii x5_1), (10, ii x10_1), (12, ii x12_1), (14, .map (some 2)), (15, ii x107_1), (16, ii x16_2), (21, ii x21_2), (23, ii (List.getD lh1_1 (Int.toNat x183_2) 0)), (106, ii x106_1), (107, ii x107_1), (181, s0 1 lh1_1.length), (182, ii x182_2), (183, ii x183_2), (193, .bool true), (194, ii (List.getD lh1_1 (Int.toNat x183_2) 0)), (195, s0 1 lh1_1.length), (196, ii x16_2)]) (by kernel_rfl) ?_
      cases b5 : (inRow x16_2 lh1_1.length : Bool) with
      | false => cases (cF b5 h)
      | true =>
       have h := cT b5 h
       refine XU.rd E0_ok [3, 4, 5, 10, 12, 14, 15, 16, 21, 23, 106, 107, 181, 182, 183, 193, 194, 197] rfl (v := pp 1 ((Int.toNat x16_2) * 1)) (v_idx (s := 1) (x := (src 273 (.tmp 195))) (y := (src 273 (.tmp 196))) (b := 1) (o := 0) (len := lh1_1.length) (cap := lh1_1.length) (ik := .i64) (i := x16_2) (off := (Int.toNat x16_2) * 1) (d := (some (path 12 197))) (by kernel_rfl) (by kernel_rfl) (by kernel_rfl) b5 (by omega)) (σ' := [(3, pp 0 0), (4, s0 1 lh1_1.length), (5, ii x5_1), (10, ii x10_1), (12, ii x12_1), (14, .map (some 2)), (15, ii x107_1), (16, ii x16_2), (21, ii x21_2), (23, ii (List.getD lh1_1 (Int.toNat x183_2) 0)), (106, ii x106_1), (107, ii x107_1), (181, s0 1 lh1_1.length), (182, ii x182_2), (183, ii x183_2), (193, .bool true), (194, ii (List.getD lh1_1 (Int.toNat x183_2) 0)), (197, pp 1 ((Int.toNat x16_2) * 1))]) (by kernel_rfl) ?_
       refine XU.rd E0_ok [3, 4, 5, 10, 12, 14, 15, 16, 21, 23, 106, 107, 181, 182, 183, 193, 194, 198] rfl (v := ii (List.getD lh1_1 (Int.toNat x16_2) 0)) (v_load1 (encI_ok .i64) (x := (src 273 (.tmp 197))) (b := 1) (off := (Int.toNat x16_2) * 1) (xs := lh1_1) (fz := 0) (e := 3) (es := 1) (d := (some (path 12 198))) (by kernel_rfl) (by kernel_rfl) (by kernel_rfl) (Int.toNat x16_2) 0 0 (by first | rfl | omega) (row_len (inRow_toNat b5) (by simp)) rfl rfl) (σ' := [(3, pp 0 0), (4, s0 1 lh1_1.length), (5, ii x5_1), (10, ii x10_1), (12, ii x12_1), (14, .map (some 2)), (15, ii x107_1), (16, ii x16_2), (21, ii x21_2), (23, ii (List.getD lh1_1 (Int.toNat x183_2) 0)), (106, ii x106_1), (107, ii x107_1), (181, s0 1 lh1_1.length), (182, ii x182_2), (183, ii x183_2), (193, .bool true), (194, ii (List.getD lh1_1 (Int.toNat x183_2) 0)), (198, ii (List.getD lh1_1 (Int.toNat x16_2) 0))]) (by kernel_rfl) ?_
       refine XU.run E0_ok 1 3 [3, 4, 5, 10, 12, 14, 15, 16, 21, 23, 106, 107, 181, 182, 183, 201] rfl (σ' := [(3, pp 0 0), (4, s0 1 lh1_1.length), (5, ii x5_1), (10, ii x10_1), (12, ii x12_1), (14, .map (some 2)), (15, ii x107_1), (16, ii x16_2), (21, ii x21_2), (23, ii (List.getD lh1_1 (Int.toNat x183_2) 0)), (106, ii x106_1), (107, ii x107_1), (181, s0 1 lh1_1.length), (182, ii x182_2), (183, ii x183_2), (201, .bool ((List.getD lh1_1 (Int.toNat x183_2) 0) != (List.getD lh1_1 (Int.toNat x16_2) 0)))]) (by kernel_rfl) ?_
       cases b6 : ((List.getD lh1_1 (Int.toNat x183_2) 0) != (List.getD lh1_1 (Int.toNat x16_2) 0) : Bool) with
       | true =>
        have h := cT b6 h
        refine XU.run E0_ok 1 3 [3, 4, 5, 10, 12, 14, 15, 16, 21, 106, 107, 181, 182, 183, 201, 202, 203, 204] rfl (σ' := [(3, pp 0 0), (4, s0 1 lh1_1.length), (5, ii x5_1), (10, ii x10_1), (12, ii x12_1), (14, .map (some 2)), (15, ii x107_1), (16, ii x16_2), (21, ii x21_2), (106, ii x106_1), (107, ii x107_1), (181, s0 1 lh1_1.length), (182, ii x182_2), (183, ii x183_2), (201, .bool true), (202, ii (List.getD lh1_1 (Int.toNat x183_2) 0)), (203, s0 1 lh1_1.length), (204, ii x107_1)]) (by kernel_rfl) ?_
        refine XU.rd E0_ok [3, 4, 5, 10, 12, 14, 15, 16, 21, 106, 107, 181, 182, 183, 201, 202, 205] rfl (v := pp 1 ((Int.toNat x107_1) * 1)) (v_idx (s := 1) (x := (src 273 (.tmp 203))) (y := (src 273 (.tmp 204))) (b := 1) (o := 0) (len := lh1_1.length) (cap := lh1_1.length) (ik := .i64) (i := x107_1) (off := (Int.toNat x107_1) * 1) (d := (some (path 12 205))) (by kernel_rfl) (by kernel_rfl) (by kernel_rfl) b3 (by omega)) (σ' := [(3, pp 0 0), (4, s0 1 lh1_1.length), (5, ii x5_1), (10, ii x10_1), (12, ii x12_1), (14, .map (some 2)), (15, ii x107_1), (16, ii x16_2), (21, ii x21_2), (106, ii x106_1), (107, ii x107_1), (181, s0 1 lh1_1.length), (182, ii x182_2), (183, ii x183_2), (201, .bool true), (202, ii (List.getD lh1_1 (Int.toNat x183_2) 0)), (205, pp 1 ((Int.toNat x107_1) * 1))]) (by kernel_rfl) ?_
        refine XU.rd E0_ok [3, 4, 5, 10, 12, 14, 15, 16, 21, 106, 107, 181, 182, 183, 201, 202, 206] rfl (v := ii (List.getD lh1_1 (Int.toNat x107_1) 0)) (v_load1 (encI_ok .i64) (x := (src 273 (.tmp 205))) (b := 1) (off := (Int.toNat x107_1) * 1) (xs := lh1_1) (fz := 0) (e := 3) (es := 1) (d := (some (path 12 206))) (by kernel_rfl) (by kernel_rfl) (by kernel_rfl) (Int.toNat x107_1) 0 0 (by first | rfl | omega) (row_len (inRow_toNat b3) (by simp)) rfl rfl) (σ' := [(3, pp 0 0), (4, s0 1 lh1_1.length), (5, ii x5_1), (10, ii x10_1), (12, ii x12_1), (14, .map (some 2)), (15, ii x107_1), (16, ii x16_2), (21, ii x21_2), (106, ii x106_1), (107, ii x107_1), (181, s0 1 lh1_1.length), (182, ii x182_2), (183, ii x183_2), (201, .bool true), (202, ii (List.getD lh1_1 (Int.toNat x183_2) 0)), (206, ii (List.getD lh1_1 (Int.toNat x107_1) 0))]) (by kernel_rfl) ?_
        refine XU.run E0_ok 1 6 [3, 4, 5, 10, 12, 14, 15, 16, 21, 106, 107, 181, 182, 183, 201, 210, 212] rfl (σ' := [(3, pp 0 0), (4, s0 1 lh1_1.length), (5, ii x5_1), (10, ii x10_1), (12, ii x12_1), (14, .map (some 2)), (15, ii x107_1), (16, ii x16_2), (21, ii x21_2), (106, ii x106_1), (107, ii x107_1), (181, s0 1 lh1_1.length), (182, ii x182_2), (183, ii x183_2), (201, .bool true), (210, ii (w64 ((w64 ((List.getD lh1_1 (Int.toNat x183_2) 0) - (List.getD lh1_1 (Int.toNat x107_1) 0))) + xh0_0_1))), (212, ii xh0_0_1)]) (by kernel_rfl) ?_
        cases b7 : (xh0_0_1 != 0 : Bool) with
        | false => cases (cF b7 h)
        | true =>
         have h := cT b7 h
         have e8 : insV (headI ((gsOf E0 273 (opsOf (lft (rgt (lft (lft (rgt (rgt f7_L2)))))))).drop 26) (trS 273 [(3, pp 0 0), (4, s0 1 lh1_1.length), (5, ii x5_1), (10, ii x10_1), (12, ii x12_1), (14, .map (some 2)), (15, ii x107_1), (16, ii x16_2), (21, ii x21_2), (106, ii x106_1), (107, ii x107_1), (181, s0 1 lh1_1.length), (182, ii x182_2), (183, ii x183_2), (201, .bool true), (210, ii (w64 ((w64 ((List.getD lh1_1 (Int.toNat x183_2) 0) - (List.getD lh1_1 (Int.toNat x107_1) 0))) + xh0_0_1))), (212, ii xh0_0_1)])) (trS 273 [(3, pp 0 0), (4, s0 1 lh1_1.length), (5, ii x5_1), (10, ii x10_1), (12, ii x12_1), (14, .map (some 2)), (15, ii x107_1), (16, ii x16_2), (21, ii x21_2), (106, ii x106_1), (107, ii x107_1), (181, s0 1 lh1_1.length), (182, ii x182_2), (183, ii x183_2), (201, .bool true), (210, ii (w64 ((w64 ((List.getD lh1_1 (Int.toNat x183_2) 0) - (List.getD lh1_1 (Int.toNat x107_1) 0))) + xh0_0_1))), (212, ii xh0_0_1)]) [(2, .imap (imC (Value.int .i64) mh2_1)), (1, rc (encI .i64) lh1_1 0 3 1), (0, .cells [ii xh0_0_1, ii xh0_1_1, ii xh0_2_1] 0 23 0)] = (match (xh0_0_1 != 0 : Bool) with | true => some (ii (Int.tmod (w64 ((w64 ((List.getD lh1_1 (Int.toNat x183_2) 0) - (List.getD lh1_1 (Int.toNat x107_1) 0))) + xh0_0_1)) xh0_0_1)) | false => none) := by kernel_rfl
         refine XU.rd E0_ok [3, 4, 5, 10, 12, 14, 15, 16, 21, 106, 107, 181, 182, 183, 201, 213] rfl (e8.trans (by rw [b7])) (σ' := [(3, pp 0 0), (4, s0 1 lh1_1.length), (5, ii x5_1), (10, ii x10_1), (12, ii x12_1), (14, .map (some 2)), (15, ii x107_1), (16, ii x16_2), (21, ii x21_2), (106, ii x106_1), (107, ii x107_1), (181, s0 1 lh1_1.length), (182, ii x182_2), (183, ii x183_2), (201, .bool true), (213, ii (Int.tmod (w64 ((w64 ((List.getD lh1_1 (Int.toNat x183_2) 0) - (List.getD lh1_1 (Int.toNat x107_1) 0))) + xh0_0_1)) xh0_0_1))]) (by kernel_rfl) ?_
         refine XU.run E0_ok 1 3 [3, 4, 5, 10, 12, 14, 15, 16, 21, 106, 107, 181, 182, 183, 216] rfl (σ' := [(3, pp 0 0), (4, s0 1 lh1_1.length), (5, ii x5_1), (10, ii x10_1), (12, ii x12_1), (14, .map (some 2)), (15, ii x107_1), (16, ii x16_2), (21, ii x21_2), (106, ii x106_1), (107, ii x107_1), (181, s0 1 lh1_1.length), (182, ii x182_2), (183, ii x183_2), (216, .bool (decide ((Int.tmod (w64 ((w64 ((List.getD lh1_1 (Int.toNat x183_2) 0) - (List.getD lh1_1 (Int.toNat x107_1) 0))) + xh0_0_1)) xh0_0_1) < x21_2)))]) (by kernel_rfl) ?_
         refine XU.done (by kernel_rfl) ?_
         show XQ _ _ _ _ _ _ _ _
         cases b9 : (decide ((Int.tmod (w64 ((w64 ((List.getD lh1_1 (Int.toNat x183_2) 0) - (List.getD lh1_1 (Int.toNat x107_1) 0))) + xh0_0_1)) xh0_0_1) < x21_2) : Bool) with
         | true =>
          have h := cT b9 h
          refine XQ.cond (s := (.tmp 216)) (b := true) (by kernel_rfl) (by kernel_rfl) (fun _ => ?_) (fun q => by cases q)
          refine XQ.seq E0_ok (by kernel_rfl) ?_
          refine XQ.region (by kernel_rfl) ?_
          refine XR.runS E0_ok 1 1 [(2, .bool false)] rfl (by kernel_rfl) ?_
          refine XR.done (by kernel_rfl) ?_
          show XQ _ _ _ _ _ _ _ _
          refine XQ.ren (σ' := [(2, .bool false)]) (h' := []) (c' := 0) [] (by decide) rfl ⟨by kernel_rfl, trivial⟩ trivial rfl ?_
          refine XQ.ret (by kernel_rfl) ?_
          cases h
          exact hQ
         | false =>
          have h := cF b9 h
          refine XQ.cond (s := (.tmp 216)) (b := false) (by kernel_rfl) (by kernel_rfl) (fun q => by cases q) (fun _ => ?_)
          refine XQ.skip (by kernel_rfl) ?_
          show XQ _ _ _ _ _ _ _ _
          refine XQ.region (by kernel_rfl) ?_
          refine XR.runS E0_ok 1 2 [(3, pp 0 0), (4, s0 1 lh1_1.length), (5, ii x5_1), (10, ii x10_1), (12, ii x12_1), (14, .map (some 2)), (15, ii x107_1), (16, ii x16_2), (21, ii x21_2), (106, ii x106_1), (107, ii x107_1), (181, s0 1 lh1_1.length), (182, ii x182_2), (183, ii (w64 (x183_2 + 1)))] rfl (by kernel_rfl) ?_
          refine XR.done (by kernel_rfl) ?_
          show XL _ _ _ _ _ _ _ _ _
          refine XL.ren (σ' := [(3, pp 0 0), (4, s0 1 lh1_1.length), (5, ii x5_1), (10, ii x10_1), (12, ii x12_1), (14, .map (some 2)), (15, ii x107_1), (16, ii x16_2), (21, ii x21_2), (106, ii x106_1), (107, ii x107_1), (181, s0 1 lh1_1.length), (182, ii x182_2), (183, ii (w64 (x183_2 + 1)))]) (h' := [(2, .imap (imC (Value.int .i64) mh2_1)), (1, rc (encI .i64) lh1_1 0 3 1), (0, .cells [ii xh0_0_1, ii xh0_1_1, ii xh0_2_1] 0 23 0)]) (c' := 3) [0, 1, 2] (by decide) rfl ⟨by kernel_rfl, by kernel_rfl, by kernel_rfl, by kernel_rfl, by kernel_rfl, by kernel_rfl, by kernel_rfl, by kernel_rfl, by kernel_rfl, by kernel_rfl, by kernel_rfl, by kernel_rfl, by kernel_rfl, by kernel_rfl, trivial⟩ ⟨⟨_, _, rfl, rfl, .inl ⟨rfl, trivial⟩⟩, ⟨_, _, rfl, rfl, .inl ⟨rfl, rowC_scal (encI_ok .i64) _⟩⟩, ⟨_, _, rfl, rfl, .inr ⟨_, _, _, _, rfl, rfl⟩⟩, trivial⟩ rfl ?_
          refine XL.conv (f7_2_ok m fuel x5_1 x10_1 x12_1 x106_1 x107_1 xh0_0_1 xh0_1_1 xh0_2_1 lh1_1 mh2_1 x16_2 x21_2 x182_2 (w64 (x183_2 + 1)) o h Q hQ) (by first | rfl | simp)
       | false =>
        have h := cF b6 h
        refine XU.run E0_ok 1 15 [3, 4, 5, 10, 12, 14, 15, 16, 21, 106, 107, 181, 182, 183, 216] rfl (σ' := [(3, pp 0 0), (4, s0 1 lh1_1.length), (5, ii x5_1), (10, ii x10_1), (12, ii x12_1), (14, .map (some 2)), (15, ii x107_1), (16, ii x16_2), (21, ii x21_2), (106, ii x106_1), (107, ii x107_1), (181, s0 1 lh1_1.length), (182, ii x182_2), (183, ii x183_2), (216, .bool false)]) (by kernel_rfl) ?_
        refine XU.done (by kernel_rfl) ?_
        show XQ _ _ _ _ _ _ _ _
        refine XQ.cond (s := (.tmp 216)) (b := false) (by kernel_rfl) (by kernel_rfl) (fun q => by cases q) (fun _ => ?_)
        refine XQ.skip (by kernel_rfl) ?_
        show XQ _ _ _ _ _ _ _ _
        refine XQ.region (by kernel_rfl) ?_
        refine XR.runS E0_ok 1 2 [(3, pp 0 0), (4, s0 1 lh1_1.length), (5, ii x5_1), (10, ii x10_1), (12, ii x12_1), (14, .map (some 2)), (15, ii x107_1), (16, ii x16_2), (21, ii x21_2), (106, ii x106_1), (107, ii x107_1), (181, s0 1 lh1_1.length), (182, ii x182_2), (183, ii (w64 (x183_2 + 1)))] rfl (by kernel_rfl) ?_
        refine XR.done (by kernel_rfl) ?_
        show XL _ _ _ _ _ _ _ _ _
        refine XL.ren (σ' := [(3, pp 0 0), (4, s0 1 lh1_1.length), (5, ii x5_1), (10, ii x10_1), (12, ii x12_1), (14, .map (some 2)), (15, ii x107_1), (16, ii x16_2), (21, ii x21_2), (106, ii x106_1), (107, ii x107_1), (181, s0 1 lh1_1.length), (182, ii x182_2), (183, ii (w64 (x183_2 + 1)))]) (h' := [(2, .imap (imC (Value.int .i64) mh2_1)), (1, rc (encI .i64) lh1_1 0 3 1), (0, .cells [ii xh0_0_1, ii xh0_1_1, ii xh0_2_1] 0 23 0)]) (c' := 3) [0, 1, 2] (by decide) rfl ⟨by kernel_rfl, by kernel_rfl, by kernel_rfl, by kernel_rfl, by kernel_rfl, by kernel_rfl, by kernel_rfl, by kernel_rfl, by kernel_rfl, by kernel_rfl, by kernel_rfl, by kernel_rfl, by kernel_rfl, by kernel_rfl, trivial⟩ ⟨⟨_, _, rfl, rfl, .inl ⟨rfl, trivial⟩⟩, ⟨_, _, rfl, rfl, .inl ⟨rfl, rowC_scal (encI_ok .i64) _⟩⟩, ⟨_, _, rfl, rfl, .inr ⟨_, _, _, _, rfl, rfl⟩⟩, trivial⟩ rfl ?_
        refine XL.conv (f7_2_ok m fuel x5_1 x10_1 x12_1 x106_1 x107_1 xh0_0_1 xh0_1_1 xh0_2_1 lh1_1 mh2_1 x16_2 x21_2 x182_2 (w64 (x183_2 + 1)) o h Q hQ) (by first | rfl | simp)
     | false =>
      have h := cF b4 h
      refine XU.run E0_ok 1 23 [3, 4, 5, 10, 12, 14, 15, 16, 21, 106, 107, 181, 182, 183, 216] rfl (σ' := [(3, pp 0 0), (4, s0 1 lh1_1.length), (5, ii x5_1), (10, ii x10_1), (12, ii x12_1), (14, .map (some 2)), (15, ii x107_1), (16, ii x16_2), (21, ii x21_2), (106, ii x106_1), (107, ii x107_1), (181, s0 1 lh1_1.length), (182, ii x182_2), (183, ii x183_2), (216, .bool false)]) (by kernel_rfl) ?_
      refine XU.done (by kernel_rfl) ?_
      show XQ _ _ _ _ _ _ _ _
      refine XQ.cond (s := (.tmp 216)) (b := false) (by kernel_rfl) (by kernel_rfl) (fun q => by cases q) (fun _ => ?_)
      refine XQ.skip (by kernel_rfl) ?_
      show XQ _ _ _ _ _ _ _ _
      refine XQ.region (by kernel_rfl) ?_
      refine XR.runS E0_ok 1 2 [(3, pp 0 0), (4, s0 1 lh1_1.length), (5, ii x5_1), (10, ii x10_1), (12, ii x12_1), (14, .map (some 2)), (15, ii x107_1), (16, ii x16_2), (21, ii x21_2), (106, ii x106_1), (107, ii x107_1), (181, s0 1 lh1_1.length), (182, ii x182_2), (183, ii (w64 (x183_2 + 1)))] rfl (by kernel_rfl) ?_
      refine XR.done (by kernel_rfl) ?_
      show XL _ _ _ _ _ _ _ _ _
      refine XL.ren (σ' := [(3, pp 0 0), (4, s0 1 lh1_1.length), (5, ii x5_1), (10, ii x10_1), (12, ii x12_1), (14, .map (some 2)), (15, ii x107_1), (16, ii x16_2), (21, ii x21_2), (106, ii x106_1), (107, ii x107_1), (181, s0 1 lh1_1.length), (182, ii x182_2), (183, ii (w64 (x183_2 + 1)))]) (h' := [(2, .imap (imC (Value.int .i64) mh2_1)), (1, rc (encI .i64) lh1_1 0 3 1), (0, .cells [ii xh0_0_1, ii xh0_1_1, ii xh0_2_1] 0 23 0)]) (c' := 3) [0, 1, 2] (by decide) rfl ⟨by kernel_rfl, by kernel_rfl, by kernel_rfl, by kernel_rfl, by kernel_rfl, by kernel_rfl, by kernel_rfl, by kernel_rfl, by kernel_rfl, by kernel_rfl, by kernel_rfl, by kernel_rfl, by kernel_rfl, by kernel_rfl, trivial⟩ ⟨⟨_, _, rfl, rfl, .inl ⟨rfl, trivial⟩⟩, ⟨_, _, rfl, rfl, .inl ⟨rfl, rowC_scal (encI_ok .i64) _⟩⟩, ⟨_, _, rfl, rfl, .inr ⟨_, _, _, _, rfl, rfl⟩⟩, trivial⟩ rfl ?_
      refine XL.conv (f7_2_ok m fuel x5_1 x10_1 x12_1 x106_1 x107_1 xh0_0_1 xh0_1_1 xh0_2_1 lh1_1 mh2_1 x16_2 x21_2 x182_2 (w64 (x183_2 + 1)) o h Q hQ) (by first | rfl | simp)
  | false =>
   have h := cF b1 h
   refine XQ.cond (s := (.tmp 184)) (b := false) (by kernel_rfl) (by kernel_rfl) (fun q => by cases q) (fun _ => ?_)
   refine XQ.ren (σ' := [(3, pp 0 0), (4, s0 1 lh1_1.length), (5, ii x5_1), (10, ii x10_1), (12, ii x12_1), (14, .map (some 2)), (21, ii x21_2), (106, ii x106_1), (107, ii x107_1)]) (h' := [(2, .imap (imC (Value.int .i64) mh2_1)), (1, rc (encI .i64) lh1_1 0 3 1), (0, .cells [ii xh0_0_1, ii xh0_1_1, ii xh0_2_1] 0 23 0)]) (c' := 3) [0, 1, 2] (by decide) rfl ⟨by kernel_rfl, by kernel_rfl, by kernel_rfl, by kernel_rfl, by kernel_rfl, by kernel_rfl, by kernel_rfl, by kernel_rfl, by kernel_rfl, trivial⟩ ⟨⟨_, _, rfl, rfl, .inl ⟨rfl, trivial⟩⟩, ⟨_, _, rfl, rfl, .inl ⟨rfl, rowC_scal (encI_ok .i64) _⟩⟩, ⟨_, _, rfl, rfl, .inr ⟨_, _, _, _, rfl, rfl⟩⟩, trivial⟩ rfl ?_
   refine XQ.exit (i := 2) (by kernel_rfl) ?_
   cases h
   exact hQ

inductive Of7_1 where
 | r
 | x0 (x5_x01 : Int) (x10_x01 : Int) (x12_x01 : Int) (xh0_0_x01 : Int) (xh0_1_x01 : Int) (xh0_2_x01 : Int) (lh1_x01 : List Int) (mh2_x01 : List (Int × Int))

def f7_1 (m : Nat) : Nat → Int → Int → Int → Int → Int → Int → Int → Int → List Int → List (Int × Int) → Option Of7_1
 | 0, _, _, _, _, _, _, _, _, _, _ => none
 | fuel + 1, x5_1, x10_1, x12_1, x106_1, x107_1, xh0_0_1, xh0_1_1, xh0_2_1, lh1_1, mh2_1 =>
  cond (decide (x107_1 < x106_1)) (
   (f22 m xh0_0_1 xh0_1_1 xh0_2_1 x107_1).bind fun r13 =>
    (f24 m xh0_0_1 xh0_1_1 xh0_2_1 r13.1).bind fun r14 =>
     cond (r13.2 != 0) (
      some (.r)
     ) (
      cond (r14.2 != 0) (
       some (.r)
      ) (
       cond (r13.1 != (cond (decide (x107_1 < (w64 (x5_1 - x10_1)))) (w64 (x107_1 + x10_1)) (cond (decide (x107_1 < x12_1)) (w64 ((w64 (x107_1 + x10_1)) - x12_1)) (w64 (x107_1 - x12_1))))) (
        some (.r)
       ) (
        cond (r14.1 != x107_1) (
         some (.r)
        ) (
         cond (decide (r13.1 < 0)) (
          some (.r)
         ) (
          cond (decide (r13.1 ≥ x5_1)) (
           some (.r)
          ) (
           cond (inRow r13.1 lh1_1.length) (
            cond (inRow x107_1 lh1_1.length) (
             cond (xh0_0_1 != 0) (
              (f7_2 m m x5_1 x10_1 x12_1 x106_1 x107_1 xh0_0_1 xh0_1_1 xh0_2_1 lh1_1 mh2_1 r13.1 (Int.tmod (w64 ((w64 ((List.getD lh1_1 (Int.toNat r13.1) 0) - (List.getD lh1_1 (Int.toNat x107_1) 0))) + xh0_0_1)) xh0_0_1) ((lh1_1.length : Nat) : Int) 0).bind fun o2 =>
               match o2 with
               | .r =>
                some (.r)
               | .x2 x21_x22 =>
                f7_1 m fuel x5_1 x10_1 x12_1 x106_1 (w64 (x107_1 + 1)) xh0_0_1 xh0_1_1 xh0_2_1 lh1_1 (putM mh2_1 x21_x22 (w64 ((getM 0 mh2_1 x21_x22) + 1)))
             ) none
            ) none
           ) none
          )
         )
        )
       )
      )
     )
  ) (
   some (.x0 x5_1 x10_1 x12_1 xh0_0_1 xh0_1_1 xh0_2_1 lh1_1 mh2_1)
  )

theorem f7_1_ok (m : Nat) : ∀ (fuel : Nat) (x5_1 : Int) (x10_1 : Int) (x12_1 : Int) (x106_1 : Int) (x107_1 : Int) (xh0_0_1 : Int) (xh0_1_1 : Int) (xh0_2_1 : Int) (lh1_1 : List Int) (mh2_1 : List (Int × Int)) (o : Of7_1), f7_1 m fuel x5_1 x10_1 x12_1 x106_1 x107_1 xh0_0_1 xh0_1_1 xh0_2_1 lh1_1 mh2_1 = some o → ∀ Q : QP, (match o with | .r => Q .ret [(2, .bool false)] [] 0 | .x0 x5_x01 x10_x01 x12_x01 xh0_0_x01 xh0_1_x01 xh0_2_x01 lh1_x01 mh2_x01 => Q (.exit 0) [(3, pp 0 0), (4, s0 1 lh1_x01.length), (5, ii x5_x01), (10, ii x10_x01), (12, ii x12_x01), (14, .map (some 2))] [(2, .imap (imC (Value.int .i64) mh2_x01)), (1, rc (encI .i64) lh1_x01 0 3 1), (0, .cells [ii xh0_0_x01, ii xh0_1_x01, ii xh0_2_x01] 0 23 0)] 3) → XL E0 273 0 fuel f7_L1 [(3, pp 0 0), (4, s0 1 lh1_1.length), (5, ii x5_1), (10, ii x10_1), (12, ii x12_1), (14, .map (some 2)), (106, ii x106_1), (107, ii x107_1)] [(2, .imap (imC (Value.int .i64) mh2_1)), (1, rc (encI .i64) lh1_1 0 3 1), (0, .cells [ii xh0_0_1, ii xh0_1_1, ii xh0_2_1] 0 23 0)] 3 Q
 | 0, x5_1, x10_1, x12_1, x106_1, x107_1, xh0_0_1, xh0_1_1, xh0_2_1, lh1_1, mh2_1, o, h, Q, hQ => by cases h
 | fuel + 1, x5_1, x10_1, x12_1, x106_1, x107_1, xh0_0_1, xh0_1_1, xh0_2_1, lh1_1, mh2_1, o, h, Q, hQ => by
  unfold f7_1 at h
  refine XL.succ E0_ok ?_
  refine XQ.seq E0_ok (by kernel_rfl) ?_
  refine XQ.region (by kernel_rfl) ?_
  refine XR.runS E0_ok 1 1 [(3, pp 0 0), (4, s0 1 lh1_1.length), (5, ii x5_1), (10, ii x10_1), (12, ii x12_1), (14, .map (some 2)), (106, ii x106_1), (107, ii x107_1), (108, .bool (decide (x107_1 < x106_1)))] rfl (by kernel_rfl) ?_
  refine XR.done (by kernel_rfl) ?_
  show XQ _ _ _ _ _ _ _ _
  refine XQ.seq E0_ok (by kernel_rfl) ?_
  cases b1 : (decide (x107_1 < x106_1) : Bool) with
  | true =>
   have h := cT b1 h
   refine XQ.cond (s := (.tmp 108)) (b := true) (by kernel_rfl) (by kernel_rfl) (fun _ => ?_) (fun q => by cases q)
   refine XQ.skip (by kernel_rfl) ?_
   show XQ _ _ _ _ _ _ _ _
   refine XQ.seq E0_ok (by kernel_rfl) ?_
   refine XQ.block (id := 1) (by kernel_rfl) ?_
   refine XQ.seq E0_ok (by kernel_rfl) ?_
   refine XQ.region (by kernel_rfl) ?_
   refine XR.runS E0_ok 1 2 [(3, pp 0 0), (4, s0 1 lh1_1.length), (5, ii x5_1), (10, ii x10_1), (12, ii x12_1), (14, .map (some 2)), (15, ii x107_1), (106, ii x106_1), (107, ii x107_1)] rfl (by kernel_rfl) ?_
   refine XR.done (by kernel_rfl) ?_
   show XQ _ _ _ _ _ _ _ _
   refine XQ.seq E0_ok (by kernel_rfl) ?_
   refine XQ.region (by kernel_rfl) ?_
   refine XR.runS E0_ok 1 2 [(3, pp 0 0), (4, s0 1 lh1_1.length), (5, ii x5_1), (10, ii x10_1), (12, ii x12_1), (14, .map (some 2)), (15, ii x107_1), (106, ii x106_1), (107, ii x107_1), (111, .agg #[ii xh0_0_1, ii xh0_1_1, ii xh0_2_1]), (112, ii x107_1)] rfl (by kernel_rfl) ?_
   obtain ⟨r13, r13_h, h⟩ := bS h
   refine XR.call E0_ok [3, 4, 5, 10, 12, 14, 15, 106, 107, 113] rfl (K := 22) (args := [.agg #[ii xh0_0_1, ii xh0_1_1, ii xh0_2_1], ii x107_1]) (d := (some (path 12 113))) (by kernel_rfl) (KC.of_calls E0_ok (F := Proofs.Try.f22) (v := .tuple #[ii r13.1, ii r13.2]) (by kernel_rfl) rfl rfl (fun w hI => f22_ok m xh0_0_1 xh0_1_1 xh0_2_1 x107_1 r13 r13_h w hI)) ?_
   rintro _ _ _ ⟨rfl, rfl, rfl⟩
   refine XR.conv (σ' := [(3, pp 0 0), (4, s0 1 lh1_1.length), (5, ii x5_1), (10, ii x10_1), (12, ii x12_1), (14, .map (some 2)), (15, ii x107_1), (106, ii x106_1), (107, ii x107_1), (113, .tuple #[ii r13.1, ii r13.2])]) (h' := [(2, .imap (imC (Value.int .i64) mh2_1)), (1, rc (encI .i64) lh1_1 0 3 1), (0, .cells [ii xh0_0_1, ii xh0_1_1, ii xh0_2_1] 0 23 0)]) (c' := 3) ?_ (by kernel_rfl)
   refine XR.runS E0_ok 1 5 [(3, pp 0 0), (4, s0 1 lh1_1.length), (5, ii x5_1), (10, ii x10_1), (12, ii x12_1), (14, .map (some 2)), (15, ii x107_1), (16, ii r13.1), (17, ii r13.2), (106, ii x106_1), (107, ii x107_1)] rfl (by kernel_rfl) ?_
   refine XR.done (by kernel_rfl) ?_
   show XQ _ _ _ _ _ _ _ _
   refine XQ.seq E0_ok (by kernel_rfl) ?_
   refine XQ.region (by kernel_rfl) ?_
   refine XR.runS E0_ok 1 2 [(3, pp 0 0), (4, s0 1 lh1_1.length), (5, ii x5_1), (10, ii x10_1), (12, ii x12_1), (14, .map (some 2)), (15, ii x107_1), (16, ii r13.1), (17, ii r13.2), (106, ii x106_1), (107, ii x107_1), (117, .agg #[ii xh0_0_1, ii xh0_1_1, ii xh0_2_1]), (118, ii r13.1)] rfl (by kernel_rfl) ?_
   obtain ⟨r14, r14_h, h⟩ := bS h
   refine XR.call E0_ok [3, 4, 5, 10, 12, 14, 15, 16, 17, 106, 107, 119] rfl (K := 24) (args := [.agg #[ii xh0_0_1, ii xh0_1_1, ii xh0_2_1], ii r13.1]) (d := (some (path 12 119))) (by kernel_rfl) (KC.of_calls E0_ok (F := Proofs.Try.f24) (v := .tuple #[ii r14.1, ii r14.2]) (by kernel_rfl) rfl rfl (fun w hI => f24_ok m xh0_0_1 xh0_1_1 xh0_2_1 r13.1 r14 r14_h w hI)) ?_
   rintro _ _ _ ⟨rfl, rfl, rfl⟩
   refine XR.conv (σ' := [(3, pp 0 0), (4, s0 1 lh1_1.length), (5, ii x5_1), (10, ii x10_1), (12, ii x12_1), (14, .map (some 2)), (15, ii x107_1), (16, ii r13.1), (17, ii r13.2), (106, ii x106_1), (107, ii x107_1), (119, .tuple #[ii r14.1, ii r14.2])]) (h' := [(2, .imap (imC (Value.int .i64) mh2_1)), (1, rc (encI .i64) lh1_1 0 3 1), (0, .cells [ii xh0_0_1, ii xh0_1_1, ii xh0_2_1] 0 23 0)]) (c' := 3) ?_ (by kernel_rfl)
   refine XR.runS E0_ok 1 5 [(3, pp 0 0), (4, s0 1 lh1_1.length), (5, ii x5_1), (10, ii x10_1), (12, ii x12_1), (14, .map (some 2)), (15, ii x107_1), (16, ii r13.1), (17, ii r13.2), (18, ii r14.1), (19, ii r14.2), (106, ii x106_1), (107, ii x107_1)] rfl (by kernel_rfl) ?_
   refine XR.done (by kernel_rfl) ?_
   show XQ _ _ _ _ _ _ _ _
   refine XQ.seq E0_ok (by kernel_rfl) ?_
   refine XQ.region (by kernel_rfl) ?_
   refine XR.runS E0_ok 1 4 [(3, pp 0 0), (4, s0 1 lh1_1.length), (5, ii x5_1), (10, ii x10_1), (12, ii x12_1), (14, .map (some 2)), (15, ii x107_1), (16, ii r13.1), (17, ii r13.2), (18, ii r14.1), (19, ii r14.2), (20, ii (w64 (x107_1 - x12_1))), (106, ii x106_1), (107, ii x107_1)] rfl (by kernel_rfl) ?_
   refine XR.done (by kernel_rfl) ?_
   show XQ _ _ _ _ _ _ _ _
   refine XQ.seq E0_ok (by kernel_rfl) ?_
   refine XQ.seq E0_ok (by kernel_rfl) ?_
   refine XQ.region (by kernel_rfl) ?_
   refine XR.runS E0_ok 1 5 [(3, pp 0 0), (4, s0 1 lh1_1.length), (5, ii x5_1), (10, ii x10_1), (12, ii x12_1), (14, .map (some 2)), (15, ii x107_1), (16, ii r13.1), (17, ii r13.2), (18, ii r14.1), (19, ii r14.2), (20, ii (w64 (x107_1 - x12_1))), (106, ii x106_1), (107, ii x107_1), (129, .bool (decide (x107_1 < (w64 (x5_1 - x10_1)))))] rfl (by kernel_rfl) ?_
   refine XR.done (by kernel_rfl) ?_
   show XQ _ _ _ _ _ _ _ _
   refine XQ.meetC (σ' := [(3, pp 0 0), (4, s0 1 lh1_1.length), (5, ii x5_1), (10, ii x10_1), (12, ii x12_1), (14, .map (some 2)), (15, ii x107_1), (16, ii r13.1), (17, ii r13.2), (18, ii r14.1), (19, ii r14.2), (20, ii (cond (decide (x107_1 < (w64 (x5_1 - x10_1)))) (w64 (x107_1 + x10_1)) (cond (decide (x107_1 < x12_1)) (w64 ((w64 (x107_1 + x10_1)) - x12_1)) (w64 (x107_1 - x12_1))))), (106, ii x106_1), (107, ii x107_1)]) (h' := [(2, .imap (imC (Value.int .i64) mh2_1)), (1, rc (encI .i64) lh1_1 0 3 1), (0, .cells [ii xh0_0_1, ii xh0_1_1, ii xh0_2_1] 0 23 0)]) (c' := 3) ?_ ?_
   rotate_left
   ·refine XQ.cond (s := (.tmp 129)) (b := decide (x107_1 < (w64 (x5_1 - x10_1)))) (by kernel_rfl) (by kernel_rfl) (fun b2 => ?_) (fun b2 => ?_)
    ·refine XQ.region (by kernel_rfl) ?_
     refine XR.runS E0_ok 1 4 [(3, pp 0 0), (4, s0 1 lh1_1.length), (5, ii x5_1), (10, ii x10_1), (12, ii x12_1), (14, .map (some 2)), (15, ii x107_1), (16, ii r13.1), (17, ii r13.2), (18, ii r14.1), (19, ii r14.2), (20, ii (w64 (x107_1 + x10_1))), (106, ii x106_1), (107, ii x107_1)] rfl (by kernel_rfl) ?_
     refine XR.done (by kernel_rfl) ?_
     refine ⟨rfl, ?_, ?_⟩
     ·try rw [b2]
      exact ⟨by kernel_rfl, by kernel_rfl, by kernel_rfl, by kernel_rfl, by kernel_rfl, by kernel_rfl, by kernel_rfl, by kernel_rfl, by kernel_rfl, by kernel_rfl, by kernel_rfl, by kernel_rfl, by kernel_rfl, by kernel_rfl, trivial⟩
     ·try rw [b2]
      kernel_rfl
    ·refine XQ.seq E0_ok (by kernel_rfl) ?_
     refine XQ.region (by kernel_rfl) ?_
     refine XR.runS E0_ok 1 3 [(3, pp 0 0), (4, s0 1 lh1_1.length), (5, ii x5_1), (10, ii x10_1), (12, ii x12_1), (14, .map (some 2)), (15, ii x107_1), (16, ii r13.1), (17, ii r13.2), (18, ii r14.1), (19, ii r14.2), (20, ii (w64 (x107_1 - x12_1))), (106, ii x106_1), (107, ii x107_1), (135, .bool (decide (x107_1 < x12_1)))] rfl (by kernel_rfl) ?_
     refine XR.done (by kernel_rfl) ?_
     show XQ _ _ _ _ _ _ _ _
     refine XQ.meetC (σ' := [(3, pp 0 0), (4, s0 1 lh1_1.length), (5, ii x5_1), (10, ii x10_1), (12, ii x12_1), (14, .map (some 2)), (15, ii x107_1), (16, ii r13.1), (17, ii r13.2), (18, ii r14.1), (19, ii r14.2), (20, ii (cond (decide (x107_1 < x12_1)) (w64 ((w64 (x107_1 + x10_1)) - x12_1)) (w64 (x107_1 - x12_1)))), (106, ii x106_1), (107, ii x107_1)]) (h' := [(2, .imap (imC (Value.int .i64) mh2_1)), (1, rc (encI .i64) lh1_1 0 3 1), (0, .cells [ii xh0_0_1, ii xh0_1_1, ii xh0_2_1] 0 23 0)]) (c' := 3) ?_ ?_
     rotate_left
     ·refine XQ.cond (s := (.tmp 135)) (b := decide (x107_1 < x12_1)) (by kernel_rfl) (by kernel_rfl) (fun b2 => ?_) (fun b2 => ?_)
      ·refine XQ.region (by kernel_rfl) ?_
       refine XR.runS E0_ok 1 6 [(3, pp 0 0), (4, s0 1 lh1_1.length), (5, ii x5_1), (10, ii x10_1), (12, ii x12_1), (14, .map (some 2)), (15, ii x107_1), (16, ii r13.1), (17, ii r13.2), (18, ii r14.1), (19, ii r14.2), (20, ii (w64 ((w64 (x107_1 + x10_1)) - x12_1))), (106, ii x106_1), (107, ii x107_1)] rfl (by kernel_rfl) ?_
       refine XR.done (by kernel_rfl) ?_
       refine ⟨rfl, ?_, ?_⟩
       ·try rw [b2]
        exact ⟨by kernel_rfl, by kernel_rfl, by kernel_rfl, by kernel_rfl, by kernel_rfl, by kernel_rfl, by kernel_rfl, by kernel_rfl, by kernel_rfl, by kernel_rfl, by kernel_rfl, by kernel_rfl, by kernel_rfl, by kernel_rfl, trivial⟩
       ·try rw [b2]
        kernel_rfl
      ·refine XQ.skip (by kernel_rfl) ?_
       refine ⟨rfl, ?_, ?_⟩
       ·try rw [b2]
        exact ⟨by kernel_rfl, by kernel_rfl, by kernel_rfl, by kernel_rfl, by kernel_rfl, by kernel_rfl, by kernel_rfl, by kernel_rfl, by kernel_rfl, by kernel_rfl, by kernel_rfl, by kernel_rfl, by kernel_rfl, by kernel_rfl, trivial⟩
       ·try rw [b2]
        kernel_rfl
     refine ⟨rfl, ?_, ?_⟩
     ·try rw [b2]
      exact ⟨by kernel_rfl, by kernel_rfl, by kernel_rfl, by kernel_rfl, by kernel_rfl, by kernel_rfl, by kernel_rfl, by kernel_rfl, by kernel_rfl, by kernel_rfl, by kernel_rfl, by kernel_rfl, by kernel_rfl, by kernel_rfl, trivial⟩
     ·try rw [b2]
      kernel_rfl
   show XQ _ _ _ _ _ _ _ _
   refine XQ.seq E0_ok (by kernel_rfl) ?_
   refine XQ.seq E0_ok (by kernel_rfl) ?_
   refine XQ.region (by kernel_rfl) ?_
   refine XR.runS E0_ok 1 3 [(3, pp 0 0), (4, s0 1 lh1_1.length), (5, ii x5_1), (10, ii x10_1), (12, ii x12_1), (14, .map (some 2)), (15, ii x107_1), (16, ii r13.1), (18, ii r14.1), (19, ii r14.2), (20, ii (cond (decide (x107_1 < (w64 (x5_1 - x10_1)))) (w64 (x107_1 + x10_1)) (cond (decide (x107_1 < x12_1)) (w64 ((w64 (x107_1 + x10_1)) - x12_1)) (w64 (x107_1 - x12_1))))), (106, ii x106_1), (107, ii x107_1), (143, .bool (r13.2 != 0))] rfl (by kernel_rfl) ?_
   cases b3 : (r13.2 != 0 : Bool) with
   | true =>
    have h := cT b3 h
    refine XR.runS E0_ok 1 22 [(3, pp 0 0), (4, s0 1 lh1_1.length), (5, ii x5_1), (10, ii x10_1), (12, ii x12_1), (14, .map (some 2)), (15, ii x107_1), (16, ii r13.1), (106, ii x106_1), (107, ii x107_1), (165, .bool true)] rfl (by kernel_rfl) ?_
    refine XR.done (by kernel_rfl) ?_
    show XQ _ _ _ _ _ _ _ _
    refine XQ.cond (s := (.tmp 165)) (b := true) (by kernel_rfl) (by kernel_rfl) (fun _ => ?_) (fun q => by cases q)
    refine XQ.seq E0_ok (by kernel_rfl) ?_
    refine XQ.region (by kernel_rfl) ?_
    refine XR.runS E0_ok 1 1 [(2, .bool false)] rfl (by kernel_rfl) ?_
    refine XR.done (by kernel_rfl) ?_
    show XQ _ _ _ _ _ _ _ _
    refine XQ.ren (σ' := [(2, .bool false)]) (h' := []) (c' := 0) [] (by decide) rfl ⟨by kernel_rfl, trivial⟩ trivial rfl ?_
    refine XQ.ret (by kernel_rfl) ?_
    cases h
    exact hQ
   | false =>
    have h := cF b3 h
    refine XR.runS E0_ok 1 4 [(3, pp 0 0), (4, s0 1 lh1_1.length), (5, ii x5_1), (10, ii x10_1), (12, ii x12_1), (14, .map (some 2)), (15, ii x107_1), (16, ii r13.1), (18, ii r14.1), (20, ii (cond (decide (x107_1 < (w64 (x5_1 - x10_1)))) (w64 (x107_1 + x10_1)) (cond (decide (x107_1 < x12_1)) (w64 ((w64 (x107_1 + x10_1)) - x12_1)) (w64 (x107_1 - x12_1))))), (106, ii x106_1), (107, ii x107_1), (147, .bool (r14.2 != 0))] rfl (by kernel_rfl) ?_
    cases b4 : (r14.2 != 0 : Bool) with
    | true =>
     have h := cT b4 h
     refine XR.runS E0_ok 1 18 [(3, pp 0 0), (4, s0 1 lh1_1.length), (5, ii x5_1), (10, ii x10_1), (12, ii x12_1), (14, .map (some 2)), (15, ii x107_1), (16, ii r13.1), (106, ii x106_1), (107, ii x107_1), (165, .bool true)] rfl (by kernel_rfl) ?_
     refine XR.done (by kernel_rfl) ?_
     show XQ _ _ _ _ _ _ _ _
     refine XQ.cond (s := (.tmp 165)) (b := true) (by kernel_rfl) (by kernel_rfl) (fun _ => ?_) (fun q => by cases q)
     refine XQ.seq E0_ok (by kernel_rfl) ?_
     refine XQ.region (by kernel_rfl) ?_
     refine XR.runS E0_ok 1 1 [(2, .bool false)] rfl (by kernel_rfl) ?_
     refine XR.done (by kernel_rfl) ?_
     show XQ _ _ _ _ _ _ _ _
     refine XQ.ren (σ' := [(2, .bool false)]) (h' := []) (c' := 0) [] (by decide) rfl ⟨by kernel_rfl, trivial⟩ trivial rfl ?_
     refine XQ.ret (by kernel_rfl) ?_
     cases h
     exact hQ
    | false =>
     have h := cF b4 h
     refine XR.runS E0_ok 1 5 [(3, pp 0 0), (4, s0 1 lh1_1.length), (5, ii x5_1), (10, ii x10_1), (12, ii x12_1), (14, .map (some 2)), (15, ii x107_1), (16, ii r13.1), (18, ii r14.1), (106, ii x106_1), (107, ii x107_1), (152, .bool (r13.1 != (cond (decide (x107_1 < (w64 (x5_1 - x10_1)))) (w64 (x107_1 + x10_1)) (cond (decide (x107_1 < x12_1)) (w64 ((w64 (x107_1 + x10_1)) - x12_1)) (w64 (x107_1 - x12_1))))))] rfl (by kernel_rfl) ?_
     cases b5 : (r13.1 != (cond (decide (x107_1 < (w64 (x5_1 - x10_1)))) (w64 (x107_1 + x10_1)) (cond (decide (x107_1 < x12_1)) (w64 ((w64 (x107_1 + x10_1)) - x12_1)) (w64 (x107_1 - x12_1)))) : Bool) with
     | true =>
      have h := cT b5 h
      refine XR.runS E0_ok 1 13 [(3, pp 0 0), (4, s0 1 lh1_1.length), (5, ii x5_1), (10, ii x10_1), (12, ii x12_1), (14, .map (some 2)), (15, ii x107_1), (16, ii r13.1), (106, ii x106_1), (107, ii x107_1), (165, .bool true)] rfl (by kernel_rfl) ?_
      refine XR.done (by kernel_rfl) ?_
      show XQ _ _ _ _ _ _ _ _
      refine XQ.cond (s := (.tmp 165)) (b := true) (by kernel_rfl) (by kernel_rfl) (fun _ => ?_) (fun q => by cases q)
      refine XQ.seq E0_ok (by kernel_rfl) ?_
      refine XQ.region (by kernel_rfl) ?_
      refine XR.runS E0_ok 1 1 [(2, .bool false)] rfl (by kernel_rfl) ?_
      refine XR.done (by kernel_rfl) ?_
      show XQ _ _ _ _ _ _ _ _
      refine XQ.ren (σ' := [(2, .bool false)]) (h' := []) (c' := 0) [] (by decide) rfl ⟨by kernel_rfl, trivial⟩ trivial rfl ?_
      refine XQ.ret (by kernel_rfl) ?_
      cases h
      exact hQ
     | false =>
      have h := cF b5 h
      refine XR.runS E0_ok 1 5 [(3, pp 0 0), (4, s0 1 lh1_1.length), (5, ii x5_1), (10, ii x10_1), (12, ii x12_1), (14, .map (some 2)), (15, ii x107_1), (16, ii r13.1), (106, ii x106_1), (107, ii x107_1), (157, .bool (r14.1 != x107_1))] rfl (by kernel_rfl) ?_
      cases b6 : (r14.1 != x107_1 : Bool) with
      | true =>
       have h := cT b6 h
       refine XR.runS E0_ok 1 8 [(3, pp 0 0), (4, s0 1 lh1_1.length), (5, ii x5_1), (10, ii x10_1), (12, ii x12_1), (14, .map (some 2)), (15, ii x107_1), (16, ii r13.1), (106, ii x106_1), (107, ii x107_1), (165, .bool true)] rfl (by kernel_rfl) ?_
       refine XR.done (by kernel_rfl) ?_
       show XQ _ _ _ _ _ _ _ _
       refine XQ.cond (s := (.tmp 165)) (b := true) (by kernel_rfl) (by kernel_rfl) (fun _ => ?_) (fun q => by cases q)
       refine XQ.seq E0_ok (by kernel_rfl) ?_
       refine XQ.region (by kernel_rfl) ?_
       refine XR.runS E0_ok 1 1 [(2, .bool false)] rfl (by kernel_rfl) ?_
       refine XR.done (by kernel_rfl) ?_
       show XQ _ _ _ _ _ _ _ _
       refine XQ.ren (σ' := [(2, .bool false)]) (h' := []) (c' := 0) [] (by decide) rfl ⟨by kernel_rfl, trivial⟩ trivial rfl ?_
       refine XQ.ret (by kernel_rfl) ?_
       cases h
       exact hQ
      | false =>
       have h := cF b6 h
       refine XR.runS E0_ok 1 4 [(3, pp 0 0), (4, s0 1 lh1_1.length), (5, ii x5_1), (10, ii x10_1), (12, ii x12_1), (14, .map (some 2)), (15, ii x107_1), (16, ii r13.1), (106, ii x106_1), (107, ii x107_1), (161, .bool (decide (r13.1 < 0)))] rfl (by kernel_rfl) ?_
       cases b7 : (decide (r13.1 < 0) : Bool) with
       | true =>
        have h := cT b7 h
        refine XR.runS E0_ok 1 4 [(3, pp 0 0), (4, s0 1 lh1_1.length), (5, ii x5_1), (10, ii x10_1), (12, ii x12_1), (14, .map (some 2)), (15, ii x107_1), (16, ii r13.1), (106, ii x106_1), (107, ii x107_1), (165, .bool true)] rfl (by kernel_rfl) ?_
        refine XR.done (by kernel_rfl) ?_
        show XQ _ _ _ _ _ _ _ _
        refine XQ.cond (s := (.tmp 165)) (b := true) (by kernel_rfl) (by kernel_rfl) (fun _ => ?_) (fun q => by cases q)
        refine XQ.seq E0_ok (by kernel_rfl) ?_
        refine XQ.region (by kernel_rfl) ?_
        refine XR.runS E0_ok 1 1 [(2, .bool false)] rfl (by kernel_rfl) ?_
        refine XR.done (by kernel_rfl) ?_
        show XQ _ _ _ _ _ _ _ _
        refine XQ.ren (σ' := [(2, .bool false)]) (h' := []) (c' := 0) [] (by decide) rfl ⟨by kernel_rfl, trivial⟩ trivial rfl ?_
        refine XQ.ret (by kernel_rfl) ?_
        cases h
        exact hQ
       | false =>
        have h := cF b7 h
        refine XR.runS E0_ok 1 4 [(3, pp 0 0), (4, s0 1 lh1_1.length), (5, ii x5_1), (10, ii x10_1), (12, ii x12_1), (14, .map (some 2)), (15, ii x107_1), (16, ii r13.1), (106, ii x106_1), (107, ii x107_1), (165, .bool (decide (r13.1 ≥ x5_1)))] rfl (by kernel_rfl) ?_
        refine XR.done (by kernel_rfl) ?_
        show XQ _ _ _ _ _ _ _ _
        cases b8 : (decide (r13.1 ≥ x5_1) : Bool) with
        | true =>
         have h := cT b8 h
         refine XQ.cond (s := (.tmp 165)) (b := true) (by kernel_rfl) (by kernel_rfl) (fun _ => ?_) (fun q => by cases q)
         refine XQ.seq E0_ok (by kernel_rfl) ?_
         refine XQ.region (by kernel_rfl) ?_
         refine XR.runS E0_ok 1 1 [(2, .bool false)] rfl (by kernel_rfl) ?_
         refine XR.done (by kernel_rfl) ?_
         show XQ _ _ _ _ _ _ _ _
         refine XQ.ren (σ' := [(2, .bool false)]) (h' := []) (c' := 0) [] (by decide) rfl ⟨by kernel_rfl, trivial⟩ trivial rfl ?_
         refine XQ.ret (by kernel_rfl) ?_
         cases h
         exact hQ
        | false =>
         have h := cF b8 h
         refine XQ.cond (s := (.tmp 165)) (b := false) (by kernel_rfl) (by kernel_rfl) (fun q => by cases q) (fun _ => ?_)
         refine XQ.skip (by kernel_rfl) ?_
         show XQ _ _ _ _ _ _ _ _
         refine XQ.seq E0_ok (by kernel_rfl) ?_
         refine XQ.quiet E0_ok (by kernel_rfl) (by kernel_rfl) ?_
         refine XU.run E0_ok 1 2 [3, 4, 5, 10, 12, 14, 15, 16, 106, 107, 166, 167] rfl (σ' := [(3, pp 0 0), (4, s0 1 lh1_1.length), (5, ii x5_1), (10, ii x10_1), (12, ii x12_1), (14, .map (some 2)), (15, ii x107_1), (16, ii r13.1), (106, ii x106_1), (107, ii x107_1), (166, s0 1 lh1_1.length), (167, ii r13.1)]) (by kernel_rfl) ?_
         cases b9 : (inRow r13.1 lh1_1.length : Bool) with
         | false => cases (cF b9 h)
         | true =>
          have h := cT b9 h
          refine XU.rd E0_ok [3, 4, 5, 10, 12, 14, 15, 16, 106, 107, 168] rfl (v := pp 1 ((Int.toNat r13.1) * 1)) (v_idx (s := 1) (x := (src 273 (.tmp 166))) (y := (src 273 (.tmp 167))) (b := 1) (o := 0) (len := lh1_1.length) (cap := lh1_1.length) (ik := .i64) (i := r13.1) (off := (Int.toNat r13.1) * 1) (d := (some (path 12 168))) (by kernel_rfl) (by kernel_rfl) (by kernel_rfl) b9 (by omega)) (σ' := [(3, pp 0 0), (4, s0 1 lh1_1.length), (5, ii x5_1), (10, ii x10_1), (12, ii x12_1), (14, .map (some 2)), (15, ii x107_1), (16, ii r13.1), (106, ii x106_1), (107, ii x107_1), (168, pp 1 ((Int.toNat r13.1) * 1))]) (by kernel_rfl) ?_
          refine XU.rd E0_ok [3, 4, 5, 10, 12, 14, 15, 16, 106, 107, 169] rfl (v := ii (List.getD lh1_1 (Int.toNat r13.1) 0)) (v_load1 (encI_ok .i64) (x := (src 273 (.tmp 168))) (b := 1) (off := (Int.toNat r13.1) * 1) (xs := lh1_1) (fz := 0) (e := 3) (es := 1) (d := (some (path 12 169))) (by kernel_rfl) (by kernel_rfl) (by kernel_rfl) (Int.toNat r13.1) 0 0 (by first | rfl | omega) (row_len (inRow_toNat b9) (by simp)) rfl rfl) (σ' := [(3, pp 0 0), (4, s0 1 lh1_1.length), (5, ii x5_1), (10, ii x10_1), (12, ii x12_1), (14, .map (some 2)), (15, ii x107_1), (16, ii r13.1), (106, ii x106_1), (107, ii x107_1), (169, ii (List.getD lh1_1 (Int.toNat r13.1) 0))]) (by kernel_rfl) ?_
          refine XU.run E0_ok 1 2 [3, 4, 5, 10, 12, 14, 15, 16, 106, 107, 169, 170, 171] rfl (σ' := [(3, pp 0 0), (4, s0 1 lh1_1.length), (5, ii x5_1), (10, ii x10_1), (12, ii x12_1), (14, .map (some 2)), (15, ii x107_1), (16, ii r13.1), (106, ii x106_1), (107, ii x107_1), (169, ii (List.getD lh1_1 (Int.toNat r13.1) 0)), (170, s0 1 lh1_1.length), (171, ii x107_1)]) (by kernel_rfl) ?_
          cases b10 : (inRow x107_1 lh1_1.length : Bool) with
          | false => cases (cF b10 h)
          | true =>
           have h := cT b10 h
           refine XU.rd E0_ok [3, 4, 5, 10, 12, 14, 15, 16, 106, 107, 169, 172] rfl (v := pp 1 ((Int.toNat x107_1) * 1)) (v_idx (s := 1) (x := (src 273 (.tmp 170))) (y := (src 273 (.tmp 171))) (b := 1) (o := 0) (len := lh1_1.length) (cap := lh1_1.length) (ik := .i64) (i := x107_1) (off := (Int.toNat x107_1) * 1) (d := (some (path 12 172))) (by kernel_rfl) (by kernel_rfl) (by kernel_rfl) b10 (by omega)) (σ' := [(3, pp 0 0), (4, s0 1 lh1_1.length), (5, ii x5_1), (10, ii x10_1), (12, ii x12_1), (14, .map (some 2)), (15, ii x107_1), (16, ii r13.1), (106, ii x106_1), (107, ii x107_1), (169, ii (List.getD lh1_1 (Int.toNat r13.1) 0)), (172, pp 1 ((Int.toNat x107_1) * 1))]) (by kernel_rfl) ?_
           refine XU.rd E0_ok [3, 4, 5, 10, 12, 14, 15, 16, 106, 107, 169, 173] rfl (v := ii (List.getD lh1_1 (Int.toNat x107_1) 0)) (v_load1 (encI_ok .i64) (x := (src 273 (.tmp 172))) (b := 1) (off := (Int.toNat x107_1) * 1) (xs := lh1_1) (fz := 0) (e := 3) (es := 1) (d := (some (path 12 173))) (by kernel_rfl) (by kernel_rfl) (by kernel_rfl) (Int.toNat x107_1) 0 0 (by first | rfl | omega) (row_len (inRow_toNat b10) (by simp)) rfl rfl) (σ' := [(3, pp 0 0), (4, s0 1 lh1_1.length), (5, ii x5_1), (10, ii x10_1), (12, ii x12_1), (14, .map (some 2)), (15, ii x107_1), (16, ii r13.1), (106, ii x106_1), (107, ii x107_1), (169, ii (List.getD lh1_1 (Int.toNat r13.1) 0)), (173, ii (List.getD lh1_1 (Int.toNat x107_1) 0))]) (by kernel_rfl) ?_
           refine XU.run E0_ok 1 6 [3, 4, 5, 10, 12, 14, 15, 16, 106, 107, 177, 179] rfl (σ' := [(3, pp 0 0), (4, s0 1 lh1_1.length), (5, ii x5_1), (10, ii x10_1), (12, ii x12_1), (14, .map (some 2)), (15, ii x107_1), (16, ii r13.1), (106, ii x106_1), (107, ii x107_1), (177, ii (w64 ((w64 ((List.getD lh1_1 (Int.toNat r13.1) 0) - (List.getD lh1_1 (Int.toNat x107_1) 0))) + xh0_0_1))), (179, ii xh0_0_1)]) (by kernel_rfl) ?_
           cases b11 : (xh0_0_1 != 0 : Bool) with
           | false => cases (cF b11 h)
           | true =>
            have h := cT b11 h
            have e12 : insV (headI ((gsOf E0 273 (opsOf (lft (rgt (rgt (rgt (rgt (rgt (rgt (lft (lft (rgt (rgt f7_L1))))))))))))).drop 14) (trS 273 [(3, pp 0 0), (4, s0 1 lh1_1.length), (5, ii x5_1), (10, ii x10_1), (12, ii x12_1), (14, .map (some 2)), (15, ii x107_1), (16, ii r13.1), (106, ii x106_1), (107, ii x107_1), (177, ii (w64 ((w64 ((List.getD lh1_1 (Int.toNat r13.1) 0) - (List.getD lh1_1 (Int.toNat x107_1) 0))) + xh0_0_1))), (179, ii xh0_0_1)])) (trS 273 [(3, pp 0 0), (4, s0 1 lh1_1.length), (5, ii x5_1), (10, ii x10_1), (12, ii x12_1), (14, .map (some 2)), (15, ii x107_1), (16, ii r13.1), (106, ii x106_1), (107, ii x107_1), (177, ii (w64 ((w64 ((List.getD lh1_1 (Int.toNat r13.1) 0) - (List.getD lh1_1 (Int.toNat x107_1) 0))) + xh0_0_1))), (179, ii xh0_0_1)]) [(2, .imap (imC (Value.int .i64) mh2_1)), (1, rc (encI .i64) lh1_1 0 3 1), (0, .cells [ii xh0_0_1, ii xh0_1_1, ii xh0_2_1] 0 23 0)] = (match (xh0_0_1 != 0 : Bool) with | true => some (ii (Int.tmod (w64 ((w64 ((List.getD lh1_1 (Int.toNat r13.1) 0) - (List.getD lh1_1 (Int.toNat x107_1) 0))) + xh0_0_1)) xh0_0_1)) | false => none) := by kernel_rfl
            refine XU.rd E0_ok [3, 4, 5, 10, 12, 14, 15, 16, 106, 107, 180] rfl (e12.trans (by rw [b11])) (σ' := [(3, pp 0 0), (4, s0 1 lh1_1.length), (5, ii x5_1), (10, ii x10_1), (12, ii x12_1), (14, .map (some 2)), (15, ii x107_1), (16, ii r13.1), (106, ii x106_1), (107, ii x107_1), (180, ii (Int.tmod (w64 ((w64 ((List.getD lh1_1 (Int.toNat r13.1) 0) - (List.getD lh1_1 (Int.toNat x107_1) 0))) + xh0_0_1)) xh0_0_1))]) (by kernel_rfl) ?_
            refine XU.run E0_ok 1 1 [3, 4, 5, 10, 12, 14, 15, 16, 21, 106, 107] rfl (σ' := [(3, pp 0 0), (4, s0 1 lh1_1.length), (5, ii x5_1), (10, ii x10_1), (12, ii x12_1), (14, .map (some 2)), (15, ii x107_1), (16, ii r13.1), (21, ii (Int.tmod (w64 ((w64 ((List.getD lh1_1 (Int.toNat r13.1) 0) - (List.getD lh1_1 (Int.toNat x107_1) 0))) + xh0_0_1)) xh0_0_1)), (106, ii x106_1), (107, ii x107_1)]) (by kernel_rfl) ?_
            refine XU.done (by kernel_rfl) ?_
            show XQ _ _ _ _ _ _ _ _
            refine XQ.seq E0_ok (by kernel_rfl) ?_
            refine XQ.seq E0_ok (by kernel_rfl) ?_
            refine XQ.region (by kernel_rfl) ?_
            refine XR.runS E0_ok 1 3 [(3, pp 0 0), (4, s0 1 lh1_1.length), (5, ii x5_1), (10, ii x10_1), (12, ii x12_1), (14, .map (some 2)), (15, ii x107_1), (16, ii r13.1), (21, ii (Int.tmod (w64 ((w64 ((List.getD lh1_1 (Int.toNat r13.1) 0) - (List.getD lh1_1 (Int.toNat x107_1) 0))) + xh0_0_1)) xh0_0_1)), (106, ii x106_1), (107, ii x107_1), (181, s0 1 lh1_1.length), (182, ii ((lh1_1.length : Nat) : Int)), (183, ii 0)] rfl (by kernel_rfl) ?_
            refine XR.done (by kernel_rfl) ?_
            show XQ _ _ _ _ _ _ _ _
            refine XQ.block (id := 2) (by kernel_rfl) ?_
            refine XQ.loop m (by kernel_rfl) ?_
            obtain ⟨o2, o2_h, h⟩ := bS h
            refine XL.ren (σ' := [(3, pp 0 0), (4, s0 1 lh1_1.length), (5, ii x5_1), (10, ii x10_1), (12, ii x12_1), (14, .map (some 2)), (15, ii x107_1), (16, ii r13.1), (21, ii (Int.tmod (w64 ((w64 ((List.getD lh1_1 (Int.toNat r13.1) 0) - (List.getD lh1_1 (Int.toNat x107_1) 0))) + xh0_0_1)) xh0_0_1)), (106, ii x106_1), (107, ii x107_1), (181, s0 1 lh1_1.length), (182, ii ((lh1_1.length : Nat) : Int)), (183, ii 0)]) (h' := [(2, .imap (imC (Value.int .i64) mh2_1)), (1, rc (encI .i64) lh1_1 0 3 1), (0, .cells [ii xh0_0_1, ii xh0_1_1, ii xh0_2_1] 0 23 0)]) (c' := 3) [0, 1, 2] (by decide) rfl ⟨by kernel_rfl, by kernel_rfl, by kernel_rfl, by kernel_rfl, by kernel_rfl, by kernel_rfl, by kernel_rfl, by kernel_rfl, by kernel_rfl, by kernel_rfl, by kernel_rfl, by kernel_rfl, by kernel_rfl, by kernel_rfl, trivial⟩ ⟨⟨_, _, rfl, rfl, .inl ⟨rfl, trivial⟩⟩, ⟨_, _, rfl, rfl, .inl ⟨rfl, rowC_scal (encI_ok .i64) _⟩⟩, ⟨_, _, rfl, rfl, .inr ⟨_, _, _, _, rfl, rfl⟩⟩, trivial⟩ rfl ?_
            cases o2 with
            | r =>
             dsimp only at h
             refine XL.conv (f7_2_ok m m x5_1 x10_1 x12_1 x106_1 x107_1 xh0_0_1 xh0_1_1 xh0_2_1 lh1_1 mh2_1 r13.1 (Int.tmod (w64 ((w64 ((List.getD lh1_1 (Int.toNat r13.1) 0) - (List.getD lh1_1 (Int.toNat x107_1) 0))) + xh0_0_1)) xh0_0_1) ((lh1_1.length : Nat) : Int) 0 (.r) o2_h _ ?_) (by first | rfl | simp)
             cases h
             exact hQ
            | x2 x21_x22 =>
             dsimp only at h
             refine XL.conv (f7_2_ok m m x5_1 x10_1 x12_1 x106_1 x107_1 xh0_0_1 xh0_1_1 xh0_2_1 lh1_1 mh2_1 r13.1 (Int.tmod (w64 ((w64 ((List.getD lh1_1 (Int.toNat r13.1) 0) - (List.getD lh1_1 (Int.toNat x107_1) 0))) + xh0_0_1)) xh0_0_1) ((lh1_1.length : Nat) : Int) 0 (.x2 x21_x22) o2_h _ ?_) (by first | rfl | simp)
             show XQ _ _ _ _ _ _ _ _
             refine XQ.region (by kernel_rfl) ?_
             refine XR.runS E0_ok 1 2 [(3, pp 0 0), (4, s0 1 lh1_1.length), (5, ii x5_1), (10, ii x10_1), (12, ii x12_1), (14, .map (some 2)), (106, ii x106_1), (107, ii x107_1), (218, .map (some 2)), (219, ii x21_x22)] rfl (by kernel_rfl) ?_
             refine XR.rd E0_ok [3, 4, 5, 10, 12, 14, 106, 107, 218, 219, 220] rfl (v := ii (getM 0 mh2_1 x21_x22)) (v_mget (Value.int .i64) (x := (src 273 (.tmp 218))) (i := (src 273 (.tmp 219))) (z := .int .i64 0) (d := (some (path 12 220))) (b := 2) (k := x21_x22) (l := mh2_1) (d0 := 0) (by kernel_rfl) (by kernel_rfl) (by kernel_rfl) (by kernel_rfl) rfl rfl rfl) (σ' := [(3, pp 0 0), (4, s0 1 lh1_1.length), (5, ii x5_1), (10, ii x10_1), (12, ii x12_1), (14, .map (some 2)), (106, ii x106_1), (107, ii x107_1), (218, .map (some 2)), (219, ii x21_x22), (220, ii (getM 0 mh2_1 x21_x22))]) (by kernel_rfl) ?_
             refine XR.runS E0_ok 1 1 [(3, pp 0 0), (4, s0 1 lh1_1.length), (5, ii x5_1), (10, ii x10_1), (12, ii x12_1), (14, .map (some 2)), (106, ii x106_1), (107, ii x107_1), (218, .map (some 2)), (219, ii x21_x22), (221, ii (w64 ((getM 0 mh2_1 x21_x22) + 1)))] rfl (by kernel_rfl) ?_
             refine XR.ef E0_ok [3, 4, 5, 10, 12, 14, 106, 107] rfl (e_mput (Value.int .i64) (m := (src 273 (.tmp 218))) (i := (src 273 (.tmp 219))) (x := (src 273 (.tmp 221))) (d := none) (b := 2) (k := x21_x22) (l := mh2_1) (a := w64 ((getM 0 mh2_1 x21_x22) + 1)) (h' := [(2, .imap (imC (Value.int .i64) (putM mh2_1 x21_x22 (w64 ((getM 0 mh2_1 x21_x22) + 1))))), (1, rc (encI .i64) lh1_1 0 3 1), (0, .cells [ii xh0_0_1, ii xh0_1_1, ii xh0_2_1] 0 23 0)]) (by kernel_rfl) (by kernel_rfl) (by kernel_rfl) (by kernel_rfl) (by kernel_rfl) rfl rfl) (σ' := [(3, pp 0 0), (4, s0 1 lh1_1.length), (5, ii x5_1), (10, ii x10_1), (12, ii x12_1), (14, .map (some 2)), (106, ii x106_1), (107, ii x107_1)]) (by kernel_rfl) ?_
             refine XR.done (by kernel_rfl) ?_
             show XQ _ _ _ _ _ _ _ _
             refine XQ.region (by kernel_rfl) ?_
             refine XR.runS E0_ok 1 2 [(3, pp 0 0), (4, s0 1 lh1_1.length), (5, ii x5_1), (10, ii x10_1), (12, ii x12_1), (14, .map (some 2)), (106, ii x106_1), (107, ii (w64 (x107_1 + 1)))] rfl (by kernel_rfl) ?_
             refine XR.done (by kernel_rfl) ?_
             show XL _ _ _ _ _ _ _ _ _
             refine XL.ren (σ' := [(3, pp 0 0), (4, s0 1 lh1_1.length), (5, ii x5_1), (10, ii x10_1), (12, ii x12_1), (14, .map (some 2)), (106, ii x106_1), (107, ii (w64 (x107_1 + 1)))]) (h' := [(2, .imap (imC (Value.int .i64) (putM mh2_1 x21_x22 (w64 ((getM 0 mh2_1 x21_x22) + 1))))), (1, rc (encI .i64) lh1_1 0 3 1), (0, .cells [ii xh0_0_1, ii xh0_1_1, ii xh0_2_1] 0 23 0)]) (c' := 3) [0, 1, 2] (by decide) rfl ⟨by kernel_rfl, by kernel_rfl, by kernel_rfl, by kernel_rfl, by kernel_rfl, by kernel_rfl, by kernel_rfl, by kernel_rfl, trivial⟩ ⟨⟨_, _, rfl, rfl, .inl ⟨rfl, trivial⟩⟩, ⟨_, _, rfl, rfl, .inl ⟨rfl, rowC_scal (encI_ok .i64) _⟩⟩, ⟨_, _, rfl, rfl, .inr ⟨_, _, _, _, rfl, rfl⟩⟩, trivial⟩ rfl ?_
             refine XL.conv (f7_1_ok m fuel x5_1 x10_1 x12_1 x106_1 (w64 (x107_1 + 1)) xh0_0_1 xh0_1_1 xh0_2_1 lh1_1 (putM mh2_1 x21_x22 (w64 ((getM 0 mh2_1 x21_x22) + 1))) o h Q hQ) (by first | rfl | simp)
  | false =>
   have h := cF b1 h
   refine XQ.cond (s := (.tmp 108)) (b := false) (by kernel_rfl) (by kernel_rfl) (fun q => by cases q) (fun _ => ?_)
   refine XQ.ren (σ' := [(3, pp 0 0), (4, s0 1 lh1_1.length), (5, ii x5_1), (10, ii x10_1), (12, ii x12_1), (14, .map (some 2))]) (h' := [(2, .imap (imC (Value.int .i64) mh2_1)), (1, rc (encI .i64) lh1_1 0 3 1), (0, .cells [ii xh0_0_1, ii xh0_1_1, ii xh0_2_1] 0 23 0)]) (c' := 3) [0, 1, 2] (by decide) rfl ⟨by kernel_rfl, by kernel_rfl, by kernel_rfl, by kernel_rfl, by kernel_rfl, by kernel_rfl, trivial⟩ ⟨⟨_, _, rfl, rfl, .inl ⟨rfl, trivial⟩⟩, ⟨_, _, rfl, rfl, .inl ⟨rfl, rowC_scal (encI_ok .i64) _⟩⟩, ⟨_, _, rfl, rfl, .inr ⟨_, _, _, _, rfl, rfl⟩⟩, trivial⟩ rfl ?_
   refine XQ.exit (i := 0) (by kernel_rfl) ?_
   cases h
   exact hQ

def f7 (m : Nat) (a_Marks : Int) (a_Step : Int) (a_Turns : Int) : Option (Bool) :=
 (f45 m a_Marks a_Step a_Turns 100).bind fun r1 =>
  (f46 m r1.1 r1.2.1 r1.2.2).bind fun r2 =>
   cond (r1.2.2 == 1) (
    (f22 m r1.1 r1.2.1 r1.2.2 0).bind fun r5 =>
     (f24 m r1.1 r1.2.1 r1.2.2 0).bind fun r6 =>
      cond (r5.2 == 0) (
       cond (r6.2 == 0) (
        cond (r5.1 == 0) (
         cond (r6.1 == 0) (
          some (true)
         ) (
          some (false)
         )
        ) (
         some (false)
        )
       ) (
        some (false)
       )
      ) (
       some (false)
      )
   ) (
    (f22 m r1.1 r1.2.1 r1.2.2 0).bind fun r7 =>
     (f24 m r1.1 r1.2.1 r1.2.2 0).bind fun r8 =>
      cond (r7.2 != 0) (
       some (false)
      ) (
       cond (r8.2 != 0) (
        some (false)
       ) (
        cond (decide (r7.1 < 1)) (
         some (false)
        ) (
         cond (decide (r7.1 ≥ r1.2.2)) (
          some (false)
         ) (
          cond (decide (r8.1 < 1)) (
           some (false)
          ) (
           cond (decide (r8.1 ≥ r1.2.2)) (
            some (false)
           ) (
            cond (decide ((w64 (r7.1 + r8.1)) < r1.2.2)) (
             some (false)
            ) (
             (f7_1 m m r1.2.2 r7.1 r8.1 r1.2.2 0 r1.1 r1.2.1 r1.2.2 r2 []).bind fun o1 =>
              match o1 with
              | .r =>
               some (false)
              | .x0 x5_x01 x10_x01 x12_x01 xh0_0_x01 xh0_1_x01 xh0_2_x01 lh1_x01 mh2_x01 =>
               cond (inRow x10_x01 lh1_x01.length) (
                cond (inRow x12_x01 lh1_x01.length) (
                 cond (List.all (putM (putM (putM [] (List.getD lh1_x01 (Int.toNat x10_x01) 0) (w64 ((getM 0 [] (List.getD lh1_x01 (Int.toNat x10_x01) 0)) + (w64 (x5_x01 - x10_x01))))) (w64 (xh0_0_x01 - (List.getD lh1_x01 (Int.toNat x12_x01) 0))) (w64 ((getM 0 (putM [] (List.getD lh1_x01 (Int.toNat x10_x01) 0) (w64 ((getM 0 [] (List.getD lh1_x01 (Int.toNat x10_x01) 0)) + (w64 (x5_x01 - x10_x01))))) (w64 (xh0_0_x01 - (List.getD lh1_x01 (Int.toNat x12_x01) 0)))) + (w64 (x5_x01 - x12_x01))))) (w64 ((List.getD lh1_x01 (Int.toNat x10_x01) 0) + (w64 (xh0_0_x01 - (List.getD lh1_x01 (Int.toNat x12_x01) 0))))) (w64 ((getM 0 (putM (putM [] (List.getD lh1_x01 (Int.toNat x10_x01) 0) (w64 ((getM 0 [] (List.getD lh1_x01 (Int.toNat x10_x01) 0)) + (w64 (x5_x01 - x10_x01))))) (w64 (xh0_0_x01 - (List.getD lh1_x01 (Int.toNat x12_x01) 0))) (w64 ((getM 0 (putM [] (List.getD lh1_x01 (Int.toNat x10_x01) 0) (w64 ((getM 0 [] (List.getD lh1_x01 (Int.toNat x10_x01) 0)) + (w64 (x5_x01 - x10_x01))))) (w64 (xh0_0_x01 - (List.getD lh1_x01 (Int.toNat x12_x01) 0)))) + (w64 (x5_x01 - x12_x01))))) (w64 ((List.getD lh1_x01 (Int.toNat x10_x01) 0) + (w64 (xh0_0_x01 - (List.getD lh1_x01 (Int.toNat x12_x01) 0)))))) + (w64 ((w64 (x10_x01 + x12_x01)) - x5_x01))))) (fun (q16 : Int × Int) => !((getM 0 mh2_x01 q16.1) != q16.2))) (
                  some (true)
                 ) none
                ) none
               ) none
            )
           )
          )
         )
        )
       )
      )
   )

theorem f7_ok (m : Nat) (a_Marks : Int) (a_Step : Int) (a_Turns : Int) (o : Bool) (h : f7 m a_Marks a_Step a_Turns = some o) (w : World) (hI : anyInv w) : Calls Proofs.Try.prog 7 #[.agg #[.int .u8 a_Marks, .int .u8 a_Step, .int .u8 a_Turns]] w fun e w' => e = .returned (.bool o) ∧ Below w.heap.size w w' := by
 refine KC.calls (E := E0) (args := [.agg #[.int .u8 a_Marks, .int .u8 a_Step, .int .u8 a_Turns]]) (v := .bool o) rfl rfl (KC.bodyN E0_ok (F := Proofs.Try.f7) (by kernel_rfl) (code := f7_C7) (by kernel_rfl) (nt := 273) (by kernel_rfl) (rs := [.tmp 2]) (by kernel_rfl) (by kernel_rfl) (σ := [(0, .agg #[.int .u8 a_Marks, .int .u8 a_Step, .int .u8 a_Turns])]) (by kernel_rfl) ?_) w (anyInv_size hI) hI
 unfold f7 at h
 refine XQ.seq E0_ok (by kernel_rfl) ?_
 refine XQ.region (by kernel_rfl) ?_
 refine XR.runT E0_ok 1 2 [(1, pp 0 0)] [(0, .cells [.int .u8 a_Marks, .int .u8 a_Step, .int .u8 a_Turns] 0 52 0)] 1 rfl (by kernel_rfl) ?_
 refine XR.done (by kernel_rfl) ?_
 show XQ _ _ _ _ _ _ _ _
 refine XQ.seq E0_ok (by kernel_rfl) ?_
 refine XQ.region (by kernel_rfl) ?_
 refine XR.runS E0_ok 1 1 [(29, .agg #[.int .u8 a_Marks, .int .u8 a_Step, .int .u8 a_Turns])] rfl (by kernel_rfl) ?_
 obtain ⟨r1, r1_h, h⟩ := bS h
 refine XR.call E0_ok [30] rfl (K := 45) (args := [.agg #[.int .u8 a_Marks, .int .u8 a_Step, .int .u8 a_Turns], ii 100]) (d := (some (path 12 30))) (by kernel_rfl) (KC.of_calls E0_ok (F := Proofs.Try.f45) (v := .agg #[ii r1.1, ii r1.2.1, ii r1.2.2]) (by kernel_rfl) rfl rfl (fun w hI => f45_ok m a_Marks a_Step a_Turns 100 r1 r1_h w hI)) ?_
 rintro _ _ _ ⟨rfl, rfl, rfl⟩
 refine XR.conv (σ' := [(30, .agg #[ii r1.1, ii r1.2.1, ii r1.2.2])]) (h' := [(0, .cells [.int .u8 a_Marks, .int .u8 a_Step, .int .u8 a_Turns] 0 52 0)]) (c' := 1) ?_ (by kernel_rfl)
 refine XR.runT E0_ok 1 2 [(3, pp 1 0)] [(1, .cells [ii r1.1, ii r1.2.1, ii r1.2.2] 0 23 0), (0, .cells [.int .u8 a_Marks, .int .u8 a_Step, .int .u8 a_Turns] 0 52 0)] 2 rfl (by kernel_rfl) ?_
 refine XR.done (by kernel_rfl) ?_
 show XQ _ _ _ _ _ _ _ _
 refine XQ.seq E0_ok (by kernel_rfl) ?_
 refine XQ.region (by kernel_rfl) ?_
 refine XR.runS E0_ok 1 1 [(3, pp 1 0), (31, .agg #[ii r1.1, ii r1.2.1, ii r1.2.2])] rfl (by kernel_rfl) ?_
 obtain ⟨r2, r2_h, h⟩ := bS h
 refine XR.call E0_ok [3, 32] rfl (K := 46) (args := [.agg #[ii r1.1, ii r1.2.1, ii r1.2.2]]) (d := (some (path 12 32))) (by kernel_rfl) (KC.lift (V2 := s0 2 r2.length) (H2 := [(2, rc (encI .i64) r2 0 3 1)]) [1, 2, 0] (f46_ok m r1.1 r1.2.1 r1.2.2 r2 r2_h) rfl (by decide) (by decide) (by kernel_rfl) ⟨⟨_, _, rfl, rfl, .inl ⟨rfl, rowC_scal (encI_ok .i64) _⟩⟩, trivial⟩ (by rfl)) ?_
 rintro _ _ _ ⟨rfl, rfl, rfl⟩
 refine XR.conv (σ' := [(3, pp 1 0), (32, s0 2 r2.length)]) (h' := [(2, rc (encI .i64) r2 0 3 1), (1, .cells [ii r1.1, ii r1.2.1, ii r1.2.2] 0 23 0), (0, .cells [.int .u8 a_Marks, .int .u8 a_Step, .int .u8 a_Turns] 0 52 0)]) (c' := 3) ?_ (by kernel_rfl)
 refine XR.runS E0_ok 1 1 [(3, pp 1 0), (4, s0 2 r2.length)] rfl (by kernel_rfl) ?_
 refine XR.done (by kernel_rfl) ?_
 show XQ _ _ _ _ _ _ _ _
 refine XQ.seq E0_ok (by kernel_rfl) ?_
 refine XQ.region (by kernel_rfl) ?_
 refine XR.runS E0_ok 1 3 [(3, pp 1 0), (4, s0 2 r2.length), (5, ii r1.2.2)] rfl (by kernel_rfl) ?_
 refine XR.done (by kernel_rfl) ?_
 show XQ _ _ _ _ _ _ _ _
 refine XQ.seq E0_ok (by kernel_rfl) ?_
 refine XQ.seq E0_ok (by kernel_rfl) ?_
 refine XQ.region (by kernel_rfl) ?_
 refine XR.runS E0_ok 1 2 [(3, pp 1 0), (4, s0 2 r2.length), (5, ii r1.2.2), (36, .bool (r1.2.2 == 1))] rfl (by kernel_rfl) ?_
 refine XR.done (by kernel_rfl) ?_
 show XQ _ _ _ _ _ _ _ _
 cases b1 : (r1.2.2 == 1 : Bool) with
 | true =>
  have h := cT b1 h
  refine XQ.cond (s := (.tmp 36)) (b := true) (by kernel_rfl) (by kernel_rfl) (fun _ => ?_) (fun q => by cases q)
  refine XQ.seq E0_ok (by kernel_rfl) ?_
  refine XQ.region (by kernel_rfl) ?_
  refine XR.runS E0_ok 1 1 [(3, pp 1 0), (38, .agg #[ii r1.1, ii r1.2.1, ii r1.2.2])] rfl (by kernel_rfl) ?_
  obtain ⟨r5, r5_h, h⟩ := bS h
  refine XR.call E0_ok [3, 39] rfl (K := 22) (args := [.agg #[ii r1.1, ii r1.2.1, ii r1.2.2], ii 0]) (d := (some (path 12 39))) (by kernel_rfl) (KC.of_calls E0_ok (F := Proofs.Try.f22) (v := .tuple #[ii r5.1, ii r5.2]) (by kernel_rfl) rfl rfl (fun w hI => f22_ok m r1.1 r1.2.1 r1.2.2 0 r5 r5_h w hI)) ?_
  rintro _ _ _ ⟨rfl, rfl, rfl⟩
  refine XR.conv (σ' := [(3, pp 1 0), (39, .tuple #[ii r5.1, ii r5.2])]) (h' := [(2, rc (encI .i64) r2 0 3 1), (1, .cells [ii r1.1, ii r1.2.1, ii r1.2.2] 0 23 0), (0, .cells [.int .u8 a_Marks, .int .u8 a_Step, .int .u8 a_Turns] 0 52 0)]) (c' := 3) ?_ (by kernel_rfl)
  refine XR.runS E0_ok 1 5 [(3, pp 1 0), (6, ii r5.1), (7, ii r5.2)] rfl (by kernel_rfl) ?_
  refine XR.done (by kernel_rfl) ?_
  show XQ _ _ _ _ _ _ _ _
  refine XQ.seq E0_ok (by kernel_rfl) ?_
  refine XQ.region (by kernel_rfl) ?_
  refine XR.runS E0_ok 1 1 [(6, ii r5.1), (7, ii r5.2), (43, .agg #[ii r1.1, ii r1.2.1, ii r1.2.2])] rfl (by kernel_rfl) ?_
  obtain ⟨r6, r6_h, h⟩ := bS h
  refine XR.call E0_ok [6, 7, 44] rfl (K := 24) (args := [.agg #[ii r1.1, ii r1.2.1, ii r1.2.2], ii 0]) (d := (some (path 12 44))) (by kernel_rfl) (KC.of_calls E0_ok (F := Proofs.Try.f24) (v := .tuple #[ii r6.1, ii r6.2]) (by kernel_rfl) rfl rfl (fun w hI => f24_ok m r1.1 r1.2.1 r1.2.2 0 r6 r6_h w hI)) ?_
  rintro _ _ _ ⟨rfl, rfl, rfl⟩
  refine XR.conv (σ' := [(6, ii r5.1), (7, ii r5.2), (44, .tuple #[ii r6.1, ii r6.2])]) (h' := [(2, rc (encI .i64) r2 0 3 1), (1, .cells [ii r1.1, ii r1.2.1, ii r1.2.2] 0 23 0), (0, .cells [.int .u8 a_Marks, .int .u8 a_Step, .int .u8 a_Turns] 0 52 0)]) (c' := 3) ?_ (by kernel_rfl)
  refine XR.runS E0_ok 1 5 [(6, ii r5.1), (7, ii r5.2), (8, ii r6.1), (9, ii r6.2)] rfl (by kernel_rfl) ?_
  refine XR.done (by kernel_rfl) ?_
  show XQ _ _ _ _ _ _ _ _
  refine XQ.seq E0_ok (by kernel_rfl) ?_
  refine XQ.region (by kernel_rfl) ?_
  refine XR.runS E0_ok 1 3 [(6, ii r5.1), (8, ii r6.1), (9, ii r6.2), (49, .bool (r5.2 == 0))] rfl (by kernel_rfl) ?_
  cases b2 : (r5.2 == 0 : Bool) with
  | true =>
   have h := cT b2 h
   refine XR.runS E0_ok 1 4 [(6, ii r5.1), (8, ii r6.1), (53, .bool (r6.2 == 0))] rfl (by kernel_rfl) ?_
   cases b3 : (r6.2 == 0 : Bool) with
   | true =>
    have h := cT b3 h
    refine XR.runS E0_ok 1 4 [(8, ii r6.1), (57, .bool (r5.1 == 0))] rfl (by kernel_rfl) ?_
    cases b4 : (r5.1 == 0 : Bool) with
    | true =>
     have h := cT b4 h
     refine XR.runS E0_ok 1 4 [(61, .bool (r6.1 == 0))] rfl (by kernel_rfl) ?_
     cases b5 : (r6.1 == 0 : Bool) with
     | true =>
      have h := cT b5 h
      refine XR.call E0_ok [61, 62] rfl (K := 28) (args := []) (d := (some (path 12 62))) (by kernel_rfl) (KC.of_calls E0_ok (F := Proofs.Try.f28) (v := .bool true) (by kernel_rfl) rfl rfl (works_ok)) ?_
      rintro _ _ _ ⟨rfl, rfl, rfl⟩
      refine XR.conv (σ' := [(61, .bool true), (62, .bool true)]) (h' := [(2, rc (encI .i64) r2 0 3 1), (1, .cells [ii r1.1, ii r1.2.1, ii r1.2.2] 0 23 0), (0, .cells [.int .u8 a_Marks, .int .u8 a_Step, .int .u8 a_Turns] 0 52 0)]) (c' := 3) ?_ (by kernel_rfl)
      refine XR.runS E0_ok 1 2 [(2, .bool true)] rfl (by kernel_rfl) ?_
      refine XR.done (by kernel_rfl) ?_
      show XQ _ _ _ _ _ _ _ _
      refine XQ.ret (by kernel_rfl) ?_
      have h := Option.some.inj h
      subst h
      exact ⟨fun i q => (by cases q), .bool true, (by kernel_rfl), rfl⟩
     | false =>
      have h := cF b5 h
      refine XR.runS E0_ok 1 3 [(2, .bool false)] rfl (by kernel_rfl) ?_
      refine XR.done (by kernel_rfl) ?_
      show XQ _ _ _ _ _ _ _ _
      refine XQ.ret (by kernel_rfl) ?_
      have h := Option.some.inj h
      subst h
      exact ⟨fun i q => (by cases q), .bool false, (by kernel_rfl), rfl⟩
    | false =>
     have h := cF b4 h
     refine XR.runS E0_ok 1 7 [(2, .bool false)] rfl (by kernel_rfl) ?_
     refine XR.done (by kernel_rfl) ?_
     show XQ _ _ _ _ _ _ _ _
     refine XQ.ret (by kernel_rfl) ?_
     have h := Option.some.inj h
     subst h
     exact ⟨fun i q => (by cases q), .bool false, (by kernel_rfl), rfl⟩
   | false =>
    have h := cF b3 h
    refine XR.runS E0_ok 1 11 [(2, .bool false)] rfl (by kernel_rfl) ?_
    refine XR.done (by kernel_rfl) ?_
    show XQ _ _ _ _ _ _ _ _
    refine XQ.ret (by kernel_rfl) ?_
    have h := Option.some.inj h
    subst h
    exact ⟨fun i q => (by cases q), .bool false, (by kernel_rfl), rfl⟩
  | false =>
   have h := cF b2 h
   refine XR.runS E0_ok 1 15 [(2, .bool false)] rfl (by kernel_rfl) ?_
   refine XR.done (by kernel_rfl) ?_
   show XQ _ _ _ _ _ _ _ _
   refine XQ.ret (by kernel_rfl) ?_
   have h := Option.some.inj h
   subst h
   exact ⟨fun i q => (by cases q), .bool false, (by kernel_rfl), rfl⟩
 | false =>
  have h := cF b1 h
  refine XQ.cond (s := (.tmp 36)) (b := false) (by kernel_rfl) (by kernel_rfl) (fun q => by cases q) (fun _ => ?_)
  refine XQ.skip (by kernel_rfl) ?_
  show XQ _ _ _ _ _ _ _ _
  refine XQ.seq E0_ok (by kernel_rfl) ?_
  refine XQ.region (by kernel_rfl) ?_
  refine XR.runS E0_ok 1 1 [(3, pp 1 0), (4, s0 2 r2.length), (5, ii r1.2.2), (65, .agg #[ii r1.1, ii r1.2.1, ii r1.2.2])] rfl (by kernel_rfl) ?_
  obtain ⟨r7, r7_h, h⟩ := bS h
  refine XR.call E0_ok [3, 4, 5, 66] rfl (K := 22) (args := [.agg #[ii r1.1, ii r1.2.1, ii r1.2.2], ii 0]) (d := (some (path 12 66))) (by kernel_rfl) (KC.of_calls E0_ok (F := Proofs.Try.f22) (v := .tuple #[ii r7.1, ii r7.2]) (by kernel_rfl) rfl rfl (fun w hI => f22_ok m r1.1 r1.2.1 r1.2.2 0 r7 r7_h w hI)) ?_
  rintro _ _ _ ⟨rfl, rfl, rfl⟩
  refine XR.conv (σ' := [(3, pp 1 0), (4, s0 2 r2.length), (5, ii r1.2.2), (66, .tuple #[ii r7.1, ii r7.2])]) (h' := [(2, rc (encI .i64) r2 0 3 1), (1, .cells [ii r1.1, ii r1.2.1, ii r1.2.2] 0 23 0), (0, .cells [.int .u8 a_Marks, .int .u8 a_Step, .int .u8 a_Turns] 0 52 0)]) (c' := 3) ?_ (by kernel_rfl)
  refine XR.runS E0_ok 1 5 [(3, pp 1 0), (4, s0 2 r2.length), (5, ii r1.2.2), (10, ii r7.1), (11, ii r7.2)] rfl (by kernel_rfl) ?_
  refine XR.done (by kernel_rfl) ?_
  show XQ _ _ _ _ _ _ _ _
  refine XQ.seq E0_ok (by kernel_rfl) ?_
  refine XQ.region (by kernel_rfl) ?_
  refine XR.runS E0_ok 1 1 [(3, pp 1 0), (4, s0 2 r2.length), (5, ii r1.2.2), (10, ii r7.1), (11, ii r7.2), (70, .agg #[ii r1.1, ii r1.2.1, ii r1.2.2])] rfl (by kernel_rfl) ?_
  obtain ⟨r8, r8_h, h⟩ := bS h
  refine XR.call E0_ok [3, 4, 5, 10, 11, 71] rfl (K := 24) (args := [.agg #[ii r1.1, ii r1.2.1, ii r1.2.2], ii 0]) (d := (some (path 12 71))) (by kernel_rfl) (KC.of_calls E0_ok (F := Proofs.Try.f24) (v := .tuple #[ii r8.1, ii r8.2]) (by kernel_rfl) rfl rfl (fun w hI => f24_ok m r1.1 r1.2.1 r1.2.2 0 r8 r8_h w hI)) ?_
  rintro _ _ _ ⟨rfl, rfl, rfl⟩
  refine XR.conv (σ' := [(3, pp 1 0), (4, s0 2 r2.length), (5, ii r1.2.2), (10, ii r7.1), (11, ii r7.2), (71, .tuple #[ii r8.1, ii r8.2])]) (h' := [(2, rc (encI .i64) r2 0 3 1), (1, .cells [ii r1.1, ii r1.2.1, ii r1.2.2] 0 23 0), (0, .cells [.int .u8 a_Marks, .int .u8 a_Step, .int .u8 a_Turns] 0 52 0)]) (c' := 3) ?_ (by kernel_rfl)
  refine XR.runS E0_ok 1 5 [(3, pp 1 0), (4, s0 2 r2.length), (5, ii r1.2.2), (10, ii r7.1), (11, ii r7.2), (12, ii r8.1), (13, ii r8.2)] rfl (by kernel_rfl) ?_
  refine XR.done (by kernel_rfl) ?_
  show XQ _ _ _ _ _ _ _ _
  refine XQ.seq E0_ok (by kernel_rfl) ?_
  refine XQ.seq E0_ok (by kernel_rfl) ?_
  refine XQ.region (by kernel_rfl) ?_
  refine XR.runS E0_ok 1 3 [(3, pp 1 0), (4, s0 2 r2.length), (5, ii r1.2.2), (10, ii r7.1), (12, ii r8.1), (13, ii r8.2), (76, .bool (r7.2 != 0))] rfl (by kernel_rfl) ?_
  cases b6 : (r7.2 != 0 : Bool) with
  | true =>
   have h := cT b6 h
   refine XR.runS E0_ok 1 28 [(3, pp 1 0), (4, s0 2 r2.length), (5, ii r1.2.2), (10, ii r7.1), (12, ii r8.1), (104, .bool true)] rfl (by kernel_rfl) ?_
   refine XR.done (by kernel_rfl) ?_
   show XQ _ _ _ _ _ _ _ _
   refine XQ.cond (s := (.tmp 104)) (b := true) (by kernel_rfl) (by kernel_rfl) (fun _ => ?_) (fun q => by cases q)
   refine XQ.seq E0_ok (by kernel_rfl) ?_
   refine XQ.region (by kernel_rfl) ?_
   refine XR.runS E0_ok 1 1 [(2, .bool false)] rfl (by kernel_rfl) ?_
   refine XR.done (by kernel_rfl) ?_
   show XQ _ _ _ _ _ _ _ _
   refine XQ.ret (by kernel_rfl) ?_
   have h := Option.some.inj h
   subst h
   exact ⟨fun i q => (by cases q), .bool false, (by kernel_rfl), rfl⟩
  | false =>
   have h := cF b6 h
   refine XR.runS E0_ok 1 4 [(3, pp 1 0), (4, s0 2 r2.length), (5, ii r1.2.2), (10, ii r7.1), (12, ii r8.1), (80, .bool (r8.2 != 0))] rfl (by kernel_rfl) ?_
   cases b7 : (r8.2 != 0 : Bool) with
   | true =>
    have h := cT b7 h
    refine XR.runS E0_ok 1 24 [(3, pp 1 0), (4, s0 2 r2.length), (5, ii r1.2.2), (10, ii r7.1), (12, ii r8.1), (104, .bool true)] rfl (by kernel_rfl) ?_
    refine XR.done (by kernel_rfl) ?_
    show XQ _ _ _ _ _ _ _ _
    refine XQ.cond (s := (.tmp 104)) (b := true) (by kernel_rfl) (by kernel_rfl) (fun _ => ?_) (fun q => by cases q)
    refine XQ.seq E0_ok (by kernel_rfl) ?_
    refine XQ.region (by kernel_rfl) ?_
    refine XR.runS E0_ok 1 1 [(2, .bool false)] rfl (by kernel_rfl) ?_
    refine XR.done (by kernel_rfl) ?_
    show XQ _ _ _ _ _ _ _ _
    refine XQ.ret (by kernel_rfl) ?_
    have h := Option.some.inj h
    subst h
    exact ⟨fun i q => (by cases q), .bool false, (by kernel_rfl), rfl⟩
   | false =>
    have h := cF b7 h
    refine XR.runS E0_ok 1 4 [(3, pp 1 0), (4, s0 2 r2.length), (5, ii r1.2.2), (10, ii r7.1), (12, ii r8.1), (84, .bool (decide (r7.1 < 1)))] rfl (by kernel_rfl) ?_
    cases b8 : (decide (r7.1 < 1) : Bool) with
    | true =>
     have h := cT b8 h
     refine XR.runS E0_ok 1 20 [(3, pp 1 0), (4, s0 2 r2.length), (5, ii r1.2.2), (10, ii r7.1), (12, ii r8.1), (104, .bool true)] rfl (by kernel_rfl) ?_
     refine XR.done (by kernel_rfl) ?_
     show XQ _ _ _ _ _ _ _ _
     refine XQ.cond (s := (.tmp 104)) (b := true) (by kernel_rfl) (by kernel_rfl) (fun _ => ?_) (fun q => by cases q)
     refine XQ.seq E0_ok (by kernel_rfl) ?_
     refine XQ.region (by kernel_rfl) ?_
     refine XR.runS E0_ok 1 1 [(2, .bool false)] rfl (by kernel_rfl) ?_
     refine XR.done (by kernel_rfl) ?_
     show XQ _ _ _ _ _ _ _ _
     refine XQ.ret (by kernel_rfl) ?_
     have h := Option.some.inj h
     subst h
     exact ⟨fun i q => (by cases q), .bool false, (by kernel_rfl), rfl⟩
    | false =>
     have h := cF b8 h
     refine XR.runS E0_ok 1 5 [(3, pp 1 0), (4, s0 2 r2.length), (5, ii r1.2.2), (10, ii r7.1), (12, ii r8.1), (89, .bool (decide (r7.1 ≥ r1.2.2)))] rfl (by kernel_rfl) ?_
     cases b9 : (decide (r7.1 ≥ r1.2.2) : Bool) with
     | true =>
      have h := cT b9 h
      refine XR.runS E0_ok 1 15 [(3, pp 1 0), (4, s0 2 r2.length), (5, ii r1.2.2), (10, ii r7.1), (12, ii r8.1), (104, .bool true)] rfl (by kernel_rfl) ?_
      refine XR.done (by kernel_rfl) ?_
      show XQ _ _ _ _ _ _ _ _
      refine XQ.cond (s := (.tmp 104)) (b := true) (by kernel_rfl) (by kernel_rfl) (fun _ => ?_) (fun q => by cases q)
      refine XQ.seq E0_ok (by kernel_rfl) ?_
      refine XQ.region (by kernel_rfl) ?_
      refine XR.runS E0_ok 1 1 [(2, .bool false)] rfl (by kernel_rfl) ?_
      refine XR.done (by kernel_rfl) ?_
      show XQ _ _ _ _ _ _ _ _
      refine XQ.ret (by kernel_rfl) ?_
      have h := Option.some.inj h
      subst h
      exact ⟨fun i q => (by cases q), .bool false, (by kernel_rfl), rfl⟩
     | false =>
      have h := cF b9 h
      refine XR.runS E0_ok 1 4 [(3, pp 1 0), (4, s0 2 r2.length), (5, ii r1.2.2), (10, ii r7.1), (12, ii r8.1), (93, .bool (decide (r8.1 < 1)))] rfl (by kernel_rfl) ?_
      cases b10 : (decide (r8.1 < 1) : Bool) with
      | true =>
       have h := cT b10 h
       refine XR.runS E0_ok 1 11 [(3, pp 1 0), (4, s0 2 r2.length), (5, ii r1.2.2), (10, ii r7.1), (12, ii r8.1), (104, .bool true)] rfl (by kernel_rfl) ?_
       refine XR.done (by kernel_rfl) ?_
       show XQ _ _ _ _ _ _ _ _
       refine XQ.cond (s := (.tmp 104)) (b := true) (by kernel_rfl) (by kernel_rfl) (fun _ => ?_) (fun q => by cases q)
       refine XQ.seq E0_ok (by kernel_rfl) ?_
       refine XQ.region (by kernel_rfl) ?_
       refine XR.runS E0_ok 1 1 [(2, .bool false)] rfl (by kernel_rfl) ?_
       refine XR.done (by kernel_rfl) ?_
       show XQ _ _ _ _ _ _ _ _
       refine XQ.ret (by kernel_rfl) ?_
       have h := Option.some.inj h
       subst h
       exact ⟨fun i q => (by cases q), .bool false, (by kernel_rfl), rfl⟩
      | false =>
       have h := cF b10 h
       refine XR.runS E0_ok 1 5 [(3, pp 1 0), (4, s0 2 r2.length), (5, ii r1.2.2), (10, ii r7.1), (12, ii r8.1), (98, .bool (decide (r8.1 ≥ r1.2.2)))] rfl (by kernel_rfl) ?_
       cases b11 : (decide (r8.1 ≥ r1.2.2) : Bool) with
       | true =>
        have h := cT b11 h
        refine XR.runS E0_ok 1 6 [(3, pp 1 0), (4, s0 2 r2.length), (5, ii r1.2.2), (10, ii r7.1), (12, ii r8.1), (104, .bool true)] rfl (by kernel_rfl) ?_
        refine XR.done (by kernel_rfl) ?_
        show XQ _ _ _ _ _ _ _ _
        refine XQ.cond (s := (.tmp 104)) (b := true) (by kernel_rfl) (by kernel_rfl) (fun _ => ?_) (fun q => by cases q)
        refine XQ.seq E0_ok (by kernel_rfl) ?_
        refine XQ.region (by kernel_rfl) ?_
        refine XR.runS E0_ok 1 1 [(2, .bool false)] rfl (by kernel_rfl) ?_
        refine XR.done (by kernel_rfl) ?_
        show XQ _ _ _ _ _ _ _ _
        refine XQ.ret (by kernel_rfl) ?_
        have h := Option.some.inj h
        subst h
        exact ⟨fun i q => (by cases q), .bool false, (by kernel_rfl), rfl⟩
       | false =>
        have h := cF b11 h
        refine XR.runS E0_ok 1 6 [(3, pp 1 0), (4, s0 2 r2.length), (5, ii r1.2.2), (10, ii r7.1), (12, ii r8.1), (104, .bool (decide ((w64 (r7.1 + r8.1)) < r1.2.2)))] rfl (by kernel_rfl) ?_
        refine XR.done (by kernel_rfl) ?_
        show XQ _ _ _ _ _ _ _ _
        cases b12 : (decide ((w64 (r7.1 + r8.1)) < r1.2.2) : Bool) with
        | true =>
         have h := cT b12 h
         refine XQ.cond (s := (.tmp 104)) (b := true) (by kernel_rfl) (by kernel_rfl) (fun _ => ?_) (fun q => by cases q)
         refine XQ.seq E0_ok (by kernel_rfl) ?_
         refine XQ.region (by kernel_rfl) ?_
         refine XR.runS E0_ok 1 1 [(2, .bool false)] rfl (by kernel_rfl) ?_
         refine XR.done (by kernel_rfl) ?_
         show XQ _ _ _ _ _ _ _ _
         refine XQ.ret (by kernel_rfl) ?_
         have h := Option.some.inj h
         subst h
         exact ⟨fun i q => (by cases q), .bool false, (by kernel_rfl), rfl⟩
        | false =>
         have h := cF b12 h
         refine XQ.cond (s := (.tmp 104)) (b := false) (by kernel_rfl) (by kernel_rfl) (fun q => by cases q) (fun _ => ?_)
         refine XQ.skip (by kernel_rfl) ?_
         show XQ _ _ _ _ _ _ _ _
         refine XQ.seq E0_ok (by kernel_rfl) ?_
         refine XQ.region (by kernel_rfl) ?_
         refine XR.runT E0_ok 1 2 [(3, pp 1 0), (4, s0 2 r2.length), (5, ii r1.2.2), (10, ii r7.1), (12, ii r8.1), (14, .map (some 3))] [(3, .imap (imC (Value.int .i64) [])), (2, rc (encI .i64) r2 0 3 1), (1, .cells [ii r1.1, ii r1.2.1, ii r1.2.2] 0 23 0), (0, .cells [.int .u8 a_Marks, .int .u8 a_Step, .int .u8 a_Turns] 0 52 0)] 4 rfl (by kernel_rfl) ?_
         refine XR.done (by kernel_rfl) ?_
         show XQ _ _ _ _ _ _ _ _
         refine XQ.seq E0_ok (by kernel_rfl) ?_
         refine XQ.seq E0_ok (by kernel_rfl) ?_
         refine XQ.region (by kernel_rfl) ?_
         refine XR.runS E0_ok 1 2 [(3, pp 1 0), (4, s0 2 r2.length), (5, ii r1.2.2), (10, ii r7.1), (12, ii r8.1), (14, .map (some 3)), (106, ii r1.2.2), (107, ii 0)] rfl (by kernel_rfl) ?_
         refine XR.done (by kernel_rfl) ?_
         show XQ _ _ _ _ _ _ _ _
         refine XQ.block (id := 0) (by kernel_rfl) ?_
         refine XQ.loop m (by kernel_rfl) ?_
         obtain ⟨o1, o1_h, h⟩ := bS h
         refine XL.ren (σ' := [(3, pp 0 0), (4, s0 1 r2.length), (5, ii r1.2.2), (10, ii r7.1), (12, ii r8.1), (14, .map (some 2)), (106, ii r1.2.2), (107, ii 0)]) (h' := [(2, .imap (imC (Value.int .i64) [])), (1, rc (encI .i64) r2 0 3 1), (0, .cells [ii r1.1, ii r1.2.1, ii r1.2.2] 0 23 0)]) (c' := 3) [1, 2, 3] (by decide) rfl ⟨by kernel_rfl, by kernel_rfl, by kernel_rfl, by kernel_rfl, by kernel_rfl, by kernel_rfl, by kernel_rfl, by kernel_rfl, trivial⟩ ⟨⟨_, _, rfl, rfl, .inl ⟨rfl, trivial⟩⟩, ⟨_, _, rfl, rfl, .inl ⟨rfl, rowC_scal (encI_ok .i64) _⟩⟩, ⟨_, _, rfl, rfl, .inr ⟨_, _, _, _, rfl, rfl⟩⟩, trivial⟩ rfl ?_
         cases o1 with
         | r =>
          dsimp only at h
          refine XL.conv (f7_1_ok m m r1.2.2 r7.1 r8.1 r1.2.2 0 r1.1 r1.2.1 r1.2.2 r2 [] (.r) o1_h _ ?_) (by first | rfl | simp)
          have h := Option.some.inj h
          subst h
          exact ⟨fun i q => (by cases q), .bool false, (by kernel_rfl), rfl⟩
         | x0 x5_x01 x10_x01 x12_x01 xh0_0_x01 xh0_1_x01 xh0_2_x01 lh1_x01 mh2_x01 =>
          dsimp only at h
          refine XL.conv (f7_1_ok m m r1.2.2 r7.1 r8.1 r1.2.2 0 r1.1 r1.2.1 r1.2.2 r2 [] (.x0 x5_x01 x10_x01 x12_x01 xh0_0_x01 xh0_1_x01 xh0_2_x01 lh1_x01 mh2_x01) o1_h _ ?_) (by first | rfl | simp)
          show XQ _ _ _ _ _ _ _ _
          refine XQ.seq E0_ok (by kernel_rfl) ?_
          refine XQ.quiet E0_ok (by kernel_rfl) (by kernel_rfl) ?_
          refine XU.run E0_ok 1 2 [3, 4, 5, 10, 12, 14, 223, 224] rfl (σ' := [(3, pp 0 0), (4, s0 1 lh1_x01.length), (5, ii x5_x01), (10, ii x10_x01), (12, ii x12_x01), (14, .map (some 2)), (223, s0 1 lh1_x01.length), (224, ii x10_x01)]) (by kernel_rfl) ?_
          cases b14 : (inRow x10_x01 lh1_x01.length : Bool) with
          | false => cases (cF b14 h)
          | true =>
           have h := cT b14 h
           refine XU.rd E0_ok [3, 4, 5, 10, 12, 14, 225] rfl (v := pp 1 ((Int.toNat x10_x01) * 1)) (v_idx (s := 1) (x := (src 273 (.tmp 223))) (y := (src 273 (.tmp 224))) (b := 1) (o := 0) (len := lh1_x01.length) (cap := lh1_x01.length) (ik := .i64) (i := x10_x01) (off := (Int.toNat x10_x01) * 1) (d := (some (path 12 225))) (by kernel_rfl) (by kernel_rfl) (by kernel_rfl) b14 (by omega)) (σ' := [(3, pp 0 0), (4, s0 1 lh1_x01.length), (5, ii x5_x01), (10, ii x10_x01), (12, ii x12_x01), (14, .map (some 2)), (225, pp 1 ((Int.toNat x10_x01) * 1))]) (by kernel_rfl) ?_
           refine XU.rd E0_ok [3, 4, 5, 10, 12, 14, 226] rfl (v := ii (List.getD lh1_x01 (Int.toNat x10_x01) 0)) (v_load1 (encI_ok .i64) (x := (src 273 (.tmp 225))) (b := 1) (off := (Int.toNat x10_x01) * 1) (xs := lh1_x01) (fz := 0) (e := 3) (es := 1) (d := (some (path 12 226))) (by kernel_rfl) (by kernel_rfl) (by kernel_rfl) (Int.toNat x10_x01) 0 0 (by first | rfl | omega) (row_len (inRow_toNat b14) (by simp)) rfl rfl) (σ' := [(3, pp 0 0), (4, s0 1 lh1_x01.length), (5, ii x5_x01), (10, ii x10_x01), (12, ii x12_x01), (14, .map (some 2)), (226, ii (List.getD lh1_x01 (Int.toNat x10_x01) 0))]) (by kernel_rfl) ?_
           refine XU.run E0_ok 1 4 [5, 10, 12, 14, 226, 228, 229, 230] rfl (σ' := [(5, ii x5_x01), (10, ii x10_x01), (12, ii x12_x01), (14, .map (some 2)), (226, ii (List.getD lh1_x01 (Int.toNat x10_x01) 0)), (228, ii xh0_0_x01), (229, s0 1 lh1_x01.length), (230, ii x12_x01)]) (by kernel_rfl) ?_
           cases b15 : (inRow x12_x01 lh1_x01.length : Bool) with
           | false => cases (cF b15 h)
           | true =>
            have h := cT b15 h
            refine XU.rd E0_ok [5, 10, 12, 14, 226, 228, 231] rfl (v := pp 1 ((Int.toNat x12_x01) * 1)) (v_idx (s := 1) (x := (src 273 (.tmp 229))) (y := (src 273 (.tmp 230))) (b := 1) (o := 0) (len := lh1_x01.length) (cap := lh1_x01.length) (ik := .i64) (i := x12_x01) (off := (Int.toNat x12_x01) * 1) (d := (some (path 12 231))) (by kernel_rfl) (by kernel_rfl) (by kernel_rfl) b15 (by omega)) (σ' := [(5, ii x5_x01), (10, ii x10_x01), (12, ii x12_x01), (14, .map (some 2)), (226, ii (List.getD lh1_x01 (Int.toNat x10_x01) 0)), (228, ii xh0_0_x01), (231, pp 1 ((Int.toNat x12_x01) * 1))]) (by kernel_rfl) ?_
            refine XU.rd E0_ok [5, 10, 12, 14, 226, 228, 232] rfl (v := ii (List.getD lh1_x01 (Int.toNat x12_x01) 0)) (v_load1 (encI_ok .i64) (x := (src 273 (.tmp 231))) (b := 1) (off := (Int.toNat x12_x01) * 1) (xs := lh1_x01) (fz := 0) (e := 3) (es := 1) (d := (some (path 12 232))) (by kernel_rfl) (by kernel_rfl) (by kernel_rfl) (Int.toNat x12_x01) 0 0 (by first | rfl | omega) (row_len (inRow_toNat b15) (by simp)) rfl rfl) (σ' := [(5, ii x5_x01), (10, ii x10_x01), (12, ii x12_x01), (14, .map (some 2)), (226, ii (List.getD lh1_x01 (Int.toNat x10_x01) 0)), (228, ii xh0_0_x01), (232, ii (List.getD lh1_x01 (Int.toNat x12_x01) 0))]) (by kernel_rfl) ?_
            refine XU.run E0_ok 1 3 [5, 10, 12, 14, 24, 25] rfl (σ' := [(5, ii x5_x01), (10, ii x10_x01), (12, ii x12_x01), (14, .map (some 2)), (24, ii (List.getD lh1_x01 (Int.toNat x10_x01) 0)), (25, ii (w64 (xh0_0_x01 - (List.getD lh1_x01 (Int.toNat x12_x01) 0))))]) (by kernel_rfl) ?_
            refine XU.done (by kernel_rfl) ?_
            show XQ _ _ _ _ _ _ _ _
            refine XQ.seq E0_ok (by kernel_rfl) ?_
            refine XQ.region (by kernel_rfl) ?_
            refine XR.runT E0_ok 1 2 [(5, ii x5_x01), (10, ii x10_x01), (12, ii x12_x01), (14, .map (some 2)), (24, ii (List.getD lh1_x01 (Int.toNat x10_x01) 0)), (25, ii (w64 (xh0_0_x01 - (List.getD lh1_x01 (Int.toNat x12_x01) 0)))), (26, .map (some 3))] [(3, .imap (imC (Value.int .i64) [])), (2, .imap (imC (Value.int .i64) mh2_x01)), (1, rc (encI .i64) lh1_x01 0 3 1), (0, .cells [ii xh0_0_x01, ii xh0_1_x01, ii xh0_2_x01] 0 23 0)] 4 rfl (by kernel_rfl) ?_
            refine XR.done (by kernel_rfl) ?_
            show XQ _ _ _ _ _ _ _ _
            refine XQ.seq E0_ok (by kernel_rfl) ?_
            refine XQ.region (by kernel_rfl) ?_
            refine XR.runS E0_ok 1 2 [(5, ii x5_x01), (10, ii x10_x01), (12, ii x12_x01), (14, .map (some 2)), (24, ii (List.getD lh1_x01 (Int.toNat x10_x01) 0)), (25, ii (w64 (xh0_0_x01 - (List.getD lh1_x01 (Int.toNat x12_x01) 0)))), (26, .map (some 3)), (235, .map (some 3)), (236, ii (List.getD lh1_x01 (Int.toNat x10_x01) 0))] rfl (by kernel_rfl) ?_
            refine XR.rd E0_ok [5, 10, 12, 14, 24, 25, 26, 235, 236, 237] rfl (v := ii (getM 0 [] (List.getD lh1_x01 (Int.toNat x10_x01) 0))) (v_mget (Value.int .i64) (x := (src 273 (.tmp 235))) (i := (src 273 (.tmp 236))) (z := .int .i64 0) (d := (some (path 12 237))) (b := 3) (k := List.getD lh1_x01 (Int.toNat x10_x01) 0) (l := []) (d0 := 0) (by kernel_rfl) (by kernel_rfl) (by kernel_rfl) (by kernel_rfl) rfl rfl rfl) (σ' := [(5, ii x5_x01), (10, ii x10_x01), (12, ii x12_x01), (14, .map (some 2)), (24, ii (List.getD lh1_x01 (Int.toNat x10_x01) 0)), (25, ii (w64 (xh0_0_x01 - (List.getD lh1_x01 (Int.toNat x12_x01) 0)))), (26, .map (some 3)), (235, .map (some 3)), (236, ii (List.getD lh1_x01 (Int.toNat x10_x01) 0)), (237, ii (getM 0 [] (List.getD lh1_x01 (Int.toNat x10_x01) 0)))]) (by kernel_rfl) ?_
            refine XR.runS E0_ok 1 4 [(5, ii x5_x01), (10, ii x10_x01), (12, ii x12_x01), (14, .map (some 2)), (24, ii (List.getD lh1_x01 (Int.toNat x10_x01) 0)), (25, ii (w64 (xh0_0_x01 - (List.getD lh1_x01 (Int.toNat x12_x01) 0)))), (26, .map (some 3)), (235, .map (some 3)), (236, ii (List.getD lh1_x01 (Int.toNat x10_x01) 0)), (241, ii (w64 ((getM 0 [] (List.getD lh1_x01 (Int.toNat x10_x01) 0)) + (w64 (x5_x01 - x10_x01)))))] rfl (by kernel_rfl) ?_
            refine XR.ef E0_ok [5, 10, 12, 14, 24, 25, 26] rfl (e_mput (Value.int .i64) (m := (src 273 (.tmp 235))) (i := (src 273 (.tmp 236))) (x := (src 273 (.tmp 241))) (d := none) (b := 3) (k := List.getD lh1_x01 (Int.toNat x10_x01) 0) (l := []) (a := w64 ((getM 0 [] (List.getD lh1_x01 (Int.toNat x10_x01) 0)) + (w64 (x5_x01 - x10_x01)))) (h' := [(3, .imap (imC (Value.int .i64) (putM [] (List.getD lh1_x01 (Int.toNat x10_x01) 0) (w64 ((getM 0 [] (List.getD lh1_x01 (Int.toNat x10_x01) 0)) + (w64 (x5_x01 - x10_x01))))))), (2, .imap (imC (Value.int .i64) mh2_x01)), (1, rc (encI .i64) lh1_x01 0 3 1), (0, .cells [ii xh0_0_x01, ii xh0_1_x01, ii xh0_2_x01] 0 23 0)]) (by kernel_rfl) (by kernel_rfl) (by kernel_rfl) (by kernel_rfl) (by kernel_rfl) rfl rfl) (σ' := [(5, ii x5_x01), (10, ii x10_x01), (12, ii x12_x01), (14, .map (some 2)), (24, ii (List.getD lh1_x01 (Int.toNat x10_x01) 0)), (25, ii (w64 (xh0_0_x01 - (List.getD lh1_x01 (Int.toNat x12_x01) 0)))), (26, .map (some 3))]) (by kernel_rfl) ?_
            refine XR.done (by kernel_rfl) ?_
            show XQ _ _ _ _ _ _ _ _
            refine XQ.seq E0_ok (by kernel_rfl) ?_
            refine XQ.region (by kernel_rfl) ?_
            refine XR.runS E0_ok 1 2 [(5, ii x5_x01), (10, ii x10_x01), (12, ii x12_x01), (14, .map (some 2)), (24, ii (List.getD lh1_x01 (Int.toNat x10_x01) 0)), (25, ii (w64 (xh0_0_x01 - (List.getD lh1_x01 (Int.toNat x12_x01) 0)))), (26, .map (some 3)), (242, .map (some 3)), (243, ii (w64 (xh0_0_x01 - (List.getD lh1_x01 (Int.toNat x12_x01) 0))))] rfl (by kernel_rfl) ?_
            refine XR.rd E0_ok [5, 10, 12, 14, 24, 25, 26, 242, 243, 244] rfl (v := ii (getM 0 (putM [] (List.getD lh1_x01 (Int.toNat x10_x01) 0) (w64 ((getM 0 [] (List.getD lh1_x01 (Int.toNat x10_x01) 0)) + (w64 (x5_x01 - x10_x01))))) (w64 (xh0_0_x01 - (List.getD lh1_x01 (Int.toNat x12_x01) 0))))) (v_mget (Value.int .i64) (x := (src 273 (.tmp 242))) (i := (src 273 (.tmp 243))) (z := .int .i64 0) (d := (some (path 12 244))) (b := 3) (k := w64 (xh0_0_x01 - (List.getD lh1_x01 (Int.toNat x12_x01) 0))) (l := putM [] (List.getD lh1_x01 (Int.toNat x10_x01) 0) (w64 ((getM 0 [] (List.getD lh1_x01 (Int.toNat x10_x01) 0)) + (w64 (x5_x01 - x10_x01))))) (d0 := 0) (by kernel_rfl) (by kernel_rfl) (by kernel_rfl) (by kernel_rfl) rfl rfl rfl) (σ' := [(5, ii x5_x01), (10, ii x10_x01), (12, ii x12_x01), (14, .map (some 2)), (24, ii (List.getD lh1_x01 (Int.toNat x10_x01) 0)), (25, ii (w64 (xh0_0_x01 - (List.getD lh1_x01 (Int.toNat x12_x01) 0)))), (26, .map (some 3)), (242, .map (some 3)), (243, ii (w64 (xh0_0_x01 - (List.getD lh1_x01 (Int.toNat x12_x01) 0)))), (244, ii (getM 0 (putM [] (List.getD lh1_x01 (Int.toNat x10_x01) 0) (w64 ((getM 0 [] (List.getD lh1_x01 (Int.toNat x10_x01) 0)) + (w64 (x5_x01 - x10_x01))))) (w64 (xh0_0_x01 - (List.getD lh1_x01 (Int.toNat x12_x01) 0)))))]) (by kernel_rfl) ?_
            refine XR.runS E0_ok 1 4 [(5, ii x5_x01), (10, ii x10_x01), (12, ii x12_x01), (14, .map (some 2)), (24, ii (List.getD lh1_x01 (Int.toNat x10_x01) 0)), (25, ii (w64 (xh0_0_x01 - (List.getD lh1_x01 (Int.toNat x12_x01) 0)))), (26, .map (some 3)), (242, .map (some 3)), (243, ii (w64 (xh0_0_x01 - (List.getD lh1_x01 (Int.toNat x12_x01) 0)))), (248, ii (w64 ((getM 0 (putM [] (List.getD lh1_x01 (Int.toNat x10_x01) 0) (w64 ((getM 0 [] (List.getD lh1_x01 (Int.toNat x10_x01) 0)) + (w64 (x5_x01 - x10_x01))))) (w64 (xh0_0_x01 - (List.getD lh1_x01 (Int.toNat x12_x01) 0)))) + (w64 (x5_x01 - x12_x01)))))] rfl (by kernel_rfl) ?_
            refine XR.ef E0_ok [5, 10, 12, 14, 24, 25, 26] rfl (e_mput (Value.int .i64) (m := (src 273 (.tmp 242))) (i := (src 273 (.tmp 243))) (x := (src 273 (.tmp 248))) (d := none) (b := 3) (k := w64 (xh0_0_x01 - (List.getD lh1_x01 (Int.toNat x12_x01) 0))) (l := putM [] (List.getD lh1_x01 (Int.toNat x10_x01) 0) (w64 ((getM 0 [] (List.getD lh1_x01 (Int.toNat x10_x01) 0)) + (w64 (x5_x01 - x10_x01))))) (a := w64 ((getM 0 (putM [] (List.getD lh1_x01 (Int.toNat x10_x01) 0) (w64 ((getM 0 [] (List.getD lh1_x01 (Int.toNat x10_x01) 0)) + (w64 (x5_x01 - x10_x01))))) (w64 (xh0_0_x01 - (List.getD lh1_x01 (Int.toNat x12_x01) 0)))) + (w64 (x5_x01 - x12_x01)))) (h' := [(3, .imap (imC (Value.int .i64) (putM (putM [] (List.getD lh1_x01 (Int.toNat x10_x01) 0) (w64 ((getM 0 [] (List.getD lh1_x01 (Int.toNat x10_x01) 0)) + (w64 (x5_x01 - x10_x01))))) (w64 (xh0_0_x01 - (List.getD lh1_x01 (Int.toNat x12_x01) 0))) (w64 ((getM 0 (putM [] (List.getD lh1_x01 (Int.toNat x10_x01) 0) (w64 ((getM 0 [] (List.getD lh1_x01 (Int.toNat x10_x01) 0)) + (w64 (x5_x01 - x10_x01))))) (w64 (xh0_0_x01 - (List.getD lh1_x01 (Int.toNat x12_x01) 0)))) + (w64 (x5_x01 - x12_x01))))))), (2, .imap (imC (Value.int .i64) mh2_x01)), (1, rc (encI .i64) lh1_x01 0 3 1), (0, .cells [ii xh0_0_x01, ii xh0_1_x01, ii xh0_2_x01] 0 23 0)]) (by kernel_rfl) (by kernel_rfl) (by kernel_rfl) (by kernel_rfl) (by kernel_rfl) rfl rfl) (σ' := [(5, ii x5_x01), (10, ii x10_x01), (12, ii x12_x01), (14, .map (some 2)), (24, ii (List.getD lh1_x01 (Int.toNat x10_x01) 0)), (25, ii (w64 (xh0_0_x01 - (List.getD lh1_x01 (Int.toNat x12_x01) 0)))), (26, .map (some 3))]) (by kernel_rfl) ?_
            refine XR.done (by kernel_rfl) ?_
            show XQ _ _ _ _ _ _ _ _
            refine XQ.seq E0_ok (by kernel_rfl) ?_
            refine XQ.region (by kernel_rfl) ?_
            refine XR.runS E0_ok 1 4 [(5, ii x5_x01), (10, ii x10_x01), (12, ii x12_x01), (14, .map (some 2)), (26, .map (some 3)), (249, .map (some 3)), (252, ii (w64 ((List.getD lh1_x01 (Int.toNat x10_x01) 0) + (w64 (xh0_0_x01 - (List.getD lh1_x01 (Int.toNat x12_x01) 0))))))] rfl (by kernel_rfl) ?_
            refine XR.rd E0_ok [5, 10, 12, 14, 26, 249, 252, 253] rfl (v := ii (getM 0 (putM (putM [] (List.getD lh1_x01 (Int.toNat x10_x01) 0) (w64 ((getM 0 [] (List.getD lh1_x01 (Int.toNat x10_x01) 0)) + (w64 (x5_x01 - x10_x01))))) (w64 (xh0_0_x01 - (List.getD lh1_x01 (Int.toNat x12_x01) 0))) (w64 ((getM 0 (putM [] (List.getD lh1_x01 (Int.toNat x10_x01) 0) (w64 ((getM 0 [] (List.getD lh1_x01 (Int.toNat x10_x01) 0)) + (w64 (x5_x01 - x10_x01))))) (w64 (xh0_0_x01 - (List.getD lh1_x01 (Int.toNat x12_x01) 0)))) + (w64 (x5_x01 - x12_x01))))) (w64 ((List.getD lh1_x01 (Int.toNat x10_x01) 0) + (w64 (xh0_0_x01 - (List.getD lh1_x01 (Int.toNat x12_x01) 0))))))) (v_mget (Value.int .i64) (x := (src 273 (.tmp 249))) (i := (src 273 (.tmp 252))) (z := .int .i64 0) (d := (some (path 12 253))) (b := 3) (k := w64 ((List.getD lh1_x01 (Int.toNat x10_x01) 0) + (w64 (xh0_0_x01 - (List.getD lh1_x01 (Int.toNat x12_x01) 0))))) (l := putM (putM [] (List.getD lh1_x01 (Int.toNat x10_x01) 0) (w64 ((getM 0 [] (List.getD lh1_x01 (Int.toNat x10_x01) 0)) + (w64 (x5_x01 - x10_x01))))) (w64 (xh0_0_x01 - (List.getD lh1_x01 (Int.toNat x12_x01) 0))) (w64 ((getM 0 (putM [] (List.getD lh1_x01 (Int.toNat x10_x01) 0) (w64 ((getM 0 [] (List.getD lh1_x01 (Int.toNat x10_x01) 0)) + (w64 (x5_x01 - x10_x01))))) (w64 (xh0_0_x01 - (List.getD lh1_x01 (Int.toNat x12_x01) 0)))) + (w64 (x5_x01 - x12_x01))))) (d0 := 0) (by kernel_rfl) (by kernel_rfl) (by kernel_rfl) (by kernel_rfl) rfl rfl rfl) (σ' := [(5, ii x5_x01), (10, ii x10_x01), (12, ii x12_x01), (14, .map (some 2)), (26, .map (some 3)), (249, .map (some 3)), (252, ii (w64 ((List.getD lh1_x01 (Int.toNat x10_x01) 0) + (w64 (xh0_0_x01 - (List.getD lh1_x01 (Int.toNat x12_x01) 0)))))), (253, ii (getM 0 (putM (putM [] (List.getD lh1_x01 (Int.toNat x10_x01) 0) (w64 ((getM 0 [] (List.getD lh1_x01 (Int.toNat x10_x01) 0)) + (w64 (x5_x01 - x10_x01))))) (w64 (xh0_0_x01 - (List.getD lh1_x01 (Int.toNat x12_x01) 0))) (w64 ((getM 0 (putM [] (List.getD lh1_x01 (Int.toNat x10_x01) 0) (w64 ((getM 0 [] (List.getD lh1_x01 (Int.toNat x10_x01) 0)) + (w64 (x5_x01 - x10_x01))))) (w64 (xh0_0_x01 - (List.getD lh1_x01 (Int.toNat x12_x01) 0)))) + (w64 (x5_x01 - x12_x01))))) (w64 ((List.getD lh1_x01 (Int.toNat x10_x01) 0) + (w64 (xh0_0_x01 - (List.getD lh1_x01 (Int.toNat x12_x01) 0)))))))]) (by kernel_rfl) ?_
            refine XR.runS E0_ok 1 6 [(14, .map (some 2)), (26, .map (some 3)), (249, .map (some 3)), (252, ii (w64 ((List.getD lh1_x01 (Int.toNat x10_x01) 0) + (w64 (xh0_0_x01 - (List.getD lh1_x01 (Int.toNat x12_x01) 0)))))), (259, ii (w64 ((getM 0 (putM (putM [] (List.getD lh1_x01 (Int.toNat x10_x01) 0) (w64 ((getM 0 [] (List.getD lh1_x01 (Int.toNat x10_x01) 0)) + (w64 (x5_x01 - x10_x01))))) (w64 (xh0_0_x01 - (List.getD lh1_x01 (Int.toNat x12_x01) 0))) (w64 ((getM 0 (putM [] (List.getD lh1_x01 (Int.toNat x10_x01) 0) (w64 ((getM 0 [] (List.getD lh1_x01 (Int.toNat x10_x01) 0)) + (w64 (x5_x01 - x10_x01))))) (w64 (xh0_0_x01 - (List.getD lh1_x01 (Int.toNat x12_x01) 0)))) + (w64 (x5_x01 - x12_x01))))) (w64 ((List.getD lh1_x01 (Int.toNat x10_x01) 0) + (w64 (xh0_0_x01 - (List.getD lh1_x01 (Int.toNat x12_x01) 0)))))) + (w64 ((w64 (x10_x01 + x12_x01)) - x5_x01)))))] rfl (by kernel_rfl) ?_
            refine XR.ef E0_ok [14, 26] rfl (e_mput (Value.int .i64) (m := (src 273 (.tmp 249))) (i := (src 273 (.tmp 252))) (x := (src 273 (.tmp 259))) (d := none) (b := 3) (k := w64 ((List.getD lh1_x01 (Int.toNat x10_x01) 0) + (w64 (xh0_0_x01 - (List.getD lh1_x01 (Int.toNat x12_x01) 0))))) (l := putM (putM [] (List.getD lh1_x01 (Int.toNat x10_x01) 0) (w64 ((getM 0 [] (List.getD lh1_x01 (Int.toNat x10_x01) 0)) + (w64 (x5_x01 - x10_x01))))) (w64 (xh0_0_x01 - (List.getD lh1_x01 (Int.toNat x12_x01) 0))) (w64 ((getM 0 (putM [] (List.getD lh1_x01 (Int.toNat x10_x01) 0) (w64 ((getM 0 [] (List.getD lh1_x01 (Int.toNat x10_x01) 0)) + (w64 (x5_x01 - x10_x01))))) (w64 (xh0_0_x01 - (List.getD lh1_x01 (Int.toNat x12_x01) 0)))) + (w64 (x5_x01 - x12_x01))))) (a := w64 ((getM 0 (putM (putM [] (List.getD lh1_x01 (Int.toNat x10_x01) 0) (w64 ((getM 0 [] (List.getD lh1_x01 (Int.toNat x10_x01) 0)) + (w64 (x5_x01 - x10_x01))))) (w64 (xh0_0_x01 - (List.getD lh1_x01 (Int.toNat x12_x01) 0))) (w64 ((getM 0 (putM [] (List.getD lh1_x01 (Int.toNat x10_x01) 0) (w64 ((getM 0 [] (List.getD lh1_x01 (Int.toNat x10_x01) 0)) + (w64 (x5_x01 - x10_x01))))) (w64 (xh0_0_x01 - (List.getD lh1_x01 (Int.toNat x12_x01) 0)))) + (w64 (x5_x01 - x12_x01))))) (w64 ((List.getD lh1_x01 (Int.toNat x10_x01) 0) + (w64 (xh0_0_x01 - (List.getD lh1_x01 (Int.toNat x12_x01) 0)))))) + (w64 ((w64 (x10_x01 + x12_x01)) - x5_x01)))) (h' := [(3, .imap (imC (Value.int .i64) (putM (putM (putM [] (List.getD lh1_x01 (Int.toNat x10_x01) 0) (w64 ((getM 0 [] (List.getD lh1_x01 (Int.toNat x10_x01) 0)) + (w64 (x5_x01 - x10_x01))))) (w64 (xh0_0_x01 - (List.getD lh1_x01 (Int.toNat x12_x01) 0))) (w64 ((getM 0 (putM [] (List.getD lh1_x01 (Int.toNat x10_x01) 0) (w64 ((getM 0 [] (List.getD lh1_x01 (Int.toNat x10_x01) 0)) + (w64 (x5_x01 - x10_x01))))) (w64 (xh0_0_x01 - (List.getD lh1_x01 (Int.toNat x12_x01) 0)))) + (w64 (x5_x01 - x12_x01))))) (w64 ((List.getD lh1_x01 (Int.toNat x10_x01) 0) + (w64 (xh0_0_x01 - (List.getD lh1_x01 (Int.toNat x12_x01) 0))))) (w64 ((getM 0 (putM (putM [] (List.getD lh1_x01 (Int.toNat x10_x01) 0) (w64 ((getM 0 [] (List.getD lh1_x01 (Int.toNat x10_x01) 0)) + (w64 (x5_x01 - x10_x01))))) (w64 (xh0_0_x01 - (List.getD lh1_x01 (Int.toNat x12_x01) 0))) (w64 ((getM 0 (putM [] (List.getD lh1_x01 (Int.toNat x10_x01) 0) (w64 ((getM 0 [] (List.getD lh1_x01 (Int.toNat x10_x01) 0)) + (w64 (x5_x01 - x10_x01))))) (w64 (xh0_0_x01 - (List.getD lh1_x01 (Int.toNat x12_x01) 0)))) + (w64 (x5_x01 - x12_x01))))) (w64 ((List.getD lh1_x01 (Int.toNat x10_x01) 0) + (w64 (xh0_0_x01 - (List.getD lh1_x01 (Int.toNat x12_x01) 0)))))) + (w64 ((w64 (x10_x01 + x12_x01)) - x5_x01))))))), (2, .imap (imC (Value.int .i64) mh2_x01)), (1, rc (encI .i64) lh1_x01 0 3 1), (0, .cells [ii xh0_0_x01, ii xh0_1_x01, ii xh0_2_x01] 0 23 0)]) (by kernel_rfl) (by kernel_rfl) (by kernel_rfl) (by kernel_rfl) (by kernel_rfl) rfl rfl) (σ' := [(14, .map (some 2)), (26, .map (some 3))]) (by kernel_rfl) ?_
            refine XR.done (by kernel_rfl) ?_
            show XQ _ _ _ _ _ _ _ _
            refine XQ.seq E0_ok (by kernel_rfl) ?_
            cases b17 : (List.all (putM (putM (putM [] (List.getD lh1_x01 (Int.toNat x10_x01) 0) (w64 ((getM 0 [] (List.getD lh1_x01 (Int.toNat x10_x01) 0)) + (w64 (x5_x01 - x10_x01))))) (w64 (xh0_0_x01 - (List.getD lh1_x01 (Int.toNat x12_x01) 0))) (w64 ((getM 0 (putM [] (List.getD lh1_x01 (Int.toNat x10_x01) 0) (w64 ((getM 0 [] (List.getD lh1_x01 (Int.toNat x10_x01) 0)) + (w64 (x5_x01 - x10_x01))))) (w64 (xh0_0_x01 - (List.getD lh1_x01 (Int.toNat x12_x01) 0)))) + (w64 (x5_x01 - x12_x01))))) (w64 ((List.getD lh1_x01 (Int.toNat x10_x01) 0) + (w64 (xh0_0_x01 - (List.getD lh1_x01 (Int.toNat x12_x01) 0))))) (w64 ((getM 0 (putM (putM [] (List.getD lh1_x01 (Int.toNat x10_x01) 0) (w64 ((getM 0 [] (List.getD lh1_x01 (Int.toNat x10_x01) 0)) + (w64 (x5_x01 - x10_x01))))) (w64 (xh0_0_x01 - (List.getD lh1_x01 (Int.toNat x12_x01) 0))) (w64 ((getM 0 (putM [] (List.getD lh1_x01 (Int.toNat x10_x01) 0) (w64 ((getM 0 [] (List.getD lh1_x01 (Int.toNat x10_x01) 0)) + (w64 (x5_x01 - x10_x01))))) (w64 (xh0_0_x01 - (List.getD lh1_x01 (Int.toNat x12_x01) 0)))) + (w64 (x5_x01 - x12_x01))))) (w64 ((List.getD lh1_x01 (Int.toNat x10_x01) 0) + (w64 (xh0_0_x01 - (List.getD lh1_x01 (Int.toNat x12_x01) 0)))))) + (w64 ((w64 (x10_x01 + x12_x01)) - x5_x01))))) (fun (q16 : Int × Int) => !((getM 0 mh2_x01 q16.1) != q16.2)) : Bool) with
            | false => cases (cF b17 h)
            | true =>
             have h := cT b17 h
             refine XQ.rangeAll E0_ok (b := 4) (b2 := 5) (sB := (.tmp 263)) (σ1 := [(14, .map (some 2)), (260, .map (some 3))]) (σK := [(14, .map (some 2))]) (tI := 261) (tN := 262) (tE := 264) (t := 55) (x := (.tmp 260)) (xN := (.tmp 261)) (xE := (.tmp 261)) (m := 3) (es := imC (Value.int .i64) (putM (putM (putM [] (List.getD lh1_x01 (Int.toNat x10_x01) 0) (w64 ((getM 0 [] (List.getD lh1_x01 (Int.toNat x10_x01) 0)) + (w64 (x5_x01 - x10_x01))))) (w64 (xh0_0_x01 - (List.getD lh1_x01 (Int.toNat x12_x01) 0))) (w64 ((getM 0 (putM [] (List.getD lh1_x01 (Int.toNat x10_x01) 0) (w64 ((getM 0 [] (List.getD lh1_x01 (Int.toNat x10_x01) 0)) + (w64 (x5_x01 - x10_x01))))) (w64 (xh0_0_x01 - (List.getD lh1_x01 (Int.toNat x12_x01) 0)))) + (w64 (x5_x01 - x12_x01))))) (w64 ((List.getD lh1_x01 (Int.toNat x10_x01) 0) + (w64 (xh0_0_x01 - (List.getD lh1_x01 (Int.toNat x12_x01) 0))))) (w64 ((getM 0 (putM (putM [] (List.getD lh1_x01 (Int.toNat x10_x01) 0) (w64 ((getM 0 [] (List.getD lh1_x01 (Int.toNat x10_x01) 0)) + (w64 (x5_x01 - x10_x01))))) (w64 (xh0_0_x01 - (List.getD lh1_x01 (Int.toNat x12_x01) 0))) (w64 ((getM 0 (putM [] (List.getD lh1_x01 (Int.toNat x10_x01) 0) (w64 ((getM 0 [] (List.getD lh1_x01 (Int.toNat x10_x01) 0)) + (w64 (x5_x01 - x10_x01))))) (w64 (xh0_0_x01 - (List.getD lh1_x01 (Int.toNat x12_x01) 0)))) + (w64 (x5_x01 - x12_x01))))) (w64 ((List.getD lh1_x01 (Int.toNat x10_x01) 0) + (w64 (xh0_0_x01 - (List.getD lh1_x01 (Int.toNat x12_x01) 0)))))) + (w64 ((w64 (x10_x01 + x12_x01)) - x5_x01)))))) (σZ := []) (by kernel_rfl) (by kernel_rfl) (by kernel_rfl) (by kernel_rfl) (by kernel_rfl) (by kernel_rfl) (by kernel_rfl) (by kernel_rfl) (by kernel_rfl) (by kernel_rfl) (by kernel_rfl) (by kernel_rfl) (by kernel_rfl) 1 [14, 260] rfl (by kernel_rfl) (by kernel_rfl) rfl rfl (by kernel_rfl) (by kernel_rfl) (by kernel_rfl) ⟨⟨by kernel_rfl, by kernel_rfl⟩, trivial⟩ (by kernel_rfl) (by kernel_rfl) (by kernel_rfl) (by kernel_rfl) ⟨⟨by kernel_rfl, by kernel_rfl⟩, ⟨by kernel_rfl, by kernel_rfl⟩, trivial⟩ ⟨⟨by kernel_rfl, by kernel_rfl⟩, ⟨by kernel_rfl, by kernel_rfl⟩, trivial⟩ ?_ ?_ ?_ trivial ?_
             ·refine XW.step E0_ok 1 [14, 261, 263] rfl (σ' := [(14, .map (some 2)), (261, pp 4 0), (263, .bool false)]) (by kernel_rfl) ?_
              refine XW.done (by kernel_rfl) ?_
              exact ⟨by kernel_rfl, ⟨by kernel_rfl, by kernel_rfl, trivial⟩⟩
             ·intro p hp
              obtain ⟨q16, _, rfl⟩ := List.mem_map.1 hp
              refine XW.step E0_ok 1 [14, 261, 263] rfl (σ' := [(14, .map (some 2)), (261, pp 4 0), (263, .bool true)]) (by kernel_rfl) ?_
              refine XW.done (by kernel_rfl) ?_
              exact ⟨by kernel_rfl, ⟨by kernel_rfl, by kernel_rfl, trivial⟩⟩
             ·intro p hp
              obtain ⟨q16, hq18, rfl⟩ := List.mem_map.1 hp
              have hn19 : (!((getM 0 mh2_x01 q16.1) != q16.2)) = true := List.all_eq_true.1 b17 q16 hq18
              have hn19 := (Bool.not_eq_true' _).mp hn19
              refine XW.step E0_ok 4 [14, 27, 28, 261] rfl (σ' := [(14, .map (some 2)), (27, ii q16.1), (28, ii q16.2), (261, pp 4 0)]) (by kernel_rfl) ?_
              refine XW.done (by kernel_rfl) ?_
              refine XV.seq (by kernel_rfl) ?_
              refine XV.region (by kernel_rfl) ?_
              refine XW.step E0_ok 2 [14, 28, 261, 267, 268] rfl (σ' := [(14, .map (some 2)), (28, ii q16.2), (261, pp 4 0), (267, .map (some 2)), (268, ii q16.1)]) (by kernel_rfl) ?_
              refine XW.rd E0_ok [14, 28, 261, 269] rfl (v := ii (getM 0 mh2_x01 q16.1)) (v_mget (Value.int .i64) (x := (src 273 (.tmp 267))) (i := (src 273 (.tmp 268))) (z := .int .i64 0) (d := (some (path 12 269))) (b := 2) (k := q16.1) (l := mh2_x01) (d0 := 0) (by kernel_rfl) (by kernel_rfl) (by kernel_rfl) (by kernel_rfl) rfl rfl rfl) (σ' := [(14, .map (some 2)), (28, ii q16.2), (261, pp 4 0), (269, ii (getM 0 mh2_x01 q16.1))]) (by kernel_rfl) ?_
              refine XW.step E0_ok 2 [14, 261, 271] rfl (σ' := [(14, .map (some 2)), (261, pp 4 0), (271, .bool ((getM 0 mh2_x01 q16.1) != q16.2))]) (by kernel_rfl) ?_
              refine XW.done (by kernel_rfl) ?_
              show XV _ _ _ _ _ _ _
              refine XV.cond (s := (.tmp 271)) (b := (getM 0 mh2_x01 q16.1) != q16.2) (by kernel_rfl) (by kernel_rfl) (fun z => by rw [hn19] at z; cases z) (fun _ => ?_)
              exact XV.skip (by kernel_rfl) ⟨rfl, ⟨by kernel_rfl, by kernel_rfl, trivial⟩⟩
             ·show XQ _ _ _ _ _ _ _ _
              refine XQ.seq E0_ok (by kernel_rfl) ?_
              refine XQ.region (by kernel_rfl) ?_
              refine XR.call E0_ok [272] rfl (K := 28) (args := []) (d := (some (path 12 272))) (by kernel_rfl) (KC.of_calls E0_ok (F := Proofs.Try.f28) (v := .bool true) (by kernel_rfl) rfl rfl (works_ok)) ?_
              rintro _ _ _ ⟨rfl, rfl, rfl⟩
              refine XR.conv (σ' := [(272, .bool true)]) (h' := [(3, .imap (imC (Value.int .i64) (putM (putM (putM [] (List.getD lh1_x01 (Int.toNat x10_x01) 0) (w64 ((getM 0 [] (List.getD lh1_x01 (Int.toNat x10_x01) 0)) + (w64 (x5_x01 - x10_x01))))) (w64 (xh0_0_x01 - (List.getD lh1_x01 (Int.toNat x12_x01) 0))) (w64 ((getM 0 (putM [] (List.getD lh1_x01 (Int.toNat x10_x01) 0) (w64 ((getM 0 [] (List.getD lh1_x01 (Int.toNat x10_x01) 0)) + (w64 (x5_x01 - x10_x01))))) (w64 (xh0_0_x01 - (List.getD lh1_x01 (Int.toNat x12_x01) 0)))) + (w64 (x5_x01 - x12_x01))))) (w64 ((List.getD lh1_x01 (Int.toNat x10_x01) 0) + (w64 (xh0_0_x01 - (List.getD lh1_x01 (Int.toNat x12_x01) 0))))) (w64 ((getM 0 (putM (putM [] (List.getD lh1_x01 (Int.toNat x10_x01) 0) (w64 ((getM 0 [] (List.getD lh1_x01 (Int.toNat x10_x01) 0)) + (w64 (x5_x01 - x10_x01))))) (w64 (xh0_0_x01 - (List.getD lh1_x01 (Int.toNat x12_x01) 0))) (w64 ((getM 0 (putM [] (List.getD lh1_x01 (Int.toNat x10_x01) 0) (w64 ((getM 0 [] (List.getD lh1_x01 (Int.toNat x10_x01) 0)) + (w64 (x5_x01 - x10_x01))))) (w64 (xh0_0_x01 - (List.getD lh1_x01 (Int.toNat x12_x01) 0)))) + (w64 (x5_x01 - x12_x01))))) (w64 ((List.getD lh1_x01 (Int.toNat x10_x01) 0) + (w64 (xh0_0_x01 - (List.getD lh1_x01 (Int.toNat x12_x01) 0)))))) + (w64 ((w64 (x10_x01 + x12_x01)) - x5_x01))))))), (2, .imap (imC (Value.int .i64) mh2_x01)), (1, rc (encI .i64) lh1_x01 0 3 1), (0, .cells [ii xh0_0_x01, ii xh0_1_x01, ii xh0_2_x01] 0 23 0)]) (c' := 5) ?_ (by kernel_rfl)
              refine XR.runS E0_ok 1 1 [(2, .bool true)] rfl (by kernel_rfl) ?_
              refine XR.done (by kernel_rfl) ?_
              show XQ _ _ _ _ _ _ _ _
              refine XQ.ret (by kernel_rfl) ?_
              have h := Option.some.inj h
              subst h
              exact ⟨fun i q => (by cases q), .bool true, (by kernel_rfl), rfl⟩

end Go.Xm
