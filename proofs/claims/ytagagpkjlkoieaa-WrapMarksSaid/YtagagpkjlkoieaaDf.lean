/- What these functions of the program compute, as functions in Lean, and the proofs that they do: wrap.Divides, vitolaref05.Divides. Conditions: none. -/
import Derived.Test.YtagagpkjlkoieaaDc
namespace Go.Xm
open Go.RowKit
set_option linter.unusedVariables false
set_option linter.unusedSimpArgs false

/-! vitola/wrap.Divides -/
noncomputable def f26_C26 : Code := Proofs.Try.f26.body.getD .skip
noncomputable def f26_C72 : Code := Proofs.Try.f72.body.getD .skip
noncomputable def f26_C73 : Code := Proofs.Try.f73.body.getD .skip
noncomputable def f26_L1 : Code := lft (lft (lft (rgt (rgt (rgt f26_C72)))))

def f26_1 (m : Nat) : Nat → Int → Int → Int → Int → Int → Int → Option (Int × Int × Int)
  | 0, _, _, _, _, _, _ => none
  | fuel + 1, a_Marks, a_Step, a_Turns, xh2_2_1, xh2_3_1, xh2_4_1 =>
    cond (decide (xh2_2_1 < a_Turns)) (
      cond (xh2_2_1 == 1) (
        f26_1 m fuel a_Marks a_Step a_Turns (w64 (xh2_2_1 + 1)) 1 1
      ) (
        (f59 m a_Marks a_Step (w64 (xh2_2_1 + 1)) xh2_2_1).bind fun r6 =>
          (f59 m a_Marks a_Step (w64 (xh2_2_1 + 1)) xh2_3_1).bind fun r7 =>
            cond (decide (r6 < r7)) (
              f26_1 m fuel a_Marks a_Step a_Turns (w64 (xh2_2_1 + 1)) xh2_2_1 xh2_4_1
            ) (
              (f59 m a_Marks a_Step (w64 (xh2_2_1 + 1)) xh2_4_1).bind fun r9 =>
                f26_1 m fuel a_Marks a_Step a_Turns (w64 (xh2_2_1 + 1)) xh2_3_1 (cond (decide (r6 > r9)) xh2_2_1 xh2_4_1)
            )
      )
    ) (
      some (xh2_2_1, xh2_3_1, xh2_4_1)
    )

theorem f26_1_ok (m : Nat) : ∀ (fuel : Nat) (a_Marks : Int) (a_Step : Int) (a_Turns : Int) (xh2_2_1 : Int) (xh2_3_1 : Int) (xh2_4_1 : Int) (o : (Int × Int × Int)), f26_1 m fuel a_Marks a_Step a_Turns xh2_2_1 xh2_3_1 xh2_4_1 = some o → ∀ Q : QP, Q (.exit 0) [(5, .pointer (some ⟨1, 0, none⟩))] [(1, .cells [.int .i64 a_Marks, .int .i64 a_Step, .int .i64 o.1, .int .i64 o.2.1, .int .i64 o.2.2] 0 88 0), (0, .cells [.int .i64 a_Marks, .int .i64 a_Step, .int .i64 a_Turns] 0 23 0)] 2 → XL E0 29 1 fuel f26_L1 [(1, .pointer (some ⟨1, 0, none⟩)), (5, .pointer (some ⟨2, 0, none⟩))] [(2, .cells [.int .i64 a_Marks, .int .i64 a_Step, .int .i64 xh2_2_1, .int .i64 xh2_3_1, .int .i64 xh2_4_1] 0 88 0), (1, .cells [.int .i64 a_Marks, .int .i64 a_Step, .int .i64 a_Turns] 0 23 0), (0, .cells [.int .i64 a_Marks, .int .i64 a_Step, .int .i64 a_Turns] 0 23 0)] 3 Q
  | 0, a_Marks, a_Step, a_Turns, xh2_2_1, xh2_3_1, xh2_4_1, o, h, Q, hQ => by cases h
  | fuel + 1, a_Marks, a_Step, a_Turns, xh2_2_1, xh2_3_1, xh2_4_1, o, h, Q, hQ => by
    unfold f26_1 at h
    refine XL.succ E0_ok ?_
    refine XQ.seq E0_ok (by kernel_rfl) ?_
    refine XQ.seq E0_ok (by kernel_rfl) ?_
    refine XQ.quiet E0_ok (by kernel_rfl) (by kernel_rfl) ?_
    refine XU.run E0_ok 1 8 [1, 5, 25] rfl (σ' := [(1, .pointer (some ⟨1, 0, none⟩)), (5, .pointer (some ⟨2, 0, none⟩)), (25, .bool (decide (xh2_2_1 < a_Turns)))]) (by kernel_rfl) ?_
    refine XU.done (by kernel_rfl) ?_
    show XQ _ _ _ _ _ _ _ _
    cases b1 : (decide (xh2_2_1 < a_Turns) : Bool) with
    | true =>
      have h := cT b1 h
      refine XQ.cond (s := (.tmp 25)) (b := true) (by kernel_rfl) (by kernel_rfl) (fun _ => ?_) (fun q => by cases q)
      refine XQ.skip (by kernel_rfl) ?_
      show XQ _ _ _ _ _ _ _ _
      refine XQ.block (id := 1) (by kernel_rfl) ?_
      refine XQ.region (by kernel_rfl) ?_
      refine XR.run E0_ok 1 1 [1, 5, 26] rfl (σ' := [(1, .pointer (some ⟨1, 0, none⟩)), (5, .pointer (some ⟨2, 0, none⟩)), (26, .pointer (some ⟨2, 0, none⟩))]) (h' := [(2, .cells [.int .i64 a_Marks, .int .i64 a_Step, .int .i64 xh2_2_1, .int .i64 xh2_3_1, .int .i64 xh2_4_1] 0 88 0), (1, .cells [.int .i64 a_Marks, .int .i64 a_Step, .int .i64 a_Turns] 0 23 0), (0, .cells [.int .i64 a_Marks, .int .i64 a_Step, .int .i64 a_Turns] 0 23 0)]) (c' := 3) (by kernel_rfl) ?_
      refine XR.callK E0_ok [1, 5] rfl (K := 73) (args := [.pointer (some ⟨2, 0, none⟩)]) (d := (some (path 12 27))) (by kernel_rfl) ?_
      refine KC.bodyN E0_ok (F := Proofs.Try.f73) (by kernel_rfl) (code := f26_C73) (by kernel_rfl) (nt := 66) (by kernel_rfl) (rs := []) (by kernel_rfl) (by kernel_rfl) (σ := [(0, .pointer (some ⟨2, 0, none⟩))]) (by kernel_rfl) ?_
      refine XQ.seq E0_ok (by kernel_rfl) ?_
      refine XQ.region (by kernel_rfl) ?_
      refine XR.run E0_ok 1 6 [0, 2] rfl (σ' := [(0, .pointer (some ⟨2, 0, none⟩)), (2, .int .i64 xh2_2_1)]) (h' := [(2, .cells [.int .i64 a_Marks, .int .i64 a_Step, .int .i64 xh2_2_1, .int .i64 xh2_3_1, .int .i64 xh2_4_1] 0 88 0), (1, .cells [.int .i64 a_Marks, .int .i64 a_Step, .int .i64 a_Turns] 0 23 0), (0, .cells [.int .i64 a_Marks, .int .i64 a_Step, .int .i64 a_Turns] 0 23 0)]) (c' := 3) (by kernel_rfl) ?_
      refine XR.done (by kernel_rfl) ?_
      show XQ _ _ _ _ _ _ _ _
      refine XQ.seq E0_ok (by kernel_rfl) ?_
      refine XQ.region (by kernel_rfl) ?_
      refine XR.run E0_ok 1 10 [0, 2] rfl (σ' := [(0, .pointer (some ⟨2, 0, none⟩)), (2, .int .i64 xh2_2_1)]) (h' := [(2, .cells [.int .i64 a_Marks, .int .i64 a_Step, .int .i64 (w64 (xh2_2_1 + 1)), .int .i64 xh2_3_1, .int .i64 xh2_4_1] 0 88 0), (1, .cells [.int .i64 a_Marks, .int .i64 a_Step, .int .i64 a_Turns] 0 23 0), (0, .cells [.int .i64 a_Marks, .int .i64 a_Step, .int .i64 a_Turns] 0 23 0)]) (c' := 3) (by kernel_rfl) ?_
      refine XR.done (by kernel_rfl) ?_
      show XQ _ _ _ _ _ _ _ _
      refine XQ.seq E0_ok (by kernel_rfl) ?_
      refine XQ.seq E0_ok (by kernel_rfl) ?_
      refine XQ.region (by kernel_rfl) ?_
      refine XR.run E0_ok 1 2 [0, 2, 19] rfl (σ' := [(0, .pointer (some ⟨2, 0, none⟩)), (2, .int .i64 xh2_2_1), (19, .bool (xh2_2_1 == 1))]) (h' := [(2, .cells [.int .i64 a_Marks, .int .i64 a_Step, .int .i64 (w64 (xh2_2_1 + 1)), .int .i64 xh2_3_1, .int .i64 xh2_4_1] 0 88 0), (1, .cells [.int .i64 a_Marks, .int .i64 a_Step, .int .i64 a_Turns] 0 23 0), (0, .cells [.int .i64 a_Marks, .int .i64 a_Step, .int .i64 a_Turns] 0 23 0)]) (c' := 3) (by kernel_rfl) ?_
      refine XR.done (by kernel_rfl) ?_
      show XQ _ _ _ _ _ _ _ _
      cases b2 : (xh2_2_1 == 1 : Bool) with
      | true =>
        have h := cT b2 h
        refine XQ.cond (s := (.tmp 19)) (b := true) (by kernel_rfl) (by kernel_rfl) (fun _ => ?_) (fun q => by cases q)
        refine XQ.seq E0_ok (by kernel_rfl) ?_
        refine XQ.region (by kernel_rfl) ?_
        refine XR.run E0_ok 1 5 [] rfl (σ' := []) (h' := [(2, .cells [.int .i64 a_Marks, .int .i64 a_Step, .int .i64 (w64 (xh2_2_1 + 1)), .int .i64 1, .int .i64 1] 0 88 0), (1, .cells [.int .i64 a_Marks, .int .i64 a_Step, .int .i64 a_Turns] 0 23 0), (0, .cells [.int .i64 a_Marks, .int .i64 a_Step, .int .i64 a_Turns] 0 23 0)]) (c' := 3) (by kernel_rfl) ?_
        refine XR.done (by kernel_rfl) ?_
        show XQ _ _ _ _ _ _ _ _
        refine XQ.ret (by kernel_rfl) ?_
        refine ⟨fun i q => (by cases q), .tuple #[], (by kernel_rfl), ?_⟩
        refine XR.conv (σ' := [(1, .pointer (some ⟨1, 0, none⟩)), (5, .pointer (some ⟨2, 0, none⟩))]) (h' := [(2, .cells [.int .i64 a_Marks, .int .i64 a_Step, .int .i64 (w64 (xh2_2_1 + 1)), .int .i64 1, .int .i64 1] 0 88 0), (1, .cells [.int .i64 a_Marks, .int .i64 a_Step, .int .i64 a_Turns] 0 23 0), (0, .cells [.int .i64 a_Marks, .int .i64 a_Step, .int .i64 a_Turns] 0 23 0)]) (c' := 3) ?_ (by kernel_rfl)
        refine XR.done (by kernel_rfl) ?_
        show XL _ _ _ _ _ _ _ _ _
        refine XL.ren (σ' := [(1, .pointer (some ⟨1, 0, none⟩)), (5, .pointer (some ⟨2, 0, none⟩))]) (h' := [(2, .cells [.int .i64 a_Marks, .int .i64 a_Step, .int .i64 (w64 (xh2_2_1 + 1)), .int .i64 1, .int .i64 1] 0 88 0), (1, .cells [.int .i64 a_Marks, .int .i64 a_Step, .int .i64 a_Turns] 0 23 0), (0, .cells [.int .i64 a_Marks, .int .i64 a_Step, .int .i64 a_Turns] 0 23 0)]) (c' := 3) [0, 1, 2] (by decide) rfl ⟨by kernel_rfl, by kernel_rfl, trivial⟩ ⟨⟨_, _, rfl, rfl, .inr ⟨_, _, _, _, rfl, rfl⟩⟩, ⟨_, _, rfl, rfl, .inr ⟨_, _, _, _, rfl, rfl⟩⟩, ⟨_, _, rfl, rfl, .inr ⟨_, _, _, _, rfl, rfl⟩⟩, trivial⟩ rfl ?_
        refine XL.conv (f26_1_ok m fuel a_Marks a_Step a_Turns (w64 (xh2_2_1 + 1)) 1 1 o h Q hQ) (by first | rfl | simp)
      | false =>
        have h := cF b2 h
        refine XQ.cond (s := (.tmp 19)) (b := false) (by kernel_rfl) (by kernel_rfl) (fun q => by cases q) (fun _ => ?_)
        refine XQ.skip (by kernel_rfl) ?_
        show XQ _ _ _ _ _ _ _ _
        refine XQ.seq E0_ok (by kernel_rfl) ?_
        refine XQ.region (by kernel_rfl) ?_
        refine XR.run E0_ok 1 5 [0, 2, 27, 28] rfl (σ' := [(0, .pointer (some ⟨2, 0, none⟩)), (2, .int .i64 xh2_2_1), (27, .agg #[.int .i64 a_Marks, .int .i64 a_Step, .int .i64 (w64 (xh2_2_1 + 1))]), (28, .int .i64 xh2_2_1)]) (h' := [(2, .cells [.int .i64 a_Marks, .int .i64 a_Step, .int .i64 (w64 (xh2_2_1 + 1)), .int .i64 xh2_3_1, .int .i64 xh2_4_1] 0 88 0), (1, .cells [.int .i64 a_Marks, .int .i64 a_Step, .int .i64 a_Turns] 0 23 0), (0, .cells [.int .i64 a_Marks, .int .i64 a_Step, .int .i64 a_Turns] 0 23 0)]) (c' := 3) (by kernel_rfl) ?_
        obtain ⟨r6, r6_h, h⟩ := bS h
        refine XR.call E0_ok [0, 2, 29] rfl (K := 59) (args := [.agg #[.int .i64 a_Marks, .int .i64 a_Step, .int .i64 (w64 (xh2_2_1 + 1))], .int .i64 xh2_2_1]) (d := (some (path 12 29))) (by kernel_rfl) (KC.of_calls E0_ok (F := Proofs.Try.f59) (v := .int .i64 r6) (by kernel_rfl) rfl rfl (fun w hI => f59_ok m a_Marks a_Step (w64 (xh2_2_1 + 1)) xh2_2_1 r6 r6_h w hI)) ?_
        rintro _ _ _ ⟨rfl, rfl, rfl⟩
        refine XR.conv (σ' := [(0, .pointer (some ⟨2, 0, none⟩)), (2, .int .i64 xh2_2_1), (29, .int .i64 r6)]) (h' := [(2, .cells [.int .i64 a_Marks, .int .i64 a_Step, .int .i64 (w64 (xh2_2_1 + 1)), .int .i64 xh2_3_1, .int .i64 xh2_4_1] 0 88 0), (1, .cells [.int .i64 a_Marks, .int .i64 a_Step, .int .i64 a_Turns] 0 23 0), (0, .cells [.int .i64 a_Marks, .int .i64 a_Step, .int .i64 a_Turns] 0 23 0)]) (c' := 3) ?_ (by kernel_rfl)
        refine XR.run E0_ok 1 1 [0, 2, 3] rfl (σ' := [(0, .pointer (some ⟨2, 0, none⟩)), (2, .int .i64 xh2_2_1), (3, .int .i64 r6)]) (h' := [(2, .cells [.int .i64 a_Marks, .int .i64 a_Step, .int .i64 (w64 (xh2_2_1 + 1)), .int .i64 xh2_3_1, .int .i64 xh2_4_1] 0 88 0), (1, .cells [.int .i64 a_Marks, .int .i64 a_Step, .int .i64 a_Turns] 0 23 0), (0, .cells [.int .i64 a_Marks, .int .i64 a_Step, .int .i64 a_Turns] 0 23 0)]) (c' := 3) (by kernel_rfl) ?_
        refine XR.done (by kernel_rfl) ?_
        show XQ _ _ _ _ _ _ _ _
        refine XQ.block (id := 0) (by kernel_rfl) ?_
        refine XQ.seq E0_ok (by kernel_rfl) ?_
        refine XQ.quiet E0_ok (by kernel_rfl) (by kernel_rfl) ?_
        refine XU.run E0_ok 1 10 [0, 2, 3, 31, 35, 40] rfl (σ' := [(0, .pointer (some ⟨2, 0, none⟩)), (2, .int .i64 xh2_2_1), (3, .int .i64 r6), (31, .int .i64 r6), (35, .agg #[.int .i64 a_Marks, .int .i64 a_Step, .int .i64 (w64 (xh2_2_1 + 1))]), (40, .int .i64 xh2_3_1)]) (by kernel_rfl) ?_
        obtain ⟨r7, r7_h, h⟩ := bS h
        refine XU.call E0_ok [0, 2, 3, 31, 41] rfl (K := 59) (F := Proofs.Try.f59) (args := [.agg #[.int .i64 a_Marks, .int .i64 a_Step, .int .i64 (w64 (xh2_2_1 + 1))], .int .i64 xh2_3_1]) (d := (some (path 12 41))) (v := .int .i64 r7) (by kernel_rfl) (by kernel_rfl) rfl rfl (fun w hI => f59_ok m a_Marks a_Step (w64 (xh2_2_1 + 1)) xh2_3_1 r7 r7_h w hI) (σ' := [(0, .pointer (some ⟨2, 0, none⟩)), (2, .int .i64 xh2_2_1), (3, .int .i64 r6), (31, .int .i64 r6), (41, .int .i64 r7)]) (by kernel_rfl) ?_
        refine XU.run E0_ok 1 2 [0, 2, 3, 30] rfl (σ' := [(0, .pointer (some ⟨2, 0, none⟩)), (2, .int .i64 xh2_2_1), (3, .int .i64 r6), (30, .bool (decide (r6 < r7)))]) (by kernel_rfl) ?_
        refine XU.done (by kernel_rfl) ?_
        show XQ _ _ _ _ _ _ _ _
        cases b3 : (decide (r6 < r7) : Bool) with
        | true =>
          have h := cT b3 h
          refine XQ.cond (s := (.tmp 30)) (b := true) (by kernel_rfl) (by kernel_rfl) (fun _ => ?_) (fun q => by cases q)
          refine XQ.region (by kernel_rfl) ?_
          refine XR.run E0_ok 1 6 [] rfl (σ' := []) (h' := [(2, .cells [.int .i64 a_Marks, .int .i64 a_Step, .int .i64 (w64 (xh2_2_1 + 1)), .int .i64 xh2_2_1, .int .i64 xh2_4_1] 0 88 0), (1, .cells [.int .i64 a_Marks, .int .i64 a_Step, .int .i64 a_Turns] 0 23 0), (0, .cells [.int .i64 a_Marks, .int .i64 a_Step, .int .i64 a_Turns] 0 23 0)]) (c' := 3) (by kernel_rfl) ?_
          refine XR.done (by kernel_rfl) ?_
          refine ⟨fun i q => (by cases q), .tuple #[], (by kernel_rfl), ?_⟩
          refine XR.conv (σ' := [(1, .pointer (some ⟨1, 0, none⟩)), (5, .pointer (some ⟨2, 0, none⟩))]) (h' := [(2, .cells [.int .i64 a_Marks, .int .i64 a_Step, .int .i64 (w64 (xh2_2_1 + 1)), .int .i64 xh2_2_1, .int .i64 xh2_4_1] 0 88 0), (1, .cells [.int .i64 a_Marks, .int .i64 a_Step, .int .i64 a_Turns] 0 23 0), (0, .cells [.int .i64 a_Marks, .int .i64 a_Step, .int .i64 a_Turns] 0 23 0)]) (c' := 3) ?_ (by kernel_rfl)
          refine XR.done (by kernel_rfl) ?_
          show XL _ _ _ _ _ _ _ _ _
          refine XL.ren (σ' := [(1, .pointer (some ⟨1, 0, none⟩)), (5, .pointer (some ⟨2, 0, none⟩))]) (h' := [(2, .cells [.int .i64 a_Marks, .int .i64 a_Step, .int .i64 (w64 (xh2_2_1 + 1)), .int .i64 xh2_2_1, .int .i64 xh2_4_1] 0 88 0), (1, .cells [.int .i64 a_Marks, .int .i64 a_Step, .int .i64 a_Turns] 0 23 0), (0, .cells [.int .i64 a_Marks, .int .i64 a_Step, .int .i64 a_Turns] 0 23 0)]) (c' := 3) [0, 1, 2] (by decide) rfl ⟨by kernel_rfl, by kernel_rfl, trivial⟩ ⟨⟨_, _, rfl, rfl, .inr ⟨_, _, _, _, rfl, rfl⟩⟩, ⟨_, _, rfl, rfl, .inr ⟨_, _, _, _, rfl, rfl⟩⟩, ⟨_, _, rfl, rfl, .inr ⟨_, _, _, _, rfl, rfl⟩⟩, trivial⟩ rfl ?_
          refine XL.conv (f26_1_ok m fuel a_Marks a_Step a_Turns (w64 (xh2_2_1 + 1)) xh2_2_1 xh2_4_1 o h Q hQ) (by first | rfl | simp)
        | false =>
          have h := cF b3 h
          refine XQ.cond (s := (.tmp 30)) (b := false) (by kernel_rfl) (by kernel_rfl) (fun q => by cases q) (fun _ => ?_)
          refine XQ.seq E0_ok (by kernel_rfl) ?_
          refine XQ.quiet E0_ok (by kernel_rfl) (by kernel_rfl) ?_
          refine XU.run E0_ok 1 10 [0, 2, 49, 53, 58] rfl (σ' := [(0, .pointer (some ⟨2, 0, none⟩)), (2, .int .i64 xh2_2_1), (49, .int .i64 r6), (53, .agg #[.int .i64 a_Marks, .int .i64 a_Step, .int .i64 (w64 (xh2_2_1 + 1))]), (58, .int .i64 xh2_4_1)]) (by kernel_rfl) ?_
          obtain ⟨r9, r9_h, h⟩ := bS h
          refine XU.call E0_ok [0, 2, 49, 59] rfl (K := 59) (F := Proofs.Try.f59) (args := [.agg #[.int .i64 a_Marks, .int .i64 a_Step, .int .i64 (w64 (xh2_2_1 + 1))], .int .i64 xh2_4_1]) (d := (some (path 12 59))) (v := .int .i64 r9) (by kernel_rfl) (by kernel_rfl) rfl rfl (fun w hI => f59_ok m a_Marks a_Step (w64 (xh2_2_1 + 1)) xh2_4_1 r9 r9_h w hI) (σ' := [(0, .pointer (some ⟨2, 0, none⟩)), (2, .int .i64 xh2_2_1), (49, .int .i64 r6), (59, .int .i64 r9)]) (by kernel_rfl) ?_
          refine XU.run E0_ok 1 2 [0, 2, 48] rfl (σ' := [(0, .pointer (some ⟨2, 0, none⟩)), (2, .int .i64 xh2_2_1), (48, .bool (decide (r6 > r9)))]) (by kernel_rfl) ?_
          refine XU.done (by kernel_rfl) ?_
          show XQ _ _ _ _ _ _ _ _
          refine XQ.meetC (σ' := []) (h' := [(2, .cells [.int .i64 a_Marks, .int .i64 a_Step, .int .i64 (w64 (xh2_2_1 + 1)), .int .i64 xh2_3_1, .int .i64 (cond (decide (r6 > r9)) xh2_2_1 xh2_4_1)] 0 88 0), (1, .cells [.int .i64 a_Marks, .int .i64 a_Step, .int .i64 a_Turns] 0 23 0), (0, .cells [.int .i64 a_Marks, .int .i64 a_Step, .int .i64 a_Turns] 0 23 0)]) (c' := 3) ?_ ?_
          rotate_left
          · refine XQ.cond (s := (.tmp 48)) (b := decide (r6 > r9)) (by kernel_rfl) (by kernel_rfl) (fun b4 => ?_) (fun b4 => ?_)
            · refine XQ.region (by kernel_rfl) ?_
              refine XR.run E0_ok 1 6 [] rfl (σ' := []) (h' := [(2, .cells [.int .i64 a_Marks, .int .i64 a_Step, .int .i64 (w64 (xh2_2_1 + 1)), .int .i64 xh2_3_1, .int .i64 xh2_2_1] 0 88 0), (1, .cells [.int .i64 a_Marks, .int .i64 a_Step, .int .i64 a_Turns] 0 23 0), (0, .cells [.int .i64 a_Marks, .int .i64 a_Step, .int .i64 a_Turns] 0 23 0)]) (c' := 3) (by kernel_rfl) ?_
              refine XR.done (by kernel_rfl) ?_
              refine ⟨rfl, ?_, ?_⟩
              · try rw [b4]
                exact trivial
              · try rw [b4]
                kernel_rfl
            · refine XQ.skip (by kernel_rfl) ?_
              refine ⟨rfl, ?_, ?_⟩
              · try rw [b4]
                exact trivial
              · try rw [b4]
                kernel_rfl
          refine ⟨fun i q => (by cases q), .tuple #[], (by kernel_rfl), ?_⟩
          refine XR.conv (σ' := [(1, .pointer (some ⟨1, 0, none⟩)), (5, .pointer (some ⟨2, 0, none⟩))]) (h' := [(2, .cells [.int .i64 a_Marks, .int .i64 a_Step, .int .i64 (w64 (xh2_2_1 + 1)), .int .i64 xh2_3_1, .int .i64 (cond (decide (r6 > r9)) xh2_2_1 xh2_4_1)] 0 88 0), (1, .cells [.int .i64 a_Marks, .int .i64 a_Step, .int .i64 a_Turns] 0 23 0), (0, .cells [.int .i64 a_Marks, .int .i64 a_Step, .int .i64 a_Turns] 0 23 0)]) (c' := 3) ?_ (by kernel_rfl)
          refine XR.done (by kernel_rfl) ?_
          show XL _ _ _ _ _ _ _ _ _
          refine XL.ren (σ' := [(1, .pointer (some ⟨1, 0, none⟩)), (5, .pointer (some ⟨2, 0, none⟩))]) (h' := [(2, .cells [.int .i64 a_Marks, .int .i64 a_Step, .int .i64 (w64 (xh2_2_1 + 1)), .int .i64 xh2_3_1, .int .i64 (cond (decide (r6 > r9)) xh2_2_1 xh2_4_1)] 0 88 0), (1, .cells [.int .i64 a_Marks, .int .i64 a_Step, .int .i64 a_Turns] 0 23 0), (0, .cells [.int .i64 a_Marks, .int .i64 a_Step, .int .i64 a_Turns] 0 23 0)]) (c' := 3) [0, 1, 2] (by decide) rfl ⟨by kernel_rfl, by kernel_rfl, trivial⟩ ⟨⟨_, _, rfl, rfl, .inr ⟨_, _, _, _, rfl, rfl⟩⟩, ⟨_, _, rfl, rfl, .inr ⟨_, _, _, _, rfl, rfl⟩⟩, ⟨_, _, rfl, rfl, .inr ⟨_, _, _, _, rfl, rfl⟩⟩, trivial⟩ rfl ?_
          refine XL.conv (f26_1_ok m fuel a_Marks a_Step a_Turns (w64 (xh2_2_1 + 1)) xh2_3_1 (cond (decide (r6 > r9)) xh2_2_1 xh2_4_1) o h Q hQ) (by first | rfl | simp)
    | false =>
      have h := cF b1 h
      refine XQ.cond (s := (.tmp 25)) (b := false) (by kernel_rfl) (by kernel_rfl) (fun q => by cases q) (fun _ => ?_)
      refine XQ.ren (σ' := [(5, .pointer (some ⟨1, 0, none⟩))]) (h' := [(1, .cells [.int .i64 a_Marks, .int .i64 a_Step, .int .i64 xh2_2_1, .int .i64 xh2_3_1, .int .i64 xh2_4_1] 0 88 0), (0, .cells [.int .i64 a_Marks, .int .i64 a_Step, .int .i64 a_Turns] 0 23 0)]) (c' := 2) [0, 2] (by decide) rfl ⟨by kernel_rfl, trivial⟩ ⟨⟨_, _, rfl, rfl, .inr ⟨_, _, _, _, rfl, rfl⟩⟩, ⟨_, _, rfl, rfl, .inr ⟨_, _, _, _, rfl, rfl⟩⟩, trivial⟩ rfl ?_
      refine XQ.exit (i := 0) (by kernel_rfl) ?_
      cases h
      exact hQ

def f26 (m : Nat) (a_Marks : Int) (a_Step : Int) (a_Turns : Int) : Option (Int × Int × Int) :=
  (f20 m a_Marks a_Step a_Turns).bind fun r1 =>
    cond (r1 != 0) (
      some (0, 0, r1)
    ) (
      (f26_1 m m a_Marks a_Step a_Turns 1 0 0).bind fun o1 =>
        (f65 m a_Marks a_Step a_Turns).bind fun r10 =>
          cond (a_Turns == r10) (
            some (0, 0, 12)
          ) (
            cond (o1.1 == 1) (
              (f71 m a_Marks a_Step (w64 (o1.1 + 1)) 1 1 a_Turns).bind fun r11 =>
                (f69 m a_Marks a_Step (w64 (o1.1 + 1)) 1 1 a_Turns).bind fun r12 =>
                  some (r11, r12, 0)
            ) (
              (f59 m a_Marks a_Step (w64 (o1.1 + 1)) o1.1).bind fun r13 =>
                (f59 m a_Marks a_Step (w64 (o1.1 + 1)) o1.2.1).bind fun r14 =>
                  cond (decide (r13 < r14)) (
                    (f71 m a_Marks a_Step (w64 (o1.1 + 1)) o1.1 o1.2.2 a_Turns).bind fun r16 =>
                      (f69 m a_Marks a_Step (w64 (o1.1 + 1)) o1.1 o1.2.2 a_Turns).bind fun r17 =>
                        some (r16, r17, 0)
                  ) (
                    (f59 m a_Marks a_Step (w64 (o1.1 + 1)) o1.2.2).bind fun r18 =>
                      (f71 m a_Marks a_Step (w64 (o1.1 + 1)) o1.2.1 (cond (decide (r13 > r18)) o1.1 o1.2.2) a_Turns).bind fun r19 =>
                        (f69 m a_Marks a_Step (w64 (o1.1 + 1)) o1.2.1 (cond (decide (r13 > r18)) o1.1 o1.2.2) a_Turns).bind fun r20 =>
                          some (r19, r20, 0)
                  )
            )
          )
    )

theorem f26_ok (m : Nat) (a_Marks : Int) (a_Step : Int) (a_Turns : Int) (o : Int × Int × Int) (h : f26 m a_Marks a_Step a_Turns = some o) (w : World) (hI : anyInv w) : Calls Proofs.Try.prog 26 #[.agg #[.int .i64 a_Marks, .int .i64 a_Step, .int .i64 a_Turns]] w fun e w' => e = .returned (.tuple #[.int .i64 o.1, .int .i64 o.2.1, .int .i64 o.2.2]) ∧ Below w.heap.size w w' := by
  refine KC.calls (E := E0) (args := [.agg #[.int .i64 a_Marks, .int .i64 a_Step, .int .i64 a_Turns]]) (v := .tuple #[.int .i64 o.1, .int .i64 o.2.1, .int .i64 o.2.2]) rfl rfl (KC.bodyN E0_ok (F := Proofs.Try.f26) (by kernel_rfl) (code := f26_C26) (by kernel_rfl) (nt := 31) (by kernel_rfl) (rs := [.tmp 2, .tmp 3, .tmp 4]) (by kernel_rfl) (by kernel_rfl) (σ := [(0, .agg #[.int .i64 a_Marks, .int .i64 a_Step, .int .i64 a_Turns])]) (by kernel_rfl) ?_) w (anyInv_size hI) hI
  unfold f26 at h
  refine XQ.seq E0_ok (by kernel_rfl) ?_
  refine XQ.region (by kernel_rfl) ?_
  refine XR.run E0_ok 1 4 [1] rfl (σ' := [(1, .pointer (some ⟨0, 0, none⟩))]) (h' := [(0, .cells [.int .i64 a_Marks, .int .i64 a_Step, .int .i64 a_Turns] 0 23 0)]) (c' := 1) (by kernel_rfl) ?_
  refine XR.done (by kernel_rfl) ?_
  show XQ _ _ _ _ _ _ _ _
  refine XQ.seq E0_ok (by kernel_rfl) ?_
  refine XQ.region (by kernel_rfl) ?_
  refine XR.run E0_ok 1 1 [1, 7] rfl (σ' := [(1, .pointer (some ⟨0, 0, none⟩)), (7, .agg #[.int .i64 a_Marks, .int .i64 a_Step, .int .i64 a_Turns])]) (h' := [(0, .cells [.int .i64 a_Marks, .int .i64 a_Step, .int .i64 a_Turns] 0 23 0)]) (c' := 1) (by kernel_rfl) ?_
  refine XR.callK E0_ok [1, 8] rfl (K := 72) (args := [.agg #[.int .i64 a_Marks, .int .i64 a_Step, .int .i64 a_Turns]]) (d := (some (path 12 8))) (by kernel_rfl) ?_
  refine KC.bodyN E0_ok (F := Proofs.Try.f72) (by kernel_rfl) (code := f26_C72) (by kernel_rfl) (nt := 29) (by kernel_rfl) (rs := [.tmp 2, .tmp 3]) (by kernel_rfl) (by kernel_rfl) (σ := [(0, .agg #[.int .i64 a_Marks, .int .i64 a_Step, .int .i64 a_Turns])]) (by kernel_rfl) ?_
  refine XQ.seq E0_ok (by kernel_rfl) ?_
  refine XQ.region (by kernel_rfl) ?_
  refine XR.run E0_ok 1 3 [1] rfl (σ' := [(1, .pointer (some ⟨1, 0, none⟩))]) (h' := [(1, .cells [.int .i64 a_Marks, .int .i64 a_Step, .int .i64 a_Turns] 0 23 0), (0, .cells [.int .i64 a_Marks, .int .i64 a_Step, .int .i64 a_Turns] 0 23 0)]) (c' := 2) (by kernel_rfl) ?_
  refine XR.done (by kernel_rfl) ?_
  show XQ _ _ _ _ _ _ _ _
  refine XQ.seq E0_ok (by kernel_rfl) ?_
  refine XQ.seq E0_ok (by kernel_rfl) ?_
  refine XQ.region (by kernel_rfl) ?_
  refine XR.run E0_ok 1 1 [1, 6] rfl (σ' := [(1, .pointer (some ⟨1, 0, none⟩)), (6, .agg #[.int .i64 a_Marks, .int .i64 a_Step, .int .i64 a_Turns])]) (h' := [(1, .cells [.int .i64 a_Marks, .int .i64 a_Step, .int .i64 a_Turns] 0 23 0), (0, .cells [.int .i64 a_Marks, .int .i64 a_Step, .int .i64 a_Turns] 0 23 0)]) (c' := 2) (by kernel_rfl) ?_
  obtain ⟨r1, r1_h, h⟩ := bS h
  refine XR.call E0_ok [1, 7] rfl (K := 20) (args := [.agg #[.int .i64 a_Marks, .int .i64 a_Step, .int .i64 a_Turns]]) (d := (some (path 12 7))) (by kernel_rfl) (KC.of_calls E0_ok (F := Proofs.Try.f20) (v := .int .i64 r1) (by kernel_rfl) rfl rfl (fun w hI => f20_ok m a_Marks a_Step a_Turns r1 r1_h w hI)) ?_
  rintro _ _ _ ⟨rfl, rfl, rfl⟩
  refine XR.conv (σ' := [(1, .pointer (some ⟨1, 0, none⟩)), (7, .int .i64 r1)]) (h' := [(1, .cells [.int .i64 a_Marks, .int .i64 a_Step, .int .i64 a_Turns] 0 23 0), (0, .cells [.int .i64 a_Marks, .int .i64 a_Step, .int .i64 a_Turns] 0 23 0)]) (c' := 2) ?_ (by kernel_rfl)
  refine XR.run E0_ok 1 1 [1, 4] rfl (σ' := [(1, .pointer (some ⟨1, 0, none⟩)), (4, .int .i64 r1)]) (h' := [(1, .cells [.int .i64 a_Marks, .int .i64 a_Step, .int .i64 a_Turns] 0 23 0), (0, .cells [.int .i64 a_Marks, .int .i64 a_Step, .int .i64 a_Turns] 0 23 0)]) (c' := 2) (by kernel_rfl) ?_
  refine XR.done (by kernel_rfl) ?_
  show XQ _ _ _ _ _ _ _ _
  refine XQ.seq E0_ok (by kernel_rfl) ?_
  refine XQ.region (by kernel_rfl) ?_
  refine XR.run E0_ok 1 2 [1, 4, 9] rfl (σ' := [(1, .pointer (some ⟨1, 0, none⟩)), (4, .int .i64 r1), (9, .bool (r1 != 0))]) (h' := [(1, .cells [.int .i64 a_Marks, .int .i64 a_Step, .int .i64 a_Turns] 0 23 0), (0, .cells [.int .i64 a_Marks, .int .i64 a_Step, .int .i64 a_Turns] 0 23 0)]) (c' := 2) (by kernel_rfl) ?_
  refine XR.done (by kernel_rfl) ?_
  show XQ _ _ _ _ _ _ _ _
  cases b1 : (r1 != 0 : Bool) with
  | true =>
    have h := cT b1 h
    refine XQ.cond (s := (.tmp 9)) (b := true) (by kernel_rfl) (by kernel_rfl) (fun _ => ?_) (fun q => by cases q)
    refine XQ.seq E0_ok (by kernel_rfl) ?_
    refine XQ.region (by kernel_rfl) ?_
    refine XR.run E0_ok 1 3 [2, 3] rfl (σ' := [(2, .pointer none), (3, .int .i64 r1)]) (h' := [(1, .cells [.int .i64 a_Marks, .int .i64 a_Step, .int .i64 a_Turns] 0 23 0), (0, .cells [.int .i64 a_Marks, .int .i64 a_Step, .int .i64 a_Turns] 0 23 0)]) (c' := 2) (by kernel_rfl) ?_
    refine XR.done (by kernel_rfl) ?_
    show XQ _ _ _ _ _ _ _ _
    refine XQ.ret (by kernel_rfl) ?_
    refine ⟨fun i q => (by cases q), .tuple #[.pointer none, .int .i64 r1], (by kernel_rfl), ?_⟩
    refine XR.conv (σ' := [(1, .pointer (some ⟨0, 0, none⟩)), (8, .tuple #[.pointer none, .int .i64 r1])]) (h' := [(1, .cells [.int .i64 a_Marks, .int .i64 a_Step, .int .i64 a_Turns] 0 23 0), (0, .cells [.int .i64 a_Marks, .int .i64 a_Step, .int .i64 a_Turns] 0 23 0)]) (c' := 2) ?_ (by kernel_rfl)
    refine XR.run E0_ok 1 5 [1, 4, 5] rfl (σ' := [(1, .pointer (some ⟨0, 0, none⟩)), (4, .int .i64 r1), (5, .pointer none)]) (h' := [(1, .cells [.int .i64 a_Marks, .int .i64 a_Step, .int .i64 a_Turns] 0 23 0), (0, .cells [.int .i64 a_Marks, .int .i64 a_Step, .int .i64 a_Turns] 0 23 0)]) (c' := 2) (by kernel_rfl) ?_
    refine XR.done (by kernel_rfl) ?_
    show XQ _ _ _ _ _ _ _ _
    refine XQ.seq E0_ok (by kernel_rfl) ?_
    refine XQ.block (id := 0) (by kernel_rfl) ?_
    refine XQ.seq E0_ok (by kernel_rfl) ?_
    refine XQ.region (by kernel_rfl) ?_
    refine XR.run E0_ok 1 3 [1, 4, 5, 11] rfl (σ' := [(1, .pointer (some ⟨0, 0, none⟩)), (4, .int .i64 r1), (5, .pointer none), (11, .bool (r1 != 0))]) (h' := [(1, .cells [.int .i64 a_Marks, .int .i64 a_Step, .int .i64 a_Turns] 0 23 0), (0, .cells [.int .i64 a_Marks, .int .i64 a_Step, .int .i64 a_Turns] 0 23 0)]) (c' := 2) (by kernel_rfl) ?_
    refine XR.done (by kernel_rfl) ?_
    show XQ _ _ _ _ _ _ _ _
    rw [b1]
    refine XQ.cond (s := (.tmp 11)) (b := true) (by kernel_rfl) (by kernel_rfl) (fun _ => ?_) (fun q => by cases q)
    refine XQ.seq E0_ok (by kernel_rfl) ?_
    refine XQ.region (by kernel_rfl) ?_
    refine XR.run E0_ok 1 4 [2, 3, 4] rfl (σ' := [(2, .int .i64 0), (3, .int .i64 0), (4, .int .i64 r1)]) (h' := [(1, .cells [.int .i64 a_Marks, .int .i64 a_Step, .int .i64 a_Turns] 0 23 0), (0, .cells [.int .i64 a_Marks, .int .i64 a_Step, .int .i64 a_Turns] 0 23 0)]) (c' := 2) (by kernel_rfl) ?_
    refine XR.done (by kernel_rfl) ?_
    show XQ _ _ _ _ _ _ _ _
    refine XQ.ret (by kernel_rfl) ?_
    have h := Option.some.inj h
    subst h
    exact ⟨fun i q => (by cases q), .tuple #[.int .i64 0, .int .i64 0, .int .i64 r1], (by kernel_rfl), rfl⟩
  | false =>
    have h := cF b1 h
    refine XQ.cond (s := (.tmp 9)) (b := false) (by kernel_rfl) (by kernel_rfl) (fun q => by cases q) (fun _ => ?_)
    refine XQ.skip (by kernel_rfl) ?_
    show XQ _ _ _ _ _ _ _ _
    refine XQ.seq E0_ok (by kernel_rfl) ?_
    refine XQ.region (by kernel_rfl) ?_
    refine XR.run E0_ok 1 8 [1, 5] rfl (σ' := [(1, .pointer (some ⟨1, 0, none⟩)), (5, .pointer (some ⟨2, 0, none⟩))]) (h' := [(2, .cells [.int .i64 a_Marks, .int .i64 a_Step, .int .i64 1, .int .i64 0, .int .i64 0] 0 88 0), (1, .cells [.int .i64 a_Marks, .int .i64 a_Step, .int .i64 a_Turns] 0 23 0), (0, .cells [.int .i64 a_Marks, .int .i64 a_Step, .int .i64 a_Turns] 0 23 0)]) (c' := 3) (by kernel_rfl) ?_
    refine XR.done (by kernel_rfl) ?_
    show XQ _ _ _ _ _ _ _ _
    refine XQ.seq E0_ok (by kernel_rfl) ?_
    refine XQ.block (id := 0) (by kernel_rfl) ?_
    refine XQ.loop m (by kernel_rfl) ?_
    obtain ⟨o1, o1_h, h⟩ := bS h
    refine XL.ren (σ' := [(1, .pointer (some ⟨1, 0, none⟩)), (5, .pointer (some ⟨2, 0, none⟩))]) (h' := [(2, .cells [.int .i64 a_Marks, .int .i64 a_Step, .int .i64 1, .int .i64 0, .int .i64 0] 0 88 0), (1, .cells [.int .i64 a_Marks, .int .i64 a_Step, .int .i64 a_Turns] 0 23 0), (0, .cells [.int .i64 a_Marks, .int .i64 a_Step, .int .i64 a_Turns] 0 23 0)]) (c' := 3) [0, 1, 2] (by decide) rfl ⟨by kernel_rfl, by kernel_rfl, trivial⟩ ⟨⟨_, _, rfl, rfl, .inr ⟨_, _, _, _, rfl, rfl⟩⟩, ⟨_, _, rfl, rfl, .inr ⟨_, _, _, _, rfl, rfl⟩⟩, ⟨_, _, rfl, rfl, .inr ⟨_, _, _, _, rfl, rfl⟩⟩, trivial⟩ rfl ?_
    refine XL.conv (f26_1_ok m m a_Marks a_Step a_Turns 1 0 0 o1 o1_h _ ?_) (by first | rfl | simp)
    show XQ _ _ _ _ _ _ _ _
    refine XQ.seq E0_ok (by kernel_rfl) ?_
    refine XQ.region (by kernel_rfl) ?_
    refine XR.run E0_ok 1 3 [2, 3] rfl (σ' := [(2, .pointer (some ⟨1, 0, none⟩)), (3, .int .i64 0)]) (h' := [(1, .cells [.int .i64 a_Marks, .int .i64 a_Step, .int .i64 o1.1, .int .i64 o1.2.1, .int .i64 o1.2.2] 0 88 0), (0, .cells [.int .i64 a_Marks, .int .i64 a_Step, .int .i64 a_Turns] 0 23 0)]) (c' := 2) (by kernel_rfl) ?_
    refine XR.done (by kernel_rfl) ?_
    show XQ _ _ _ _ _ _ _ _
    refine XQ.ret (by kernel_rfl) ?_
    refine ⟨fun i q => (by cases q), .tuple #[.pointer (some ⟨1, 0, none⟩), .int .i64 0], (by kernel_rfl), ?_⟩
    refine XR.conv (σ' := [(1, .pointer (some ⟨0, 0, none⟩)), (8, .tuple #[.pointer (some ⟨1, 0, none⟩), .int .i64 0])]) (h' := [(1, .cells [.int .i64 a_Marks, .int .i64 a_Step, .int .i64 o1.1, .int .i64 o1.2.1, .int .i64 o1.2.2] 0 88 0), (0, .cells [.int .i64 a_Marks, .int .i64 a_Step, .int .i64 a_Turns] 0 23 0)]) (c' := 2) ?_ (by kernel_rfl)
    refine XR.run E0_ok 1 5 [1, 4, 5] rfl (σ' := [(1, .pointer (some ⟨0, 0, none⟩)), (4, .int .i64 0), (5, .pointer (some ⟨1, 0, none⟩))]) (h' := [(1, .cells [.int .i64 a_Marks, .int .i64 a_Step, .int .i64 o1.1, .int .i64 o1.2.1, .int .i64 o1.2.2] 0 88 0), (0, .cells [.int .i64 a_Marks, .int .i64 a_Step, .int .i64 a_Turns] 0 23 0)]) (c' := 2) (by kernel_rfl) ?_
    refine XR.done (by kernel_rfl) ?_
    show XQ _ _ _ _ _ _ _ _
    refine XQ.seq E0_ok (by kernel_rfl) ?_
    refine XQ.block (id := 0) (by kernel_rfl) ?_
    refine XQ.seq E0_ok (by kernel_rfl) ?_
    refine XQ.region (by kernel_rfl) ?_
    refine XR.run E0_ok 1 3 [1, 4, 5, 11] rfl (σ' := [(1, .pointer (some ⟨0, 0, none⟩)), (4, .int .i64 0), (5, .pointer (some ⟨1, 0, none⟩)), (11, .bool false)]) (h' := [(1, .cells [.int .i64 a_Marks, .int .i64 a_Step, .int .i64 o1.1, .int .i64 o1.2.1, .int .i64 o1.2.2] 0 88 0), (0, .cells [.int .i64 a_Marks, .int .i64 a_Step, .int .i64 a_Turns] 0 23 0)]) (c' := 2) (by kernel_rfl) ?_
    refine XR.done (by kernel_rfl) ?_
    show XQ _ _ _ _ _ _ _ _
    refine XQ.cond (s := (.tmp 11)) (b := false) (by kernel_rfl) (by kernel_rfl) (fun q => by cases q) (fun _ => ?_)
    refine XQ.seq E0_ok (by kernel_rfl) ?_
    refine XQ.quiet E0_ok (by kernel_rfl) (by kernel_rfl) ?_
    refine XU.run E0_ok 1 3 [1, 5, 17, 18] rfl (σ' := [(1, .pointer (some ⟨0, 0, none⟩)), (5, .pointer (some ⟨1, 0, none⟩)), (17, .int .i64 a_Turns), (18, .agg #[.int .i64 a_Marks, .int .i64 a_Step, .int .i64 a_Turns])]) (by kernel_rfl) ?_
    obtain ⟨r10, r10_h, h⟩ := bS h
    refine XU.call E0_ok [1, 5, 17, 19] rfl (K := 65) (F := Proofs.Try.f65) (args := [.agg #[.int .i64 a_Marks, .int .i64 a_Step, .int .i64 a_Turns]]) (d := (some (path 12 19))) (v := .int .i64 r10) (by kernel_rfl) (by kernel_rfl) rfl rfl (fun w hI => f65_ok m a_Marks a_Step a_Turns r10 r10_h w hI) (σ' := [(1, .pointer (some ⟨0, 0, none⟩)), (5, .pointer (some ⟨1, 0, none⟩)), (17, .int .i64 a_Turns), (19, .int .i64 r10)]) (by kernel_rfl) ?_
    refine XU.run E0_ok 1 2 [1, 5, 15] rfl (σ' := [(1, .pointer (some ⟨0, 0, none⟩)), (5, .pointer (some ⟨1, 0, none⟩)), (15, .bool (a_Turns == r10))]) (by kernel_rfl) ?_
    refine XU.done (by kernel_rfl) ?_
    show XQ _ _ _ _ _ _ _ _
    cases b3 : (a_Turns == r10 : Bool) with
    | true =>
      have h := cT b3 h
      refine XQ.cond (s := (.tmp 15)) (b := true) (by kernel_rfl) (by kernel_rfl) (fun _ => ?_) (fun q => by cases q)
      refine XQ.seq E0_ok (by kernel_rfl) ?_
      refine XQ.region (by kernel_rfl) ?_
      refine XR.run E0_ok 1 3 [2, 3, 4] rfl (σ' := [(2, .int .i64 0), (3, .int .i64 0), (4, .int .i64 12)]) (h' := [(1, .cells [.int .i64 a_Marks, .int .i64 a_Step, .int .i64 o1.1, .int .i64 o1.2.1, .int .i64 o1.2.2] 0 88 0), (0, .cells [.int .i64 a_Marks, .int .i64 a_Step, .int .i64 a_Turns] 0 23 0)]) (c' := 2) (by kernel_rfl) ?_
      refine XR.done (by kernel_rfl) ?_
      show XQ _ _ _ _ _ _ _ _
      refine XQ.ret (by kernel_rfl) ?_
      have h := Option.some.inj h
      subst h
      exact ⟨fun i q => (by cases q), .tuple #[.int .i64 0, .int .i64 0, .int .i64 12], (by kernel_rfl), rfl⟩
    | false =>
      have h := cF b3 h
      refine XQ.cond (s := (.tmp 15)) (b := false) (by kernel_rfl) (by kernel_rfl) (fun q => by cases q) (fun _ => ?_)
      refine XQ.skip (by kernel_rfl) ?_
      show XQ _ _ _ _ _ _ _ _
      refine XQ.seq E0_ok (by kernel_rfl) ?_
      refine XQ.region (by kernel_rfl) ?_
      refine XR.run E0_ok 1 1 [1, 5, 21] rfl (σ' := [(1, .pointer (some ⟨0, 0, none⟩)), (5, .pointer (some ⟨1, 0, none⟩)), (21, .pointer (some ⟨1, 0, none⟩))]) (h' := [(1, .cells [.int .i64 a_Marks, .int .i64 a_Step, .int .i64 o1.1, .int .i64 o1.2.1, .int .i64 o1.2.2] 0 88 0), (0, .cells [.int .i64 a_Marks, .int .i64 a_Step, .int .i64 a_Turns] 0 23 0)]) (c' := 2) (by kernel_rfl) ?_
      refine XR.callK E0_ok [1, 5] rfl (K := 73) (args := [.pointer (some ⟨1, 0, none⟩)]) (d := (some (path 12 22))) (by kernel_rfl) ?_
      refine KC.bodyN E0_ok (F := Proofs.Try.f73) (by kernel_rfl) (code := f26_C73) (by kernel_rfl) (nt := 66) (by kernel_rfl) (rs := []) (by kernel_rfl) (by kernel_rfl) (σ := [(0, .pointer (some ⟨1, 0, none⟩))]) (by kernel_rfl) ?_
      refine XQ.seq E0_ok (by kernel_rfl) ?_
      refine XQ.region (by kernel_rfl) ?_
      refine XR.run E0_ok 1 6 [0, 2] rfl (σ' := [(0, .pointer (some ⟨1, 0, none⟩)), (2, .int .i64 o1.1)]) (h' := [(1, .cells [.int .i64 a_Marks, .int .i64 a_Step, .int .i64 o1.1, .int .i64 o1.2.1, .int .i64 o1.2.2] 0 88 0), (0, .cells [.int .i64 a_Marks, .int .i64 a_Step, .int .i64 a_Turns] 0 23 0)]) (c' := 2) (by kernel_rfl) ?_
      refine XR.done (by kernel_rfl) ?_
      show XQ _ _ _ _ _ _ _ _
      refine XQ.seq E0_ok (by kernel_rfl) ?_
      refine XQ.region (by kernel_rfl) ?_
      refine XR.run E0_ok 1 10 [0, 2] rfl (σ' := [(0, .pointer (some ⟨1, 0, none⟩)), (2, .int .i64 o1.1)]) (h' := [(1, .cells [.int .i64 a_Marks, .int .i64 a_Step, .int .i64 (w64 (o1.1 + 1)), .int .i64 o1.2.1, .int .i64 o1.2.2] 0 88 0), (0, .cells [.int .i64 a_Marks, .int .i64 a_Step, .int .i64 a_Turns] 0 23 0)]) (c' := 2) (by kernel_rfl) ?_
      refine XR.done (by kernel_rfl) ?_
      show XQ _ _ _ _ _ _ _ _
      refine XQ.seq E0_ok (by kernel_rfl) ?_
      refine XQ.seq E0_ok (by kernel_rfl) ?_
      refine XQ.region (by kernel_rfl) ?_
      refine XR.run E0_ok 1 2 [0, 2, 19] rfl (σ' := [(0, .pointer (some ⟨1, 0, none⟩)), (2, .int .i64 o1.1), (19, .bool (o1.1 == 1))]) (h' := [(1, .cells [.int .i64 a_Marks, .int .i64 a_Step, .int .i64 (w64 (o1.1 + 1)), .int .i64 o1.2.1, .int .i64 o1.2.2] 0 88 0), (0, .cells [.int .i64 a_Marks, .int .i64 a_Step, .int .i64 a_Turns] 0 23 0)]) (c' := 2) (by kernel_rfl) ?_
      refine XR.done (by kernel_rfl) ?_
      show XQ _ _ _ _ _ _ _ _
      cases b4 : (o1.1 == 1 : Bool) with
      | true =>
        have h := cT b4 h
        refine XQ.cond (s := (.tmp 19)) (b := true) (by kernel_rfl) (by kernel_rfl) (fun _ => ?_) (fun q => by cases q)
        refine XQ.seq E0_ok (by kernel_rfl) ?_
        refine XQ.region (by kernel_rfl) ?_
        refine XR.run E0_ok 1 5 [] rfl (σ' := []) (h' := [(1, .cells [.int .i64 a_Marks, .int .i64 a_Step, .int .i64 (w64 (o1.1 + 1)), .int .i64 1, .int .i64 1] 0 88 0), (0, .cells [.int .i64 a_Marks, .int .i64 a_Step, .int .i64 a_Turns] 0 23 0)]) (c' := 2) (by kernel_rfl) ?_
        refine XR.done (by kernel_rfl) ?_
        show XQ _ _ _ _ _ _ _ _
        refine XQ.ret (by kernel_rfl) ?_
        refine ⟨fun i q => (by cases q), .tuple #[], (by kernel_rfl), ?_⟩
        refine XR.conv (σ' := [(1, .pointer (some ⟨0, 0, none⟩)), (5, .pointer (some ⟨1, 0, none⟩))]) (h' := [(1, .cells [.int .i64 a_Marks, .int .i64 a_Step, .int .i64 (w64 (o1.1 + 1)), .int .i64 1, .int .i64 1] 0 88 0), (0, .cells [.int .i64 a_Marks, .int .i64 a_Step, .int .i64 a_Turns] 0 23 0)]) (c' := 2) ?_ (by kernel_rfl)
        refine XR.done (by kernel_rfl) ?_
        show XQ _ _ _ _ _ _ _ _
        refine XQ.seq E0_ok (by kernel_rfl) ?_
        refine XQ.quiet E0_ok (by kernel_rfl) (by kernel_rfl) ?_
        refine XU.run E0_ok 1 3 [1, 5, 23, 25] rfl (σ' := [(1, .pointer (some ⟨0, 0, none⟩)), (5, .pointer (some ⟨1, 0, none⟩)), (23, .pointer (some ⟨1, 0, none⟩)), (25, .int .i64 a_Turns)]) (by kernel_rfl) ?_
        obtain ⟨r11, r11_h, h⟩ := bS h
        refine XU.callH E0_ok [1, 5, 26] rfl (K := 71) (args := [.pointer (some ⟨1, 0, none⟩), .int .i64 a_Turns]) (d := (some (path 12 26))) (V := .int .i64 r11) (by kernel_rfl) rfl (KC.quiet E0_ok (args0 := [.pointer (some ⟨0, 0, none⟩), .int .i64 a_Turns]) (h0 := [(0, .cells [.int .i64 a_Marks, .int .i64 a_Step, .int .i64 (w64 (o1.1 + 1)), .int .i64 1, .int .i64 1] (0 + (5 + 1)) 88 0)]) (n := 1) (V := .int .i64 r11) [1] (f71_ok m (0 + (5 + 1)) a_Marks a_Step (w64 (o1.1 + 1)) 1 1 a_Turns r11 r11_h) rfl (by rfl) (by decide) rfl (by kernel_rfl) ⟨⟨_, _, rfl, rfl, .inr ⟨_, _, _, _, rfl, rfl⟩⟩, trivial⟩) (σ' := [(1, .pointer (some ⟨0, 0, none⟩)), (5, .pointer (some ⟨1, 0, none⟩)), (26, .int .i64 r11)]) (by kernel_rfl) ?_
        refine XU.run E0_ok 1 3 [26, 27, 29] rfl (σ' := [(26, .int .i64 r11), (27, .pointer (some ⟨1, 0, none⟩)), (29, .int .i64 a_Turns)]) (by kernel_rfl) ?_
        obtain ⟨r12, r12_h, h⟩ := bS h
        refine XU.callH E0_ok [26, 30] rfl (K := 69) (args := [.pointer (some ⟨1, 0, none⟩), .int .i64 a_Turns]) (d := (some (path 12 30))) (V := .int .i64 r12) (by kernel_rfl) rfl (KC.quiet E0_ok (args0 := [.pointer (some ⟨0, 0, none⟩), .int .i64 a_Turns]) (h0 := [(0, .cells [.int .i64 a_Marks, .int .i64 a_Step, .int .i64 (w64 (o1.1 + 1)), .int .i64 1, .int .i64 1] (0 + (5 + 1)) 88 0)]) (n := 1) (V := .int .i64 r12) [1] (f69_ok m (0 + (5 + 1)) a_Marks a_Step (w64 (o1.1 + 1)) 1 1 a_Turns r12 r12_h) rfl (by rfl) (by decide) rfl (by kernel_rfl) ⟨⟨_, _, rfl, rfl, .inr ⟨_, _, _, _, rfl, rfl⟩⟩, trivial⟩) (σ' := [(26, .int .i64 r11), (30, .int .i64 r12)]) (by kernel_rfl) ?_
        refine XU.run E0_ok 1 3 [2, 3, 4] rfl (σ' := [(2, .int .i64 r11), (3, .int .i64 r12), (4, .int .i64 0)]) (by kernel_rfl) ?_
        refine XU.done (by kernel_rfl) ?_
        show XQ _ _ _ _ _ _ _ _
        refine XQ.ret (by kernel_rfl) ?_
        have h := Option.some.inj h
        subst h
        exact ⟨fun i q => (by cases q), .tuple #[.int .i64 r11, .int .i64 r12, .int .i64 0], (by kernel_rfl), rfl⟩
      | false =>
        have h := cF b4 h
        refine XQ.cond (s := (.tmp 19)) (b := false) (by kernel_rfl) (by kernel_rfl) (fun q => by cases q) (fun _ => ?_)
        refine XQ.skip (by kernel_rfl) ?_
        show XQ _ _ _ _ _ _ _ _
        refine XQ.seq E0_ok (by kernel_rfl) ?_
        refine XQ.region (by kernel_rfl) ?_
        refine XR.run E0_ok 1 5 [0, 2, 27, 28] rfl (σ' := [(0, .pointer (some ⟨1, 0, none⟩)), (2, .int .i64 o1.1), (27, .agg #[.int .i64 a_Marks, .int .i64 a_Step, .int .i64 (w64 (o1.1 + 1))]), (28, .int .i64 o1.1)]) (h' := [(1, .cells [.int .i64 a_Marks, .int .i64 a_Step, .int .i64 (w64 (o1.1 + 1)), .int .i64 o1.2.1, .int .i64 o1.2.2] 0 88 0), (0, .cells [.int .i64 a_Marks, .int .i64 a_Step, .int .i64 a_Turns] 0 23 0)]) (c' := 2) (by kernel_rfl) ?_
        obtain ⟨r13, r13_h, h⟩ := bS h
        refine XR.call E0_ok [0, 2, 29] rfl (K := 59) (args := [.agg #[.int .i64 a_Marks, .int .i64 a_Step, .int .i64 (w64 (o1.1 + 1))], .int .i64 o1.1]) (d := (some (path 12 29))) (by kernel_rfl) (KC.of_calls E0_ok (F := Proofs.Try.f59) (v := .int .i64 r13) (by kernel_rfl) rfl rfl (fun w hI => f59_ok m a_Marks a_Step (w64 (o1.1 + 1)) o1.1 r13 r13_h w hI)) ?_
        rintro _ _ _ ⟨rfl, rfl, rfl⟩
        refine XR.conv (σ' := [(0, .pointer (some ⟨1, 0, none⟩)), (2, .int .i64 o1.1), (29, .int .i64 r13)]) (h' := [(1, .cells [.int .i64 a_Marks, .int .i64 a_Step, .int .i64 (w64 (o1.1 + 1)), .int .i64 o1.2.1, .int .i64 o1.2.2] 0 88 0), (0, .cells [.int .i64 a_Marks, .int .i64 a_Step, .int .i64 a_Turns] 0 23 0)]) (c' := 2) ?_ (by kernel_rfl)
        refine XR.run E0_ok 1 1 [0, 2, 3] rfl (σ' := [(0, .pointer (some ⟨1, 0, none⟩)), (2, .int .i64 o1.1), (3, .int .i64 r13)]) (h' := [(1, .cells [.int .i64 a_Marks, .int .i64 a_Step, .int .i64 (w64 (o1.1 + 1)), .int .i64 o1.2.1, .int .i64 o1.2.2] 0 88 0), (0, .cells [.int .i64 a_Marks, .int .i64 a_Step, .int .i64 a_Turns] 0 23 0)]) (c' := 2) (by kernel_rfl) ?_
        refine XR.done (by kernel_rfl) ?_
        show XQ _ _ _ _ _ _ _ _
        refine XQ.block (id := 0) (by kernel_rfl) ?_
        refine XQ.seq E0_ok (by kernel_rfl) ?_
        refine XQ.quiet E0_ok (by kernel_rfl) (by kernel_rfl) ?_
        refine XU.run E0_ok 1 10 [0, 2, 3, 31, 35, 40] rfl (σ' := [(0, .pointer (some ⟨1, 0, none⟩)), (2, .int .i64 o1.1), (3, .int .i64 r13), (31, .int .i64 r13), (35, .agg #[.int .i64 a_Marks, .int .i64 a_Step, .int .i64 (w64 (o1.1 + 1))]), (40, .int .i64 o1.2.1)]) (by kernel_rfl) ?_
        obtain ⟨r14, r14_h, h⟩ := bS h
        refine XU.call E0_ok [0, 2, 3, 31, 41] rfl (K := 59) (F := Proofs.Try.f59) (args := [.agg #[.int .i64 a_Marks, .int .i64 a_Step, .int .i64 (w64 (o1.1 + 1))], .int .i64 o1.2.1]) (d := (some (path 12 41))) (v := .int .i64 r14) (by kernel_rfl) (by kernel_rfl) rfl rfl (fun w hI => f59_ok m a_Marks a_Step (w64 (o1.1 + 1)) o1.2.1 r14 r14_h w hI) (σ' := [(0, .pointer (some ⟨1, 0, none⟩)), (2, .int .i64 o1.1), (3, .int .i64 r13), (31, .int .i64 r13), (41, .int .i64 r14)]) (by kernel_rfl) ?_
        refine XU.run E0_ok 1 2 [0, 2, 3, 30] rfl (σ' := [(0, .pointer (some ⟨1, 0, none⟩)), (2, .int .i64 o1.1), (3, .int .i64 r13), (30, .bool (decide (r13 < r14)))]) (by kernel_rfl) ?_
        refine XU.done (by kernel_rfl) ?_
        show XQ _ _ _ _ _ _ _ _
        cases b5 : (decide (r13 < r14) : Bool) with
        | true =>
          have h := cT b5 h
          refine XQ.cond (s := (.tmp 30)) (b := true) (by kernel_rfl) (by kernel_rfl) (fun _ => ?_) (fun q => by cases q)
          refine XQ.region (by kernel_rfl) ?_
          refine XR.run E0_ok 1 6 [] rfl (σ' := []) (h' := [(1, .cells [.int .i64 a_Marks, .int .i64 a_Step, .int .i64 (w64 (o1.1 + 1)), .int .i64 o1.1, .int .i64 o1.2.2] 0 88 0), (0, .cells [.int .i64 a_Marks, .int .i64 a_Step, .int .i64 a_Turns] 0 23 0)]) (c' := 2) (by kernel_rfl) ?_
          refine XR.done (by kernel_rfl) ?_
          refine ⟨fun i q => (by cases q), .tuple #[], (by kernel_rfl), ?_⟩
          refine XR.conv (σ' := [(1, .pointer (some ⟨0, 0, none⟩)), (5, .pointer (some ⟨1, 0, none⟩))]) (h' := [(1, .cells [.int .i64 a_Marks, .int .i64 a_Step, .int .i64 (w64 (o1.1 + 1)), .int .i64 o1.1, .int .i64 o1.2.2] 0 88 0), (0, .cells [.int .i64 a_Marks, .int .i64 a_Step, .int .i64 a_Turns] 0 23 0)]) (c' := 2) ?_ (by kernel_rfl)
          refine XR.done (by kernel_rfl) ?_
          show XQ _ _ _ _ _ _ _ _
          refine XQ.seq E0_ok (by kernel_rfl) ?_
          refine XQ.quiet E0_ok (by kernel_rfl) (by kernel_rfl) ?_
          refine XU.run E0_ok 1 3 [1, 5, 23, 25] rfl (σ' := [(1, .pointer (some ⟨0, 0, none⟩)), (5, .pointer (some ⟨1, 0, none⟩)), (23, .pointer (some ⟨1, 0, none⟩)), (25, .int .i64 a_Turns)]) (by kernel_rfl) ?_
          obtain ⟨r16, r16_h, h⟩ := bS h
          refine XU.callH E0_ok [1, 5, 26] rfl (K := 71) (args := [.pointer (some ⟨1, 0, none⟩), .int .i64 a_Turns]) (d := (some (path 12 26))) (V := .int .i64 r16) (by kernel_rfl) rfl (KC.quiet E0_ok (args0 := [.pointer (some ⟨0, 0, none⟩), .int .i64 a_Turns]) (h0 := [(0, .cells [.int .i64 a_Marks, .int .i64 a_Step, .int .i64 (w64 (o1.1 + 1)), .int .i64 o1.1, .int .i64 o1.2.2] (0 + (5 + 1)) 88 0)]) (n := 1) (V := .int .i64 r16) [1] (f71_ok m (0 + (5 + 1)) a_Marks a_Step (w64 (o1.1 + 1)) o1.1 o1.2.2 a_Turns r16 r16_h) rfl (by rfl) (by decide) rfl (by kernel_rfl) ⟨⟨_, _, rfl, rfl, .inr ⟨_, _, _, _, rfl, rfl⟩⟩, trivial⟩) (σ' := [(1, .pointer (some ⟨0, 0, none⟩)), (5, .pointer (some ⟨1, 0, none⟩)), (26, .int .i64 r16)]) (by kernel_rfl) ?_
          refine XU.run E0_ok 1 3 [26, 27, 29] rfl (σ' := [(26, .int .i64 r16), (27, .pointer (some ⟨1, 0, none⟩)), (29, .int .i64 a_Turns)]) (by kernel_rfl) ?_
          obtain ⟨r17, r17_h, h⟩ := bS h
          refine XU.callH E0_ok [26, 30] rfl (K := 69) (args := [.pointer (some ⟨1, 0, none⟩), .int .i64 a_Turns]) (d := (some (path 12 30))) (V := .int .i64 r17) (by kernel_rfl) rfl (KC.quiet E0_ok (args0 := [.pointer (some ⟨0, 0, none⟩), .int .i64 a_Turns]) (h0 := [(0, .cells [.int .i64 a_Marks, .int .i64 a_Step, .int .i64 (w64 (o1.1 + 1)), .int .i64 o1.1, .int .i64 o1.2.2] (0 + (5 + 1)) 88 0)]) (n := 1) (V := .int .i64 r17) [1] (f69_ok m (0 + (5 + 1)) a_Marks a_Step (w64 (o1.1 + 1)) o1.1 o1.2.2 a_Turns r17 r17_h) rfl (by rfl) (by decide) rfl (by kernel_rfl) ⟨⟨_, _, rfl, rfl, .inr ⟨_, _, _, _, rfl, rfl⟩⟩, trivial⟩) (σ' := [(26, .int .i64 r16), (30, .int .i64 r17)]) (by kernel_rfl) ?_
          refine XU.run E0_ok 1 3 [2, 3, 4] rfl (σ' := [(2, .int .i64 r16), (3, .int .i64 r17), (4, .int .i64 0)]) (by kernel_rfl) ?_
          refine XU.done (by kernel_rfl) ?_
          show XQ _ _ _ _ _ _ _ _
          refine XQ.ret (by kernel_rfl) ?_
          have h := Option.some.inj h
          subst h
          exact ⟨fun i q => (by cases q), .tuple #[.int .i64 r16, .int .i64 r17, .int .i64 0], (by kernel_rfl), rfl⟩
        | false =>
          have h := cF b5 h
          refine XQ.cond (s := (.tmp 30)) (b := false) (by kernel_rfl) (by kernel_rfl) (fun q => by cases q) (fun _ => ?_)
          refine XQ.seq E0_ok (by kernel_rfl) ?_
          refine XQ.quiet E0_ok (by kernel_rfl) (by kernel_rfl) ?_
          refine XU.run E0_ok 1 10 [0, 2, 49, 53, 58] rfl (σ' := [(0, .pointer (some ⟨1, 0, none⟩)), (2, .int .i64 o1.1), (49, .int .i64 r13), (53, .agg #[.int .i64 a_Marks, .int .i64 a_Step, .int .i64 (w64 (o1.1 + 1))]), (58, .int .i64 o1.2.2)]) (by kernel_rfl) ?_
          obtain ⟨r18, r18_h, h⟩ := bS h
          refine XU.call E0_ok [0, 2, 49, 59] rfl (K := 59) (F := Proofs.Try.f59) (args := [.agg #[.int .i64 a_Marks, .int .i64 a_Step, .int .i64 (w64 (o1.1 + 1))], .int .i64 o1.2.2]) (d := (some (path 12 59))) (v := .int .i64 r18) (by kernel_rfl) (by kernel_rfl) rfl rfl (fun w hI => f59_ok m a_Marks a_Step (w64 (o1.1 + 1)) o1.2.2 r18 r18_h w hI) (σ' := [(0, .pointer (some ⟨1, 0, none⟩)), (2, .int .i64 o1.1), (49, .int .i64 r13), (59, .int .i64 r18)]) (by kernel_rfl) ?_
          refine XU.run E0_ok 1 2 [0, 2, 48] rfl (σ' := [(0, .pointer (some ⟨1, 0, none⟩)), (2, .int .i64 o1.1), (48, .bool (decide (r13 > r18)))]) (by kernel_rfl) ?_
          refine XU.done (by kernel_rfl) ?_
          show XQ _ _ _ _ _ _ _ _
          refine XQ.meetC (σ' := []) (h' := [(1, .cells [.int .i64 a_Marks, .int .i64 a_Step, .int .i64 (w64 (o1.1 + 1)), .int .i64 o1.2.1, .int .i64 (cond (decide (r13 > r18)) o1.1 o1.2.2)] 0 88 0), (0, .cells [.int .i64 a_Marks, .int .i64 a_Step, .int .i64 a_Turns] 0 23 0)]) (c' := 2) ?_ ?_
          rotate_left
          · refine XQ.cond (s := (.tmp 48)) (b := decide (r13 > r18)) (by kernel_rfl) (by kernel_rfl) (fun b6 => ?_) (fun b6 => ?_)
            · refine XQ.region (by kernel_rfl) ?_
              refine XR.run E0_ok 1 6 [] rfl (σ' := []) (h' := [(1, .cells [.int .i64 a_Marks, .int .i64 a_Step, .int .i64 (w64 (o1.1 + 1)), .int .i64 o1.2.1, .int .i64 o1.1] 0 88 0), (0, .cells [.int .i64 a_Marks, .int .i64 a_Step, .int .i64 a_Turns] 0 23 0)]) (c' := 2) (by kernel_rfl) ?_
              refine XR.done (by kernel_rfl) ?_
              refine ⟨rfl, ?_, ?_⟩
              · try rw [b6]
                exact trivial
              · try rw [b6]
                kernel_rfl
            · refine XQ.skip (by kernel_rfl) ?_
              refine ⟨rfl, ?_, ?_⟩
              · try rw [b6]
                exact trivial
              · try rw [b6]
                kernel_rfl
          refine ⟨fun i q => (by cases q), .tuple #[], (by kernel_rfl), ?_⟩
          refine XR.conv (σ' := [(1, .pointer (some ⟨0, 0, none⟩)), (5, .pointer (some ⟨1, 0, none⟩))]) (h' := [(1, .cells [.int .i64 a_Marks, .int .i64 a_Step, .int .i64 (w64 (o1.1 + 1)), .int .i64 o1.2.1, .int .i64 (cond (decide (r13 > r18)) o1.1 o1.2.2)] 0 88 0), (0, .cells [.int .i64 a_Marks, .int .i64 a_Step, .int .i64 a_Turns] 0 23 0)]) (c' := 2) ?_ (by kernel_rfl)
          refine XR.done (by kernel_rfl) ?_
          show XQ _ _ _ _ _ _ _ _
          refine XQ.seq E0_ok (by kernel_rfl) ?_
          refine XQ.quiet E0_ok (by kernel_rfl) (by kernel_rfl) ?_
          refine XU.run E0_ok 1 3 [1, 5, 23, 25] rfl (σ' := [(1, .pointer (some ⟨0, 0, none⟩)), (5, .pointer (some ⟨1, 0, none⟩)), (23, .pointer (some ⟨1, 0, none⟩)), (25, .int .i64 a_Turns)]) (by kernel_rfl) ?_
          obtain ⟨r19, r19_h, h⟩ := bS h
          refine XU.callH E0_ok [1, 5, 26] rfl (K := 71) (args := [.pointer (some ⟨1, 0, none⟩), .int .i64 a_Turns]) (d := (some (path 12 26))) (V := .int .i64 r19) (by kernel_rfl) rfl (KC.quiet E0_ok (args0 := [.pointer (some ⟨0, 0, none⟩), .int .i64 a_Turns]) (h0 := [(0, .cells [.int .i64 a_Marks, .int .i64 a_Step, .int .i64 (w64 (o1.1 + 1)), .int .i64 o1.2.1, .int .i64 (cond (decide (r13 > r18)) o1.1 o1.2.2)] (0 + (5 + 1)) 88 0)]) (n := 1) (V := .int .i64 r19) [1] (f71_ok m (0 + (5 + 1)) a_Marks a_Step (w64 (o1.1 + 1)) o1.2.1 (cond (decide (r13 > r18)) o1.1 o1.2.2) a_Turns r19 r19_h) rfl (by rfl) (by decide) rfl (by kernel_rfl) ⟨⟨_, _, rfl, rfl, .inr ⟨_, _, _, _, rfl, rfl⟩⟩, trivial⟩) (σ' := [(1, .pointer (some ⟨0, 0, none⟩)), (5, .pointer (some ⟨1, 0, none⟩)), (26, .int .i64 r19)]) (by kernel_rfl) ?_
          refine XU.run E0_ok 1 3 [26, 27, 29] rfl (σ' := [(26, .int .i64 r19), (27, .pointer (some ⟨1, 0, none⟩)), (29, .int .i64 a_Turns)]) (by kernel_rfl) ?_
          obtain ⟨r20, r20_h, h⟩ := bS h
          refine XU.callH E0_ok [26, 30] rfl (K := 69) (args := [.pointer (some ⟨1, 0, none⟩), .int .i64 a_Turns]) (d := (some (path 12 30))) (V := .int .i64 r20) (by kernel_rfl) rfl (KC.quiet E0_ok (args0 := [.pointer (some ⟨0, 0, none⟩), .int .i64 a_Turns]) (h0 := [(0, .cells [.int .i64 a_Marks, .int .i64 a_Step, .int .i64 (w64 (o1.1 + 1)), .int .i64 o1.2.1, .int .i64 (cond (decide (r13 > r18)) o1.1 o1.2.2)] (0 + (5 + 1)) 88 0)]) (n := 1) (V := .int .i64 r20) [1] (f69_ok m (0 + (5 + 1)) a_Marks a_Step (w64 (o1.1 + 1)) o1.2.1 (cond (decide (r13 > r18)) o1.1 o1.2.2) a_Turns r20 r20_h) rfl (by rfl) (by decide) rfl (by kernel_rfl) ⟨⟨_, _, rfl, rfl, .inr ⟨_, _, _, _, rfl, rfl⟩⟩, trivial⟩) (σ' := [(26, .int .i64 r19), (30, .int .i64 r20)]) (by kernel_rfl) ?_
          refine XU.run E0_ok 1 3 [2, 3, 4] rfl (σ' := [(2, .int .i64 r19), (3, .int .i64 r20), (4, .int .i64 0)]) (by kernel_rfl) ?_
          refine XU.done (by kernel_rfl) ?_
          show XQ _ _ _ _ _ _ _ _
          refine XQ.ret (by kernel_rfl) ?_
          have h := Option.some.inj h
          subst h
          exact ⟨fun i q => (by cases q), .tuple #[.int .i64 r19, .int .i64 r20, .int .i64 0], (by kernel_rfl), rfl⟩

/-! vitola/vitolaref05.Divides -/
noncomputable def f27_C27 : Code := Proofs.Try.f27.body.getD .skip

def f27 (m : Nat) (a_Marks : Int) (a_Step : Int) (a_Turns : Int) : Option (Int × Int × Int) :=
  (f21 m a_Marks a_Step a_Turns).bind fun r1 =>
    cond (r1 == 0) (
      (f67 m a_Marks a_Step a_Turns).bind fun r2 =>
        cond ((cond (a_Turns == r2) 12 r1 : Int) != 0) (
          some (0, 0, cond (a_Turns == r2) 12 r1)
        ) (
          (f70 m a_Marks a_Step (w64 (a_Turns + 1)) a_Turns (w64 ((w64 (a_Turns + 1)) - 1))).bind fun r3 =>
            (f70 m a_Marks a_Step (w64 (a_Turns + 1)) a_Turns 1).bind fun r4 =>
              some (r3, r4, 0)
        )
    ) (
      cond (r1 != 0) (
        some (0, 0, r1)
      ) (
        (f70 m a_Marks a_Step (w64 (a_Turns + 1)) a_Turns (w64 ((w64 (a_Turns + 1)) - 1))).bind fun r5 =>
          (f70 m a_Marks a_Step (w64 (a_Turns + 1)) a_Turns 1).bind fun r6 =>
            some (r5, r6, 0)
      )
    )

theorem f27_ok (m : Nat) (a_Marks : Int) (a_Step : Int) (a_Turns : Int) (o : Int × Int × Int) (h : f27 m a_Marks a_Step a_Turns = some o) (w : World) (hI : anyInv w) : Calls Proofs.Try.prog 27 #[.agg #[.int .i64 a_Marks, .int .i64 a_Step, .int .i64 a_Turns]] w fun e w' => e = .returned (.tuple #[.int .i64 o.1, .int .i64 o.2.1, .int .i64 o.2.2]) ∧ Below w.heap.size w w' := by
  refine KC.calls (E := E0) (args := [.agg #[.int .i64 a_Marks, .int .i64 a_Step, .int .i64 a_Turns]]) (v := .tuple #[.int .i64 o.1, .int .i64 o.2.1, .int .i64 o.2.2]) rfl rfl (KC.bodyN E0_ok (F := Proofs.Try.f27) (by kernel_rfl) (code := f27_C27) (by kernel_rfl) (nt := 37) (by kernel_rfl) (rs := [.tmp 2, .tmp 3, .tmp 4]) (by kernel_rfl) (by kernel_rfl) (σ := [(0, .agg #[.int .i64 a_Marks, .int .i64 a_Step, .int .i64 a_Turns])]) (by kernel_rfl) ?_) w (anyInv_size hI) hI
  unfold f27 at h
  refine XQ.seq E0_ok (by kernel_rfl) ?_
  refine XQ.region (by kernel_rfl) ?_
  refine XR.run E0_ok 1 4 [1] rfl (σ' := [(1, .pointer (some ⟨0, 0, none⟩))]) (h' := [(0, .cells [.int .i64 a_Marks, .int .i64 a_Step, .int .i64 a_Turns] 0 24 0)]) (c' := 1) (by kernel_rfl) ?_
  refine XR.done (by kernel_rfl) ?_
  show XQ _ _ _ _ _ _ _ _
  refine XQ.seq E0_ok (by kernel_rfl) ?_
  refine XQ.region (by kernel_rfl) ?_
  refine XR.run E0_ok 1 1 [1, 7] rfl (σ' := [(1, .pointer (some ⟨0, 0, none⟩)), (7, .agg #[.int .i64 a_Marks, .int .i64 a_Step, .int .i64 a_Turns])]) (h' := [(0, .cells [.int .i64 a_Marks, .int .i64 a_Step, .int .i64 a_Turns] 0 24 0)]) (c' := 1) (by kernel_rfl) ?_
  obtain ⟨r1, r1_h, h⟩ := bS h
  refine XR.call E0_ok [1, 8] rfl (K := 21) (args := [.agg #[.int .i64 a_Marks, .int .i64 a_Step, .int .i64 a_Turns]]) (d := (some (path 12 8))) (by kernel_rfl) (KC.of_calls E0_ok (F := Proofs.Try.f21) (v := .int .i64 r1) (by kernel_rfl) rfl rfl (fun w hI => f21_ok m a_Marks a_Step a_Turns r1 r1_h w hI)) ?_
  rintro _ _ _ ⟨rfl, rfl, rfl⟩
  refine XR.conv (σ' := [(1, .pointer (some ⟨0, 0, none⟩)), (8, .int .i64 r1)]) (h' := [(0, .cells [.int .i64 a_Marks, .int .i64 a_Step, .int .i64 a_Turns] 0 24 0)]) (c' := 1) ?_ (by kernel_rfl)
  refine XR.run E0_ok 1 1 [1, 5] rfl (σ' := [(1, .pointer (some ⟨0, 0, none⟩)), (5, .int .i64 r1)]) (h' := [(0, .cells [.int .i64 a_Marks, .int .i64 a_Step, .int .i64 a_Turns] 0 24 0)]) (c' := 1) (by kernel_rfl) ?_
  refine XR.done (by kernel_rfl) ?_
  show XQ _ _ _ _ _ _ _ _
  refine XQ.seq E0_ok (by kernel_rfl) ?_
  refine XQ.seq E0_ok (by kernel_rfl) ?_
  refine XQ.quiet E0_ok (by kernel_rfl) (by kernel_rfl) ?_
  refine XU.run E0_ok 1 3 [1, 5, 11] rfl (σ' := [(1, .pointer (some ⟨0, 0, none⟩)), (5, .int .i64 r1), (11, .bool (r1 == 0))]) (by kernel_rfl) ?_
  cases b1 : (r1 == 0 : Bool) with
  | true =>
    have h := cT b1 h
    refine XU.run E0_ok 1 3 [1, 5, 11, 13, 14] rfl (σ' := [(1, .pointer (some ⟨0, 0, none⟩)), (5, .int .i64 r1), (11, .bool true), (13, .int .i64 a_Turns), (14, .agg #[.int .i64 a_Marks, .int .i64 a_Step, .int .i64 a_Turns])]) (by kernel_rfl) ?_
    obtain ⟨r2, r2_h, h⟩ := bS h
    refine XU.call E0_ok [1, 5, 11, 13, 15] rfl (K := 67) (F := Proofs.Try.f67) (args := [.agg #[.int .i64 a_Marks, .int .i64 a_Step, .int .i64 a_Turns]]) (d := (some (path 12 15))) (v := .int .i64 r2) (by kernel_rfl) (by kernel_rfl) rfl rfl (fun w hI => f67_ok m a_Marks a_Step a_Turns r2 r2_h w hI) (σ' := [(1, .pointer (some ⟨0, 0, none⟩)), (5, .int .i64 r1), (11, .bool true), (13, .int .i64 a_Turns), (15, .int .i64 r2)]) (by kernel_rfl) ?_
    refine XU.run E0_ok 1 2 [1, 5, 17] rfl (σ' := [(1, .pointer (some ⟨0, 0, none⟩)), (5, .int .i64 r1), (17, .bool (a_Turns == r2))]) (by kernel_rfl) ?_
    refine XU.done (by kernel_rfl) ?_
    show XQ _ _ _ _ _ _ _ _
    refine XQ.meetC (σ' := [(1, .pointer (some ⟨0, 0, none⟩)), (5, .int .i64 (cond (a_Turns == r2) 12 r1))]) (h' := [(0, .cells [.int .i64 a_Marks, .int .i64 a_Step, .int .i64 a_Turns] 0 24 0)]) (c' := 1) ?_ ?_
    rotate_left
    · refine XQ.cond (s := (.tmp 17)) (b := a_Turns == r2) (by kernel_rfl) (by kernel_rfl) (fun b2 => ?_) (fun b2 => ?_)
      · refine XQ.region (by kernel_rfl) ?_
        refine XR.run E0_ok 1 1 [1, 5] rfl (σ' := [(1, .pointer (some ⟨0, 0, none⟩)), (5, .int .i64 12)]) (h' := [(0, .cells [.int .i64 a_Marks, .int .i64 a_Step, .int .i64 a_Turns] 0 24 0)]) (c' := 1) (by kernel_rfl) ?_
        refine XR.done (by kernel_rfl) ?_
        refine ⟨rfl, ?_, ?_⟩
        · try rw [b2]
          exact ⟨by kernel_rfl, by kernel_rfl, trivial⟩
        · try rw [b2]
          kernel_rfl
      · refine XQ.skip (by kernel_rfl) ?_
        refine ⟨rfl, ?_, ?_⟩
        · try rw [b2]
          exact ⟨by kernel_rfl, by kernel_rfl, trivial⟩
        · try rw [b2]
          kernel_rfl
    show XQ _ _ _ _ _ _ _ _
    refine XQ.seq E0_ok (by kernel_rfl) ?_
    refine XQ.seq E0_ok (by kernel_rfl) ?_
    refine XQ.region (by kernel_rfl) ?_
    refine XR.run E0_ok 1 2 [1, 5, 19] rfl (σ' := [(1, .pointer (some ⟨0, 0, none⟩)), (5, .int .i64 (cond (a_Turns == r2) 12 r1)), (19, .bool ((cond (a_Turns == r2) 12 r1 : Int) != 0))]) (h' := [(0, .cells [.int .i64 a_Marks, .int .i64 a_Step, .int .i64 a_Turns] 0 24 0)]) (c' := 1) (by kernel_rfl) ?_
    refine XR.done (by kernel_rfl) ?_
    show XQ _ _ _ _ _ _ _ _
    cases b3 : ((cond (a_Turns == r2) 12 r1 : Int) != 0 : Bool) with
    | true =>
      have h := cT b3 h
      refine XQ.cond (s := (.tmp 19)) (b := true) (by kernel_rfl) (by kernel_rfl) (fun _ => ?_) (fun q => by cases q)
      refine XQ.seq E0_ok (by kernel_rfl) ?_
      refine XQ.region (by kernel_rfl) ?_
      refine XR.run E0_ok 1 4 [2, 3, 4] rfl (σ' := [(2, .int .i64 0), (3, .int .i64 0), (4, .int .i64 (cond (a_Turns == r2) 12 r1))]) (h' := [(0, .cells [.int .i64 a_Marks, .int .i64 a_Step, .int .i64 a_Turns] 0 24 0)]) (c' := 1) (by kernel_rfl) ?_
      refine XR.done (by kernel_rfl) ?_
      show XQ _ _ _ _ _ _ _ _
      refine XQ.ret (by kernel_rfl) ?_
      have h := Option.some.inj h
      subst h
      exact ⟨fun i q => (by cases q), .tuple #[.int .i64 0, .int .i64 0, .int .i64 (cond (a_Turns == r2) 12 r1)], (by kernel_rfl), rfl⟩
    | false =>
      have h := cF b3 h
      refine XQ.cond (s := (.tmp 19)) (b := false) (by kernel_rfl) (by kernel_rfl) (fun q => by cases q) (fun _ => ?_)
      refine XQ.skip (by kernel_rfl) ?_
      show XQ _ _ _ _ _ _ _ _
      refine XQ.seq E0_ok (by kernel_rfl) ?_
      refine XQ.region (by kernel_rfl) ?_
      refine XR.run E0_ok 1 3 [1, 6] rfl (σ' := [(1, .pointer (some ⟨0, 0, none⟩)), (6, .pointer (some ⟨1, 0, none⟩))]) (h' := [(1, .cells [.int .i64 a_Marks, .int .i64 a_Step, .int .i64 a_Turns] 0 24 0), (0, .cells [.int .i64 a_Marks, .int .i64 a_Step, .int .i64 a_Turns] 0 24 0)]) (c' := 2) (by kernel_rfl) ?_
      refine XR.done (by kernel_rfl) ?_
      show XQ _ _ _ _ _ _ _ _
      refine XQ.seq E0_ok (by kernel_rfl) ?_
      refine XQ.region (by kernel_rfl) ?_
      refine XR.run E0_ok 1 5 [1, 6] rfl (σ' := [(1, .pointer (some ⟨0, 0, none⟩)), (6, .pointer (some ⟨1, 0, none⟩))]) (h' := [(1, .cells [.int .i64 a_Marks, .int .i64 a_Step, .int .i64 (w64 (a_Turns + 1))] 0 24 0), (0, .cells [.int .i64 a_Marks, .int .i64 a_Step, .int .i64 a_Turns] 0 24 0)]) (c' := 2) (by kernel_rfl) ?_
      refine XR.done (by kernel_rfl) ?_
      show XQ _ _ _ _ _ _ _ _
      refine XQ.seq E0_ok (by kernel_rfl) ?_
      refine XQ.quiet E0_ok (by kernel_rfl) (by kernel_rfl) ?_
      refine XU.run E0_ok 1 6 [1, 6, 26, 28, 31] rfl (σ' := [(1, .pointer (some ⟨0, 0, none⟩)), (6, .pointer (some ⟨1, 0, none⟩)), (26, .agg #[.int .i64 a_Marks, .int .i64 a_Step, .int .i64 (w64 (a_Turns + 1))]), (28, .int .i64 a_Turns), (31, .int .i64 (w64 ((w64 (a_Turns + 1)) - 1)))]) (by kernel_rfl) ?_
      obtain ⟨r3, r3_h, h⟩ := bS h
      refine XU.call E0_ok [1, 6, 32] rfl (K := 70) (F := Proofs.Try.f70) (args := [.agg #[.int .i64 a_Marks, .int .i64 a_Step, .int .i64 (w64 (a_Turns + 1))], .int .i64 a_Turns, .int .i64 (w64 ((w64 (a_Turns + 1)) - 1))]) (d := (some (path 12 32))) (v := .int .i64 r3) (by kernel_rfl) (by kernel_rfl) rfl rfl (fun w hI => f70_ok m a_Marks a_Step (w64 (a_Turns + 1)) a_Turns (w64 ((w64 (a_Turns + 1)) - 1)) r3 r3_h w hI) (σ' := [(1, .pointer (some ⟨0, 0, none⟩)), (6, .pointer (some ⟨1, 0, none⟩)), (32, .int .i64 r3)]) (by kernel_rfl) ?_
      refine XU.run E0_ok 1 3 [32, 33, 35] rfl (σ' := [(32, .int .i64 r3), (33, .agg #[.int .i64 a_Marks, .int .i64 a_Step, .int .i64 (w64 (a_Turns + 1))]), (35, .int .i64 a_Turns)]) (by kernel_rfl) ?_
      obtain ⟨r4, r4_h, h⟩ := bS h
      refine XU.call E0_ok [32, 36] rfl (K := 70) (F := Proofs.Try.f70) (args := [.agg #[.int .i64 a_Marks, .int .i64 a_Step, .int .i64 (w64 (a_Turns + 1))], .int .i64 a_Turns, .int .i64 1]) (d := (some (path 12 36))) (v := .int .i64 r4) (by kernel_rfl) (by kernel_rfl) rfl rfl (fun w hI => f70_ok m a_Marks a_Step (w64 (a_Turns + 1)) a_Turns 1 r4 r4_h w hI) (σ' := [(32, .int .i64 r3), (36, .int .i64 r4)]) (by kernel_rfl) ?_
      refine XU.run E0_ok 1 3 [2, 3, 4] rfl (σ' := [(2, .int .i64 r3), (3, .int .i64 r4), (4, .int .i64 0)]) (by kernel_rfl) ?_
      refine XU.done (by kernel_rfl) ?_
      show XQ _ _ _ _ _ _ _ _
      refine XQ.ret (by kernel_rfl) ?_
      have h := Option.some.inj h
      subst h
      exact ⟨fun i q => (by cases q), .tuple #[.int .i64 r3, .int .i64 r4, .int .i64 0], (by kernel_rfl), rfl⟩
  | false =>
    have h := cF b1 h
    refine XU.run E0_ok 1 6 [1, 5, 17] rfl (σ' := [(1, .pointer (some ⟨0, 0, none⟩)), (5, .int .i64 r1), (17, .bool false)]) (by kernel_rfl) ?_
    refine XU.done (by kernel_rfl) ?_
    show XQ _ _ _ _ _ _ _ _
    refine XQ.cond (s := (.tmp 17)) (b := false) (by kernel_rfl) (by kernel_rfl) (fun q => by cases q) (fun _ => ?_)
    refine XQ.skip (by kernel_rfl) ?_
    show XQ _ _ _ _ _ _ _ _
    refine XQ.seq E0_ok (by kernel_rfl) ?_
    refine XQ.seq E0_ok (by kernel_rfl) ?_
    refine XQ.region (by kernel_rfl) ?_
    refine XR.run E0_ok 1 2 [1, 5, 19] rfl (σ' := [(1, .pointer (some ⟨0, 0, none⟩)), (5, .int .i64 r1), (19, .bool (r1 != 0))]) (h' := [(0, .cells [.int .i64 a_Marks, .int .i64 a_Step, .int .i64 a_Turns] 0 24 0)]) (c' := 1) (by kernel_rfl) ?_
    refine XR.done (by kernel_rfl) ?_
    show XQ _ _ _ _ _ _ _ _
    cases b4 : (r1 != 0 : Bool) with
    | true =>
      have h := cT b4 h
      refine XQ.cond (s := (.tmp 19)) (b := true) (by kernel_rfl) (by kernel_rfl) (fun _ => ?_) (fun q => by cases q)
      refine XQ.seq E0_ok (by kernel_rfl) ?_
      refine XQ.region (by kernel_rfl) ?_
      refine XR.run E0_ok 1 4 [2, 3, 4] rfl (σ' := [(2, .int .i64 0), (3, .int .i64 0), (4, .int .i64 r1)]) (h' := [(0, .cells [.int .i64 a_Marks, .int .i64 a_Step, .int .i64 a_Turns] 0 24 0)]) (c' := 1) (by kernel_rfl) ?_
      refine XR.done (by kernel_rfl) ?_
      show XQ _ _ _ _ _ _ _ _
      refine XQ.ret (by kernel_rfl) ?_
      have h := Option.some.inj h
      subst h
      exact ⟨fun i q => (by cases q), .tuple #[.int .i64 0, .int .i64 0, .int .i64 r1], (by kernel_rfl), rfl⟩
    | false =>
      have h := cF b4 h
      refine XQ.cond (s := (.tmp 19)) (b := false) (by kernel_rfl) (by kernel_rfl) (fun q => by cases q) (fun _ => ?_)
      refine XQ.skip (by kernel_rfl) ?_
      show XQ _ _ _ _ _ _ _ _
      refine XQ.seq E0_ok (by kernel_rfl) ?_
      refine XQ.region (by kernel_rfl) ?_
      refine XR.run E0_ok 1 3 [1, 6] rfl (σ' := [(1, .pointer (some ⟨0, 0, none⟩)), (6, .pointer (some ⟨1, 0, none⟩))]) (h' := [(1, .cells [.int .i64 a_Marks, .int .i64 a_Step, .int .i64 a_Turns] 0 24 0), (0, .cells [.int .i64 a_Marks, .int .i64 a_Step, .int .i64 a_Turns] 0 24 0)]) (c' := 2) (by kernel_rfl) ?_
      refine XR.done (by kernel_rfl) ?_
      show XQ _ _ _ _ _ _ _ _
      refine XQ.seq E0_ok (by kernel_rfl) ?_
      refine XQ.region (by kernel_rfl) ?_
      refine XR.run E0_ok 1 5 [1, 6] rfl (σ' := [(1, .pointer (some ⟨0, 0, none⟩)), (6, .pointer (some ⟨1, 0, none⟩))]) (h' := [(1, .cells [.int .i64 a_Marks, .int .i64 a_Step, .int .i64 (w64 (a_Turns + 1))] 0 24 0), (0, .cells [.int .i64 a_Marks, .int .i64 a_Step, .int .i64 a_Turns] 0 24 0)]) (c' := 2) (by kernel_rfl) ?_
      refine XR.done (by kernel_rfl) ?_
      show XQ _ _ _ _ _ _ _ _
      refine XQ.seq E0_ok (by kernel_rfl) ?_
      refine XQ.quiet E0_ok (by kernel_rfl) (by kernel_rfl) ?_
      refine XU.run E0_ok 1 6 [1, 6, 26, 28, 31] rfl (σ' := [(1, .pointer (some ⟨0, 0, none⟩)), (6, .pointer (some ⟨1, 0, none⟩)), (26, .agg #[.int .i64 a_Marks, .int .i64 a_Step, .int .i64 (w64 (a_Turns + 1))]), (28, .int .i64 a_Turns), (31, .int .i64 (w64 ((w64 (a_Turns + 1)) - 1)))]) (by kernel_rfl) ?_
      obtain ⟨r5, r5_h, h⟩ := bS h
      refine XU.call E0_ok [1, 6, 32] rfl (K := 70) (F := Proofs.Try.f70) (args := [.agg #[.int .i64 a_Marks, .int .i64 a_Step, .int .i64 (w64 (a_Turns + 1))], .int .i64 a_Turns, .int .i64 (w64 ((w64 (a_Turns + 1)) - 1))]) (d := (some (path 12 32))) (v := .int .i64 r5) (by kernel_rfl) (by kernel_rfl) rfl rfl (fun w hI => f70_ok m a_Marks a_Step (w64 (a_Turns + 1)) a_Turns (w64 ((w64 (a_Turns + 1)) - 1)) r5 r5_h w hI) (σ' := [(1, .pointer (some ⟨0, 0, none⟩)), (6, .pointer (some ⟨1, 0, none⟩)), (32, .int .i64 r5)]) (by kernel_rfl) ?_
      refine XU.run E0_ok 1 3 [32, 33, 35] rfl (σ' := [(32, .int .i64 r5), (33, .agg #[.int .i64 a_Marks, .int .i64 a_Step, .int .i64 (w64 (a_Turns + 1))]), (35, .int .i64 a_Turns)]) (by kernel_rfl) ?_
      obtain ⟨r6, r6_h, h⟩ := bS h
      refine XU.call E0_ok [32, 36] rfl (K := 70) (F := Proofs.Try.f70) (args := [.agg #[.int .i64 a_Marks, .int .i64 a_Step, .int .i64 (w64 (a_Turns + 1))], .int .i64 a_Turns, .int .i64 1]) (d := (some (path 12 36))) (v := .int .i64 r6) (by kernel_rfl) (by kernel_rfl) rfl rfl (fun w hI => f70_ok m a_Marks a_Step (w64 (a_Turns + 1)) a_Turns 1 r6 r6_h w hI) (σ' := [(32, .int .i64 r5), (36, .int .i64 r6)]) (by kernel_rfl) ?_
      refine XU.run E0_ok 1 3 [2, 3, 4] rfl (σ' := [(2, .int .i64 r5), (3, .int .i64 r6), (4, .int .i64 0)]) (by kernel_rfl) ?_
      refine XU.done (by kernel_rfl) ?_
      show XQ _ _ _ _ _ _ _ _
      refine XQ.ret (by kernel_rfl) ?_
      have h := Option.some.inj h
      subst h
      exact ⟨fun i q => (by cases q), .tuple #[.int .i64 r5, .int .i64 r6, .int .i64 0], (by kernel_rfl), rfl⟩

end Go.Xm
