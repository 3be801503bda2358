/- What these functions of the program compute, as functions in Lean, and the proofs that they do: vitolalaw08.BandSplit. Conditions: the library's variable MaxLen holds some int. -/
import Derived.Test.YtdijjdkaojbolaaDo
import Derived.Test.YtdijjdkaojbolaaDp
namespace Go.Xm
open Go.RowKit
set_option linter.unusedVariables false
set_option linter.unusedSimpArgs false

/-! vitola/vitolalaw08.BandSplit -/
noncomputable def f9_C9 : Code := Proofs.Try.f9.body.getD .skip
noncomputable def f9_L1 : Code := lft (lft (rgt (lft (rgt (rgt (rgt (rgt (rgt (rgt f9_C9)))))))))

inductive Of9_1 where
  | r
  | x0 (x5_x01 : Int) (x6_x01 : Int) (s7_x01 : ByteArray)

def f9_1 (m : Nat) : Nat → Int → Int → ByteArray → Int → Int → Int → Option Of9_1
  | 0, _, _, _, _, _, _ => none
  | fuel + 1, x5_1, x6_1, s7_1, x9_1, x57_1, x58_1 =>
    cond (decide (x58_1 < x57_1)) (
      (f23 m x5_1 x6_1 x58_1).bind fun r4 =>
        cond (cutOk (w64 (x9_1 + 1)) (s7_1.size : Int) s7_1.size) (
          cond (Nat.blt (cutT s7_1 (w64 (x9_1 + 1)) (s7_1.size : Int)).size 4294967281) (
            cond (r4.2 != 0) (
              some (.r)
            ) (
              cond (r4.1 != (w64 (x9_1 + (w64 (1 + (Lib.index (cutT s7_1 (w64 (x9_1 + 1)) (s7_1.size : Int)).data.toList [98])))))) (
                some (.r)
              ) (
                cond (decide ((w64 ((w64 (r4.1 + 1)) * x6_1)) < (w64 ((w64 (x58_1 + 1)) * x5_1)))) (
                  some (.r)
                ) (
                  cond (decide ((w64 (r4.1 * x6_1)) ≥ (w64 ((w64 (x58_1 + 1)) * x5_1)))) (
                    some (.r)
                  ) (
                    f9_1 m fuel x5_1 x6_1 s7_1 (w64 (x9_1 + (w64 (1 + (Lib.index (cutT s7_1 (w64 (x9_1 + 1)) (s7_1.size : Int)).data.toList [98]))))) x57_1 (w64 (x58_1 + 1))
                  )
                )
              )
            )
          ) none
        ) none
    ) (
      some (.x0 x5_1 x6_1 s7_1)
    )

theorem f9_1_ok (m : Nat) : ∀ (fuel : Nat) (x5_1 : Int) (x6_1 : Int) (s7_1 : ByteArray) (x9_1 : Int) (x57_1 : Int) (x58_1 : Int) (o : Of9_1), f9_1 m fuel x5_1 x6_1 s7_1 x9_1 x57_1 x58_1 = some o → ∀ Q : QP, (match o with | .r => Q .ret [(4, .bool false)] [] 0 | .x0 x5_x01 x6_x01 s7_x01 => Q (.exit 0) [(5, .int .i64 x5_x01), (6, .int .i64 x6_x01), (7, .string s7_x01)] [] 0) → XL E0 198 0 fuel f9_L1 [(5, .int .i64 x5_1), (6, .int .i64 x6_1), (7, .string s7_1), (9, .int .i64 x9_1), (57, .int .i64 x57_1), (58, .int .i64 x58_1)] [] 0 Q
  | 0, x5_1, x6_1, s7_1, x9_1, x57_1, x58_1, o, h, Q, hQ => by cases h
  | fuel + 1, x5_1, x6_1, s7_1, x9_1, x57_1, x58_1, o, h, Q, hQ => by
    unfold f9_1 at h
    refine XL.succ E0_ok ?_
    refine XQ.seq E0_ok (by kernel_rfl) ?_
    refine XQ.region (by kernel_rfl) ?_
    refine XR.run E0_ok 1 1 [5, 6, 7, 9, 57, 58, 59] rfl (σ' := [(5, .int .i64 x5_1), (6, .int .i64 x6_1), (7, .string s7_1), (9, .int .i64 x9_1), (57, .int .i64 x57_1), (58, .int .i64 x58_1), (59, .bool (decide (x58_1 < x57_1)))]) (h' := []) (c' := 0) (by kernel_rfl) ?_
    refine XR.done (by kernel_rfl) ?_
    show XQ _ _ _ _ _ _ _ _
    refine XQ.seq E0_ok (by kernel_rfl) ?_
    cases b1 : (decide (x58_1 < x57_1) : Bool) with
    | true =>
      have h := cT b1 h
      refine XQ.cond (s := (.tmp 59)) (b := true) (by kernel_rfl) (by kernel_rfl) (fun _ => ?_) (fun q => by cases q)
      refine XQ.skip (by kernel_rfl) ?_
      show XQ _ _ _ _ _ _ _ _
      refine XQ.seq E0_ok (by kernel_rfl) ?_
      refine XQ.block (id := 1) (by kernel_rfl) ?_
      refine XQ.seq E0_ok (by kernel_rfl) ?_
      refine XQ.region (by kernel_rfl) ?_
      refine XR.run E0_ok 1 2 [5, 6, 7, 9, 10, 57, 58] rfl (σ' := [(5, .int .i64 x5_1), (6, .int .i64 x6_1), (7, .string s7_1), (9, .int .i64 x9_1), (10, .int .i64 x58_1), (57, .int .i64 x57_1), (58, .int .i64 x58_1)]) (h' := []) (c' := 0) (by kernel_rfl) ?_
      refine XR.done (by kernel_rfl) ?_
      show XQ _ _ _ _ _ _ _ _
      refine XQ.seq E0_ok (by kernel_rfl) ?_
      refine XQ.region (by kernel_rfl) ?_
      refine XR.run E0_ok 1 3 [5, 6, 7, 9, 10, 57, 58, 62, 63, 64] rfl (σ' := [(5, .int .i64 x5_1), (6, .int .i64 x6_1), (7, .string s7_1), (9, .int .i64 x9_1), (10, .int .i64 x58_1), (57, .int .i64 x57_1), (58, .int .i64 x58_1), (62, .int .i64 x5_1), (63, .int .i64 x6_1), (64, .int .i64 x58_1)]) (h' := []) (c' := 0) (by kernel_rfl) ?_
      obtain ⟨r4, r4_h, h⟩ := bS h
      refine XR.call E0_ok [5, 6, 7, 9, 10, 57, 58, 65] rfl (K := 23) (args := [.int .i64 x5_1, .int .i64 x6_1, .int .i64 x58_1]) (d := (some (path 12 65))) (by kernel_rfl) (KC.of_calls E0_ok (F := Proofs.Try.f23) (v := .tuple #[.int .i64 r4.1, .int .i64 r4.2]) (by kernel_rfl) rfl rfl (fun w hI => f23_ok m x5_1 x6_1 x58_1 r4 r4_h w hI)) ?_
      rintro _ _ _ ⟨rfl, rfl, rfl⟩
      refine XR.conv (σ' := [(5, .int .i64 x5_1), (6, .int .i64 x6_1), (7, .string s7_1), (9, .int .i64 x9_1), (10, .int .i64 x58_1), (57, .int .i64 x57_1), (58, .int .i64 x58_1), (65, .tuple #[.int .i64 r4.1, .int .i64 r4.2])]) (h' := []) (c' := 0) ?_ (by kernel_rfl)
      refine XR.run E0_ok 1 5 [5, 6, 7, 9, 10, 11, 12, 57, 58] rfl (σ' := [(5, .int .i64 x5_1), (6, .int .i64 x6_1), (7, .string s7_1), (9, .int .i64 x9_1), (10, .int .i64 x58_1), (11, .int .i64 r4.1), (12, .int .i64 r4.2), (57, .int .i64 x57_1), (58, .int .i64 x58_1)]) (h' := []) (c' := 0) (by kernel_rfl) ?_
      refine XR.done (by kernel_rfl) ?_
      show XQ _ _ _ _ _ _ _ _
      refine XQ.seq E0_ok (by kernel_rfl) ?_
      refine XQ.region (by kernel_rfl) ?_
      refine XR.run E0_ok 1 4 [5, 6, 7, 10, 11, 12, 57, 58, 68, 69, 71] rfl (σ' := [(5, .int .i64 x5_1), (6, .int .i64 x6_1), (7, .string s7_1), (10, .int .i64 x58_1), (11, .int .i64 r4.1), (12, .int .i64 r4.2), (57, .int .i64 x57_1), (58, .int .i64 x58_1), (68, .int .i64 x9_1), (69, .string s7_1), (71, .int .i64 (w64 (x9_1 + 1)))]) (h' := []) (c' := 0) (by kernel_rfl) ?_
      cases b2 : (cutOk (w64 (x9_1 + 1)) (s7_1.size : Int) s7_1.size : Bool) with
      | false => cases (cF b2 h)
      | true =>
        have h := cT b2 h
        have e3 : insV (headI ((gsOf E0 198 (opsOf (lft (rgt (rgt (lft (lft (rgt (rgt f9_L1))))))))).drop 4) (trS 198 [(5, .int .i64 x5_1), (6, .int .i64 x6_1), (7, .string s7_1), (10, .int .i64 x58_1), (11, .int .i64 r4.1), (12, .int .i64 r4.2), (57, .int .i64 x57_1), (58, .int .i64 x58_1), (68, .int .i64 x9_1), (69, .string s7_1), (71, .int .i64 (w64 (x9_1 + 1)))])) (trS 198 [(5, .int .i64 x5_1), (6, .int .i64 x6_1), (7, .string s7_1), (10, .int .i64 x58_1), (11, .int .i64 r4.1), (12, .int .i64 r4.2), (57, .int .i64 x57_1), (58, .int .i64 x58_1), (68, .int .i64 x9_1), (69, .string s7_1), (71, .int .i64 (w64 (x9_1 + 1)))]) [] = (match (cutOk (w64 (x9_1 + 1)) (s7_1.size : Int) s7_1.size : Bool) with | true => some (.string (cutT s7_1 (w64 (x9_1 + 1)) (s7_1.size : Int))) | false => none) := by kernel_rfl
        refine XR.rd E0_ok [5, 6, 7, 10, 11, 12, 57, 58, 68, 72] rfl (e3.trans (by rw [b2])) (σ' := [(5, .int .i64 x5_1), (6, .int .i64 x6_1), (7, .string s7_1), (10, .int .i64 x58_1), (11, .int .i64 r4.1), (12, .int .i64 r4.2), (57, .int .i64 x57_1), (58, .int .i64 x58_1), (68, .int .i64 x9_1), (72, .string (cutT s7_1 (w64 (x9_1 + 1)) (s7_1.size : Int)))]) (by kernel_rfl) ?_
        cases b4 : (Nat.blt (cutT s7_1 (w64 (x9_1 + 1)) (s7_1.size : Int)).size 4294967281 : Bool) with
        | false => cases (cF b4 h)
        | true =>
          have h := cT b4 h
          refine XR.call E0_ok [5, 6, 7, 10, 11, 12, 57, 58, 68, 73] rfl (K := 40) (args := [.string (cutT s7_1 (w64 (x9_1 + 1)) (s7_1.size : Int)), .string (bs [98])]) (d := (some (path 12 73))) (by kernel_rfl) (KC.of_calls E0_ok (F := Proofs.Try.f40) (v := .int .i64 (Lib.index (cutT s7_1 (w64 (x9_1 + 1)) (s7_1.size : Int)).data.toList [98])) (by kernel_rfl) rfl rfl (((strPrim_ok 40 pIndex rfl).2 [.string (cutT s7_1 (w64 (x9_1 + 1)) (s7_1.size : Int)), .string (bs [98])] (.int .i64 (Lib.index (cutT s7_1 (w64 (x9_1 + 1)) (s7_1.size : Int)).data.toList [98])) (by simp only [pIndex, b4])).2.2)) ?_
          rintro _ _ _ ⟨rfl, rfl, rfl⟩
          refine XR.conv (σ' := [(5, .int .i64 x5_1), (6, .int .i64 x6_1), (7, .string s7_1), (10, .int .i64 x58_1), (11, .int .i64 r4.1), (12, .int .i64 r4.2), (57, .int .i64 x57_1), (58, .int .i64 x58_1), (68, .int .i64 x9_1), (73, .int .i64 (Lib.index (cutT s7_1 (w64 (x9_1 + 1)) (s7_1.size : Int)).data.toList [98]))]) (h' := []) (c' := 0) ?_ (by kernel_rfl)
          refine XR.run E0_ok 1 3 [5, 6, 7, 9, 10, 11, 12, 57, 58] rfl (σ' := [(5, .int .i64 x5_1), (6, .int .i64 x6_1), (7, .string s7_1), (9, .int .i64 (w64 (x9_1 + (w64 (1 + (Lib.index (cutT s7_1 (w64 (x9_1 + 1)) (s7_1.size : Int)).data.toList [98])))))), (10, .int .i64 x58_1), (11, .int .i64 r4.1), (12, .int .i64 r4.2), (57, .int .i64 x57_1), (58, .int .i64 x58_1)]) (h' := []) (c' := 0) (by kernel_rfl) ?_
          refine XR.done (by kernel_rfl) ?_
          show XQ _ _ _ _ _ _ _ _
          refine XQ.seq E0_ok (by kernel_rfl) ?_
          refine XQ.region (by kernel_rfl) ?_
          refine XR.run E0_ok 1 3 [5, 6, 7, 9, 10, 11, 57, 58, 78] rfl (σ' := [(5, .int .i64 x5_1), (6, .int .i64 x6_1), (7, .string s7_1), (9, .int .i64 (w64 (x9_1 + (w64 (1 + (Lib.index (cutT s7_1 (w64 (x9_1 + 1)) (s7_1.size : Int)).data.toList [98])))))), (10, .int .i64 x58_1), (11, .int .i64 r4.1), (57, .int .i64 x57_1), (58, .int .i64 x58_1), (78, .bool (r4.2 != 0))]) (h' := []) (c' := 0) (by kernel_rfl) ?_
          cases b5 : (r4.2 != 0 : Bool) with
          | true =>
            have h := cT b5 h
            refine XR.run E0_ok 1 25 [5, 6, 7, 9, 57, 58, 103] rfl (σ' := [(5, .int .i64 x5_1), (6, .int .i64 x6_1), (7, .string s7_1), (9, .int .i64 (w64 (x9_1 + (w64 (1 + (Lib.index (cutT s7_1 (w64 (x9_1 + 1)) (s7_1.size : Int)).data.toList [98])))))), (57, .int .i64 x57_1), (58, .int .i64 x58_1), (103, .bool true)]) (h' := []) (c' := 0) (by kernel_rfl) ?_
            refine XR.done (by kernel_rfl) ?_
            show XQ _ _ _ _ _ _ _ _
            refine XQ.cond (s := (.tmp 103)) (b := true) (by kernel_rfl) (by kernel_rfl) (fun _ => ?_) (fun q => by cases q)
            refine XQ.seq E0_ok (by kernel_rfl) ?_
            refine XQ.region (by kernel_rfl) ?_
            refine XR.run E0_ok 1 1 [4] rfl (σ' := [(4, .bool false)]) (h' := []) (c' := 0) (by kernel_rfl) ?_
            refine XR.done (by kernel_rfl) ?_
            show XQ _ _ _ _ _ _ _ _
            refine XQ.ren (σ' := [(4, .bool false)]) (h' := []) (c' := 0) [] (by decide) rfl ⟨by kernel_rfl, trivial⟩ trivial rfl ?_
            refine XQ.ret (by kernel_rfl) ?_
            cases h
            exact hQ
          | false =>
            have h := cF b5 h
            refine XR.run E0_ok 1 5 [5, 6, 7, 9, 10, 11, 57, 58, 83] rfl (σ' := [(5, .int .i64 x5_1), (6, .int .i64 x6_1), (7, .string s7_1), (9, .int .i64 (w64 (x9_1 + (w64 (1 + (Lib.index (cutT s7_1 (w64 (x9_1 + 1)) (s7_1.size : Int)).data.toList [98])))))), (10, .int .i64 x58_1), (11, .int .i64 r4.1), (57, .int .i64 x57_1), (58, .int .i64 x58_1), (83, .bool (r4.1 != (w64 (x9_1 + (w64 (1 + (Lib.index (cutT s7_1 (w64 (x9_1 + 1)) (s7_1.size : Int)).data.toList [98])))))))]) (h' := []) (c' := 0) (by kernel_rfl) ?_
            cases b6 : (r4.1 != (w64 (x9_1 + (w64 (1 + (Lib.index (cutT s7_1 (w64 (x9_1 + 1)) (s7_1.size : Int)).data.toList [98]))))) : Bool) with
            | true =>
              have h := cT b6 h
              refine XR.run E0_ok 1 20 [5, 6, 7, 9, 57, 58, 103] rfl (σ' := [(5, .int .i64 x5_1), (6, .int .i64 x6_1), (7, .string s7_1), (9, .int .i64 (w64 (x9_1 + (w64 (1 + (Lib.index (cutT s7_1 (w64 (x9_1 + 1)) (s7_1.size : Int)).data.toList [98])))))), (57, .int .i64 x57_1), (58, .int .i64 x58_1), (103, .bool true)]) (h' := []) (c' := 0) (by kernel_rfl) ?_
              refine XR.done (by kernel_rfl) ?_
              show XQ _ _ _ _ _ _ _ _
              refine XQ.cond (s := (.tmp 103)) (b := true) (by kernel_rfl) (by kernel_rfl) (fun _ => ?_) (fun q => by cases q)
              refine XQ.seq E0_ok (by kernel_rfl) ?_
              refine XQ.region (by kernel_rfl) ?_
              refine XR.run E0_ok 1 1 [4] rfl (σ' := [(4, .bool false)]) (h' := []) (c' := 0) (by kernel_rfl) ?_
              refine XR.done (by kernel_rfl) ?_
              show XQ _ _ _ _ _ _ _ _
              refine XQ.ren (σ' := [(4, .bool false)]) (h' := []) (c' := 0) [] (by decide) rfl ⟨by kernel_rfl, trivial⟩ trivial rfl ?_
              refine XQ.ret (by kernel_rfl) ?_
              cases h
              exact hQ
            | false =>
              have h := cF b6 h
              refine XR.run E0_ok 1 11 [5, 6, 7, 9, 10, 11, 57, 58, 94] rfl (σ' := [(5, .int .i64 x5_1), (6, .int .i64 x6_1), (7, .string s7_1), (9, .int .i64 (w64 (x9_1 + (w64 (1 + (Lib.index (cutT s7_1 (w64 (x9_1 + 1)) (s7_1.size : Int)).data.toList [98])))))), (10, .int .i64 x58_1), (11, .int .i64 r4.1), (57, .int .i64 x57_1), (58, .int .i64 x58_1), (94, .bool (decide ((w64 ((w64 (r4.1 + 1)) * x6_1)) < (w64 ((w64 (x58_1 + 1)) * x5_1)))))]) (h' := []) (c' := 0) (by kernel_rfl) ?_
              cases b7 : (decide ((w64 ((w64 (r4.1 + 1)) * x6_1)) < (w64 ((w64 (x58_1 + 1)) * x5_1))) : Bool) with
              | true =>
                have h := cT b7 h
                refine XR.run E0_ok 1 9 [5, 6, 7, 9, 57, 58, 103] rfl (σ' := [(5, .int .i64 x5_1), (6, .int .i64 x6_1), (7, .string s7_1), (9, .int .i64 (w64 (x9_1 + (w64 (1 + (Lib.index (cutT s7_1 (w64 (x9_1 + 1)) (s7_1.size : Int)).data.toList [98])))))), (57, .int .i64 x57_1), (58, .int .i64 x58_1), (103, .bool true)]) (h' := []) (c' := 0) (by kernel_rfl) ?_
                refine XR.done (by kernel_rfl) ?_
                show XQ _ _ _ _ _ _ _ _
                refine XQ.cond (s := (.tmp 103)) (b := true) (by kernel_rfl) (by kernel_rfl) (fun _ => ?_) (fun q => by cases q)
                refine XQ.seq E0_ok (by kernel_rfl) ?_
                refine XQ.region (by kernel_rfl) ?_
                refine XR.run E0_ok 1 1 [4] rfl (σ' := [(4, .bool false)]) (h' := []) (c' := 0) (by kernel_rfl) ?_
                refine XR.done (by kernel_rfl) ?_
                show XQ _ _ _ _ _ _ _ _
                refine XQ.ren (σ' := [(4, .bool false)]) (h' := []) (c' := 0) [] (by decide) rfl ⟨by kernel_rfl, trivial⟩ trivial rfl ?_
                refine XQ.ret (by kernel_rfl) ?_
                cases h
                exact hQ
              | false =>
                have h := cF b7 h
                refine XR.run E0_ok 1 9 [5, 6, 7, 9, 57, 58, 103] rfl (σ' := [(5, .int .i64 x5_1), (6, .int .i64 x6_1), (7, .string s7_1), (9, .int .i64 (w64 (x9_1 + (w64 (1 + (Lib.index (cutT s7_1 (w64 (x9_1 + 1)) (s7_1.size : Int)).data.toList [98])))))), (57, .int .i64 x57_1), (58, .int .i64 x58_1), (103, .bool (decide ((w64 (r4.1 * x6_1)) ≥ (w64 ((w64 (x58_1 + 1)) * x5_1)))))]) (h' := []) (c' := 0) (by kernel_rfl) ?_
                refine XR.done (by kernel_rfl) ?_
                show XQ _ _ _ _ _ _ _ _
                cases b8 : (decide ((w64 (r4.1 * x6_1)) ≥ (w64 ((w64 (x58_1 + 1)) * x5_1))) : Bool) with
                | true =>
                  have h := cT b8 h
                  refine XQ.cond (s := (.tmp 103)) (b := true) (by kernel_rfl) (by kernel_rfl) (fun _ => ?_) (fun q => by cases q)
                  refine XQ.seq E0_ok (by kernel_rfl) ?_
                  refine XQ.region (by kernel_rfl) ?_
                  refine XR.run E0_ok 1 1 [4] rfl (σ' := [(4, .bool false)]) (h' := []) (c' := 0) (by kernel_rfl) ?_
                  refine XR.done (by kernel_rfl) ?_
                  show XQ _ _ _ _ _ _ _ _
                  refine XQ.ren (σ' := [(4, .bool false)]) (h' := []) (c' := 0) [] (by decide) rfl ⟨by kernel_rfl, trivial⟩ trivial rfl ?_
                  refine XQ.ret (by kernel_rfl) ?_
                  cases h
                  exact hQ
                | false =>
                  have h := cF b8 h
                  refine XQ.cond (s := (.tmp 103)) (b := false) (by kernel_rfl) (by kernel_rfl) (fun q => by cases q) (fun _ => ?_)
                  refine XQ.skip (by kernel_rfl) ?_
                  show XQ _ _ _ _ _ _ _ _
                  refine XQ.region (by kernel_rfl) ?_
                  refine XR.run E0_ok 1 2 [5, 6, 7, 9, 57, 58] rfl (σ' := [(5, .int .i64 x5_1), (6, .int .i64 x6_1), (7, .string s7_1), (9, .int .i64 (w64 (x9_1 + (w64 (1 + (Lib.index (cutT s7_1 (w64 (x9_1 + 1)) (s7_1.size : Int)).data.toList [98])))))), (57, .int .i64 x57_1), (58, .int .i64 (w64 (x58_1 + 1)))]) (h' := []) (c' := 0) (by kernel_rfl) ?_
                  refine XR.done (by kernel_rfl) ?_
                  show XL _ _ _ _ _ _ _ _ _
                  refine XL.ren (σ' := [(5, .int .i64 x5_1), (6, .int .i64 x6_1), (7, .string s7_1), (9, .int .i64 (w64 (x9_1 + (w64 (1 + (Lib.index (cutT s7_1 (w64 (x9_1 + 1)) (s7_1.size : Int)).data.toList [98])))))), (57, .int .i64 x57_1), (58, .int .i64 (w64 (x58_1 + 1)))]) (h' := []) (c' := 0) [] (by decide) rfl ⟨by kernel_rfl, by kernel_rfl, by kernel_rfl, by kernel_rfl, by kernel_rfl, by kernel_rfl, trivial⟩ trivial rfl ?_
                  refine XL.conv (f9_1_ok m fuel x5_1 x6_1 s7_1 (w64 (x9_1 + (w64 (1 + (Lib.index (cutT s7_1 (w64 (x9_1 + 1)) (s7_1.size : Int)).data.toList [98]))))) x57_1 (w64 (x58_1 + 1)) o h Q hQ) (by first | rfl | simp)
    | false =>
      have h := cF b1 h
      refine XQ.cond (s := (.tmp 59)) (b := false) (by kernel_rfl) (by kernel_rfl) (fun q => by cases q) (fun _ => ?_)
      refine XQ.ren (σ' := [(5, .int .i64 x5_1), (6, .int .i64 x6_1), (7, .string s7_1)]) (h' := []) (c' := 0) [] (by decide) rfl ⟨by kernel_rfl, by kernel_rfl, by kernel_rfl, trivial⟩ trivial rfl ?_
      refine XQ.exit (i := 0) (by kernel_rfl) ?_
      cases h
      exact hQ

def f9 (m : Nat) (a : Int) (b : Int) : Option (Bool) :=
  cond ((w64 ((w64 (1 + (Int.tmod (w64 a) 16))) + 1)) != 0) (
    (f21 m (w64 (1 + (Int.tmod (w64 a) 16))) (Int.tmod (w64 b) (w64 ((w64 (1 + (Int.tmod (w64 a) 16))) + 1)))).bind fun r1 =>
      cond (r1.2 != 0) (
        some (false)
      ) (
        cond (((r1.1.size : Nat) : Int) != (w64 (1 + (Int.tmod (w64 a) 16)))) (
          some (false)
        ) (
          cond ((Lib.countByte r1.1.data.toList 98) != (Int.tmod (w64 b) (w64 ((w64 (1 + (Int.tmod (w64 a) 16))) + 1)))) (
            some (false)
          ) (
            cond ((Lib.countByte r1.1.data.toList 97) != (w64 ((w64 (1 + (Int.tmod (w64 a) 16))) - (Int.tmod (w64 b) (w64 ((w64 (1 + (Int.tmod (w64 a) 16))) + 1)))))) (
              some (false)
            ) (
              (f9_1 m m (w64 (1 + (Int.tmod (w64 a) 16))) (Int.tmod (w64 b) (w64 ((w64 (1 + (Int.tmod (w64 a) 16))) + 1))) r1.1 (-1) (Int.tmod (w64 b) (w64 ((w64 (1 + (Int.tmod (w64 a) 16))) + 1))) 0).bind fun o1 =>
                match o1 with
                | .r =>
                  some (false)
                | .x0 x5_x01 x6_x01 s7_x01 =>
                  (f23 m x5_x01 x6_x01 x6_x01).bind fun r5 =>
                    (f25 m x5_x01 x6_x01).bind fun r6 =>
                      cond (r5.2 != 2) (
                        some (false)
                      ) (
                        cond (x5_x01 == 1) (
                          cond (r6.2 == 12) (
                            cond (r6.1 == 0) (
                              some (true)
                            ) (
                              some (false)
                            )
                          ) (
                            some (false)
                          )
                        ) (
                          (f41 m x5_x01 x6_x01).bind fun r7 =>
                            cond (decide (r7 > 1)) (
                              cond (r6.2 == 12) (
                                cond (r6.1 == 0) (
                                  some (true)
                                ) (
                                  some (false)
                                )
                              ) (
                                some (false)
                              )
                            ) (
                              cond (r6.2 != 0) (
                                some (false)
                              ) (
                                cond (decide (r6.1 < 1)) (
                                  some (false)
                                ) (
                                  cond (decide (r6.1 ≥ x5_x01)) (
                                    some (false)
                                  ) (
                                    cond (cutOk 0 r6.1 s7_x01.size) (
                                      (f21 m r6.1 (Lib.countByte (cutT s7_x01 0 r6.1).data.toList 98)).bind fun r8 =>
                                        (f21 m (w64 (x5_x01 - r6.1)) (w64 (x6_x01 - (Lib.countByte (cutT s7_x01 0 r6.1).data.toList 98)))).bind fun r9 =>
                                          cond (r8.2 == 0) (
                                            cond (r9.2 == 0) (
                                              cond (Nat.ble (r8.1.size + r9.1.size) 9223372036854775807) (
                                                cond ((catS r8.1 r9.1).data.toList == s7_x01.data.toList) (
                                                  cond ((w64 ((w64 (r6.1 * (w64 (x6_x01 - (Lib.countByte (cutT s7_x01 0 r6.1).data.toList 98))))) - (w64 ((w64 (x5_x01 - r6.1)) * (Lib.countByte (cutT s7_x01 0 r6.1).data.toList 98))))) == 1) (
                                                    some (true)
                                                  ) (
                                                    some (false)
                                                  )
                                                ) (
                                                  some (false)
                                                )
                                              ) none
                                            ) (
                                              some (false)
                                            )
                                          ) (
                                            some (false)
                                          )
                                    ) none
                                  )
                                )
                              )
                            )
                        )
                      )
            )
          )
        )
      )
  ) none

theorem f9_ok (m : Nat) (a : Int) (b : Int) (o : Bool) (h : f9 m a b = some o) (w : World) (hI : maxInv w) : Calls Proofs.Try.prog 9 #[.int .u8 a, .int .u8 b] w fun e w' => e = .returned (.bool o) ∧ Below w.heap.size w w' := by
  refine KC.calls (E := E0) (args := [.int .u8 a, .int .u8 b]) (v := .bool o) rfl rfl (KC.bodyN E0_ok (F := Proofs.Try.f9) (by kernel_rfl) (code := f9_C9) (by kernel_rfl) (nt := 198) (by kernel_rfl) (rs := [.tmp 4]) (by kernel_rfl) (by kernel_rfl) (σ := [(0, .int .u8 a), (1, .int .u8 b)]) (by kernel_rfl) ?_) w (maxInv_size hI) hI
  unfold f9 at h
  refine XQ.seq E0_ok (by kernel_rfl) ?_
  refine XQ.region (by kernel_rfl) ?_
  refine XR.run E0_ok 1 1 [0, 1] rfl (σ' := [(0, .int .u8 a), (1, .int .u8 b)]) (h' := []) (c' := 0) (by kernel_rfl) ?_
  refine XR.done (by kernel_rfl) ?_
  show XQ _ _ _ _ _ _ _ _
  refine XQ.seq E0_ok (by kernel_rfl) ?_
  refine XQ.region (by kernel_rfl) ?_
  refine XR.run E0_ok 1 5 [1, 5] rfl (σ' := [(1, .int .u8 b), (5, .int .i64 (w64 (1 + (Int.tmod (w64 a) 16))))]) (h' := []) (c' := 0) (by kernel_rfl) ?_
  refine XR.done (by kernel_rfl) ?_
  show XQ _ _ _ _ _ _ _ _
  refine XQ.seq E0_ok (by kernel_rfl) ?_
  refine XQ.region (by kernel_rfl) ?_
  refine XR.run E0_ok 1 4 [5, 25, 27] rfl (σ' := [(5, .int .i64 (w64 (1 + (Int.tmod (w64 a) 16)))), (25, .int .i64 (w64 b)), (27, .int .i64 (w64 ((w64 (1 + (Int.tmod (w64 a) 16))) + 1)))]) (h' := []) (c' := 0) (by kernel_rfl) ?_
  cases b1 : ((w64 ((w64 (1 + (Int.tmod (w64 a) 16))) + 1)) != 0 : Bool) with
  | false => cases (cF b1 h)
  | true =>
    have h := cT b1 h
    have e2 : insV (headI ((gsOf E0 198 (opsOf (lft (rgt (rgt f9_C9))))).drop 4) (trS 198 [(5, .int .i64 (w64 (1 + (Int.tmod (w64 a) 16)))), (25, .int .i64 (w64 b)), (27, .int .i64 (w64 ((w64 (1 + (Int.tmod (w64 a) 16))) + 1)))])) (trS 198 [(5, .int .i64 (w64 (1 + (Int.tmod (w64 a) 16)))), (25, .int .i64 (w64 b)), (27, .int .i64 (w64 ((w64 (1 + (Int.tmod (w64 a) 16))) + 1)))]) [] = (match ((w64 ((w64 (1 + (Int.tmod (w64 a) 16))) + 1)) != 0 : Bool) with | true => some (.int .i64 (Int.tmod (w64 b) (w64 ((w64 (1 + (Int.tmod (w64 a) 16))) + 1)))) | false => none) := by kernel_rfl
    refine XR.rd E0_ok [5, 28] rfl (e2.trans (by rw [b1])) (σ' := [(5, .int .i64 (w64 (1 + (Int.tmod (w64 a) 16)))), (28, .int .i64 (Int.tmod (w64 b) (w64 ((w64 (1 + (Int.tmod (w64 a) 16))) + 1))))]) (by kernel_rfl) ?_
    refine XR.run E0_ok 1 1 [5, 6] rfl (σ' := [(5, .int .i64 (w64 (1 + (Int.tmod (w64 a) 16)))), (6, .int .i64 (Int.tmod (w64 b) (w64 ((w64 (1 + (Int.tmod (w64 a) 16))) + 1))))]) (h' := []) (c' := 0) (by kernel_rfl) ?_
    refine XR.done (by kernel_rfl) ?_
    show XQ _ _ _ _ _ _ _ _
    refine XQ.seq E0_ok (by kernel_rfl) ?_
    refine XQ.region (by kernel_rfl) ?_
    refine XR.run E0_ok 1 2 [5, 6, 30, 31] rfl (σ' := [(5, .int .i64 (w64 (1 + (Int.tmod (w64 a) 16)))), (6, .int .i64 (Int.tmod (w64 b) (w64 ((w64 (1 + (Int.tmod (w64 a) 16))) + 1)))), (30, .int .i64 (w64 (1 + (Int.tmod (w64 a) 16)))), (31, .int .i64 (Int.tmod (w64 b) (w64 ((w64 (1 + (Int.tmod (w64 a) 16))) + 1))))]) (h' := []) (c' := 0) (by kernel_rfl) ?_
    obtain ⟨r1, r1_h, h⟩ := bS h
    refine XR.call E0_ok [5, 6, 32] rfl (K := 21) (args := [.int .i64 (w64 (1 + (Int.tmod (w64 a) 16))), .int .i64 (Int.tmod (w64 b) (w64 ((w64 (1 + (Int.tmod (w64 a) 16))) + 1)))]) (d := (some (path 12 32))) (by kernel_rfl) (KC.of_calls E0_ok (F := Proofs.Try.f21) (v := .tuple #[.string r1.1, .int .i64 r1.2]) (by kernel_rfl) rfl rfl (fun w hI => f21_ok m (w64 (1 + (Int.tmod (w64 a) 16))) (Int.tmod (w64 b) (w64 ((w64 (1 + (Int.tmod (w64 a) 16))) + 1))) r1 r1_h w hI)) ?_
    rintro _ _ _ ⟨rfl, rfl, rfl⟩
    refine XR.conv (σ' := [(5, .int .i64 (w64 (1 + (Int.tmod (w64 a) 16)))), (6, .int .i64 (Int.tmod (w64 b) (w64 ((w64 (1 + (Int.tmod (w64 a) 16))) + 1)))), (32, .tuple #[.string r1.1, .int .i64 r1.2])]) (h' := []) (c' := 0) ?_ (by kernel_rfl)
    refine XR.run E0_ok 1 5 [5, 6, 7, 8] rfl (σ' := [(5, .int .i64 (w64 (1 + (Int.tmod (w64 a) 16)))), (6, .int .i64 (Int.tmod (w64 b) (w64 ((w64 (1 + (Int.tmod (w64 a) 16))) + 1)))), (7, .string r1.1), (8, .int .i64 r1.2)]) (h' := []) (c' := 0) (by kernel_rfl) ?_
    refine XR.done (by kernel_rfl) ?_
    show XQ _ _ _ _ _ _ _ _
    refine XQ.seq E0_ok (by kernel_rfl) ?_
    refine XQ.seq E0_ok (by kernel_rfl) ?_
    refine XQ.region (by kernel_rfl) ?_
    refine XR.run E0_ok 1 3 [5, 6, 7, 37] rfl (σ' := [(5, .int .i64 (w64 (1 + (Int.tmod (w64 a) 16)))), (6, .int .i64 (Int.tmod (w64 b) (w64 ((w64 (1 + (Int.tmod (w64 a) 16))) + 1)))), (7, .string r1.1), (37, .bool (r1.2 != 0))]) (h' := []) (c' := 0) (by kernel_rfl) ?_
    cases b3 : (r1.2 != 0 : Bool) with
    | true =>
      have h := cT b3 h
      refine XR.run E0_ok 1 19 [5, 6, 7, 56] rfl (σ' := [(5, .int .i64 (w64 (1 + (Int.tmod (w64 a) 16)))), (6, .int .i64 (Int.tmod (w64 b) (w64 ((w64 (1 + (Int.tmod (w64 a) 16))) + 1)))), (7, .string r1.1), (56, .bool true)]) (h' := []) (c' := 0) (by kernel_rfl) ?_
      refine XR.done (by kernel_rfl) ?_
      show XQ _ _ _ _ _ _ _ _
      refine XQ.cond (s := (.tmp 56)) (b := true) (by kernel_rfl) (by kernel_rfl) (fun _ => ?_) (fun q => by cases q)
      refine XQ.seq E0_ok (by kernel_rfl) ?_
      refine XQ.region (by kernel_rfl) ?_
      refine XR.run E0_ok 1 1 [4] rfl (σ' := [(4, .bool false)]) (h' := []) (c' := 0) (by kernel_rfl) ?_
      refine XR.done (by kernel_rfl) ?_
      show XQ _ _ _ _ _ _ _ _
      refine XQ.ret (by kernel_rfl) ?_
      have h := Option.some.inj h
      subst h
      exact ⟨fun i q => (by cases q), .bool false, (by kernel_rfl), rfl⟩
    | false =>
      have h := cF b3 h
      refine XR.run E0_ok 1 6 [5, 6, 7, 43] rfl (σ' := [(5, .int .i64 (w64 (1 + (Int.tmod (w64 a) 16)))), (6, .int .i64 (Int.tmod (w64 b) (w64 ((w64 (1 + (Int.tmod (w64 a) 16))) + 1)))), (7, .string r1.1), (43, .bool (((r1.1.size : Nat) : Int) != (w64 (1 + (Int.tmod (w64 a) 16)))))]) (h' := []) (c' := 0) (by kernel_rfl) ?_
      cases b4 : (((r1.1.size : Nat) : Int) != (w64 (1 + (Int.tmod (w64 a) 16))) : Bool) with
      | true =>
        have h := cT b4 h
        refine XR.run E0_ok 1 13 [5, 6, 7, 56] rfl (σ' := [(5, .int .i64 (w64 (1 + (Int.tmod (w64 a) 16)))), (6, .int .i64 (Int.tmod (w64 b) (w64 ((w64 (1 + (Int.tmod (w64 a) 16))) + 1)))), (7, .string r1.1), (56, .bool true)]) (h' := []) (c' := 0) (by kernel_rfl) ?_
        refine XR.done (by kernel_rfl) ?_
        show XQ _ _ _ _ _ _ _ _
        refine XQ.cond (s := (.tmp 56)) (b := true) (by kernel_rfl) (by kernel_rfl) (fun _ => ?_) (fun q => by cases q)
        refine XQ.seq E0_ok (by kernel_rfl) ?_
        refine XQ.region (by kernel_rfl) ?_
        refine XR.run E0_ok 1 1 [4] rfl (σ' := [(4, .bool false)]) (h' := []) (c' := 0) (by kernel_rfl) ?_
        refine XR.done (by kernel_rfl) ?_
        show XQ _ _ _ _ _ _ _ _
        refine XQ.ret (by kernel_rfl) ?_
        have h := Option.some.inj h
        subst h
        exact ⟨fun i q => (by cases q), .bool false, (by kernel_rfl), rfl⟩
      | false =>
        have h := cF b4 h
        refine XR.run E0_ok 1 1 [5, 6, 7, 43, 44] rfl (σ' := [(5, .int .i64 (w64 (1 + (Int.tmod (w64 a) 16)))), (6, .int .i64 (Int.tmod (w64 b) (w64 ((w64 (1 + (Int.tmod (w64 a) 16))) + 1)))), (7, .string r1.1), (43, .bool false), (44, .string r1.1)]) (h' := []) (c' := 0) (by kernel_rfl) ?_
        refine XR.call E0_ok [5, 6, 7, 43, 45] rfl (K := 38) (args := [.string r1.1, .string (bs [98])]) (d := (some (path 12 45))) (by kernel_rfl) (KC.of_calls E0_ok (F := Proofs.Try.f38) (v := .int .i64 (Lib.countByte r1.1.data.toList 98)) (by kernel_rfl) rfl rfl (((strPrim_ok 38 pCount rfl).2 [.string r1.1, .string (bs [98])] (.int .i64 (Lib.countByte r1.1.data.toList 98)) rfl).2.2)) ?_
        rintro _ _ _ ⟨rfl, rfl, rfl⟩
        refine XR.conv (σ' := [(5, .int .i64 (w64 (1 + (Int.tmod (w64 a) 16)))), (6, .int .i64 (Int.tmod (w64 b) (w64 ((w64 (1 + (Int.tmod (w64 a) 16))) + 1)))), (7, .string r1.1), (43, .bool false), (45, .int .i64 (Lib.countByte r1.1.data.toList 98))]) (h' := []) (c' := 0) ?_ (by kernel_rfl)
        refine XR.run E0_ok 1 4 [5, 6, 7, 49] rfl (σ' := [(5, .int .i64 (w64 (1 + (Int.tmod (w64 a) 16)))), (6, .int .i64 (Int.tmod (w64 b) (w64 ((w64 (1 + (Int.tmod (w64 a) 16))) + 1)))), (7, .string r1.1), (49, .bool ((Lib.countByte r1.1.data.toList 98) != (Int.tmod (w64 b) (w64 ((w64 (1 + (Int.tmod (w64 a) 16))) + 1)))))]) (h' := []) (c' := 0) (by kernel_rfl) ?_
        cases b5 : ((Lib.countByte r1.1.data.toList 98) != (Int.tmod (w64 b) (w64 ((w64 (1 + (Int.tmod (w64 a) 16))) + 1))) : Bool) with
        | true =>
          have h := cT b5 h
          refine XR.run E0_ok 1 7 [5, 6, 7, 56] rfl (σ' := [(5, .int .i64 (w64 (1 + (Int.tmod (w64 a) 16)))), (6, .int .i64 (Int.tmod (w64 b) (w64 ((w64 (1 + (Int.tmod (w64 a) 16))) + 1)))), (7, .string r1.1), (56, .bool true)]) (h' := []) (c' := 0) (by kernel_rfl) ?_
          refine XR.done (by kernel_rfl) ?_
          show XQ _ _ _ _ _ _ _ _
          refine XQ.cond (s := (.tmp 56)) (b := true) (by kernel_rfl) (by kernel_rfl) (fun _ => ?_) (fun q => by cases q)
          refine XQ.seq E0_ok (by kernel_rfl) ?_
          refine XQ.region (by kernel_rfl) ?_
          refine XR.run E0_ok 1 1 [4] rfl (σ' := [(4, .bool false)]) (h' := []) (c' := 0) (by kernel_rfl) ?_
          refine XR.done (by kernel_rfl) ?_
          show XQ _ _ _ _ _ _ _ _
          refine XQ.ret (by kernel_rfl) ?_
          have h := Option.some.inj h
          subst h
          exact ⟨fun i q => (by cases q), .bool false, (by kernel_rfl), rfl⟩
        | false =>
          have h := cF b5 h
          refine XR.run E0_ok 1 1 [5, 6, 7, 49, 50] rfl (σ' := [(5, .int .i64 (w64 (1 + (Int.tmod (w64 a) 16)))), (6, .int .i64 (Int.tmod (w64 b) (w64 ((w64 (1 + (Int.tmod (w64 a) 16))) + 1)))), (7, .string r1.1), (49, .bool false), (50, .string r1.1)]) (h' := []) (c' := 0) (by kernel_rfl) ?_
          refine XR.call E0_ok [5, 6, 7, 49, 51] rfl (K := 38) (args := [.string r1.1, .string (bs [97])]) (d := (some (path 12 51))) (by kernel_rfl) (KC.of_calls E0_ok (F := Proofs.Try.f38) (v := .int .i64 (Lib.countByte r1.1.data.toList 97)) (by kernel_rfl) rfl rfl (((strPrim_ok 38 pCount rfl).2 [.string r1.1, .string (bs [97])] (.int .i64 (Lib.countByte r1.1.data.toList 97)) rfl).2.2)) ?_
          rintro _ _ _ ⟨rfl, rfl, rfl⟩
          refine XR.conv (σ' := [(5, .int .i64 (w64 (1 + (Int.tmod (w64 a) 16)))), (6, .int .i64 (Int.tmod (w64 b) (w64 ((w64 (1 + (Int.tmod (w64 a) 16))) + 1)))), (7, .string r1.1), (49, .bool false), (51, .int .i64 (Lib.countByte r1.1.data.toList 97))]) (h' := []) (c' := 0) ?_ (by kernel_rfl)
          refine XR.run E0_ok 1 5 [5, 6, 7, 56] rfl (σ' := [(5, .int .i64 (w64 (1 + (Int.tmod (w64 a) 16)))), (6, .int .i64 (Int.tmod (w64 b) (w64 ((w64 (1 + (Int.tmod (w64 a) 16))) + 1)))), (7, .string r1.1), (56, .bool ((Lib.countByte r1.1.data.toList 97) != (w64 ((w64 (1 + (Int.tmod (w64 a) 16))) - (Int.tmod (w64 b) (w64 ((w64 (1 + (Int.tmod (w64 a) 16))) + 1)))))))]) (h' := []) (c' := 0) (by kernel_rfl) ?_
          refine XR.done (by kernel_rfl) ?_
          show XQ _ _ _ _ _ _ _ _
          cases b6 : ((Lib.countByte r1.1.data.toList 97) != (w64 ((w64 (1 + (Int.tmod (w64 a) 16))) - (Int.tmod (w64 b) (w64 ((w64 (1 + (Int.tmod (w64 a) 16))) + 1))))) : Bool) with
          | true =>
            have h := cT b6 h
            refine XQ.cond (s := (.tmp 56)) (b := true) (by kernel_rfl) (by kernel_rfl) (fun _ => ?_) (fun q => by cases q)
            refine XQ.seq E0_ok (by kernel_rfl) ?_
            refine XQ.region (by kernel_rfl) ?_
            refine XR.run E0_ok 1 1 [4] rfl (σ' := [(4, .bool false)]) (h' := []) (c' := 0) (by kernel_rfl) ?_
            refine XR.done (by kernel_rfl) ?_
            show XQ _ _ _ _ _ _ _ _
            refine XQ.ret (by kernel_rfl) ?_
            have h := Option.some.inj h
            subst h
            exact ⟨fun i q => (by cases q), .bool false, (by kernel_rfl), rfl⟩
          | false =>
            have h := cF b6 h
            refine XQ.cond (s := (.tmp 56)) (b := false) (by kernel_rfl) (by kernel_rfl) (fun q => by cases q) (fun _ => ?_)
            refine XQ.skip (by kernel_rfl) ?_
            show XQ _ _ _ _ _ _ _ _
            refine XQ.seq E0_ok (by kernel_rfl) ?_
            refine XQ.region (by kernel_rfl) ?_
            refine XR.run E0_ok 1 1 [5, 6, 7, 9] rfl (σ' := [(5, .int .i64 (w64 (1 + (Int.tmod (w64 a) 16)))), (6, .int .i64 (Int.tmod (w64 b) (w64 ((w64 (1 + (Int.tmod (w64 a) 16))) + 1)))), (7, .string r1.1), (9, .int .i64 (-1))]) (h' := []) (c' := 0) (by kernel_rfl) ?_
            refine XR.done (by kernel_rfl) ?_
            show XQ _ _ _ _ _ _ _ _
            refine XQ.seq E0_ok (by kernel_rfl) ?_
            refine XQ.seq E0_ok (by kernel_rfl) ?_
            refine XQ.region (by kernel_rfl) ?_
            refine XR.run E0_ok 1 2 [5, 6, 7, 9, 57, 58] rfl (σ' := [(5, .int .i64 (w64 (1 + (Int.tmod (w64 a) 16)))), (6, .int .i64 (Int.tmod (w64 b) (w64 ((w64 (1 + (Int.tmod (w64 a) 16))) + 1)))), (7, .string r1.1), (9, .int .i64 (-1)), (57, .int .i64 (Int.tmod (w64 b) (w64 ((w64 (1 + (Int.tmod (w64 a) 16))) + 1)))), (58, .int .i64 0)]) (h' := []) (c' := 0) (by kernel_rfl) ?_
            refine XR.done (by kernel_rfl) ?_
            show XQ _ _ _ _ _ _ _ _
            refine XQ.block (id := 0) (by kernel_rfl) ?_
            refine XQ.loop m (by kernel_rfl) ?_
            obtain ⟨o1, o1_h, h⟩ := bS h
            refine XL.ren (σ' := [(5, .int .i64 (w64 (1 + (Int.tmod (w64 a) 16)))), (6, .int .i64 (Int.tmod (w64 b) (w64 ((w64 (1 + (Int.tmod (w64 a) 16))) + 1)))), (7, .string r1.1), (9, .int .i64 (-1)), (57, .int .i64 (Int.tmod (w64 b) (w64 ((w64 (1 + (Int.tmod (w64 a) 16))) + 1)))), (58, .int .i64 0)]) (h' := []) (c' := 0) [] (by decide) rfl ⟨by kernel_rfl, by kernel_rfl, by kernel_rfl, by kernel_rfl, by kernel_rfl, by kernel_rfl, trivial⟩ trivial rfl ?_
            cases o1 with
            | r =>
              dsimp only at h
              refine XL.conv (f9_1_ok m m (w64 (1 + (Int.tmod (w64 a) 16))) (Int.tmod (w64 b) (w64 ((w64 (1 + (Int.tmod (w64 a) 16))) + 1))) r1.1 (-1) (Int.tmod (w64 b) (w64 ((w64 (1 + (Int.tmod (w64 a) 16))) + 1))) 0 (.r) o1_h _ ?_) (by first | rfl | simp)
              have h := Option.some.inj h
              subst h
              exact ⟨fun i q => (by cases q), .bool false, (by kernel_rfl), rfl⟩
            | x0 x5_x01 x6_x01 s7_x01 =>
              dsimp only at h
              refine XL.conv (f9_1_ok m m (w64 (1 + (Int.tmod (w64 a) 16))) (Int.tmod (w64 b) (w64 ((w64 (1 + (Int.tmod (w64 a) 16))) + 1))) r1.1 (-1) (Int.tmod (w64 b) (w64 ((w64 (1 + (Int.tmod (w64 a) 16))) + 1))) 0 (.x0 x5_x01 x6_x01 s7_x01) o1_h _ ?_) (by first | rfl | simp)
              show XQ _ _ _ _ _ _ _ _
              refine XQ.seq E0_ok (by kernel_rfl) ?_
              refine XQ.region (by kernel_rfl) ?_
              refine XR.run E0_ok 1 3 [5, 6, 7, 106, 107, 108] rfl (σ' := [(5, .int .i64 x5_x01), (6, .int .i64 x6_x01), (7, .string s7_x01), (106, .int .i64 x5_x01), (107, .int .i64 x6_x01), (108, .int .i64 x6_x01)]) (h' := []) (c' := 0) (by kernel_rfl) ?_
              obtain ⟨r5, r5_h, h⟩ := bS h
              refine XR.call E0_ok [5, 6, 7, 109] rfl (K := 23) (args := [.int .i64 x5_x01, .int .i64 x6_x01, .int .i64 x6_x01]) (d := (some (path 12 109))) (by kernel_rfl) (KC.of_calls E0_ok (F := Proofs.Try.f23) (v := .tuple #[.int .i64 r5.1, .int .i64 r5.2]) (by kernel_rfl) rfl rfl (fun w hI => f23_ok m x5_x01 x6_x01 x6_x01 r5 r5_h w hI)) ?_
              rintro _ _ _ ⟨rfl, rfl, rfl⟩
              refine XR.conv (σ' := [(5, .int .i64 x5_x01), (6, .int .i64 x6_x01), (7, .string s7_x01), (109, .tuple #[.int .i64 r5.1, .int .i64 r5.2])]) (h' := []) (c' := 0) ?_ (by kernel_rfl)
              refine XR.run E0_ok 1 5 [5, 6, 7, 14] rfl (σ' := [(5, .int .i64 x5_x01), (6, .int .i64 x6_x01), (7, .string s7_x01), (14, .int .i64 r5.2)]) (h' := []) (c' := 0) (by kernel_rfl) ?_
              refine XR.done (by kernel_rfl) ?_
              show XQ _ _ _ _ _ _ _ _
              refine XQ.seq E0_ok (by kernel_rfl) ?_
              refine XQ.region (by kernel_rfl) ?_
              refine XR.run E0_ok 1 2 [5, 6, 7, 14, 113, 114] rfl (σ' := [(5, .int .i64 x5_x01), (6, .int .i64 x6_x01), (7, .string s7_x01), (14, .int .i64 r5.2), (113, .int .i64 x5_x01), (114, .int .i64 x6_x01)]) (h' := []) (c' := 0) (by kernel_rfl) ?_
              obtain ⟨r6, r6_h, h⟩ := bS h
              refine XR.call E0_ok [5, 6, 7, 14, 115] rfl (K := 25) (args := [.int .i64 x5_x01, .int .i64 x6_x01]) (d := (some (path 12 115))) (by kernel_rfl) (KC.of_calls E0_ok (F := Proofs.Try.f25) (v := .tuple #[.int .i64 r6.1, .int .i64 r6.2]) (by kernel_rfl) rfl rfl (fun w hI => f25_ok m x5_x01 x6_x01 r6 r6_h w hI)) ?_
              rintro _ _ _ ⟨rfl, rfl, rfl⟩
              refine XR.conv (σ' := [(5, .int .i64 x5_x01), (6, .int .i64 x6_x01), (7, .string s7_x01), (14, .int .i64 r5.2), (115, .tuple #[.int .i64 r6.1, .int .i64 r6.2])]) (h' := []) (c' := 0) ?_ (by kernel_rfl)
              refine XR.run E0_ok 1 5 [5, 6, 7, 14, 15, 16] rfl (σ' := [(5, .int .i64 x5_x01), (6, .int .i64 x6_x01), (7, .string s7_x01), (14, .int .i64 r5.2), (15, .int .i64 r6.1), (16, .int .i64 r6.2)]) (h' := []) (c' := 0) (by kernel_rfl) ?_
              refine XR.done (by kernel_rfl) ?_
              show XQ _ _ _ _ _ _ _ _
              refine XQ.seq E0_ok (by kernel_rfl) ?_
              refine XQ.seq E0_ok (by kernel_rfl) ?_
              refine XQ.region (by kernel_rfl) ?_
              refine XR.run E0_ok 1 2 [5, 6, 7, 15, 16, 119] rfl (σ' := [(5, .int .i64 x5_x01), (6, .int .i64 x6_x01), (7, .string s7_x01), (15, .int .i64 r6.1), (16, .int .i64 r6.2), (119, .bool (r5.2 != 2))]) (h' := []) (c' := 0) (by kernel_rfl) ?_
              refine XR.done (by kernel_rfl) ?_
              show XQ _ _ _ _ _ _ _ _
              cases b8 : (r5.2 != 2 : Bool) with
              | true =>
                have h := cT b8 h
                refine XQ.cond (s := (.tmp 119)) (b := true) (by kernel_rfl) (by kernel_rfl) (fun _ => ?_) (fun q => by cases q)
                refine XQ.seq E0_ok (by kernel_rfl) ?_
                refine XQ.region (by kernel_rfl) ?_
                refine XR.run E0_ok 1 1 [4] rfl (σ' := [(4, .bool false)]) (h' := []) (c' := 0) (by kernel_rfl) ?_
                refine XR.done (by kernel_rfl) ?_
                show XQ _ _ _ _ _ _ _ _
                refine XQ.ret (by kernel_rfl) ?_
                have h := Option.some.inj h
                subst h
                exact ⟨fun i q => (by cases q), .bool false, (by kernel_rfl), rfl⟩
              | false =>
                have h := cF b8 h
                refine XQ.cond (s := (.tmp 119)) (b := false) (by kernel_rfl) (by kernel_rfl) (fun q => by cases q) (fun _ => ?_)
                refine XQ.skip (by kernel_rfl) ?_
                show XQ _ _ _ _ _ _ _ _
                refine XQ.seq E0_ok (by kernel_rfl) ?_
                refine XQ.seq E0_ok (by kernel_rfl) ?_
                refine XQ.region (by kernel_rfl) ?_
                refine XR.run E0_ok 1 3 [5, 6, 7, 15, 16, 122] rfl (σ' := [(5, .int .i64 x5_x01), (6, .int .i64 x6_x01), (7, .string s7_x01), (15, .int .i64 r6.1), (16, .int .i64 r6.2), (122, .bool (x5_x01 == 1))]) (h' := []) (c' := 0) (by kernel_rfl) ?_
                cases b9 : (x5_x01 == 1 : Bool) with
                | true =>
                  have h := cT b9 h
                  refine XR.run E0_ok 1 5 [5, 6, 7, 15, 16, 127] rfl (σ' := [(5, .int .i64 x5_x01), (6, .int .i64 x6_x01), (7, .string s7_x01), (15, .int .i64 r6.1), (16, .int .i64 r6.2), (127, .bool true)]) (h' := []) (c' := 0) (by kernel_rfl) ?_
                  refine XR.done (by kernel_rfl) ?_
                  show XQ _ _ _ _ _ _ _ _
                  refine XQ.cond (s := (.tmp 127)) (b := true) (by kernel_rfl) (by kernel_rfl) (fun _ => ?_) (fun q => by cases q)
                  refine XQ.seq E0_ok (by kernel_rfl) ?_
                  refine XQ.region (by kernel_rfl) ?_
                  refine XR.run E0_ok 1 3 [15, 130] rfl (σ' := [(15, .int .i64 r6.1), (130, .bool (r6.2 == 12))]) (h' := []) (c' := 0) (by kernel_rfl) ?_
                  cases b10 : (r6.2 == 12 : Bool) with
                  | true =>
                    have h := cT b10 h
                    refine XR.run E0_ok 1 4 [134] rfl (σ' := [(134, .bool (r6.1 == 0))]) (h' := []) (c' := 0) (by kernel_rfl) ?_
                    cases b11 : (r6.1 == 0 : Bool) with
                    | true =>
                      have h := cT b11 h
                      refine XR.call E0_ok [134, 135] rfl (K := 12) (args := []) (d := (some (path 12 135))) (by kernel_rfl) (KC.of_calls E0_ok (F := Proofs.Try.f12) (v := .bool true) (by kernel_rfl) rfl rfl (works_ok)) ?_
                      rintro _ _ _ ⟨rfl, rfl, rfl⟩
                      refine XR.conv (σ' := [(134, .bool true), (135, .bool true)]) (h' := []) (c' := 0) ?_ (by kernel_rfl)
                      refine XR.run E0_ok 1 2 [4] rfl (σ' := [(4, .bool true)]) (h' := []) (c' := 0) (by kernel_rfl) ?_
                      refine XR.done (by kernel_rfl) ?_
                      show XQ _ _ _ _ _ _ _ _
                      refine XQ.ret (by kernel_rfl) ?_
                      have h := Option.some.inj h
                      subst h
                      exact ⟨fun i q => (by cases q), .bool true, (by kernel_rfl), rfl⟩
                    | false =>
                      have h := cF b11 h
                      refine XR.run E0_ok 1 3 [4] rfl (σ' := [(4, .bool false)]) (h' := []) (c' := 0) (by kernel_rfl) ?_
                      refine XR.done (by kernel_rfl) ?_
                      show XQ _ _ _ _ _ _ _ _
                      refine XQ.ret (by kernel_rfl) ?_
                      have h := Option.some.inj h
                      subst h
                      exact ⟨fun i q => (by cases q), .bool false, (by kernel_rfl), rfl⟩
                  | false =>
                    have h := cF b10 h
                    refine XR.run E0_ok 1 7 [4] rfl (σ' := [(4, .bool false)]) (h' := []) (c' := 0) (by kernel_rfl) ?_
                    refine XR.done (by kernel_rfl) ?_
                    show XQ _ _ _ _ _ _ _ _
                    refine XQ.ret (by kernel_rfl) ?_
                    have h := Option.some.inj h
                    subst h
                    exact ⟨fun i q => (by cases q), .bool false, (by kernel_rfl), rfl⟩
                | false =>
                  have h := cF b9 h
                  refine XR.run E0_ok 1 2 [5, 6, 7, 15, 16, 122, 123, 124] rfl (σ' := [(5, .int .i64 x5_x01), (6, .int .i64 x6_x01), (7, .string s7_x01), (15, .int .i64 r6.1), (16, .int .i64 r6.2), (122, .bool false), (123, .int .i64 x5_x01), (124, .int .i64 x6_x01)]) (h' := []) (c' := 0) (by kernel_rfl) ?_
                  obtain ⟨r7, r7_h, h⟩ := bS h
                  refine XR.call E0_ok [5, 6, 7, 15, 16, 122, 125] rfl (K := 41) (args := [.int .i64 x5_x01, .int .i64 x6_x01]) (d := (some (path 12 125))) (by kernel_rfl) (KC.of_calls E0_ok (F := Proofs.Try.f41) (v := .int .i64 r7) (by kernel_rfl) rfl rfl (fun w hI => f41_ok m x5_x01 x6_x01 r7 r7_h w hI)) ?_
                  rintro _ _ _ ⟨rfl, rfl, rfl⟩
                  refine XR.conv (σ' := [(5, .int .i64 x5_x01), (6, .int .i64 x6_x01), (7, .string s7_x01), (15, .int .i64 r6.1), (16, .int .i64 r6.2), (122, .bool false), (125, .int .i64 r7)]) (h' := []) (c' := 0) ?_ (by kernel_rfl)
                  refine XR.run E0_ok 1 2 [5, 6, 7, 15, 16, 127] rfl (σ' := [(5, .int .i64 x5_x01), (6, .int .i64 x6_x01), (7, .string s7_x01), (15, .int .i64 r6.1), (16, .int .i64 r6.2), (127, .bool (decide (r7 > 1)))]) (h' := []) (c' := 0) (by kernel_rfl) ?_
                  refine XR.done (by kernel_rfl) ?_
                  show XQ _ _ _ _ _ _ _ _
                  cases b12 : (decide (r7 > 1) : Bool) with
                  | true =>
                    have h := cT b12 h
                    refine XQ.cond (s := (.tmp 127)) (b := true) (by kernel_rfl) (by kernel_rfl) (fun _ => ?_) (fun q => by cases q)
                    refine XQ.seq E0_ok (by kernel_rfl) ?_
                    refine XQ.region (by kernel_rfl) ?_
                    refine XR.run E0_ok 1 3 [15, 130] rfl (σ' := [(15, .int .i64 r6.1), (130, .bool (r6.2 == 12))]) (h' := []) (c' := 0) (by kernel_rfl) ?_
                    cases b13 : (r6.2 == 12 : Bool) with
                    | true =>
                      have h := cT b13 h
                      refine XR.run E0_ok 1 4 [134] rfl (σ' := [(134, .bool (r6.1 == 0))]) (h' := []) (c' := 0) (by kernel_rfl) ?_
                      cases b14 : (r6.1 == 0 : Bool) with
                      | true =>
                        have h := cT b14 h
                        refine XR.call E0_ok [134, 135] rfl (K := 12) (args := []) (d := (some (path 12 135))) (by kernel_rfl) (KC.of_calls E0_ok (F := Proofs.Try.f12) (v := .bool true) (by kernel_rfl) rfl rfl (works_ok)) ?_
                        rintro _ _ _ ⟨rfl, rfl, rfl⟩
                        refine XR.conv (σ' := [(134, .bool true), (135, .bool true)]) (h' := []) (c' := 0) ?_ (by kernel_rfl)
                        refine XR.run E0_ok 1 2 [4] rfl (σ' := [(4, .bool true)]) (h' := []) (c' := 0) (by kernel_rfl) ?_
                        refine XR.done (by kernel_rfl) ?_
                        show XQ _ _ _ _ _ _ _ _
                        refine XQ.ret (by kernel_rfl) ?_
                        have h := Option.some.inj h
                        subst h
                        exact ⟨fun i q => (by cases q), .bool true, (by kernel_rfl), rfl⟩
                      | false =>
                        have h := cF b14 h
                        refine XR.run E0_ok 1 3 [4] rfl (σ' := [(4, .bool false)]) (h' := []) (c' := 0) (by kernel_rfl) ?_
                        refine XR.done (by kernel_rfl) ?_
                        show XQ _ _ _ _ _ _ _ _
                        refine XQ.ret (by kernel_rfl) ?_
                        have h := Option.some.inj h
                        subst h
                        exact ⟨fun i q => (by cases q), .bool false, (by kernel_rfl), rfl⟩
                    | false =>
                      have h := cF b13 h
                      refine XR.run E0_ok 1 7 [4] rfl (σ' := [(4, .bool false)]) (h' := []) (c' := 0) (by kernel_rfl) ?_
                      refine XR.done (by kernel_rfl) ?_
                      show XQ _ _ _ _ _ _ _ _
                      refine XQ.ret (by kernel_rfl) ?_
                      have h := Option.some.inj h
                      subst h
                      exact ⟨fun i q => (by cases q), .bool false, (by kernel_rfl), rfl⟩
                  | false =>
                    have h := cF b12 h
                    refine XQ.cond (s := (.tmp 127)) (b := false) (by kernel_rfl) (by kernel_rfl) (fun q => by cases q) (fun _ => ?_)
                    refine XQ.skip (by kernel_rfl) ?_
                    show XQ _ _ _ _ _ _ _ _
                    refine XQ.seq E0_ok (by kernel_rfl) ?_
                    refine XQ.seq E0_ok (by kernel_rfl) ?_
                    refine XQ.region (by kernel_rfl) ?_
                    refine XR.run E0_ok 1 3 [5, 6, 7, 15, 139] rfl (σ' := [(5, .int .i64 x5_x01), (6, .int .i64 x6_x01), (7, .string s7_x01), (15, .int .i64 r6.1), (139, .bool (r6.2 != 0))]) (h' := []) (c' := 0) (by kernel_rfl) ?_
                    cases b15 : (r6.2 != 0 : Bool) with
                    | true =>
                      have h := cT b15 h
                      refine XR.run E0_ok 1 8 [5, 6, 7, 15, 147] rfl (σ' := [(5, .int .i64 x5_x01), (6, .int .i64 x6_x01), (7, .string s7_x01), (15, .int .i64 r6.1), (147, .bool true)]) (h' := []) (c' := 0) (by kernel_rfl) ?_
                      refine XR.done (by kernel_rfl) ?_
                      show XQ _ _ _ _ _ _ _ _
                      refine XQ.cond (s := (.tmp 147)) (b := true) (by kernel_rfl) (by kernel_rfl) (fun _ => ?_) (fun q => by cases q)
                      refine XQ.seq E0_ok (by kernel_rfl) ?_
                      refine XQ.region (by kernel_rfl) ?_
                      refine XR.run E0_ok 1 1 [4] rfl (σ' := [(4, .bool false)]) (h' := []) (c' := 0) (by kernel_rfl) ?_
                      refine XR.done (by kernel_rfl) ?_
                      show XQ _ _ _ _ _ _ _ _
                      refine XQ.ret (by kernel_rfl) ?_
                      have h := Option.some.inj h
                      subst h
                      exact ⟨fun i q => (by cases q), .bool false, (by kernel_rfl), rfl⟩
                    | false =>
                      have h := cF b15 h
                      refine XR.run E0_ok 1 4 [5, 6, 7, 15, 143] rfl (σ' := [(5, .int .i64 x5_x01), (6, .int .i64 x6_x01), (7, .string s7_x01), (15, .int .i64 r6.1), (143, .bool (decide (r6.1 < 1)))]) (h' := []) (c' := 0) (by kernel_rfl) ?_
                      cases b16 : (decide (r6.1 < 1) : Bool) with
                      | true =>
                        have h := cT b16 h
                        refine XR.run E0_ok 1 4 [5, 6, 7, 15, 147] rfl (σ' := [(5, .int .i64 x5_x01), (6, .int .i64 x6_x01), (7, .string s7_x01), (15, .int .i64 r6.1), (147, .bool true)]) (h' := []) (c' := 0) (by kernel_rfl) ?_
                        refine XR.done (by kernel_rfl) ?_
                        show XQ _ _ _ _ _ _ _ _
                        refine XQ.cond (s := (.tmp 147)) (b := true) (by kernel_rfl) (by kernel_rfl) (fun _ => ?_) (fun q => by cases q)
                        refine XQ.seq E0_ok (by kernel_rfl) ?_
                        refine XQ.region (by kernel_rfl) ?_
                        refine XR.run E0_ok 1 1 [4] rfl (σ' := [(4, .bool false)]) (h' := []) (c' := 0) (by kernel_rfl) ?_
                        refine XR.done (by kernel_rfl) ?_
                        show XQ _ _ _ _ _ _ _ _
                        refine XQ.ret (by kernel_rfl) ?_
                        have h := Option.some.inj h
                        subst h
                        exact ⟨fun i q => (by cases q), .bool false, (by kernel_rfl), rfl⟩
                      | false =>
                        have h := cF b16 h
                        refine XR.run E0_ok 1 4 [5, 6, 7, 15, 147] rfl (σ' := [(5, .int .i64 x5_x01), (6, .int .i64 x6_x01), (7, .string s7_x01), (15, .int .i64 r6.1), (147, .bool (decide (r6.1 ≥ x5_x01)))]) (h' := []) (c' := 0) (by kernel_rfl) ?_
                        refine XR.done (by kernel_rfl) ?_
                        show XQ _ _ _ _ _ _ _ _
                        cases b17 : (decide (r6.1 ≥ x5_x01) : Bool) with
                        | true =>
                          have h := cT b17 h
                          refine XQ.cond (s := (.tmp 147)) (b := true) (by kernel_rfl) (by kernel_rfl) (fun _ => ?_) (fun q => by cases q)
                          refine XQ.seq E0_ok (by kernel_rfl) ?_
                          refine XQ.region (by kernel_rfl) ?_
                          refine XR.run E0_ok 1 1 [4] rfl (σ' := [(4, .bool false)]) (h' := []) (c' := 0) (by kernel_rfl) ?_
                          refine XR.done (by kernel_rfl) ?_
                          show XQ _ _ _ _ _ _ _ _
                          refine XQ.ret (by kernel_rfl) ?_
                          have h := Option.some.inj h
                          subst h
                          exact ⟨fun i q => (by cases q), .bool false, (by kernel_rfl), rfl⟩
                        | false =>
                          have h := cF b17 h
                          refine XQ.cond (s := (.tmp 147)) (b := false) (by kernel_rfl) (by kernel_rfl) (fun q => by cases q) (fun _ => ?_)
                          refine XQ.skip (by kernel_rfl) ?_
                          show XQ _ _ _ _ _ _ _ _
                          refine XQ.seq E0_ok (by kernel_rfl) ?_
                          refine XQ.region (by kernel_rfl) ?_
                          refine XR.run E0_ok 1 2 [5, 6, 7, 15, 148, 149] rfl (σ' := [(5, .int .i64 x5_x01), (6, .int .i64 x6_x01), (7, .string s7_x01), (15, .int .i64 r6.1), (148, .string s7_x01), (149, .int .i64 r6.1)]) (h' := []) (c' := 0) (by kernel_rfl) ?_
                          cases b18 : (cutOk 0 r6.1 s7_x01.size : Bool) with
                          | false => cases (cF b18 h)
                          | true =>
                            have h := cT b18 h
                            have e19 : insV (headI ((gsOf E0 198 (opsOf (lft (rgt (rgt (rgt (rgt (rgt (rgt (rgt (rgt (rgt (rgt (rgt (rgt f9_C9))))))))))))))).drop 2) (trS 198 [(5, .int .i64 x5_x01), (6, .int .i64 x6_x01), (7, .string s7_x01), (15, .int .i64 r6.1), (148, .string s7_x01), (149, .int .i64 r6.1)])) (trS 198 [(5, .int .i64 x5_x01), (6, .int .i64 x6_x01), (7, .string s7_x01), (15, .int .i64 r6.1), (148, .string s7_x01), (149, .int .i64 r6.1)]) [] = (match (cutOk 0 r6.1 s7_x01.size : Bool) with | true => some (.string (cutT s7_x01 0 r6.1)) | false => none) := by kernel_rfl
                            refine XR.rd E0_ok [5, 6, 7, 15, 150] rfl (e19.trans (by rw [b18])) (σ' := [(5, .int .i64 x5_x01), (6, .int .i64 x6_x01), (7, .string s7_x01), (15, .int .i64 r6.1), (150, .string (cutT s7_x01 0 r6.1))]) (by kernel_rfl) ?_
                            refine XR.call E0_ok [5, 6, 7, 15, 151] rfl (K := 38) (args := [.string (cutT s7_x01 0 r6.1), .string (bs [98])]) (d := (some (path 12 151))) (by kernel_rfl) (KC.of_calls E0_ok (F := Proofs.Try.f38) (v := .int .i64 (Lib.countByte (cutT s7_x01 0 r6.1).data.toList 98)) (by kernel_rfl) rfl rfl (((strPrim_ok 38 pCount rfl).2 [.string (cutT s7_x01 0 r6.1), .string (bs [98])] (.int .i64 (Lib.countByte (cutT s7_x01 0 r6.1).data.toList 98)) rfl).2.2)) ?_
                            rintro _ _ _ ⟨rfl, rfl, rfl⟩
                            refine XR.conv (σ' := [(5, .int .i64 x5_x01), (6, .int .i64 x6_x01), (7, .string s7_x01), (15, .int .i64 r6.1), (151, .int .i64 (Lib.countByte (cutT s7_x01 0 r6.1).data.toList 98))]) (h' := []) (c' := 0) ?_ (by kernel_rfl)
                            refine XR.run E0_ok 1 1 [5, 6, 7, 15, 17] rfl (σ' := [(5, .int .i64 x5_x01), (6, .int .i64 x6_x01), (7, .string s7_x01), (15, .int .i64 r6.1), (17, .int .i64 (Lib.countByte (cutT s7_x01 0 r6.1).data.toList 98))]) (h' := []) (c' := 0) (by kernel_rfl) ?_
                            refine XR.done (by kernel_rfl) ?_
                            show XQ _ _ _ _ _ _ _ _
                            refine XQ.seq E0_ok (by kernel_rfl) ?_
                            refine XQ.region (by kernel_rfl) ?_
                            refine XR.run E0_ok 1 2 [5, 6, 7, 15, 17, 153, 154] rfl (σ' := [(5, .int .i64 x5_x01), (6, .int .i64 x6_x01), (7, .string s7_x01), (15, .int .i64 r6.1), (17, .int .i64 (Lib.countByte (cutT s7_x01 0 r6.1).data.toList 98)), (153, .int .i64 r6.1), (154, .int .i64 (Lib.countByte (cutT s7_x01 0 r6.1).data.toList 98))]) (h' := []) (c' := 0) (by kernel_rfl) ?_
                            obtain ⟨r8, r8_h, h⟩ := bS h
                            refine XR.call E0_ok [5, 6, 7, 15, 17, 155] rfl (K := 21) (args := [.int .i64 r6.1, .int .i64 (Lib.countByte (cutT s7_x01 0 r6.1).data.toList 98)]) (d := (some (path 12 155))) (by kernel_rfl) (KC.of_calls E0_ok (F := Proofs.Try.f21) (v := .tuple #[.string r8.1, .int .i64 r8.2]) (by kernel_rfl) rfl rfl (fun w hI => f21_ok m r6.1 (Lib.countByte (cutT s7_x01 0 r6.1).data.toList 98) r8 r8_h w hI)) ?_
                            rintro _ _ _ ⟨rfl, rfl, rfl⟩
                            refine XR.conv (σ' := [(5, .int .i64 x5_x01), (6, .int .i64 x6_x01), (7, .string s7_x01), (15, .int .i64 r6.1), (17, .int .i64 (Lib.countByte (cutT s7_x01 0 r6.1).data.toList 98)), (155, .tuple #[.string r8.1, .int .i64 r8.2])]) (h' := []) (c' := 0) ?_ (by kernel_rfl)
                            refine XR.run E0_ok 1 5 [5, 6, 7, 8, 15, 17, 18] rfl (σ' := [(5, .int .i64 x5_x01), (6, .int .i64 x6_x01), (7, .string s7_x01), (8, .int .i64 r8.2), (15, .int .i64 r6.1), (17, .int .i64 (Lib.countByte (cutT s7_x01 0 r6.1).data.toList 98)), (18, .string r8.1)]) (h' := []) (c' := 0) (by kernel_rfl) ?_
                            refine XR.done (by kernel_rfl) ?_
                            show XQ _ _ _ _ _ _ _ _
                            refine XQ.seq E0_ok (by kernel_rfl) ?_
                            refine XQ.region (by kernel_rfl) ?_
                            refine XR.run E0_ok 1 6 [5, 6, 7, 8, 15, 17, 18, 161, 164] rfl (σ' := [(5, .int .i64 x5_x01), (6, .int .i64 x6_x01), (7, .string s7_x01), (8, .int .i64 r8.2), (15, .int .i64 r6.1), (17, .int .i64 (Lib.countByte (cutT s7_x01 0 r6.1).data.toList 98)), (18, .string r8.1), (161, .int .i64 (w64 (x5_x01 - r6.1))), (164, .int .i64 (w64 (x6_x01 - (Lib.countByte (cutT s7_x01 0 r6.1).data.toList 98))))]) (h' := []) (c' := 0) (by kernel_rfl) ?_
                            obtain ⟨r9, r9_h, h⟩ := bS h
                            refine XR.call E0_ok [5, 6, 7, 8, 15, 17, 18, 165] rfl (K := 21) (args := [.int .i64 (w64 (x5_x01 - r6.1)), .int .i64 (w64 (x6_x01 - (Lib.countByte (cutT s7_x01 0 r6.1).data.toList 98)))]) (d := (some (path 12 165))) (by kernel_rfl) (KC.of_calls E0_ok (F := Proofs.Try.f21) (v := .tuple #[.string r9.1, .int .i64 r9.2]) (by kernel_rfl) rfl rfl (fun w hI => f21_ok m (w64 (x5_x01 - r6.1)) (w64 (x6_x01 - (Lib.countByte (cutT s7_x01 0 r6.1).data.toList 98))) r9 r9_h w hI)) ?_
                            rintro _ _ _ ⟨rfl, rfl, rfl⟩
                            refine XR.conv (σ' := [(5, .int .i64 x5_x01), (6, .int .i64 x6_x01), (7, .string s7_x01), (8, .int .i64 r8.2), (15, .int .i64 r6.1), (17, .int .i64 (Lib.countByte (cutT s7_x01 0 r6.1).data.toList 98)), (18, .string r8.1), (165, .tuple #[.string r9.1, .int .i64 r9.2])]) (h' := []) (c' := 0) ?_ (by kernel_rfl)
                            refine XR.run E0_ok 1 5 [5, 6, 7, 8, 14, 15, 17, 18, 19] rfl (σ' := [(5, .int .i64 x5_x01), (6, .int .i64 x6_x01), (7, .string s7_x01), (8, .int .i64 r8.2), (14, .int .i64 r9.2), (15, .int .i64 r6.1), (17, .int .i64 (Lib.countByte (cutT s7_x01 0 r6.1).data.toList 98)), (18, .string r8.1), (19, .string r9.1)]) (h' := []) (c' := 0) (by kernel_rfl) ?_
                            refine XR.done (by kernel_rfl) ?_
                            show XQ _ _ _ _ _ _ _ _
                            refine XQ.seq E0_ok (by kernel_rfl) ?_
                            refine XQ.region (by kernel_rfl) ?_
                            refine XR.run E0_ok 1 3 [5, 6, 7, 14, 15, 17, 18, 19, 170] rfl (σ' := [(5, .int .i64 x5_x01), (6, .int .i64 x6_x01), (7, .string s7_x01), (14, .int .i64 r9.2), (15, .int .i64 r6.1), (17, .int .i64 (Lib.countByte (cutT s7_x01 0 r6.1).data.toList 98)), (18, .string r8.1), (19, .string r9.1), (170, .bool (r8.2 == 0))]) (h' := []) (c' := 0) (by kernel_rfl) ?_
                            cases b20 : (r8.2 == 0 : Bool) with
                            | true =>
                              have h := cT b20 h
                              refine XR.run E0_ok 1 4 [5, 6, 7, 15, 17, 18, 19, 174] rfl (σ' := [(5, .int .i64 x5_x01), (6, .int .i64 x6_x01), (7, .string s7_x01), (15, .int .i64 r6.1), (17, .int .i64 (Lib.countByte (cutT s7_x01 0 r6.1).data.toList 98)), (18, .string r8.1), (19, .string r9.1), (174, .bool (r9.2 == 0))]) (h' := []) (c' := 0) (by kernel_rfl) ?_
                              cases b21 : (r9.2 == 0 : Bool) with
                              | true =>
                                have h := cT b21 h
                                refine XR.run E0_ok 1 2 [5, 6, 7, 15, 17, 174, 175, 176] rfl (σ' := [(5, .int .i64 x5_x01), (6, .int .i64 x6_x01), (7, .string s7_x01), (15, .int .i64 r6.1), (17, .int .i64 (Lib.countByte (cutT s7_x01 0 r6.1).data.toList 98)), (174, .bool true), (175, .string r8.1), (176, .string r9.1)]) (h' := []) (c' := 0) (by kernel_rfl) ?_
                                cases b22 : (Nat.ble (r8.1.size + r9.1.size) 9223372036854775807 : Bool) with
                                | false => cases (cF b22 h)
                                | true =>
                                  have h := cT b22 h
                                  have e23 : insV (headI ((gsOf E0 198 (opsOf (lft (rgt (rgt (rgt (rgt (rgt (rgt (rgt (rgt (rgt (rgt (rgt (rgt (rgt (rgt (rgt f9_C9)))))))))))))))))).drop 9) (trS 198 [(5, .int .i64 x5_x01), (6, .int .i64 x6_x01), (7, .string s7_x01), (15, .int .i64 r6.1), (17, .int .i64 (Lib.countByte (cutT s7_x01 0 r6.1).data.toList 98)), (174, .bool true), (175, .string r8.1), (176, .string r9.1)])) (trS 198 [(5, .int .i64 x5_x01), (6, .int .i64 x6_x01), (7, .string s7_x01), (15, .int .i64 r6.1), (17, .int .i64 (Lib.countByte (cutT s7_x01 0 r6.1).data.toList 98)), (174, .bool true), (175, .string r8.1), (176, .string r9.1)]) [] = (match (Nat.ble (r8.1.size + r9.1.size) 9223372036854775807 : Bool) with | true => some (.string (catS r8.1 r9.1)) | false => none) := by kernel_rfl
                                  refine XR.rd E0_ok [5, 6, 7, 15, 17, 174, 177] rfl (e23.trans (by rw [b22])) (σ' := [(5, .int .i64 x5_x01), (6, .int .i64 x6_x01), (7, .string s7_x01), (15, .int .i64 r6.1), (17, .int .i64 (Lib.countByte (cutT s7_x01 0 r6.1).data.toList 98)), (174, .bool true), (177, .string (catS r8.1 r9.1))]) (by kernel_rfl) ?_
                                  refine XR.run E0_ok 1 4 [5, 6, 15, 17, 181] rfl (σ' := [(5, .int .i64 x5_x01), (6, .int .i64 x6_x01), (15, .int .i64 r6.1), (17, .int .i64 (Lib.countByte (cutT s7_x01 0 r6.1).data.toList 98)), (181, .bool ((catS r8.1 r9.1).data.toList == s7_x01.data.toList))]) (h' := []) (c' := 0) (by kernel_rfl) ?_
                                  cases b24 : ((catS r8.1 r9.1).data.toList == s7_x01.data.toList : Bool) with
                                  | true =>
                                    have h := cT b24 h
                                    refine XR.run E0_ok 1 14 [195] rfl (σ' := [(195, .bool ((w64 ((w64 (r6.1 * (w64 (x6_x01 - (Lib.countByte (cutT s7_x01 0 r6.1).data.toList 98))))) - (w64 ((w64 (x5_x01 - r6.1)) * (Lib.countByte (cutT s7_x01 0 r6.1).data.toList 98))))) == 1))]) (h' := []) (c' := 0) (by kernel_rfl) ?_
                                    cases b25 : ((w64 ((w64 (r6.1 * (w64 (x6_x01 - (Lib.countByte (cutT s7_x01 0 r6.1).data.toList 98))))) - (w64 ((w64 (x5_x01 - r6.1)) * (Lib.countByte (cutT s7_x01 0 r6.1).data.toList 98))))) == 1 : Bool) with
                                    | true =>
                                      have h := cT b25 h
                                      refine XR.call E0_ok [195, 196] rfl (K := 12) (args := []) (d := (some (path 12 196))) (by kernel_rfl) (KC.of_calls E0_ok (F := Proofs.Try.f12) (v := .bool true) (by kernel_rfl) rfl rfl (works_ok)) ?_
                                      rintro _ _ _ ⟨rfl, rfl, rfl⟩
                                      refine XR.conv (σ' := [(195, .bool true), (196, .bool true)]) (h' := []) (c' := 0) ?_ (by kernel_rfl)
                                      refine XR.run E0_ok 1 2 [4] rfl (σ' := [(4, .bool true)]) (h' := []) (c' := 0) (by kernel_rfl) ?_
                                      refine XR.done (by kernel_rfl) ?_
                                      show XQ _ _ _ _ _ _ _ _
                                      refine XQ.ret (by kernel_rfl) ?_
                                      have h := Option.some.inj h
                                      subst h
                                      exact ⟨fun i q => (by cases q), .bool true, (by kernel_rfl), rfl⟩
                                    | false =>
                                      have h := cF b25 h
                                      refine XR.run E0_ok 1 3 [4] rfl (σ' := [(4, .bool false)]) (h' := []) (c' := 0) (by kernel_rfl) ?_
                                      refine XR.done (by kernel_rfl) ?_
                                      show XQ _ _ _ _ _ _ _ _
                                      refine XQ.ret (by kernel_rfl) ?_
                                      have h := Option.some.inj h
                                      subst h
                                      exact ⟨fun i q => (by cases q), .bool false, (by kernel_rfl), rfl⟩
                                  | false =>
                                    have h := cF b24 h
                                    refine XR.run E0_ok 1 17 [4] rfl (σ' := [(4, .bool false)]) (h' := []) (c' := 0) (by kernel_rfl) ?_
                                    refine XR.done (by kernel_rfl) ?_
                                    show XQ _ _ _ _ _ _ _ _
                                    refine XQ.ret (by kernel_rfl) ?_
                                    have h := Option.some.inj h
                                    subst h
                                    exact ⟨fun i q => (by cases q), .bool false, (by kernel_rfl), rfl⟩
                              | false =>
                                have h := cF b21 h
                                refine XR.run E0_ok 1 24 [4] rfl (σ' := [(4, .bool false)]) (h' := []) (c' := 0) (by kernel_rfl) ?_
                                refine XR.done (by kernel_rfl) ?_
                                show XQ _ _ _ _ _ _ _ _
                                refine XQ.ret (by kernel_rfl) ?_
                                have h := Option.some.inj h
                                subst h
                                exact ⟨fun i q => (by cases q), .bool false, (by kernel_rfl), rfl⟩
                            | false =>
                              have h := cF b20 h
                              refine XR.run E0_ok 1 28 [4] rfl (σ' := [(4, .bool false)]) (h' := []) (c' := 0) (by kernel_rfl) ?_
                              refine XR.done (by kernel_rfl) ?_
                              show XQ _ _ _ _ _ _ _ _
                              refine XQ.ret (by kernel_rfl) ?_
                              have h := Option.some.inj h
                              subst h
                              exact ⟨fun i q => (by cases q), .bool false, (by kernel_rfl), rfl⟩

end Go.Xm
