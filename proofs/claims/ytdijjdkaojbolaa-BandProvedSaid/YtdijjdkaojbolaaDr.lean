/- What these functions of the program compute, as functions in Lean, and the proofs that they do: vitolalaw08.BandProved. Conditions: the library's variable MaxLen holds some int. -/
import Derived.Test.YtdijjdkaojbolaaDp
import Derived.Test.YtdijjdkaojbolaaDd
import Derived.Test.YtdijjdkaojbolaaDc
namespace Go.Xm
open Go.RowKit
set_option linter.unusedVariables false
set_option linter.unusedSimpArgs false

/-! vitola/vitolalaw08.BandProved -/
noncomputable def f8_C8 : Code := Proofs.Try.f8.body.getD .skip
noncomputable def f8_L1 : Code := lft (lft (rgt (lft (rgt (rgt (rgt (rgt (rgt f8_C8))))))))
noncomputable def f8_L2 : Code := lft (lft (rgt (lft (lft (rgt f8_L1)))))
noncomputable def f8_L3 : Code := lft (lft (rgt (rgt (lft (lft (rgt (rgt f8_L2)))))))

inductive Of8_3 where
  | r
  | x4 (x8_x43 : Int) (x9_x43 : Int) (x10_x43 : Int)

def f8_3 (m : Nat) : Nat → Int → ByteArray → ByteArray → Int → Int → Int → Int → Int → Int → Option Of8_3
  | 0, _, _, _, _, _, _, _, _, _ => none
  | fuel + 1, x5_1, s6_1, s7_1, x11_1, x36_2, x8_3, x9_3, x10_3, x40_3 =>
    cond (decide (x40_3 < x5_1)) (
      cond (cutOk x36_2 (w64 (x36_2 + x11_1)) s7_1.size) (
        cond (cutOk x40_3 (w64 (x40_3 + x11_1)) s7_1.size) (
          (f17 m s6_1 x36_2 x40_3 x11_1).bind fun r29 =>
            cond (!((decide ((w64 ((Lib.countByte (cutT s7_1 x36_2 (w64 (x36_2 + x11_1))).data.toList 98) - (Lib.countByte (cutT s7_1 x40_3 (w64 (x40_3 + x11_1))).data.toList 98))) ≥ 2)) == (r29 == 0))) (
              some (.r)
            ) (
              cond (!(decide ((w64 ((Lib.countByte (cutT s7_1 x36_2 (w64 (x36_2 + x11_1))).data.toList 98) - (Lib.countByte (cutT s7_1 x40_3 (w64 (x40_3 + x11_1))).data.toList 98))) ≥ 2))) (
                cond (r29 != 14) (
                  some (.r)
                ) (
                  cond (decide ((w64 ((Lib.countByte (cutT s7_1 x36_2 (w64 (x36_2 + x11_1))).data.toList 98) - (Lib.countByte (cutT s7_1 x40_3 (w64 (x40_3 + x11_1))).data.toList 98))) ≥ 2)) (
                    f8_3 m fuel x5_1 s6_1 s7_1 x11_1 x36_2 (cond (decide (x8_3 < 0)) x36_2 x8_3) (cond (decide (x8_3 < 0)) x40_3 x9_3) (cond (decide (x8_3 < 0)) x11_1 x10_3) (w64 (x40_3 + 1))
                  ) (
                    f8_3 m fuel x5_1 s6_1 s7_1 x11_1 x36_2 x8_3 x9_3 x10_3 (w64 (x40_3 + 1))
                  )
                )
              ) (
                cond (decide ((w64 ((Lib.countByte (cutT s7_1 x36_2 (w64 (x36_2 + x11_1))).data.toList 98) - (Lib.countByte (cutT s7_1 x40_3 (w64 (x40_3 + x11_1))).data.toList 98))) ≥ 2)) (
                  f8_3 m fuel x5_1 s6_1 s7_1 x11_1 x36_2 (cond (decide (x8_3 < 0)) x36_2 x8_3) (cond (decide (x8_3 < 0)) x40_3 x9_3) (cond (decide (x8_3 < 0)) x11_1 x10_3) (w64 (x40_3 + 1))
                ) (
                  f8_3 m fuel x5_1 s6_1 s7_1 x11_1 x36_2 x8_3 x9_3 x10_3 (w64 (x40_3 + 1))
                )
              )
            )
        ) none
      ) none
    ) (
      some (.x4 x8_3 x9_3 x10_3)
    )

theorem f8_3_ok (m : Nat) : ∀ (fuel : Nat) (x5_1 : Int) (s6_1 : ByteArray) (s7_1 : ByteArray) (x11_1 : Int) (x36_2 : Int) (x8_3 : Int) (x9_3 : Int) (x10_3 : Int) (x40_3 : Int) (o : Of8_3), f8_3 m fuel x5_1 s6_1 s7_1 x11_1 x36_2 x8_3 x9_3 x10_3 x40_3 = some o → ∀ Q : QP, (match o with | .r => Q .ret [(4, .bool false)] [] 0 | .x4 x8_x43 x9_x43 x10_x43 => Q (.exit 4) [(5, .int .i64 x5_1), (6, .string s6_1), (7, .string s7_1), (8, .int .i64 x8_x43), (9, .int .i64 x9_x43), (10, .int .i64 x10_x43), (11, .int .i64 x11_1), (35, .int .i64 x5_1), (36, .int .i64 x36_2)] [] 0) → XL E0 141 0 fuel f8_L3 [(5, .int .i64 x5_1), (6, .string s6_1), (7, .string s7_1), (8, .int .i64 x8_3), (9, .int .i64 x9_3), (10, .int .i64 x10_3), (11, .int .i64 x11_1), (12, .int .i64 x36_2), (35, .int .i64 x5_1), (36, .int .i64 x36_2), (39, .int .i64 x5_1), (40, .int .i64 x40_3)] [] 0 Q
  | 0, x5_1, s6_1, s7_1, x11_1, x36_2, x8_3, x9_3, x10_3, x40_3, o, h, Q, hQ => by cases h
  | fuel + 1, x5_1, s6_1, s7_1, x11_1, x36_2, x8_3, x9_3, x10_3, x40_3, o, h, Q, hQ => by
    unfold f8_3 at h
    refine XL.succ E0_ok ?_
    refine XQ.seq E0_ok (by kernel_rfl) ?_
    refine XQ.region (by kernel_rfl) ?_
    refine XR.run E0_ok 1 1 [5, 6, 7, 8, 9, 10, 11, 12, 35, 36, 39, 40, 41] rfl (σ' := [(5, .int .i64 x5_1), (6, .string s6_1), (7, .string s7_1), (8, .int .i64 x8_3), (9, .int .i64 x9_3), (10, .int .i64 x10_3), (11, .int .i64 x11_1), (12, .int .i64 x36_2), (35, .int .i64 x5_1), (36, .int .i64 x36_2), (39, .int .i64 x5_1), (40, .int .i64 x40_3), (41, .bool (decide (x40_3 < x5_1)))]) (h' := []) (c' := 0) (by kernel_rfl) ?_
    refine XR.done (by kernel_rfl) ?_
    show XQ _ _ _ _ _ _ _ _
    refine XQ.seq E0_ok (by kernel_rfl) ?_
    cases b1 : (decide (x40_3 < x5_1) : Bool) with
    | true =>
      have h := cT b1 h
      refine XQ.cond (s := (.tmp 41)) (b := true) (by kernel_rfl) (by kernel_rfl) (fun _ => ?_) (fun q => by cases q)
      refine XQ.skip (by kernel_rfl) ?_
      show XQ _ _ _ _ _ _ _ _
      refine XQ.seq E0_ok (by kernel_rfl) ?_
      refine XQ.block (id := 5) (by kernel_rfl) ?_
      refine XQ.seq E0_ok (by kernel_rfl) ?_
      refine XQ.region (by kernel_rfl) ?_
      refine XR.run E0_ok 1 2 [5, 6, 7, 8, 9, 10, 11, 12, 13, 35, 36, 39, 40] rfl (σ' := [(5, .int .i64 x5_1), (6, .string s6_1), (7, .string s7_1), (8, .int .i64 x8_3), (9, .int .i64 x9_3), (10, .int .i64 x10_3), (11, .int .i64 x11_1), (12, .int .i64 x36_2), (13, .int .i64 x40_3), (35, .int .i64 x5_1), (36, .int .i64 x36_2), (39, .int .i64 x5_1), (40, .int .i64 x40_3)]) (h' := []) (c' := 0) (by kernel_rfl) ?_
      refine XR.done (by kernel_rfl) ?_
      show XQ _ _ _ _ _ _ _ _
      refine XQ.seq E0_ok (by kernel_rfl) ?_
      refine XQ.quiet E0_ok (by kernel_rfl) (by kernel_rfl) ?_
      refine XU.run E0_ok 1 5 [5, 6, 7, 8, 9, 10, 11, 12, 13, 35, 36, 39, 40, 43, 44, 47] rfl (σ' := [(5, .int .i64 x5_1), (6, .string s6_1), (7, .string s7_1), (8, .int .i64 x8_3), (9, .int .i64 x9_3), (10, .int .i64 x10_3), (11, .int .i64 x11_1), (12, .int .i64 x36_2), (13, .int .i64 x40_3), (35, .int .i64 x5_1), (36, .int .i64 x36_2), (39, .int .i64 x5_1), (40, .int .i64 x40_3), (43, .string s7_1), (44, .int .i64 x36_2), (47, .int .i64 (w64 (x36_2 + x11_1)))]) (by kernel_rfl) ?_
      cases b2 : (cutOk x36_2 (w64 (x36_2 + x11_1)) s7_1.size : Bool) with
      | false => cases (cF b2 h)
      | true =>
        have h := cT b2 h
        have e3 : insV (headI ((gsOf E0 141 (opsOf (lft (rgt (lft (lft (rgt (rgt f8_L3)))))))).drop 5) (trS 141 [(5, .int .i64 x5_1), (6, .string s6_1), (7, .string s7_1), (8, .int .i64 x8_3), (9, .int .i64 x9_3), (10, .int .i64 x10_3), (11, .int .i64 x11_1), (12, .int .i64 x36_2), (13, .int .i64 x40_3), (35, .int .i64 x5_1), (36, .int .i64 x36_2), (39, .int .i64 x5_1), (40, .int .i64 x40_3), (43, .string s7_1), (44, .int .i64 x36_2), (47, .int .i64 (w64 (x36_2 + x11_1)))])) (trS 141 [(5, .int .i64 x5_1), (6, .string s6_1), (7, .string s7_1), (8, .int .i64 x8_3), (9, .int .i64 x9_3), (10, .int .i64 x10_3), (11, .int .i64 x11_1), (12, .int .i64 x36_2), (13, .int .i64 x40_3), (35, .int .i64 x5_1), (36, .int .i64 x36_2), (39, .int .i64 x5_1), (40, .int .i64 x40_3), (43, .string s7_1), (44, .int .i64 x36_2), (47, .int .i64 (w64 (x36_2 + x11_1)))]) [] = (match (cutOk x36_2 (w64 (x36_2 + x11_1)) s7_1.size : Bool) with | true => some (.string (cutT s7_1 x36_2 (w64 (x36_2 + x11_1)))) | false => none) := by kernel_rfl
        refine XU.rd E0_ok [5, 6, 7, 8, 9, 10, 11, 12, 13, 35, 36, 39, 40, 48] rfl (e3.trans (by rw [b2])) (σ' := [(5, .int .i64 x5_1), (6, .string s6_1), (7, .string s7_1), (8, .int .i64 x8_3), (9, .int .i64 x9_3), (10, .int .i64 x10_3), (11, .int .i64 x11_1), (12, .int .i64 x36_2), (13, .int .i64 x40_3), (35, .int .i64 x5_1), (36, .int .i64 x36_2), (39, .int .i64 x5_1), (40, .int .i64 x40_3), (48, .string (cutT s7_1 x36_2 (w64 (x36_2 + x11_1))))]) (by kernel_rfl) ?_
        refine XU.call E0_ok [5, 6, 7, 8, 9, 10, 11, 12, 13, 35, 36, 39, 40, 49] rfl (K := 38) (F := Proofs.Try.f38) (args := [.string (cutT s7_1 x36_2 (w64 (x36_2 + x11_1))), .string (bs [98])]) (d := (some (path 12 49))) (v := .int .i64 (Lib.countByte (cutT s7_1 x36_2 (w64 (x36_2 + x11_1))).data.toList 98)) (by kernel_rfl) (by kernel_rfl) rfl rfl (((strPrim_ok 38 pCount rfl).2 [.string (cutT s7_1 x36_2 (w64 (x36_2 + x11_1))), .string (bs [98])] (.int .i64 (Lib.countByte (cutT s7_1 x36_2 (w64 (x36_2 + x11_1))).data.toList 98)) rfl).2.2) (σ' := [(5, .int .i64 x5_1), (6, .string s6_1), (7, .string s7_1), (8, .int .i64 x8_3), (9, .int .i64 x9_3), (10, .int .i64 x10_3), (11, .int .i64 x11_1), (12, .int .i64 x36_2), (13, .int .i64 x40_3), (35, .int .i64 x5_1), (36, .int .i64 x36_2), (39, .int .i64 x5_1), (40, .int .i64 x40_3), (49, .int .i64 (Lib.countByte (cutT s7_1 x36_2 (w64 (x36_2 + x11_1))).data.toList 98))]) (by kernel_rfl) ?_
        refine XU.run E0_ok 1 5 [5, 6, 7, 8, 9, 10, 11, 12, 13, 35, 36, 39, 40, 49, 50, 51, 54] rfl (σ' := [(5, .int .i64 x5_1), (6, .string s6_1), (7, .string s7_1), (8, .int .i64 x8_3), (9, .int .i64 x9_3), (10, .int .i64 x10_3), (11, .int .i64 x11_1), (12, .int .i64 x36_2), (13, .int .i64 x40_3), (35, .int .i64 x5_1), (36, .int .i64 x36_2), (39, .int .i64 x5_1), (40, .int .i64 x40_3), (49, .int .i64 (Lib.countByte (cutT s7_1 x36_2 (w64 (x36_2 + x11_1))).data.toList 98)), (50, .string s7_1), (51, .int .i64 x40_3), (54, .int .i64 (w64 (x40_3 + x11_1)))]) (by kernel_rfl) ?_
        cases b4 : (cutOk x40_3 (w64 (x40_3 + x11_1)) s7_1.size : Bool) with
        | false => cases (cF b4 h)
        | true =>
          have h := cT b4 h
          have e5 : insV (headI ((gsOf E0 141 (opsOf (lft (rgt (lft (lft (rgt (rgt f8_L3)))))))).drop 12) (trS 141 [(5, .int .i64 x5_1), (6, .string s6_1), (7, .string s7_1), (8, .int .i64 x8_3), (9, .int .i64 x9_3), (10, .int .i64 x10_3), (11, .int .i64 x11_1), (12, .int .i64 x36_2), (13, .int .i64 x40_3), (35, .int .i64 x5_1), (36, .int .i64 x36_2), (39, .int .i64 x5_1), (40, .int .i64 x40_3), (49, .int .i64 (Lib.countByte (cutT s7_1 x36_2 (w64 (x36_2 + x11_1))).data.toList 98)), (50, .string s7_1), (51, .int .i64 x40_3), (54, .int .i64 (w64 (x40_3 + x11_1)))])) (trS 141 [(5, .int .i64 x5_1), (6, .string s6_1), (7, .string s7_1), (8, .int .i64 x8_3), (9, .int .i64 x9_3), (10, .int .i64 x10_3), (11, .int .i64 x11_1), (12, .int .i64 x36_2), (13, .int .i64 x40_3), (35, .int .i64 x5_1), (36, .int .i64 x36_2), (39, .int .i64 x5_1), (40, .int .i64 x40_3), (49, .int .i64 (Lib.countByte (cutT s7_1 x36_2 (w64 (x36_2 + x11_1))).data.toList 98)), (50, .string s7_1), (51, .int .i64 x40_3), (54, .int .i64 (w64 (x40_3 + x11_1)))]) [] = (match (cutOk x40_3 (w64 (x40_3 + x11_1)) s7_1.size : Bool) with | true => some (.string (cutT s7_1 x40_3 (w64 (x40_3 + x11_1)))) | false => none) := by kernel_rfl
          refine XU.rd E0_ok [5, 6, 7, 8, 9, 10, 11, 12, 13, 35, 36, 39, 40, 49, 55] rfl (e5.trans (by rw [b4])) (σ' := [(5, .int .i64 x5_1), (6, .string s6_1), (7, .string s7_1), (8, .int .i64 x8_3), (9, .int .i64 x9_3), (10, .int .i64 x10_3), (11, .int .i64 x11_1), (12, .int .i64 x36_2), (13, .int .i64 x40_3), (35, .int .i64 x5_1), (36, .int .i64 x36_2), (39, .int .i64 x5_1), (40, .int .i64 x40_3), (49, .int .i64 (Lib.countByte (cutT s7_1 x36_2 (w64 (x36_2 + x11_1))).data.toList 98)), (55, .string (cutT s7_1 x40_3 (w64 (x40_3 + x11_1))))]) (by kernel_rfl) ?_
          refine XU.call E0_ok [5, 6, 7, 8, 9, 10, 11, 12, 13, 35, 36, 39, 40, 49, 56] rfl (K := 38) (F := Proofs.Try.f38) (args := [.string (cutT s7_1 x40_3 (w64 (x40_3 + x11_1))), .string (bs [98])]) (d := (some (path 12 56))) (v := .int .i64 (Lib.countByte (cutT s7_1 x40_3 (w64 (x40_3 + x11_1))).data.toList 98)) (by kernel_rfl) (by kernel_rfl) rfl rfl (((strPrim_ok 38 pCount rfl).2 [.string (cutT s7_1 x40_3 (w64 (x40_3 + x11_1))), .string (bs [98])] (.int .i64 (Lib.countByte (cutT s7_1 x40_3 (w64 (x40_3 + x11_1))).data.toList 98)) rfl).2.2) (σ' := [(5, .int .i64 x5_1), (6, .string s6_1), (7, .string s7_1), (8, .int .i64 x8_3), (9, .int .i64 x9_3), (10, .int .i64 x10_3), (11, .int .i64 x11_1), (12, .int .i64 x36_2), (13, .int .i64 x40_3), (35, .int .i64 x5_1), (36, .int .i64 x36_2), (39, .int .i64 x5_1), (40, .int .i64 x40_3), (49, .int .i64 (Lib.countByte (cutT s7_1 x36_2 (w64 (x36_2 + x11_1))).data.toList 98)), (56, .int .i64 (Lib.countByte (cutT s7_1 x40_3 (w64 (x40_3 + x11_1))).data.toList 98))]) (by kernel_rfl) ?_
          refine XU.run E0_ok 1 3 [5, 6, 7, 8, 9, 10, 11, 12, 13, 14, 35, 36, 39, 40] rfl (σ' := [(5, .int .i64 x5_1), (6, .string s6_1), (7, .string s7_1), (8, .int .i64 x8_3), (9, .int .i64 x9_3), (10, .int .i64 x10_3), (11, .int .i64 x11_1), (12, .int .i64 x36_2), (13, .int .i64 x40_3), (14, .bool (decide ((w64 ((Lib.countByte (cutT s7_1 x36_2 (w64 (x36_2 + x11_1))).data.toList 98) - (Lib.countByte (cutT s7_1 x40_3 (w64 (x40_3 + x11_1))).data.toList 98))) ≥ 2))), (35, .int .i64 x5_1), (36, .int .i64 x36_2), (39, .int .i64 x5_1), (40, .int .i64 x40_3)]) (by kernel_rfl) ?_
          refine XU.done (by kernel_rfl) ?_
          show XQ _ _ _ _ _ _ _ _
          refine XQ.seq E0_ok (by kernel_rfl) ?_
          refine XQ.region (by kernel_rfl) ?_
          refine XR.run E0_ok 1 4 [5, 6, 7, 8, 9, 10, 11, 12, 13, 14, 35, 36, 39, 40, 59, 60, 61, 62] rfl (σ' := [(5, .int .i64 x5_1), (6, .string s6_1), (7, .string s7_1), (8, .int .i64 x8_3), (9, .int .i64 x9_3), (10, .int .i64 x10_3), (11, .int .i64 x11_1), (12, .int .i64 x36_2), (13, .int .i64 x40_3), (14, .bool (decide ((w64 ((Lib.countByte (cutT s7_1 x36_2 (w64 (x36_2 + x11_1))).data.toList 98) - (Lib.countByte (cutT s7_1 x40_3 (w64 (x40_3 + x11_1))).data.toList 98))) ≥ 2))), (35, .int .i64 x5_1), (36, .int .i64 x36_2), (39, .int .i64 x5_1), (40, .int .i64 x40_3), (59, .string s6_1), (60, .int .i64 x36_2), (61, .int .i64 x40_3), (62, .int .i64 x11_1)]) (h' := []) (c' := 0) (by kernel_rfl) ?_
          obtain ⟨r29, r29_h, h⟩ := bS h
          refine XR.call E0_ok [5, 6, 7, 8, 9, 10, 11, 12, 13, 14, 35, 36, 39, 40, 63] rfl (K := 17) (args := [.string s6_1, .int .i64 x36_2, .int .i64 x40_3, .int .i64 x11_1]) (d := (some (path 12 63))) (by kernel_rfl) (KC.of_calls E0_ok (F := Proofs.Try.f17) (v := .int .i64 r29) (by kernel_rfl) rfl rfl (fun w hI => f17_ok m s6_1 x36_2 x40_3 x11_1 r29 r29_h w hI)) ?_
          rintro _ _ _ ⟨rfl, rfl, rfl⟩
          refine XR.conv (σ' := [(5, .int .i64 x5_1), (6, .string s6_1), (7, .string s7_1), (8, .int .i64 x8_3), (9, .int .i64 x9_3), (10, .int .i64 x10_3), (11, .int .i64 x11_1), (12, .int .i64 x36_2), (13, .int .i64 x40_3), (14, .bool (decide ((w64 ((Lib.countByte (cutT s7_1 x36_2 (w64 (x36_2 + x11_1))).data.toList 98) - (Lib.countByte (cutT s7_1 x40_3 (w64 (x40_3 + x11_1))).data.toList 98))) ≥ 2))), (35, .int .i64 x5_1), (36, .int .i64 x36_2), (39, .int .i64 x5_1), (40, .int .i64 x40_3), (63, .int .i64 r29)]) (h' := []) (c' := 0) ?_ (by kernel_rfl)
          refine XR.run E0_ok 1 1 [5, 6, 7, 8, 9, 10, 11, 12, 13, 14, 15, 35, 36, 39, 40] rfl (σ' := [(5, .int .i64 x5_1), (6, .string s6_1), (7, .string s7_1), (8, .int .i64 x8_3), (9, .int .i64 x9_3), (10, .int .i64 x10_3), (11, .int .i64 x11_1), (12, .int .i64 x36_2), (13, .int .i64 x40_3), (14, .bool (decide ((w64 ((Lib.countByte (cutT s7_1 x36_2 (w64 (x36_2 + x11_1))).data.toList 98) - (Lib.countByte (cutT s7_1 x40_3 (w64 (x40_3 + x11_1))).data.toList 98))) ≥ 2))), (15, .int .i64 r29), (35, .int .i64 x5_1), (36, .int .i64 x36_2), (39, .int .i64 x5_1), (40, .int .i64 x40_3)]) (h' := []) (c' := 0) (by kernel_rfl) ?_
          refine XR.done (by kernel_rfl) ?_
          show XQ _ _ _ _ _ _ _ _
          refine XQ.seq E0_ok (by kernel_rfl) ?_
          refine XQ.seq E0_ok (by kernel_rfl) ?_
          refine XQ.region (by kernel_rfl) ?_
          refine XR.run E0_ok 1 5 [5, 6, 7, 8, 9, 10, 11, 12, 13, 14, 15, 35, 36, 39, 40, 68] rfl (σ' := [(5, .int .i64 x5_1), (6, .string s6_1), (7, .string s7_1), (8, .int .i64 x8_3), (9, .int .i64 x9_3), (10, .int .i64 x10_3), (11, .int .i64 x11_1), (12, .int .i64 x36_2), (13, .int .i64 x40_3), (14, .bool (decide ((w64 ((Lib.countByte (cutT s7_1 x36_2 (w64 (x36_2 + x11_1))).data.toList 98) - (Lib.countByte (cutT s7_1 x40_3 (w64 (x40_3 + x11_1))).data.toList 98))) ≥ 2))), (15, .int .i64 r29), (35, .int .i64 x5_1), (36, .int .i64 x36_2), (39, .int .i64 x5_1), (40, .int .i64 x40_3), (68, .bool (!((decide ((w64 ((Lib.countByte (cutT s7_1 x36_2 (w64 (x36_2 + x11_1))).data.toList 98) - (Lib.countByte (cutT s7_1 x40_3 (w64 (x40_3 + x11_1))).data.toList 98))) ≥ 2)) == (r29 == 0))))]) (h' := []) (c' := 0) (by kernel_rfl) ?_
          cases b6 : (!((decide ((w64 ((Lib.countByte (cutT s7_1 x36_2 (w64 (x36_2 + x11_1))).data.toList 98) - (Lib.countByte (cutT s7_1 x40_3 (w64 (x40_3 + x11_1))).data.toList 98))) ≥ 2)) == (r29 == 0)) : Bool) with
          | true =>
            have h := cT b6 h
            refine XR.run E0_ok 1 7 [5, 6, 7, 8, 9, 10, 11, 12, 13, 14, 35, 36, 39, 40, 75] rfl (σ' := [(5, .int .i64 x5_1), (6, .string s6_1), (7, .string s7_1), (8, .int .i64 x8_3), (9, .int .i64 x9_3), (10, .int .i64 x10_3), (11, .int .i64 x11_1), (12, .int .i64 x36_2), (13, .int .i64 x40_3), (14, .bool (decide ((w64 ((Lib.countByte (cutT s7_1 x36_2 (w64 (x36_2 + x11_1))).data.toList 98) - (Lib.countByte (cutT s7_1 x40_3 (w64 (x40_3 + x11_1))).data.toList 98))) ≥ 2))), (35, .int .i64 x5_1), (36, .int .i64 x36_2), (39, .int .i64 x5_1), (40, .int .i64 x40_3), (75, .bool true)]) (h' := []) (c' := 0) (by kernel_rfl) ?_
            refine XR.done (by kernel_rfl) ?_
            show XQ _ _ _ _ _ _ _ _
            refine XQ.cond (s := (.tmp 75)) (b := true) (by kernel_rfl) (by kernel_rfl) (fun _ => ?_) (fun q => by cases q)
            refine XQ.seq E0_ok (by kernel_rfl) ?_
            refine XQ.region (by kernel_rfl) ?_
            refine XR.run E0_ok 1 1 [4] rfl (σ' := [(4, .bool false)]) (h' := []) (c' := 0) (by kernel_rfl) ?_
            refine XR.done (by kernel_rfl) ?_
            show XQ _ _ _ _ _ _ _ _
            refine XQ.ren (σ' := [(4, .bool false)]) (h' := []) (c' := 0) [] (by decide) rfl ⟨by kernel_rfl, trivial⟩ trivial rfl ?_
            refine XQ.ret (by kernel_rfl) ?_
            cases h
            exact hQ
          | false =>
            have h := cF b6 h
            refine XR.run E0_ok 1 3 [5, 6, 7, 8, 9, 10, 11, 12, 13, 14, 15, 35, 36, 39, 40, 68, 71] rfl (σ' := [(5, .int .i64 x5_1), (6, .string s6_1), (7, .string s7_1), (8, .int .i64 x8_3), (9, .int .i64 x9_3), (10, .int .i64 x10_3), (11, .int .i64 x11_1), (12, .int .i64 x36_2), (13, .int .i64 x40_3), (14, .bool (decide ((w64 ((Lib.countByte (cutT s7_1 x36_2 (w64 (x36_2 + x11_1))).data.toList 98) - (Lib.countByte (cutT s7_1 x40_3 (w64 (x40_3 + x11_1))).data.toList 98))) ≥ 2))), (15, .int .i64 r29), (35, .int .i64 x5_1), (36, .int .i64 x36_2), (39, .int .i64 x5_1), (40, .int .i64 x40_3), (68, .bool false), (71, .bool (!(decide ((w64 ((Lib.countByte (cutT s7_1 x36_2 (w64 (x36_2 + x11_1))).data.toList 98) - (Lib.countByte (cutT s7_1 x40_3 (w64 (x40_3 + x11_1))).data.toList 98))) ≥ 2))))]) (h' := []) (c' := 0) (by kernel_rfl) ?_
            cases b7 : (!(decide ((w64 ((Lib.countByte (cutT s7_1 x36_2 (w64 (x36_2 + x11_1))).data.toList 98) - (Lib.countByte (cutT s7_1 x40_3 (w64 (x40_3 + x11_1))).data.toList 98))) ≥ 2)) : Bool) with
            | true =>
              have h := cT b7 h
              refine XR.run E0_ok 1 4 [5, 6, 7, 8, 9, 10, 11, 12, 13, 14, 35, 36, 39, 40, 75] rfl (σ' := [(5, .int .i64 x5_1), (6, .string s6_1), (7, .string s7_1), (8, .int .i64 x8_3), (9, .int .i64 x9_3), (10, .int .i64 x10_3), (11, .int .i64 x11_1), (12, .int .i64 x36_2), (13, .int .i64 x40_3), (14, .bool (decide ((w64 ((Lib.countByte (cutT s7_1 x36_2 (w64 (x36_2 + x11_1))).data.toList 98) - (Lib.countByte (cutT s7_1 x40_3 (w64 (x40_3 + x11_1))).data.toList 98))) ≥ 2))), (35, .int .i64 x5_1), (36, .int .i64 x36_2), (39, .int .i64 x5_1), (40, .int .i64 x40_3), (75, .bool (r29 != 14))]) (h' := []) (c' := 0) (by kernel_rfl) ?_
              refine XR.done (by kernel_rfl) ?_
              show XQ _ _ _ _ _ _ _ _
              cases b8 : (r29 != 14 : Bool) with
              | true =>
                have h := cT b8 h
                refine XQ.cond (s := (.tmp 75)) (b := true) (by kernel_rfl) (by kernel_rfl) (fun _ => ?_) (fun q => by cases q)
                refine XQ.seq E0_ok (by kernel_rfl) ?_
                refine XQ.region (by kernel_rfl) ?_
                refine XR.run E0_ok 1 1 [4] rfl (σ' := [(4, .bool false)]) (h' := []) (c' := 0) (by kernel_rfl) ?_
                refine XR.done (by kernel_rfl) ?_
                show XQ _ _ _ _ _ _ _ _
                refine XQ.ren (σ' := [(4, .bool false)]) (h' := []) (c' := 0) [] (by decide) rfl ⟨by kernel_rfl, trivial⟩ trivial rfl ?_
                refine XQ.ret (by kernel_rfl) ?_
                cases h
                exact hQ
              | false =>
                have h := cF b8 h
                refine XQ.cond (s := (.tmp 75)) (b := false) (by kernel_rfl) (by kernel_rfl) (fun q => by cases q) (fun _ => ?_)
                refine XQ.skip (by kernel_rfl) ?_
                show XQ _ _ _ _ _ _ _ _
                refine XQ.seq E0_ok (by kernel_rfl) ?_
                refine XQ.region (by kernel_rfl) ?_
                refine XR.run E0_ok 1 2 [5, 6, 7, 8, 9, 10, 11, 12, 13, 35, 36, 39, 40, 77] rfl (σ' := [(5, .int .i64 x5_1), (6, .string s6_1), (7, .string s7_1), (8, .int .i64 x8_3), (9, .int .i64 x9_3), (10, .int .i64 x10_3), (11, .int .i64 x11_1), (12, .int .i64 x36_2), (13, .int .i64 x40_3), (35, .int .i64 x5_1), (36, .int .i64 x36_2), (39, .int .i64 x5_1), (40, .int .i64 x40_3), (77, .bool (decide ((w64 ((Lib.countByte (cutT s7_1 x36_2 (w64 (x36_2 + x11_1))).data.toList 98) - (Lib.countByte (cutT s7_1 x40_3 (w64 (x40_3 + x11_1))).data.toList 98))) ≥ 2)))]) (h' := []) (c' := 0) (by kernel_rfl) ?_
                cases b9 : (decide ((w64 ((Lib.countByte (cutT s7_1 x36_2 (w64 (x36_2 + x11_1))).data.toList 98) - (Lib.countByte (cutT s7_1 x40_3 (w64 (x40_3 + x11_1))).data.toList 98))) ≥ 2) : Bool) with
                | true =>
                  have h := cT b9 h
                  refine XR.run E0_ok 1 3 [5, 6, 7, 8, 9, 10, 11, 12, 13, 35, 36, 39, 40, 80] rfl (σ' := [(5, .int .i64 x5_1), (6, .string s6_1), (7, .string s7_1), (8, .int .i64 x8_3), (9, .int .i64 x9_3), (10, .int .i64 x10_3), (11, .int .i64 x11_1), (12, .int .i64 x36_2), (13, .int .i64 x40_3), (35, .int .i64 x5_1), (36, .int .i64 x36_2), (39, .int .i64 x5_1), (40, .int .i64 x40_3), (80, .bool (decide (x8_3 < 0)))]) (h' := []) (c' := 0) (by kernel_rfl) ?_
                  refine XR.done (by kernel_rfl) ?_
                  show XQ _ _ _ _ _ _ _ _
                  refine XQ.meetC (σ' := [(5, .int .i64 x5_1), (6, .string s6_1), (7, .string s7_1), (8, .int .i64 (cond (decide (x8_3 < 0)) x36_2 x8_3)), (9, .int .i64 (cond (decide (x8_3 < 0)) x40_3 x9_3)), (10, .int .i64 (cond (decide (x8_3 < 0)) x11_1 x10_3)), (11, .int .i64 x11_1), (12, .int .i64 x36_2), (35, .int .i64 x5_1), (36, .int .i64 x36_2), (39, .int .i64 x5_1), (40, .int .i64 x40_3)]) (h' := []) (c' := 0) ?_ ?_
                  rotate_left
                  · refine XQ.cond (s := (.tmp 80)) (b := decide (x8_3 < 0)) (by kernel_rfl) (by kernel_rfl) (fun b10 => ?_) (fun b10 => ?_)
                    · refine XQ.region (by kernel_rfl) ?_
                      refine XR.run E0_ok 1 6 [5, 6, 7, 8, 9, 10, 11, 12, 35, 36, 39, 40] rfl (σ' := [(5, .int .i64 x5_1), (6, .string s6_1), (7, .string s7_1), (8, .int .i64 x36_2), (9, .int .i64 x40_3), (10, .int .i64 x11_1), (11, .int .i64 x11_1), (12, .int .i64 x36_2), (35, .int .i64 x5_1), (36, .int .i64 x36_2), (39, .int .i64 x5_1), (40, .int .i64 x40_3)]) (h' := []) (c' := 0) (by kernel_rfl) ?_
                      refine XR.done (by kernel_rfl) ?_
                      refine ⟨rfl, ?_, ?_⟩
                      · try rw [b10]
                        exact ⟨by kernel_rfl, by kernel_rfl, by kernel_rfl, by kernel_rfl, by kernel_rfl, by kernel_rfl, by kernel_rfl, by kernel_rfl, by kernel_rfl, by kernel_rfl, by kernel_rfl, by kernel_rfl, trivial⟩
                      · try rw [b10]
                        kernel_rfl
                    · refine XQ.skip (by kernel_rfl) ?_
                      refine ⟨rfl, ?_, ?_⟩
                      · try rw [b10]
                        exact ⟨by kernel_rfl, by kernel_rfl, by kernel_rfl, by kernel_rfl, by kernel_rfl, by kernel_rfl, by kernel_rfl, by kernel_rfl, by kernel_rfl, by kernel_rfl, by kernel_rfl, by kernel_rfl, trivial⟩
                      · try rw [b10]
                        kernel_rfl
                  show XQ _ _ _ _ _ _ _ _
                  refine XQ.region (by kernel_rfl) ?_
                  refine XR.run E0_ok 1 2 [5, 6, 7, 8, 9, 10, 11, 12, 35, 36, 39, 40] rfl (σ' := [(5, .int .i64 x5_1), (6, .string s6_1), (7, .string s7_1), (8, .int .i64 (cond (decide (x8_3 < 0)) x36_2 x8_3)), (9, .int .i64 (cond (decide (x8_3 < 0)) x40_3 x9_3)), (10, .int .i64 (cond (decide (x8_3 < 0)) x11_1 x10_3)), (11, .int .i64 x11_1), (12, .int .i64 x36_2), (35, .int .i64 x5_1), (36, .int .i64 x36_2), (39, .int .i64 x5_1), (40, .int .i64 (w64 (x40_3 + 1)))]) (h' := []) (c' := 0) (by kernel_rfl) ?_
                  refine XR.done (by kernel_rfl) ?_
                  show XL _ _ _ _ _ _ _ _ _
                  refine XL.ren (σ' := [(5, .int .i64 x5_1), (6, .string s6_1), (7, .string s7_1), (8, .int .i64 (cond (decide (x8_3 < 0)) x36_2 x8_3)), (9, .int .i64 (cond (decide (x8_3 < 0)) x40_3 x9_3)), (10, .int .i64 (cond (decide (x8_3 < 0)) x11_1 x10_3)), (11, .int .i64 x11_1), (12, .int .i64 x36_2), (35, .int .i64 x5_1), (36, .int .i64 x36_2), (39, .int .i64 x5_1), (40, .int .i64 (w64 (x40_3 + 1)))]) (h' := []) (c' := 0) [] (by decide) rfl ⟨by kernel_rfl, by kernel_rfl, by kernel_rfl, by kernel_rfl, by kernel_rfl, by kernel_rfl, by kernel_rfl, by kernel_rfl, by kernel_rfl, by kernel_rfl, by kernel_rfl, by kernel_rfl, trivial⟩ trivial rfl ?_
                  refine XL.conv (f8_3_ok m fuel x5_1 s6_1 s7_1 x11_1 x36_2 (cond (decide (x8_3 < 0)) x36_2 x8_3) (cond (decide (x8_3 < 0)) x40_3 x9_3) (cond (decide (x8_3 < 0)) x11_1 x10_3) (w64 (x40_3 + 1)) o h Q hQ) (by first | rfl | simp)
                | false =>
                  have h := cF b9 h
                  refine XR.run E0_ok 1 3 [5, 6, 7, 8, 9, 10, 11, 12, 13, 35, 36, 39, 40, 80] rfl (σ' := [(5, .int .i64 x5_1), (6, .string s6_1), (7, .string s7_1), (8, .int .i64 x8_3), (9, .int .i64 x9_3), (10, .int .i64 x10_3), (11, .int .i64 x11_1), (12, .int .i64 x36_2), (13, .int .i64 x40_3), (35, .int .i64 x5_1), (36, .int .i64 x36_2), (39, .int .i64 x5_1), (40, .int .i64 x40_3), (80, .bool false)]) (h' := []) (c' := 0) (by kernel_rfl) ?_
                  refine XR.done (by kernel_rfl) ?_
                  show XQ _ _ _ _ _ _ _ _
                  refine XQ.cond (s := (.tmp 80)) (b := false) (by kernel_rfl) (by kernel_rfl) (fun q => by cases q) (fun _ => ?_)
                  refine XQ.skip (by kernel_rfl) ?_
                  show XQ _ _ _ _ _ _ _ _
                  refine XQ.region (by kernel_rfl) ?_
                  refine XR.run E0_ok 1 2 [5, 6, 7, 8, 9, 10, 11, 12, 35, 36, 39, 40] rfl (σ' := [(5, .int .i64 x5_1), (6, .string s6_1), (7, .string s7_1), (8, .int .i64 x8_3), (9, .int .i64 x9_3), (10, .int .i64 x10_3), (11, .int .i64 x11_1), (12, .int .i64 x36_2), (35, .int .i64 x5_1), (36, .int .i64 x36_2), (39, .int .i64 x5_1), (40, .int .i64 (w64 (x40_3 + 1)))]) (h' := []) (c' := 0) (by kernel_rfl) ?_
                  refine XR.done (by kernel_rfl) ?_
                  show XL _ _ _ _ _ _ _ _ _
                  refine XL.ren (σ' := [(5, .int .i64 x5_1), (6, .string s6_1), (7, .string s7_1), (8, .int .i64 x8_3), (9, .int .i64 x9_3), (10, .int .i64 x10_3), (11, .int .i64 x11_1), (12, .int .i64 x36_2), (35, .int .i64 x5_1), (36, .int .i64 x36_2), (39, .int .i64 x5_1), (40, .int .i64 (w64 (x40_3 + 1)))]) (h' := []) (c' := 0) [] (by decide) rfl ⟨by kernel_rfl, by kernel_rfl, by kernel_rfl, by kernel_rfl, by kernel_rfl, by kernel_rfl, by kernel_rfl, by kernel_rfl, by kernel_rfl, by kernel_rfl, by kernel_rfl, by kernel_rfl, trivial⟩ trivial rfl ?_
                  refine XL.conv (f8_3_ok m fuel x5_1 s6_1 s7_1 x11_1 x36_2 x8_3 x9_3 x10_3 (w64 (x40_3 + 1)) o h Q hQ) (by first | rfl | simp)
            | false =>
              have h := cF b7 h
              refine XR.run E0_ok 1 4 [5, 6, 7, 8, 9, 10, 11, 12, 13, 14, 35, 36, 39, 40, 75] rfl (σ' := [(5, .int .i64 x5_1), (6, .string s6_1), (7, .string s7_1), (8, .int .i64 x8_3), (9, .int .i64 x9_3), (10, .int .i64 x10_3), (11, .int .i64 x11_1), (12, .int .i64 x36_2), (13, .int .i64 x40_3), (14, .bool (decide ((w64 ((Lib.countByte (cutT s7_1 x36_2 (w64 (x36_2 + x11_1))).data.toList 98) - (Lib.countByte (cutT s7_1 x40_3 (w64 (x40_3 + x11_1))).data.toList 98))) ≥ 2))), (35, .int .i64 x5_1), (36, .int .i64 x36_2), (39, .int .i64 x5_1), (40, .int .i64 x40_3), (75, .bool false)]) (h' := []) (c' := 0) (by kernel_rfl) ?_
              refine XR.done (by kernel_rfl) ?_
              show XQ _ _ _ _ _ _ _ _
              refine XQ.cond (s := (.tmp 75)) (b := false) (by kernel_rfl) (by kernel_rfl) (fun q => by cases q) (fun _ => ?_)
              refine XQ.skip (by kernel_rfl) ?_
              show XQ _ _ _ _ _ _ _ _
              refine XQ.seq E0_ok (by kernel_rfl) ?_
              refine XQ.region (by kernel_rfl) ?_
              refine XR.run E0_ok 1 2 [5, 6, 7, 8, 9, 10, 11, 12, 13, 35, 36, 39, 40, 77] rfl (σ' := [(5, .int .i64 x5_1), (6, .string s6_1), (7, .string s7_1), (8, .int .i64 x8_3), (9, .int .i64 x9_3), (10, .int .i64 x10_3), (11, .int .i64 x11_1), (12, .int .i64 x36_2), (13, .int .i64 x40_3), (35, .int .i64 x5_1), (36, .int .i64 x36_2), (39, .int .i64 x5_1), (40, .int .i64 x40_3), (77, .bool (decide ((w64 ((Lib.countByte (cutT s7_1 x36_2 (w64 (x36_2 + x11_1))).data.toList 98) - (Lib.countByte (cutT s7_1 x40_3 (w64 (x40_3 + x11_1))).data.toList 98))) ≥ 2)))]) (h' := []) (c' := 0) (by kernel_rfl) ?_
              cases b11 : (decide ((w64 ((Lib.countByte (cutT s7_1 x36_2 (w64 (x36_2 + x11_1))).data.toList 98) - (Lib.countByte (cutT s7_1 x40_3 (w64 (x40_3 + x11_1))).data.toList 98))) ≥ 2) : Bool) with
              | true =>
                have h := cT b11 h
                refine XR.run E0_ok 1 3 [5, 6, 7, 8, 9, 10, 11, 12, 13, 35, 36, 39, 40, 80] rfl (σ' := [(5, .int .i64 x5_1), (6, .string s6_1), (7, .string s7_1), (8, .int .i64 x8_3), (9, .int .i64 x9_3), (10, .int .i64 x10_3), (11, .int .i64 x11_1), (12, .int .i64 x36_2), (13, .int .i64 x40_3), (35, .int .i64 x5_1), (36, .int .i64 x36_2), (39, .int .i64 x5_1), (40, .int .i64 x40_3), (80, .bool (decide (x8_3 < 0)))]) (h' := []) (c' := 0) (by kernel_rfl) ?_
                refine XR.done (by kernel_rfl) ?_
                show XQ _ _ _ _ _ _ _ _
                refine XQ.meetC (σ' := [(5, .int .i64 x5_1), (6, .string s6_1), (7, .string s7_1), (8, .int .i64 (cond (decide (x8_3 < 0)) x36_2 x8_3)), (9, .int .i64 (cond (decide (x8_3 < 0)) x40_3 x9_3)), (10, .int .i64 (cond (decide (x8_3 < 0)) x11_1 x10_3)), (11, .int .i64 x11_1), (12, .int .i64 x36_2), (35, .int .i64 x5_1), (36, .int .i64 x36_2), (39, .int .i64 x5_1), (40, .int .i64 x40_3)]) (h' := []) (c' := 0) ?_ ?_
                rotate_left
                · refine XQ.cond (s := (.tmp 80)) (b := decide (x8_3 < 0)) (by kernel_rfl) (by kernel_rfl) (fun b12 => ?_) (fun b12 => ?_)
                  · refine XQ.region (by kernel_rfl) ?_
                    refine XR.run E0_ok 1 6 [5, 6, 7, 8, 9, 10, 11, 12, 35, 36, 39, 40] rfl (σ' := [(5, .int .i64 x5_1), (6, .string s6_1), (7, .string s7_1), (8, .int .i64 x36_2), (9, .int .i64 x40_3), (10, .int .i64 x11_1), (11, .int .i64 x11_1), (12, .int .i64 x36_2), (35, .int .i64 x5_1), (36, .int .i64 x36_2), (39, .int .i64 x5_1), (40, .int .i64 x40_3)]) (h' := []) (c' := 0) (by kernel_rfl) ?_
                    refine XR.done (by kernel_rfl) ?_
                    refine ⟨rfl, ?_, ?_⟩
                    · try rw [b12]
                      exact ⟨by kernel_rfl, by kernel_rfl, by kernel_rfl, by kernel_rfl, by kernel_rfl, by kernel_rfl, by kernel_rfl, by kernel_rfl, by kernel_rfl, by kernel_rfl, by kernel_rfl, by kernel_rfl, trivial⟩
                    · try rw [b12]
                      kernel_rfl
                  · refine XQ.skip (by kernel_rfl) ?_
                    refine ⟨rfl, ?_, ?_⟩
                    · try rw [b12]
                      exact ⟨by kernel_rfl, by kernel_rfl, by kernel_rfl, by kernel_rfl, by kernel_rfl, by kernel_rfl, by kernel_rfl, by kernel_rfl, by kernel_rfl, by kernel_rfl, by kernel_rfl, by kernel_rfl, trivial⟩
                    · try rw [b12]
                      kernel_rfl
                show XQ _ _ _ _ _ _ _ _
                refine XQ.region (by kernel_rfl) ?_
                refine XR.run E0_ok 1 2 [5, 6, 7, 8, 9, 10, 11, 12, 35, 36, 39, 40] rfl (σ' := [(5, .int .i64 x5_1), (6, .string s6_1), (7, .string s7_1), (8, .int .i64 (cond (decide (x8_3 < 0)) x36_2 x8_3)), (9, .int .i64 (cond (decide (x8_3 < 0)) x40_3 x9_3)), (10, .int .i64 (cond (decide (x8_3 < 0)) x11_1 x10_3)), (11, .int .i64 x11_1), (12, .int .i64 x36_2), (35, .int .i64 x5_1), (36, .int .i64 x36_2), (39, .int .i64 x5_1), (40, .int .i64 (w64 (x40_3 + 1)))]) (h' := []) (c' := 0) (by kernel_rfl) ?_
                refine XR.done (by kernel_rfl) ?_
                show XL _ _ _ _ _ _ _ _ _
                refine XL.ren (σ' := [(5, .int .i64 x5_1), (6, .string s6_1), (7, .string s7_1), (8, .int .i64 (cond (decide (x8_3 < 0)) x36_2 x8_3)), (9, .int .i64 (cond (decide (x8_3 < 0)) x40_3 x9_3)), (10, .int .i64 (cond (decide (x8_3 < 0)) x11_1 x10_3)), (11, .int .i64 x11_1), (12, .int .i64 x36_2), (35, .int .i64 x5_1), (36, .int .i64 x36_2), (39, .int .i64 x5_1), (40, .int .i64 (w64 (x40_3 + 1)))]) (h' := []) (c' := 0) [] (by decide) rfl ⟨by kernel_rfl, by kernel_rfl, by kernel_rfl, by kernel_rfl, by kernel_rfl, by kernel_rfl, by kernel_rfl, by kernel_rfl, by kernel_rfl, by kernel_rfl, by kernel_rfl, by kernel_rfl, trivial⟩ trivial rfl ?_
                refine XL.conv (f8_3_ok m fuel x5_1 s6_1 s7_1 x11_1 x36_2 (cond (decide (x8_3 < 0)) x36_2 x8_3) (cond (decide (x8_3 < 0)) x40_3 x9_3) (cond (decide (x8_3 < 0)) x11_1 x10_3) (w64 (x40_3 + 1)) o h Q hQ) (by first | rfl | simp)
              | false =>
                have h := cF b11 h
                refine XR.run E0_ok 1 3 [5, 6, 7, 8, 9, 10, 11, 12, 13, 35, 36, 39, 40, 80] rfl (σ' := [(5, .int .i64 x5_1), (6, .string s6_1), (7, .string s7_1), (8, .int .i64 x8_3), (9, .int .i64 x9_3), (10, .int .i64 x10_3), (11, .int .i64 x11_1), (12, .int .i64 x36_2), (13, .int .i64 x40_3), (35, .int .i64 x5_1), (36, .int .i64 x36_2), (39, .int .i64 x5_1), (40, .int .i64 x40_3), (80, .bool false)]) (h' := []) (c' := 0) (by kernel_rfl) ?_
                refine XR.done (by kernel_rfl) ?_
                show XQ _ _ _ _ _ _ _ _
                refine XQ.cond (s := (.tmp 80)) (b := false) (by kernel_rfl) (by kernel_rfl) (fun q => by cases q) (fun _ => ?_)
                refine XQ.skip (by kernel_rfl) ?_
                show XQ _ _ _ _ _ _ _ _
                refine XQ.region (by kernel_rfl) ?_
                refine XR.run E0_ok 1 2 [5, 6, 7, 8, 9, 10, 11, 12, 35, 36, 39, 40] rfl (σ' := [(5, .int .i64 x5_1), (6, .string s6_1), (7, .string s7_1), (8, .int .i64 x8_3), (9, .int .i64 x9_3), (10, .int .i64 x10_3), (11, .int .i64 x11_1), (12, .int .i64 x36_2), (35, .int .i64 x5_1), (36, .int .i64 x36_2), (39, .int .i64 x5_1), (40, .int .i64 (w64 (x40_3 + 1)))]) (h' := []) (c' := 0) (by kernel_rfl) ?_
                refine XR.done (by kernel_rfl) ?_
                show XL _ _ _ _ _ _ _ _ _
                refine XL.ren (σ' := [(5, .int .i64 x5_1), (6, .string s6_1), (7, .string s7_1), (8, .int .i64 x8_3), (9, .int .i64 x9_3), (10, .int .i64 x10_3), (11, .int .i64 x11_1), (12, .int .i64 x36_2), (35, .int .i64 x5_1), (36, .int .i64 x36_2), (39, .int .i64 x5_1), (40, .int .i64 (w64 (x40_3 + 1)))]) (h' := []) (c' := 0) [] (by decide) rfl ⟨by kernel_rfl, by kernel_rfl, by kernel_rfl, by kernel_rfl, by kernel_rfl, by kernel_rfl, by kernel_rfl, by kernel_rfl, by kernel_rfl, by kernel_rfl, by kernel_rfl, by kernel_rfl, trivial⟩ trivial rfl ?_
                refine XL.conv (f8_3_ok m fuel x5_1 s6_1 s7_1 x11_1 x36_2 x8_3 x9_3 x10_3 (w64 (x40_3 + 1)) o h Q hQ) (by first | rfl | simp)
    | false =>
      have h := cF b1 h
      refine XQ.cond (s := (.tmp 41)) (b := false) (by kernel_rfl) (by kernel_rfl) (fun q => by cases q) (fun _ => ?_)
      refine XQ.ren (σ' := [(5, .int .i64 x5_1), (6, .string s6_1), (7, .string s7_1), (8, .int .i64 x8_3), (9, .int .i64 x9_3), (10, .int .i64 x10_3), (11, .int .i64 x11_1), (35, .int .i64 x5_1), (36, .int .i64 x36_2)]) (h' := []) (c' := 0) [] (by decide) rfl ⟨by kernel_rfl, by kernel_rfl, by kernel_rfl, by kernel_rfl, by kernel_rfl, by kernel_rfl, by kernel_rfl, by kernel_rfl, by kernel_rfl, trivial⟩ trivial rfl ?_
      refine XQ.exit (i := 4) (by kernel_rfl) ?_
      cases h
      exact hQ

inductive Of8_2 where
  | r
  | x2 (x8_x22 : Int) (x9_x22 : Int) (x10_x22 : Int)

def f8_2 (m : Nat) : Nat → Int → ByteArray → ByteArray → Int → Int → Int → Int → Int → Option Of8_2
  | 0, _, _, _, _, _, _, _, _ => none
  | fuel + 1, x5_1, s6_1, s7_1, x11_1, x8_2, x9_2, x10_2, x36_2 =>
    cond (decide (x36_2 < x5_1)) (
      (f8_3 m m x5_1 s6_1 s7_1 x11_1 x36_2 x8_2 x9_2 x10_2 0).bind fun o3 =>
        match o3 with
        | .r =>
          some (.r)
        | .x4 x8_x43 x9_x43 x10_x43 =>
          f8_2 m fuel x5_1 s6_1 s7_1 x11_1 x8_x43 x9_x43 x10_x43 (w64 (x36_2 + 1))
    ) (
      some (.x2 x8_2 x9_2 x10_2)
    )

theorem f8_2_ok (m : Nat) : ∀ (fuel : Nat) (x5_1 : Int) (s6_1 : ByteArray) (s7_1 : ByteArray) (x11_1 : Int) (x8_2 : Int) (x9_2 : Int) (x10_2 : Int) (x36_2 : Int) (o : Of8_2), f8_2 m fuel x5_1 s6_1 s7_1 x11_1 x8_2 x9_2 x10_2 x36_2 = some o → ∀ Q : QP, (match o with | .r => Q .ret [(4, .bool false)] [] 0 | .x2 x8_x22 x9_x22 x10_x22 => Q (.exit 2) [(5, .int .i64 x5_1), (6, .string s6_1), (7, .string s7_1), (8, .int .i64 x8_x22), (9, .int .i64 x9_x22), (10, .int .i64 x10_x22), (11, .int .i64 x11_1)] [] 0) → XL E0 141 0 fuel f8_L2 [(5, .int .i64 x5_1), (6, .string s6_1), (7, .string s7_1), (8, .int .i64 x8_2), (9, .int .i64 x9_2), (10, .int .i64 x10_2), (11, .int .i64 x11_1), (35, .int .i64 x5_1), (36, .int .i64 x36_2)] [] 0 Q
  | 0, x5_1, s6_1, s7_1, x11_1, x8_2, x9_2, x10_2, x36_2, o, h, Q, hQ => by cases h
  | fuel + 1, x5_1, s6_1, s7_1, x11_1, x8_2, x9_2, x10_2, x36_2, o, h, Q, hQ => by
    unfold f8_2 at h
    refine XL.succ E0_ok ?_
    refine XQ.seq E0_ok (by kernel_rfl) ?_
    refine XQ.region (by kernel_rfl) ?_
    refine XR.run E0_ok 1 1 [5, 6, 7, 8, 9, 10, 11, 35, 36, 37] rfl (σ' := [(5, .int .i64 x5_1), (6, .string s6_1), (7, .string s7_1), (8, .int .i64 x8_2), (9, .int .i64 x9_2), (10, .int .i64 x10_2), (11, .int .i64 x11_1), (35, .int .i64 x5_1), (36, .int .i64 x36_2), (37, .bool (decide (x36_2 < x5_1)))]) (h' := []) (c' := 0) (by kernel_rfl) ?_
    refine XR.done (by kernel_rfl) ?_
    show XQ _ _ _ _ _ _ _ _
    refine XQ.seq E0_ok (by kernel_rfl) ?_
    cases b1 : (decide (x36_2 < x5_1) : Bool) with
    | true =>
      have h := cT b1 h
      refine XQ.cond (s := (.tmp 37)) (b := true) (by kernel_rfl) (by kernel_rfl) (fun _ => ?_) (fun q => by cases q)
      refine XQ.skip (by kernel_rfl) ?_
      show XQ _ _ _ _ _ _ _ _
      refine XQ.seq E0_ok (by kernel_rfl) ?_
      refine XQ.block (id := 3) (by kernel_rfl) ?_
      refine XQ.seq E0_ok (by kernel_rfl) ?_
      refine XQ.region (by kernel_rfl) ?_
      refine XR.run E0_ok 1 2 [5, 6, 7, 8, 9, 10, 11, 12, 35, 36] rfl (σ' := [(5, .int .i64 x5_1), (6, .string s6_1), (7, .string s7_1), (8, .int .i64 x8_2), (9, .int .i64 x9_2), (10, .int .i64 x10_2), (11, .int .i64 x11_1), (12, .int .i64 x36_2), (35, .int .i64 x5_1), (36, .int .i64 x36_2)]) (h' := []) (c' := 0) (by kernel_rfl) ?_
      refine XR.done (by kernel_rfl) ?_
      show XQ _ _ _ _ _ _ _ _
      refine XQ.seq E0_ok (by kernel_rfl) ?_
      refine XQ.region (by kernel_rfl) ?_
      refine XR.run E0_ok 1 2 [5, 6, 7, 8, 9, 10, 11, 12, 35, 36, 39, 40] rfl (σ' := [(5, .int .i64 x5_1), (6, .string s6_1), (7, .string s7_1), (8, .int .i64 x8_2), (9, .int .i64 x9_2), (10, .int .i64 x10_2), (11, .int .i64 x11_1), (12, .int .i64 x36_2), (35, .int .i64 x5_1), (36, .int .i64 x36_2), (39, .int .i64 x5_1), (40, .int .i64 0)]) (h' := []) (c' := 0) (by kernel_rfl) ?_
      refine XR.done (by kernel_rfl) ?_
      show XQ _ _ _ _ _ _ _ _
      refine XQ.block (id := 4) (by kernel_rfl) ?_
      refine XQ.loop m (by kernel_rfl) ?_
      obtain ⟨o3, o3_h, h⟩ := bS h
      refine XL.ren (σ' := [(5, .int .i64 x5_1), (6, .string s6_1), (7, .string s7_1), (8, .int .i64 x8_2), (9, .int .i64 x9_2), (10, .int .i64 x10_2), (11, .int .i64 x11_1), (12, .int .i64 x36_2), (35, .int .i64 x5_1), (36, .int .i64 x36_2), (39, .int .i64 x5_1), (40, .int .i64 0)]) (h' := []) (c' := 0) [] (by decide) rfl ⟨by kernel_rfl, by kernel_rfl, by kernel_rfl, by kernel_rfl, by kernel_rfl, by kernel_rfl, by kernel_rfl, by kernel_rfl, by kernel_rfl, by kernel_rfl, by kernel_rfl, by kernel_rfl, trivial⟩ trivial rfl ?_
      cases o3 with
      | r =>
        dsimp only at h
        refine XL.conv (f8_3_ok m m x5_1 s6_1 s7_1 x11_1 x36_2 x8_2 x9_2 x10_2 0 (.r) o3_h _ ?_) (by first | rfl | simp)
        cases h
        exact hQ
      | x4 x8_x43 x9_x43 x10_x43 =>
        dsimp only at h
        refine XL.conv (f8_3_ok m m x5_1 s6_1 s7_1 x11_1 x36_2 x8_2 x9_2 x10_2 0 (.x4 x8_x43 x9_x43 x10_x43) o3_h _ ?_) (by first | rfl | simp)
        show XQ _ _ _ _ _ _ _ _
        refine XQ.region (by kernel_rfl) ?_
        refine XR.run E0_ok 1 2 [5, 6, 7, 8, 9, 10, 11, 35, 36] rfl (σ' := [(5, .int .i64 x5_1), (6, .string s6_1), (7, .string s7_1), (8, .int .i64 x8_x43), (9, .int .i64 x9_x43), (10, .int .i64 x10_x43), (11, .int .i64 x11_1), (35, .int .i64 x5_1), (36, .int .i64 (w64 (x36_2 + 1)))]) (h' := []) (c' := 0) (by kernel_rfl) ?_
        refine XR.done (by kernel_rfl) ?_
        show XL _ _ _ _ _ _ _ _ _
        refine XL.ren (σ' := [(5, .int .i64 x5_1), (6, .string s6_1), (7, .string s7_1), (8, .int .i64 x8_x43), (9, .int .i64 x9_x43), (10, .int .i64 x10_x43), (11, .int .i64 x11_1), (35, .int .i64 x5_1), (36, .int .i64 (w64 (x36_2 + 1)))]) (h' := []) (c' := 0) [] (by decide) rfl ⟨by kernel_rfl, by kernel_rfl, by kernel_rfl, by kernel_rfl, by kernel_rfl, by kernel_rfl, by kernel_rfl, by kernel_rfl, by kernel_rfl, trivial⟩ trivial rfl ?_
        refine XL.conv (f8_2_ok m fuel x5_1 s6_1 s7_1 x11_1 x8_x43 x9_x43 x10_x43 (w64 (x36_2 + 1)) o h Q hQ) (by first | rfl | simp)
    | false =>
      have h := cF b1 h
      refine XQ.cond (s := (.tmp 37)) (b := false) (by kernel_rfl) (by kernel_rfl) (fun q => by cases q) (fun _ => ?_)
      refine XQ.ren (σ' := [(5, .int .i64 x5_1), (6, .string s6_1), (7, .string s7_1), (8, .int .i64 x8_2), (9, .int .i64 x9_2), (10, .int .i64 x10_2), (11, .int .i64 x11_1)]) (h' := []) (c' := 0) [] (by decide) rfl ⟨by kernel_rfl, by kernel_rfl, by kernel_rfl, by kernel_rfl, by kernel_rfl, by kernel_rfl, by kernel_rfl, trivial⟩ trivial rfl ?_
      refine XQ.exit (i := 2) (by kernel_rfl) ?_
      cases h
      exact hQ

inductive Of8_1 where
  | r
  | x0 (s6_x01 : ByteArray) (x8_x01 : Int) (x9_x01 : Int) (x10_x01 : Int)

def f8_1 (m : Nat) : Nat → Int → ByteArray → ByteArray → Int → Int → Int → Int → Option Of8_1
  | 0, _, _, _, _, _, _, _ => none
  | fuel + 1, x5_1, s6_1, s7_1, x8_1, x9_1, x10_1, x11_1 =>
    cond (decide (x11_1 ≤ x5_1)) (
      (f8_2 m m x5_1 s6_1 s7_1 x11_1 x8_1 x9_1 x10_1 0).bind fun o2 =>
        match o2 with
        | .r =>
          some (.r)
        | .x2 x8_x22 x9_x22 x10_x22 =>
          f8_1 m fuel x5_1 s6_1 s7_1 x8_x22 x9_x22 x10_x22 (w64 (x11_1 + 1))
    ) (
      some (.x0 s6_1 x8_1 x9_1 x10_1)
    )

theorem f8_1_ok (m : Nat) : ∀ (fuel : Nat) (x5_1 : Int) (s6_1 : ByteArray) (s7_1 : ByteArray) (x8_1 : Int) (x9_1 : Int) (x10_1 : Int) (x11_1 : Int) (o : Of8_1), f8_1 m fuel x5_1 s6_1 s7_1 x8_1 x9_1 x10_1 x11_1 = some o → ∀ Q : QP, (match o with | .r => Q .ret [(4, .bool false)] [] 0 | .x0 s6_x01 x8_x01 x9_x01 x10_x01 => Q (.exit 0) [(6, .string s6_x01), (8, .int .i64 x8_x01), (9, .int .i64 x9_x01), (10, .int .i64 x10_x01)] [] 0) → XL E0 141 0 fuel f8_L1 [(5, .int .i64 x5_1), (6, .string s6_1), (7, .string s7_1), (8, .int .i64 x8_1), (9, .int .i64 x9_1), (10, .int .i64 x10_1), (11, .int .i64 x11_1)] [] 0 Q
  | 0, x5_1, s6_1, s7_1, x8_1, x9_1, x10_1, x11_1, o, h, Q, hQ => by cases h
  | fuel + 1, x5_1, s6_1, s7_1, x8_1, x9_1, x10_1, x11_1, o, h, Q, hQ => by
    unfold f8_1 at h
    refine XL.succ E0_ok ?_
    refine XQ.seq E0_ok (by kernel_rfl) ?_
    refine XQ.seq E0_ok (by kernel_rfl) ?_
    refine XQ.region (by kernel_rfl) ?_
    refine XR.run E0_ok 1 3 [5, 6, 7, 8, 9, 10, 11, 32] rfl (σ' := [(5, .int .i64 x5_1), (6, .string s6_1), (7, .string s7_1), (8, .int .i64 x8_1), (9, .int .i64 x9_1), (10, .int .i64 x10_1), (11, .int .i64 x11_1), (32, .bool (decide (x11_1 ≤ x5_1)))]) (h' := []) (c' := 0) (by kernel_rfl) ?_
    refine XR.done (by kernel_rfl) ?_
    show XQ _ _ _ _ _ _ _ _
    cases b1 : (decide (x11_1 ≤ x5_1) : Bool) with
    | true =>
      have h := cT b1 h
      refine XQ.cond (s := (.tmp 32)) (b := true) (by kernel_rfl) (by kernel_rfl) (fun _ => ?_) (fun q => by cases q)
      refine XQ.skip (by kernel_rfl) ?_
      show XQ _ _ _ _ _ _ _ _
      refine XQ.seq E0_ok (by kernel_rfl) ?_
      refine XQ.block (id := 1) (by kernel_rfl) ?_
      refine XQ.seq E0_ok (by kernel_rfl) ?_
      refine XQ.region (by kernel_rfl) ?_
      refine XR.run E0_ok 1 2 [5, 6, 7, 8, 9, 10, 11, 35, 36] rfl (σ' := [(5, .int .i64 x5_1), (6, .string s6_1), (7, .string s7_1), (8, .int .i64 x8_1), (9, .int .i64 x9_1), (10, .int .i64 x10_1), (11, .int .i64 x11_1), (35, .int .i64 x5_1), (36, .int .i64 0)]) (h' := []) (c' := 0) (by kernel_rfl) ?_
      refine XR.done (by kernel_rfl) ?_
      show XQ _ _ _ _ _ _ _ _
      refine XQ.block (id := 2) (by kernel_rfl) ?_
      refine XQ.loop m (by kernel_rfl) ?_
      obtain ⟨o2, o2_h, h⟩ := bS h
      refine XL.ren (σ' := [(5, .int .i64 x5_1), (6, .string s6_1), (7, .string s7_1), (8, .int .i64 x8_1), (9, .int .i64 x9_1), (10, .int .i64 x10_1), (11, .int .i64 x11_1), (35, .int .i64 x5_1), (36, .int .i64 0)]) (h' := []) (c' := 0) [] (by decide) rfl ⟨by kernel_rfl, by kernel_rfl, by kernel_rfl, by kernel_rfl, by kernel_rfl, by kernel_rfl, by kernel_rfl, by kernel_rfl, by kernel_rfl, trivial⟩ trivial rfl ?_
      cases o2 with
      | r =>
        dsimp only at h
        refine XL.conv (f8_2_ok m m x5_1 s6_1 s7_1 x11_1 x8_1 x9_1 x10_1 0 (.r) o2_h _ ?_) (by first | rfl | simp)
        cases h
        exact hQ
      | x2 x8_x22 x9_x22 x10_x22 =>
        dsimp only at h
        refine XL.conv (f8_2_ok m m x5_1 s6_1 s7_1 x11_1 x8_1 x9_1 x10_1 0 (.x2 x8_x22 x9_x22 x10_x22) o2_h _ ?_) (by first | rfl | simp)
        show XQ _ _ _ _ _ _ _ _
        refine XQ.region (by kernel_rfl) ?_
        refine XR.run E0_ok 1 3 [5, 6, 7, 8, 9, 10, 11] rfl (σ' := [(5, .int .i64 x5_1), (6, .string s6_1), (7, .string s7_1), (8, .int .i64 x8_x22), (9, .int .i64 x9_x22), (10, .int .i64 x10_x22), (11, .int .i64 (w64 (x11_1 + 1)))]) (h' := []) (c' := 0) (by kernel_rfl) ?_
        refine XR.done (by kernel_rfl) ?_
        show XL _ _ _ _ _ _ _ _ _
        refine XL.ren (σ' := [(5, .int .i64 x5_1), (6, .string s6_1), (7, .string s7_1), (8, .int .i64 x8_x22), (9, .int .i64 x9_x22), (10, .int .i64 x10_x22), (11, .int .i64 (w64 (x11_1 + 1)))]) (h' := []) (c' := 0) [] (by decide) rfl ⟨by kernel_rfl, by kernel_rfl, by kernel_rfl, by kernel_rfl, by kernel_rfl, by kernel_rfl, by kernel_rfl, trivial⟩ trivial rfl ?_
        refine XL.conv (f8_1_ok m fuel x5_1 s6_1 s7_1 x8_x22 x9_x22 x10_x22 (w64 (x11_1 + 1)) o h Q hQ) (by first | rfl | simp)
    | false =>
      have h := cF b1 h
      refine XQ.cond (s := (.tmp 32)) (b := false) (by kernel_rfl) (by kernel_rfl) (fun q => by cases q) (fun _ => ?_)
      refine XQ.ren (σ' := [(6, .string s6_1), (8, .int .i64 x8_1), (9, .int .i64 x9_1), (10, .int .i64 x10_1)]) (h' := []) (c' := 0) [] (by decide) rfl ⟨by kernel_rfl, by kernel_rfl, by kernel_rfl, by kernel_rfl, trivial⟩ trivial rfl ?_
      refine XQ.exit (i := 0) (by kernel_rfl) ?_
      cases h
      exact hQ

def f8 (m : Nat) (a : Int) (b : Int) : Option (Bool) :=
  (f37 m (w64 (1 + (Int.tmod (w64 a) 12))) b).bind fun r1 =>
    cond (Nat.ble (r1.size + r1.size) 9223372036854775807) (
      (f8_1 m m (w64 (1 + (Int.tmod (w64 a) 12))) r1 (catS r1 r1) (-1) 0 0 1).bind fun o1 =>
        match o1 with
        | .r =>
          some (false)
        | .x0 s6_x01 x8_x01 x9_x01 x10_x01 =>
          (f15 m s6_x01).bind fun r30 =>
            cond (decide (x8_x01 < 0)) (
              cond (r30.2.2.2 == 13) (
                cond (r30.1 == 0) (
                  cond (r30.2.1 == 0) (
                    cond (r30.2.2.1 == 0) (
                      (f39 m s6_x01).bind fun r32 =>
                        cond (r32) (
                          some (true)
                        ) (
                          some (false)
                        )
                    ) (
                      some (false)
                    )
                  ) (
                    some (false)
                  )
                ) (
                  some (false)
                )
              ) (
                some (false)
              )
            ) (
              cond (r30.2.2.2 == 0) (
                cond (r30.1 == x8_x01) (
                  cond (r30.2.1 == x9_x01) (
                    cond (r30.2.2.1 == x10_x01) (
                      (f39 m s6_x01).bind fun r33 =>
                        cond (!r33) (
                          some (true)
                        ) (
                          some (false)
                        )
                    ) (
                      some (false)
                    )
                  ) (
                    some (false)
                  )
                ) (
                  some (false)
                )
              ) (
                some (false)
              )
            )
    ) none

theorem f8_ok (m : Nat) (a : Int) (b : Int) (o : Bool) (h : f8 m a b = some o) (w : World) (hI : maxInv w) : Calls Proofs.Try.prog 8 #[.int .u8 a, .int .u16 b] w fun e w' => e = .returned (.bool o) ∧ Below w.heap.size w w' := by
  refine KC.calls (E := E0) (args := [.int .u8 a, .int .u16 b]) (v := .bool o) rfl rfl (KC.bodyN E0_ok (F := Proofs.Try.f8) (by kernel_rfl) (code := f8_C8) (by kernel_rfl) (nt := 141) (by kernel_rfl) (rs := [.tmp 4]) (by kernel_rfl) (by kernel_rfl) (σ := [(0, .int .u8 a), (1, .int .u16 b)]) (by kernel_rfl) ?_) w (maxInv_size hI) hI
  unfold f8 at h
  refine XQ.seq E0_ok (by kernel_rfl) ?_
  refine XQ.region (by kernel_rfl) ?_
  refine XR.run E0_ok 1 1 [0, 1] rfl (σ' := [(0, .int .u8 a), (1, .int .u16 b)]) (h' := []) (c' := 0) (by kernel_rfl) ?_
  refine XR.done (by kernel_rfl) ?_
  show XQ _ _ _ _ _ _ _ _
  refine XQ.seq E0_ok (by kernel_rfl) ?_
  refine XQ.region (by kernel_rfl) ?_
  refine XR.run E0_ok 1 5 [1, 5] rfl (σ' := [(1, .int .u16 b), (5, .int .i64 (w64 (1 + (Int.tmod (w64 a) 12))))]) (h' := []) (c' := 0) (by kernel_rfl) ?_
  refine XR.done (by kernel_rfl) ?_
  show XQ _ _ _ _ _ _ _ _
  refine XQ.seq E0_ok (by kernel_rfl) ?_
  refine XQ.region (by kernel_rfl) ?_
  refine XR.run E0_ok 1 2 [5, 24, 25] rfl (σ' := [(5, .int .i64 (w64 (1 + (Int.tmod (w64 a) 12)))), (24, .int .i64 (w64 (1 + (Int.tmod (w64 a) 12)))), (25, .int .u16 b)]) (h' := []) (c' := 0) (by kernel_rfl) ?_
  obtain ⟨r1, r1_h, h⟩ := bS h
  refine XR.call E0_ok [5, 26] rfl (K := 37) (args := [.int .i64 (w64 (1 + (Int.tmod (w64 a) 12))), .int .u16 b]) (d := (some (path 12 26))) (by kernel_rfl) (KC.of_calls E0_ok (F := Proofs.Try.f37) (v := .string r1) (by kernel_rfl) rfl rfl (fun w hI => f37_ok m (w64 (1 + (Int.tmod (w64 a) 12))) b r1 r1_h w hI)) ?_
  rintro _ _ _ ⟨rfl, rfl, rfl⟩
  refine XR.conv (σ' := [(5, .int .i64 (w64 (1 + (Int.tmod (w64 a) 12)))), (26, .string r1)]) (h' := []) (c' := 0) ?_ (by kernel_rfl)
  refine XR.run E0_ok 1 1 [5, 6] rfl (σ' := [(5, .int .i64 (w64 (1 + (Int.tmod (w64 a) 12)))), (6, .string r1)]) (h' := []) (c' := 0) (by kernel_rfl) ?_
  refine XR.done (by kernel_rfl) ?_
  show XQ _ _ _ _ _ _ _ _
  refine XQ.seq E0_ok (by kernel_rfl) ?_
  refine XQ.region (by kernel_rfl) ?_
  refine XR.run E0_ok 1 2 [5, 6, 27, 28] rfl (σ' := [(5, .int .i64 (w64 (1 + (Int.tmod (w64 a) 12)))), (6, .string r1), (27, .string r1), (28, .string r1)]) (h' := []) (c' := 0) (by kernel_rfl) ?_
  cases b1 : (Nat.ble (r1.size + r1.size) 9223372036854775807 : Bool) with
  | false => cases (cF b1 h)
  | true =>
    have h := cT b1 h
    have e2 : insV (headI ((gsOf E0 141 (opsOf (lft (rgt (rgt (rgt f8_C8)))))).drop 2) (trS 141 [(5, .int .i64 (w64 (1 + (Int.tmod (w64 a) 12)))), (6, .string r1), (27, .string r1), (28, .string r1)])) (trS 141 [(5, .int .i64 (w64 (1 + (Int.tmod (w64 a) 12)))), (6, .string r1), (27, .string r1), (28, .string r1)]) [] = (match (Nat.ble (r1.size + r1.size) 9223372036854775807 : Bool) with | true => some (.string (catS r1 r1)) | false => none) := by kernel_rfl
    refine XR.rd E0_ok [5, 6, 29] rfl (e2.trans (by rw [b1])) (σ' := [(5, .int .i64 (w64 (1 + (Int.tmod (w64 a) 12)))), (6, .string r1), (29, .string (catS r1 r1))]) (by kernel_rfl) ?_
    refine XR.run E0_ok 1 1 [5, 6, 7] rfl (σ' := [(5, .int .i64 (w64 (1 + (Int.tmod (w64 a) 12)))), (6, .string r1), (7, .string (catS r1 r1))]) (h' := []) (c' := 0) (by kernel_rfl) ?_
    refine XR.done (by kernel_rfl) ?_
    show XQ _ _ _ _ _ _ _ _
    refine XQ.seq E0_ok (by kernel_rfl) ?_
    refine XQ.region (by kernel_rfl) ?_
    refine XR.run E0_ok 1 3 [5, 6, 7, 8, 9, 10] rfl (σ' := [(5, .int .i64 (w64 (1 + (Int.tmod (w64 a) 12)))), (6, .string r1), (7, .string (catS r1 r1)), (8, .int .i64 (-1)), (9, .int .i64 0), (10, .int .i64 0)]) (h' := []) (c' := 0) (by kernel_rfl) ?_
    refine XR.done (by kernel_rfl) ?_
    show XQ _ _ _ _ _ _ _ _
    refine XQ.seq E0_ok (by kernel_rfl) ?_
    refine XQ.seq E0_ok (by kernel_rfl) ?_
    refine XQ.region (by kernel_rfl) ?_
    refine XR.run E0_ok 1 1 [5, 6, 7, 8, 9, 10, 11] rfl (σ' := [(5, .int .i64 (w64 (1 + (Int.tmod (w64 a) 12)))), (6, .string r1), (7, .string (catS r1 r1)), (8, .int .i64 (-1)), (9, .int .i64 0), (10, .int .i64 0), (11, .int .i64 1)]) (h' := []) (c' := 0) (by kernel_rfl) ?_
    refine XR.done (by kernel_rfl) ?_
    show XQ _ _ _ _ _ _ _ _
    refine XQ.block (id := 0) (by kernel_rfl) ?_
    refine XQ.loop m (by kernel_rfl) ?_
    obtain ⟨o1, o1_h, h⟩ := bS h
    refine XL.ren (σ' := [(5, .int .i64 (w64 (1 + (Int.tmod (w64 a) 12)))), (6, .string r1), (7, .string (catS r1 r1)), (8, .int .i64 (-1)), (9, .int .i64 0), (10, .int .i64 0), (11, .int .i64 1)]) (h' := []) (c' := 0) [] (by decide) rfl ⟨by kernel_rfl, by kernel_rfl, by kernel_rfl, by kernel_rfl, by kernel_rfl, by kernel_rfl, by kernel_rfl, trivial⟩ trivial rfl ?_
    cases o1 with
    | r =>
      dsimp only at h
      refine XL.conv (f8_1_ok m m (w64 (1 + (Int.tmod (w64 a) 12))) r1 (catS r1 r1) (-1) 0 0 1 (.r) o1_h _ ?_) (by first | rfl | simp)
      have h := Option.some.inj h
      subst h
      exact ⟨fun i q => (by cases q), .bool false, (by kernel_rfl), rfl⟩
    | x0 s6_x01 x8_x01 x9_x01 x10_x01 =>
      dsimp only at h
      refine XL.conv (f8_1_ok m m (w64 (1 + (Int.tmod (w64 a) 12))) r1 (catS r1 r1) (-1) 0 0 1 (.x0 s6_x01 x8_x01 x9_x01 x10_x01) o1_h _ ?_) (by first | rfl | simp)
      show XQ _ _ _ _ _ _ _ _
      refine XQ.seq E0_ok (by kernel_rfl) ?_
      refine XQ.region (by kernel_rfl) ?_
      refine XR.run E0_ok 1 1 [6, 8, 9, 10, 87] rfl (σ' := [(6, .string s6_x01), (8, .int .i64 x8_x01), (9, .int .i64 x9_x01), (10, .int .i64 x10_x01), (87, .string s6_x01)]) (h' := []) (c' := 0) (by kernel_rfl) ?_
      obtain ⟨r30, r30_h, h⟩ := bS h
      refine XR.call E0_ok [6, 8, 9, 10, 88] rfl (K := 15) (args := [.string s6_x01]) (d := (some (path 12 88))) (by kernel_rfl) (KC.of_calls E0_ok (F := Proofs.Try.f15) (v := .tuple #[.int .i64 r30.1, .int .i64 r30.2.1, .int .i64 r30.2.2.1, .int .i64 r30.2.2.2]) (by kernel_rfl) rfl rfl (fun w hI => f15_ok m s6_x01 r30 r30_h w hI)) ?_
      rintro _ _ _ ⟨rfl, rfl, rfl⟩
      refine XR.conv (σ' := [(6, .string s6_x01), (8, .int .i64 x8_x01), (9, .int .i64 x9_x01), (10, .int .i64 x10_x01), (88, .tuple #[.int .i64 r30.1, .int .i64 r30.2.1, .int .i64 r30.2.2.1, .int .i64 r30.2.2.2])]) (h' := []) (c' := 0) ?_ (by kernel_rfl)
      refine XR.run E0_ok 1 9 [6, 8, 9, 10, 16, 17, 18, 19] rfl (σ' := [(6, .string s6_x01), (8, .int .i64 x8_x01), (9, .int .i64 x9_x01), (10, .int .i64 x10_x01), (16, .int .i64 r30.1), (17, .int .i64 r30.2.1), (18, .int .i64 r30.2.2.1), (19, .int .i64 r30.2.2.2)]) (h' := []) (c' := 0) (by kernel_rfl) ?_
      refine XR.done (by kernel_rfl) ?_
      show XQ _ _ _ _ _ _ _ _
      refine XQ.seq E0_ok (by kernel_rfl) ?_
      refine XQ.seq E0_ok (by kernel_rfl) ?_
      refine XQ.region (by kernel_rfl) ?_
      refine XR.run E0_ok 1 2 [6, 8, 9, 10, 16, 17, 18, 19, 94] rfl (σ' := [(6, .string s6_x01), (8, .int .i64 x8_x01), (9, .int .i64 x9_x01), (10, .int .i64 x10_x01), (16, .int .i64 r30.1), (17, .int .i64 r30.2.1), (18, .int .i64 r30.2.2.1), (19, .int .i64 r30.2.2.2), (94, .bool (decide (x8_x01 < 0)))]) (h' := []) (c' := 0) (by kernel_rfl) ?_
      refine XR.done (by kernel_rfl) ?_
      show XQ _ _ _ _ _ _ _ _
      cases b4 : (decide (x8_x01 < 0) : Bool) with
      | true =>
        have h := cT b4 h
        refine XQ.cond (s := (.tmp 94)) (b := true) (by kernel_rfl) (by kernel_rfl) (fun _ => ?_) (fun q => by cases q)
        refine XQ.seq E0_ok (by kernel_rfl) ?_
        refine XQ.region (by kernel_rfl) ?_
        refine XR.run E0_ok 1 3 [6, 16, 17, 18, 97] rfl (σ' := [(6, .string s6_x01), (16, .int .i64 r30.1), (17, .int .i64 r30.2.1), (18, .int .i64 r30.2.2.1), (97, .bool (r30.2.2.2 == 13))]) (h' := []) (c' := 0) (by kernel_rfl) ?_
        cases b5 : (r30.2.2.2 == 13 : Bool) with
        | true =>
          have h := cT b5 h
          refine XR.run E0_ok 1 4 [6, 17, 18, 101] rfl (σ' := [(6, .string s6_x01), (17, .int .i64 r30.2.1), (18, .int .i64 r30.2.2.1), (101, .bool (r30.1 == 0))]) (h' := []) (c' := 0) (by kernel_rfl) ?_
          cases b6 : (r30.1 == 0 : Bool) with
          | true =>
            have h := cT b6 h
            refine XR.run E0_ok 1 4 [6, 18, 105] rfl (σ' := [(6, .string s6_x01), (18, .int .i64 r30.2.2.1), (105, .bool (r30.2.1 == 0))]) (h' := []) (c' := 0) (by kernel_rfl) ?_
            cases b7 : (r30.2.1 == 0 : Bool) with
            | true =>
              have h := cT b7 h
              refine XR.run E0_ok 1 4 [6, 109] rfl (σ' := [(6, .string s6_x01), (109, .bool (r30.2.2.1 == 0))]) (h' := []) (c' := 0) (by kernel_rfl) ?_
              cases b8 : (r30.2.2.1 == 0 : Bool) with
              | true =>
                have h := cT b8 h
                refine XR.run E0_ok 1 1 [109, 110] rfl (σ' := [(109, .bool true), (110, .string s6_x01)]) (h' := []) (c' := 0) (by kernel_rfl) ?_
                obtain ⟨r32, r32_h, h⟩ := bS h
                refine XR.call E0_ok [109, 111] rfl (K := 39) (args := [.string s6_x01]) (d := (some (path 12 111))) (by kernel_rfl) (KC.of_calls E0_ok (F := Proofs.Try.f39) (v := .bool r32) (by kernel_rfl) rfl rfl (fun w hI => f39_ok m s6_x01 r32 r32_h w hI)) ?_
                rintro _ _ _ ⟨rfl, rfl, rfl⟩
                refine XR.conv (σ' := [(109, .bool true), (111, .bool r32)]) (h' := []) (c' := 0) ?_ (by kernel_rfl)
                refine XR.run E0_ok 1 2 [113] rfl (σ' := [(113, .bool r32)]) (h' := []) (c' := 0) (by kernel_rfl) ?_
                cases b9 : (r32 : Bool) with
                | true =>
                  have h := cT b9 h
                  refine XR.call E0_ok [113, 114] rfl (K := 12) (args := []) (d := (some (path 12 114))) (by kernel_rfl) (KC.of_calls E0_ok (F := Proofs.Try.f12) (v := .bool true) (by kernel_rfl) rfl rfl (works_ok)) ?_
                  rintro _ _ _ ⟨rfl, rfl, rfl⟩
                  refine XR.conv (σ' := [(113, .bool true), (114, .bool true)]) (h' := []) (c' := 0) ?_ (by kernel_rfl)
                  refine XR.run E0_ok 1 2 [4] rfl (σ' := [(4, .bool true)]) (h' := []) (c' := 0) (by kernel_rfl) ?_
                  refine XR.done (by kernel_rfl) ?_
                  show XQ _ _ _ _ _ _ _ _
                  refine XQ.ret (by kernel_rfl) ?_
                  have h := Option.some.inj h
                  subst h
                  exact ⟨fun i q => (by cases q), .bool true, (by kernel_rfl), rfl⟩
                | false =>
                  have h := cF b9 h
                  refine XR.run E0_ok 1 3 [4] rfl (σ' := [(4, .bool false)]) (h' := []) (c' := 0) (by kernel_rfl) ?_
                  refine XR.done (by kernel_rfl) ?_
                  show XQ _ _ _ _ _ _ _ _
                  refine XQ.ret (by kernel_rfl) ?_
                  have h := Option.some.inj h
                  subst h
                  exact ⟨fun i q => (by cases q), .bool false, (by kernel_rfl), rfl⟩
              | false =>
                have h := cF b8 h
                refine XR.run E0_ok 1 7 [4] rfl (σ' := [(4, .bool false)]) (h' := []) (c' := 0) (by kernel_rfl) ?_
                refine XR.done (by kernel_rfl) ?_
                show XQ _ _ _ _ _ _ _ _
                refine XQ.ret (by kernel_rfl) ?_
                have h := Option.some.inj h
                subst h
                exact ⟨fun i q => (by cases q), .bool false, (by kernel_rfl), rfl⟩
            | false =>
              have h := cF b7 h
              refine XR.run E0_ok 1 11 [4] rfl (σ' := [(4, .bool false)]) (h' := []) (c' := 0) (by kernel_rfl) ?_
              refine XR.done (by kernel_rfl) ?_
              show XQ _ _ _ _ _ _ _ _
              refine XQ.ret (by kernel_rfl) ?_
              have h := Option.some.inj h
              subst h
              exact ⟨fun i q => (by cases q), .bool false, (by kernel_rfl), rfl⟩
          | false =>
            have h := cF b6 h
            refine XR.run E0_ok 1 15 [4] rfl (σ' := [(4, .bool false)]) (h' := []) (c' := 0) (by kernel_rfl) ?_
            refine XR.done (by kernel_rfl) ?_
            show XQ _ _ _ _ _ _ _ _
            refine XQ.ret (by kernel_rfl) ?_
            have h := Option.some.inj h
            subst h
            exact ⟨fun i q => (by cases q), .bool false, (by kernel_rfl), rfl⟩
        | false =>
          have h := cF b5 h
          refine XR.run E0_ok 1 19 [4] rfl (σ' := [(4, .bool false)]) (h' := []) (c' := 0) (by kernel_rfl) ?_
          refine XR.done (by kernel_rfl) ?_
          show XQ _ _ _ _ _ _ _ _
          refine XQ.ret (by kernel_rfl) ?_
          have h := Option.some.inj h
          subst h
          exact ⟨fun i q => (by cases q), .bool false, (by kernel_rfl), rfl⟩
      | false =>
        have h := cF b4 h
        refine XQ.cond (s := (.tmp 94)) (b := false) (by kernel_rfl) (by kernel_rfl) (fun q => by cases q) (fun _ => ?_)
        refine XQ.skip (by kernel_rfl) ?_
        show XQ _ _ _ _ _ _ _ _
        refine XQ.seq E0_ok (by kernel_rfl) ?_
        refine XQ.region (by kernel_rfl) ?_
        refine XR.run E0_ok 1 3 [6, 8, 9, 10, 16, 17, 18, 118] rfl (σ' := [(6, .string s6_x01), (8, .int .i64 x8_x01), (9, .int .i64 x9_x01), (10, .int .i64 x10_x01), (16, .int .i64 r30.1), (17, .int .i64 r30.2.1), (18, .int .i64 r30.2.2.1), (118, .bool (r30.2.2.2 == 0))]) (h' := []) (c' := 0) (by kernel_rfl) ?_
        cases b10 : (r30.2.2.2 == 0 : Bool) with
        | true =>
          have h := cT b10 h
          refine XR.run E0_ok 1 5 [6, 9, 10, 17, 18, 123] rfl (σ' := [(6, .string s6_x01), (9, .int .i64 x9_x01), (10, .int .i64 x10_x01), (17, .int .i64 r30.2.1), (18, .int .i64 r30.2.2.1), (123, .bool (r30.1 == x8_x01))]) (h' := []) (c' := 0) (by kernel_rfl) ?_
          cases b11 : (r30.1 == x8_x01 : Bool) with
          | true =>
            have h := cT b11 h
            refine XR.run E0_ok 1 5 [6, 10, 18, 128] rfl (σ' := [(6, .string s6_x01), (10, .int .i64 x10_x01), (18, .int .i64 r30.2.2.1), (128, .bool (r30.2.1 == x9_x01))]) (h' := []) (c' := 0) (by kernel_rfl) ?_
            cases b12 : (r30.2.1 == x9_x01 : Bool) with
            | true =>
              have h := cT b12 h
              refine XR.run E0_ok 1 5 [6, 133] rfl (σ' := [(6, .string s6_x01), (133, .bool (r30.2.2.1 == x10_x01))]) (h' := []) (c' := 0) (by kernel_rfl) ?_
              cases b13 : (r30.2.2.1 == x10_x01 : Bool) with
              | true =>
                have h := cT b13 h
                refine XR.run E0_ok 1 1 [133, 134] rfl (σ' := [(133, .bool true), (134, .string s6_x01)]) (h' := []) (c' := 0) (by kernel_rfl) ?_
                obtain ⟨r33, r33_h, h⟩ := bS h
                refine XR.call E0_ok [133, 135] rfl (K := 39) (args := [.string s6_x01]) (d := (some (path 12 135))) (by kernel_rfl) (KC.of_calls E0_ok (F := Proofs.Try.f39) (v := .bool r33) (by kernel_rfl) rfl rfl (fun w hI => f39_ok m s6_x01 r33 r33_h w hI)) ?_
                rintro _ _ _ ⟨rfl, rfl, rfl⟩
                refine XR.conv (σ' := [(133, .bool true), (135, .bool r33)]) (h' := []) (c' := 0) ?_ (by kernel_rfl)
                refine XR.run E0_ok 1 3 [138] rfl (σ' := [(138, .bool (!r33))]) (h' := []) (c' := 0) (by kernel_rfl) ?_
                cases b14 : (!r33 : Bool) with
                | true =>
                  have h := cT b14 h
                  refine XR.call E0_ok [138, 139] rfl (K := 12) (args := []) (d := (some (path 12 139))) (by kernel_rfl) (KC.of_calls E0_ok (F := Proofs.Try.f12) (v := .bool true) (by kernel_rfl) rfl rfl (works_ok)) ?_
                  rintro _ _ _ ⟨rfl, rfl, rfl⟩
                  refine XR.conv (σ' := [(138, .bool true), (139, .bool true)]) (h' := []) (c' := 0) ?_ (by kernel_rfl)
                  refine XR.run E0_ok 1 2 [4] rfl (σ' := [(4, .bool true)]) (h' := []) (c' := 0) (by kernel_rfl) ?_
                  refine XR.done (by kernel_rfl) ?_
                  show XQ _ _ _ _ _ _ _ _
                  refine XQ.ret (by kernel_rfl) ?_
                  have h := Option.some.inj h
                  subst h
                  exact ⟨fun i q => (by cases q), .bool true, (by kernel_rfl), rfl⟩
                | false =>
                  have h := cF b14 h
                  refine XR.run E0_ok 1 3 [4] rfl (σ' := [(4, .bool false)]) (h' := []) (c' := 0) (by kernel_rfl) ?_
                  refine XR.done (by kernel_rfl) ?_
                  show XQ _ _ _ _ _ _ _ _
                  refine XQ.ret (by kernel_rfl) ?_
                  have h := Option.some.inj h
                  subst h
                  exact ⟨fun i q => (by cases q), .bool false, (by kernel_rfl), rfl⟩
              | false =>
                have h := cF b13 h
                refine XR.run E0_ok 1 8 [4] rfl (σ' := [(4, .bool false)]) (h' := []) (c' := 0) (by kernel_rfl) ?_
                refine XR.done (by kernel_rfl) ?_
                show XQ _ _ _ _ _ _ _ _
                refine XQ.ret (by kernel_rfl) ?_
                have h := Option.some.inj h
                subst h
                exact ⟨fun i q => (by cases q), .bool false, (by kernel_rfl), rfl⟩
            | false =>
              have h := cF b12 h
              refine XR.run E0_ok 1 13 [4] rfl (σ' := [(4, .bool false)]) (h' := []) (c' := 0) (by kernel_rfl) ?_
              refine XR.done (by kernel_rfl) ?_
              show XQ _ _ _ _ _ _ _ _
              refine XQ.ret (by kernel_rfl) ?_
              have h := Option.some.inj h
              subst h
              exact ⟨fun i q => (by cases q), .bool false, (by kernel_rfl), rfl⟩
          | false =>
            have h := cF b11 h
            refine XR.run E0_ok 1 18 [4] rfl (σ' := [(4, .bool false)]) (h' := []) (c' := 0) (by kernel_rfl) ?_
            refine XR.done (by kernel_rfl) ?_
            show XQ _ _ _ _ _ _ _ _
            refine XQ.ret (by kernel_rfl) ?_
            have h := Option.some.inj h
            subst h
            exact ⟨fun i q => (by cases q), .bool false, (by kernel_rfl), rfl⟩
        | false =>
          have h := cF b10 h
          refine XR.run E0_ok 1 23 [4] rfl (σ' := [(4, .bool false)]) (h' := []) (c' := 0) (by kernel_rfl) ?_
          refine XR.done (by kernel_rfl) ?_
          show XQ _ _ _ _ _ _ _ _
          refine XQ.ret (by kernel_rfl) ?_
          have h := Option.some.inj h
          subst h
          exact ⟨fun i q => (by cases q), .bool false, (by kernel_rfl), rfl⟩

end Go.Xm
