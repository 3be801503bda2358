/- What these functions of the program compute, as functions in Lean, and the proofs that they do: vitolalaw08.BandChristoffel. Conditions: the library's variable MaxLen holds some int. -/
import Derived.Test.YtdijjdkaojbolaaDp
import Derived.Test.YtdijjdkaojbolaaDb
import Derived.Test.YtdijjdkaojbolaaDo
import Derived.Test.YtdijjdkaojbolaaDk
namespace Go.Xm
open Go.RowKit
set_option linter.unusedVariables false
set_option linter.unusedSimpArgs false

/-! vitola/vitolalaw08.BandChristoffel -/
noncomputable def f11_C11 : Code := Proofs.Try.f11.body.getD .skip
noncomputable def f11_L1 : Code := lft (lft (rgt (lft (rgt (rgt (rgt (rgt f11_C11)))))))
noncomputable def f11_L2 : Code := lft (lft (rgt (lft (rgt (rgt (rgt (rgt (rgt f11_C11))))))))

inductive Of11_1 where
  | r
  | x0 (x3_x01 : Int) (lh0_x01 : List ByteArray) (lh1_x01 : List Int)

def f11_1 (m : Nat) : Nat → Int → Int → Int → List ByteArray → List Int → Option Of11_1
  | 0, _, _, _, _, _ => none
  | fuel + 1, x3_1, x29_1, x30_1, lh0_1, lh1_1 =>
    cond (decide (x30_1 < x29_1)) (
      (f37 m x3_1 x30_1).bind fun r13 =>
        (f13 m r13).bind fun r14 =>
          cond (r14.2 != 0) (
            some (.r)
          ) (
            (f39 m r13).bind fun r15 =>
              cond (!(r14.1 == r15)) (
                some (.r)
              ) (
                cond (!r14.1) (
                  f11_1 m fuel x3_1 x29_1 (IntKind.wrap .u16 (x30_1 + 1)) lh0_1 lh1_1
                ) (
                  (f43 m x30_1).bind fun r16 =>
                    cond (inRow r16 lh1_1.length) (
                      cond (inRow r16 lh0_1.length) (
                        cond ((List.getD lh0_1 (Int.toNat r16) (bs [])).data.toList == []) (
                          (f31 m (List.getD (List.set lh0_1 (Int.toNat r16) r13) (Int.toNat r16) (bs [])) r13).bind fun r17 =>
                            cond (r17.2 != 0) (
                              some (.r)
                            ) (
                              cond (decide (r17.1 < 0)) (
                                some (.r)
                              ) (
                                cond (decide (r17.1 ≥ x3_1)) (
                                  some (.r)
                                ) (
                                  cond (cutOk r17.1 ((List.getD (List.set lh0_1 (Int.toNat r16) r13) (Int.toNat r16) (bs [])).size : Int) (List.getD (List.set lh0_1 (Int.toNat r16) r13) (Int.toNat r16) (bs [])).size) (
                                    cond (cutOk 0 r17.1 (List.getD (List.set lh0_1 (Int.toNat r16) r13) (Int.toNat r16) (bs [])).size) (
                                      cond (Nat.ble ((cutT (List.getD (List.set lh0_1 (Int.toNat r16) r13) (Int.toNat r16) (bs [])) r17.1 ((List.getD (List.set lh0_1 (Int.toNat r16) r13) (Int.toNat r16) (bs [])).size : Int)).size + (cutT (List.getD (List.set lh0_1 (Int.toNat r16) r13) (Int.toNat r16) (bs [])) 0 r17.1).size) 9223372036854775807) (
                                        cond (!((catS (cutT (List.getD (List.set lh0_1 (Int.toNat r16) r13) (Int.toNat r16) (bs [])) r17.1 ((List.getD (List.set lh0_1 (Int.toNat r16) r13) (Int.toNat r16) (bs [])).size : Int)) (cutT (List.getD (List.set lh0_1 (Int.toNat r16) r13) (Int.toNat r16) (bs [])) 0 r17.1)).data.toList == r13.data.toList)) (
                                          some (.r)
                                        ) (
                                          f11_1 m fuel x3_1 x29_1 (IntKind.wrap .u16 (x30_1 + 1)) (List.set lh0_1 (Int.toNat r16) r13) (List.set lh1_1 (Int.toNat r16) (w64 ((List.getD lh1_1 (Int.toNat r16) 0) + 1)))
                                        )
                                      ) none
                                    ) none
                                  ) none
                                )
                              )
                            )
                        ) (
                          (f31 m (List.getD lh0_1 (Int.toNat r16) (bs [])) r13).bind fun r18 =>
                            cond (r18.2 != 0) (
                              some (.r)
                            ) (
                              cond (decide (r18.1 < 0)) (
                                some (.r)
                              ) (
                                cond (decide (r18.1 ≥ x3_1)) (
                                  some (.r)
                                ) (
                                  cond (cutOk r18.1 ((List.getD lh0_1 (Int.toNat r16) (bs [])).size : Int) (List.getD lh0_1 (Int.toNat r16) (bs [])).size) (
                                    cond (cutOk 0 r18.1 (List.getD lh0_1 (Int.toNat r16) (bs [])).size) (
                                      cond (Nat.ble ((cutT (List.getD lh0_1 (Int.toNat r16) (bs [])) r18.1 ((List.getD lh0_1 (Int.toNat r16) (bs [])).size : Int)).size + (cutT (List.getD lh0_1 (Int.toNat r16) (bs [])) 0 r18.1).size) 9223372036854775807) (
                                        cond (!((catS (cutT (List.getD lh0_1 (Int.toNat r16) (bs [])) r18.1 ((List.getD lh0_1 (Int.toNat r16) (bs [])).size : Int)) (cutT (List.getD lh0_1 (Int.toNat r16) (bs [])) 0 r18.1)).data.toList == r13.data.toList)) (
                                          some (.r)
                                        ) (
                                          f11_1 m fuel x3_1 x29_1 (IntKind.wrap .u16 (x30_1 + 1)) lh0_1 (List.set lh1_1 (Int.toNat r16) (w64 ((List.getD lh1_1 (Int.toNat r16) 0) + 1)))
                                        )
                                      ) none
                                    ) none
                                  ) none
                                )
                              )
                            )
                        )
                      ) none
                    ) none
                )
              )
          )
    ) (
      some (.x0 x3_1 lh0_1 lh1_1)
    )

theorem f11_1_ok (m : Nat) : ∀ (fuel : Nat) (x3_1 : Int) (x29_1 : Int) (x30_1 : Int) (lh0_1 : List ByteArray) (lh1_1 : List Int) (o : Of11_1), f11_1 m fuel x3_1 x29_1 x30_1 lh0_1 lh1_1 = some o → ∀ Q : QP, (match o with | .r => Q .ret [(2, .bool false)] [] 0 | .x0 x3_x01 lh0_x01 lh1_x01 => Q (.exit 0) [(3, .int .i64 x3_x01), (4, .slice (some ⟨0, 0, none⟩) lh0_x01.length lh0_x01.length), (5, .slice (some ⟨1, 0, none⟩) lh1_x01.length lh1_x01.length)] [(1, .cells (rowC (encI .i64) lh1_x01) 0 3 1), (0, .cells (rowC encS lh0_x01) 0 9 1)] 2) → XL E0 158 0 fuel f11_L1 [(3, .int .i64 x3_1), (4, .slice (some ⟨0, 0, none⟩) lh0_1.length lh0_1.length), (5, .slice (some ⟨1, 0, none⟩) lh1_1.length lh1_1.length), (29, .int .u16 x29_1), (30, .int .u16 x30_1)] [(1, .cells (rowC (encI .i64) lh1_1) 0 3 1), (0, .cells (rowC encS lh0_1) 0 9 1)] 2 Q
  | 0, x3_1, x29_1, x30_1, lh0_1, lh1_1, o, h, Q, hQ => by cases h
  | fuel + 1, x3_1, x29_1, x30_1, lh0_1, lh1_1, o, h, Q, hQ => by
    unfold f11_1 at h
    refine XL.succ E0_ok ?_
    refine XQ.seq E0_ok (by kernel_rfl) ?_
    refine XQ.region (by kernel_rfl) ?_
    refine XR.run E0_ok 1 1 [3, 4, 5, 29, 30, 31] rfl (σ' := [(3, .int .i64 x3_1), (4, .slice (some ⟨0, 0, none⟩) lh0_1.length lh0_1.length), (5, .slice (some ⟨1, 0, none⟩) lh1_1.length lh1_1.length), (29, .int .u16 x29_1), (30, .int .u16 x30_1), (31, .bool (decide (x30_1 < x29_1)))]) (h' := [(1, .cells (rowC (encI .i64) lh1_1) 0 3 1), (0, .cells (rowC encS lh0_1) 0 9 1)]) (c' := 2) (by kernel_rfl) ?_
    refine XR.done (by kernel_rfl) ?_
    show XQ _ _ _ _ _ _ _ _
    refine XQ.seq E0_ok (by kernel_rfl) ?_
    cases b1 : (decide (x30_1 < x29_1) : Bool) with
    | true =>
      have h := cT b1 h
      refine XQ.cond (s := (.tmp 31)) (b := true) (by kernel_rfl) (by kernel_rfl) (fun _ => ?_) (fun q => by cases q)
      refine XQ.skip (by kernel_rfl) ?_
      show XQ _ _ _ _ _ _ _ _
      refine XQ.seq E0_ok (by kernel_rfl) ?_
      refine XQ.block (id := 1) (by kernel_rfl) ?_
      refine XQ.seq E0_ok (by kernel_rfl) ?_
      refine XQ.region (by kernel_rfl) ?_
      refine XR.run E0_ok 1 2 [3, 4, 5, 6, 29, 30] rfl (σ' := [(3, .int .i64 x3_1), (4, .slice (some ⟨0, 0, none⟩) lh0_1.length lh0_1.length), (5, .slice (some ⟨1, 0, none⟩) lh1_1.length lh1_1.length), (6, .int .u16 x30_1), (29, .int .u16 x29_1), (30, .int .u16 x30_1)]) (h' := [(1, .cells (rowC (encI .i64) lh1_1) 0 3 1), (0, .cells (rowC encS lh0_1) 0 9 1)]) (c' := 2) (by kernel_rfl) ?_
      refine XR.done (by kernel_rfl) ?_
      show XQ _ _ _ _ _ _ _ _
      refine XQ.seq E0_ok (by kernel_rfl) ?_
      refine XQ.region (by kernel_rfl) ?_
      refine XR.run E0_ok 1 2 [3, 4, 5, 6, 29, 30, 33, 34] rfl (σ' := [(3, .int .i64 x3_1), (4, .slice (some ⟨0, 0, none⟩) lh0_1.length lh0_1.length), (5, .slice (some ⟨1, 0, none⟩) lh1_1.length lh1_1.length), (6, .int .u16 x30_1), (29, .int .u16 x29_1), (30, .int .u16 x30_1), (33, .int .i64 x3_1), (34, .int .u16 x30_1)]) (h' := [(1, .cells (rowC (encI .i64) lh1_1) 0 3 1), (0, .cells (rowC encS lh0_1) 0 9 1)]) (c' := 2) (by kernel_rfl) ?_
      obtain ⟨r13, r13_h, h⟩ := bS h
      refine XR.call E0_ok [3, 4, 5, 6, 29, 30, 35] rfl (K := 37) (args := [.int .i64 x3_1, .int .u16 x30_1]) (d := (some (path 12 35))) (by kernel_rfl) (KC.of_calls E0_ok (F := Proofs.Try.f37) (v := .string r13) (by kernel_rfl) rfl rfl (fun w hI => f37_ok m x3_1 x30_1 r13 r13_h w hI)) ?_
      rintro _ _ _ ⟨rfl, rfl, rfl⟩
      refine XR.conv (σ' := [(3, .int .i64 x3_1), (4, .slice (some ⟨0, 0, none⟩) lh0_1.length lh0_1.length), (5, .slice (some ⟨1, 0, none⟩) lh1_1.length lh1_1.length), (6, .int .u16 x30_1), (29, .int .u16 x29_1), (30, .int .u16 x30_1), (35, .string r13)]) (h' := [(1, .cells (rowC (encI .i64) lh1_1) 0 3 1), (0, .cells (rowC encS lh0_1) 0 9 1)]) (c' := 2) ?_ (by kernel_rfl)
      refine XR.run E0_ok 1 1 [3, 4, 5, 6, 7, 29, 30] rfl (σ' := [(3, .int .i64 x3_1), (4, .slice (some ⟨0, 0, none⟩) lh0_1.length lh0_1.length), (5, .slice (some ⟨1, 0, none⟩) lh1_1.length lh1_1.length), (6, .int .u16 x30_1), (7, .string r13), (29, .int .u16 x29_1), (30, .int .u16 x30_1)]) (h' := [(1, .cells (rowC (encI .i64) lh1_1) 0 3 1), (0, .cells (rowC encS lh0_1) 0 9 1)]) (c' := 2) (by kernel_rfl) ?_
      refine XR.done (by kernel_rfl) ?_
      show XQ _ _ _ _ _ _ _ _
      refine XQ.seq E0_ok (by kernel_rfl) ?_
      refine XQ.region (by kernel_rfl) ?_
      refine XR.run E0_ok 1 1 [3, 4, 5, 6, 7, 29, 30, 37] rfl (σ' := [(3, .int .i64 x3_1), (4, .slice (some ⟨0, 0, none⟩) lh0_1.length lh0_1.length), (5, .slice (some ⟨1, 0, none⟩) lh1_1.length lh1_1.length), (6, .int .u16 x30_1), (7, .string r13), (29, .int .u16 x29_1), (30, .int .u16 x30_1), (37, .string r13)]) (h' := [(1, .cells (rowC (encI .i64) lh1_1) 0 3 1), (0, .cells (rowC encS lh0_1) 0 9 1)]) (c' := 2) (by kernel_rfl) ?_
      obtain ⟨r14, r14_h, h⟩ := bS h
      refine XR.call E0_ok [3, 4, 5, 6, 7, 29, 30, 38] rfl (K := 13) (args := [.string r13]) (d := (some (path 12 38))) (by kernel_rfl) (KC.of_calls E0_ok (F := Proofs.Try.f13) (v := .tuple #[.bool r14.1, .int .i64 r14.2]) (by kernel_rfl) rfl rfl (fun w hI => f13_ok m r13 r14 r14_h w hI)) ?_
      rintro _ _ _ ⟨rfl, rfl, rfl⟩
      refine XR.conv (σ' := [(3, .int .i64 x3_1), (4, .slice (some ⟨0, 0, none⟩) lh0_1.length lh0_1.length), (5, .slice (some ⟨1, 0, none⟩) lh1_1.length lh1_1.length), (6, .int .u16 x30_1), (7, .string r13), (29, .int .u16 x29_1), (30, .int .u16 x30_1), (38, .tuple #[.bool r14.1, .int .i64 r14.2])]) (h' := [(1, .cells (rowC (encI .i64) lh1_1) 0 3 1), (0, .cells (rowC encS lh0_1) 0 9 1)]) (c' := 2) ?_ (by kernel_rfl)
      refine XR.run E0_ok 1 5 [3, 4, 5, 6, 7, 8, 9, 29, 30] rfl (σ' := [(3, .int .i64 x3_1), (4, .slice (some ⟨0, 0, none⟩) lh0_1.length lh0_1.length), (5, .slice (some ⟨1, 0, none⟩) lh1_1.length lh1_1.length), (6, .int .u16 x30_1), (7, .string r13), (8, .bool r14.1), (9, .int .i64 r14.2), (29, .int .u16 x29_1), (30, .int .u16 x30_1)]) (h' := [(1, .cells (rowC (encI .i64) lh1_1) 0 3 1), (0, .cells (rowC encS lh0_1) 0 9 1)]) (c' := 2) (by kernel_rfl) ?_
      refine XR.done (by kernel_rfl) ?_
      show XQ _ _ _ _ _ _ _ _
      refine XQ.seq E0_ok (by kernel_rfl) ?_
      refine XQ.seq E0_ok (by kernel_rfl) ?_
      refine XQ.region (by kernel_rfl) ?_
      refine XR.run E0_ok 1 3 [3, 4, 5, 6, 7, 8, 29, 30, 43] rfl (σ' := [(3, .int .i64 x3_1), (4, .slice (some ⟨0, 0, none⟩) lh0_1.length lh0_1.length), (5, .slice (some ⟨1, 0, none⟩) lh1_1.length lh1_1.length), (6, .int .u16 x30_1), (7, .string r13), (8, .bool r14.1), (29, .int .u16 x29_1), (30, .int .u16 x30_1), (43, .bool (r14.2 != 0))]) (h' := [(1, .cells (rowC (encI .i64) lh1_1) 0 3 1), (0, .cells (rowC encS lh0_1) 0 9 1)]) (c' := 2) (by kernel_rfl) ?_
      cases b2 : (r14.2 != 0 : Bool) with
      | true =>
        have h := cT b2 h
        refine XR.run E0_ok 1 5 [3, 4, 5, 6, 7, 8, 29, 30, 48] rfl (σ' := [(3, .int .i64 x3_1), (4, .slice (some ⟨0, 0, none⟩) lh0_1.length lh0_1.length), (5, .slice (some ⟨1, 0, none⟩) lh1_1.length lh1_1.length), (6, .int .u16 x30_1), (7, .string r13), (8, .bool r14.1), (29, .int .u16 x29_1), (30, .int .u16 x30_1), (48, .bool true)]) (h' := [(1, .cells (rowC (encI .i64) lh1_1) 0 3 1), (0, .cells (rowC encS lh0_1) 0 9 1)]) (c' := 2) (by kernel_rfl) ?_
        refine XR.done (by kernel_rfl) ?_
        show XQ _ _ _ _ _ _ _ _
        refine XQ.cond (s := (.tmp 48)) (b := true) (by kernel_rfl) (by kernel_rfl) (fun _ => ?_) (fun q => by cases q)
        refine XQ.seq E0_ok (by kernel_rfl) ?_
        refine XQ.region (by kernel_rfl) ?_
        refine XR.run E0_ok 1 1 [2] rfl (σ' := [(2, .bool false)]) (h' := [(1, .cells (rowC (encI .i64) lh1_1) 0 3 1), (0, .cells (rowC encS lh0_1) 0 9 1)]) (c' := 2) (by kernel_rfl) ?_
        refine XR.done (by kernel_rfl) ?_
        show XQ _ _ _ _ _ _ _ _
        refine XQ.ren (σ' := [(2, .bool false)]) (h' := []) (c' := 0) [] (by decide) rfl ⟨by kernel_rfl, trivial⟩ trivial rfl ?_
        refine XQ.ret (by kernel_rfl) ?_
        cases h
        exact hQ
      | false =>
        have h := cF b2 h
        refine XR.run E0_ok 1 2 [3, 4, 5, 6, 7, 8, 29, 30, 43, 44, 45] rfl (σ' := [(3, .int .i64 x3_1), (4, .slice (some ⟨0, 0, none⟩) lh0_1.length lh0_1.length), (5, .slice (some ⟨1, 0, none⟩) lh1_1.length lh1_1.length), (6, .int .u16 x30_1), (7, .string r13), (8, .bool r14.1), (29, .int .u16 x29_1), (30, .int .u16 x30_1), (43, .bool false), (44, .bool r14.1), (45, .string r13)]) (h' := [(1, .cells (rowC (encI .i64) lh1_1) 0 3 1), (0, .cells (rowC encS lh0_1) 0 9 1)]) (c' := 2) (by kernel_rfl) ?_
        obtain ⟨r15, r15_h, h⟩ := bS h
        refine XR.call E0_ok [3, 4, 5, 6, 7, 8, 29, 30, 43, 44, 46] rfl (K := 39) (args := [.string r13]) (d := (some (path 12 46))) (by kernel_rfl) (KC.of_calls E0_ok (F := Proofs.Try.f39) (v := .bool r15) (by kernel_rfl) rfl rfl (fun w hI => f39_ok m r13 r15 r15_h w hI)) ?_
        rintro _ _ _ ⟨rfl, rfl, rfl⟩
        refine XR.conv (σ' := [(3, .int .i64 x3_1), (4, .slice (some ⟨0, 0, none⟩) lh0_1.length lh0_1.length), (5, .slice (some ⟨1, 0, none⟩) lh1_1.length lh1_1.length), (6, .int .u16 x30_1), (7, .string r13), (8, .bool r14.1), (29, .int .u16 x29_1), (30, .int .u16 x30_1), (43, .bool false), (44, .bool r14.1), (46, .bool r15)]) (h' := [(1, .cells (rowC (encI .i64) lh1_1) 0 3 1), (0, .cells (rowC encS lh0_1) 0 9 1)]) (c' := 2) ?_ (by kernel_rfl)
        refine XR.run E0_ok 1 2 [3, 4, 5, 6, 7, 8, 29, 30, 48] rfl (σ' := [(3, .int .i64 x3_1), (4, .slice (some ⟨0, 0, none⟩) lh0_1.length lh0_1.length), (5, .slice (some ⟨1, 0, none⟩) lh1_1.length lh1_1.length), (6, .int .u16 x30_1), (7, .string r13), (8, .bool r14.1), (29, .int .u16 x29_1), (30, .int .u16 x30_1), (48, .bool (!(r14.1 == r15)))]) (h' := [(1, .cells (rowC (encI .i64) lh1_1) 0 3 1), (0, .cells (rowC encS lh0_1) 0 9 1)]) (c' := 2) (by kernel_rfl) ?_
        refine XR.done (by kernel_rfl) ?_
        show XQ _ _ _ _ _ _ _ _
        cases b3 : (!(r14.1 == r15) : Bool) with
        | true =>
          have h := cT b3 h
          refine XQ.cond (s := (.tmp 48)) (b := true) (by kernel_rfl) (by kernel_rfl) (fun _ => ?_) (fun q => by cases q)
          refine XQ.seq E0_ok (by kernel_rfl) ?_
          refine XQ.region (by kernel_rfl) ?_
          refine XR.run E0_ok 1 1 [2] rfl (σ' := [(2, .bool false)]) (h' := [(1, .cells (rowC (encI .i64) lh1_1) 0 3 1), (0, .cells (rowC encS lh0_1) 0 9 1)]) (c' := 2) (by kernel_rfl) ?_
          refine XR.done (by kernel_rfl) ?_
          show XQ _ _ _ _ _ _ _ _
          refine XQ.ren (σ' := [(2, .bool false)]) (h' := []) (c' := 0) [] (by decide) rfl ⟨by kernel_rfl, trivial⟩ trivial rfl ?_
          refine XQ.ret (by kernel_rfl) ?_
          cases h
          exact hQ
        | false =>
          have h := cF b3 h
          refine XQ.cond (s := (.tmp 48)) (b := false) (by kernel_rfl) (by kernel_rfl) (fun q => by cases q) (fun _ => ?_)
          refine XQ.skip (by kernel_rfl) ?_
          show XQ _ _ _ _ _ _ _ _
          refine XQ.seq E0_ok (by kernel_rfl) ?_
          refine XQ.seq E0_ok (by kernel_rfl) ?_
          refine XQ.region (by kernel_rfl) ?_
          refine XR.run E0_ok 1 2 [3, 4, 5, 6, 7, 29, 30, 50] rfl (σ' := [(3, .int .i64 x3_1), (4, .slice (some ⟨0, 0, none⟩) lh0_1.length lh0_1.length), (5, .slice (some ⟨1, 0, none⟩) lh1_1.length lh1_1.length), (6, .int .u16 x30_1), (7, .string r13), (29, .int .u16 x29_1), (30, .int .u16 x30_1), (50, .bool (!r14.1))]) (h' := [(1, .cells (rowC (encI .i64) lh1_1) 0 3 1), (0, .cells (rowC encS lh0_1) 0 9 1)]) (c' := 2) (by kernel_rfl) ?_
          refine XR.done (by kernel_rfl) ?_
          show XQ _ _ _ _ _ _ _ _
          cases b4 : (!r14.1 : Bool) with
          | true =>
            have h := cT b4 h
            refine XQ.cond (s := (.tmp 50)) (b := true) (by kernel_rfl) (by kernel_rfl) (fun _ => ?_) (fun q => by cases q)
            refine XQ.exit (i := 1) (by kernel_rfl) ?_
            show XQ _ _ _ _ _ _ _ _
            refine XQ.region (by kernel_rfl) ?_
            refine XR.run E0_ok 1 2 [3, 4, 5, 29, 30] rfl (σ' := [(3, .int .i64 x3_1), (4, .slice (some ⟨0, 0, none⟩) lh0_1.length lh0_1.length), (5, .slice (some ⟨1, 0, none⟩) lh1_1.length lh1_1.length), (29, .int .u16 x29_1), (30, .int .u16 (IntKind.wrap .u16 (x30_1 + 1)))]) (h' := [(1, .cells (rowC (encI .i64) lh1_1) 0 3 1), (0, .cells (rowC encS lh0_1) 0 9 1)]) (c' := 2) (by kernel_rfl) ?_
            refine XR.done (by kernel_rfl) ?_
            show XL _ _ _ _ _ _ _ _ _
            refine XL.ren (σ' := [(3, .int .i64 x3_1), (4, .slice (some ⟨0, 0, none⟩) lh0_1.length lh0_1.length), (5, .slice (some ⟨1, 0, none⟩) lh1_1.length lh1_1.length), (29, .int .u16 x29_1), (30, .int .u16 (IntKind.wrap .u16 (x30_1 + 1)))]) (h' := [(1, .cells (rowC (encI .i64) lh1_1) 0 3 1), (0, .cells (rowC encS lh0_1) 0 9 1)]) (c' := 2) [0, 1] (by decide) rfl ⟨by kernel_rfl, by kernel_rfl, by kernel_rfl, by kernel_rfl, by kernel_rfl, trivial⟩ ⟨⟨_, _, rfl, rfl, .inl ⟨rfl, rowC_scal (encI_ok .i64) _⟩⟩, ⟨_, _, rfl, rfl, .inl ⟨rfl, rowC_scal encS_ok _⟩⟩, trivial⟩ rfl ?_
            refine XL.conv (f11_1_ok m fuel x3_1 x29_1 (IntKind.wrap .u16 (x30_1 + 1)) lh0_1 lh1_1 o h Q hQ) (by first | rfl | simp)
          | false =>
            have h := cF b4 h
            refine XQ.cond (s := (.tmp 50)) (b := false) (by kernel_rfl) (by kernel_rfl) (fun q => by cases q) (fun _ => ?_)
            refine XQ.skip (by kernel_rfl) ?_
            show XQ _ _ _ _ _ _ _ _
            refine XQ.seq E0_ok (by kernel_rfl) ?_
            refine XQ.region (by kernel_rfl) ?_
            refine XR.run E0_ok 1 1 [3, 4, 5, 7, 29, 30, 51] rfl (σ' := [(3, .int .i64 x3_1), (4, .slice (some ⟨0, 0, none⟩) lh0_1.length lh0_1.length), (5, .slice (some ⟨1, 0, none⟩) lh1_1.length lh1_1.length), (7, .string r13), (29, .int .u16 x29_1), (30, .int .u16 x30_1), (51, .int .u16 x30_1)]) (h' := [(1, .cells (rowC (encI .i64) lh1_1) 0 3 1), (0, .cells (rowC encS lh0_1) 0 9 1)]) (c' := 2) (by kernel_rfl) ?_
            obtain ⟨r16, r16_h, h⟩ := bS h
            refine XR.call E0_ok [3, 4, 5, 7, 29, 30, 52] rfl (K := 43) (args := [.int .u16 x30_1]) (d := (some (path 12 52))) (by kernel_rfl) (KC.of_calls E0_ok (F := Proofs.Try.f43) (v := .int .i64 r16) (by kernel_rfl) rfl rfl (fun w hI => f43_ok m x30_1 r16 r16_h w hI)) ?_
            rintro _ _ _ ⟨rfl, rfl, rfl⟩
            refine XR.conv (σ' := [(3, .int .i64 x3_1), (4, .slice (some ⟨0, 0, none⟩) lh0_1.length lh0_1.length), (5, .slice (some ⟨1, 0, none⟩) lh1_1.length lh1_1.length), (7, .string r13), (29, .int .u16 x29_1), (30, .int .u16 x30_1), (52, .int .i64 r16)]) (h' := [(1, .cells (rowC (encI .i64) lh1_1) 0 3 1), (0, .cells (rowC encS lh0_1) 0 9 1)]) (c' := 2) ?_ (by kernel_rfl)
            refine XR.run E0_ok 1 1 [3, 4, 5, 7, 10, 29, 30] rfl (σ' := [(3, .int .i64 x3_1), (4, .slice (some ⟨0, 0, none⟩) lh0_1.length lh0_1.length), (5, .slice (some ⟨1, 0, none⟩) lh1_1.length lh1_1.length), (7, .string r13), (10, .int .i64 r16), (29, .int .u16 x29_1), (30, .int .u16 x30_1)]) (h' := [(1, .cells (rowC (encI .i64) lh1_1) 0 3 1), (0, .cells (rowC encS lh0_1) 0 9 1)]) (c' := 2) (by kernel_rfl) ?_
            refine XR.done (by kernel_rfl) ?_
            show XQ _ _ _ _ _ _ _ _
            refine XQ.seq E0_ok (by kernel_rfl) ?_
            refine XQ.region (by kernel_rfl) ?_
            refine XR.run E0_ok 1 2 [3, 4, 5, 7, 10, 29, 30, 53, 54] rfl (σ' := [(3, .int .i64 x3_1), (4, .slice (some ⟨0, 0, none⟩) lh0_1.length lh0_1.length), (5, .slice (some ⟨1, 0, none⟩) lh1_1.length lh1_1.length), (7, .string r13), (10, .int .i64 r16), (29, .int .u16 x29_1), (30, .int .u16 x30_1), (53, .slice (some ⟨1, 0, none⟩) lh1_1.length lh1_1.length), (54, .int .i64 r16)]) (h' := [(1, .cells (rowC (encI .i64) lh1_1) 0 3 1), (0, .cells (rowC encS lh0_1) 0 9 1)]) (c' := 2) (by kernel_rfl) ?_
            cases b5 : (inRow r16 lh1_1.length : Bool) with
            | false => cases (cF b5 h)
            | true =>
              have h := cT b5 h
              refine XR.rd E0_ok [3, 4, 5, 7, 10, 29, 30, 53, 54, 55] rfl (v := .pointer (some ⟨1, (Int.toNat r16) * 1, none⟩)) (v_idx (s := 1) (x := (src 158 (.tmp 53))) (y := (src 158 (.tmp 54))) (b := 1) (o := 0) (len := lh1_1.length) (cap := lh1_1.length) (ik := .i64) (i := r16) (off := (Int.toNat r16) * 1) (d := (some (path 12 55))) (by kernel_rfl) (by kernel_rfl) (by kernel_rfl) b5 (by omega)) (σ' := [(3, .int .i64 x3_1), (4, .slice (some ⟨0, 0, none⟩) lh0_1.length lh0_1.length), (5, .slice (some ⟨1, 0, none⟩) lh1_1.length lh1_1.length), (7, .string r13), (10, .int .i64 r16), (29, .int .u16 x29_1), (30, .int .u16 x30_1), (53, .slice (some ⟨1, 0, none⟩) lh1_1.length lh1_1.length), (54, .int .i64 r16), (55, .pointer (some ⟨1, (Int.toNat r16) * 1, none⟩))]) (by kernel_rfl) ?_
              refine XR.rd E0_ok [3, 4, 5, 7, 10, 29, 30, 53, 54, 56] rfl (v := .int .i64 (List.getD lh1_1 (Int.toNat r16) 0)) (v_load1 (encI_ok .i64) (x := (src 158 (.tmp 55))) (b := 1) (off := (Int.toNat r16) * 1) (xs := lh1_1) (fz := 0) (e := 3) (es := 1) (d := (some (path 12 56))) (by kernel_rfl) (by kernel_rfl) (by kernel_rfl) (Int.toNat r16) 0 0 (by first | rfl | omega) (row_len (inRow_toNat b5) (by simp)) rfl rfl) (σ' := [(3, .int .i64 x3_1), (4, .slice (some ⟨0, 0, none⟩) lh0_1.length lh0_1.length), (5, .slice (some ⟨1, 0, none⟩) lh1_1.length lh1_1.length), (7, .string r13), (10, .int .i64 r16), (29, .int .u16 x29_1), (30, .int .u16 x30_1), (53, .slice (some ⟨1, 0, none⟩) lh1_1.length lh1_1.length), (54, .int .i64 r16), (56, .int .i64 (List.getD lh1_1 (Int.toNat r16) 0))]) (by kernel_rfl) ?_
              refine XR.run E0_ok 1 1 [3, 4, 5, 7, 10, 29, 30, 53, 54, 57] rfl (σ' := [(3, .int .i64 x3_1), (4, .slice (some ⟨0, 0, none⟩) lh0_1.length lh0_1.length), (5, .slice (some ⟨1, 0, none⟩) lh1_1.length lh1_1.length), (7, .string r13), (10, .int .i64 r16), (29, .int .u16 x29_1), (30, .int .u16 x30_1), (53, .slice (some ⟨1, 0, none⟩) lh1_1.length lh1_1.length), (54, .int .i64 r16), (57, .int .i64 (w64 ((List.getD lh1_1 (Int.toNat r16) 0) + 1)))]) (h' := [(1, .cells (rowC (encI .i64) lh1_1) 0 3 1), (0, .cells (rowC encS lh0_1) 0 9 1)]) (c' := 2) (by kernel_rfl) ?_
              refine XR.rd E0_ok [3, 4, 5, 7, 10, 29, 30, 57, 58] rfl (v := .pointer (some ⟨1, (Int.toNat r16) * 1, none⟩)) (v_idx (s := 1) (x := (src 158 (.tmp 53))) (y := (src 158 (.tmp 54))) (b := 1) (o := 0) (len := lh1_1.length) (cap := lh1_1.length) (ik := .i64) (i := r16) (off := (Int.toNat r16) * 1) (d := (some (path 12 58))) (by kernel_rfl) (by kernel_rfl) (by kernel_rfl) b5 (by omega)) (σ' := [(3, .int .i64 x3_1), (4, .slice (some ⟨0, 0, none⟩) lh0_1.length lh0_1.length), (5, .slice (some ⟨1, 0, none⟩) lh1_1.length lh1_1.length), (7, .string r13), (10, .int .i64 r16), (29, .int .u16 x29_1), (30, .int .u16 x30_1), (57, .int .i64 (w64 ((List.getD lh1_1 (Int.toNat r16) 0) + 1))), (58, .pointer (some ⟨1, (Int.toNat r16) * 1, none⟩))]) (by kernel_rfl) ?_
              refine XR.ef E0_ok [3, 4, 5, 7, 10, 29, 30] rfl (e_store (encI_ok .i64) (size := 1) (x := (src 158 (.tmp 58))) (y := (src 158 (.tmp 57))) (b := 1) (off := (Int.toNat r16) * 1) (xs := lh1_1) (e := 3) (es := 1) (d := none) (h' := [(1, .cells (rowC (encI .i64) (List.set lh1_1 (Int.toNat r16) (w64 ((List.getD lh1_1 (Int.toNat r16) 0) + 1)))) 0 3 1), (0, .cells (rowC encS lh0_1) 0 9 1)]) (w := .int .i64 (w64 ((List.getD lh1_1 (Int.toNat r16) 0) + 1))) (ws := [.int .i64 (w64 ((List.getD lh1_1 (Int.toNat r16) 0) + 1))]) (a := w64 ((List.getD lh1_1 (Int.toNat r16) 0) + 1)) (by kernel_rfl) (by kernel_rfl) (by kernel_rfl) (Int.toNat r16) 0 0 (by first | rfl | omega) (row_len (inRow_toNat b5) (by simp)) (by kernel_rfl) rfl rfl rfl rfl rfl (by kernel_rfl)) (σ' := [(3, .int .i64 x3_1), (4, .slice (some ⟨0, 0, none⟩) lh0_1.length lh0_1.length), (5, .slice (some ⟨1, 0, none⟩) lh1_1.length lh1_1.length), (7, .string r13), (10, .int .i64 r16), (29, .int .u16 x29_1), (30, .int .u16 x30_1)]) (by kernel_rfl) ?_
              refine XR.done (by kernel_rfl) ?_
              show XQ _ _ _ _ _ _ _ _
              refine XQ.seq E0_ok (by kernel_rfl) ?_
              refine XQ.seq E0_ok (by kernel_rfl) ?_
              refine XQ.region (by kernel_rfl) ?_
              refine XR.run E0_ok 1 2 [3, 4, 5, 7, 10, 29, 30, 59, 60] rfl (σ' := [(3, .int .i64 x3_1), (4, .slice (some ⟨0, 0, none⟩) lh0_1.length lh0_1.length), (5, .slice (some ⟨1, 0, none⟩) lh1_1.length lh1_1.length), (7, .string r13), (10, .int .i64 r16), (29, .int .u16 x29_1), (30, .int .u16 x30_1), (59, .slice (some ⟨0, 0, none⟩) lh0_1.length lh0_1.length), (60, .int .i64 r16)]) (h' := [(1, .cells (rowC (encI .i64) (List.set lh1_1 (Int.toNat r16) (w64 ((List.getD lh1_1 (Int.toNat r16) 0) + 1)))) 0 3 1), (0, .cells (rowC encS lh0_1) 0 9 1)]) (c' := 2) (by kernel_rfl) ?_
              cases b6 : (inRow r16 lh0_1.length : Bool) with
              | false => cases (cF b6 h)
              | true =>
                have h := cT b6 h
                refine XR.rd E0_ok [3, 4, 5, 7, 10, 29, 30, 61] rfl (v := .pointer (some ⟨0, (Int.toNat r16) * 1, none⟩)) (v_idx (s := 1) (x := (src 158 (.tmp 59))) (y := (src 158 (.tmp 60))) (b := 0) (o := 0) (len := lh0_1.length) (cap := lh0_1.length) (ik := .i64) (i := r16) (off := (Int.toNat r16) * 1) (d := (some (path 12 61))) (by kernel_rfl) (by kernel_rfl) (by kernel_rfl) b6 (by omega)) (σ' := [(3, .int .i64 x3_1), (4, .slice (some ⟨0, 0, none⟩) lh0_1.length lh0_1.length), (5, .slice (some ⟨1, 0, none⟩) lh1_1.length lh1_1.length), (7, .string r13), (10, .int .i64 r16), (29, .int .u16 x29_1), (30, .int .u16 x30_1), (61, .pointer (some ⟨0, (Int.toNat r16) * 1, none⟩))]) (by kernel_rfl) ?_
                refine XR.rd E0_ok [3, 4, 5, 7, 10, 29, 30, 62] rfl (v := .string (List.getD lh0_1 (Int.toNat r16) (bs []))) (v_load1 encS_ok (x := (src 158 (.tmp 61))) (b := 0) (off := (Int.toNat r16) * 1) (xs := lh0_1) (fz := 0) (e := 9) (es := 1) (d := (some (path 12 62))) (by kernel_rfl) (by kernel_rfl) (by kernel_rfl) (Int.toNat r16) 0 (bs []) (by first | rfl | omega) (row_len (inRow_toNat b6) (by simp)) rfl rfl) (σ' := [(3, .int .i64 x3_1), (4, .slice (some ⟨0, 0, none⟩) lh0_1.length lh0_1.length), (5, .slice (some ⟨1, 0, none⟩) lh1_1.length lh1_1.length), (7, .string r13), (10, .int .i64 r16), (29, .int .u16 x29_1), (30, .int .u16 x30_1), (62, .string (List.getD lh0_1 (Int.toNat r16) (bs [])))]) (by kernel_rfl) ?_
                refine XR.run E0_ok 1 1 [3, 4, 5, 7, 10, 29, 30, 63] rfl (σ' := [(3, .int .i64 x3_1), (4, .slice (some ⟨0, 0, none⟩) lh0_1.length lh0_1.length), (5, .slice (some ⟨1, 0, none⟩) lh1_1.length lh1_1.length), (7, .string r13), (10, .int .i64 r16), (29, .int .u16 x29_1), (30, .int .u16 x30_1), (63, .bool ((List.getD lh0_1 (Int.toNat r16) (bs [])).data.toList == []))]) (h' := [(1, .cells (rowC (encI .i64) (List.set lh1_1 (Int.toNat r16) (w64 ((List.getD lh1_1 (Int.toNat r16) 0) + 1)))) 0 3 1), (0, .cells (rowC encS lh0_1) 0 9 1)]) (c' := 2) (by kernel_rfl) ?_
                refine XR.done (by kernel_rfl) ?_
                show XQ _ _ _ _ _ _ _ _
                cases b7 : ((List.getD lh0_1 (Int.toNat r16) (bs [])).data.toList == [] : Bool) with
                | true =>
                  have h := cT b7 h
                  refine XQ.cond (s := (.tmp 63)) (b := true) (by kernel_rfl) (by kernel_rfl) (fun _ => ?_) (fun q => by cases q)
                  refine XQ.region (by kernel_rfl) ?_
                  refine XR.run E0_ok 1 3 [3, 4, 5, 7, 10, 29, 30, 64, 65, 66] rfl (σ' := [(3, .int .i64 x3_1), (4, .slice (some ⟨0, 0, none⟩) lh0_1.length lh0_1.length), (5, .slice (some ⟨1, 0, none⟩) lh1_1.length lh1_1.length), (7, .string r13), (10, .int .i64 r16), (29, .int .u16 x29_1), (30, .int .u16 x30_1), (64, .slice (some ⟨0, 0, none⟩) lh0_1.length lh0_1.length), (65, .int .i64 r16), (66, .string r13)]) (h' := [(1, .cells (rowC (encI .i64) (List.set lh1_1 (Int.toNat r16) (w64 ((List.getD lh1_1 (Int.toNat r16) 0) + 1)))) 0 3 1), (0, .cells (rowC encS lh0_1) 0 9 1)]) (c' := 2) (by kernel_rfl) ?_
                  refine XR.rd E0_ok [3, 4, 5, 7, 10, 29, 30, 66, 67] rfl (v := .pointer (some ⟨0, (Int.toNat r16) * 1, none⟩)) (v_idx (s := 1) (x := (src 158 (.tmp 64))) (y := (src 158 (.tmp 65))) (b := 0) (o := 0) (len := lh0_1.length) (cap := lh0_1.length) (ik := .i64) (i := r16) (off := (Int.toNat r16) * 1) (d := (some (path 12 67))) (by kernel_rfl) (by kernel_rfl) (by kernel_rfl) b6 (by omega)) (σ' := [(3, .int .i64 x3_1), (4, .slice (some ⟨0, 0, none⟩) lh0_1.length lh0_1.length), (5, .slice (some ⟨1, 0, none⟩) lh1_1.length lh1_1.length), (7, .string r13), (10, .int .i64 r16), (29, .int .u16 x29_1), (30, .int .u16 x30_1), (66, .string r13), (67, .pointer (some ⟨0, (Int.toNat r16) * 1, none⟩))]) (by kernel_rfl) ?_
                  refine XR.ef E0_ok [3, 4, 5, 7, 10, 29, 30] rfl (e_store encS_ok (size := 1) (x := (src 158 (.tmp 67))) (y := (src 158 (.tmp 66))) (b := 0) (off := (Int.toNat r16) * 1) (xs := lh0_1) (e := 9) (es := 1) (d := none) (h' := [(1, .cells (rowC (encI .i64) (List.set lh1_1 (Int.toNat r16) (w64 ((List.getD lh1_1 (Int.toNat r16) 0) + 1)))) 0 3 1), (0, .cells (rowC encS (List.set lh0_1 (Int.toNat r16) r13)) 0 9 1)]) (w := .string r13) (ws := [.string r13]) (a := r13) (by kernel_rfl) (by kernel_rfl) (by kernel_rfl) (Int.toNat r16) 0 (bs []) (by first | rfl | omega) (row_len (inRow_toNat b6) (by simp)) (by kernel_rfl) rfl rfl rfl rfl rfl (by kernel_rfl)) (σ' := [(3, .int .i64 x3_1), (4, .slice (some ⟨0, 0, none⟩) lh0_1.length lh0_1.length), (5, .slice (some ⟨1, 0, none⟩) lh1_1.length lh1_1.length), (7, .string r13), (10, .int .i64 r16), (29, .int .u16 x29_1), (30, .int .u16 x30_1)]) (by kernel_rfl) ?_
                  refine XR.done (by kernel_rfl) ?_
                  show XQ _ _ _ _ _ _ _ _
                  refine XQ.seq E0_ok (by kernel_rfl) ?_
                  refine XQ.region (by kernel_rfl) ?_
                  refine XR.run E0_ok 1 2 [3, 4, 5, 7, 10, 29, 30, 69, 70] rfl (σ' := [(3, .int .i64 x3_1), (4, .slice (some ⟨0, 0, none⟩) lh0_1.length lh0_1.length), (5, .slice (some ⟨1, 0, none⟩) lh1_1.length lh1_1.length), (7, .string r13), (10, .int .i64 r16), (29, .int .u16 x29_1), (30, .int .u16 x30_1), (69, .slice (some ⟨0, 0, none⟩) lh0_1.length lh0_1.length), (70, .int .i64 r16)]) (h' := [(1, .cells (rowC (encI .i64) (List.set lh1_1 (Int.toNat r16) (w64 ((List.getD lh1_1 (Int.toNat r16) 0) + 1)))) 0 3 1), (0, .cells (rowC encS (List.set lh0_1 (Int.toNat r16) r13)) 0 9 1)]) (c' := 2) (by kernel_rfl) ?_
                  refine XR.rd E0_ok [3, 4, 5, 7, 10, 29, 30, 71] rfl (v := .pointer (some ⟨0, (Int.toNat r16) * 1, none⟩)) (v_idx (s := 1) (x := (src 158 (.tmp 69))) (y := (src 158 (.tmp 70))) (b := 0) (o := 0) (len := lh0_1.length) (cap := lh0_1.length) (ik := .i64) (i := r16) (off := (Int.toNat r16) * 1) (d := (some (path 12 71))) (by kernel_rfl) (by kernel_rfl) (by kernel_rfl) b6 (by omega)) (σ' := [(3, .int .i64 x3_1), (4, .slice (some ⟨0, 0, none⟩) lh0_1.length lh0_1.length), (5, .slice (some ⟨1, 0, none⟩) lh1_1.length lh1_1.length), (7, .string r13), (10, .int .i64 r16), (29, .int .u16 x29_1), (30, .int .u16 x30_1), (71, .pointer (some ⟨0, (Int.toNat r16) * 1, none⟩))]) (by kernel_rfl) ?_
                  refine XR.rd E0_ok [3, 4, 5, 7, 10, 29, 30, 72] rfl (v := .string (List.getD (List.set lh0_1 (Int.toNat r16) r13) (Int.toNat r16) (bs []))) (v_load1 encS_ok (x := (src 158 (.tmp 71))) (b := 0) (off := (Int.toNat r16) * 1) (xs := List.set lh0_1 (Int.toNat r16) r13) (fz := 0) (e := 9) (es := 1) (d := (some (path 12 72))) (by kernel_rfl) (by kernel_rfl) (by kernel_rfl) (Int.toNat r16) 0 (bs []) (by first | rfl | omega) (row_len (inRow_toNat b6) (by simp)) rfl rfl) (σ' := [(3, .int .i64 x3_1), (4, .slice (some ⟨0, 0, none⟩) lh0_1.length lh0_1.length), (5, .slice (some ⟨1, 0, none⟩) lh1_1.length lh1_1.length), (7, .string r13), (10, .int .i64 r16), (29, .int .u16 x29_1), (30, .int .u16 x30_1), (72, .string (List.getD (List.set lh0_1 (Int.toNat r16) r13) (Int.toNat r16) (bs [])))]) (by kernel_rfl) ?_
                  refine XR.run E0_ok 1 1 [3, 4, 5, 7, 10, 29, 30, 72, 73] rfl (σ' := [(3, .int .i64 x3_1), (4, .slice (some ⟨0, 0, none⟩) lh0_1.length lh0_1.length), (5, .slice (some ⟨1, 0, none⟩) lh1_1.length lh1_1.length), (7, .string r13), (10, .int .i64 r16), (29, .int .u16 x29_1), (30, .int .u16 x30_1), (72, .string (List.getD (List.set lh0_1 (Int.toNat r16) r13) (Int.toNat r16) (bs []))), (73, .string r13)]) (h' := [(1, .cells (rowC (encI .i64) (List.set lh1_1 (Int.toNat r16) (w64 ((List.getD lh1_1 (Int.toNat r16) 0) + 1)))) 0 3 1), (0, .cells (rowC encS (List.set lh0_1 (Int.toNat r16) r13)) 0 9 1)]) (c' := 2) (by kernel_rfl) ?_
                  obtain ⟨r17, r17_h, h⟩ := bS h
                  refine XR.call E0_ok [3, 4, 5, 7, 10, 29, 30, 74] rfl (K := 31) (args := [.string (List.getD (List.set lh0_1 (Int.toNat r16) r13) (Int.toNat r16) (bs [])), .string r13]) (d := (some (path 12 74))) (by kernel_rfl) (KC.of_calls E0_ok (F := Proofs.Try.f31) (v := .tuple #[.int .i64 r17.1, .int .i64 r17.2]) (by kernel_rfl) rfl rfl (fun w hI => f31_ok m (List.getD (List.set lh0_1 (Int.toNat r16) r13) (Int.toNat r16) (bs [])) r13 r17 r17_h w hI)) ?_
                  rintro _ _ _ ⟨rfl, rfl, rfl⟩
                  refine XR.conv (σ' := [(3, .int .i64 x3_1), (4, .slice (some ⟨0, 0, none⟩) lh0_1.length lh0_1.length), (5, .slice (some ⟨1, 0, none⟩) lh1_1.length lh1_1.length), (7, .string r13), (10, .int .i64 r16), (29, .int .u16 x29_1), (30, .int .u16 x30_1), (74, .tuple #[.int .i64 r17.1, .int .i64 r17.2])]) (h' := [(1, .cells (rowC (encI .i64) (List.set lh1_1 (Int.toNat r16) (w64 ((List.getD lh1_1 (Int.toNat r16) 0) + 1)))) 0 3 1), (0, .cells (rowC encS (List.set lh0_1 (Int.toNat r16) r13)) 0 9 1)]) (c' := 2) ?_ (by kernel_rfl)
                  refine XR.run E0_ok 1 5 [3, 4, 5, 7, 10, 11, 12, 29, 30] rfl (σ' := [(3, .int .i64 x3_1), (4, .slice (some ⟨0, 0, none⟩) lh0_1.length lh0_1.length), (5, .slice (some ⟨1, 0, none⟩) lh1_1.length lh1_1.length), (7, .string r13), (10, .int .i64 r16), (11, .int .i64 r17.1), (12, .int .i64 r17.2), (29, .int .u16 x29_1), (30, .int .u16 x30_1)]) (h' := [(1, .cells (rowC (encI .i64) (List.set lh1_1 (Int.toNat r16) (w64 ((List.getD lh1_1 (Int.toNat r16) 0) + 1)))) 0 3 1), (0, .cells (rowC encS (List.set lh0_1 (Int.toNat r16) r13)) 0 9 1)]) (c' := 2) (by kernel_rfl) ?_
                  refine XR.done (by kernel_rfl) ?_
                  show XQ _ _ _ _ _ _ _ _
                  refine XQ.seq E0_ok (by kernel_rfl) ?_
                  refine XQ.quiet E0_ok (by kernel_rfl) (by kernel_rfl) ?_
                  refine XU.run E0_ok 1 3 [3, 4, 5, 7, 10, 11, 29, 30, 79] rfl (σ' := [(3, .int .i64 x3_1), (4, .slice (some ⟨0, 0, none⟩) lh0_1.length lh0_1.length), (5, .slice (some ⟨1, 0, none⟩) lh1_1.length lh1_1.length), (7, .string r13), (10, .int .i64 r16), (11, .int .i64 r17.1), (29, .int .u16 x29_1), (30, .int .u16 x30_1), (79, .bool (r17.2 != 0))]) (by kernel_rfl) ?_
                  cases b8 : (r17.2 != 0 : Bool) with
                  | true =>
                    have h := cT b8 h
                    refine XU.run E0_ok 1 25 [3, 4, 5, 29, 30, 104] rfl (σ' := [(3, .int .i64 x3_1), (4, .slice (some ⟨0, 0, none⟩) lh0_1.length lh0_1.length), (5, .slice (some ⟨1, 0, none⟩) lh1_1.length lh1_1.length), (29, .int .u16 x29_1), (30, .int .u16 x30_1), (104, .bool true)]) (by kernel_rfl) ?_
                    refine XU.done (by kernel_rfl) ?_
                    show XQ _ _ _ _ _ _ _ _
                    refine XQ.cond (s := (.tmp 104)) (b := true) (by kernel_rfl) (by kernel_rfl) (fun _ => ?_) (fun q => by cases q)
                    refine XQ.seq E0_ok (by kernel_rfl) ?_
                    refine XQ.region (by kernel_rfl) ?_
                    refine XR.run E0_ok 1 1 [2] rfl (σ' := [(2, .bool false)]) (h' := [(1, .cells (rowC (encI .i64) (List.set lh1_1 (Int.toNat r16) (w64 ((List.getD lh1_1 (Int.toNat r16) 0) + 1)))) 0 3 1), (0, .cells (rowC encS (List.set lh0_1 (Int.toNat r16) r13)) 0 9 1)]) (c' := 2) (by kernel_rfl) ?_
                    refine XR.done (by kernel_rfl) ?_
                    show XQ _ _ _ _ _ _ _ _
                    refine XQ.ren (σ' := [(2, .bool false)]) (h' := []) (c' := 0) [] (by decide) rfl ⟨by kernel_rfl, trivial⟩ trivial rfl ?_
                    refine XQ.ret (by kernel_rfl) ?_
                    cases h
                    exact hQ
                  | false =>
                    have h := cF b8 h
                    refine XU.run E0_ok 1 4 [3, 4, 5, 7, 10, 11, 29, 30, 83] rfl (σ' := [(3, .int .i64 x3_1), (4, .slice (some ⟨0, 0, none⟩) lh0_1.length lh0_1.length), (5, .slice (some ⟨1, 0, none⟩) lh1_1.length lh1_1.length), (7, .string r13), (10, .int .i64 r16), (11, .int .i64 r17.1), (29, .int .u16 x29_1), (30, .int .u16 x30_1), (83, .bool (decide (r17.1 < 0)))]) (by kernel_rfl) ?_
                    cases b9 : (decide (r17.1 < 0) : Bool) with
                    | true =>
                      have h := cT b9 h
                      refine XU.run E0_ok 1 21 [3, 4, 5, 29, 30, 104] rfl (σ' := [(3, .int .i64 x3_1), (4, .slice (some ⟨0, 0, none⟩) lh0_1.length lh0_1.length), (5, .slice (some ⟨1, 0, none⟩) lh1_1.length lh1_1.length), (29, .int .u16 x29_1), (30, .int .u16 x30_1), (104, .bool true)]) (by kernel_rfl) ?_
                      refine XU.done (by kernel_rfl) ?_
                      show XQ _ _ _ _ _ _ _ _
                      refine XQ.cond (s := (.tmp 104)) (b := true) (by kernel_rfl) (by kernel_rfl) (fun _ => ?_) (fun q => by cases q)
                      refine XQ.seq E0_ok (by kernel_rfl) ?_
                      refine XQ.region (by kernel_rfl) ?_
                      refine XR.run E0_ok 1 1 [2] rfl (σ' := [(2, .bool false)]) (h' := [(1, .cells (rowC (encI .i64) (List.set lh1_1 (Int.toNat r16) (w64 ((List.getD lh1_1 (Int.toNat r16) 0) + 1)))) 0 3 1), (0, .cells (rowC encS (List.set lh0_1 (Int.toNat r16) r13)) 0 9 1)]) (c' := 2) (by kernel_rfl) ?_
                      refine XR.done (by kernel_rfl) ?_
                      show XQ _ _ _ _ _ _ _ _
                      refine XQ.ren (σ' := [(2, .bool false)]) (h' := []) (c' := 0) [] (by decide) rfl ⟨by kernel_rfl, trivial⟩ trivial rfl ?_
                      refine XQ.ret (by kernel_rfl) ?_
                      cases h
                      exact hQ
                    | false =>
                      have h := cF b9 h
                      refine XU.run E0_ok 1 5 [3, 4, 5, 7, 10, 11, 29, 30, 88] rfl (σ' := [(3, .int .i64 x3_1), (4, .slice (some ⟨0, 0, none⟩) lh0_1.length lh0_1.length), (5, .slice (some ⟨1, 0, none⟩) lh1_1.length lh1_1.length), (7, .string r13), (10, .int .i64 r16), (11, .int .i64 r17.1), (29, .int .u16 x29_1), (30, .int .u16 x30_1), (88, .bool (decide (r17.1 ≥ x3_1)))]) (by kernel_rfl) ?_
                      cases b10 : (decide (r17.1 ≥ x3_1) : Bool) with
                      | true =>
                        have h := cT b10 h
                        refine XU.run E0_ok 1 16 [3, 4, 5, 29, 30, 104] rfl (σ' := [(3, .int .i64 x3_1), (4, .slice (some ⟨0, 0, none⟩) lh0_1.length lh0_1.length), (5, .slice (some ⟨1, 0, none⟩) lh1_1.length lh1_1.length), (29, .int .u16 x29_1), (30, .int .u16 x30_1), (104, .bool true)]) (by kernel_rfl) ?_
                        refine XU.done (by kernel_rfl) ?_
                        show XQ _ _ _ _ _ _ _ _
                        refine XQ.cond (s := (.tmp 104)) (b := true) (by kernel_rfl) (by kernel_rfl) (fun _ => ?_) (fun q => by cases q)
                        refine XQ.seq E0_ok (by kernel_rfl) ?_
                        refine XQ.region (by kernel_rfl) ?_
                        refine XR.run E0_ok 1 1 [2] rfl (σ' := [(2, .bool false)]) (h' := [(1, .cells (rowC (encI .i64) (List.set lh1_1 (Int.toNat r16) (w64 ((List.getD lh1_1 (Int.toNat r16) 0) + 1)))) 0 3 1), (0, .cells (rowC encS (List.set lh0_1 (Int.toNat r16) r13)) 0 9 1)]) (c' := 2) (by kernel_rfl) ?_
                        refine XR.done (by kernel_rfl) ?_
                        show XQ _ _ _ _ _ _ _ _
                        refine XQ.ren (σ' := [(2, .bool false)]) (h' := []) (c' := 0) [] (by decide) rfl ⟨by kernel_rfl, trivial⟩ trivial rfl ?_
                        refine XQ.ret (by kernel_rfl) ?_
                        cases h
                        exact hQ
                      | false =>
                        have h := cF b10 h
                        refine XU.run E0_ok 1 2 [3, 4, 5, 7, 10, 11, 29, 30, 88, 89, 90] rfl (σ' := [(3, .int .i64 x3_1), (4, .slice (some ⟨0, 0, none⟩) lh0_1.length lh0_1.length), (5, .slice (some ⟨1, 0, none⟩) lh1_1.length lh1_1.length), (7, .string r13), (10, .int .i64 r16), (11, .int .i64 r17.1), (29, .int .u16 x29_1), (30, .int .u16 x30_1), (88, .bool false), (89, .slice (some ⟨0, 0, none⟩) lh0_1.length lh0_1.length), (90, .int .i64 r16)]) (by kernel_rfl) ?_
                        refine XU.rd E0_ok [3, 4, 5, 7, 10, 11, 29, 30, 88, 91] rfl (v := .pointer (some ⟨0, (Int.toNat r16) * 1, none⟩)) (v_idx (s := 1) (x := (src 158 (.tmp 89))) (y := (src 158 (.tmp 90))) (b := 0) (o := 0) (len := lh0_1.length) (cap := lh0_1.length) (ik := .i64) (i := r16) (off := (Int.toNat r16) * 1) (d := (some (path 12 91))) (by kernel_rfl) (by kernel_rfl) (by kernel_rfl) b6 (by omega)) (σ' := [(3, .int .i64 x3_1), (4, .slice (some ⟨0, 0, none⟩) lh0_1.length lh0_1.length), (5, .slice (some ⟨1, 0, none⟩) lh1_1.length lh1_1.length), (7, .string r13), (10, .int .i64 r16), (11, .int .i64 r17.1), (29, .int .u16 x29_1), (30, .int .u16 x30_1), (88, .bool false), (91, .pointer (some ⟨0, (Int.toNat r16) * 1, none⟩))]) (by kernel_rfl) ?_
                        refine XU.rd E0_ok [3, 4, 5, 7, 10, 11, 29, 30, 88, 92] rfl (v := .string (List.getD (List.set lh0_1 (Int.toNat r16) r13) (Int.toNat r16) (bs []))) (v_load1 encS_ok (x := (src 158 (.tmp 91))) (b := 0) (off := (Int.toNat r16) * 1) (xs := List.set lh0_1 (Int.toNat r16) r13) (fz := 0) (e := 9) (es := 1) (d := (some (path 12 92))) (by kernel_rfl) (by kernel_rfl) (by kernel_rfl) (Int.toNat r16) 0 (bs []) (by first | rfl | omega) (row_len (inRow_toNat b6) (by simp)) rfl rfl) (σ' := [(3, .int .i64 x3_1), (4, .slice (some ⟨0, 0, none⟩) lh0_1.length lh0_1.length), (5, .slice (some ⟨1, 0, none⟩) lh1_1.length lh1_1.length), (7, .string r13), (10, .int .i64 r16), (11, .int .i64 r17.1), (29, .int .u16 x29_1), (30, .int .u16 x30_1), (88, .bool false), (92, .string (List.getD (List.set lh0_1 (Int.toNat r16) r13) (Int.toNat r16) (bs [])))]) (by kernel_rfl) ?_
                        refine XU.run E0_ok 1 1 [3, 4, 5, 7, 10, 11, 29, 30, 88, 92, 93] rfl (σ' := [(3, .int .i64 x3_1), (4, .slice (some ⟨0, 0, none⟩) lh0_1.length lh0_1.length), (5, .slice (some ⟨1, 0, none⟩) lh1_1.length lh1_1.length), (7, .string r13), (10, .int .i64 r16), (11, .int .i64 r17.1), (29, .int .u16 x29_1), (30, .int .u16 x30_1), (88, .bool false), (92, .string (List.getD (List.set lh0_1 (Int.toNat r16) r13) (Int.toNat r16) (bs []))), (93, .int .i64 r17.1)]) (by kernel_rfl) ?_
                        cases b11 : (cutOk r17.1 ((List.getD (List.set lh0_1 (Int.toNat r16) r13) (Int.toNat r16) (bs [])).size : Int) (List.getD (List.set lh0_1 (Int.toNat r16) r13) (Int.toNat r16) (bs [])).size : Bool) with
                        | false => cases (cF b11 h)
                        | true =>
                          have h := cT b11 h
                          have e12 : insV (headI ((gsOf E0 158 (opsOf (lft (rgt (rgt (rgt (rgt (rgt (rgt (rgt (rgt (rgt (lft (lft (rgt (rgt f11_L1)))))))))))))))).drop 17) (trS 158 [(3, .int .i64 x3_1), (4, .slice (some ⟨0, 0, none⟩) lh0_1.length lh0_1.length), (5, .slice (some ⟨1, 0, none⟩) lh1_1.length lh1_1.length), (7, .string r13), (10, .int .i64 r16), (11, .int .i64 r17.1), (29, .int .u16 x29_1), (30, .int .u16 x30_1), (88, .bool false), (92, .string (List.getD (List.set lh0_1 (Int.toNat r16) r13) (Int.toNat r16) (bs []))), (93, .int .i64 r17.1)])) (trS 158 [(3, .int .i64 x3_1), (4, .slice (some ⟨0, 0, none⟩) lh0_1.length lh0_1.length), (5, .slice (some ⟨1, 0, none⟩) lh1_1.length lh1_1.length), (7, .string r13), (10, .int .i64 r16), (11, .int .i64 r17.1), (29, .int .u16 x29_1), (30, .int .u16 x30_1), (88, .bool false), (92, .string (List.getD (List.set lh0_1 (Int.toNat r16) r13) (Int.toNat r16) (bs []))), (93, .int .i64 r17.1)]) [(1, .cells (rowC (encI .i64) (List.set lh1_1 (Int.toNat r16) (w64 ((List.getD lh1_1 (Int.toNat r16) 0) + 1)))) 0 3 1), (0, .cells (rowC encS (List.set lh0_1 (Int.toNat r16) r13)) 0 9 1)] = (match (cutOk r17.1 ((List.getD (List.set lh0_1 (Int.toNat r16) r13) (Int.toNat r16) (bs [])).size : Int) (List.getD (List.set lh0_1 (Int.toNat r16) r13) (Int.toNat r16) (bs [])).size : Bool) with | true => some (.string (cutT (List.getD (List.set lh0_1 (Int.toNat r16) r13) (Int.toNat r16) (bs [])) r17.1 ((List.getD (List.set lh0_1 (Int.toNat r16) r13) (Int.toNat r16) (bs [])).size : Int))) | false => none) := by kernel_rfl
                          refine XU.rd E0_ok [3, 4, 5, 7, 10, 11, 29, 30, 88, 94] rfl (e12.trans (by rw [b11])) (σ' := [(3, .int .i64 x3_1), (4, .slice (some ⟨0, 0, none⟩) lh0_1.length lh0_1.length), (5, .slice (some ⟨1, 0, none⟩) lh1_1.length lh1_1.length), (7, .string r13), (10, .int .i64 r16), (11, .int .i64 r17.1), (29, .int .u16 x29_1), (30, .int .u16 x30_1), (88, .bool false), (94, .string (cutT (List.getD (List.set lh0_1 (Int.toNat r16) r13) (Int.toNat r16) (bs [])) r17.1 ((List.getD (List.set lh0_1 (Int.toNat r16) r13) (Int.toNat r16) (bs [])).size : Int)))]) (by kernel_rfl) ?_
                          refine XU.run E0_ok 1 2 [3, 4, 5, 7, 11, 29, 30, 88, 94, 95, 96] rfl (σ' := [(3, .int .i64 x3_1), (4, .slice (some ⟨0, 0, none⟩) lh0_1.length lh0_1.length), (5, .slice (some ⟨1, 0, none⟩) lh1_1.length lh1_1.length), (7, .string r13), (11, .int .i64 r17.1), (29, .int .u16 x29_1), (30, .int .u16 x30_1), (88, .bool false), (94, .string (cutT (List.getD (List.set lh0_1 (Int.toNat r16) r13) (Int.toNat r16) (bs [])) r17.1 ((List.getD (List.set lh0_1 (Int.toNat r16) r13) (Int.toNat r16) (bs [])).size : Int))), (95, .slice (some ⟨0, 0, none⟩) lh0_1.length lh0_1.length), (96, .int .i64 r16)]) (by kernel_rfl) ?_
                          refine XU.rd E0_ok [3, 4, 5, 7, 11, 29, 30, 88, 94, 97] rfl (v := .pointer (some ⟨0, (Int.toNat r16) * 1, none⟩)) (v_idx (s := 1) (x := (src 158 (.tmp 95))) (y := (src 158 (.tmp 96))) (b := 0) (o := 0) (len := lh0_1.length) (cap := lh0_1.length) (ik := .i64) (i := r16) (off := (Int.toNat r16) * 1) (d := (some (path 12 97))) (by kernel_rfl) (by kernel_rfl) (by kernel_rfl) b6 (by omega)) (σ' := [(3, .int .i64 x3_1), (4, .slice (some ⟨0, 0, none⟩) lh0_1.length lh0_1.length), (5, .slice (some ⟨1, 0, none⟩) lh1_1.length lh1_1.length), (7, .string r13), (11, .int .i64 r17.1), (29, .int .u16 x29_1), (30, .int .u16 x30_1), (88, .bool false), (94, .string (cutT (List.getD (List.set lh0_1 (Int.toNat r16) r13) (Int.toNat r16) (bs [])) r17.1 ((List.getD (List.set lh0_1 (Int.toNat r16) r13) (Int.toNat r16) (bs [])).size : Int))), (97, .pointer (some ⟨0, (Int.toNat r16) * 1, none⟩))]) (by kernel_rfl) ?_
                          refine XU.rd E0_ok [3, 4, 5, 7, 11, 29, 30, 88, 94, 98] rfl (v := .string (List.getD (List.set lh0_1 (Int.toNat r16) r13) (Int.toNat r16) (bs []))) (v_load1 encS_ok (x := (src 158 (.tmp 97))) (b := 0) (off := (Int.toNat r16) * 1) (xs := List.set lh0_1 (Int.toNat r16) r13) (fz := 0) (e := 9) (es := 1) (d := (some (path 12 98))) (by kernel_rfl) (by kernel_rfl) (by kernel_rfl) (Int.toNat r16) 0 (bs []) (by first | rfl | omega) (row_len (inRow_toNat b6) (by simp)) rfl rfl) (σ' := [(3, .int .i64 x3_1), (4, .slice (some ⟨0, 0, none⟩) lh0_1.length lh0_1.length), (5, .slice (some ⟨1, 0, none⟩) lh1_1.length lh1_1.length), (7, .string r13), (11, .int .i64 r17.1), (29, .int .u16 x29_1), (30, .int .u16 x30_1), (88, .bool false), (94, .string (cutT (List.getD (List.set lh0_1 (Int.toNat r16) r13) (Int.toNat r16) (bs [])) r17.1 ((List.getD (List.set lh0_1 (Int.toNat r16) r13) (Int.toNat r16) (bs [])).size : Int))), (98, .string (List.getD (List.set lh0_1 (Int.toNat r16) r13) (Int.toNat r16) (bs [])))]) (by kernel_rfl) ?_
                          refine XU.run E0_ok 1 1 [3, 4, 5, 7, 29, 30, 88, 94, 98, 99] rfl (σ' := [(3, .int .i64 x3_1), (4, .slice (some ⟨0, 0, none⟩) lh0_1.length lh0_1.length), (5, .slice (some ⟨1, 0, none⟩) lh1_1.length lh1_1.length), (7, .string r13), (29, .int .u16 x29_1), (30, .int .u16 x30_1), (88, .bool false), (94, .string (cutT (List.getD (List.set lh0_1 (Int.toNat r16) r13) (Int.toNat r16) (bs [])) r17.1 ((List.getD (List.set lh0_1 (Int.toNat r16) r13) (Int.toNat r16) (bs [])).size : Int))), (98, .string (List.getD (List.set lh0_1 (Int.toNat r16) r13) (Int.toNat r16) (bs []))), (99, .int .i64 r17.1)]) (by kernel_rfl) ?_
                          cases b13 : (cutOk 0 r17.1 (List.getD (List.set lh0_1 (Int.toNat r16) r13) (Int.toNat r16) (bs [])).size : Bool) with
                          | false => cases (cF b13 h)
                          | true =>
                            have h := cT b13 h
                            have e14 : insV (headI ((gsOf E0 158 (opsOf (lft (rgt (rgt (rgt (rgt (rgt (rgt (rgt (rgt (rgt (lft (lft (rgt (rgt f11_L1)))))))))))))))).drop 23) (trS 158 [(3, .int .i64 x3_1), (4, .slice (some ⟨0, 0, none⟩) lh0_1.length lh0_1.length), (5, .slice (some ⟨1, 0, none⟩) lh1_1.length lh1_1.length), (7, .string r13), (29, .int .u16 x29_1), (30, .int .u16 x30_1), (88, .bool false), (94, .string (cutT (List.getD (List.set lh0_1 (Int.toNat r16) r13) (Int.toNat r16) (bs [])) r17.1 ((List.getD (List.set lh0_1 (Int.toNat r16) r13) (Int.toNat r16) (bs [])).size : Int))), (98, .string (List.getD (List.set lh0_1 (Int.toNat r16) r13) (Int.toNat r16) (bs []))), (99, .int .i64 r17.1)])) (trS 158 [(3, .int .i64 x3_1), (4, .slice (some ⟨0, 0, none⟩) lh0_1.length lh0_1.length), (5, .slice (some ⟨1, 0, none⟩) lh1_1.length lh1_1.length), (7, .string r13), (29, .int .u16 x29_1), (30, .int .u16 x30_1), (88, .bool false), (94, .string (cutT (List.getD (List.set lh0_1 (Int.toNat r16) r13) (Int.toNat r16) (bs [])) r17.1 ((List.getD (List.set lh0_1 (Int.toNat r16) r13) (Int.toNat r16) (bs [])).size : Int))), (98, .string (List.getD (List.set lh0_1 (Int.toNat r16) r13) (Int.toNat r16) (bs []))), (99, .int .i64 r17.1)]) [(1, .cells (rowC (encI .i64) (List.set lh1_1 (Int.toNat r16) (w64 ((List.getD lh1_1 (Int.toNat r16) 0) + 1)))) 0 3 1), (0, .cells (rowC encS (List.set lh0_1 (Int.toNat r16) r13)) 0 9 1)] = (match (cutOk 0 r17.1 (List.getD (List.set lh0_1 (Int.toNat r16) r13) (Int.toNat r16) (bs [])).size : Bool) with | true => some (.string (cutT (List.getD (List.set lh0_1 (Int.toNat r16) r13) (Int.toNat r16) (bs [])) 0 r17.1)) | false => none) := by kernel_rfl
                            refine XU.rd E0_ok [3, 4, 5, 7, 29, 30, 88, 94, 100] rfl (e14.trans (by rw [b13])) (σ' := [(3, .int .i64 x3_1), (4, .slice (some ⟨0, 0, none⟩) lh0_1.length lh0_1.length), (5, .slice (some ⟨1, 0, none⟩) lh1_1.length lh1_1.length), (7, .string r13), (29, .int .u16 x29_1), (30, .int .u16 x30_1), (88, .bool false), (94, .string (cutT (List.getD (List.set lh0_1 (Int.toNat r16) r13) (Int.toNat r16) (bs [])) r17.1 ((List.getD (List.set lh0_1 (Int.toNat r16) r13) (Int.toNat r16) (bs [])).size : Int))), (100, .string (cutT (List.getD (List.set lh0_1 (Int.toNat r16) r13) (Int.toNat r16) (bs [])) 0 r17.1))]) (by kernel_rfl) ?_
                            cases b15 : (Nat.ble ((cutT (List.getD (List.set lh0_1 (Int.toNat r16) r13) (Int.toNat r16) (bs [])) r17.1 ((List.getD (List.set lh0_1 (Int.toNat r16) r13) (Int.toNat r16) (bs [])).size : Int)).size + (cutT (List.getD (List.set lh0_1 (Int.toNat r16) r13) (Int.toNat r16) (bs [])) 0 r17.1).size) 9223372036854775807 : Bool) with
                            | false => cases (cF b15 h)
                            | true =>
                              have h := cT b15 h
                              have e16 : insV (headI ((gsOf E0 158 (opsOf (lft (rgt (rgt (rgt (rgt (rgt (rgt (rgt (rgt (rgt (lft (lft (rgt (rgt f11_L1)))))))))))))))).drop 24) (trS 158 [(3, .int .i64 x3_1), (4, .slice (some ⟨0, 0, none⟩) lh0_1.length lh0_1.length), (5, .slice (some ⟨1, 0, none⟩) lh1_1.length lh1_1.length), (7, .string r13), (29, .int .u16 x29_1), (30, .int .u16 x30_1), (88, .bool false), (94, .string (cutT (List.getD (List.set lh0_1 (Int.toNat r16) r13) (Int.toNat r16) (bs [])) r17.1 ((List.getD (List.set lh0_1 (Int.toNat r16) r13) (Int.toNat r16) (bs [])).size : Int))), (100, .string (cutT (List.getD (List.set lh0_1 (Int.toNat r16) r13) (Int.toNat r16) (bs [])) 0 r17.1))])) (trS 158 [(3, .int .i64 x3_1), (4, .slice (some ⟨0, 0, none⟩) lh0_1.length lh0_1.length), (5, .slice (some ⟨1, 0, none⟩) lh1_1.length lh1_1.length), (7, .string r13), (29, .int .u16 x29_1), (30, .int .u16 x30_1), (88, .bool false), (94, .string (cutT (List.getD (List.set lh0_1 (Int.toNat r16) r13) (Int.toNat r16) (bs [])) r17.1 ((List.getD (List.set lh0_1 (Int.toNat r16) r13) (Int.toNat r16) (bs [])).size : Int))), (100, .string (cutT (List.getD (List.set lh0_1 (Int.toNat r16) r13) (Int.toNat r16) (bs [])) 0 r17.1))]) [(1, .cells (rowC (encI .i64) (List.set lh1_1 (Int.toNat r16) (w64 ((List.getD lh1_1 (Int.toNat r16) 0) + 1)))) 0 3 1), (0, .cells (rowC encS (List.set lh0_1 (Int.toNat r16) r13)) 0 9 1)] = (match (Nat.ble ((cutT (List.getD (List.set lh0_1 (Int.toNat r16) r13) (Int.toNat r16) (bs [])) r17.1 ((List.getD (List.set lh0_1 (Int.toNat r16) r13) (Int.toNat r16) (bs [])).size : Int)).size + (cutT (List.getD (List.set lh0_1 (Int.toNat r16) r13) (Int.toNat r16) (bs [])) 0 r17.1).size) 9223372036854775807 : Bool) with | true => some (.string (catS (cutT (List.getD (List.set lh0_1 (Int.toNat r16) r13) (Int.toNat r16) (bs [])) r17.1 ((List.getD (List.set lh0_1 (Int.toNat r16) r13) (Int.toNat r16) (bs [])).size : Int)) (cutT (List.getD (List.set lh0_1 (Int.toNat r16) r13) (Int.toNat r16) (bs [])) 0 r17.1))) | false => none) := by kernel_rfl
                              refine XU.rd E0_ok [3, 4, 5, 7, 29, 30, 88, 101] rfl (e16.trans (by rw [b15])) (σ' := [(3, .int .i64 x3_1), (4, .slice (some ⟨0, 0, none⟩) lh0_1.length lh0_1.length), (5, .slice (some ⟨1, 0, none⟩) lh1_1.length lh1_1.length), (7, .string r13), (29, .int .u16 x29_1), (30, .int .u16 x30_1), (88, .bool false), (101, .string (catS (cutT (List.getD (List.set lh0_1 (Int.toNat r16) r13) (Int.toNat r16) (bs [])) r17.1 ((List.getD (List.set lh0_1 (Int.toNat r16) r13) (Int.toNat r16) (bs [])).size : Int)) (cutT (List.getD (List.set lh0_1 (Int.toNat r16) r13) (Int.toNat r16) (bs [])) 0 r17.1)))]) (by kernel_rfl) ?_
                              refine XU.run E0_ok 1 3 [3, 4, 5, 29, 30, 104] rfl (σ' := [(3, .int .i64 x3_1), (4, .slice (some ⟨0, 0, none⟩) lh0_1.length lh0_1.length), (5, .slice (some ⟨1, 0, none⟩) lh1_1.length lh1_1.length), (29, .int .u16 x29_1), (30, .int .u16 x30_1), (104, .bool (!((catS (cutT (List.getD (List.set lh0_1 (Int.toNat r16) r13) (Int.toNat r16) (bs [])) r17.1 ((List.getD (List.set lh0_1 (Int.toNat r16) r13) (Int.toNat r16) (bs [])).size : Int)) (cutT (List.getD (List.set lh0_1 (Int.toNat r16) r13) (Int.toNat r16) (bs [])) 0 r17.1)).data.toList == r13.data.toList)))]) (by kernel_rfl) ?_
                              refine XU.done (by kernel_rfl) ?_
                              show XQ _ _ _ _ _ _ _ _
                              cases b17 : (!((catS (cutT (List.getD (List.set lh0_1 (Int.toNat r16) r13) (Int.toNat r16) (bs [])) r17.1 ((List.getD (List.set lh0_1 (Int.toNat r16) r13) (Int.toNat r16) (bs [])).size : Int)) (cutT (List.getD (List.set lh0_1 (Int.toNat r16) r13) (Int.toNat r16) (bs [])) 0 r17.1)).data.toList == r13.data.toList) : Bool) with
                              | true =>
                                have h := cT b17 h
                                refine XQ.cond (s := (.tmp 104)) (b := true) (by kernel_rfl) (by kernel_rfl) (fun _ => ?_) (fun q => by cases q)
                                refine XQ.seq E0_ok (by kernel_rfl) ?_
                                refine XQ.region (by kernel_rfl) ?_
                                refine XR.run E0_ok 1 1 [2] rfl (σ' := [(2, .bool false)]) (h' := [(1, .cells (rowC (encI .i64) (List.set lh1_1 (Int.toNat r16) (w64 ((List.getD lh1_1 (Int.toNat r16) 0) + 1)))) 0 3 1), (0, .cells (rowC encS (List.set lh0_1 (Int.toNat r16) r13)) 0 9 1)]) (c' := 2) (by kernel_rfl) ?_
                                refine XR.done (by kernel_rfl) ?_
                                show XQ _ _ _ _ _ _ _ _
                                refine XQ.ren (σ' := [(2, .bool false)]) (h' := []) (c' := 0) [] (by decide) rfl ⟨by kernel_rfl, trivial⟩ trivial rfl ?_
                                refine XQ.ret (by kernel_rfl) ?_
                                cases h
                                exact hQ
                              | false =>
                                have h := cF b17 h
                                refine XQ.cond (s := (.tmp 104)) (b := false) (by kernel_rfl) (by kernel_rfl) (fun q => by cases q) (fun _ => ?_)
                                refine XQ.skip (by kernel_rfl) ?_
                                show XQ _ _ _ _ _ _ _ _
                                refine XQ.region (by kernel_rfl) ?_
                                refine XR.run E0_ok 1 2 [3, 4, 5, 29, 30] rfl (σ' := [(3, .int .i64 x3_1), (4, .slice (some ⟨0, 0, none⟩) lh0_1.length lh0_1.length), (5, .slice (some ⟨1, 0, none⟩) lh1_1.length lh1_1.length), (29, .int .u16 x29_1), (30, .int .u16 (IntKind.wrap .u16 (x30_1 + 1)))]) (h' := [(1, .cells (rowC (encI .i64) (List.set lh1_1 (Int.toNat r16) (w64 ((List.getD lh1_1 (Int.toNat r16) 0) + 1)))) 0 3 1), (0, .cells (rowC encS (List.set lh0_1 (Int.toNat r16) r13)) 0 9 1)]) (c' := 2) (by kernel_rfl) ?_
                                refine XR.done (by kernel_rfl) ?_
                                show XL _ _ _ _ _ _ _ _ _
                                refine XL.ren (σ' := [(3, .int .i64 x3_1), (4, .slice (some ⟨0, 0, none⟩) lh0_1.length lh0_1.length), (5, .slice (some ⟨1, 0, none⟩) lh1_1.length lh1_1.length), (29, .int .u16 x29_1), (30, .int .u16 (IntKind.wrap .u16 (x30_1 + 1)))]) (h' := [(1, .cells (rowC (encI .i64) (List.set lh1_1 (Int.toNat r16) (w64 ((List.getD lh1_1 (Int.toNat r16) 0) + 1)))) 0 3 1), (0, .cells (rowC encS (List.set lh0_1 (Int.toNat r16) r13)) 0 9 1)]) (c' := 2) [0, 1] (by decide) rfl ⟨by kernel_rfl, by kernel_rfl, by kernel_rfl, by kernel_rfl, by kernel_rfl, trivial⟩ ⟨⟨_, _, rfl, rfl, .inl ⟨rfl, rowC_scal (encI_ok .i64) _⟩⟩, ⟨_, _, rfl, rfl, .inl ⟨rfl, rowC_scal encS_ok _⟩⟩, trivial⟩ rfl ?_
                                refine XL.conv (f11_1_ok m fuel x3_1 x29_1 (IntKind.wrap .u16 (x30_1 + 1)) (List.set lh0_1 (Int.toNat r16) r13) (List.set lh1_1 (Int.toNat r16) (w64 ((List.getD lh1_1 (Int.toNat r16) 0) + 1))) o h Q hQ) (by first | rfl | simp)
                | false =>
                  have h := cF b7 h
                  refine XQ.cond (s := (.tmp 63)) (b := false) (by kernel_rfl) (by kernel_rfl) (fun q => by cases q) (fun _ => ?_)
                  refine XQ.skip (by kernel_rfl) ?_
                  show XQ _ _ _ _ _ _ _ _
                  refine XQ.seq E0_ok (by kernel_rfl) ?_
                  refine XQ.region (by kernel_rfl) ?_
                  refine XR.run E0_ok 1 2 [3, 4, 5, 7, 10, 29, 30, 69, 70] rfl (σ' := [(3, .int .i64 x3_1), (4, .slice (some ⟨0, 0, none⟩) lh0_1.length lh0_1.length), (5, .slice (some ⟨1, 0, none⟩) lh1_1.length lh1_1.length), (7, .string r13), (10, .int .i64 r16), (29, .int .u16 x29_1), (30, .int .u16 x30_1), (69, .slice (some ⟨0, 0, none⟩) lh0_1.length lh0_1.length), (70, .int .i64 r16)]) (h' := [(1, .cells (rowC (encI .i64) (List.set lh1_1 (Int.toNat r16) (w64 ((List.getD lh1_1 (Int.toNat r16) 0) + 1)))) 0 3 1), (0, .cells (rowC encS lh0_1) 0 9 1)]) (c' := 2) (by kernel_rfl) ?_
                  refine XR.rd E0_ok [3, 4, 5, 7, 10, 29, 30, 71] rfl (v := .pointer (some ⟨0, (Int.toNat r16) * 1, none⟩)) (v_idx (s := 1) (x := (src 158 (.tmp 69))) (y := (src 158 (.tmp 70))) (b := 0) (o := 0) (len := lh0_1.length) (cap := lh0_1.length) (ik := .i64) (i := r16) (off := (Int.toNat r16) * 1) (d := (some (path 12 71))) (by kernel_rfl) (by kernel_rfl) (by kernel_rfl) b6 (by omega)) (σ' := [(3, .int .i64 x3_1), (4, .slice (some ⟨0, 0, none⟩) lh0_1.length lh0_1.length), (5, .slice (some ⟨1, 0, none⟩) lh1_1.length lh1_1.length), (7, .string r13), (10, .int .i64 r16), (29, .int .u16 x29_1), (30, .int .u16 x30_1), (71, .pointer (some ⟨0, (Int.toNat r16) * 1, none⟩))]) (by kernel_rfl) ?_
                  refine XR.rd E0_ok [3, 4, 5, 7, 10, 29, 30, 72] rfl (v := .string (List.getD lh0_1 (Int.toNat r16) (bs []))) (v_load1 encS_ok (x := (src 158 (.tmp 71))) (b := 0) (off := (Int.toNat r16) * 1) (xs := lh0_1) (fz := 0) (e := 9) (es := 1) (d := (some (path 12 72))) (by kernel_rfl) (by kernel_rfl) (by kernel_rfl) (Int.toNat r16) 0 (bs []) (by first | rfl | omega) (row_len (inRow_toNat b6) (by simp)) rfl rfl) (σ' := [(3, .int .i64 x3_1), (4, .slice (some ⟨0, 0, none⟩) lh0_1.length lh0_1.length), (5, .slice (some ⟨1, 0, none⟩) lh1_1.length lh1_1.length), (7, .string r13), (10, .int .i64 r16), (29, .int .u16 x29_1), (30, .int .u16 x30_1), (72, .string (List.getD lh0_1 (Int.toNat r16) (bs [])))]) (by kernel_rfl) ?_
                  refine XR.run E0_ok 1 1 [3, 4, 5, 7, 10, 29, 30, 72, 73] rfl (σ' := [(3, .int .i64 x3_1), (4, .slice (some ⟨0, 0, none⟩) lh0_1.length lh0_1.length), (5, .slice (some ⟨1, 0, none⟩) lh1_1.length lh1_1.length), (7, .string r13), (10, .int .i64 r16), (29, .int .u16 x29_1), (30, .int .u16 x30_1), (72, .string (List.getD lh0_1 (Int.toNat r16) (bs []))), (73, .string r13)]) (h' := [(1, .cells (rowC (encI .i64) (List.set lh1_1 (Int.toNat r16) (w64 ((List.getD lh1_1 (Int.toNat r16) 0) + 1)))) 0 3 1), (0, .cells (rowC encS lh0_1) 0 9 1)]) (c' := 2) (by kernel_rfl) ?_
                  obtain ⟨r18, r18_h, h⟩ := bS h
                  refine XR.call E0_ok [3, 4, 5, 7, 10, 29, 30, 74] rfl (K := 31) (args := [.string (List.getD lh0_1 (Int.toNat r16) (bs [])), .string r13]) (d := (some (path 12 74))) (by kernel_rfl) (KC.of_calls E0_ok (F := Proofs.Try.f31) (v := .tuple #[.int .i64 r18.1, .int .i64 r18.2]) (by kernel_rfl) rfl rfl (fun w hI => f31_ok m (List.getD lh0_1 (Int.toNat r16) (bs [])) r13 r18 r18_h w hI)) ?_
                  rintro _ _ _ ⟨rfl, rfl, rfl⟩
                  refine XR.conv (σ' := [(3, .int .i64 x3_1), (4, .slice (some ⟨0, 0, none⟩) lh0_1.length lh0_1.length), (5, .slice (some ⟨1, 0, none⟩) lh1_1.length lh1_1.length), (7, .string r13), (10, .int .i64 r16), (29, .int .u16 x29_1), (30, .int .u16 x30_1), (74, .tuple #[.int .i64 r18.1, .int .i64 r18.2])]) (h' := [(1, .cells (rowC (encI .i64) (List.set lh1_1 (Int.toNat r16) (w64 ((List.getD lh1_1 (Int.toNat r16) 0) + 1)))) 0 3 1), (0, .cells (rowC encS lh0_1) 0 9 1)]) (c' := 2) ?_ (by kernel_rfl)
                  refine XR.run E0_ok 1 5 [3, 4, 5, 7, 10, 11, 12, 29, 30] rfl (σ' := [(3, .int .i64 x3_1), (4, .slice (some ⟨0, 0, none⟩) lh0_1.length lh0_1.length), (5, .slice (some ⟨1, 0, none⟩) lh1_1.length lh1_1.length), (7, .string r13), (10, .int .i64 r16), (11, .int .i64 r18.1), (12, .int .i64 r18.2), (29, .int .u16 x29_1), (30, .int .u16 x30_1)]) (h' := [(1, .cells (rowC (encI .i64) (List.set lh1_1 (Int.toNat r16) (w64 ((List.getD lh1_1 (Int.toNat r16) 0) + 1)))) 0 3 1), (0, .cells (rowC encS lh0_1) 0 9 1)]) (c' := 2) (by kernel_rfl) ?_
                  refine XR.done (by kernel_rfl) ?_
                  show XQ _ _ _ _ _ _ _ _
                  refine XQ.seq E0_ok (by kernel_rfl) ?_
                  refine XQ.quiet E0_ok (by kernel_rfl) (by kernel_rfl) ?_
                  refine XU.run E0_ok 1 3 [3, 4, 5, 7, 10, 11, 29, 30, 79] rfl (σ' := [(3, .int .i64 x3_1), (4, .slice (some ⟨0, 0, none⟩) lh0_1.length lh0_1.length), (5, .slice (some ⟨1, 0, none⟩) lh1_1.length lh1_1.length), (7, .string r13), (10, .int .i64 r16), (11, .int .i64 r18.1), (29, .int .u16 x29_1), (30, .int .u16 x30_1), (79, .bool (r18.2 != 0))]) (by kernel_rfl) ?_
                  cases b18 : (r18.2 != 0 : Bool) with
                  | true =>
                    have h := cT b18 h
                    refine XU.run E0_ok 1 25 [3, 4, 5, 29, 30, 104] rfl (σ' := [(3, .int .i64 x3_1), (4, .slice (some ⟨0, 0, none⟩) lh0_1.length lh0_1.length), (5, .slice (some ⟨1, 0, none⟩) lh1_1.length lh1_1.length), (29, .int .u16 x29_1), (30, .int .u16 x30_1), (104, .bool true)]) (by kernel_rfl) ?_
                    refine XU.done (by kernel_rfl) ?_
                    show XQ _ _ _ _ _ _ _ _
                    refine XQ.cond (s := (.tmp 104)) (b := true) (by kernel_rfl) (by kernel_rfl) (fun _ => ?_) (fun q => by cases q)
                    refine XQ.seq E0_ok (by kernel_rfl) ?_
                    refine XQ.region (by kernel_rfl) ?_
                    refine XR.run E0_ok 1 1 [2] rfl (σ' := [(2, .bool false)]) (h' := [(1, .cells (rowC (encI .i64) (List.set lh1_1 (Int.toNat r16) (w64 ((List.getD lh1_1 (Int.toNat r16) 0) + 1)))) 0 3 1), (0, .cells (rowC encS lh0_1) 0 9 1)]) (c' := 2) (by kernel_rfl) ?_
                    refine XR.done (by kernel_rfl) ?_
                    show XQ _ _ _ _ _ _ _ _
                    refine XQ.ren (σ' := [(2, .bool false)]) (h' := []) (c' := 0) [] (by decide) rfl ⟨by kernel_rfl, trivial⟩ trivial rfl ?_
                    refine XQ.ret (by kernel_rfl) ?_
                    cases h
                    exact hQ
                  | false =>
                    have h := cF b18 h
                    refine XU.run E0_ok 1 4 [3, 4, 5, 7, 10, 11, 29, 30, 83] rfl (σ' := [(3, .int .i64 x3_1), (4, .slice (some ⟨0, 0, none⟩) lh0_1.length lh0_1.length), (5, .slice (some ⟨1, 0, none⟩) lh1_1.length lh1_1.length), (7, .string r13), (10, .int .i64 r16), (11, .int .i64 r18.1), (29, .int .u16 x29_1), (30, .int .u16 x30_1), (83, .bool (decide (r18.1 < 0)))]) (by kernel_rfl) ?_
                    cases b19 : (decide (r18.1 < 0) : Bool) with
                    | true =>
                      have h := cT b19 h
                      refine XU.run E0_ok 1 21 [3, 4, 5, 29, 30, 104] rfl (σ' := [(3, .int .i64 x3_1), (4, .slice (some ⟨0, 0, none⟩) lh0_1.length lh0_1.length), (5, .slice (some ⟨1, 0, none⟩) lh1_1.length lh1_1.length), (29, .int .u16 x29_1), (30, .int .u16 x30_1), (104, .bool true)]) (by kernel_rfl) ?_
                      refine XU.done (by kernel_rfl) ?_
                      show XQ _ _ _ _ _ _ _ _
                      refine XQ.cond (s := (.tmp 104)) (b := true) (by kernel_rfl) (by kernel_rfl) (fun _ => ?_) (fun q => by cases q)
                      refine XQ.seq E0_ok (by kernel_rfl) ?_
                      refine XQ.region (by kernel_rfl) ?_
                      refine XR.run E0_ok 1 1 [2] rfl (σ' := [(2, .bool false)]) (h' := [(1, .cells (rowC (encI .i64) (List.set lh1_1 (Int.toNat r16) (w64 ((List.getD lh1_1 (Int.toNat r16) 0) + 1)))) 0 3 1), (0, .cells (rowC encS lh0_1) 0 9 1)]) (c' := 2) (by kernel_rfl) ?_
                      refine XR.done (by kernel_rfl) ?_
                      show XQ _ _ _ _ _ _ _ _
                      refine XQ.ren (σ' := [(2, .bool false)]) (h' := []) (c' := 0) [] (by decide) rfl ⟨by kernel_rfl, trivial⟩ trivial rfl ?_
                      refine XQ.ret (by kernel_rfl) ?_
                      cases h
                      exact hQ
                    | false =>
                      have h := cF b19 h
                      refine XU.run E0_ok 1 5 [3, 4, 5, 7, 10, 11, 29, 30, 88] rfl (σ' := [(3, .int .i64 x3_1), (4, .slice (some ⟨0, 0, none⟩) lh0_1.length lh0_1.length), (5, .slice (some ⟨1, 0, none⟩) lh1_1.length lh1_1.length), (7, .string r13), (10, .int .i64 r16), (11, .int .i64 r18.1), (29, .int .u16 x29_1), (30, .int .u16 x30_1), (88, .bool (decide (r18.1 ≥ x3_1)))]) (by kernel_rfl) ?_
                      cases b20 : (decide (r18.1 ≥ x3_1) : Bool) with
                      | true =>
                        have h := cT b20 h
                        refine XU.run E0_ok 1 16 [3, 4, 5, 29, 30, 104] rfl (σ' := [(3, .int .i64 x3_1), (4, .slice (some ⟨0, 0, none⟩) lh0_1.length lh0_1.length), (5, .slice (some ⟨1, 0, none⟩) lh1_1.length lh1_1.length), (29, .int .u16 x29_1), (30, .int .u16 x30_1), (104, .bool true)]) (by kernel_rfl) ?_
                        refine XU.done (by kernel_rfl) ?_
                        show XQ _ _ _ _ _ _ _ _
                        refine XQ.cond (s := (.tmp 104)) (b := true) (by kernel_rfl) (by kernel_rfl) (fun _ => ?_) (fun q => by cases q)
                        refine XQ.seq E0_ok (by kernel_rfl) ?_
                        refine XQ.region (by kernel_rfl) ?_
                        refine XR.run E0_ok 1 1 [2] rfl (σ' := [(2, .bool false)]) (h' := [(1, .cells (rowC (encI .i64) (List.set lh1_1 (Int.toNat r16) (w64 ((List.getD lh1_1 (Int.toNat r16) 0) + 1)))) 0 3 1), (0, .cells (rowC encS lh0_1) 0 9 1)]) (c' := 2) (by kernel_rfl) ?_
                        refine XR.done (by kernel_rfl) ?_
                        show XQ _ _ _ _ _ _ _ _
                        refine XQ.ren (σ' := [(2, .bool false)]) (h' := []) (c' := 0) [] (by decide) rfl ⟨by kernel_rfl, trivial⟩ trivial rfl ?_
                        refine XQ.ret (by kernel_rfl) ?_
                        cases h
                        exact hQ
                      | false =>
                        have h := cF b20 h
                        refine XU.run E0_ok 1 2 [3, 4, 5, 7, 10, 11, 29, 30, 88, 89, 90] rfl (σ' := [(3, .int .i64 x3_1), (4, .slice (some ⟨0, 0, none⟩) lh0_1.length lh0_1.length), (5, .slice (some ⟨1, 0, none⟩) lh1_1.length lh1_1.length), (7, .string r13), (10, .int .i64 r16), (11, .int .i64 r18.1), (29, .int .u16 x29_1), (30, .int .u16 x30_1), (88, .bool false), (89, .slice (some ⟨0, 0, none⟩) lh0_1.length lh0_1.length), (90, .int .i64 r16)]) (by kernel_rfl) ?_
                        refine XU.rd E0_ok [3, 4, 5, 7, 10, 11, 29, 30, 88, 91] rfl (v := .pointer (some ⟨0, (Int.toNat r16) * 1, none⟩)) (v_idx (s := 1) (x := (src 158 (.tmp 89))) (y := (src 158 (.tmp 90))) (b := 0) (o := 0) (len := lh0_1.length) (cap := lh0_1.length) (ik := .i64) (i := r16) (off := (Int.toNat r16) * 1) (d := (some (path 12 91))) (by kernel_rfl) (by kernel_rfl) (by kernel_rfl) b6 (by omega)) (σ' := [(3, .int .i64 x3_1), (4, .slice (some ⟨0, 0, none⟩) lh0_1.length lh0_1.length), (5, .slice (some ⟨1, 0, none⟩) lh1_1.length lh1_1.length), (7, .string r13), (10, .int .i64 r16), (11, .int .i64 r18.1), (29, .int .u16 x29_1), (30, .int .u16 x30_1), (88, .bool false), (91, .pointer (some ⟨0, (Int.toNat r16) * 1, none⟩))]) (by kernel_rfl) ?_
                        refine XU.rd E0_ok [3, 4, 5, 7, 10, 11, 29, 30, 88, 92] rfl (v := .string (List.getD lh0_1 (Int.toNat r16) (bs []))) (v_load1 encS_ok (x := (src 158 (.tmp 91))) (b := 0) (off := (Int.toNat r16) * 1) (xs := lh0_1) (fz := 0) (e := 9) (es := 1) (d := (some (path 12 92))) (by kernel_rfl) (by kernel_rfl) (by kernel_rfl) (Int.toNat r16) 0 (bs []) (by first | rfl | omega) (row_len (inRow_toNat b6) (by simp)) rfl rfl) (σ' := [(3, .int .i64 x3_1), (4, .slice (some ⟨0, 0, none⟩) lh0_1.length lh0_1.length), (5, .slice (some ⟨1, 0, none⟩) lh1_1.length lh1_1.length), (7, .string r13), (10, .int .i64 r16), (11, .int .i64 r18.1), (29, .int .u16 x29_1), (30, .int .u16 x30_1), (88, .bool false), (92, .string (List.getD lh0_1 (Int.toNat r16) (bs [])))]) (by kernel_rfl) ?_
                        refine XU.run E0_ok 1 1 [3, 4, 5, 7, 10, 11, 29, 30, 88, 92, 93] rfl (σ' := [(3, .int .i64 x3_1), (4, .slice (some ⟨0, 0, none⟩) lh0_1.length lh0_1.length), (5, .slice (some ⟨1, 0, none⟩) lh1_1.length lh1_1.length), (7, .string r13), (10, .int .i64 r16), (11, .int .i64 r18.1), (29, .int .u16 x29_1), (30, .int .u16 x30_1), (88, .bool false), (92, .string (List.getD lh0_1 (Int.toNat r16) (bs []))), (93, .int .i64 r18.1)]) (by kernel_rfl) ?_
                        cases b21 : (cutOk r18.1 ((List.getD lh0_1 (Int.toNat r16) (bs [])).size : Int) (List.getD lh0_1 (Int.toNat r16) (bs [])).size : Bool) with
                        | false => cases (cF b21 h)
                        | true =>
                          have h := cT b21 h
                          have e22 : insV (headI ((gsOf E0 158 (opsOf (lft (rgt (rgt (rgt (rgt (rgt (rgt (rgt (rgt (rgt (lft (lft (rgt (rgt f11_L1)))))))))))))))).drop 17) (trS 158 [(3, .int .i64 x3_1), (4, .slice (some ⟨0, 0, none⟩) lh0_1.length lh0_1.length), (5, .slice (some ⟨1, 0, none⟩) lh1_1.length lh1_1.length), (7, .string r13), (10, .int .i64 r16), (11, .int .i64 r18.1), (29, .int .u16 x29_1), (30, .int .u16 x30_1), (88, .bool false), (92, .string (List.getD lh0_1 (Int.toNat r16) (bs []))), (93, .int .i64 r18.1)])) (trS 158 [(3, .int .i64 x3_1), (4, .slice (some ⟨0, 0, none⟩) lh0_1.length lh0_1.length), (5, .slice (some ⟨1, 0, none⟩) lh1_1.length lh1_1.length), (7, .string r13), (10, .int .i64 r16), (11, .int .i64 r18.1), (29, .int .u16 x29_1), (30, .int .u16 x30_1), (88, .bool false), (92, .string (List.getD lh0_1 (Int.toNat r16) (bs []))), (93, .int .i64 r18.1)]) [(1, .cells (rowC (encI .i64) (List.set lh1_1 (Int.toNat r16) (w64 ((List.getD lh1_1 (Int.toNat r16) 0) + 1)))) 0 3 1), (0, .cells (rowC encS lh0_1) 0 9 1)] = (match (cutOk r18.1 ((List.getD lh0_1 (Int.toNat r16) (bs [])).size : Int) (List.getD lh0_1 (Int.toNat r16) (bs [])).size : Bool) with | true => some (.string (cutT (List.getD lh0_1 (Int.toNat r16) (bs [])) r18.1 ((List.getD lh0_1 (Int.toNat r16) (bs [])).size : Int))) | false => none) := by kernel_rfl
                          refine XU.rd E0_ok [3, 4, 5, 7, 10, 11, 29, 30, 88, 94] rfl (e22.trans (by rw [b21])) (σ' := [(3, .int .i64 x3_1), (4, .slice (some ⟨0, 0, none⟩) lh0_1.length lh0_1.length), (5, .slice (some ⟨1, 0, none⟩) lh1_1.length lh1_1.length), (7, .string r13), (10, .int .i64 r16), (11, .int .i64 r18.1), (29, .int .u16 x29_1), (30, .int .u16 x30_1), (88, .bool false), (94, .string (cutT (List.getD lh0_1 (Int.toNat r16) (bs [])) r18.1 ((List.getD lh0_1 (Int.toNat r16) (bs [])).size : Int)))]) (by kernel_rfl) ?_
                          refine XU.run E0_ok 1 2 [3, 4, 5, 7, 11, 29, 30, 88, 94, 95, 96] rfl (σ' := [(3, .int .i64 x3_1), (4, .slice (some ⟨0, 0, none⟩) lh0_1.length lh0_1.length), (5, .slice (some ⟨1, 0, none⟩) lh1_1.length lh1_1.length), (7, .string r13), (11, .int .i64 r18.1), (29, .int .u16 x29_1), (30, .int .u16 x30_1), (88, .bool false), (94, .string (cutT (List.getD lh0_1 (Int.toNat r16) (bs [])) r18.1 ((List.getD lh0_1 (Int.toNat r16) (bs [])).size : Int))), (95, .slice (some ⟨0, 0, none⟩) lh0_1.length lh0_1.length), (96, .int .i64 r16)]) (by kernel_rfl) ?_
                          refine XU.rd E0_ok [3, 4, 5, 7, 11, 29, 30, 88, 94, 97] rfl (v := .pointer (some ⟨0, (Int.toNat r16) * 1, none⟩)) (v_idx (s := 1) (x := (src 158 (.tmp 95))) (y := (src 158 (.tmp 96))) (b := 0) (o := 0) (len := lh0_1.length) (cap := lh0_1.length) (ik := .i64) (i := r16) (off := (Int.toNat r16) * 1) (d := (some (path 12 97))) (by kernel_rfl) (by kernel_rfl) (by kernel_rfl) b6 (by omega)) (σ' := [(3, .int .i64 x3_1), (4, .slice (some ⟨0, 0, none⟩) lh0_1.length lh0_1.length), (5, .slice (some ⟨1, 0, none⟩) lh1_1.length lh1_1.length), (7, .string r13), (11, .int .i64 r18.1), (29, .int .u16 x29_1), (30, .int .u16 x30_1), (88, .bool false), (94, .string (cutT (List.getD lh0_1 (Int.toNat r16) (bs [])) r18.1 ((List.getD lh0_1 (Int.toNat r16) (bs [])).size : Int))), (97, .pointer (some ⟨0, (Int.toNat r16) * 1, none⟩))]) (by kernel_rfl) ?_
                          refine XU.rd E0_ok [3, 4, 5, 7, 11, 29, 30, 88, 94, 98] rfl (v := .string (List.getD lh0_1 (Int.toNat r16) (bs []))) (v_load1 encS_ok (x := (src 158 (.tmp 97))) (b := 0) (off := (Int.toNat r16) * 1) (xs := lh0_1) (fz := 0) (e := 9) (es := 1) (d := (some (path 12 98))) (by kernel_rfl) (by kernel_rfl) (by kernel_rfl) (Int.toNat r16) 0 (bs []) (by first | rfl | omega) (row_len (inRow_toNat b6) (by simp)) rfl rfl) (σ' := [(3, .int .i64 x3_1), (4, .slice (some ⟨0, 0, none⟩) lh0_1.length lh0_1.length), (5, .slice (some ⟨1, 0, none⟩) lh1_1.length lh1_1.length), (7, .string r13), (11, .int .i64 r18.1), (29, .int .u16 x29_1), (30, .int .u16 x30_1), (88, .bool false), (94, .string (cutT (List.getD lh0_1 (Int.toNat r16) (bs [])) r18.1 ((List.getD lh0_1 (Int.toNat r16) (bs [])).size : Int))), (98, .string (List.getD lh0_1 (Int.toNat r16) (bs [])))]) (by kernel_rfl) ?_
                          refine XU.run E0_ok 1 1 [3, 4, 5, 7, 29, 30, 88, 94, 98, 99] rfl (σ' := [(3, .int .i64 x3_1), (4, .slice (some ⟨0, 0, none⟩) lh0_1.length lh0_1.length), (5, .slice (some ⟨1, 0, none⟩) lh1_1.length lh1_1.length), (7, .string r13), (29, .int .u16 x29_1), (30, .int .u16 x30_1), (88, .bool false), (94, .string (cutT (List.getD lh0_1 (Int.toNat r16) (bs [])) r18.1 ((List.getD lh0_1 (Int.toNat r16) (bs [])).size : Int))), (98, .string (List.getD lh0_1 (Int.toNat r16) (bs []))), (99, .int .i64 r18.1)]) (by kernel_rfl) ?_
                          cases b23 : (cutOk 0 r18.1 (List.getD lh0_1 (Int.toNat r16) (bs [])).size : Bool) with
                          | false => cases (cF b23 h)
                          | true =>
                            have h := cT b23 h
                            have e24 : insV (headI ((gsOf E0 158 (opsOf (lft (rgt (rgt (rgt (rgt (rgt (rgt (rgt (rgt (rgt (lft (lft (rgt (rgt f11_L1)))))))))))))))).drop 23) (trS 158 [(3, .int .i64 x3_1), (4, .slice (some ⟨0, 0, none⟩) lh0_1.length lh0_1.length), (5, .slice (some ⟨1, 0, none⟩) lh1_1.length lh1_1.length), (7, .string r13), (29, .int .u16 x29_1), (30, .int .u16 x30_1), (88, .bool false), (94, .string (cutT (List.getD lh0_1 (Int.toNat r16) (bs [])) r18.1 ((List.getD lh0_1 (Int.toNat r16) (bs [])).size : Int))), (98, .string (List.getD lh0_1 (Int.toNat r16) (bs []))), (99, .int .i64 r18.1)])) (trS 158 [(3, .int .i64 x3_1), (4, .slice (some ⟨0, 0, none⟩) lh0_1.length lh0_1.length), (5, .slice (some ⟨1, 0, none⟩) lh1_1.length lh1_1.length), (7, .string r13), (29, .int .u16 x29_1), (30, .int .u16 x30_1), (88, .bool false), (94, .string (cutT (List.getD lh0_1 (Int.toNat r16) (bs [])) r18.1 ((List.getD lh0_1 (Int.toNat r16) (bs [])).size : Int))), (98, .string (List.getD lh0_1 (Int.toNat r16) (bs []))), (99, .int .i64 r18.1)]) [(1, .cells (rowC (encI .i64) (List.set lh1_1 (Int.toNat r16) (w64 ((List.getD lh1_1 (Int.toNat r16) 0) + 1)))) 0 3 1), (0, .cells (rowC encS lh0_1) 0 9 1)] = (match (cutOk 0 r18.1 (List.getD lh0_1 (Int.toNat r16) (bs [])).size : Bool) with | true => some (.string (cutT (List.getD lh0_1 (Int.toNat r16) (bs [])) 0 r18.1)) | false => none) := by kernel_rfl
                            refine XU.rd E0_ok [3, 4, 5, 7, 29, 30, 88, 94, 100] rfl (e24.trans (by rw [b23])) (σ' := [(3, .int .i64 x3_1), (4, .slice (some ⟨0, 0, none⟩) lh0_1.length lh0_1.length), (5, .slice (some ⟨1, 0, none⟩) lh1_1.length lh1_1.length), (7, .string r13), (29, .int .u16 x29_1), (30, .int .u16 x30_1), (88, .bool false), (94, .string (cutT (List.getD lh0_1 (Int.toNat r16) (bs [])) r18.1 ((List.getD lh0_1 (Int.toNat r16) (bs [])).size : Int))), (100, .string (cutT (List.getD lh0_1 (Int.toNat r16) (bs [])) 0 r18.1))]) (by kernel_rfl) ?_
                            cases b25 : (Nat.ble ((cutT (List.getD lh0_1 (Int.toNat r16) (bs [])) r18.1 ((List.getD lh0_1 (Int.toNat r16) (bs [])).size : Int)).size + (cutT (List.getD lh0_1 (Int.toNat r16) (bs [])) 0 r18.1).size) 9223372036854775807 : Bool) with
                            | false => cases (cF b25 h)
                            | true =>
                              have h := cT b25 h
                              have e26 : insV (headI ((gsOf E0 158 (opsOf (lft (rgt (rgt (rgt (rgt (rgt (rgt (rgt (rgt (rgt (lft (lft (rgt (rgt f11_L1)))))))))))))))).drop 24) (trS 158 [(3, .int .i64 x3_1), (4, .slice (some ⟨0, 0, none⟩) lh0_1.length lh0_1.length), (5, .slice (some ⟨1, 0, none⟩) lh1_1.length lh1_1.length), (7, .string r13), (29, .int .u16 x29_1), (30, .int .u16 x30_1), (88, .bool false), (94, .string (cutT (List.getD lh0_1 (Int.toNat r16) (bs [])) r18.1 ((List.getD lh0_1 (Int.toNat r16) (bs [])).size : Int))), (100, .string (cutT (List.getD lh0_1 (Int.toNat r16) (bs [])) 0 r18.1))])) (trS 158 [(3, .int .i64 x3_1), (4, .slice (some ⟨0, 0, none⟩) lh0_1.length lh0_1.length), (5, .slice (some ⟨1, 0, none⟩) lh1_1.length lh1_1.length), (7, .string r13), (29, .int .u16 x29_1), (30, .int .u16 x30_1), (88, .bool false), (94, .string (cutT (List.getD lh0_1 (Int.toNat r16) (bs [])) r18.1 ((List.getD lh0_1 (Int.toNat r16) (bs [])).size : Int))), (100, .string (cutT (List.getD lh0_1 (Int.toNat r16) (bs [])) 0 r18.1))]) [(1, .cells (rowC (encI .i64) (List.set lh1_1 (Int.toNat r16) (w64 ((List.getD lh1_1 (Int.toNat r16) 0) + 1)))) 0 3 1), (0, .cells (rowC encS lh0_1) 0 9 1)] = (match (Nat.ble ((cutT (List.getD lh0_1 (Int.toNat r16) (bs [])) r18.1 ((List.getD lh0_1 (Int.toNat r16) (bs [])).size : Int)).size + (cutT (List.getD lh0_1 (Int.toNat r16) (bs [])) 0 r18.1).size) 9223372036854775807 : Bool) with | true => some (.string (catS (cutT (List.getD lh0_1 (Int.toNat r16) (bs [])) r18.1 ((List.getD lh0_1 (Int.toNat r16) (bs [])).size : Int)) (cutT (List.getD lh0_1 (Int.toNat r16) (bs [])) 0 r18.1))) | false => none) := by kernel_rfl
                              refine XU.rd E0_ok [3, 4, 5, 7, 29, 30, 88, 101] rfl (e26.trans (by rw [b25])) (σ' := [(3, .int .i64 x3_1), (4, .slice (some ⟨0, 0, none⟩) lh0_1.length lh0_1.length), (5, .slice (some ⟨1, 0, none⟩) lh1_1.length lh1_1.length), (7, .string r13), (29, .int .u16 x29_1), (30, .int .u16 x30_1), (88, .bool false), (101, .string (catS (cutT (List.getD lh0_1 (Int.toNat r16) (bs [])) r18.1 ((List.getD lh0_1 (Int.toNat r16) (bs [])).size : Int)) (cutT (List.getD lh0_1 (Int.toNat r16) (bs [])) 0 r18.1)))]) (by kernel_rfl) ?_
                              refine XU.run E0_ok 1 3 [3, 4, 5, 29, 30, 104] rfl (σ' := [(3, .int .i64 x3_1), (4, .slice (some ⟨0, 0, none⟩) lh0_1.length lh0_1.length), (5, .slice (some ⟨1, 0, none⟩) lh1_1.length lh1_1.length), (29, .int .u16 x29_1), (30, .int .u16 x30_1), (104, .bool (!((catS (cutT (List.getD lh0_1 (Int.toNat r16) (bs [])) r18.1 ((List.getD lh0_1 (Int.toNat r16) (bs [])).size : Int)) (cutT (List.getD lh0_1 (Int.toNat r16) (bs [])) 0 r18.1)).data.toList == r13.data.toList)))]) (by kernel_rfl) ?_
                              refine XU.done (by kernel_rfl) ?_
                              show XQ _ _ _ _ _ _ _ _
                              cases b27 : (!((catS (cutT (List.getD lh0_1 (Int.toNat r16) (bs [])) r18.1 ((List.getD lh0_1 (Int.toNat r16) (bs [])).size : Int)) (cutT (List.getD lh0_1 (Int.toNat r16) (bs [])) 0 r18.1)).data.toList == r13.data.toList) : Bool) with
                              | true =>
                                have h := cT b27 h
                                refine XQ.cond (s := (.tmp 104)) (b := true) (by kernel_rfl) (by kernel_rfl) (fun _ => ?_) (fun q => by cases q)
                                refine XQ.seq E0_ok (by kernel_rfl) ?_
                                refine XQ.region (by kernel_rfl) ?_
                                refine XR.run E0_ok 1 1 [2] rfl (σ' := [(2, .bool false)]) (h' := [(1, .cells (rowC (encI .i64) (List.set lh1_1 (Int.toNat r16) (w64 ((List.getD lh1_1 (Int.toNat r16) 0) + 1)))) 0 3 1), (0, .cells (rowC encS lh0_1) 0 9 1)]) (c' := 2) (by kernel_rfl) ?_
                                refine XR.done (by kernel_rfl) ?_
                                show XQ _ _ _ _ _ _ _ _
                                refine XQ.ren (σ' := [(2, .bool false)]) (h' := []) (c' := 0) [] (by decide) rfl ⟨by kernel_rfl, trivial⟩ trivial rfl ?_
                                refine XQ.ret (by kernel_rfl) ?_
                                cases h
                                exact hQ
                              | false =>
                                have h := cF b27 h
                                refine XQ.cond (s := (.tmp 104)) (b := false) (by kernel_rfl) (by kernel_rfl) (fun q => by cases q) (fun _ => ?_)
                                refine XQ.skip (by kernel_rfl) ?_
                                show XQ _ _ _ _ _ _ _ _
                                refine XQ.region (by kernel_rfl) ?_
                                refine XR.run E0_ok 1 2 [3, 4, 5, 29, 30] rfl (σ' := [(3, .int .i64 x3_1), (4, .slice (some ⟨0, 0, none⟩) lh0_1.length lh0_1.length), (5, .slice (some ⟨1, 0, none⟩) lh1_1.length lh1_1.length), (29, .int .u16 x29_1), (30, .int .u16 (IntKind.wrap .u16 (x30_1 + 1)))]) (h' := [(1, .cells (rowC (encI .i64) (List.set lh1_1 (Int.toNat r16) (w64 ((List.getD lh1_1 (Int.toNat r16) 0) + 1)))) 0 3 1), (0, .cells (rowC encS lh0_1) 0 9 1)]) (c' := 2) (by kernel_rfl) ?_
                                refine XR.done (by kernel_rfl) ?_
                                show XL _ _ _ _ _ _ _ _ _
                                refine XL.ren (σ' := [(3, .int .i64 x3_1), (4, .slice (some ⟨0, 0, none⟩) lh0_1.length lh0_1.length), (5, .slice (some ⟨1, 0, none⟩) lh1_1.length lh1_1.length), (29, .int .u16 x29_1), (30, .int .u16 (IntKind.wrap .u16 (x30_1 + 1)))]) (h' := [(1, .cells (rowC (encI .i64) (List.set lh1_1 (Int.toNat r16) (w64 ((List.getD lh1_1 (Int.toNat r16) 0) + 1)))) 0 3 1), (0, .cells (rowC encS lh0_1) 0 9 1)]) (c' := 2) [0, 1] (by decide) rfl ⟨by kernel_rfl, by kernel_rfl, by kernel_rfl, by kernel_rfl, by kernel_rfl, trivial⟩ ⟨⟨_, _, rfl, rfl, .inl ⟨rfl, rowC_scal (encI_ok .i64) _⟩⟩, ⟨_, _, rfl, rfl, .inl ⟨rfl, rowC_scal encS_ok _⟩⟩, trivial⟩ rfl ?_
                                refine XL.conv (f11_1_ok m fuel x3_1 x29_1 (IntKind.wrap .u16 (x30_1 + 1)) lh0_1 (List.set lh1_1 (Int.toNat r16) (w64 ((List.getD lh1_1 (Int.toNat r16) 0) + 1))) o h Q hQ) (by first | rfl | simp)
    | false =>
      have h := cF b1 h
      refine XQ.cond (s := (.tmp 31)) (b := false) (by kernel_rfl) (by kernel_rfl) (fun q => by cases q) (fun _ => ?_)
      refine XQ.ren (σ' := [(3, .int .i64 x3_1), (4, .slice (some ⟨0, 0, none⟩) lh0_1.length lh0_1.length), (5, .slice (some ⟨1, 0, none⟩) lh1_1.length lh1_1.length)]) (h' := [(1, .cells (rowC (encI .i64) lh1_1) 0 3 1), (0, .cells (rowC encS lh0_1) 0 9 1)]) (c' := 2) [0, 1] (by decide) rfl ⟨by kernel_rfl, by kernel_rfl, by kernel_rfl, trivial⟩ ⟨⟨_, _, rfl, rfl, .inl ⟨rfl, rowC_scal (encI_ok .i64) _⟩⟩, ⟨_, _, rfl, rfl, .inl ⟨rfl, rowC_scal encS_ok _⟩⟩, trivial⟩ rfl ?_
      refine XQ.exit (i := 0) (by kernel_rfl) ?_
      cases h
      exact hQ

inductive Of11_2 where
  | r
  | x2

def f11_2 (m : Nat) : Nat → Int → List ByteArray → List Int → Int → Int → Option Of11_2
  | 0, _, _, _, _, _ => none
  | fuel + 1, x3_x01, lh0_x01, lh1_x01, x107_2, x108_2 =>
    cond (decide (x108_2 < x107_2)) (
      (f21 m x3_x01 x108_2).bind fun r25 =>
        (f29 m r25.1).bind fun r26 =>
          cond (r25.2 != 0) (
            some (.r)
          ) (
            cond (r26.2 != 0) (
              some (.r)
            ) (
              cond (inRow x108_2 lh0_x01.length) (
                cond (!(r25.1.data.toList == (List.getD lh0_x01 (Int.toNat x108_2) (bs [])).data.toList)) (
                  some (.r)
                ) (
                  cond (inRow x108_2 lh1_x01.length) (
                    (f41 m x3_x01 x108_2).bind fun r27 =>
                      cond (r27 != 0) (
                        cond ((List.getD lh1_x01 (Int.toNat x108_2) 0) != (w64 (Int.tdiv x3_x01 r27))) (
                          some (.r)
                        ) (
                          cond (r26.1 != (List.getD lh1_x01 (Int.toNat x108_2) 0)) (
                            some (.r)
                          ) (
                            f11_2 m fuel x3_x01 lh0_x01 lh1_x01 x107_2 (w64 (x108_2 + 1))
                          )
                        )
                      ) none
                  ) none
                )
              ) none
            )
          )
    ) (
      some (.x2)
    )

theorem f11_2_ok (m : Nat) : ∀ (fuel : Nat) (x3_x01 : Int) (lh0_x01 : List ByteArray) (lh1_x01 : List Int) (x107_2 : Int) (x108_2 : Int) (o : Of11_2), f11_2 m fuel x3_x01 lh0_x01 lh1_x01 x107_2 x108_2 = some o → ∀ Q : QP, (match o with | .r => Q .ret [(2, .bool false)] [] 0 | .x2 => Q (.exit 2) [] [] 0) → XL E0 158 0 fuel f11_L2 [(3, .int .i64 x3_x01), (4, .slice (some ⟨0, 0, none⟩) lh0_x01.length lh0_x01.length), (5, .slice (some ⟨1, 0, none⟩) lh1_x01.length lh1_x01.length), (107, .int .i64 x107_2), (108, .int .i64 x108_2)] [(1, .cells (rowC (encI .i64) lh1_x01) 0 3 1), (0, .cells (rowC encS lh0_x01) 0 9 1)] 2 Q
  | 0, x3_x01, lh0_x01, lh1_x01, x107_2, x108_2, o, h, Q, hQ => by cases h
  | fuel + 1, x3_x01, lh0_x01, lh1_x01, x107_2, x108_2, o, h, Q, hQ => by
    unfold f11_2 at h
    refine XL.succ E0_ok ?_
    refine XQ.seq E0_ok (by kernel_rfl) ?_
    refine XQ.region (by kernel_rfl) ?_
    refine XR.run E0_ok 1 1 [3, 4, 5, 107, 108, 109] rfl (σ' := [(3, .int .i64 x3_x01), (4, .slice (some ⟨0, 0, none⟩) lh0_x01.length lh0_x01.length), (5, .slice (some ⟨1, 0, none⟩) lh1_x01.length lh1_x01.length), (107, .int .i64 x107_2), (108, .int .i64 x108_2), (109, .bool (decide (x108_2 < x107_2)))]) (h' := [(1, .cells (rowC (encI .i64) lh1_x01) 0 3 1), (0, .cells (rowC encS lh0_x01) 0 9 1)]) (c' := 2) (by kernel_rfl) ?_
    refine XR.done (by kernel_rfl) ?_
    show XQ _ _ _ _ _ _ _ _
    refine XQ.seq E0_ok (by kernel_rfl) ?_
    cases b1 : (decide (x108_2 < x107_2) : Bool) with
    | true =>
      have h := cT b1 h
      refine XQ.cond (s := (.tmp 109)) (b := true) (by kernel_rfl) (by kernel_rfl) (fun _ => ?_) (fun q => by cases q)
      refine XQ.skip (by kernel_rfl) ?_
      show XQ _ _ _ _ _ _ _ _
      refine XQ.seq E0_ok (by kernel_rfl) ?_
      refine XQ.block (id := 3) (by kernel_rfl) ?_
      refine XQ.seq E0_ok (by kernel_rfl) ?_
      refine XQ.region (by kernel_rfl) ?_
      refine XR.run E0_ok 1 2 [3, 4, 5, 13, 107, 108] rfl (σ' := [(3, .int .i64 x3_x01), (4, .slice (some ⟨0, 0, none⟩) lh0_x01.length lh0_x01.length), (5, .slice (some ⟨1, 0, none⟩) lh1_x01.length lh1_x01.length), (13, .int .i64 x108_2), (107, .int .i64 x107_2), (108, .int .i64 x108_2)]) (h' := [(1, .cells (rowC (encI .i64) lh1_x01) 0 3 1), (0, .cells (rowC encS lh0_x01) 0 9 1)]) (c' := 2) (by kernel_rfl) ?_
      refine XR.done (by kernel_rfl) ?_
      show XQ _ _ _ _ _ _ _ _
      refine XQ.seq E0_ok (by kernel_rfl) ?_
      refine XQ.region (by kernel_rfl) ?_
      refine XR.run E0_ok 1 2 [3, 4, 5, 13, 107, 108, 112, 113] rfl (σ' := [(3, .int .i64 x3_x01), (4, .slice (some ⟨0, 0, none⟩) lh0_x01.length lh0_x01.length), (5, .slice (some ⟨1, 0, none⟩) lh1_x01.length lh1_x01.length), (13, .int .i64 x108_2), (107, .int .i64 x107_2), (108, .int .i64 x108_2), (112, .int .i64 x3_x01), (113, .int .i64 x108_2)]) (h' := [(1, .cells (rowC (encI .i64) lh1_x01) 0 3 1), (0, .cells (rowC encS lh0_x01) 0 9 1)]) (c' := 2) (by kernel_rfl) ?_
      obtain ⟨r25, r25_h, h⟩ := bS h
      refine XR.call E0_ok [3, 4, 5, 13, 107, 108, 114] rfl (K := 21) (args := [.int .i64 x3_x01, .int .i64 x108_2]) (d := (some (path 12 114))) (by kernel_rfl) (KC.of_calls E0_ok (F := Proofs.Try.f21) (v := .tuple #[.string r25.1, .int .i64 r25.2]) (by kernel_rfl) rfl rfl (fun w hI => f21_ok m x3_x01 x108_2 r25 r25_h w hI)) ?_
      rintro _ _ _ ⟨rfl, rfl, rfl⟩
      refine XR.conv (σ' := [(3, .int .i64 x3_x01), (4, .slice (some ⟨0, 0, none⟩) lh0_x01.length lh0_x01.length), (5, .slice (some ⟨1, 0, none⟩) lh1_x01.length lh1_x01.length), (13, .int .i64 x108_2), (107, .int .i64 x107_2), (108, .int .i64 x108_2), (114, .tuple #[.string r25.1, .int .i64 r25.2])]) (h' := [(1, .cells (rowC (encI .i64) lh1_x01) 0 3 1), (0, .cells (rowC encS lh0_x01) 0 9 1)]) (c' := 2) ?_ (by kernel_rfl)
      refine XR.run E0_ok 1 5 [3, 4, 5, 13, 14, 15, 107, 108] rfl (σ' := [(3, .int .i64 x3_x01), (4, .slice (some ⟨0, 0, none⟩) lh0_x01.length lh0_x01.length), (5, .slice (some ⟨1, 0, none⟩) lh1_x01.length lh1_x01.length), (13, .int .i64 x108_2), (14, .string r25.1), (15, .int .i64 r25.2), (107, .int .i64 x107_2), (108, .int .i64 x108_2)]) (h' := [(1, .cells (rowC (encI .i64) lh1_x01) 0 3 1), (0, .cells (rowC encS lh0_x01) 0 9 1)]) (c' := 2) (by kernel_rfl) ?_
      refine XR.done (by kernel_rfl) ?_
      show XQ _ _ _ _ _ _ _ _
      refine XQ.seq E0_ok (by kernel_rfl) ?_
      refine XQ.region (by kernel_rfl) ?_
      refine XR.run E0_ok 1 1 [3, 4, 5, 13, 14, 15, 107, 108, 118] rfl (σ' := [(3, .int .i64 x3_x01), (4, .slice (some ⟨0, 0, none⟩) lh0_x01.length lh0_x01.length), (5, .slice (some ⟨1, 0, none⟩) lh1_x01.length lh1_x01.length), (13, .int .i64 x108_2), (14, .string r25.1), (15, .int .i64 r25.2), (107, .int .i64 x107_2), (108, .int .i64 x108_2), (118, .string r25.1)]) (h' := [(1, .cells (rowC (encI .i64) lh1_x01) 0 3 1), (0, .cells (rowC encS lh0_x01) 0 9 1)]) (c' := 2) (by kernel_rfl) ?_
      obtain ⟨r26, r26_h, h⟩ := bS h
      refine XR.call E0_ok [3, 4, 5, 13, 14, 15, 107, 108, 119] rfl (K := 29) (args := [.string r25.1]) (d := (some (path 12 119))) (by kernel_rfl) (KC.of_calls E0_ok (F := Proofs.Try.f29) (v := .tuple #[.int .i64 r26.1, .int .i64 r26.2]) (by kernel_rfl) rfl rfl (fun w hI => f29_ok m r25.1 r26 r26_h w hI)) ?_
      rintro _ _ _ ⟨rfl, rfl, rfl⟩
      refine XR.conv (σ' := [(3, .int .i64 x3_x01), (4, .slice (some ⟨0, 0, none⟩) lh0_x01.length lh0_x01.length), (5, .slice (some ⟨1, 0, none⟩) lh1_x01.length lh1_x01.length), (13, .int .i64 x108_2), (14, .string r25.1), (15, .int .i64 r25.2), (107, .int .i64 x107_2), (108, .int .i64 x108_2), (119, .tuple #[.int .i64 r26.1, .int .i64 r26.2])]) (h' := [(1, .cells (rowC (encI .i64) lh1_x01) 0 3 1), (0, .cells (rowC encS lh0_x01) 0 9 1)]) (c' := 2) ?_ (by kernel_rfl)
      refine XR.run E0_ok 1 5 [3, 4, 5, 13, 14, 15, 16, 17, 107, 108] rfl (σ' := [(3, .int .i64 x3_x01), (4, .slice (some ⟨0, 0, none⟩) lh0_x01.length lh0_x01.length), (5, .slice (some ⟨1, 0, none⟩) lh1_x01.length lh1_x01.length), (13, .int .i64 x108_2), (14, .string r25.1), (15, .int .i64 r25.2), (16, .int .i64 r26.1), (17, .int .i64 r26.2), (107, .int .i64 x107_2), (108, .int .i64 x108_2)]) (h' := [(1, .cells (rowC (encI .i64) lh1_x01) 0 3 1), (0, .cells (rowC encS lh0_x01) 0 9 1)]) (c' := 2) (by kernel_rfl) ?_
      refine XR.done (by kernel_rfl) ?_
      show XQ _ _ _ _ _ _ _ _
      refine XQ.seq E0_ok (by kernel_rfl) ?_
      refine XQ.quiet E0_ok (by kernel_rfl) (by kernel_rfl) ?_
      refine XU.run E0_ok 1 3 [3, 4, 5, 13, 14, 16, 17, 107, 108, 124] rfl (σ' := [(3, .int .i64 x3_x01), (4, .slice (some ⟨0, 0, none⟩) lh0_x01.length lh0_x01.length), (5, .slice (some ⟨1, 0, none⟩) lh1_x01.length lh1_x01.length), (13, .int .i64 x108_2), (14, .string r25.1), (16, .int .i64 r26.1), (17, .int .i64 r26.2), (107, .int .i64 x107_2), (108, .int .i64 x108_2), (124, .bool (r25.2 != 0))]) (by kernel_rfl) ?_
      cases b2 : (r25.2 != 0 : Bool) with
      | true =>
        have h := cT b2 h
        refine XU.run E0_ok 1 31 [3, 4, 5, 107, 108, 155] rfl (σ' := [(3, .int .i64 x3_x01), (4, .slice (some ⟨0, 0, none⟩) lh0_x01.length lh0_x01.length), (5, .slice (some ⟨1, 0, none⟩) lh1_x01.length lh1_x01.length), (107, .int .i64 x107_2), (108, .int .i64 x108_2), (155, .bool true)]) (by kernel_rfl) ?_
        refine XU.done (by kernel_rfl) ?_
        show XQ _ _ _ _ _ _ _ _
        refine XQ.cond (s := (.tmp 155)) (b := true) (by kernel_rfl) (by kernel_rfl) (fun _ => ?_) (fun q => by cases q)
        refine XQ.seq E0_ok (by kernel_rfl) ?_
        refine XQ.region (by kernel_rfl) ?_
        refine XR.run E0_ok 1 1 [2] rfl (σ' := [(2, .bool false)]) (h' := [(1, .cells (rowC (encI .i64) lh1_x01) 0 3 1), (0, .cells (rowC encS lh0_x01) 0 9 1)]) (c' := 2) (by kernel_rfl) ?_
        refine XR.done (by kernel_rfl) ?_
        show XQ _ _ _ _ _ _ _ _
        refine XQ.ren (σ' := [(2, .bool false)]) (h' := []) (c' := 0) [] (by decide) rfl ⟨by kernel_rfl, trivial⟩ trivial rfl ?_
        refine XQ.ret (by kernel_rfl) ?_
        cases h
        exact hQ
      | false =>
        have h := cF b2 h
        refine XU.run E0_ok 1 4 [3, 4, 5, 13, 14, 16, 107, 108, 128] rfl (σ' := [(3, .int .i64 x3_x01), (4, .slice (some ⟨0, 0, none⟩) lh0_x01.length lh0_x01.length), (5, .slice (some ⟨1, 0, none⟩) lh1_x01.length lh1_x01.length), (13, .int .i64 x108_2), (14, .string r25.1), (16, .int .i64 r26.1), (107, .int .i64 x107_2), (108, .int .i64 x108_2), (128, .bool (r26.2 != 0))]) (by kernel_rfl) ?_
        cases b3 : (r26.2 != 0 : Bool) with
        | true =>
          have h := cT b3 h
          refine XU.run E0_ok 1 27 [3, 4, 5, 107, 108, 155] rfl (σ' := [(3, .int .i64 x3_x01), (4, .slice (some ⟨0, 0, none⟩) lh0_x01.length lh0_x01.length), (5, .slice (some ⟨1, 0, none⟩) lh1_x01.length lh1_x01.length), (107, .int .i64 x107_2), (108, .int .i64 x108_2), (155, .bool true)]) (by kernel_rfl) ?_
          refine XU.done (by kernel_rfl) ?_
          show XQ _ _ _ _ _ _ _ _
          refine XQ.cond (s := (.tmp 155)) (b := true) (by kernel_rfl) (by kernel_rfl) (fun _ => ?_) (fun q => by cases q)
          refine XQ.seq E0_ok (by kernel_rfl) ?_
          refine XQ.region (by kernel_rfl) ?_
          refine XR.run E0_ok 1 1 [2] rfl (σ' := [(2, .bool false)]) (h' := [(1, .cells (rowC (encI .i64) lh1_x01) 0 3 1), (0, .cells (rowC encS lh0_x01) 0 9 1)]) (c' := 2) (by kernel_rfl) ?_
          refine XR.done (by kernel_rfl) ?_
          show XQ _ _ _ _ _ _ _ _
          refine XQ.ren (σ' := [(2, .bool false)]) (h' := []) (c' := 0) [] (by decide) rfl ⟨by kernel_rfl, trivial⟩ trivial rfl ?_
          refine XQ.ret (by kernel_rfl) ?_
          cases h
          exact hQ
        | false =>
          have h := cF b3 h
          refine XU.run E0_ok 1 3 [3, 4, 5, 13, 16, 107, 108, 128, 129, 130, 131] rfl (σ' := [(3, .int .i64 x3_x01), (4, .slice (some ⟨0, 0, none⟩) lh0_x01.length lh0_x01.length), (5, .slice (some ⟨1, 0, none⟩) lh1_x01.length lh1_x01.length), (13, .int .i64 x108_2), (16, .int .i64 r26.1), (107, .int .i64 x107_2), (108, .int .i64 x108_2), (128, .bool false), (129, .string r25.1), (130, .slice (some ⟨0, 0, none⟩) lh0_x01.length lh0_x01.length), (131, .int .i64 x108_2)]) (by kernel_rfl) ?_
          cases b4 : (inRow x108_2 lh0_x01.length : Bool) with
          | false => cases (cF b4 h)
          | true =>
            have h := cT b4 h
            refine XU.rd E0_ok [3, 4, 5, 13, 16, 107, 108, 128, 129, 132] rfl (v := .pointer (some ⟨0, (Int.toNat x108_2) * 1, none⟩)) (v_idx (s := 1) (x := (src 158 (.tmp 130))) (y := (src 158 (.tmp 131))) (b := 0) (o := 0) (len := lh0_x01.length) (cap := lh0_x01.length) (ik := .i64) (i := x108_2) (off := (Int.toNat x108_2) * 1) (d := (some (path 12 132))) (by kernel_rfl) (by kernel_rfl) (by kernel_rfl) b4 (by omega)) (σ' := [(3, .int .i64 x3_x01), (4, .slice (some ⟨0, 0, none⟩) lh0_x01.length lh0_x01.length), (5, .slice (some ⟨1, 0, none⟩) lh1_x01.length lh1_x01.length), (13, .int .i64 x108_2), (16, .int .i64 r26.1), (107, .int .i64 x107_2), (108, .int .i64 x108_2), (128, .bool false), (129, .string r25.1), (132, .pointer (some ⟨0, (Int.toNat x108_2) * 1, none⟩))]) (by kernel_rfl) ?_
            refine XU.rd E0_ok [3, 4, 5, 13, 16, 107, 108, 128, 129, 133] rfl (v := .string (List.getD lh0_x01 (Int.toNat x108_2) (bs []))) (v_load1 encS_ok (x := (src 158 (.tmp 132))) (b := 0) (off := (Int.toNat x108_2) * 1) (xs := lh0_x01) (fz := 0) (e := 9) (es := 1) (d := (some (path 12 133))) (by kernel_rfl) (by kernel_rfl) (by kernel_rfl) (Int.toNat x108_2) 0 (bs []) (by first | rfl | omega) (row_len (inRow_toNat b4) (by simp)) rfl rfl) (σ' := [(3, .int .i64 x3_x01), (4, .slice (some ⟨0, 0, none⟩) lh0_x01.length lh0_x01.length), (5, .slice (some ⟨1, 0, none⟩) lh1_x01.length lh1_x01.length), (13, .int .i64 x108_2), (16, .int .i64 r26.1), (107, .int .i64 x107_2), (108, .int .i64 x108_2), (128, .bool false), (129, .string r25.1), (133, .string (List.getD lh0_x01 (Int.toNat x108_2) (bs [])))]) (by kernel_rfl) ?_
            refine XU.run E0_ok 1 3 [3, 4, 5, 13, 16, 107, 108, 136] rfl (σ' := [(3, .int .i64 x3_x01), (4, .slice (some ⟨0, 0, none⟩) lh0_x01.length lh0_x01.length), (5, .slice (some ⟨1, 0, none⟩) lh1_x01.length lh1_x01.length), (13, .int .i64 x108_2), (16, .int .i64 r26.1), (107, .int .i64 x107_2), (108, .int .i64 x108_2), (136, .bool (!(r25.1.data.toList == (List.getD lh0_x01 (Int.toNat x108_2) (bs [])).data.toList)))]) (by kernel_rfl) ?_
            cases b5 : (!(r25.1.data.toList == (List.getD lh0_x01 (Int.toNat x108_2) (bs [])).data.toList) : Bool) with
            | true =>
              have h := cT b5 h
              refine XU.run E0_ok 1 19 [3, 4, 5, 107, 108, 155] rfl (σ' := [(3, .int .i64 x3_x01), (4, .slice (some ⟨0, 0, none⟩) lh0_x01.length lh0_x01.length), (5, .slice (some ⟨1, 0, none⟩) lh1_x01.length lh1_x01.length), (107, .int .i64 x107_2), (108, .int .i64 x108_2), (155, .bool true)]) (by kernel_rfl) ?_
              refine XU.done (by kernel_rfl) ?_
              show XQ _ _ _ _ _ _ _ _
              refine XQ.cond (s := (.tmp 155)) (b := true) (by kernel_rfl) (by kernel_rfl) (fun _ => ?_) (fun q => by cases q)
              refine XQ.seq E0_ok (by kernel_rfl) ?_
              refine XQ.region (by kernel_rfl) ?_
              refine XR.run E0_ok 1 1 [2] rfl (σ' := [(2, .bool false)]) (h' := [(1, .cells (rowC (encI .i64) lh1_x01) 0 3 1), (0, .cells (rowC encS lh0_x01) 0 9 1)]) (c' := 2) (by kernel_rfl) ?_
              refine XR.done (by kernel_rfl) ?_
              show XQ _ _ _ _ _ _ _ _
              refine XQ.ren (σ' := [(2, .bool false)]) (h' := []) (c' := 0) [] (by decide) rfl ⟨by kernel_rfl, trivial⟩ trivial rfl ?_
              refine XQ.ret (by kernel_rfl) ?_
              cases h
              exact hQ
            | false =>
              have h := cF b5 h
              refine XU.run E0_ok 1 2 [3, 4, 5, 13, 16, 107, 108, 136, 137, 138] rfl (σ' := [(3, .int .i64 x3_x01), (4, .slice (some ⟨0, 0, none⟩) lh0_x01.length lh0_x01.length), (5, .slice (some ⟨1, 0, none⟩) lh1_x01.length lh1_x01.length), (13, .int .i64 x108_2), (16, .int .i64 r26.1), (107, .int .i64 x107_2), (108, .int .i64 x108_2), (136, .bool false), (137, .slice (some ⟨1, 0, none⟩) lh1_x01.length lh1_x01.length), (138, .int .i64 x108_2)]) (by kernel_rfl) ?_
              cases b6 : (inRow x108_2 lh1_x01.length : Bool) with
              | false => cases (cF b6 h)
              | true =>
                have h := cT b6 h
                refine XU.rd E0_ok [3, 4, 5, 13, 16, 107, 108, 136, 139] rfl (v := .pointer (some ⟨1, (Int.toNat x108_2) * 1, none⟩)) (v_idx (s := 1) (x := (src 158 (.tmp 137))) (y := (src 158 (.tmp 138))) (b := 1) (o := 0) (len := lh1_x01.length) (cap := lh1_x01.length) (ik := .i64) (i := x108_2) (off := (Int.toNat x108_2) * 1) (d := (some (path 12 139))) (by kernel_rfl) (by kernel_rfl) (by kernel_rfl) b6 (by omega)) (σ' := [(3, .int .i64 x3_x01), (4, .slice (some ⟨0, 0, none⟩) lh0_x01.length lh0_x01.length), (5, .slice (some ⟨1, 0, none⟩) lh1_x01.length lh1_x01.length), (13, .int .i64 x108_2), (16, .int .i64 r26.1), (107, .int .i64 x107_2), (108, .int .i64 x108_2), (136, .bool false), (139, .pointer (some ⟨1, (Int.toNat x108_2) * 1, none⟩))]) (by kernel_rfl) ?_
                refine XU.rd E0_ok [3, 4, 5, 13, 16, 107, 108, 136, 140] rfl (v := .int .i64 (List.getD lh1_x01 (Int.toNat x108_2) 0)) (v_load1 (encI_ok .i64) (x := (src 158 (.tmp 139))) (b := 1) (off := (Int.toNat x108_2) * 1) (xs := lh1_x01) (fz := 0) (e := 3) (es := 1) (d := (some (path 12 140))) (by kernel_rfl) (by kernel_rfl) (by kernel_rfl) (Int.toNat x108_2) 0 0 (by first | rfl | omega) (row_len (inRow_toNat b6) (by simp)) rfl rfl) (σ' := [(3, .int .i64 x3_x01), (4, .slice (some ⟨0, 0, none⟩) lh0_x01.length lh0_x01.length), (5, .slice (some ⟨1, 0, none⟩) lh1_x01.length lh1_x01.length), (13, .int .i64 x108_2), (16, .int .i64 r26.1), (107, .int .i64 x107_2), (108, .int .i64 x108_2), (136, .bool false), (140, .int .i64 (List.getD lh1_x01 (Int.toNat x108_2) 0))]) (by kernel_rfl) ?_
                refine XU.run E0_ok 1 3 [3, 4, 5, 13, 16, 107, 108, 136, 140, 141, 142, 143] rfl (σ' := [(3, .int .i64 x3_x01), (4, .slice (some ⟨0, 0, none⟩) lh0_x01.length lh0_x01.length), (5, .slice (some ⟨1, 0, none⟩) lh1_x01.length lh1_x01.length), (13, .int .i64 x108_2), (16, .int .i64 r26.1), (107, .int .i64 x107_2), (108, .int .i64 x108_2), (136, .bool false), (140, .int .i64 (List.getD lh1_x01 (Int.toNat x108_2) 0)), (141, .int .i64 x3_x01), (142, .int .i64 x3_x01), (143, .int .i64 x108_2)]) (by kernel_rfl) ?_
                obtain ⟨r27, r27_h, h⟩ := bS h
                refine XU.call E0_ok [3, 4, 5, 13, 16, 107, 108, 136, 140, 141, 144] rfl (K := 41) (F := Proofs.Try.f41) (args := [.int .i64 x3_x01, .int .i64 x108_2]) (d := (some (path 12 144))) (v := .int .i64 r27) (by kernel_rfl) (by kernel_rfl) rfl rfl (fun w hI => f41_ok m x3_x01 x108_2 r27 r27_h w hI) (σ' := [(3, .int .i64 x3_x01), (4, .slice (some ⟨0, 0, none⟩) lh0_x01.length lh0_x01.length), (5, .slice (some ⟨1, 0, none⟩) lh1_x01.length lh1_x01.length), (13, .int .i64 x108_2), (16, .int .i64 r26.1), (107, .int .i64 x107_2), (108, .int .i64 x108_2), (136, .bool false), (140, .int .i64 (List.getD lh1_x01 (Int.toNat x108_2) 0)), (141, .int .i64 x3_x01), (144, .int .i64 r27)]) (by kernel_rfl) ?_
                cases b7 : (r27 != 0 : Bool) with
                | false => cases (cF b7 h)
                | true =>
                  have h := cT b7 h
                  have e8 : insV (headI ((gsOf E0 158 (opsOf (lft (rgt (rgt (rgt (lft (lft (rgt (rgt f11_L2)))))))))).drop 23) (trS 158 [(3, .int .i64 x3_x01), (4, .slice (some ⟨0, 0, none⟩) lh0_x01.length lh0_x01.length), (5, .slice (some ⟨1, 0, none⟩) lh1_x01.length lh1_x01.length), (13, .int .i64 x108_2), (16, .int .i64 r26.1), (107, .int .i64 x107_2), (108, .int .i64 x108_2), (136, .bool false), (140, .int .i64 (List.getD lh1_x01 (Int.toNat x108_2) 0)), (141, .int .i64 x3_x01), (144, .int .i64 r27)])) (trS 158 [(3, .int .i64 x3_x01), (4, .slice (some ⟨0, 0, none⟩) lh0_x01.length lh0_x01.length), (5, .slice (some ⟨1, 0, none⟩) lh1_x01.length lh1_x01.length), (13, .int .i64 x108_2), (16, .int .i64 r26.1), (107, .int .i64 x107_2), (108, .int .i64 x108_2), (136, .bool false), (140, .int .i64 (List.getD lh1_x01 (Int.toNat x108_2) 0)), (141, .int .i64 x3_x01), (144, .int .i64 r27)]) [(1, .cells (rowC (encI .i64) lh1_x01) 0 3 1), (0, .cells (rowC encS lh0_x01) 0 9 1)] = (match (r27 != 0 : Bool) with | true => some (.int .i64 (w64 (Int.tdiv x3_x01 r27))) | false => none) := by kernel_rfl
                  refine XU.rd E0_ok [3, 4, 5, 13, 16, 107, 108, 136, 140, 145] rfl (e8.trans (by rw [b7])) (σ' := [(3, .int .i64 x3_x01), (4, .slice (some ⟨0, 0, none⟩) lh0_x01.length lh0_x01.length), (5, .slice (some ⟨1, 0, none⟩) lh1_x01.length lh1_x01.length), (13, .int .i64 x108_2), (16, .int .i64 r26.1), (107, .int .i64 x107_2), (108, .int .i64 x108_2), (136, .bool false), (140, .int .i64 (List.getD lh1_x01 (Int.toNat x108_2) 0)), (145, .int .i64 (w64 (Int.tdiv x3_x01 r27)))]) (by kernel_rfl) ?_
                  refine XU.run E0_ok 1 3 [3, 4, 5, 13, 16, 107, 108, 148] rfl (σ' := [(3, .int .i64 x3_x01), (4, .slice (some ⟨0, 0, none⟩) lh0_x01.length lh0_x01.length), (5, .slice (some ⟨1, 0, none⟩) lh1_x01.length lh1_x01.length), (13, .int .i64 x108_2), (16, .int .i64 r26.1), (107, .int .i64 x107_2), (108, .int .i64 x108_2), (148, .bool ((List.getD lh1_x01 (Int.toNat x108_2) 0) != (w64 (Int.tdiv x3_x01 r27))))]) (by kernel_rfl) ?_
                  cases b9 : ((List.getD lh1_x01 (Int.toNat x108_2) 0) != (w64 (Int.tdiv x3_x01 r27)) : Bool) with
                  | true =>
                    have h := cT b9 h
                    refine XU.run E0_ok 1 7 [3, 4, 5, 107, 108, 155] rfl (σ' := [(3, .int .i64 x3_x01), (4, .slice (some ⟨0, 0, none⟩) lh0_x01.length lh0_x01.length), (5, .slice (some ⟨1, 0, none⟩) lh1_x01.length lh1_x01.length), (107, .int .i64 x107_2), (108, .int .i64 x108_2), (155, .bool true)]) (by kernel_rfl) ?_
                    refine XU.done (by kernel_rfl) ?_
                    show XQ _ _ _ _ _ _ _ _
                    refine XQ.cond (s := (.tmp 155)) (b := true) (by kernel_rfl) (by kernel_rfl) (fun _ => ?_) (fun q => by cases q)
                    refine XQ.seq E0_ok (by kernel_rfl) ?_
                    refine XQ.region (by kernel_rfl) ?_
                    refine XR.run E0_ok 1 1 [2] rfl (σ' := [(2, .bool false)]) (h' := [(1, .cells (rowC (encI .i64) lh1_x01) 0 3 1), (0, .cells (rowC encS lh0_x01) 0 9 1)]) (c' := 2) (by kernel_rfl) ?_
                    refine XR.done (by kernel_rfl) ?_
                    show XQ _ _ _ _ _ _ _ _
                    refine XQ.ren (σ' := [(2, .bool false)]) (h' := []) (c' := 0) [] (by decide) rfl ⟨by kernel_rfl, trivial⟩ trivial rfl ?_
                    refine XQ.ret (by kernel_rfl) ?_
                    cases h
                    exact hQ
                  | false =>
                    have h := cF b9 h
                    refine XU.run E0_ok 1 3 [3, 4, 5, 107, 108, 148, 149, 150, 151] rfl (σ' := [(3, .int .i64 x3_x01), (4, .slice (some ⟨0, 0, none⟩) lh0_x01.length lh0_x01.length), (5, .slice (some ⟨1, 0, none⟩) lh1_x01.length lh1_x01.length), (107, .int .i64 x107_2), (108, .int .i64 x108_2), (148, .bool false), (149, .int .i64 r26.1), (150, .slice (some ⟨1, 0, none⟩) lh1_x01.length lh1_x01.length), (151, .int .i64 x108_2)]) (by kernel_rfl) ?_
                    refine XU.rd E0_ok [3, 4, 5, 107, 108, 148, 149, 152] rfl (v := .pointer (some ⟨1, (Int.toNat x108_2) * 1, none⟩)) (v_idx (s := 1) (x := (src 158 (.tmp 150))) (y := (src 158 (.tmp 151))) (b := 1) (o := 0) (len := lh1_x01.length) (cap := lh1_x01.length) (ik := .i64) (i := x108_2) (off := (Int.toNat x108_2) * 1) (d := (some (path 12 152))) (by kernel_rfl) (by kernel_rfl) (by kernel_rfl) b6 (by omega)) (σ' := [(3, .int .i64 x3_x01), (4, .slice (some ⟨0, 0, none⟩) lh0_x01.length lh0_x01.length), (5, .slice (some ⟨1, 0, none⟩) lh1_x01.length lh1_x01.length), (107, .int .i64 x107_2), (108, .int .i64 x108_2), (148, .bool false), (149, .int .i64 r26.1), (152, .pointer (some ⟨1, (Int.toNat x108_2) * 1, none⟩))]) (by kernel_rfl) ?_
                    refine XU.rd E0_ok [3, 4, 5, 107, 108, 148, 149, 153] rfl (v := .int .i64 (List.getD lh1_x01 (Int.toNat x108_2) 0)) (v_load1 (encI_ok .i64) (x := (src 158 (.tmp 152))) (b := 1) (off := (Int.toNat x108_2) * 1) (xs := lh1_x01) (fz := 0) (e := 3) (es := 1) (d := (some (path 12 153))) (by kernel_rfl) (by kernel_rfl) (by kernel_rfl) (Int.toNat x108_2) 0 0 (by first | rfl | omega) (row_len (inRow_toNat b6) (by simp)) rfl rfl) (σ' := [(3, .int .i64 x3_x01), (4, .slice (some ⟨0, 0, none⟩) lh0_x01.length lh0_x01.length), (5, .slice (some ⟨1, 0, none⟩) lh1_x01.length lh1_x01.length), (107, .int .i64 x107_2), (108, .int .i64 x108_2), (148, .bool false), (149, .int .i64 r26.1), (153, .int .i64 (List.getD lh1_x01 (Int.toNat x108_2) 0))]) (by kernel_rfl) ?_
                    refine XU.run E0_ok 1 2 [3, 4, 5, 107, 108, 155] rfl (σ' := [(3, .int .i64 x3_x01), (4, .slice (some ⟨0, 0, none⟩) lh0_x01.length lh0_x01.length), (5, .slice (some ⟨1, 0, none⟩) lh1_x01.length lh1_x01.length), (107, .int .i64 x107_2), (108, .int .i64 x108_2), (155, .bool (r26.1 != (List.getD lh1_x01 (Int.toNat x108_2) 0)))]) (by kernel_rfl) ?_
                    refine XU.done (by kernel_rfl) ?_
                    show XQ _ _ _ _ _ _ _ _
                    cases b10 : (r26.1 != (List.getD lh1_x01 (Int.toNat x108_2) 0) : Bool) with
                    | true =>
                      have h := cT b10 h
                      refine XQ.cond (s := (.tmp 155)) (b := true) (by kernel_rfl) (by kernel_rfl) (fun _ => ?_) (fun q => by cases q)
                      refine XQ.seq E0_ok (by kernel_rfl) ?_
                      refine XQ.region (by kernel_rfl) ?_
                      refine XR.run E0_ok 1 1 [2] rfl (σ' := [(2, .bool false)]) (h' := [(1, .cells (rowC (encI .i64) lh1_x01) 0 3 1), (0, .cells (rowC encS lh0_x01) 0 9 1)]) (c' := 2) (by kernel_rfl) ?_
                      refine XR.done (by kernel_rfl) ?_
                      show XQ _ _ _ _ _ _ _ _
                      refine XQ.ren (σ' := [(2, .bool false)]) (h' := []) (c' := 0) [] (by decide) rfl ⟨by kernel_rfl, trivial⟩ trivial rfl ?_
                      refine XQ.ret (by kernel_rfl) ?_
                      cases h
                      exact hQ
                    | false =>
                      have h := cF b10 h
                      refine XQ.cond (s := (.tmp 155)) (b := false) (by kernel_rfl) (by kernel_rfl) (fun q => by cases q) (fun _ => ?_)
                      refine XQ.skip (by kernel_rfl) ?_
                      show XQ _ _ _ _ _ _ _ _
                      refine XQ.region (by kernel_rfl) ?_
                      refine XR.run E0_ok 1 2 [3, 4, 5, 107, 108] rfl (σ' := [(3, .int .i64 x3_x01), (4, .slice (some ⟨0, 0, none⟩) lh0_x01.length lh0_x01.length), (5, .slice (some ⟨1, 0, none⟩) lh1_x01.length lh1_x01.length), (107, .int .i64 x107_2), (108, .int .i64 (w64 (x108_2 + 1)))]) (h' := [(1, .cells (rowC (encI .i64) lh1_x01) 0 3 1), (0, .cells (rowC encS lh0_x01) 0 9 1)]) (c' := 2) (by kernel_rfl) ?_
                      refine XR.done (by kernel_rfl) ?_
                      show XL _ _ _ _ _ _ _ _ _
                      refine XL.ren (σ' := [(3, .int .i64 x3_x01), (4, .slice (some ⟨0, 0, none⟩) lh0_x01.length lh0_x01.length), (5, .slice (some ⟨1, 0, none⟩) lh1_x01.length lh1_x01.length), (107, .int .i64 x107_2), (108, .int .i64 (w64 (x108_2 + 1)))]) (h' := [(1, .cells (rowC (encI .i64) lh1_x01) 0 3 1), (0, .cells (rowC encS lh0_x01) 0 9 1)]) (c' := 2) [0, 1] (by decide) rfl ⟨by kernel_rfl, by kernel_rfl, by kernel_rfl, by kernel_rfl, by kernel_rfl, trivial⟩ ⟨⟨_, _, rfl, rfl, .inl ⟨rfl, rowC_scal (encI_ok .i64) _⟩⟩, ⟨_, _, rfl, rfl, .inl ⟨rfl, rowC_scal encS_ok _⟩⟩, trivial⟩ rfl ?_
                      refine XL.conv (f11_2_ok m fuel x3_x01 lh0_x01 lh1_x01 x107_2 (w64 (x108_2 + 1)) o h Q hQ) (by first | rfl | simp)
    | false =>
      have h := cF b1 h
      refine XQ.cond (s := (.tmp 109)) (b := false) (by kernel_rfl) (by kernel_rfl) (fun q => by cases q) (fun _ => ?_)
      refine XQ.ren (σ' := []) (h' := []) (c' := 0) [] (by decide) rfl trivial trivial rfl ?_
      refine XQ.exit (i := 2) (by kernel_rfl) ?_
      cases h
      exact hQ

def f11 (m : Nat) (a : Int) : Option (Bool) :=
  cond (mkOK (w64 ((w64 (1 + (Int.tmod (w64 a) 10))) + 1)) (w64 ((w64 (1 + (Int.tmod (w64 a) 10))) + 1)) 16) (
    cond (mkOK (w64 ((w64 (1 + (Int.tmod (w64 a) 10))) + 1)) (w64 ((w64 (1 + (Int.tmod (w64 a) 10))) + 1)) 8) (
      cond (decide (0 ≤ w64 (1 + (Int.tmod (w64 a) 10)))) (
        (f11_1 m m (w64 (1 + (Int.tmod (w64 a) 10))) (shV true .u16 1 (w64 (1 + (Int.tmod (w64 a) 10)))) 0 (List.replicate (Int.toNat (w64 ((w64 (1 + (Int.tmod (w64 a) 10))) + 1))) (bs [])) (List.replicate (Int.toNat (w64 ((w64 (1 + (Int.tmod (w64 a) 10))) + 1))) 0)).bind fun o1 =>
          match o1 with
          | .r =>
            some (false)
          | .x0 x3_x01 lh0_x01 lh1_x01 =>
            (f11_2 m m x3_x01 lh0_x01 lh1_x01 (w64 (x3_x01 + 1)) 0).bind fun o2 =>
              match o2 with
              | .r =>
                some (false)
              | .x2 =>
                some (true)
      ) none
    ) none
  ) none

theorem f11_ok (m : Nat) (a : Int) (o : Bool) (h : f11 m a = some o) (w : World) (hI : maxInv w) : Calls Proofs.Try.prog 11 #[.int .u8 a] w fun e w' => e = .returned (.bool o) ∧ Below w.heap.size w w' := by
  refine KC.calls (E := E0) (args := [.int .u8 a]) (v := .bool o) rfl rfl (KC.bodyN E0_ok (F := Proofs.Try.f11) (by kernel_rfl) (code := f11_C11) (by kernel_rfl) (nt := 158) (by kernel_rfl) (rs := [.tmp 2]) (by kernel_rfl) (by kernel_rfl) (σ := [(0, .int .u8 a)]) (by kernel_rfl) ?_) w (maxInv_size hI) hI
  unfold f11 at h
  refine XQ.seq E0_ok (by kernel_rfl) ?_
  refine XQ.region (by kernel_rfl) ?_
  refine XR.run E0_ok 1 1 [0] rfl (σ' := [(0, .int .u8 a)]) (h' := []) (c' := 0) (by kernel_rfl) ?_
  refine XR.done (by kernel_rfl) ?_
  show XQ _ _ _ _ _ _ _ _
  refine XQ.seq E0_ok (by kernel_rfl) ?_
  refine XQ.region (by kernel_rfl) ?_
  refine XR.run E0_ok 1 5 [3] rfl (σ' := [(3, .int .i64 (w64 (1 + (Int.tmod (w64 a) 10))))]) (h' := []) (c' := 0) (by kernel_rfl) ?_
  refine XR.done (by kernel_rfl) ?_
  show XQ _ _ _ _ _ _ _ _
  refine XQ.seq E0_ok (by kernel_rfl) ?_
  refine XQ.region (by kernel_rfl) ?_
  refine XR.run E0_ok 1 2 [3, 23] rfl (σ' := [(3, .int .i64 (w64 (1 + (Int.tmod (w64 a) 10)))), (23, .int .i64 (w64 ((w64 (1 + (Int.tmod (w64 a) 10))) + 1)))]) (h' := []) (c' := 0) (by kernel_rfl) ?_
  cases b1 : (mkOK (w64 ((w64 (1 + (Int.tmod (w64 a) 10))) + 1)) (w64 ((w64 (1 + (Int.tmod (w64 a) 10))) + 1)) 16 : Bool) with
  | false => cases (cF b1 h)
  | true =>
    have h := cT b1 h
    refine XR.ef E0_ok [3, 24] rfl (e_make encS_ok (x := (src 158 (.tmp 23))) (y := (src 158 (.tmp 23))) (l := w64 ((w64 (1 + (Int.tmod (w64 a) 10))) + 1)) (n := w64 ((w64 (1 + (Int.tmod (w64 a) 10))) + 1)) (bytes := 16) (e := 9) (z := #[.string (bs [])]) (d := (some (path 12 24))) (by kernel_rfl) (by kernel_rfl) (by kernel_rfl) (bs []) rfl (by kernel_rfl) b1) (σ' := [(3, .int .i64 (w64 (1 + (Int.tmod (w64 a) 10)))), (24, .slice (some ⟨0, 0, none⟩) (Int.toNat (w64 ((w64 (1 + (Int.tmod (w64 a) 10))) + 1))) (Int.toNat (w64 ((w64 (1 + (Int.tmod (w64 a) 10))) + 1))))]) (by kernel_rfl) ?_
    refine XR.run E0_ok 1 1 [3, 4] rfl (σ' := [(3, .int .i64 (w64 (1 + (Int.tmod (w64 a) 10)))), (4, .slice (some ⟨0, 0, none⟩) (Int.toNat (w64 ((w64 (1 + (Int.tmod (w64 a) 10))) + 1))) (Int.toNat (w64 ((w64 (1 + (Int.tmod (w64 a) 10))) + 1))))]) (h' := [(0, .cells (rowC encS (List.replicate (Int.toNat (w64 ((w64 (1 + (Int.tmod (w64 a) 10))) + 1))) (bs []))) 0 9 1)]) (c' := 1) (by kernel_rfl) ?_
    refine XR.done (by kernel_rfl) ?_
    show XQ _ _ _ _ _ _ _ _
    refine XQ.seq E0_ok (by kernel_rfl) ?_
    refine XQ.region (by kernel_rfl) ?_
    refine XR.run E0_ok 1 2 [3, 4, 26] rfl (σ' := [(3, .int .i64 (w64 (1 + (Int.tmod (w64 a) 10)))), (4, .slice (some ⟨0, 0, none⟩) (Int.toNat (w64 ((w64 (1 + (Int.tmod (w64 a) 10))) + 1))) (Int.toNat (w64 ((w64 (1 + (Int.tmod (w64 a) 10))) + 1)))), (26, .int .i64 (w64 ((w64 (1 + (Int.tmod (w64 a) 10))) + 1)))]) (h' := [(0, .cells (rowC encS (List.replicate (Int.toNat (w64 ((w64 (1 + (Int.tmod (w64 a) 10))) + 1))) (bs []))) 0 9 1)]) (c' := 1) (by kernel_rfl) ?_
    cases b2 : (mkOK (w64 ((w64 (1 + (Int.tmod (w64 a) 10))) + 1)) (w64 ((w64 (1 + (Int.tmod (w64 a) 10))) + 1)) 8 : Bool) with
    | false => cases (cF b2 h)
    | true =>
      have h := cT b2 h
      refine XR.ef E0_ok [3, 4, 27] rfl (e_make (encI_ok .i64) (x := (src 158 (.tmp 26))) (y := (src 158 (.tmp 26))) (l := w64 ((w64 (1 + (Int.tmod (w64 a) 10))) + 1)) (n := w64 ((w64 (1 + (Int.tmod (w64 a) 10))) + 1)) (bytes := 8) (e := 3) (z := #[.int .i64 0]) (d := (some (path 12 27))) (by kernel_rfl) (by kernel_rfl) (by kernel_rfl) 0 rfl (by kernel_rfl) b2) (σ' := [(3, .int .i64 (w64 (1 + (Int.tmod (w64 a) 10)))), (4, .slice (some ⟨0, 0, none⟩) (Int.toNat (w64 ((w64 (1 + (Int.tmod (w64 a) 10))) + 1))) (Int.toNat (w64 ((w64 (1 + (Int.tmod (w64 a) 10))) + 1)))), (27, .slice (some ⟨1, 0, none⟩) (Int.toNat (w64 ((w64 (1 + (Int.tmod (w64 a) 10))) + 1))) (Int.toNat (w64 ((w64 (1 + (Int.tmod (w64 a) 10))) + 1))))]) (by kernel_rfl) ?_
      refine XR.run E0_ok 1 1 [3, 4, 5] rfl (σ' := [(3, .int .i64 (w64 (1 + (Int.tmod (w64 a) 10)))), (4, .slice (some ⟨0, 0, none⟩) (Int.toNat (w64 ((w64 (1 + (Int.tmod (w64 a) 10))) + 1))) (Int.toNat (w64 ((w64 (1 + (Int.tmod (w64 a) 10))) + 1)))), (5, .slice (some ⟨1, 0, none⟩) (Int.toNat (w64 ((w64 (1 + (Int.tmod (w64 a) 10))) + 1))) (Int.toNat (w64 ((w64 (1 + (Int.tmod (w64 a) 10))) + 1))))]) (h' := [(1, .cells (rowC (encI .i64) (List.replicate (Int.toNat (w64 ((w64 (1 + (Int.tmod (w64 a) 10))) + 1))) 0)) 0 3 1), (0, .cells (rowC encS (List.replicate (Int.toNat (w64 ((w64 (1 + (Int.tmod (w64 a) 10))) + 1))) (bs []))) 0 9 1)]) (c' := 2) (by kernel_rfl) ?_
      refine XR.done (by kernel_rfl) ?_
      show XQ _ _ _ _ _ _ _ _
      refine XQ.seq E0_ok (by kernel_rfl) ?_
      refine XQ.seq E0_ok (by kernel_rfl) ?_
      refine XQ.region (by kernel_rfl) ?_
      refine XR.run E0_ok 1 1 [3, 4, 5, 28] rfl (σ' := [(3, .int .i64 (w64 (1 + (Int.tmod (w64 a) 10)))), (4, .slice (some ⟨0, 0, none⟩) (Int.toNat (w64 ((w64 (1 + (Int.tmod (w64 a) 10))) + 1))) (Int.toNat (w64 ((w64 (1 + (Int.tmod (w64 a) 10))) + 1)))), (5, .slice (some ⟨1, 0, none⟩) (Int.toNat (w64 ((w64 (1 + (Int.tmod (w64 a) 10))) + 1))) (Int.toNat (w64 ((w64 (1 + (Int.tmod (w64 a) 10))) + 1)))), (28, .int .i64 (w64 (1 + (Int.tmod (w64 a) 10))))]) (h' := [(1, .cells (rowC (encI .i64) (List.replicate (Int.toNat (w64 ((w64 (1 + (Int.tmod (w64 a) 10))) + 1))) 0)) 0 3 1), (0, .cells (rowC encS (List.replicate (Int.toNat (w64 ((w64 (1 + (Int.tmod (w64 a) 10))) + 1))) (bs []))) 0 9 1)]) (c' := 2) (by kernel_rfl) ?_
      cases b3 : (decide (0 ≤ w64 (1 + (Int.tmod (w64 a) 10))) : Bool) with
      | false => cases (cF b3 h)
      | true =>
        have h := cT b3 h
        have e4 : insV (headI ((gsOf E0 158 (opsOf (lft (lft (rgt (rgt (rgt (rgt f11_C11)))))))).drop 1) (trS 158 [(3, .int .i64 (w64 (1 + (Int.tmod (w64 a) 10)))), (4, .slice (some ⟨0, 0, none⟩) (Int.toNat (w64 ((w64 (1 + (Int.tmod (w64 a) 10))) + 1))) (Int.toNat (w64 ((w64 (1 + (Int.tmod (w64 a) 10))) + 1)))), (5, .slice (some ⟨1, 0, none⟩) (Int.toNat (w64 ((w64 (1 + (Int.tmod (w64 a) 10))) + 1))) (Int.toNat (w64 ((w64 (1 + (Int.tmod (w64 a) 10))) + 1)))), (28, .int .i64 (w64 (1 + (Int.tmod (w64 a) 10))))])) (trS 158 [(3, .int .i64 (w64 (1 + (Int.tmod (w64 a) 10)))), (4, .slice (some ⟨0, 0, none⟩) (Int.toNat (w64 ((w64 (1 + (Int.tmod (w64 a) 10))) + 1))) (Int.toNat (w64 ((w64 (1 + (Int.tmod (w64 a) 10))) + 1)))), (5, .slice (some ⟨1, 0, none⟩) (Int.toNat (w64 ((w64 (1 + (Int.tmod (w64 a) 10))) + 1))) (Int.toNat (w64 ((w64 (1 + (Int.tmod (w64 a) 10))) + 1)))), (28, .int .i64 (w64 (1 + (Int.tmod (w64 a) 10))))]) [(1, .cells (rowC (encI .i64) (List.replicate (Int.toNat (w64 ((w64 (1 + (Int.tmod (w64 a) 10))) + 1))) 0)) 0 3 1), (0, .cells (rowC encS (List.replicate (Int.toNat (w64 ((w64 (1 + (Int.tmod (w64 a) 10))) + 1))) (bs []))) 0 9 1)] = (match (decide (0 ≤ w64 (1 + (Int.tmod (w64 a) 10))) : Bool) with | true => some (.int .u16 (shV true .u16 1 (w64 (1 + (Int.tmod (w64 a) 10))))) | false => none) := by kernel_rfl
        refine XR.rd E0_ok [3, 4, 5, 29] rfl (e4.trans (by rw [b3])) (σ' := [(3, .int .i64 (w64 (1 + (Int.tmod (w64 a) 10)))), (4, .slice (some ⟨0, 0, none⟩) (Int.toNat (w64 ((w64 (1 + (Int.tmod (w64 a) 10))) + 1))) (Int.toNat (w64 ((w64 (1 + (Int.tmod (w64 a) 10))) + 1)))), (5, .slice (some ⟨1, 0, none⟩) (Int.toNat (w64 ((w64 (1 + (Int.tmod (w64 a) 10))) + 1))) (Int.toNat (w64 ((w64 (1 + (Int.tmod (w64 a) 10))) + 1)))), (29, .int .u16 (shV true .u16 1 (w64 (1 + (Int.tmod (w64 a) 10)))))]) (by kernel_rfl) ?_
        refine XR.run E0_ok 1 1 [3, 4, 5, 29, 30] rfl (σ' := [(3, .int .i64 (w64 (1 + (Int.tmod (w64 a) 10)))), (4, .slice (some ⟨0, 0, none⟩) (Int.toNat (w64 ((w64 (1 + (Int.tmod (w64 a) 10))) + 1))) (Int.toNat (w64 ((w64 (1 + (Int.tmod (w64 a) 10))) + 1)))), (5, .slice (some ⟨1, 0, none⟩) (Int.toNat (w64 ((w64 (1 + (Int.tmod (w64 a) 10))) + 1))) (Int.toNat (w64 ((w64 (1 + (Int.tmod (w64 a) 10))) + 1)))), (29, .int .u16 (shV true .u16 1 (w64 (1 + (Int.tmod (w64 a) 10))))), (30, .int .u16 0)]) (h' := [(1, .cells (rowC (encI .i64) (List.replicate (Int.toNat (w64 ((w64 (1 + (Int.tmod (w64 a) 10))) + 1))) 0)) 0 3 1), (0, .cells (rowC encS (List.replicate (Int.toNat (w64 ((w64 (1 + (Int.tmod (w64 a) 10))) + 1))) (bs []))) 0 9 1)]) (c' := 2) (by kernel_rfl) ?_
        refine XR.done (by kernel_rfl) ?_
        show XQ _ _ _ _ _ _ _ _
        refine XQ.block (id := 0) (by kernel_rfl) ?_
        refine XQ.loop m (by kernel_rfl) ?_
        obtain ⟨o1, o1_h, h⟩ := bS h
        refine XL.ren (σ' := [(3, .int .i64 (w64 (1 + (Int.tmod (w64 a) 10)))), (4, .slice (some ⟨0, 0, none⟩) (Int.toNat (w64 ((w64 (1 + (Int.tmod (w64 a) 10))) + 1))) (Int.toNat (w64 ((w64 (1 + (Int.tmod (w64 a) 10))) + 1)))), (5, .slice (some ⟨1, 0, none⟩) (Int.toNat (w64 ((w64 (1 + (Int.tmod (w64 a) 10))) + 1))) (Int.toNat (w64 ((w64 (1 + (Int.tmod (w64 a) 10))) + 1)))), (29, .int .u16 (shV true .u16 1 (w64 (1 + (Int.tmod (w64 a) 10))))), (30, .int .u16 0)]) (h' := [(1, .cells (rowC (encI .i64) (List.replicate (Int.toNat (w64 ((w64 (1 + (Int.tmod (w64 a) 10))) + 1))) 0)) 0 3 1), (0, .cells (rowC encS (List.replicate (Int.toNat (w64 ((w64 (1 + (Int.tmod (w64 a) 10))) + 1))) (bs []))) 0 9 1)]) (c' := 2) [0, 1] (by decide) rfl ⟨by kernel_rfl, by kernel_rfl, by kernel_rfl, by kernel_rfl, by kernel_rfl, trivial⟩ ⟨⟨_, _, rfl, rfl, .inl ⟨rfl, rowC_scal (encI_ok .i64) _⟩⟩, ⟨_, _, rfl, rfl, .inl ⟨rfl, rowC_scal encS_ok _⟩⟩, trivial⟩ rfl ?_
        cases o1 with
        | r =>
          dsimp only at h
          refine XL.conv (f11_1_ok m m (w64 (1 + (Int.tmod (w64 a) 10))) (shV true .u16 1 (w64 (1 + (Int.tmod (w64 a) 10)))) 0 (List.replicate (Int.toNat (w64 ((w64 (1 + (Int.tmod (w64 a) 10))) + 1))) (bs [])) (List.replicate (Int.toNat (w64 ((w64 (1 + (Int.tmod (w64 a) 10))) + 1))) 0) (.r) o1_h _ ?_) (by first | rfl | simp)
          have h := Option.some.inj h
          subst h
          exact ⟨fun i q => (by cases q), .bool false, (by kernel_rfl), rfl⟩
        | x0 x3_x01 lh0_x01 lh1_x01 =>
          dsimp only at h
          refine XL.conv (f11_1_ok m m (w64 (1 + (Int.tmod (w64 a) 10))) (shV true .u16 1 (w64 (1 + (Int.tmod (w64 a) 10)))) 0 (List.replicate (Int.toNat (w64 ((w64 (1 + (Int.tmod (w64 a) 10))) + 1))) (bs [])) (List.replicate (Int.toNat (w64 ((w64 (1 + (Int.tmod (w64 a) 10))) + 1))) 0) (.x0 x3_x01 lh0_x01 lh1_x01) o1_h _ ?_) (by first | rfl | simp)
          show XQ _ _ _ _ _ _ _ _
          refine XQ.seq E0_ok (by kernel_rfl) ?_
          refine XQ.seq E0_ok (by kernel_rfl) ?_
          refine XQ.region (by kernel_rfl) ?_
          refine XR.run E0_ok 1 3 [3, 4, 5, 107, 108] rfl (σ' := [(3, .int .i64 x3_x01), (4, .slice (some ⟨0, 0, none⟩) lh0_x01.length lh0_x01.length), (5, .slice (some ⟨1, 0, none⟩) lh1_x01.length lh1_x01.length), (107, .int .i64 (w64 (x3_x01 + 1))), (108, .int .i64 0)]) (h' := [(1, .cells (rowC (encI .i64) lh1_x01) 0 3 1), (0, .cells (rowC encS lh0_x01) 0 9 1)]) (c' := 2) (by kernel_rfl) ?_
          refine XR.done (by kernel_rfl) ?_
          show XQ _ _ _ _ _ _ _ _
          refine XQ.block (id := 2) (by kernel_rfl) ?_
          refine XQ.loop m (by kernel_rfl) ?_
          obtain ⟨o2, o2_h, h⟩ := bS h
          refine XL.ren (σ' := [(3, .int .i64 x3_x01), (4, .slice (some ⟨0, 0, none⟩) lh0_x01.length lh0_x01.length), (5, .slice (some ⟨1, 0, none⟩) lh1_x01.length lh1_x01.length), (107, .int .i64 (w64 (x3_x01 + 1))), (108, .int .i64 0)]) (h' := [(1, .cells (rowC (encI .i64) lh1_x01) 0 3 1), (0, .cells (rowC encS lh0_x01) 0 9 1)]) (c' := 2) [0, 1] (by decide) rfl ⟨by kernel_rfl, by kernel_rfl, by kernel_rfl, by kernel_rfl, by kernel_rfl, trivial⟩ ⟨⟨_, _, rfl, rfl, .inl ⟨rfl, rowC_scal (encI_ok .i64) _⟩⟩, ⟨_, _, rfl, rfl, .inl ⟨rfl, rowC_scal encS_ok _⟩⟩, trivial⟩ rfl ?_
          cases o2 with
          | r =>
            dsimp only at h
            refine XL.conv (f11_2_ok m m x3_x01 lh0_x01 lh1_x01 (w64 (x3_x01 + 1)) 0 (.r) o2_h _ ?_) (by first | rfl | simp)
            have h := Option.some.inj h
            subst h
            exact ⟨fun i q => (by cases q), .bool false, (by kernel_rfl), rfl⟩
          | x2 =>
            dsimp only at h
            refine XL.conv (f11_2_ok m m x3_x01 lh0_x01 lh1_x01 (w64 (x3_x01 + 1)) 0 (.x2) o2_h _ ?_) (by first | rfl | simp)
            show XQ _ _ _ _ _ _ _ _
            refine XQ.seq E0_ok (by kernel_rfl) ?_
            refine XQ.region (by kernel_rfl) ?_
            refine XR.call E0_ok [157] rfl (K := 12) (args := []) (d := (some (path 12 157))) (by kernel_rfl) (KC.of_calls E0_ok (F := Proofs.Try.f12) (v := .bool true) (by kernel_rfl) rfl rfl (works_ok)) ?_
            rintro _ _ _ ⟨rfl, rfl, rfl⟩
            refine XR.conv (σ' := [(157, .bool true)]) (h' := []) (c' := 0) ?_ (by kernel_rfl)
            refine XR.run E0_ok 1 1 [2] rfl (σ' := [(2, .bool true)]) (h' := []) (c' := 0) (by kernel_rfl) ?_
            refine XR.done (by kernel_rfl) ?_
            show XQ _ _ _ _ _ _ _ _
            refine XQ.ret (by kernel_rfl) ?_
            have h := Option.some.inj h
            subst h
            exact ⟨fun i q => (by cases q), .bool true, (by kernel_rfl), rfl⟩

end Go.Xm
