/- What these functions of the program compute, as functions in Lean, and the proofs that they do: vitolalaw08.BandCounted. Conditions: the library's variable MaxLen holds some int. -/
import Derived.Test.YtdijjdkaojbolaaDp
import Derived.Test.YtdijjdkaojbolaaDg
import Derived.Test.YtdijjdkaojbolaaDo
namespace Go.Xm
open Go.RowKit
set_option linter.unusedVariables false
set_option linter.unusedSimpArgs false

/-! vitola/vitolalaw08.BandCounted -/
noncomputable def f10_C10 : Code := Proofs.Try.f10.body.getD .skip
noncomputable def f10_L1 : Code := lft (lft (rgt (lft (rgt (rgt (rgt f10_C10))))))
noncomputable def f10_L2 : Code := lft (lft (rgt (lft (rgt (rgt (rgt (rgt (rgt (rgt f10_C10)))))))))
noncomputable def f10_L3 : Code := lft (lft (rgt (lft (lft (rgt f10_L2)))))

inductive Of10_1 where
  | r
  | x0 (x9_x01 : Int) (x10_x01 : Int)

def f10_1 (m : Nat) : Nat → Int → Int → Int → Int → Int → Int → Int → Option Of10_1
  | 0, _, _, _, _, _, _, _ => none
  | fuel + 1, b, c, d, x9_1, x10_1, x32_1, x33_1 =>
    cond (decide (x33_1 < x32_1)) (
      (f37 m x9_1 x33_1).bind fun r9 =>
        (f42 m r9).bind fun r10 =>
          cond ((Int.tmod x33_1 5) == (Int.tmod (IntKind.wrap .u16 c) 5)) (
            (f33 m r9).bind fun r12 =>
              cond (r12.2 != 0) (
                some (.r)
              ) (
                cond (!(r12.1 == r10)) (
                  some (.r)
                ) (
                  f10_1 m fuel b c d x9_1 (cond (r10) (w64 (x10_1 + 1)) x10_1) x32_1 (IntKind.wrap .u16 (x33_1 + 1))
                )
              )
          ) (
            f10_1 m fuel b c d x9_1 (cond (r10) (w64 (x10_1 + 1)) x10_1) x32_1 (IntKind.wrap .u16 (x33_1 + 1))
          )
    ) (
      some (.x0 x9_1 x10_1)
    )

theorem f10_1_ok (m : Nat) : ∀ (fuel : Nat) (b : Int) (c : Int) (d : Int) (x9_1 : Int) (x10_1 : Int) (x32_1 : Int) (x33_1 : Int) (o : Of10_1), f10_1 m fuel b c d x9_1 x10_1 x32_1 x33_1 = some o → ∀ Q : QP, (match o with | .r => Q .ret [(8, .bool false)] [] 0 | .x0 x9_x01 x10_x01 => Q (.exit 0) [(1, .int .u8 b), (2, .int .u8 c), (3, .int .u8 d), (9, .int .i64 x9_x01), (10, .int .i64 x10_x01)] [] 0) → XL E0 141 0 fuel f10_L1 [(1, .int .u8 b), (2, .int .u8 c), (3, .int .u8 d), (9, .int .i64 x9_1), (10, .int .i64 x10_1), (32, .int .u16 x32_1), (33, .int .u16 x33_1)] [] 0 Q
  | 0, b, c, d, x9_1, x10_1, x32_1, x33_1, o, h, Q, hQ => by cases h
  | fuel + 1, b, c, d, x9_1, x10_1, x32_1, x33_1, o, h, Q, hQ => by
    unfold f10_1 at h
    refine XL.succ E0_ok ?_
    refine XQ.seq E0_ok (by kernel_rfl) ?_
    refine XQ.region (by kernel_rfl) ?_
    refine XR.run E0_ok 1 1 [1, 2, 3, 9, 10, 32, 33, 34] rfl (σ' := [(1, .int .u8 b), (2, .int .u8 c), (3, .int .u8 d), (9, .int .i64 x9_1), (10, .int .i64 x10_1), (32, .int .u16 x32_1), (33, .int .u16 x33_1), (34, .bool (decide (x33_1 < x32_1)))]) (h' := []) (c' := 0) (by kernel_rfl) ?_
    refine XR.done (by kernel_rfl) ?_
    show XQ _ _ _ _ _ _ _ _
    refine XQ.seq E0_ok (by kernel_rfl) ?_
    cases b1 : (decide (x33_1 < x32_1) : Bool) with
    | true =>
      have h := cT b1 h
      refine XQ.cond (s := (.tmp 34)) (b := true) (by kernel_rfl) (by kernel_rfl) (fun _ => ?_) (fun q => by cases q)
      refine XQ.skip (by kernel_rfl) ?_
      show XQ _ _ _ _ _ _ _ _
      refine XQ.seq E0_ok (by kernel_rfl) ?_
      refine XQ.block (id := 1) (by kernel_rfl) ?_
      refine XQ.seq E0_ok (by kernel_rfl) ?_
      refine XQ.region (by kernel_rfl) ?_
      refine XR.run E0_ok 1 2 [1, 2, 3, 9, 10, 11, 32, 33] rfl (σ' := [(1, .int .u8 b), (2, .int .u8 c), (3, .int .u8 d), (9, .int .i64 x9_1), (10, .int .i64 x10_1), (11, .int .u16 x33_1), (32, .int .u16 x32_1), (33, .int .u16 x33_1)]) (h' := []) (c' := 0) (by kernel_rfl) ?_
      refine XR.done (by kernel_rfl) ?_
      show XQ _ _ _ _ _ _ _ _
      refine XQ.seq E0_ok (by kernel_rfl) ?_
      refine XQ.region (by kernel_rfl) ?_
      refine XR.run E0_ok 1 2 [1, 2, 3, 9, 10, 11, 32, 33, 36, 37] rfl (σ' := [(1, .int .u8 b), (2, .int .u8 c), (3, .int .u8 d), (9, .int .i64 x9_1), (10, .int .i64 x10_1), (11, .int .u16 x33_1), (32, .int .u16 x32_1), (33, .int .u16 x33_1), (36, .int .i64 x9_1), (37, .int .u16 x33_1)]) (h' := []) (c' := 0) (by kernel_rfl) ?_
      obtain ⟨r9, r9_h, h⟩ := bS h
      refine XR.call E0_ok [1, 2, 3, 9, 10, 11, 32, 33, 38] rfl (K := 37) (args := [.int .i64 x9_1, .int .u16 x33_1]) (d := (some (path 12 38))) (by kernel_rfl) (KC.of_calls E0_ok (F := Proofs.Try.f37) (v := .string r9) (by kernel_rfl) rfl rfl (fun w hI => f37_ok m x9_1 x33_1 r9 r9_h w hI)) ?_
      rintro _ _ _ ⟨rfl, rfl, rfl⟩
      refine XR.conv (σ' := [(1, .int .u8 b), (2, .int .u8 c), (3, .int .u8 d), (9, .int .i64 x9_1), (10, .int .i64 x10_1), (11, .int .u16 x33_1), (32, .int .u16 x32_1), (33, .int .u16 x33_1), (38, .string r9)]) (h' := []) (c' := 0) ?_ (by kernel_rfl)
      refine XR.run E0_ok 1 1 [1, 2, 3, 9, 10, 11, 12, 32, 33] rfl (σ' := [(1, .int .u8 b), (2, .int .u8 c), (3, .int .u8 d), (9, .int .i64 x9_1), (10, .int .i64 x10_1), (11, .int .u16 x33_1), (12, .string r9), (32, .int .u16 x32_1), (33, .int .u16 x33_1)]) (h' := []) (c' := 0) (by kernel_rfl) ?_
      refine XR.done (by kernel_rfl) ?_
      show XQ _ _ _ _ _ _ _ _
      refine XQ.seq E0_ok (by kernel_rfl) ?_
      refine XQ.region (by kernel_rfl) ?_
      refine XR.run E0_ok 1 1 [1, 2, 3, 9, 10, 11, 12, 32, 33, 39] rfl (σ' := [(1, .int .u8 b), (2, .int .u8 c), (3, .int .u8 d), (9, .int .i64 x9_1), (10, .int .i64 x10_1), (11, .int .u16 x33_1), (12, .string r9), (32, .int .u16 x32_1), (33, .int .u16 x33_1), (39, .string r9)]) (h' := []) (c' := 0) (by kernel_rfl) ?_
      obtain ⟨r10, r10_h, h⟩ := bS h
      refine XR.call E0_ok [1, 2, 3, 9, 10, 11, 12, 32, 33, 40] rfl (K := 42) (args := [.string r9]) (d := (some (path 12 40))) (by kernel_rfl) (KC.of_calls E0_ok (F := Proofs.Try.f42) (v := .bool r10) (by kernel_rfl) rfl rfl (fun w hI => f42_ok m r9 r10 r10_h w hI)) ?_
      rintro _ _ _ ⟨rfl, rfl, rfl⟩
      refine XR.conv (σ' := [(1, .int .u8 b), (2, .int .u8 c), (3, .int .u8 d), (9, .int .i64 x9_1), (10, .int .i64 x10_1), (11, .int .u16 x33_1), (12, .string r9), (32, .int .u16 x32_1), (33, .int .u16 x33_1), (40, .bool r10)]) (h' := []) (c' := 0) ?_ (by kernel_rfl)
      refine XR.run E0_ok 1 1 [1, 2, 3, 9, 10, 11, 12, 13, 32, 33] rfl (σ' := [(1, .int .u8 b), (2, .int .u8 c), (3, .int .u8 d), (9, .int .i64 x9_1), (10, .int .i64 x10_1), (11, .int .u16 x33_1), (12, .string r9), (13, .bool r10), (32, .int .u16 x32_1), (33, .int .u16 x33_1)]) (h' := []) (c' := 0) (by kernel_rfl) ?_
      refine XR.done (by kernel_rfl) ?_
      show XQ _ _ _ _ _ _ _ _
      refine XQ.seq E0_ok (by kernel_rfl) ?_
      refine XQ.seq E0_ok (by kernel_rfl) ?_
      refine XQ.region (by kernel_rfl) ?_
      refine XR.run E0_ok 1 1 [1, 2, 3, 9, 10, 11, 12, 13, 32, 33, 41] rfl (σ' := [(1, .int .u8 b), (2, .int .u8 c), (3, .int .u8 d), (9, .int .i64 x9_1), (10, .int .i64 x10_1), (11, .int .u16 x33_1), (12, .string r9), (13, .bool r10), (32, .int .u16 x32_1), (33, .int .u16 x33_1), (41, .bool r10)]) (h' := []) (c' := 0) (by kernel_rfl) ?_
      refine XR.done (by kernel_rfl) ?_
      show XQ _ _ _ _ _ _ _ _
      refine XQ.meetC (σ' := [(1, .int .u8 b), (2, .int .u8 c), (3, .int .u8 d), (9, .int .i64 x9_1), (10, .int .i64 (cond (r10) (w64 (x10_1 + 1)) x10_1)), (11, .int .u16 x33_1), (12, .string r9), (13, .bool r10), (32, .int .u16 x32_1), (33, .int .u16 x33_1)]) (h' := []) (c' := 0) ?_ ?_
      rotate_left
      · refine XQ.cond (s := (.tmp 41)) (b := r10) (by kernel_rfl) (by kernel_rfl) (fun b2 => ?_) (fun b2 => ?_)
        · refine XQ.region (by kernel_rfl) ?_
          refine XR.run E0_ok 1 3 [1, 2, 3, 9, 10, 11, 12, 13, 32, 33] rfl (σ' := [(1, .int .u8 b), (2, .int .u8 c), (3, .int .u8 d), (9, .int .i64 x9_1), (10, .int .i64 (w64 (x10_1 + 1))), (11, .int .u16 x33_1), (12, .string r9), (13, .bool r10), (32, .int .u16 x32_1), (33, .int .u16 x33_1)]) (h' := []) (c' := 0) (by kernel_rfl) ?_
          refine XR.done (by kernel_rfl) ?_
          refine ⟨rfl, ?_, ?_⟩
          · try rw [b2]
            exact ⟨by kernel_rfl, by kernel_rfl, by kernel_rfl, by kernel_rfl, by kernel_rfl, by kernel_rfl, by kernel_rfl, by kernel_rfl, by kernel_rfl, by kernel_rfl, trivial⟩
          · try rw [b2]
            kernel_rfl
        · refine XQ.skip (by kernel_rfl) ?_
          refine ⟨rfl, ?_, ?_⟩
          · try rw [b2]
            exact ⟨by kernel_rfl, by kernel_rfl, by kernel_rfl, by kernel_rfl, by kernel_rfl, by kernel_rfl, by kernel_rfl, by kernel_rfl, by kernel_rfl, by kernel_rfl, trivial⟩
          · try rw [b2]
            kernel_rfl
      show XQ _ _ _ _ _ _ _ _
      refine XQ.seq E0_ok (by kernel_rfl) ?_
      refine XQ.region (by kernel_rfl) ?_
      refine XR.run E0_ok 1 6 [1, 2, 3, 9, 10, 12, 13, 32, 33, 49] rfl (σ' := [(1, .int .u8 b), (2, .int .u8 c), (3, .int .u8 d), (9, .int .i64 x9_1), (10, .int .i64 (cond (r10) (w64 (x10_1 + 1)) x10_1)), (12, .string r9), (13, .bool r10), (32, .int .u16 x32_1), (33, .int .u16 x33_1), (49, .bool ((Int.tmod x33_1 5) == (Int.tmod (IntKind.wrap .u16 c) 5)))]) (h' := []) (c' := 0) (by kernel_rfl) ?_
      refine XR.done (by kernel_rfl) ?_
      show XQ _ _ _ _ _ _ _ _
      cases b3 : ((Int.tmod x33_1 5) == (Int.tmod (IntKind.wrap .u16 c) 5) : Bool) with
      | true =>
        have h := cT b3 h
        refine XQ.cond (s := (.tmp 49)) (b := true) (by kernel_rfl) (by kernel_rfl) (fun _ => ?_) (fun q => by cases q)
        refine XQ.seq E0_ok (by kernel_rfl) ?_
        refine XQ.region (by kernel_rfl) ?_
        refine XR.run E0_ok 1 1 [1, 2, 3, 9, 10, 13, 32, 33, 51] rfl (σ' := [(1, .int .u8 b), (2, .int .u8 c), (3, .int .u8 d), (9, .int .i64 x9_1), (10, .int .i64 (cond (r10) (w64 (x10_1 + 1)) x10_1)), (13, .bool r10), (32, .int .u16 x32_1), (33, .int .u16 x33_1), (51, .string r9)]) (h' := []) (c' := 0) (by kernel_rfl) ?_
        obtain ⟨r12, r12_h, h⟩ := bS h
        refine XR.call E0_ok [1, 2, 3, 9, 10, 13, 32, 33, 52] rfl (K := 33) (args := [.string r9]) (d := (some (path 12 52))) (by kernel_rfl) (KC.of_calls E0_ok (F := Proofs.Try.f33) (v := .tuple #[.bool r12.1, .int .i64 r12.2]) (by kernel_rfl) rfl rfl (fun w hI => f33_ok m r9 r12 r12_h w hI)) ?_
        rintro _ _ _ ⟨rfl, rfl, rfl⟩
        refine XR.conv (σ' := [(1, .int .u8 b), (2, .int .u8 c), (3, .int .u8 d), (9, .int .i64 x9_1), (10, .int .i64 (cond (r10) (w64 (x10_1 + 1)) x10_1)), (13, .bool r10), (32, .int .u16 x32_1), (33, .int .u16 x33_1), (52, .tuple #[.bool r12.1, .int .i64 r12.2])]) (h' := []) (c' := 0) ?_ (by kernel_rfl)
        refine XR.run E0_ok 1 5 [1, 2, 3, 9, 10, 13, 14, 15, 32, 33] rfl (σ' := [(1, .int .u8 b), (2, .int .u8 c), (3, .int .u8 d), (9, .int .i64 x9_1), (10, .int .i64 (cond (r10) (w64 (x10_1 + 1)) x10_1)), (13, .bool r10), (14, .bool r12.1), (15, .int .i64 r12.2), (32, .int .u16 x32_1), (33, .int .u16 x33_1)]) (h' := []) (c' := 0) (by kernel_rfl) ?_
        refine XR.done (by kernel_rfl) ?_
        show XQ _ _ _ _ _ _ _ _
        refine XQ.seq E0_ok (by kernel_rfl) ?_
        refine XQ.region (by kernel_rfl) ?_
        refine XR.run E0_ok 1 3 [1, 2, 3, 9, 10, 13, 14, 32, 33, 57] rfl (σ' := [(1, .int .u8 b), (2, .int .u8 c), (3, .int .u8 d), (9, .int .i64 x9_1), (10, .int .i64 (cond (r10) (w64 (x10_1 + 1)) x10_1)), (13, .bool r10), (14, .bool r12.1), (32, .int .u16 x32_1), (33, .int .u16 x33_1), (57, .bool (r12.2 != 0))]) (h' := []) (c' := 0) (by kernel_rfl) ?_
        cases b4 : (r12.2 != 0 : Bool) with
        | true =>
          have h := cT b4 h
          refine XR.run E0_ok 1 4 [1, 2, 3, 9, 10, 32, 33, 61] rfl (σ' := [(1, .int .u8 b), (2, .int .u8 c), (3, .int .u8 d), (9, .int .i64 x9_1), (10, .int .i64 (cond (r10) (w64 (x10_1 + 1)) x10_1)), (32, .int .u16 x32_1), (33, .int .u16 x33_1), (61, .bool true)]) (h' := []) (c' := 0) (by kernel_rfl) ?_
          refine XR.done (by kernel_rfl) ?_
          show XQ _ _ _ _ _ _ _ _
          refine XQ.cond (s := (.tmp 61)) (b := true) (by kernel_rfl) (by kernel_rfl) (fun _ => ?_) (fun q => by cases q)
          refine XQ.seq E0_ok (by kernel_rfl) ?_
          refine XQ.region (by kernel_rfl) ?_
          refine XR.run E0_ok 1 1 [8] rfl (σ' := [(8, .bool false)]) (h' := []) (c' := 0) (by kernel_rfl) ?_
          refine XR.done (by kernel_rfl) ?_
          show XQ _ _ _ _ _ _ _ _
          refine XQ.ren (σ' := [(8, .bool false)]) (h' := []) (c' := 0) [] (by decide) rfl ⟨by kernel_rfl, trivial⟩ trivial rfl ?_
          refine XQ.ret (by kernel_rfl) ?_
          cases h
          exact hQ
        | false =>
          have h := cF b4 h
          refine XR.run E0_ok 1 4 [1, 2, 3, 9, 10, 32, 33, 61] rfl (σ' := [(1, .int .u8 b), (2, .int .u8 c), (3, .int .u8 d), (9, .int .i64 x9_1), (10, .int .i64 (cond (r10) (w64 (x10_1 + 1)) x10_1)), (32, .int .u16 x32_1), (33, .int .u16 x33_1), (61, .bool (!(r12.1 == r10)))]) (h' := []) (c' := 0) (by kernel_rfl) ?_
          refine XR.done (by kernel_rfl) ?_
          show XQ _ _ _ _ _ _ _ _
          cases b5 : (!(r12.1 == r10) : Bool) with
          | true =>
            have h := cT b5 h
            refine XQ.cond (s := (.tmp 61)) (b := true) (by kernel_rfl) (by kernel_rfl) (fun _ => ?_) (fun q => by cases q)
            refine XQ.seq E0_ok (by kernel_rfl) ?_
            refine XQ.region (by kernel_rfl) ?_
            refine XR.run E0_ok 1 1 [8] rfl (σ' := [(8, .bool false)]) (h' := []) (c' := 0) (by kernel_rfl) ?_
            refine XR.done (by kernel_rfl) ?_
            show XQ _ _ _ _ _ _ _ _
            refine XQ.ren (σ' := [(8, .bool false)]) (h' := []) (c' := 0) [] (by decide) rfl ⟨by kernel_rfl, trivial⟩ trivial rfl ?_
            refine XQ.ret (by kernel_rfl) ?_
            cases h
            exact hQ
          | false =>
            have h := cF b5 h
            refine XQ.cond (s := (.tmp 61)) (b := false) (by kernel_rfl) (by kernel_rfl) (fun q => by cases q) (fun _ => ?_)
            refine XQ.skip (by kernel_rfl) ?_
            show XQ _ _ _ _ _ _ _ _
            refine XQ.region (by kernel_rfl) ?_
            refine XR.run E0_ok 1 2 [1, 2, 3, 9, 10, 32, 33] rfl (σ' := [(1, .int .u8 b), (2, .int .u8 c), (3, .int .u8 d), (9, .int .i64 x9_1), (10, .int .i64 (cond (r10) (w64 (x10_1 + 1)) x10_1)), (32, .int .u16 x32_1), (33, .int .u16 (IntKind.wrap .u16 (x33_1 + 1)))]) (h' := []) (c' := 0) (by kernel_rfl) ?_
            refine XR.done (by kernel_rfl) ?_
            show XL _ _ _ _ _ _ _ _ _
            refine XL.ren (σ' := [(1, .int .u8 b), (2, .int .u8 c), (3, .int .u8 d), (9, .int .i64 x9_1), (10, .int .i64 (cond (r10) (w64 (x10_1 + 1)) x10_1)), (32, .int .u16 x32_1), (33, .int .u16 (IntKind.wrap .u16 (x33_1 + 1)))]) (h' := []) (c' := 0) [] (by decide) rfl ⟨by kernel_rfl, by kernel_rfl, by kernel_rfl, by kernel_rfl, by kernel_rfl, by kernel_rfl, by kernel_rfl, trivial⟩ trivial rfl ?_
            refine XL.conv (f10_1_ok m fuel b c d x9_1 (cond (r10) (w64 (x10_1 + 1)) x10_1) x32_1 (IntKind.wrap .u16 (x33_1 + 1)) o h Q hQ) (by first | rfl | simp)
      | false =>
        have h := cF b3 h
        refine XQ.cond (s := (.tmp 49)) (b := false) (by kernel_rfl) (by kernel_rfl) (fun q => by cases q) (fun _ => ?_)
        refine XQ.skip (by kernel_rfl) ?_
        show XQ _ _ _ _ _ _ _ _
        refine XQ.region (by kernel_rfl) ?_
        refine XR.run E0_ok 1 2 [1, 2, 3, 9, 10, 32, 33] rfl (σ' := [(1, .int .u8 b), (2, .int .u8 c), (3, .int .u8 d), (9, .int .i64 x9_1), (10, .int .i64 (cond (r10) (w64 (x10_1 + 1)) x10_1)), (32, .int .u16 x32_1), (33, .int .u16 (IntKind.wrap .u16 (x33_1 + 1)))]) (h' := []) (c' := 0) (by kernel_rfl) ?_
        refine XR.done (by kernel_rfl) ?_
        show XL _ _ _ _ _ _ _ _ _
        refine XL.ren (σ' := [(1, .int .u8 b), (2, .int .u8 c), (3, .int .u8 d), (9, .int .i64 x9_1), (10, .int .i64 (cond (r10) (w64 (x10_1 + 1)) x10_1)), (32, .int .u16 x32_1), (33, .int .u16 (IntKind.wrap .u16 (x33_1 + 1)))]) (h' := []) (c' := 0) [] (by decide) rfl ⟨by kernel_rfl, by kernel_rfl, by kernel_rfl, by kernel_rfl, by kernel_rfl, by kernel_rfl, by kernel_rfl, trivial⟩ trivial rfl ?_
        refine XL.conv (f10_1_ok m fuel b c d x9_1 (cond (r10) (w64 (x10_1 + 1)) x10_1) x32_1 (IntKind.wrap .u16 (x33_1 + 1)) o h Q hQ) (by first | rfl | simp)
    | false =>
      have h := cF b1 h
      refine XQ.cond (s := (.tmp 34)) (b := false) (by kernel_rfl) (by kernel_rfl) (fun q => by cases q) (fun _ => ?_)
      refine XQ.ren (σ' := [(1, .int .u8 b), (2, .int .u8 c), (3, .int .u8 d), (9, .int .i64 x9_1), (10, .int .i64 x10_1)]) (h' := []) (c' := 0) [] (by decide) rfl ⟨by kernel_rfl, by kernel_rfl, by kernel_rfl, by kernel_rfl, by kernel_rfl, trivial⟩ trivial rfl ?_
      refine XQ.exit (i := 0) (by kernel_rfl) ?_
      cases h
      exact hQ

def f10_3 (m : Nat) : Nat → Int → Int → Int → Int → Int → Int → Int → Int → Int → Int → Option Int
  | 0, _, _, _, _, _, _, _, _, _, _ => none
  | fuel + 1, b, c, d, x9_x01, x10_x01, x16_2, x17_2, x19_2, x18_3, x20_3 =>
    cond (decide (x20_3 ≤ x19_2)) (
      (f41 m x19_2 x20_3).bind fun r22 =>
        f10_3 m fuel b c d x9_x01 x10_x01 x16_2 x17_2 x19_2 (cond (r22 == 1) (w64 (x18_3 + (w64 ((w64 (x9_x01 - x19_2)) + 1)))) x18_3) (w64 (x20_3 + 1))
    ) (
      some (x18_3)
    )

theorem f10_3_ok (m : Nat) : ∀ (fuel : Nat) (b : Int) (c : Int) (d : Int) (x9_x01 : Int) (x10_x01 : Int) (x16_2 : Int) (x17_2 : Int) (x19_2 : Int) (x18_3 : Int) (x20_3 : Int) (o : Int), f10_3 m fuel b c d x9_x01 x10_x01 x16_2 x17_2 x19_2 x18_3 x20_3 = some o → ∀ Q : QP, Q (.exit 4) [(1, .int .u8 b), (2, .int .u8 c), (3, .int .u8 d), (9, .int .i64 x9_x01), (10, .int .i64 x10_x01), (16, .int .i64 x16_2), (17, .int .i64 x17_2), (18, .int .i64 o), (19, .int .i64 x19_2)] [] 0 → XL E0 141 0 fuel f10_L3 [(1, .int .u8 b), (2, .int .u8 c), (3, .int .u8 d), (9, .int .i64 x9_x01), (10, .int .i64 x10_x01), (16, .int .i64 x16_2), (17, .int .i64 x17_2), (18, .int .i64 x18_3), (19, .int .i64 x19_2), (20, .int .i64 x20_3)] [] 0 Q
  | 0, b, c, d, x9_x01, x10_x01, x16_2, x17_2, x19_2, x18_3, x20_3, o, h, Q, hQ => by cases h
  | fuel + 1, b, c, d, x9_x01, x10_x01, x16_2, x17_2, x19_2, x18_3, x20_3, o, h, Q, hQ => by
    unfold f10_3 at h
    refine XL.succ E0_ok ?_
    refine XQ.seq E0_ok (by kernel_rfl) ?_
    refine XQ.seq E0_ok (by kernel_rfl) ?_
    refine XQ.region (by kernel_rfl) ?_
    refine XR.run E0_ok 1 3 [1, 2, 3, 9, 10, 16, 17, 18, 19, 20, 75] rfl (σ' := [(1, .int .u8 b), (2, .int .u8 c), (3, .int .u8 d), (9, .int .i64 x9_x01), (10, .int .i64 x10_x01), (16, .int .i64 x16_2), (17, .int .i64 x17_2), (18, .int .i64 x18_3), (19, .int .i64 x19_2), (20, .int .i64 x20_3), (75, .bool (decide (x20_3 ≤ x19_2)))]) (h' := []) (c' := 0) (by kernel_rfl) ?_
    refine XR.done (by kernel_rfl) ?_
    show XQ _ _ _ _ _ _ _ _
    cases b1 : (decide (x20_3 ≤ x19_2) : Bool) with
    | true =>
      have h := cT b1 h
      refine XQ.cond (s := (.tmp 75)) (b := true) (by kernel_rfl) (by kernel_rfl) (fun _ => ?_) (fun q => by cases q)
      refine XQ.skip (by kernel_rfl) ?_
      show XQ _ _ _ _ _ _ _ _
      refine XQ.seq E0_ok (by kernel_rfl) ?_
      refine XQ.block (id := 5) (by kernel_rfl) ?_
      refine XQ.seq E0_ok (by kernel_rfl) ?_
      refine XQ.region (by kernel_rfl) ?_
      refine XR.run E0_ok 1 2 [1, 2, 3, 9, 10, 16, 17, 18, 19, 20, 78, 79] rfl (σ' := [(1, .int .u8 b), (2, .int .u8 c), (3, .int .u8 d), (9, .int .i64 x9_x01), (10, .int .i64 x10_x01), (16, .int .i64 x16_2), (17, .int .i64 x17_2), (18, .int .i64 x18_3), (19, .int .i64 x19_2), (20, .int .i64 x20_3), (78, .int .i64 x19_2), (79, .int .i64 x20_3)]) (h' := []) (c' := 0) (by kernel_rfl) ?_
      obtain ⟨r22, r22_h, h⟩ := bS h
      refine XR.call E0_ok [1, 2, 3, 9, 10, 16, 17, 18, 19, 20, 80] rfl (K := 41) (args := [.int .i64 x19_2, .int .i64 x20_3]) (d := (some (path 12 80))) (by kernel_rfl) (KC.of_calls E0_ok (F := Proofs.Try.f41) (v := .int .i64 r22) (by kernel_rfl) rfl rfl (fun w hI => f41_ok m x19_2 x20_3 r22 r22_h w hI)) ?_
      rintro _ _ _ ⟨rfl, rfl, rfl⟩
      refine XR.conv (σ' := [(1, .int .u8 b), (2, .int .u8 c), (3, .int .u8 d), (9, .int .i64 x9_x01), (10, .int .i64 x10_x01), (16, .int .i64 x16_2), (17, .int .i64 x17_2), (18, .int .i64 x18_3), (19, .int .i64 x19_2), (20, .int .i64 x20_3), (80, .int .i64 r22)]) (h' := []) (c' := 0) ?_ (by kernel_rfl)
      refine XR.run E0_ok 1 1 [1, 2, 3, 9, 10, 16, 17, 18, 19, 20, 81] rfl (σ' := [(1, .int .u8 b), (2, .int .u8 c), (3, .int .u8 d), (9, .int .i64 x9_x01), (10, .int .i64 x10_x01), (16, .int .i64 x16_2), (17, .int .i64 x17_2), (18, .int .i64 x18_3), (19, .int .i64 x19_2), (20, .int .i64 x20_3), (81, .bool (r22 == 1))]) (h' := []) (c' := 0) (by kernel_rfl) ?_
      refine XR.done (by kernel_rfl) ?_
      show XQ _ _ _ _ _ _ _ _
      refine XQ.meetC (σ' := [(1, .int .u8 b), (2, .int .u8 c), (3, .int .u8 d), (9, .int .i64 x9_x01), (10, .int .i64 x10_x01), (16, .int .i64 x16_2), (17, .int .i64 x17_2), (18, .int .i64 (cond (r22 == 1) (w64 (x18_3 + (w64 ((w64 (x9_x01 - x19_2)) + 1)))) x18_3)), (19, .int .i64 x19_2), (20, .int .i64 x20_3)]) (h' := []) (c' := 0) ?_ ?_
      rotate_left
      · refine XQ.cond (s := (.tmp 81)) (b := r22 == 1) (by kernel_rfl) (by kernel_rfl) (fun b2 => ?_) (fun b2 => ?_)
        · refine XQ.region (by kernel_rfl) ?_
          refine XR.run E0_ok 1 7 [1, 2, 3, 9, 10, 16, 17, 18, 19, 20] rfl (σ' := [(1, .int .u8 b), (2, .int .u8 c), (3, .int .u8 d), (9, .int .i64 x9_x01), (10, .int .i64 x10_x01), (16, .int .i64 x16_2), (17, .int .i64 x17_2), (18, .int .i64 (w64 (x18_3 + (w64 ((w64 (x9_x01 - x19_2)) + 1))))), (19, .int .i64 x19_2), (20, .int .i64 x20_3)]) (h' := []) (c' := 0) (by kernel_rfl) ?_
          refine XR.done (by kernel_rfl) ?_
          refine ⟨rfl, ?_, ?_⟩
          · try rw [b2]
            exact ⟨by kernel_rfl, by kernel_rfl, by kernel_rfl, by kernel_rfl, by kernel_rfl, by kernel_rfl, by kernel_rfl, by kernel_rfl, by kernel_rfl, by kernel_rfl, trivial⟩
          · try rw [b2]
            kernel_rfl
        · refine XQ.skip (by kernel_rfl) ?_
          refine ⟨rfl, ?_, ?_⟩
          · try rw [b2]
            exact ⟨by kernel_rfl, by kernel_rfl, by kernel_rfl, by kernel_rfl, by kernel_rfl, by kernel_rfl, by kernel_rfl, by kernel_rfl, by kernel_rfl, by kernel_rfl, trivial⟩
          · try rw [b2]
            kernel_rfl
      show XQ _ _ _ _ _ _ _ _
      refine XQ.region (by kernel_rfl) ?_
      refine XR.run E0_ok 1 3 [1, 2, 3, 9, 10, 16, 17, 18, 19, 20] rfl (σ' := [(1, .int .u8 b), (2, .int .u8 c), (3, .int .u8 d), (9, .int .i64 x9_x01), (10, .int .i64 x10_x01), (16, .int .i64 x16_2), (17, .int .i64 x17_2), (18, .int .i64 (cond (r22 == 1) (w64 (x18_3 + (w64 ((w64 (x9_x01 - x19_2)) + 1)))) x18_3)), (19, .int .i64 x19_2), (20, .int .i64 (w64 (x20_3 + 1)))]) (h' := []) (c' := 0) (by kernel_rfl) ?_
      refine XR.done (by kernel_rfl) ?_
      show XL _ _ _ _ _ _ _ _ _
      refine XL.ren (σ' := [(1, .int .u8 b), (2, .int .u8 c), (3, .int .u8 d), (9, .int .i64 x9_x01), (10, .int .i64 x10_x01), (16, .int .i64 x16_2), (17, .int .i64 x17_2), (18, .int .i64 (cond (r22 == 1) (w64 (x18_3 + (w64 ((w64 (x9_x01 - x19_2)) + 1)))) x18_3)), (19, .int .i64 x19_2), (20, .int .i64 (w64 (x20_3 + 1)))]) (h' := []) (c' := 0) [] (by decide) rfl ⟨by kernel_rfl, by kernel_rfl, by kernel_rfl, by kernel_rfl, by kernel_rfl, by kernel_rfl, by kernel_rfl, by kernel_rfl, by kernel_rfl, by kernel_rfl, trivial⟩ trivial rfl ?_
      refine XL.conv (f10_3_ok m fuel b c d x9_x01 x10_x01 x16_2 x17_2 x19_2 (cond (r22 == 1) (w64 (x18_3 + (w64 ((w64 (x9_x01 - x19_2)) + 1)))) x18_3) (w64 (x20_3 + 1)) o h Q hQ) (by first | rfl | simp)
    | false =>
      have h := cF b1 h
      refine XQ.cond (s := (.tmp 75)) (b := false) (by kernel_rfl) (by kernel_rfl) (fun q => by cases q) (fun _ => ?_)
      refine XQ.ren (σ' := [(1, .int .u8 b), (2, .int .u8 c), (3, .int .u8 d), (9, .int .i64 x9_x01), (10, .int .i64 x10_x01), (16, .int .i64 x16_2), (17, .int .i64 x17_2), (18, .int .i64 x18_3), (19, .int .i64 x19_2)]) (h' := []) (c' := 0) [] (by decide) rfl ⟨by kernel_rfl, by kernel_rfl, by kernel_rfl, by kernel_rfl, by kernel_rfl, by kernel_rfl, by kernel_rfl, by kernel_rfl, by kernel_rfl, trivial⟩ trivial rfl ?_
      refine XQ.exit (i := 4) (by kernel_rfl) ?_
      cases h
      exact hQ

def f10_2 (m : Nat) : Nat → Int → Int → Int → Int → Int → Int → Int → Int → Int → Option (Int × Int × Int)
  | 0, _, _, _, _, _, _, _, _, _ => none
  | fuel + 1, b, c, d, x9_x01, x10_x01, x16_2, x17_2, x18_2, x19_2 =>
    cond (decide (x19_2 ≤ x9_x01)) (
      (f10_3 m m b c d x9_x01 x10_x01 x16_2 x17_2 x19_2 x18_2 1).bind fun o3 =>
        f10_2 m fuel b c d x9_x01 x10_x01 x16_2 x17_2 o3 (w64 (x19_2 + 1))
    ) (
      some (x16_2, x17_2, x18_2)
    )

theorem f10_2_ok (m : Nat) : ∀ (fuel : Nat) (b : Int) (c : Int) (d : Int) (x9_x01 : Int) (x10_x01 : Int) (x16_2 : Int) (x17_2 : Int) (x18_2 : Int) (x19_2 : Int) (o : (Int × Int × Int)), f10_2 m fuel b c d x9_x01 x10_x01 x16_2 x17_2 x18_2 x19_2 = some o → ∀ Q : QP, Q (.exit 2) [(1, .int .u8 b), (2, .int .u8 c), (3, .int .u8 d), (10, .int .i64 x10_x01), (16, .int .i64 o.1), (17, .int .i64 o.2.1), (18, .int .i64 o.2.2)] [] 0 → XL E0 141 0 fuel f10_L2 [(1, .int .u8 b), (2, .int .u8 c), (3, .int .u8 d), (9, .int .i64 x9_x01), (10, .int .i64 x10_x01), (16, .int .i64 x16_2), (17, .int .i64 x17_2), (18, .int .i64 x18_2), (19, .int .i64 x19_2)] [] 0 Q
  | 0, b, c, d, x9_x01, x10_x01, x16_2, x17_2, x18_2, x19_2, o, h, Q, hQ => by cases h
  | fuel + 1, b, c, d, x9_x01, x10_x01, x16_2, x17_2, x18_2, x19_2, o, h, Q, hQ => by
    unfold f10_2 at h
    refine XL.succ E0_ok ?_
    refine XQ.seq E0_ok (by kernel_rfl) ?_
    refine XQ.seq E0_ok (by kernel_rfl) ?_
    refine XQ.region (by kernel_rfl) ?_
    refine XR.run E0_ok 1 3 [1, 2, 3, 9, 10, 16, 17, 18, 19, 70] rfl (σ' := [(1, .int .u8 b), (2, .int .u8 c), (3, .int .u8 d), (9, .int .i64 x9_x01), (10, .int .i64 x10_x01), (16, .int .i64 x16_2), (17, .int .i64 x17_2), (18, .int .i64 x18_2), (19, .int .i64 x19_2), (70, .bool (decide (x19_2 ≤ x9_x01)))]) (h' := []) (c' := 0) (by kernel_rfl) ?_
    refine XR.done (by kernel_rfl) ?_
    show XQ _ _ _ _ _ _ _ _
    cases b1 : (decide (x19_2 ≤ x9_x01) : Bool) with
    | true =>
      have h := cT b1 h
      refine XQ.cond (s := (.tmp 70)) (b := true) (by kernel_rfl) (by kernel_rfl) (fun _ => ?_) (fun q => by cases q)
      refine XQ.skip (by kernel_rfl) ?_
      show XQ _ _ _ _ _ _ _ _
      refine XQ.seq E0_ok (by kernel_rfl) ?_
      refine XQ.block (id := 3) (by kernel_rfl) ?_
      refine XQ.seq E0_ok (by kernel_rfl) ?_
      refine XQ.region (by kernel_rfl) ?_
      refine XR.run E0_ok 1 1 [1, 2, 3, 9, 10, 16, 17, 18, 19, 20] rfl (σ' := [(1, .int .u8 b), (2, .int .u8 c), (3, .int .u8 d), (9, .int .i64 x9_x01), (10, .int .i64 x10_x01), (16, .int .i64 x16_2), (17, .int .i64 x17_2), (18, .int .i64 x18_2), (19, .int .i64 x19_2), (20, .int .i64 1)]) (h' := []) (c' := 0) (by kernel_rfl) ?_
      refine XR.done (by kernel_rfl) ?_
      show XQ _ _ _ _ _ _ _ _
      refine XQ.block (id := 4) (by kernel_rfl) ?_
      refine XQ.loop m (by kernel_rfl) ?_
      obtain ⟨o3, o3_h, h⟩ := bS h
      refine XL.ren (σ' := [(1, .int .u8 b), (2, .int .u8 c), (3, .int .u8 d), (9, .int .i64 x9_x01), (10, .int .i64 x10_x01), (16, .int .i64 x16_2), (17, .int .i64 x17_2), (18, .int .i64 x18_2), (19, .int .i64 x19_2), (20, .int .i64 1)]) (h' := []) (c' := 0) [] (by decide) rfl ⟨by kernel_rfl, by kernel_rfl, by kernel_rfl, by kernel_rfl, by kernel_rfl, by kernel_rfl, by kernel_rfl, by kernel_rfl, by kernel_rfl, by kernel_rfl, trivial⟩ trivial rfl ?_
      refine XL.conv (f10_3_ok m m b c d x9_x01 x10_x01 x16_2 x17_2 x19_2 x18_2 1 o3 o3_h _ ?_) (by first | rfl | simp)
      show XQ _ _ _ _ _ _ _ _
      refine XQ.region (by kernel_rfl) ?_
      refine XR.run E0_ok 1 3 [1, 2, 3, 9, 10, 16, 17, 18, 19] rfl (σ' := [(1, .int .u8 b), (2, .int .u8 c), (3, .int .u8 d), (9, .int .i64 x9_x01), (10, .int .i64 x10_x01), (16, .int .i64 x16_2), (17, .int .i64 x17_2), (18, .int .i64 o3), (19, .int .i64 (w64 (x19_2 + 1)))]) (h' := []) (c' := 0) (by kernel_rfl) ?_
      refine XR.done (by kernel_rfl) ?_
      show XL _ _ _ _ _ _ _ _ _
      refine XL.ren (σ' := [(1, .int .u8 b), (2, .int .u8 c), (3, .int .u8 d), (9, .int .i64 x9_x01), (10, .int .i64 x10_x01), (16, .int .i64 x16_2), (17, .int .i64 x17_2), (18, .int .i64 o3), (19, .int .i64 (w64 (x19_2 + 1)))]) (h' := []) (c' := 0) [] (by decide) rfl ⟨by kernel_rfl, by kernel_rfl, by kernel_rfl, by kernel_rfl, by kernel_rfl, by kernel_rfl, by kernel_rfl, by kernel_rfl, by kernel_rfl, trivial⟩ trivial rfl ?_
      refine XL.conv (f10_2_ok m fuel b c d x9_x01 x10_x01 x16_2 x17_2 o3 (w64 (x19_2 + 1)) o h Q hQ) (by first | rfl | simp)
    | false =>
      have h := cF b1 h
      refine XQ.cond (s := (.tmp 70)) (b := false) (by kernel_rfl) (by kernel_rfl) (fun q => by cases q) (fun _ => ?_)
      refine XQ.ren (σ' := [(1, .int .u8 b), (2, .int .u8 c), (3, .int .u8 d), (10, .int .i64 x10_x01), (16, .int .i64 x16_2), (17, .int .i64 x17_2), (18, .int .i64 x18_2)]) (h' := []) (c' := 0) [] (by decide) rfl ⟨by kernel_rfl, by kernel_rfl, by kernel_rfl, by kernel_rfl, by kernel_rfl, by kernel_rfl, by kernel_rfl, trivial⟩ trivial rfl ?_
      refine XQ.exit (i := 2) (by kernel_rfl) ?_
      cases h
      exact hQ

def f10 (m : Nat) (a : Int) (b : Int) (c : Int) (d : Int) : Option (Bool) :=
  cond (decide (0 ≤ w64 (1 + (Int.tmod (w64 a) 11)))) (
    (f10_1 m m b c d (w64 (1 + (Int.tmod (w64 a) 11))) 0 (shV true .u16 1 (w64 (1 + (Int.tmod (w64 a) 11)))) 0).bind fun o1 =>
      match o1 with
      | .r =>
        some (false)
      | .x0 x9_x01 x10_x01 =>
        (f35 m x9_x01).bind fun r13 =>
          (f10_2 m m b c d x9_x01 x10_x01 r13.1 r13.2 1 1).bind fun o2 =>
            cond (o2.2.1 != 0) (
              some (false)
            ) (
              cond (o2.1 != x10_x01) (
                some (false)
              ) (
                cond (o2.1 != o2.2.2) (
                  some (false)
                ) (
                  (f21 m 16 (Int.tmod (w64 b) 17)).bind fun r23 =>
                    cond (r23.2 != 0) (
                      some (false)
                    ) (
                      cond (((r23.1.size : Nat) : Int) != 16) (
                        some (false)
                      ) (
                        cond ((w64 (16 - (Int.tmod (w64 c) 16))) != 0) (
                          cond (cutOk (Int.tmod (w64 c) 16) (w64 ((w64 ((Int.tmod (w64 c) 16) + 1)) + (Int.tmod (w64 d) (w64 (16 - (Int.tmod (w64 c) 16)))))) r23.1.size) (
                            (f33 m (cutT r23.1 (Int.tmod (w64 c) 16) (w64 ((w64 ((Int.tmod (w64 c) 16) + 1)) + (Int.tmod (w64 d) (w64 (16 - (Int.tmod (w64 c) 16)))))))).bind fun r24 =>
                              cond (r24.2 == 0) (
                                cond (r24.1) (
                                  some (true)
                                ) (
                                  some (false)
                                )
                              ) (
                                some (false)
                              )
                          ) none
                        ) none
                      )
                    )
                )
              )
            )
  ) none

theorem f10_ok (m : Nat) (a : Int) (b : Int) (c : Int) (d : Int) (o : Bool) (h : f10 m a b c d = some o) (w : World) (hI : maxInv w) : Calls Proofs.Try.prog 10 #[.int .u8 a, .int .u8 b, .int .u8 c, .int .u8 d] w fun e w' => e = .returned (.bool o) ∧ Below w.heap.size w w' := by
  refine KC.calls (E := E0) (args := [.int .u8 a, .int .u8 b, .int .u8 c, .int .u8 d]) (v := .bool o) rfl rfl (KC.bodyN E0_ok (F := Proofs.Try.f10) (by kernel_rfl) (code := f10_C10) (by kernel_rfl) (nt := 141) (by kernel_rfl) (rs := [.tmp 8]) (by kernel_rfl) (by kernel_rfl) (σ := [(0, .int .u8 a), (1, .int .u8 b), (2, .int .u8 c), (3, .int .u8 d)]) (by kernel_rfl) ?_) w (maxInv_size hI) hI
  unfold f10 at h
  refine XQ.seq E0_ok (by kernel_rfl) ?_
  refine XQ.region (by kernel_rfl) ?_
  refine XR.run E0_ok 1 1 [0, 1, 2, 3] rfl (σ' := [(0, .int .u8 a), (1, .int .u8 b), (2, .int .u8 c), (3, .int .u8 d)]) (h' := []) (c' := 0) (by kernel_rfl) ?_
  refine XR.done (by kernel_rfl) ?_
  show XQ _ _ _ _ _ _ _ _
  refine XQ.seq E0_ok (by kernel_rfl) ?_
  refine XQ.region (by kernel_rfl) ?_
  refine XR.run E0_ok 1 5 [1, 2, 3, 9] rfl (σ' := [(1, .int .u8 b), (2, .int .u8 c), (3, .int .u8 d), (9, .int .i64 (w64 (1 + (Int.tmod (w64 a) 11))))]) (h' := []) (c' := 0) (by kernel_rfl) ?_
  refine XR.done (by kernel_rfl) ?_
  show XQ _ _ _ _ _ _ _ _
  refine XQ.seq E0_ok (by kernel_rfl) ?_
  refine XQ.region (by kernel_rfl) ?_
  refine XR.run E0_ok 1 1 [1, 2, 3, 9, 10] rfl (σ' := [(1, .int .u8 b), (2, .int .u8 c), (3, .int .u8 d), (9, .int .i64 (w64 (1 + (Int.tmod (w64 a) 11)))), (10, .int .i64 0)]) (h' := []) (c' := 0) (by kernel_rfl) ?_
  refine XR.done (by kernel_rfl) ?_
  show XQ _ _ _ _ _ _ _ _
  refine XQ.seq E0_ok (by kernel_rfl) ?_
  refine XQ.seq E0_ok (by kernel_rfl) ?_
  refine XQ.region (by kernel_rfl) ?_
  refine XR.run E0_ok 1 1 [1, 2, 3, 9, 10, 31] rfl (σ' := [(1, .int .u8 b), (2, .int .u8 c), (3, .int .u8 d), (9, .int .i64 (w64 (1 + (Int.tmod (w64 a) 11)))), (10, .int .i64 0), (31, .int .i64 (w64 (1 + (Int.tmod (w64 a) 11))))]) (h' := []) (c' := 0) (by kernel_rfl) ?_
  cases b1 : (decide (0 ≤ w64 (1 + (Int.tmod (w64 a) 11))) : Bool) with
  | false => cases (cF b1 h)
  | true =>
    have h := cT b1 h
    have e2 : insV (headI ((gsOf E0 141 (opsOf (lft (lft (rgt (rgt (rgt f10_C10))))))).drop 1) (trS 141 [(1, .int .u8 b), (2, .int .u8 c), (3, .int .u8 d), (9, .int .i64 (w64 (1 + (Int.tmod (w64 a) 11)))), (10, .int .i64 0), (31, .int .i64 (w64 (1 + (Int.tmod (w64 a) 11))))])) (trS 141 [(1, .int .u8 b), (2, .int .u8 c), (3, .int .u8 d), (9, .int .i64 (w64 (1 + (Int.tmod (w64 a) 11)))), (10, .int .i64 0), (31, .int .i64 (w64 (1 + (Int.tmod (w64 a) 11))))]) [] = (match (decide (0 ≤ w64 (1 + (Int.tmod (w64 a) 11))) : Bool) with | true => some (.int .u16 (shV true .u16 1 (w64 (1 + (Int.tmod (w64 a) 11))))) | false => none) := by kernel_rfl
    refine XR.rd E0_ok [1, 2, 3, 9, 10, 32] rfl (e2.trans (by rw [b1])) (σ' := [(1, .int .u8 b), (2, .int .u8 c), (3, .int .u8 d), (9, .int .i64 (w64 (1 + (Int.tmod (w64 a) 11)))), (10, .int .i64 0), (32, .int .u16 (shV true .u16 1 (w64 (1 + (Int.tmod (w64 a) 11)))))]) (by kernel_rfl) ?_
    refine XR.run E0_ok 1 1 [1, 2, 3, 9, 10, 32, 33] rfl (σ' := [(1, .int .u8 b), (2, .int .u8 c), (3, .int .u8 d), (9, .int .i64 (w64 (1 + (Int.tmod (w64 a) 11)))), (10, .int .i64 0), (32, .int .u16 (shV true .u16 1 (w64 (1 + (Int.tmod (w64 a) 11))))), (33, .int .u16 0)]) (h' := []) (c' := 0) (by kernel_rfl) ?_
    refine XR.done (by kernel_rfl) ?_
    show XQ _ _ _ _ _ _ _ _
    refine XQ.block (id := 0) (by kernel_rfl) ?_
    refine XQ.loop m (by kernel_rfl) ?_
    obtain ⟨o1, o1_h, h⟩ := bS h
    refine XL.ren (σ' := [(1, .int .u8 b), (2, .int .u8 c), (3, .int .u8 d), (9, .int .i64 (w64 (1 + (Int.tmod (w64 a) 11)))), (10, .int .i64 0), (32, .int .u16 (shV true .u16 1 (w64 (1 + (Int.tmod (w64 a) 11))))), (33, .int .u16 0)]) (h' := []) (c' := 0) [] (by decide) rfl ⟨by kernel_rfl, by kernel_rfl, by kernel_rfl, by kernel_rfl, by kernel_rfl, by kernel_rfl, by kernel_rfl, trivial⟩ trivial rfl ?_
    cases o1 with
    | r =>
      dsimp only at h
      refine XL.conv (f10_1_ok m m b c d (w64 (1 + (Int.tmod (w64 a) 11))) 0 (shV true .u16 1 (w64 (1 + (Int.tmod (w64 a) 11)))) 0 (.r) o1_h _ ?_) (by first | rfl | simp)
      have h := Option.some.inj h
      subst h
      exact ⟨fun i q => (by cases q), .bool false, (by kernel_rfl), rfl⟩
    | x0 x9_x01 x10_x01 =>
      dsimp only at h
      refine XL.conv (f10_1_ok m m b c d (w64 (1 + (Int.tmod (w64 a) 11))) 0 (shV true .u16 1 (w64 (1 + (Int.tmod (w64 a) 11)))) 0 (.x0 x9_x01 x10_x01) o1_h _ ?_) (by first | rfl | simp)
      show XQ _ _ _ _ _ _ _ _
      refine XQ.seq E0_ok (by kernel_rfl) ?_
      refine XQ.region (by kernel_rfl) ?_
      refine XR.run E0_ok 1 1 [1, 2, 3, 9, 10, 64] rfl (σ' := [(1, .int .u8 b), (2, .int .u8 c), (3, .int .u8 d), (9, .int .i64 x9_x01), (10, .int .i64 x10_x01), (64, .int .i64 x9_x01)]) (h' := []) (c' := 0) (by kernel_rfl) ?_
      obtain ⟨r13, r13_h, h⟩ := bS h
      refine XR.call E0_ok [1, 2, 3, 9, 10, 65] rfl (K := 35) (args := [.int .i64 x9_x01]) (d := (some (path 12 65))) (by kernel_rfl) (KC.of_calls E0_ok (F := Proofs.Try.f35) (v := .tuple #[.int .i64 r13.1, .int .i64 r13.2]) (by kernel_rfl) rfl rfl (fun w hI => f35_ok m x9_x01 r13 r13_h w hI)) ?_
      rintro _ _ _ ⟨rfl, rfl, rfl⟩
      refine XR.conv (σ' := [(1, .int .u8 b), (2, .int .u8 c), (3, .int .u8 d), (9, .int .i64 x9_x01), (10, .int .i64 x10_x01), (65, .tuple #[.int .i64 r13.1, .int .i64 r13.2])]) (h' := []) (c' := 0) ?_ (by kernel_rfl)
      refine XR.run E0_ok 1 5 [1, 2, 3, 9, 10, 16, 17] rfl (σ' := [(1, .int .u8 b), (2, .int .u8 c), (3, .int .u8 d), (9, .int .i64 x9_x01), (10, .int .i64 x10_x01), (16, .int .i64 r13.1), (17, .int .i64 r13.2)]) (h' := []) (c' := 0) (by kernel_rfl) ?_
      refine XR.done (by kernel_rfl) ?_
      show XQ _ _ _ _ _ _ _ _
      refine XQ.seq E0_ok (by kernel_rfl) ?_
      refine XQ.region (by kernel_rfl) ?_
      refine XR.run E0_ok 1 1 [1, 2, 3, 9, 10, 16, 17, 18] rfl (σ' := [(1, .int .u8 b), (2, .int .u8 c), (3, .int .u8 d), (9, .int .i64 x9_x01), (10, .int .i64 x10_x01), (16, .int .i64 r13.1), (17, .int .i64 r13.2), (18, .int .i64 1)]) (h' := []) (c' := 0) (by kernel_rfl) ?_
      refine XR.done (by kernel_rfl) ?_
      show XQ _ _ _ _ _ _ _ _
      refine XQ.seq E0_ok (by kernel_rfl) ?_
      refine XQ.seq E0_ok (by kernel_rfl) ?_
      refine XQ.region (by kernel_rfl) ?_
      refine XR.run E0_ok 1 1 [1, 2, 3, 9, 10, 16, 17, 18, 19] rfl (σ' := [(1, .int .u8 b), (2, .int .u8 c), (3, .int .u8 d), (9, .int .i64 x9_x01), (10, .int .i64 x10_x01), (16, .int .i64 r13.1), (17, .int .i64 r13.2), (18, .int .i64 1), (19, .int .i64 1)]) (h' := []) (c' := 0) (by kernel_rfl) ?_
      refine XR.done (by kernel_rfl) ?_
      show XQ _ _ _ _ _ _ _ _
      refine XQ.block (id := 2) (by kernel_rfl) ?_
      refine XQ.loop m (by kernel_rfl) ?_
      obtain ⟨o2, o2_h, h⟩ := bS h
      refine XL.ren (σ' := [(1, .int .u8 b), (2, .int .u8 c), (3, .int .u8 d), (9, .int .i64 x9_x01), (10, .int .i64 x10_x01), (16, .int .i64 r13.1), (17, .int .i64 r13.2), (18, .int .i64 1), (19, .int .i64 1)]) (h' := []) (c' := 0) [] (by decide) rfl ⟨by kernel_rfl, by kernel_rfl, by kernel_rfl, by kernel_rfl, by kernel_rfl, by kernel_rfl, by kernel_rfl, by kernel_rfl, by kernel_rfl, trivial⟩ trivial rfl ?_
      refine XL.conv (f10_2_ok m m b c d x9_x01 x10_x01 r13.1 r13.2 1 1 o2 o2_h _ ?_) (by first | rfl | simp)
      show XQ _ _ _ _ _ _ _ _
      refine XQ.seq E0_ok (by kernel_rfl) ?_
      refine XQ.seq E0_ok (by kernel_rfl) ?_
      refine XQ.region (by kernel_rfl) ?_
      refine XR.run E0_ok 1 3 [1, 2, 3, 10, 16, 18, 90] rfl (σ' := [(1, .int .u8 b), (2, .int .u8 c), (3, .int .u8 d), (10, .int .i64 x10_x01), (16, .int .i64 o2.1), (18, .int .i64 o2.2.2), (90, .bool (o2.2.1 != 0))]) (h' := []) (c' := 0) (by kernel_rfl) ?_
      cases b5 : (o2.2.1 != 0 : Bool) with
      | true =>
        have h := cT b5 h
        refine XR.run E0_ok 1 9 [1, 2, 3, 99] rfl (σ' := [(1, .int .u8 b), (2, .int .u8 c), (3, .int .u8 d), (99, .bool true)]) (h' := []) (c' := 0) (by kernel_rfl) ?_
        refine XR.done (by kernel_rfl) ?_
        show XQ _ _ _ _ _ _ _ _
        refine XQ.cond (s := (.tmp 99)) (b := true) (by kernel_rfl) (by kernel_rfl) (fun _ => ?_) (fun q => by cases q)
        refine XQ.seq E0_ok (by kernel_rfl) ?_
        refine XQ.region (by kernel_rfl) ?_
        refine XR.run E0_ok 1 1 [8] rfl (σ' := [(8, .bool false)]) (h' := []) (c' := 0) (by kernel_rfl) ?_
        refine XR.done (by kernel_rfl) ?_
        show XQ _ _ _ _ _ _ _ _
        refine XQ.ret (by kernel_rfl) ?_
        have h := Option.some.inj h
        subst h
        exact ⟨fun i q => (by cases q), .bool false, (by kernel_rfl), rfl⟩
      | false =>
        have h := cF b5 h
        refine XR.run E0_ok 1 5 [1, 2, 3, 16, 18, 95] rfl (σ' := [(1, .int .u8 b), (2, .int .u8 c), (3, .int .u8 d), (16, .int .i64 o2.1), (18, .int .i64 o2.2.2), (95, .bool (o2.1 != x10_x01))]) (h' := []) (c' := 0) (by kernel_rfl) ?_
        cases b6 : (o2.1 != x10_x01 : Bool) with
        | true =>
          have h := cT b6 h
          refine XR.run E0_ok 1 4 [1, 2, 3, 99] rfl (σ' := [(1, .int .u8 b), (2, .int .u8 c), (3, .int .u8 d), (99, .bool true)]) (h' := []) (c' := 0) (by kernel_rfl) ?_
          refine XR.done (by kernel_rfl) ?_
          show XQ _ _ _ _ _ _ _ _
          refine XQ.cond (s := (.tmp 99)) (b := true) (by kernel_rfl) (by kernel_rfl) (fun _ => ?_) (fun q => by cases q)
          refine XQ.seq E0_ok (by kernel_rfl) ?_
          refine XQ.region (by kernel_rfl) ?_
          refine XR.run E0_ok 1 1 [8] rfl (σ' := [(8, .bool false)]) (h' := []) (c' := 0) (by kernel_rfl) ?_
          refine XR.done (by kernel_rfl) ?_
          show XQ _ _ _ _ _ _ _ _
          refine XQ.ret (by kernel_rfl) ?_
          have h := Option.some.inj h
          subst h
          exact ⟨fun i q => (by cases q), .bool false, (by kernel_rfl), rfl⟩
        | false =>
          have h := cF b6 h
          refine XR.run E0_ok 1 4 [1, 2, 3, 99] rfl (σ' := [(1, .int .u8 b), (2, .int .u8 c), (3, .int .u8 d), (99, .bool (o2.1 != o2.2.2))]) (h' := []) (c' := 0) (by kernel_rfl) ?_
          refine XR.done (by kernel_rfl) ?_
          show XQ _ _ _ _ _ _ _ _
          cases b7 : (o2.1 != o2.2.2 : Bool) with
          | true =>
            have h := cT b7 h
            refine XQ.cond (s := (.tmp 99)) (b := true) (by kernel_rfl) (by kernel_rfl) (fun _ => ?_) (fun q => by cases q)
            refine XQ.seq E0_ok (by kernel_rfl) ?_
            refine XQ.region (by kernel_rfl) ?_
            refine XR.run E0_ok 1 1 [8] rfl (σ' := [(8, .bool false)]) (h' := []) (c' := 0) (by kernel_rfl) ?_
            refine XR.done (by kernel_rfl) ?_
            show XQ _ _ _ _ _ _ _ _
            refine XQ.ret (by kernel_rfl) ?_
            have h := Option.some.inj h
            subst h
            exact ⟨fun i q => (by cases q), .bool false, (by kernel_rfl), rfl⟩
          | false =>
            have h := cF b7 h
            refine XQ.cond (s := (.tmp 99)) (b := false) (by kernel_rfl) (by kernel_rfl) (fun q => by cases q) (fun _ => ?_)
            refine XQ.skip (by kernel_rfl) ?_
            show XQ _ _ _ _ _ _ _ _
            refine XQ.seq E0_ok (by kernel_rfl) ?_
            refine XQ.region (by kernel_rfl) ?_
            refine XR.run E0_ok 1 3 [2, 3, 103] rfl (σ' := [(2, .int .u8 c), (3, .int .u8 d), (103, .int .i64 (Int.tmod (w64 b) 17))]) (h' := []) (c' := 0) (by kernel_rfl) ?_
            obtain ⟨r23, r23_h, h⟩ := bS h
            refine XR.call E0_ok [2, 3, 104] rfl (K := 21) (args := [.int .i64 16, .int .i64 (Int.tmod (w64 b) 17)]) (d := (some (path 12 104))) (by kernel_rfl) (KC.of_calls E0_ok (F := Proofs.Try.f21) (v := .tuple #[.string r23.1, .int .i64 r23.2]) (by kernel_rfl) rfl rfl (fun w hI => f21_ok m 16 (Int.tmod (w64 b) 17) r23 r23_h w hI)) ?_
            rintro _ _ _ ⟨rfl, rfl, rfl⟩
            refine XR.conv (σ' := [(2, .int .u8 c), (3, .int .u8 d), (104, .tuple #[.string r23.1, .int .i64 r23.2])]) (h' := []) (c' := 0) ?_ (by kernel_rfl)
            refine XR.run E0_ok 1 5 [2, 3, 21, 22] rfl (σ' := [(2, .int .u8 c), (3, .int .u8 d), (21, .string r23.1), (22, .int .i64 r23.2)]) (h' := []) (c' := 0) (by kernel_rfl) ?_
            refine XR.done (by kernel_rfl) ?_
            show XQ _ _ _ _ _ _ _ _
            refine XQ.seq E0_ok (by kernel_rfl) ?_
            refine XQ.seq E0_ok (by kernel_rfl) ?_
            refine XQ.region (by kernel_rfl) ?_
            refine XR.run E0_ok 1 3 [2, 3, 21, 109] rfl (σ' := [(2, .int .u8 c), (3, .int .u8 d), (21, .string r23.1), (109, .bool (r23.2 != 0))]) (h' := []) (c' := 0) (by kernel_rfl) ?_
            cases b8 : (r23.2 != 0 : Bool) with
            | true =>
              have h := cT b8 h
              refine XR.run E0_ok 1 4 [2, 3, 21, 113] rfl (σ' := [(2, .int .u8 c), (3, .int .u8 d), (21, .string r23.1), (113, .bool true)]) (h' := []) (c' := 0) (by kernel_rfl) ?_
              refine XR.done (by kernel_rfl) ?_
              show XQ _ _ _ _ _ _ _ _
              refine XQ.cond (s := (.tmp 113)) (b := true) (by kernel_rfl) (by kernel_rfl) (fun _ => ?_) (fun q => by cases q)
              refine XQ.seq E0_ok (by kernel_rfl) ?_
              refine XQ.region (by kernel_rfl) ?_
              refine XR.run E0_ok 1 1 [8] rfl (σ' := [(8, .bool false)]) (h' := []) (c' := 0) (by kernel_rfl) ?_
              refine XR.done (by kernel_rfl) ?_
              show XQ _ _ _ _ _ _ _ _
              refine XQ.ret (by kernel_rfl) ?_
              have h := Option.some.inj h
              subst h
              exact ⟨fun i q => (by cases q), .bool false, (by kernel_rfl), rfl⟩
            | false =>
              have h := cF b8 h
              refine XR.run E0_ok 1 4 [2, 3, 21, 113] rfl (σ' := [(2, .int .u8 c), (3, .int .u8 d), (21, .string r23.1), (113, .bool (((r23.1.size : Nat) : Int) != 16))]) (h' := []) (c' := 0) (by kernel_rfl) ?_
              refine XR.done (by kernel_rfl) ?_
              show XQ _ _ _ _ _ _ _ _
              cases b9 : (((r23.1.size : Nat) : Int) != 16 : Bool) with
              | true =>
                have h := cT b9 h
                refine XQ.cond (s := (.tmp 113)) (b := true) (by kernel_rfl) (by kernel_rfl) (fun _ => ?_) (fun q => by cases q)
                refine XQ.seq E0_ok (by kernel_rfl) ?_
                refine XQ.region (by kernel_rfl) ?_
                refine XR.run E0_ok 1 1 [8] rfl (σ' := [(8, .bool false)]) (h' := []) (c' := 0) (by kernel_rfl) ?_
                refine XR.done (by kernel_rfl) ?_
                show XQ _ _ _ _ _ _ _ _
                refine XQ.ret (by kernel_rfl) ?_
                have h := Option.some.inj h
                subst h
                exact ⟨fun i q => (by cases q), .bool false, (by kernel_rfl), rfl⟩
              | false =>
                have h := cF b9 h
                refine XQ.cond (s := (.tmp 113)) (b := false) (by kernel_rfl) (by kernel_rfl) (fun q => by cases q) (fun _ => ?_)
                refine XQ.skip (by kernel_rfl) ?_
                show XQ _ _ _ _ _ _ _ _
                refine XQ.seq E0_ok (by kernel_rfl) ?_
                refine XQ.region (by kernel_rfl) ?_
                refine XR.run E0_ok 1 4 [3, 21, 23] rfl (σ' := [(3, .int .u8 d), (21, .string r23.1), (23, .int .i64 (Int.tmod (w64 c) 16))]) (h' := []) (c' := 0) (by kernel_rfl) ?_
                refine XR.done (by kernel_rfl) ?_
                show XQ _ _ _ _ _ _ _ _
                refine XQ.seq E0_ok (by kernel_rfl) ?_
                refine XQ.region (by kernel_rfl) ?_
                refine XR.run E0_ok 1 8 [117, 118, 120, 122, 124] rfl (σ' := [(117, .string r23.1), (118, .int .i64 (Int.tmod (w64 c) 16)), (120, .int .i64 (w64 ((Int.tmod (w64 c) 16) + 1))), (122, .int .i64 (w64 d)), (124, .int .i64 (w64 (16 - (Int.tmod (w64 c) 16))))]) (h' := []) (c' := 0) (by kernel_rfl) ?_
                cases b10 : ((w64 (16 - (Int.tmod (w64 c) 16))) != 0 : Bool) with
                | false => cases (cF b10 h)
                | true =>
                  have h := cT b10 h
                  have e11 : insV (headI ((gsOf E0 141 (opsOf (lft (rgt (rgt (rgt (rgt (rgt (rgt (rgt (rgt (rgt (rgt (rgt f10_C10)))))))))))))).drop 8) (trS 141 [(117, .string r23.1), (118, .int .i64 (Int.tmod (w64 c) 16)), (120, .int .i64 (w64 ((Int.tmod (w64 c) 16) + 1))), (122, .int .i64 (w64 d)), (124, .int .i64 (w64 (16 - (Int.tmod (w64 c) 16))))])) (trS 141 [(117, .string r23.1), (118, .int .i64 (Int.tmod (w64 c) 16)), (120, .int .i64 (w64 ((Int.tmod (w64 c) 16) + 1))), (122, .int .i64 (w64 d)), (124, .int .i64 (w64 (16 - (Int.tmod (w64 c) 16))))]) [] = (match ((w64 (16 - (Int.tmod (w64 c) 16))) != 0 : Bool) with | true => some (.int .i64 (Int.tmod (w64 d) (w64 (16 - (Int.tmod (w64 c) 16))))) | false => none) := by kernel_rfl
                  refine XR.rd E0_ok [117, 118, 120, 125] rfl (e11.trans (by rw [b10])) (σ' := [(117, .string r23.1), (118, .int .i64 (Int.tmod (w64 c) 16)), (120, .int .i64 (w64 ((Int.tmod (w64 c) 16) + 1))), (125, .int .i64 (Int.tmod (w64 d) (w64 (16 - (Int.tmod (w64 c) 16)))))]) (by kernel_rfl) ?_
                  refine XR.run E0_ok 1 1 [117, 118, 126] rfl (σ' := [(117, .string r23.1), (118, .int .i64 (Int.tmod (w64 c) 16)), (126, .int .i64 (w64 ((w64 ((Int.tmod (w64 c) 16) + 1)) + (Int.tmod (w64 d) (w64 (16 - (Int.tmod (w64 c) 16)))))))]) (h' := []) (c' := 0) (by kernel_rfl) ?_
                  cases b12 : (cutOk (Int.tmod (w64 c) 16) (w64 ((w64 ((Int.tmod (w64 c) 16) + 1)) + (Int.tmod (w64 d) (w64 (16 - (Int.tmod (w64 c) 16)))))) r23.1.size : Bool) with
                  | false => cases (cF b12 h)
                  | true =>
                    have h := cT b12 h
                    have e13 : insV (headI ((gsOf E0 141 (opsOf (lft (rgt (rgt (rgt (rgt (rgt (rgt (rgt (rgt (rgt (rgt (rgt f10_C10)))))))))))))).drop 10) (trS 141 [(117, .string r23.1), (118, .int .i64 (Int.tmod (w64 c) 16)), (126, .int .i64 (w64 ((w64 ((Int.tmod (w64 c) 16) + 1)) + (Int.tmod (w64 d) (w64 (16 - (Int.tmod (w64 c) 16)))))))])) (trS 141 [(117, .string r23.1), (118, .int .i64 (Int.tmod (w64 c) 16)), (126, .int .i64 (w64 ((w64 ((Int.tmod (w64 c) 16) + 1)) + (Int.tmod (w64 d) (w64 (16 - (Int.tmod (w64 c) 16)))))))]) [] = (match (cutOk (Int.tmod (w64 c) 16) (w64 ((w64 ((Int.tmod (w64 c) 16) + 1)) + (Int.tmod (w64 d) (w64 (16 - (Int.tmod (w64 c) 16)))))) r23.1.size : Bool) with | true => some (.string (cutT r23.1 (Int.tmod (w64 c) 16) (w64 ((w64 ((Int.tmod (w64 c) 16) + 1)) + (Int.tmod (w64 d) (w64 (16 - (Int.tmod (w64 c) 16)))))))) | false => none) := by kernel_rfl
                    refine XR.rd E0_ok [127] rfl (e13.trans (by rw [b12])) (σ' := [(127, .string (cutT r23.1 (Int.tmod (w64 c) 16) (w64 ((w64 ((Int.tmod (w64 c) 16) + 1)) + (Int.tmod (w64 d) (w64 (16 - (Int.tmod (w64 c) 16))))))))]) (by kernel_rfl) ?_
                    refine XR.run E0_ok 1 1 [24] rfl (σ' := [(24, .string (cutT r23.1 (Int.tmod (w64 c) 16) (w64 ((w64 ((Int.tmod (w64 c) 16) + 1)) + (Int.tmod (w64 d) (w64 (16 - (Int.tmod (w64 c) 16))))))))]) (h' := []) (c' := 0) (by kernel_rfl) ?_
                    refine XR.done (by kernel_rfl) ?_
                    show XQ _ _ _ _ _ _ _ _
                    refine XQ.seq E0_ok (by kernel_rfl) ?_
                    refine XQ.region (by kernel_rfl) ?_
                    refine XR.run E0_ok 1 1 [129] rfl (σ' := [(129, .string (cutT r23.1 (Int.tmod (w64 c) 16) (w64 ((w64 ((Int.tmod (w64 c) 16) + 1)) + (Int.tmod (w64 d) (w64 (16 - (Int.tmod (w64 c) 16))))))))]) (h' := []) (c' := 0) (by kernel_rfl) ?_
                    obtain ⟨r24, r24_h, h⟩ := bS h
                    refine XR.call E0_ok [130] rfl (K := 33) (args := [.string (cutT r23.1 (Int.tmod (w64 c) 16) (w64 ((w64 ((Int.tmod (w64 c) 16) + 1)) + (Int.tmod (w64 d) (w64 (16 - (Int.tmod (w64 c) 16)))))))]) (d := (some (path 12 130))) (by kernel_rfl) (KC.of_calls E0_ok (F := Proofs.Try.f33) (v := .tuple #[.bool r24.1, .int .i64 r24.2]) (by kernel_rfl) rfl rfl (fun w hI => f33_ok m (cutT r23.1 (Int.tmod (w64 c) 16) (w64 ((w64 ((Int.tmod (w64 c) 16) + 1)) + (Int.tmod (w64 d) (w64 (16 - (Int.tmod (w64 c) 16))))))) r24 r24_h w hI)) ?_
                    rintro _ _ _ ⟨rfl, rfl, rfl⟩
                    refine XR.conv (σ' := [(130, .tuple #[.bool r24.1, .int .i64 r24.2])]) (h' := []) (c' := 0) ?_ (by kernel_rfl)
                    refine XR.run E0_ok 1 5 [25, 26] rfl (σ' := [(25, .bool r24.1), (26, .int .i64 r24.2)]) (h' := []) (c' := 0) (by kernel_rfl) ?_
                    refine XR.done (by kernel_rfl) ?_
                    show XQ _ _ _ _ _ _ _ _
                    refine XQ.seq E0_ok (by kernel_rfl) ?_
                    refine XQ.region (by kernel_rfl) ?_
                    refine XR.run E0_ok 1 3 [25, 135] rfl (σ' := [(25, .bool r24.1), (135, .bool (r24.2 == 0))]) (h' := []) (c' := 0) (by kernel_rfl) ?_
                    cases b14 : (r24.2 == 0 : Bool) with
                    | true =>
                      have h := cT b14 h
                      refine XR.run E0_ok 1 3 [138] rfl (σ' := [(138, .bool r24.1)]) (h' := []) (c' := 0) (by kernel_rfl) ?_
                      cases b15 : (r24.1 : Bool) with
                      | true =>
                        have h := cT b15 h
                        refine XR.call E0_ok [138, 139] rfl (K := 12) (args := []) (d := (some (path 12 139))) (by kernel_rfl) (KC.of_calls E0_ok (F := Proofs.Try.f12) (v := .bool true) (by kernel_rfl) rfl rfl (works_ok)) ?_
                        rintro _ _ _ ⟨rfl, rfl, rfl⟩
                        refine XR.conv (σ' := [(138, .bool true), (139, .bool true)]) (h' := []) (c' := 0) ?_ (by kernel_rfl)
                        refine XR.run E0_ok 1 2 [8] rfl (σ' := [(8, .bool true)]) (h' := []) (c' := 0) (by kernel_rfl) ?_
                        refine XR.done (by kernel_rfl) ?_
                        show XQ _ _ _ _ _ _ _ _
                        refine XQ.ret (by kernel_rfl) ?_
                        have h := Option.some.inj h
                        subst h
                        exact ⟨fun i q => (by cases q), .bool true, (by kernel_rfl), rfl⟩
                      | false =>
                        have h := cF b15 h
                        refine XR.run E0_ok 1 3 [8] rfl (σ' := [(8, .bool false)]) (h' := []) (c' := 0) (by kernel_rfl) ?_
                        refine XR.done (by kernel_rfl) ?_
                        show XQ _ _ _ _ _ _ _ _
                        refine XQ.ret (by kernel_rfl) ?_
                        have h := Option.some.inj h
                        subst h
                        exact ⟨fun i q => (by cases q), .bool false, (by kernel_rfl), rfl⟩
                    | false =>
                      have h := cF b14 h
                      refine XR.run E0_ok 1 6 [8] rfl (σ' := [(8, .bool false)]) (h' := []) (c' := 0) (by kernel_rfl) ?_
                      refine XR.done (by kernel_rfl) ?_
                      show XQ _ _ _ _ _ _ _ _
                      refine XQ.ret (by kernel_rfl) ?_
                      have h := Option.some.inj h
                      subst h
                      exact ⟨fun i q => (by cases q), .bool false, (by kernel_rfl), rfl⟩

end Go.Xm
