/- What these functions of the program compute, as functions in Lean, and the proofs that they do: vitolalaw02.HeapVerified. Conditions: none. -/
import Derived.Test.YtfdeihnkoaihfaaBb
namespace Go.Xm
open Go.RowKit
set_option linter.unusedVariables false
set_option linter.unusedSimpArgs false
set_option maxRecDepth 20000

/-! vitola/vitolalaw02.HeapVerified -/
noncomputable def f8_C8 : Code := Proofs.Try.f8.body.getD .skip
noncomputable def f8_L1 : Code := lft (lft (rgt (lft (rgt (rgt (rgt (rgt (rgt f8_C8))))))))
noncomputable def f8_L2 : Code := lft (lft (rgt (lft (rgt (rgt (rgt (rgt (lft (lft (rgt (rgt f8_L1)))))))))))

def f8_2 (m : Nat) : Nat → Int → Int → Int → Int → Int → List Int → List (Int × Int) → List Int → Int → Int → Int → Int → Int → Int → Option (Int × Int × Int × Int)
  | 0, _, _, _, _, _, _, _, _, _, _, _, _, _, _ => none
  | fuel + 1, e, x12_1, x14_1, x30_1, x31_1, lh0_1, lh1_1, lh2_1, x17_2, x18_2, x60_2, x61_2, xh3_0_2, xh3_1_2 =>
    cond (decide (x61_2 < x60_2)) (
      cond (inRow x61_2 lh2_1.length) (
        f8_2 m fuel e x12_1 x14_1 x30_1 x31_1 lh0_1 lh1_1 lh2_1 x17_2 (cond ((List.getD lh2_1 (Int.toNat x61_2) 0) == x17_2) (w64 (x18_2 + 1)) x18_2) x60_2 (w64 (x61_2 + 1)) xh3_0_2 xh3_1_2
      ) none
    ) (
      some (x17_2, x18_2, xh3_0_2, xh3_1_2)
    )

theorem f8_2_ok (m : Nat) : ∀ (fuel : Nat) (e : Int) (x12_1 : Int) (x14_1 : Int) (x30_1 : Int) (x31_1 : Int) (lh0_1 : List Int) (lh1_1 : List (Int × Int)) (lh2_1 : List Int) (x17_2 : Int) (x18_2 : Int) (x60_2 : Int) (x61_2 : Int) (xh3_0_2 : Int) (xh3_1_2 : Int) (o : (Int × Int × Int × Int)), f8_2 m fuel e x12_1 x14_1 x30_1 x31_1 lh0_1 lh1_1 lh2_1 x17_2 x18_2 x60_2 x61_2 xh3_0_2 xh3_1_2 = some o → ∀ Q : QP, Q (.exit 2) [(4, .int .u8 e), (8, .pointer (some ⟨0, 0, none⟩)), (11, .slice (some ⟨1, 0, none⟩) lh1_1.length lh1_1.length), (12, .int .i64 x12_1), (13, .slice (some ⟨2, 0, none⟩) lh2_1.length lh2_1.length), (14, .int .i64 x14_1), (16, .pointer (some ⟨3, 0, none⟩)), (17, .int .i64 o.1), (18, .int .i64 o.2.1), (29, .slice (some ⟨1, 0, none⟩) lh1_1.length lh1_1.length), (30, .int .i64 x30_1), (31, .int .i64 x31_1)] [(3, .cells [.int .i64 o.2.2.1, .int .i64 o.2.2.2] 0 61 0), (2, .cells (rowC (encI .i64) lh2_1) 0 3 1), (1, .cells (rowC encP lh1_1) 0 61 2), (0, .cells (rowC (encI .u8) lh0_1) 0 63 0)] 4 → XL E0 107 0 fuel f8_L2 [(4, .int .u8 e), (8, .pointer (some ⟨0, 0, none⟩)), (11, .slice (some ⟨1, 0, none⟩) lh1_1.length lh1_1.length), (12, .int .i64 x12_1), (13, .slice (some ⟨2, 0, none⟩) lh2_1.length lh2_1.length), (14, .int .i64 x14_1), (16, .pointer (some ⟨3, 0, none⟩)), (17, .int .i64 x17_2), (18, .int .i64 x18_2), (29, .slice (some ⟨1, 0, none⟩) lh1_1.length lh1_1.length), (30, .int .i64 x30_1), (31, .int .i64 x31_1), (59, .slice (some ⟨2, 0, none⟩) lh2_1.length lh2_1.length), (60, .int .i64 x60_2), (61, .int .i64 x61_2)] [(3, .cells [.int .i64 xh3_0_2, .int .i64 xh3_1_2] 0 61 0), (2, .cells (rowC (encI .i64) lh2_1) 0 3 1), (1, .cells (rowC encP lh1_1) 0 61 2), (0, .cells (rowC (encI .u8) lh0_1) 0 63 0)] 4 Q
  | 0, e, x12_1, x14_1, x30_1, x31_1, lh0_1, lh1_1, lh2_1, x17_2, x18_2, x60_2, x61_2, xh3_0_2, xh3_1_2, o, h, Q, hQ => by cases h
  | fuel + 1, e, x12_1, x14_1, x30_1, x31_1, lh0_1, lh1_1, lh2_1, x17_2, x18_2, x60_2, x61_2, xh3_0_2, xh3_1_2, o, h, Q, hQ => by
    unfold f8_2 at h
    refine XL.succ E0_ok ?_
    refine XQ.seq E0_ok (by kernel_rfl) ?_
    refine XQ.region (by kernel_rfl) ?_
    refine XR.run E0_ok 1 1 [4, 8, 11, 12, 13, 14, 16, 17, 18, 29, 30, 31, 59, 60, 61, 62] rfl (σ' := [(4, .int .u8 e), (8, .pointer (some ⟨0, 0, none⟩)), (11, .slice (some ⟨1, 0, none⟩) lh1_1.length lh1_1.length), (12, .int .i64 x12_1), (13, .slice (some ⟨2, 0, none⟩) lh2_1.length lh2_1.length), (14, .int .i64 x14_1), (16, .pointer (some ⟨3, 0, none⟩)), (17, .int .i64 x17_2), (18, .int .i64 x18_2), (29, .slice (some ⟨1, 0, none⟩) lh1_1.length lh1_1.length), (30, .int .i64 x30_1), (31, .int .i64 x31_1), (59, .slice (some ⟨2, 0, none⟩) lh2_1.length lh2_1.length), (60, .int .i64 x60_2), (61, .int .i64 x61_2), (62, .bool (decide (x61_2 < x60_2)))]) (h' := [(3, .cells [.int .i64 xh3_0_2, .int .i64 xh3_1_2] 0 61 0), (2, .cells (rowC (encI .i64) lh2_1) 0 3 1), (1, .cells (rowC encP lh1_1) 0 61 2), (0, .cells (rowC (encI .u8) lh0_1) 0 63 0)]) (c' := 4) (by kernel_rfl) ?_
    refine XR.done (by kernel_rfl) ?_
    show XQ _ _ _ _ _ _ _ _
    refine XQ.seq E0_ok (by kernel_rfl) ?_
    cases b1 : (decide (x61_2 < x60_2) : Bool) with
    | true =>
      have h := cT b1 h
      refine XQ.cond (s := (.tmp 62)) (b := true) (by kernel_rfl) (by kernel_rfl) (fun _ => ?_) (fun q => by cases q)
      refine XQ.skip (by kernel_rfl) ?_
      show XQ _ _ _ _ _ _ _ _
      refine XQ.seq E0_ok (by kernel_rfl) ?_
      refine XQ.block (id := 3) (by kernel_rfl) ?_
      refine XQ.seq E0_ok (by kernel_rfl) ?_
      refine XQ.region (by kernel_rfl) ?_
      cases b2 : (inRow x61_2 lh2_1.length : Bool) with
      | false => cases (cF b2 h)
      | true =>
        have h := cT b2 h
        refine XR.rd E0_ok [4, 8, 11, 12, 13, 14, 16, 17, 18, 29, 30, 31, 59, 60, 61, 63] rfl (v := .pointer (some ⟨2, (Int.toNat x61_2) * 1, none⟩)) (v_idx (s := 1) (x := (src 107 (.tmp 59))) (y := (src 107 (.tmp 61))) (b := 2) (o := 0) (len := lh2_1.length) (cap := lh2_1.length) (ik := .i64) (i := x61_2) (off := (Int.toNat x61_2) * 1) (d := (some (path 12 63))) (by kernel_rfl) (by kernel_rfl) (by kernel_rfl) b2 (by omega)) (σ' := [(4, .int .u8 e), (8, .pointer (some ⟨0, 0, none⟩)), (11, .slice (some ⟨1, 0, none⟩) lh1_1.length lh1_1.length), (12, .int .i64 x12_1), (13, .slice (some ⟨2, 0, none⟩) lh2_1.length lh2_1.length), (14, .int .i64 x14_1), (16, .pointer (some ⟨3, 0, none⟩)), (17, .int .i64 x17_2), (18, .int .i64 x18_2), (29, .slice (some ⟨1, 0, none⟩) lh1_1.length lh1_1.length), (30, .int .i64 x30_1), (31, .int .i64 x31_1), (59, .slice (some ⟨2, 0, none⟩) lh2_1.length lh2_1.length), (60, .int .i64 x60_2), (61, .int .i64 x61_2), (63, .pointer (some ⟨2, (Int.toNat x61_2) * 1, none⟩))]) (by kernel_rfl) ?_
        refine XR.rd E0_ok [4, 8, 11, 12, 13, 14, 16, 17, 18, 29, 30, 31, 59, 60, 61, 64] rfl (v := .int .i64 (List.getD lh2_1 (Int.toNat x61_2) 0)) (v_load1 (encI_ok .i64) (x := (src 107 (.tmp 63))) (b := 2) (off := (Int.toNat x61_2) * 1) (xs := lh2_1) (fz := 0) (e := 3) (es := 1) (d := (some (path 12 64))) (by kernel_rfl) (by kernel_rfl) (by kernel_rfl) (Int.toNat x61_2) 0 0 (by first | rfl | omega) (row_len (inRow_toNat b2) (by simp)) rfl rfl) (σ' := [(4, .int .u8 e), (8, .pointer (some ⟨0, 0, none⟩)), (11, .slice (some ⟨1, 0, none⟩) lh1_1.length lh1_1.length), (12, .int .i64 x12_1), (13, .slice (some ⟨2, 0, none⟩) lh2_1.length lh2_1.length), (14, .int .i64 x14_1), (16, .pointer (some ⟨3, 0, none⟩)), (17, .int .i64 x17_2), (18, .int .i64 x18_2), (29, .slice (some ⟨1, 0, none⟩) lh1_1.length lh1_1.length), (30, .int .i64 x30_1), (31, .int .i64 x31_1), (59, .slice (some ⟨2, 0, none⟩) lh2_1.length lh2_1.length), (60, .int .i64 x60_2), (61, .int .i64 x61_2), (64, .int .i64 (List.getD lh2_1 (Int.toNat x61_2) 0))]) (by kernel_rfl) ?_
        refine XR.run E0_ok 1 1 [4, 8, 11, 12, 13, 14, 16, 17, 18, 20, 29, 30, 31, 59, 60, 61] rfl (σ' := [(4, .int .u8 e), (8, .pointer (some ⟨0, 0, none⟩)), (11, .slice (some ⟨1, 0, none⟩) lh1_1.length lh1_1.length), (12, .int .i64 x12_1), (13, .slice (some ⟨2, 0, none⟩) lh2_1.length lh2_1.length), (14, .int .i64 x14_1), (16, .pointer (some ⟨3, 0, none⟩)), (17, .int .i64 x17_2), (18, .int .i64 x18_2), (20, .int .i64 (List.getD lh2_1 (Int.toNat x61_2) 0)), (29, .slice (some ⟨1, 0, none⟩) lh1_1.length lh1_1.length), (30, .int .i64 x30_1), (31, .int .i64 x31_1), (59, .slice (some ⟨2, 0, none⟩) lh2_1.length lh2_1.length), (60, .int .i64 x60_2), (61, .int .i64 x61_2)]) (h' := [(3, .cells [.int .i64 xh3_0_2, .int .i64 xh3_1_2] 0 61 0), (2, .cells (rowC (encI .i64) lh2_1) 0 3 1), (1, .cells (rowC encP lh1_1) 0 61 2), (0, .cells (rowC (encI .u8) lh0_1) 0 63 0)]) (c' := 4) (by kernel_rfl) ?_
        refine XR.done (by kernel_rfl) ?_
        show XQ _ _ _ _ _ _ _ _
        refine XQ.seq E0_ok (by kernel_rfl) ?_
        refine XQ.region (by kernel_rfl) ?_
        refine XR.run E0_ok 1 3 [4, 8, 11, 12, 13, 14, 16, 17, 18, 29, 30, 31, 59, 60, 61, 67] rfl (σ' := [(4, .int .u8 e), (8, .pointer (some ⟨0, 0, none⟩)), (11, .slice (some ⟨1, 0, none⟩) lh1_1.length lh1_1.length), (12, .int .i64 x12_1), (13, .slice (some ⟨2, 0, none⟩) lh2_1.length lh2_1.length), (14, .int .i64 x14_1), (16, .pointer (some ⟨3, 0, none⟩)), (17, .int .i64 x17_2), (18, .int .i64 x18_2), (29, .slice (some ⟨1, 0, none⟩) lh1_1.length lh1_1.length), (30, .int .i64 x30_1), (31, .int .i64 x31_1), (59, .slice (some ⟨2, 0, none⟩) lh2_1.length lh2_1.length), (60, .int .i64 x60_2), (61, .int .i64 x61_2), (67, .bool ((List.getD lh2_1 (Int.toNat x61_2) 0) == x17_2))]) (h' := [(3, .cells [.int .i64 xh3_0_2, .int .i64 xh3_1_2] 0 61 0), (2, .cells (rowC (encI .i64) lh2_1) 0 3 1), (1, .cells (rowC encP lh1_1) 0 61 2), (0, .cells (rowC (encI .u8) lh0_1) 0 63 0)]) (c' := 4) (by kernel_rfl) ?_
        refine XR.done (by kernel_rfl) ?_
        show XQ _ _ _ _ _ _ _ _
        refine XQ.meetC (σ' := [(4, .int .u8 e), (8, .pointer (some ⟨0, 0, none⟩)), (11, .slice (some ⟨1, 0, none⟩) lh1_1.length lh1_1.length), (12, .int .i64 x12_1), (13, .slice (some ⟨2, 0, none⟩) lh2_1.length lh2_1.length), (14, .int .i64 x14_1), (16, .pointer (some ⟨3, 0, none⟩)), (17, .int .i64 x17_2), (18, .int .i64 (cond ((List.getD lh2_1 (Int.toNat x61_2) 0) == x17_2) (w64 (x18_2 + 1)) x18_2)), (29, .slice (some ⟨1, 0, none⟩) lh1_1.length lh1_1.length), (30, .int .i64 x30_1), (31, .int .i64 x31_1), (59, .slice (some ⟨2, 0, none⟩) lh2_1.length lh2_1.length), (60, .int .i64 x60_2), (61, .int .i64 x61_2)]) (h' := [(3, .cells [.int .i64 xh3_0_2, .int .i64 xh3_1_2] 0 61 0), (2, .cells (rowC (encI .i64) lh2_1) 0 3 1), (1, .cells (rowC encP lh1_1) 0 61 2), (0, .cells (rowC (encI .u8) lh0_1) 0 63 0)]) (c' := 4) ?_ ?_
        rotate_left
        · refine XQ.cond (s := (.tmp 67)) (b := (List.getD lh2_1 (Int.toNat x61_2) 0) == x17_2) (by kernel_rfl) (by kernel_rfl) (fun b3 => ?_) (fun b3 => ?_)
          · refine XQ.region (by kernel_rfl) ?_
            refine XR.run E0_ok 1 3 [4, 8, 11, 12, 13, 14, 16, 17, 18, 29, 30, 31, 59, 60, 61] rfl (σ' := [(4, .int .u8 e), (8, .pointer (some ⟨0, 0, none⟩)), (11, .slice (some ⟨1, 0, none⟩) lh1_1.length lh1_1.length), (12, .int .i64 x12_1), (13, .slice (some ⟨2, 0, none⟩) lh2_1.length lh2_1.length), (14, .int .i64 x14_1), (16, .pointer (some ⟨3, 0, none⟩)), (17, .int .i64 x17_2), (18, .int .i64 (w64 (x18_2 + 1))), (29, .slice (some ⟨1, 0, none⟩) lh1_1.length lh1_1.length), (30, .int .i64 x30_1), (31, .int .i64 x31_1), (59, .slice (some ⟨2, 0, none⟩) lh2_1.length lh2_1.length), (60, .int .i64 x60_2), (61, .int .i64 x61_2)]) (h' := [(3, .cells [.int .i64 xh3_0_2, .int .i64 xh3_1_2] 0 61 0), (2, .cells (rowC (encI .i64) lh2_1) 0 3 1), (1, .cells (rowC encP lh1_1) 0 61 2), (0, .cells (rowC (encI .u8) lh0_1) 0 63 0)]) (c' := 4) (by kernel_rfl) ?_
            refine XR.done (by kernel_rfl) ?_
            refine ⟨rfl, ?_, ?_⟩
            · try rw [b3]
              exact ⟨by kernel_rfl, by kernel_rfl, by kernel_rfl, by kernel_rfl, by kernel_rfl, by kernel_rfl, by kernel_rfl, by kernel_rfl, by kernel_rfl, by kernel_rfl, by kernel_rfl, by kernel_rfl, by kernel_rfl, by kernel_rfl, by kernel_rfl, trivial⟩
            · try rw [b3]
              kernel_rfl
          · refine XQ.skip (by kernel_rfl) ?_
            refine ⟨rfl, ?_, ?_⟩
            · try rw [b3]
              exact ⟨by kernel_rfl, by kernel_rfl, by kernel_rfl, by kernel_rfl, by kernel_rfl, by kernel_rfl, by kernel_rfl, by kernel_rfl, by kernel_rfl, by kernel_rfl, by kernel_rfl, by kernel_rfl, by kernel_rfl, by kernel_rfl, by kernel_rfl, trivial⟩
            · try rw [b3]
              kernel_rfl
        show XQ _ _ _ _ _ _ _ _
        refine XQ.region (by kernel_rfl) ?_
        refine XR.run E0_ok 1 2 [4, 8, 11, 12, 13, 14, 16, 17, 18, 29, 30, 31, 59, 60, 61] rfl (σ' := [(4, .int .u8 e), (8, .pointer (some ⟨0, 0, none⟩)), (11, .slice (some ⟨1, 0, none⟩) lh1_1.length lh1_1.length), (12, .int .i64 x12_1), (13, .slice (some ⟨2, 0, none⟩) lh2_1.length lh2_1.length), (14, .int .i64 x14_1), (16, .pointer (some ⟨3, 0, none⟩)), (17, .int .i64 x17_2), (18, .int .i64 (cond ((List.getD lh2_1 (Int.toNat x61_2) 0) == x17_2) (w64 (x18_2 + 1)) x18_2)), (29, .slice (some ⟨1, 0, none⟩) lh1_1.length lh1_1.length), (30, .int .i64 x30_1), (31, .int .i64 x31_1), (59, .slice (some ⟨2, 0, none⟩) lh2_1.length lh2_1.length), (60, .int .i64 x60_2), (61, .int .i64 (w64 (x61_2 + 1)))]) (h' := [(3, .cells [.int .i64 xh3_0_2, .int .i64 xh3_1_2] 0 61 0), (2, .cells (rowC (encI .i64) lh2_1) 0 3 1), (1, .cells (rowC encP lh1_1) 0 61 2), (0, .cells (rowC (encI .u8) lh0_1) 0 63 0)]) (c' := 4) (by kernel_rfl) ?_
        refine XR.done (by kernel_rfl) ?_
        show XL _ _ _ _ _ _ _ _ _
        refine XL.ren (σ' := [(4, .int .u8 e), (8, .pointer (some ⟨0, 0, none⟩)), (11, .slice (some ⟨1, 0, none⟩) lh1_1.length lh1_1.length), (12, .int .i64 x12_1), (13, .slice (some ⟨2, 0, none⟩) lh2_1.length lh2_1.length), (14, .int .i64 x14_1), (16, .pointer (some ⟨3, 0, none⟩)), (17, .int .i64 x17_2), (18, .int .i64 (cond ((List.getD lh2_1 (Int.toNat x61_2) 0) == x17_2) (w64 (x18_2 + 1)) x18_2)), (29, .slice (some ⟨1, 0, none⟩) lh1_1.length lh1_1.length), (30, .int .i64 x30_1), (31, .int .i64 x31_1), (59, .slice (some ⟨2, 0, none⟩) lh2_1.length lh2_1.length), (60, .int .i64 x60_2), (61, .int .i64 (w64 (x61_2 + 1)))]) (h' := [(3, .cells [.int .i64 xh3_0_2, .int .i64 xh3_1_2] 0 61 0), (2, .cells (rowC (encI .i64) lh2_1) 0 3 1), (1, .cells (rowC encP lh1_1) 0 61 2), (0, .cells (rowC (encI .u8) lh0_1) 0 63 0)]) (c' := 4) [0, 1, 2, 3] (by decide) rfl ⟨by kernel_rfl, by kernel_rfl, by kernel_rfl, by kernel_rfl, by kernel_rfl, by kernel_rfl, by kernel_rfl, by kernel_rfl, by kernel_rfl, by kernel_rfl, by kernel_rfl, by kernel_rfl, by kernel_rfl, by kernel_rfl, by kernel_rfl, trivial⟩ ⟨⟨_, _, rfl, rfl, .inr ⟨_, _, _, _, rfl, rfl⟩⟩, ⟨_, _, rfl, rfl, .inl ⟨rfl, rowC_scal (encI_ok .i64) _⟩⟩, ⟨_, _, rfl, rfl, .inl ⟨rfl, rowC_scal encP_ok _⟩⟩, ⟨_, _, rfl, rfl, .inl ⟨rfl, rowC_scal (encI_ok .u8) _⟩⟩, trivial⟩ rfl ?_
        refine XL.conv (f8_2_ok m fuel e x12_1 x14_1 x30_1 x31_1 lh0_1 lh1_1 lh2_1 x17_2 (cond ((List.getD lh2_1 (Int.toNat x61_2) 0) == x17_2) (w64 (x18_2 + 1)) x18_2) x60_2 (w64 (x61_2 + 1)) xh3_0_2 xh3_1_2 o h Q hQ) (by first | rfl | simp)
    | false =>
      have h := cF b1 h
      refine XQ.cond (s := (.tmp 62)) (b := false) (by kernel_rfl) (by kernel_rfl) (fun q => by cases q) (fun _ => ?_)
      refine XQ.ren (σ' := [(4, .int .u8 e), (8, .pointer (some ⟨0, 0, none⟩)), (11, .slice (some ⟨1, 0, none⟩) lh1_1.length lh1_1.length), (12, .int .i64 x12_1), (13, .slice (some ⟨2, 0, none⟩) lh2_1.length lh2_1.length), (14, .int .i64 x14_1), (16, .pointer (some ⟨3, 0, none⟩)), (17, .int .i64 x17_2), (18, .int .i64 x18_2), (29, .slice (some ⟨1, 0, none⟩) lh1_1.length lh1_1.length), (30, .int .i64 x30_1), (31, .int .i64 x31_1)]) (h' := [(3, .cells [.int .i64 xh3_0_2, .int .i64 xh3_1_2] 0 61 0), (2, .cells (rowC (encI .i64) lh2_1) 0 3 1), (1, .cells (rowC encP lh1_1) 0 61 2), (0, .cells (rowC (encI .u8) lh0_1) 0 63 0)]) (c' := 4) [0, 1, 2, 3] (by decide) rfl ⟨by kernel_rfl, by kernel_rfl, by kernel_rfl, by kernel_rfl, by kernel_rfl, by kernel_rfl, by kernel_rfl, by kernel_rfl, by kernel_rfl, by kernel_rfl, by kernel_rfl, by kernel_rfl, trivial⟩ ⟨⟨_, _, rfl, rfl, .inr ⟨_, _, _, _, rfl, rfl⟩⟩, ⟨_, _, rfl, rfl, .inl ⟨rfl, rowC_scal (encI_ok .i64) _⟩⟩, ⟨_, _, rfl, rfl, .inl ⟨rfl, rowC_scal encP_ok _⟩⟩, ⟨_, _, rfl, rfl, .inl ⟨rfl, rowC_scal (encI_ok .u8) _⟩⟩, trivial⟩ rfl ?_
      refine XQ.exit (i := 2) (by kernel_rfl) ?_
      cases h
      exact hQ

def f8_1 (m : Nat) : Nat → Int → Int → Int → Int → Int → List Int → List (Int × Int) → List Int → Option (Int × Int × (List (Int × Int)) × (List Int))
  | 0, _, _, _, _, _, _, _, _ => none
  | fuel + 1, e, x12_1, x14_1, x30_1, x31_1, lh0_1, lh1_1, lh2_1 =>
    cond (decide (x31_1 < x30_1)) (
      cond (inRow x31_1 lh1_1.length) (
        cond (inRow x31_1 8) (
          cond (decide (Int.toNat x31_1 < lh0_1.length)) (
            cond ((w64 ((w64 (((List.getD lh1_1 (Int.toNat x31_1) (0, 0)).2) - ((List.getD lh1_1 (Int.toNat x31_1) (0, 0)).1))) + 1)) != 0) (
              (f8_2 m m e x12_1 x14_1 x30_1 x31_1 lh0_1 lh1_1 lh2_1 (cond (decide ((List.getD lh0_1 (Int.toNat x31_1) 0) > 240)) (w64 ((w64 (List.getD lh0_1 (Int.toNat x31_1) 0)) - 242)) (w64 (((List.getD lh1_1 (Int.toNat x31_1) (0, 0)).1) + (Int.tmod (w64 (List.getD lh0_1 (Int.toNat x31_1) 0)) (w64 ((w64 (((List.getD lh1_1 (Int.toNat x31_1) (0, 0)).2) - ((List.getD lh1_1 (Int.toNat x31_1) (0, 0)).1))) + 1)))))) 0 ((lh2_1.length : Nat) : Int) 0 ((List.getD lh1_1 (Int.toNat x31_1) (0, 0)).1) ((List.getD lh1_1 (Int.toNat x31_1) (0, 0)).2)).bind fun o2 =>
                cond (x14_1 == 0) (
                  cond (decide (o2.1 < o2.2.2.1)) (
                    cond (fitsB (lh2_1.length + 1) 8) (
                      f8_1 m fuel e x12_1 1 x30_1 (w64 (x31_1 + 1)) lh0_1 lh1_1 (lh2_1 ++ [o2.1])
                    ) none
                  ) (
                    cond (fitsB (lh2_1.length + 1) 8) (
                      f8_1 m fuel e x12_1 (cond (decide (o2.1 > o2.2.2.2)) 1 (cond (decide (o2.2.1 ≥ x12_1)) 15 x14_1)) x30_1 (w64 (x31_1 + 1)) lh0_1 lh1_1 (lh2_1 ++ [o2.1])
                    ) none
                  )
                ) (
                  cond (fitsB (lh2_1.length + 1) 8) (
                    f8_1 m fuel e x12_1 x14_1 x30_1 (w64 (x31_1 + 1)) lh0_1 lh1_1 (lh2_1 ++ [o2.1])
                  ) none
                )
            ) none
          ) none
        ) none
      ) none
    ) (
      some (x12_1, x14_1, lh1_1, lh2_1)
    )

theorem f8_1_ok (m : Nat) : ∀ (fuel : Nat) (e : Int) (x12_1 : Int) (x14_1 : Int) (x30_1 : Int) (x31_1 : Int) (lh0_1 : List Int) (lh1_1 : List (Int × Int)) (lh2_1 : List Int) (o : (Int × Int × (List (Int × Int)) × (List Int))), f8_1 m fuel e x12_1 x14_1 x30_1 x31_1 lh0_1 lh1_1 lh2_1 = some o → ∀ Q : QP, Q (.exit 0) [(4, .int .u8 e), (11, .slice (some ⟨0, 0, none⟩) o.2.2.1.length o.2.2.1.length), (12, .int .i64 o.1), (13, .slice (some ⟨1, 0, none⟩) o.2.2.2.length o.2.2.2.length), (14, .int .i64 o.2.1)] [(1, .cells (rowC (encI .i64) o.2.2.2) 0 3 1), (0, .cells (rowC encP o.2.2.1) 0 61 2)] 2 → XL E0 107 0 fuel f8_L1 [(4, .int .u8 e), (8, .pointer (some ⟨0, 0, none⟩)), (11, .slice (some ⟨1, 0, none⟩) lh1_1.length lh1_1.length), (12, .int .i64 x12_1), (13, .slice (some ⟨2, 0, none⟩) lh2_1.length lh2_1.length), (14, .int .i64 x14_1), (29, .slice (some ⟨1, 0, none⟩) lh1_1.length lh1_1.length), (30, .int .i64 x30_1), (31, .int .i64 x31_1)] [(2, .cells (rowC (encI .i64) lh2_1) 0 3 1), (1, .cells (rowC encP lh1_1) 0 61 2), (0, .cells (rowC (encI .u8) lh0_1) 0 63 0)] 3 Q
  | 0, e, x12_1, x14_1, x30_1, x31_1, lh0_1, lh1_1, lh2_1, o, h, Q, hQ => by cases h
  | fuel + 1, e, x12_1, x14_1, x30_1, x31_1, lh0_1, lh1_1, lh2_1, o, h, Q, hQ => by
    unfold f8_1 at h
    refine XL.succ E0_ok ?_
    refine XQ.seq E0_ok (by kernel_rfl) ?_
    refine XQ.region (by kernel_rfl) ?_
    refine XR.run E0_ok 1 1 [4, 8, 11, 12, 13, 14, 29, 30, 31, 32] rfl (σ' := [(4, .int .u8 e), (8, .pointer (some ⟨0, 0, none⟩)), (11, .slice (some ⟨1, 0, none⟩) lh1_1.length lh1_1.length), (12, .int .i64 x12_1), (13, .slice (some ⟨2, 0, none⟩) lh2_1.length lh2_1.length), (14, .int .i64 x14_1), (29, .slice (some ⟨1, 0, none⟩) lh1_1.length lh1_1.length), (30, .int .i64 x30_1), (31, .int .i64 x31_1), (32, .bool (decide (x31_1 < x30_1)))]) (h' := [(2, .cells (rowC (encI .i64) lh2_1) 0 3 1), (1, .cells (rowC encP lh1_1) 0 61 2), (0, .cells (rowC (encI .u8) lh0_1) 0 63 0)]) (c' := 3) (by kernel_rfl) ?_
    refine XR.done (by kernel_rfl) ?_
    show XQ _ _ _ _ _ _ _ _
    refine XQ.seq E0_ok (by kernel_rfl) ?_
    cases b1 : (decide (x31_1 < x30_1) : Bool) with
    | true =>
      have h := cT b1 h
      refine XQ.cond (s := (.tmp 32)) (b := true) (by kernel_rfl) (by kernel_rfl) (fun _ => ?_) (fun q => by cases q)
      refine XQ.skip (by kernel_rfl) ?_
      show XQ _ _ _ _ _ _ _ _
      refine XQ.seq E0_ok (by kernel_rfl) ?_
      refine XQ.block (id := 1) (by kernel_rfl) ?_
      refine XQ.seq E0_ok (by kernel_rfl) ?_
      refine XQ.region (by kernel_rfl) ?_
      refine XR.run E0_ok 1 1 [4, 8, 11, 12, 13, 14, 29, 30, 31, 33] rfl (σ' := [(4, .int .u8 e), (8, .pointer (some ⟨0, 0, none⟩)), (11, .slice (some ⟨1, 0, none⟩) lh1_1.length lh1_1.length), (12, .int .i64 x12_1), (13, .slice (some ⟨2, 0, none⟩) lh2_1.length lh2_1.length), (14, .int .i64 x14_1), (29, .slice (some ⟨1, 0, none⟩) lh1_1.length lh1_1.length), (30, .int .i64 x30_1), (31, .int .i64 x31_1), (33, .int .i64 x31_1)]) (h' := [(2, .cells (rowC (encI .i64) lh2_1) 0 3 1), (1, .cells (rowC encP lh1_1) 0 61 2), (0, .cells (rowC (encI .u8) lh0_1) 0 63 0)]) (c' := 3) (by kernel_rfl) ?_
      cases b2 : (inRow x31_1 lh1_1.length : Bool) with
      | false => cases (cF b2 h)
      | true =>
        have h := cT b2 h
        refine XR.rd E0_ok [4, 8, 11, 12, 13, 14, 29, 30, 31, 33, 34] rfl (v := .pointer (some ⟨1, (Int.toNat x31_1) * 2, none⟩)) (v_idx (s := 2) (x := (src 107 (.tmp 29))) (y := (src 107 (.tmp 31))) (b := 1) (o := 0) (len := lh1_1.length) (cap := lh1_1.length) (ik := .i64) (i := x31_1) (off := (Int.toNat x31_1) * 2) (d := (some (path 12 34))) (by kernel_rfl) (by kernel_rfl) (by kernel_rfl) b2 (by omega)) (σ' := [(4, .int .u8 e), (8, .pointer (some ⟨0, 0, none⟩)), (11, .slice (some ⟨1, 0, none⟩) lh1_1.length lh1_1.length), (12, .int .i64 x12_1), (13, .slice (some ⟨2, 0, none⟩) lh2_1.length lh2_1.length), (14, .int .i64 x14_1), (29, .slice (some ⟨1, 0, none⟩) lh1_1.length lh1_1.length), (30, .int .i64 x30_1), (31, .int .i64 x31_1), (33, .int .i64 x31_1), (34, .pointer (some ⟨1, (Int.toNat x31_1) * 2, none⟩))]) (by kernel_rfl) ?_
        refine XR.rd E0_ok [4, 8, 11, 12, 13, 14, 29, 30, 31, 33, 35] rfl (v := .agg #[.int .i64 ((List.getD lh1_1 (Int.toNat x31_1) (0, 0)).1), .int .i64 ((List.getD lh1_1 (Int.toNat x31_1) (0, 0)).2)]) (v_loadN encP_ok (x := (src 107 (.tmp 34))) (b := 1) (off := (Int.toNat x31_1) * 2) (xs := lh1_1) (fz := 0) (e := 61) (es := 2) (d := (some (path 12 35))) (by kernel_rfl) (by kernel_rfl) (by kernel_rfl) (Int.toNat x31_1) (0, 0) (by first | rfl | omega) (row_len (inRow_toNat b2) (by simp)) rfl) (σ' := [(4, .int .u8 e), (8, .pointer (some ⟨0, 0, none⟩)), (11, .slice (some ⟨1, 0, none⟩) lh1_1.length lh1_1.length), (12, .int .i64 x12_1), (13, .slice (some ⟨2, 0, none⟩) lh2_1.length lh2_1.length), (14, .int .i64 x14_1), (29, .slice (some ⟨1, 0, none⟩) lh1_1.length lh1_1.length), (30, .int .i64 x30_1), (31, .int .i64 x31_1), (33, .int .i64 x31_1), (35, .agg #[.int .i64 ((List.getD lh1_1 (Int.toNat x31_1) (0, 0)).1), .int .i64 ((List.getD lh1_1 (Int.toNat x31_1) (0, 0)).2)])]) (by kernel_rfl) ?_
        refine XR.run E0_ok 1 3 [4, 8, 11, 12, 13, 14, 15, 16, 29, 30, 31] rfl (σ' := [(4, .int .u8 e), (8, .pointer (some ⟨0, 0, none⟩)), (11, .slice (some ⟨1, 0, none⟩) lh1_1.length lh1_1.length), (12, .int .i64 x12_1), (13, .slice (some ⟨2, 0, none⟩) lh2_1.length lh2_1.length), (14, .int .i64 x14_1), (15, .int .i64 x31_1), (16, .pointer (some ⟨3, 0, none⟩)), (29, .slice (some ⟨1, 0, none⟩) lh1_1.length lh1_1.length), (30, .int .i64 x30_1), (31, .int .i64 x31_1)]) (h' := [(3, .cells [.int .i64 ((List.getD lh1_1 (Int.toNat x31_1) (0, 0)).1), .int .i64 ((List.getD lh1_1 (Int.toNat x31_1) (0, 0)).2)] 0 61 0), (2, .cells (rowC (encI .i64) lh2_1) 0 3 1), (1, .cells (rowC encP lh1_1) 0 61 2), (0, .cells (rowC (encI .u8) lh0_1) 0 63 0)]) (c' := 4) (by kernel_rfl) ?_
        refine XR.done (by kernel_rfl) ?_
        show XQ _ _ _ _ _ _ _ _
        refine XQ.seq E0_ok (by kernel_rfl) ?_
        refine XQ.quiet E0_ok (by kernel_rfl) (by kernel_rfl) ?_
        refine XU.run E0_ok 1 3 [4, 8, 11, 12, 13, 14, 15, 16, 29, 30, 31, 37, 38] rfl (σ' := [(4, .int .u8 e), (8, .pointer (some ⟨0, 0, none⟩)), (11, .slice (some ⟨1, 0, none⟩) lh1_1.length lh1_1.length), (12, .int .i64 x12_1), (13, .slice (some ⟨2, 0, none⟩) lh2_1.length lh2_1.length), (14, .int .i64 x14_1), (15, .int .i64 x31_1), (16, .pointer (some ⟨3, 0, none⟩)), (29, .slice (some ⟨1, 0, none⟩) lh1_1.length lh1_1.length), (30, .int .i64 x30_1), (31, .int .i64 x31_1), (37, .int .i64 ((List.getD lh1_1 (Int.toNat x31_1) (0, 0)).1)), (38, .int .i64 x31_1)]) (by kernel_rfl) ?_
        cases b3 : (inRow x31_1 8 : Bool) with
        | false => cases (cF b3 h)
        | true =>
          have h := cT b3 h
          refine XU.rd E0_ok [4, 8, 11, 12, 13, 14, 15, 16, 29, 30, 31, 37, 39] rfl (v := .pointer (some ⟨0, (Int.toNat x31_1) * 1, none⟩)) (v_idxA (s := 1) (len := 8) (x := (src 107 (.tmp 8))) (y := (src 107 (.tmp 38))) (b := 0) (o := 0) (ik := .i64) (i := x31_1) (off := (Int.toNat x31_1) * 1) (d := (some (path 12 39))) (by kernel_rfl) (by kernel_rfl) (by kernel_rfl) b3 (by omega)) (σ' := [(4, .int .u8 e), (8, .pointer (some ⟨0, 0, none⟩)), (11, .slice (some ⟨1, 0, none⟩) lh1_1.length lh1_1.length), (12, .int .i64 x12_1), (13, .slice (some ⟨2, 0, none⟩) lh2_1.length lh2_1.length), (14, .int .i64 x14_1), (15, .int .i64 x31_1), (16, .pointer (some ⟨3, 0, none⟩)), (29, .slice (some ⟨1, 0, none⟩) lh1_1.length lh1_1.length), (30, .int .i64 x30_1), (31, .int .i64 x31_1), (37, .int .i64 ((List.getD lh1_1 (Int.toNat x31_1) (0, 0)).1)), (39, .pointer (some ⟨0, (Int.toNat x31_1) * 1, none⟩))]) (by kernel_rfl) ?_
          cases b4 : (decide (Int.toNat x31_1 < lh0_1.length) : Bool) with
          | false => cases (cF b4 h)
          | true =>
            have h := cT b4 h
            refine XU.rd E0_ok [4, 8, 11, 12, 13, 14, 15, 16, 29, 30, 31, 37, 40] rfl (v := .int .u8 (List.getD lh0_1 (Int.toNat x31_1) 0)) (v_load1 (encI_ok .u8) (x := (src 107 (.tmp 39))) (b := 0) (off := (Int.toNat x31_1) * 1) (xs := lh0_1) (fz := 0) (e := 63) (es := 0) (d := (some (path 12 40))) (by kernel_rfl) (by kernel_rfl) (by kernel_rfl) (Int.toNat x31_1) 0 0 (by first | rfl | omega) (row_len b4 (by simp)) rfl rfl) (σ' := [(4, .int .u8 e), (8, .pointer (some ⟨0, 0, none⟩)), (11, .slice (some ⟨1, 0, none⟩) lh1_1.length lh1_1.length), (12, .int .i64 x12_1), (13, .slice (some ⟨2, 0, none⟩) lh2_1.length lh2_1.length), (14, .int .i64 x14_1), (15, .int .i64 x31_1), (16, .pointer (some ⟨3, 0, none⟩)), (29, .slice (some ⟨1, 0, none⟩) lh1_1.length lh1_1.length), (30, .int .i64 x30_1), (31, .int .i64 x31_1), (37, .int .i64 ((List.getD lh1_1 (Int.toNat x31_1) (0, 0)).1)), (40, .int .u8 (List.getD lh0_1 (Int.toNat x31_1) 0))]) (by kernel_rfl) ?_
            refine XU.run E0_ok 1 7 [4, 8, 11, 12, 13, 14, 15, 16, 29, 30, 31, 37, 41, 47] rfl (σ' := [(4, .int .u8 e), (8, .pointer (some ⟨0, 0, none⟩)), (11, .slice (some ⟨1, 0, none⟩) lh1_1.length lh1_1.length), (12, .int .i64 x12_1), (13, .slice (some ⟨2, 0, none⟩) lh2_1.length lh2_1.length), (14, .int .i64 x14_1), (15, .int .i64 x31_1), (16, .pointer (some ⟨3, 0, none⟩)), (29, .slice (some ⟨1, 0, none⟩) lh1_1.length lh1_1.length), (30, .int .i64 x30_1), (31, .int .i64 x31_1), (37, .int .i64 ((List.getD lh1_1 (Int.toNat x31_1) (0, 0)).1)), (41, .int .i64 (w64 (List.getD lh0_1 (Int.toNat x31_1) 0))), (47, .int .i64 (w64 ((w64 (((List.getD lh1_1 (Int.toNat x31_1) (0, 0)).2) - ((List.getD lh1_1 (Int.toNat x31_1) (0, 0)).1))) + 1)))]) (by kernel_rfl) ?_
            cases b5 : ((w64 ((w64 (((List.getD lh1_1 (Int.toNat x31_1) (0, 0)).2) - ((List.getD lh1_1 (Int.toNat x31_1) (0, 0)).1))) + 1)) != 0 : Bool) with
            | false => cases (cF b5 h)
            | true =>
              have h := cT b5 h
              have e6 : insV (headI ((gsOf E0 107 (opsOf (lft (rgt (lft (lft (rgt (rgt f8_L1)))))))).drop 12) (trS 107 [(4, .int .u8 e), (8, .pointer (some ⟨0, 0, none⟩)), (11, .slice (some ⟨1, 0, none⟩) lh1_1.length lh1_1.length), (12, .int .i64 x12_1), (13, .slice (some ⟨2, 0, none⟩) lh2_1.length lh2_1.length), (14, .int .i64 x14_1), (15, .int .i64 x31_1), (16, .pointer (some ⟨3, 0, none⟩)), (29, .slice (some ⟨1, 0, none⟩) lh1_1.length lh1_1.length), (30, .int .i64 x30_1), (31, .int .i64 x31_1), (37, .int .i64 ((List.getD lh1_1 (Int.toNat x31_1) (0, 0)).1)), (41, .int .i64 (w64 (List.getD lh0_1 (Int.toNat x31_1) 0))), (47, .int .i64 (w64 ((w64 (((List.getD lh1_1 (Int.toNat x31_1) (0, 0)).2) - ((List.getD lh1_1 (Int.toNat x31_1) (0, 0)).1))) + 1)))])) (trS 107 [(4, .int .u8 e), (8, .pointer (some ⟨0, 0, none⟩)), (11, .slice (some ⟨1, 0, none⟩) lh1_1.length lh1_1.length), (12, .int .i64 x12_1), (13, .slice (some ⟨2, 0, none⟩) lh2_1.length lh2_1.length), (14, .int .i64 x14_1), (15, .int .i64 x31_1), (16, .pointer (some ⟨3, 0, none⟩)), (29, .slice (some ⟨1, 0, none⟩) lh1_1.length lh1_1.length), (30, .int .i64 x30_1), (31, .int .i64 x31_1), (37, .int .i64 ((List.getD lh1_1 (Int.toNat x31_1) (0, 0)).1)), (41, .int .i64 (w64 (List.getD lh0_1 (Int.toNat x31_1) 0))), (47, .int .i64 (w64 ((w64 (((List.getD lh1_1 (Int.toNat x31_1) (0, 0)).2) - ((List.getD lh1_1 (Int.toNat x31_1) (0, 0)).1))) + 1)))]) [(3, .cells [.int .i64 ((List.getD lh1_1 (Int.toNat x31_1) (0, 0)).1), .int .i64 ((List.getD lh1_1 (Int.toNat x31_1) (0, 0)).2)] 0 61 0), (2, .cells (rowC (encI .i64) lh2_1) 0 3 1), (1, .cells (rowC encP lh1_1) 0 61 2), (0, .cells (rowC (encI .u8) lh0_1) 0 63 0)] = (match ((w64 ((w64 (((List.getD lh1_1 (Int.toNat x31_1) (0, 0)).2) - ((List.getD lh1_1 (Int.toNat x31_1) (0, 0)).1))) + 1)) != 0 : Bool) with | true => some (.int .i64 (Int.tmod (w64 (List.getD lh0_1 (Int.toNat x31_1) 0)) (w64 ((w64 (((List.getD lh1_1 (Int.toNat x31_1) (0, 0)).2) - ((List.getD lh1_1 (Int.toNat x31_1) (0, 0)).1))) + 1)))) | false => none) := by kernel_rfl
              refine XU.rd E0_ok [4, 8, 11, 12, 13, 14, 15, 16, 29, 30, 31, 37, 48] rfl (e6.trans (by rw [b5])) (σ' := [(4, .int .u8 e), (8, .pointer (some ⟨0, 0, none⟩)), (11, .slice (some ⟨1, 0, none⟩) lh1_1.length lh1_1.length), (12, .int .i64 x12_1), (13, .slice (some ⟨2, 0, none⟩) lh2_1.length lh2_1.length), (14, .int .i64 x14_1), (15, .int .i64 x31_1), (16, .pointer (some ⟨3, 0, none⟩)), (29, .slice (some ⟨1, 0, none⟩) lh1_1.length lh1_1.length), (30, .int .i64 x30_1), (31, .int .i64 x31_1), (37, .int .i64 ((List.getD lh1_1 (Int.toNat x31_1) (0, 0)).1)), (48, .int .i64 (Int.tmod (w64 (List.getD lh0_1 (Int.toNat x31_1) 0)) (w64 ((w64 (((List.getD lh1_1 (Int.toNat x31_1) (0, 0)).2) - ((List.getD lh1_1 (Int.toNat x31_1) (0, 0)).1))) + 1))))]) (by kernel_rfl) ?_
              refine XU.run E0_ok 1 2 [4, 8, 11, 12, 13, 14, 15, 16, 17, 29, 30, 31] rfl (σ' := [(4, .int .u8 e), (8, .pointer (some ⟨0, 0, none⟩)), (11, .slice (some ⟨1, 0, none⟩) lh1_1.length lh1_1.length), (12, .int .i64 x12_1), (13, .slice (some ⟨2, 0, none⟩) lh2_1.length lh2_1.length), (14, .int .i64 x14_1), (15, .int .i64 x31_1), (16, .pointer (some ⟨3, 0, none⟩)), (17, .int .i64 (w64 (((List.getD lh1_1 (Int.toNat x31_1) (0, 0)).1) + (Int.tmod (w64 (List.getD lh0_1 (Int.toNat x31_1) 0)) (w64 ((w64 (((List.getD lh1_1 (Int.toNat x31_1) (0, 0)).2) - ((List.getD lh1_1 (Int.toNat x31_1) (0, 0)).1))) + 1)))))), (29, .slice (some ⟨1, 0, none⟩) lh1_1.length lh1_1.length), (30, .int .i64 x30_1), (31, .int .i64 x31_1)]) (by kernel_rfl) ?_
              refine XU.done (by kernel_rfl) ?_
              show XQ _ _ _ _ _ _ _ _
              refine XQ.seq E0_ok (by kernel_rfl) ?_
              refine XQ.seq E0_ok (by kernel_rfl) ?_
              refine XQ.region (by kernel_rfl) ?_
              refine XR.run E0_ok 1 1 [4, 8, 11, 12, 13, 14, 15, 16, 17, 29, 30, 31, 50] rfl (σ' := [(4, .int .u8 e), (8, .pointer (some ⟨0, 0, none⟩)), (11, .slice (some ⟨1, 0, none⟩) lh1_1.length lh1_1.length), (12, .int .i64 x12_1), (13, .slice (some ⟨2, 0, none⟩) lh2_1.length lh2_1.length), (14, .int .i64 x14_1), (15, .int .i64 x31_1), (16, .pointer (some ⟨3, 0, none⟩)), (17, .int .i64 (w64 (((List.getD lh1_1 (Int.toNat x31_1) (0, 0)).1) + (Int.tmod (w64 (List.getD lh0_1 (Int.toNat x31_1) 0)) (w64 ((w64 (((List.getD lh1_1 (Int.toNat x31_1) (0, 0)).2) - ((List.getD lh1_1 (Int.toNat x31_1) (0, 0)).1))) + 1)))))), (29, .slice (some ⟨1, 0, none⟩) lh1_1.length lh1_1.length), (30, .int .i64 x30_1), (31, .int .i64 x31_1), (50, .int .i64 x31_1)]) (h' := [(3, .cells [.int .i64 ((List.getD lh1_1 (Int.toNat x31_1) (0, 0)).1), .int .i64 ((List.getD lh1_1 (Int.toNat x31_1) (0, 0)).2)] 0 61 0), (2, .cells (rowC (encI .i64) lh2_1) 0 3 1), (1, .cells (rowC encP lh1_1) 0 61 2), (0, .cells (rowC (encI .u8) lh0_1) 0 63 0)]) (c' := 4) (by kernel_rfl) ?_
              refine XR.rd E0_ok [4, 8, 11, 12, 13, 14, 15, 16, 17, 29, 30, 31, 51] rfl (v := .pointer (some ⟨0, (Int.toNat x31_1) * 1, none⟩)) (v_idxA (s := 1) (len := 8) (x := (src 107 (.tmp 8))) (y := (src 107 (.tmp 50))) (b := 0) (o := 0) (ik := .i64) (i := x31_1) (off := (Int.toNat x31_1) * 1) (d := (some (path 12 51))) (by kernel_rfl) (by kernel_rfl) (by kernel_rfl) b3 (by omega)) (σ' := [(4, .int .u8 e), (8, .pointer (some ⟨0, 0, none⟩)), (11, .slice (some ⟨1, 0, none⟩) lh1_1.length lh1_1.length), (12, .int .i64 x12_1), (13, .slice (some ⟨2, 0, none⟩) lh2_1.length lh2_1.length), (14, .int .i64 x14_1), (15, .int .i64 x31_1), (16, .pointer (some ⟨3, 0, none⟩)), (17, .int .i64 (w64 (((List.getD lh1_1 (Int.toNat x31_1) (0, 0)).1) + (Int.tmod (w64 (List.getD lh0_1 (Int.toNat x31_1) 0)) (w64 ((w64 (((List.getD lh1_1 (Int.toNat x31_1) (0, 0)).2) - ((List.getD lh1_1 (Int.toNat x31_1) (0, 0)).1))) + 1)))))), (29, .slice (some ⟨1, 0, none⟩) lh1_1.length lh1_1.length), (30, .int .i64 x30_1), (31, .int .i64 x31_1), (51, .pointer (some ⟨0, (Int.toNat x31_1) * 1, none⟩))]) (by kernel_rfl) ?_
              refine XR.rd E0_ok [4, 8, 11, 12, 13, 14, 15, 16, 17, 29, 30, 31, 52] rfl (v := .int .u8 (List.getD lh0_1 (Int.toNat x31_1) 0)) (v_load1 (encI_ok .u8) (x := (src 107 (.tmp 51))) (b := 0) (off := (Int.toNat x31_1) * 1) (xs := lh0_1) (fz := 0) (e := 63) (es := 0) (d := (some (path 12 52))) (by kernel_rfl) (by kernel_rfl) (by kernel_rfl) (Int.toNat x31_1) 0 0 (by first | rfl | omega) (row_len b4 (by simp)) rfl rfl) (σ' := [(4, .int .u8 e), (8, .pointer (some ⟨0, 0, none⟩)), (11, .slice (some ⟨1, 0, none⟩) lh1_1.length lh1_1.length), (12, .int .i64 x12_1), (13, .slice (some ⟨2, 0, none⟩) lh2_1.length lh2_1.length), (14, .int .i64 x14_1), (15, .int .i64 x31_1), (16, .pointer (some ⟨3, 0, none⟩)), (17, .int .i64 (w64 (((List.getD lh1_1 (Int.toNat x31_1) (0, 0)).1) + (Int.tmod (w64 (List.getD lh0_1 (Int.toNat x31_1) 0)) (w64 ((w64 (((List.getD lh1_1 (Int.toNat x31_1) (0, 0)).2) - ((List.getD lh1_1 (Int.toNat x31_1) (0, 0)).1))) + 1)))))), (29, .slice (some ⟨1, 0, none⟩) lh1_1.length lh1_1.length), (30, .int .i64 x30_1), (31, .int .i64 x31_1), (52, .int .u8 (List.getD lh0_1 (Int.toNat x31_1) 0))]) (by kernel_rfl) ?_
              refine XR.run E0_ok 1 1 [4, 8, 11, 12, 13, 14, 15, 16, 17, 29, 30, 31, 53] rfl (σ' := [(4, .int .u8 e), (8, .pointer (some ⟨0, 0, none⟩)), (11, .slice (some ⟨1, 0, none⟩) lh1_1.length lh1_1.length), (12, .int .i64 x12_1), (13, .slice (some ⟨2, 0, none⟩) lh2_1.length lh2_1.length), (14, .int .i64 x14_1), (15, .int .i64 x31_1), (16, .pointer (some ⟨3, 0, none⟩)), (17, .int .i64 (w64 (((List.getD lh1_1 (Int.toNat x31_1) (0, 0)).1) + (Int.tmod (w64 (List.getD lh0_1 (Int.toNat x31_1) 0)) (w64 ((w64 (((List.getD lh1_1 (Int.toNat x31_1) (0, 0)).2) - ((List.getD lh1_1 (Int.toNat x31_1) (0, 0)).1))) + 1)))))), (29, .slice (some ⟨1, 0, none⟩) lh1_1.length lh1_1.length), (30, .int .i64 x30_1), (31, .int .i64 x31_1), (53, .bool (decide ((List.getD lh0_1 (Int.toNat x31_1) 0) > 240)))]) (h' := [(3, .cells [.int .i64 ((List.getD lh1_1 (Int.toNat x31_1) (0, 0)).1), .int .i64 ((List.getD lh1_1 (Int.toNat x31_1) (0, 0)).2)] 0 61 0), (2, .cells (rowC (encI .i64) lh2_1) 0 3 1), (1, .cells (rowC encP lh1_1) 0 61 2), (0, .cells (rowC (encI .u8) lh0_1) 0 63 0)]) (c' := 4) (by kernel_rfl) ?_
              refine XR.done (by kernel_rfl) ?_
              show XQ _ _ _ _ _ _ _ _
              refine XQ.meetC (σ' := [(4, .int .u8 e), (8, .pointer (some ⟨0, 0, none⟩)), (11, .slice (some ⟨1, 0, none⟩) lh1_1.length lh1_1.length), (12, .int .i64 x12_1), (13, .slice (some ⟨2, 0, none⟩) lh2_1.length lh2_1.length), (14, .int .i64 x14_1), (16, .pointer (some ⟨3, 0, none⟩)), (17, .int .i64 (cond (decide ((List.getD lh0_1 (Int.toNat x31_1) 0) > 240)) (w64 ((w64 (List.getD lh0_1 (Int.toNat x31_1) 0)) - 242)) (w64 (((List.getD lh1_1 (Int.toNat x31_1) (0, 0)).1) + (Int.tmod (w64 (List.getD lh0_1 (Int.toNat x31_1) 0)) (w64 ((w64 (((List.getD lh1_1 (Int.toNat x31_1) (0, 0)).2) - ((List.getD lh1_1 (Int.toNat x31_1) (0, 0)).1))) + 1))))))), (29, .slice (some ⟨1, 0, none⟩) lh1_1.length lh1_1.length), (30, .int .i64 x30_1), (31, .int .i64 x31_1)]) (h' := [(3, .cells [.int .i64 ((List.getD lh1_1 (Int.toNat x31_1) (0, 0)).1), .int .i64 ((List.getD lh1_1 (Int.toNat x31_1) (0, 0)).2)] 0 61 0), (2, .cells (rowC (encI .i64) lh2_1) 0 3 1), (1, .cells (rowC encP lh1_1) 0 61 2), (0, .cells (rowC (encI .u8) lh0_1) 0 63 0)]) (c' := 4) ?_ ?_
              rotate_left
              · refine XQ.cond (s := (.tmp 53)) (b := decide ((List.getD lh0_1 (Int.toNat x31_1) 0) > 240)) (by kernel_rfl) (by kernel_rfl) (fun b7 => ?_) (fun b7 => ?_)
                · refine XQ.region (by kernel_rfl) ?_
                  refine XR.run E0_ok 1 1 [4, 8, 11, 12, 13, 14, 16, 29, 30, 31, 54] rfl (σ' := [(4, .int .u8 e), (8, .pointer (some ⟨0, 0, none⟩)), (11, .slice (some ⟨1, 0, none⟩) lh1_1.length lh1_1.length), (12, .int .i64 x12_1), (13, .slice (some ⟨2, 0, none⟩) lh2_1.length lh2_1.length), (14, .int .i64 x14_1), (16, .pointer (some ⟨3, 0, none⟩)), (29, .slice (some ⟨1, 0, none⟩) lh1_1.length lh1_1.length), (30, .int .i64 x30_1), (31, .int .i64 x31_1), (54, .int .i64 x31_1)]) (h' := [(3, .cells [.int .i64 ((List.getD lh1_1 (Int.toNat x31_1) (0, 0)).1), .int .i64 ((List.getD lh1_1 (Int.toNat x31_1) (0, 0)).2)] 0 61 0), (2, .cells (rowC (encI .i64) lh2_1) 0 3 1), (1, .cells (rowC encP lh1_1) 0 61 2), (0, .cells (rowC (encI .u8) lh0_1) 0 63 0)]) (c' := 4) (by kernel_rfl) ?_
                  refine XR.rd E0_ok [4, 8, 11, 12, 13, 14, 16, 29, 30, 31, 55] rfl (v := .pointer (some ⟨0, (Int.toNat x31_1) * 1, none⟩)) (v_idxA (s := 1) (len := 8) (x := (src 107 (.tmp 8))) (y := (src 107 (.tmp 54))) (b := 0) (o := 0) (ik := .i64) (i := x31_1) (off := (Int.toNat x31_1) * 1) (d := (some (path 12 55))) (by kernel_rfl) (by kernel_rfl) (by kernel_rfl) b3 (by omega)) (σ' := [(4, .int .u8 e), (8, .pointer (some ⟨0, 0, none⟩)), (11, .slice (some ⟨1, 0, none⟩) lh1_1.length lh1_1.length), (12, .int .i64 x12_1), (13, .slice (some ⟨2, 0, none⟩) lh2_1.length lh2_1.length), (14, .int .i64 x14_1), (16, .pointer (some ⟨3, 0, none⟩)), (29, .slice (some ⟨1, 0, none⟩) lh1_1.length lh1_1.length), (30, .int .i64 x30_1), (31, .int .i64 x31_1), (55, .pointer (some ⟨0, (Int.toNat x31_1) * 1, none⟩))]) (by kernel_rfl) ?_
                  refine XR.rd E0_ok [4, 8, 11, 12, 13, 14, 16, 29, 30, 31, 56] rfl (v := .int .u8 (List.getD lh0_1 (Int.toNat x31_1) 0)) (v_load1 (encI_ok .u8) (x := (src 107 (.tmp 55))) (b := 0) (off := (Int.toNat x31_1) * 1) (xs := lh0_1) (fz := 0) (e := 63) (es := 0) (d := (some (path 12 56))) (by kernel_rfl) (by kernel_rfl) (by kernel_rfl) (Int.toNat x31_1) 0 0 (by first | rfl | omega) (row_len b4 (by simp)) rfl rfl) (σ' := [(4, .int .u8 e), (8, .pointer (some ⟨0, 0, none⟩)), (11, .slice (some ⟨1, 0, none⟩) lh1_1.length lh1_1.length), (12, .int .i64 x12_1), (13, .slice (some ⟨2, 0, none⟩) lh2_1.length lh2_1.length), (14, .int .i64 x14_1), (16, .pointer (some ⟨3, 0, none⟩)), (29, .slice (some ⟨1, 0, none⟩) lh1_1.length lh1_1.length), (30, .int .i64 x30_1), (31, .int .i64 x31_1), (56, .int .u8 (List.getD lh0_1 (Int.toNat x31_1) 0))]) (by kernel_rfl) ?_
                  refine XR.run E0_ok 1 3 [4, 8, 11, 12, 13, 14, 16, 17, 29, 30, 31] rfl (σ' := [(4, .int .u8 e), (8, .pointer (some ⟨0, 0, none⟩)), (11, .slice (some ⟨1, 0, none⟩) lh1_1.length lh1_1.length), (12, .int .i64 x12_1), (13, .slice (some ⟨2, 0, none⟩) lh2_1.length lh2_1.length), (14, .int .i64 x14_1), (16, .pointer (some ⟨3, 0, none⟩)), (17, .int .i64 (w64 ((w64 (List.getD lh0_1 (Int.toNat x31_1) 0)) - 242))), (29, .slice (some ⟨1, 0, none⟩) lh1_1.length lh1_1.length), (30, .int .i64 x30_1), (31, .int .i64 x31_1)]) (h' := [(3, .cells [.int .i64 ((List.getD lh1_1 (Int.toNat x31_1) (0, 0)).1), .int .i64 ((List.getD lh1_1 (Int.toNat x31_1) (0, 0)).2)] 0 61 0), (2, .cells (rowC (encI .i64) lh2_1) 0 3 1), (1, .cells (rowC encP lh1_1) 0 61 2), (0, .cells (rowC (encI .u8) lh0_1) 0 63 0)]) (c' := 4) (by kernel_rfl) ?_
                  refine XR.done (by kernel_rfl) ?_
                  refine ⟨rfl, ?_, ?_⟩
                  · try rw [b7]
                    exact ⟨by kernel_rfl, by kernel_rfl, by kernel_rfl, by kernel_rfl, by kernel_rfl, by kernel_rfl, by kernel_rfl, by kernel_rfl, by kernel_rfl, by kernel_rfl, by kernel_rfl, trivial⟩
                  · try rw [b7]
                    kernel_rfl
                · refine XQ.skip (by kernel_rfl) ?_
                  refine ⟨rfl, ?_, ?_⟩
                  · try rw [b7]
                    exact ⟨by kernel_rfl, by kernel_rfl, by kernel_rfl, by kernel_rfl, by kernel_rfl, by kernel_rfl, by kernel_rfl, by kernel_rfl, by kernel_rfl, by kernel_rfl, by kernel_rfl, trivial⟩
                  · try rw [b7]
                    kernel_rfl
              show XQ _ _ _ _ _ _ _ _
              refine XQ.seq E0_ok (by kernel_rfl) ?_
              refine XQ.region (by kernel_rfl) ?_
              refine XR.run E0_ok 1 1 [4, 8, 11, 12, 13, 14, 16, 17, 18, 29, 30, 31] rfl (σ' := [(4, .int .u8 e), (8, .pointer (some ⟨0, 0, none⟩)), (11, .slice (some ⟨1, 0, none⟩) lh1_1.length lh1_1.length), (12, .int .i64 x12_1), (13, .slice (some ⟨2, 0, none⟩) lh2_1.length lh2_1.length), (14, .int .i64 x14_1), (16, .pointer (some ⟨3, 0, none⟩)), (17, .int .i64 (cond (decide ((List.getD lh0_1 (Int.toNat x31_1) 0) > 240)) (w64 ((w64 (List.getD lh0_1 (Int.toNat x31_1) 0)) - 242)) (w64 (((List.getD lh1_1 (Int.toNat x31_1) (0, 0)).1) + (Int.tmod (w64 (List.getD lh0_1 (Int.toNat x31_1) 0)) (w64 ((w64 (((List.getD lh1_1 (Int.toNat x31_1) (0, 0)).2) - ((List.getD lh1_1 (Int.toNat x31_1) (0, 0)).1))) + 1))))))), (18, .int .i64 0), (29, .slice (some ⟨1, 0, none⟩) lh1_1.length lh1_1.length), (30, .int .i64 x30_1), (31, .int .i64 x31_1)]) (h' := [(3, .cells [.int .i64 ((List.getD lh1_1 (Int.toNat x31_1) (0, 0)).1), .int .i64 ((List.getD lh1_1 (Int.toNat x31_1) (0, 0)).2)] 0 61 0), (2, .cells (rowC (encI .i64) lh2_1) 0 3 1), (1, .cells (rowC encP lh1_1) 0 61 2), (0, .cells (rowC (encI .u8) lh0_1) 0 63 0)]) (c' := 4) (by kernel_rfl) ?_
              refine XR.done (by kernel_rfl) ?_
              show XQ _ _ _ _ _ _ _ _
              refine XQ.seq E0_ok (by kernel_rfl) ?_
              refine XQ.seq E0_ok (by kernel_rfl) ?_
              refine XQ.region (by kernel_rfl) ?_
              refine XR.run E0_ok 1 3 [4, 8, 11, 12, 13, 14, 16, 17, 18, 29, 30, 31, 59, 60, 61] rfl (σ' := [(4, .int .u8 e), (8, .pointer (some ⟨0, 0, none⟩)), (11, .slice (some ⟨1, 0, none⟩) lh1_1.length lh1_1.length), (12, .int .i64 x12_1), (13, .slice (some ⟨2, 0, none⟩) lh2_1.length lh2_1.length), (14, .int .i64 x14_1), (16, .pointer (some ⟨3, 0, none⟩)), (17, .int .i64 (cond (decide ((List.getD lh0_1 (Int.toNat x31_1) 0) > 240)) (w64 ((w64 (List.getD lh0_1 (Int.toNat x31_1) 0)) - 242)) (w64 (((List.getD lh1_1 (Int.toNat x31_1) (0, 0)).1) + (Int.tmod (w64 (List.getD lh0_1 (Int.toNat x31_1) 0)) (w64 ((w64 (((List.getD lh1_1 (Int.toNat x31_1) (0, 0)).2) - ((List.getD lh1_1 (Int.toNat x31_1) (0, 0)).1))) + 1))))))), (18, .int .i64 0), (29, .slice (some ⟨1, 0, none⟩) lh1_1.length lh1_1.length), (30, .int .i64 x30_1), (31, .int .i64 x31_1), (59, .slice (some ⟨2, 0, none⟩) lh2_1.length lh2_1.length), (60, .int .i64 ((lh2_1.length : Nat) : Int)), (61, .int .i64 0)]) (h' := [(3, .cells [.int .i64 ((List.getD lh1_1 (Int.toNat x31_1) (0, 0)).1), .int .i64 ((List.getD lh1_1 (Int.toNat x31_1) (0, 0)).2)] 0 61 0), (2, .cells (rowC (encI .i64) lh2_1) 0 3 1), (1, .cells (rowC encP lh1_1) 0 61 2), (0, .cells (rowC (encI .u8) lh0_1) 0 63 0)]) (c' := 4) (by kernel_rfl) ?_
              refine XR.done (by kernel_rfl) ?_
              show XQ _ _ _ _ _ _ _ _
              refine XQ.block (id := 2) (by kernel_rfl) ?_
              refine XQ.loop m (by kernel_rfl) ?_
              obtain ⟨o2, o2_h, h⟩ := bS h
              refine XL.ren (σ' := [(4, .int .u8 e), (8, .pointer (some ⟨0, 0, none⟩)), (11, .slice (some ⟨1, 0, none⟩) lh1_1.length lh1_1.length), (12, .int .i64 x12_1), (13, .slice (some ⟨2, 0, none⟩) lh2_1.length lh2_1.length), (14, .int .i64 x14_1), (16, .pointer (some ⟨3, 0, none⟩)), (17, .int .i64 (cond (decide ((List.getD lh0_1 (Int.toNat x31_1) 0) > 240)) (w64 ((w64 (List.getD lh0_1 (Int.toNat x31_1) 0)) - 242)) (w64 (((List.getD lh1_1 (Int.toNat x31_1) (0, 0)).1) + (Int.tmod (w64 (List.getD lh0_1 (Int.toNat x31_1) 0)) (w64 ((w64 (((List.getD lh1_1 (Int.toNat x31_1) (0, 0)).2) - ((List.getD lh1_1 (Int.toNat x31_1) (0, 0)).1))) + 1))))))), (18, .int .i64 0), (29, .slice (some ⟨1, 0, none⟩) lh1_1.length lh1_1.length), (30, .int .i64 x30_1), (31, .int .i64 x31_1), (59, .slice (some ⟨2, 0, none⟩) lh2_1.length lh2_1.length), (60, .int .i64 ((lh2_1.length : Nat) : Int)), (61, .int .i64 0)]) (h' := [(3, .cells [.int .i64 ((List.getD lh1_1 (Int.toNat x31_1) (0, 0)).1), .int .i64 ((List.getD lh1_1 (Int.toNat x31_1) (0, 0)).2)] 0 61 0), (2, .cells (rowC (encI .i64) lh2_1) 0 3 1), (1, .cells (rowC encP lh1_1) 0 61 2), (0, .cells (rowC (encI .u8) lh0_1) 0 63 0)]) (c' := 4) [0, 1, 2, 3] (by decide) rfl ⟨by kernel_rfl, by kernel_rfl, by kernel_rfl, by kernel_rfl, by kernel_rfl, by kernel_rfl, by kernel_rfl, by kernel_rfl, by kernel_rfl, by kernel_rfl, by kernel_rfl, by kernel_rfl, by kernel_rfl, by kernel_rfl, by kernel_rfl, trivial⟩ ⟨⟨_, _, rfl, rfl, .inr ⟨_, _, _, _, rfl, rfl⟩⟩, ⟨_, _, rfl, rfl, .inl ⟨rfl, rowC_scal (encI_ok .i64) _⟩⟩, ⟨_, _, rfl, rfl, .inl ⟨rfl, rowC_scal encP_ok _⟩⟩, ⟨_, _, rfl, rfl, .inl ⟨rfl, rowC_scal (encI_ok .u8) _⟩⟩, trivial⟩ rfl ?_
              refine XL.conv (f8_2_ok m m e x12_1 x14_1 x30_1 x31_1 lh0_1 lh1_1 lh2_1 (cond (decide ((List.getD lh0_1 (Int.toNat x31_1) 0) > 240)) (w64 ((w64 (List.getD lh0_1 (Int.toNat x31_1) 0)) - 242)) (w64 (((List.getD lh1_1 (Int.toNat x31_1) (0, 0)).1) + (Int.tmod (w64 (List.getD lh0_1 (Int.toNat x31_1) 0)) (w64 ((w64 (((List.getD lh1_1 (Int.toNat x31_1) (0, 0)).2) - ((List.getD lh1_1 (Int.toNat x31_1) (0, 0)).1))) + 1)))))) 0 ((lh2_1.length : Nat) : Int) 0 ((List.getD lh1_1 (Int.toNat x31_1) (0, 0)).1) ((List.getD lh1_1 (Int.toNat x31_1) (0, 0)).2) o2 o2_h _ ?_) (by first | rfl | simp)
              show XQ _ _ _ _ _ _ _ _
              refine XQ.seq E0_ok (by kernel_rfl) ?_
              refine XQ.seq E0_ok (by kernel_rfl) ?_
              refine XQ.region (by kernel_rfl) ?_
              refine XR.run E0_ok 1 2 [4, 8, 11, 12, 13, 14, 16, 17, 18, 29, 30, 31, 72] rfl (σ' := [(4, .int .u8 e), (8, .pointer (some ⟨0, 0, none⟩)), (11, .slice (some ⟨1, 0, none⟩) lh1_1.length lh1_1.length), (12, .int .i64 x12_1), (13, .slice (some ⟨2, 0, none⟩) lh2_1.length lh2_1.length), (14, .int .i64 x14_1), (16, .pointer (some ⟨3, 0, none⟩)), (17, .int .i64 o2.1), (18, .int .i64 o2.2.1), (29, .slice (some ⟨1, 0, none⟩) lh1_1.length lh1_1.length), (30, .int .i64 x30_1), (31, .int .i64 x31_1), (72, .bool (x14_1 == 0))]) (h' := [(3, .cells [.int .i64 o2.2.2.1, .int .i64 o2.2.2.2] 0 61 0), (2, .cells (rowC (encI .i64) lh2_1) 0 3 1), (1, .cells (rowC encP lh1_1) 0 61 2), (0, .cells (rowC (encI .u8) lh0_1) 0 63 0)]) (c' := 4) (by kernel_rfl) ?_
              refine XR.done (by kernel_rfl) ?_
              show XQ _ _ _ _ _ _ _ _
              cases b9 : (x14_1 == 0 : Bool) with
              | true =>
                have h := cT b9 h
                refine XQ.cond (s := (.tmp 72)) (b := true) (by kernel_rfl) (by kernel_rfl) (fun _ => ?_) (fun q => by cases q)
                refine XQ.block (id := 4) (by kernel_rfl) ?_
                refine XQ.seq E0_ok (by kernel_rfl) ?_
                refine XQ.region (by kernel_rfl) ?_
                refine XR.run E0_ok 1 5 [4, 8, 11, 12, 13, 14, 16, 17, 18, 29, 30, 31, 78] rfl (σ' := [(4, .int .u8 e), (8, .pointer (some ⟨0, 0, none⟩)), (11, .slice (some ⟨1, 0, none⟩) lh1_1.length lh1_1.length), (12, .int .i64 x12_1), (13, .slice (some ⟨2, 0, none⟩) lh2_1.length lh2_1.length), (14, .int .i64 x14_1), (16, .pointer (some ⟨3, 0, none⟩)), (17, .int .i64 o2.1), (18, .int .i64 o2.2.1), (29, .slice (some ⟨1, 0, none⟩) lh1_1.length lh1_1.length), (30, .int .i64 x30_1), (31, .int .i64 x31_1), (78, .bool (decide (o2.1 < o2.2.2.1)))]) (h' := [(3, .cells [.int .i64 o2.2.2.1, .int .i64 o2.2.2.2] 0 61 0), (2, .cells (rowC (encI .i64) lh2_1) 0 3 1), (1, .cells (rowC encP lh1_1) 0 61 2), (0, .cells (rowC (encI .u8) lh0_1) 0 63 0)]) (c' := 4) (by kernel_rfl) ?_
                cases b10 : (decide (o2.1 < o2.2.2.1) : Bool) with
                | true =>
                  have h := cT b10 h
                  refine XR.run E0_ok 1 6 [4, 8, 11, 12, 13, 14, 17, 18, 29, 30, 31, 73] rfl (σ' := [(4, .int .u8 e), (8, .pointer (some ⟨0, 0, none⟩)), (11, .slice (some ⟨1, 0, none⟩) lh1_1.length lh1_1.length), (12, .int .i64 x12_1), (13, .slice (some ⟨2, 0, none⟩) lh2_1.length lh2_1.length), (14, .int .i64 x14_1), (17, .int .i64 o2.1), (18, .int .i64 o2.2.1), (29, .slice (some ⟨1, 0, none⟩) lh1_1.length lh1_1.length), (30, .int .i64 x30_1), (31, .int .i64 x31_1), (73, .bool true)]) (h' := [(3, .cells [.int .i64 o2.2.2.1, .int .i64 o2.2.2.2] 0 61 0), (2, .cells (rowC (encI .i64) lh2_1) 0 3 1), (1, .cells (rowC encP lh1_1) 0 61 2), (0, .cells (rowC (encI .u8) lh0_1) 0 63 0)]) (c' := 4) (by kernel_rfl) ?_
                  refine XR.done (by kernel_rfl) ?_
                  show XQ _ _ _ _ _ _ _ _
                  refine XQ.cond (s := (.tmp 73)) (b := true) (by kernel_rfl) (by kernel_rfl) (fun _ => ?_) (fun q => by cases q)
                  refine XQ.region (by kernel_rfl) ?_
                  refine XR.run E0_ok 1 1 [4, 8, 11, 12, 13, 14, 17, 29, 30, 31] rfl (σ' := [(4, .int .u8 e), (8, .pointer (some ⟨0, 0, none⟩)), (11, .slice (some ⟨1, 0, none⟩) lh1_1.length lh1_1.length), (12, .int .i64 x12_1), (13, .slice (some ⟨2, 0, none⟩) lh2_1.length lh2_1.length), (14, .int .i64 1), (17, .int .i64 o2.1), (29, .slice (some ⟨1, 0, none⟩) lh1_1.length lh1_1.length), (30, .int .i64 x30_1), (31, .int .i64 x31_1)]) (h' := [(3, .cells [.int .i64 o2.2.2.1, .int .i64 o2.2.2.2] 0 61 0), (2, .cells (rowC (encI .i64) lh2_1) 0 3 1), (1, .cells (rowC encP lh1_1) 0 61 2), (0, .cells (rowC (encI .u8) lh0_1) 0 63 0)]) (c' := 4) (by kernel_rfl) ?_
                  refine XR.done (by kernel_rfl) ?_
                  show XQ _ _ _ _ _ _ _ _
                  refine XQ.region (by kernel_rfl) ?_
                  refine XR.run E0_ok 1 3 [4, 8, 11, 12, 14, 29, 30, 31, 88, 90] rfl (σ' := [(4, .int .u8 e), (8, .pointer (some ⟨0, 0, none⟩)), (11, .slice (some ⟨1, 0, none⟩) lh1_1.length lh1_1.length), (12, .int .i64 x12_1), (14, .int .i64 1), (29, .slice (some ⟨1, 0, none⟩) lh1_1.length lh1_1.length), (30, .int .i64 x30_1), (31, .int .i64 x31_1), (88, .slice (some ⟨2, 0, none⟩) lh2_1.length lh2_1.length), (90, .slice (some ⟨4, 0, none⟩) 1 1)]) (h' := [(4, .cells [.int .i64 o2.1] 0 3 1), (3, .cells [.int .i64 o2.2.2.1, .int .i64 o2.2.2.2] 0 61 0), (2, .cells (rowC (encI .i64) lh2_1) 0 3 1), (1, .cells (rowC encP lh1_1) 0 61 2), (0, .cells (rowC (encI .u8) lh0_1) 0 63 0)]) (c' := 5) (by kernel_rfl) ?_
                  cases b11 : (fitsB (lh2_1.length + 1) 8 : Bool) with
                  | false => cases (cF b11 h)
                  | true =>
                    have h := cT b11 h
                    refine XR.ef E0_ok [4, 8, 11, 12, 14, 29, 30, 31, 91] rfl (e_append (encI_ok .i64) (bytes := 8) (e := 3) (x := (src 107 (.tmp 88))) (y := (src 107 (.tmp 90))) (b := 2) (len := lh2_1.length) (cap := lh2_1.length) (xs := lh2_1) (m := 0) (ys := [o2.1]) (d := (some (path 12 91))) (n' := (lh2_1 ++ [o2.1]).length) (h' := [(5, .cells (rowC (encI .i64) (lh2_1 ++ [o2.1])) 0 3 1), (4, .cells [.int .i64 o2.1] 0 3 1), (3, .cells [.int .i64 o2.2.2.1, .int .i64 o2.2.2.2] 0 61 0), (1, .cells (rowC encP lh1_1) 0 61 2), (0, .cells (rowC (encI .u8) lh0_1) 0 63 0)]) (by kernel_rfl) (by kernel_rfl) (by kernel_rfl) (by kernel_rfl) rfl (by simp) (by simp) b11 (by simp) (by kernel_rfl)) (σ' := [(4, .int .u8 e), (8, .pointer (some ⟨0, 0, none⟩)), (11, .slice (some ⟨1, 0, none⟩) lh1_1.length lh1_1.length), (12, .int .i64 x12_1), (14, .int .i64 1), (29, .slice (some ⟨1, 0, none⟩) lh1_1.length lh1_1.length), (30, .int .i64 x30_1), (31, .int .i64 x31_1), (91, .slice (some ⟨5, 0, none⟩) ((lh2_1 ++ [o2.1]).length) ((lh2_1 ++ [o2.1]).length))]) (by kernel_rfl) ?_
                    refine XR.run E0_ok 1 1 [4, 8, 11, 12, 13, 14, 29, 30, 31] rfl (σ' := [(4, .int .u8 e), (8, .pointer (some ⟨0, 0, none⟩)), (11, .slice (some ⟨1, 0, none⟩) lh1_1.length lh1_1.length), (12, .int .i64 x12_1), (13, .slice (some ⟨5, 0, none⟩) ((lh2_1 ++ [o2.1]).length) ((lh2_1 ++ [o2.1]).length)), (14, .int .i64 1), (29, .slice (some ⟨1, 0, none⟩) lh1_1.length lh1_1.length), (30, .int .i64 x30_1), (31, .int .i64 x31_1)]) (h' := [(5, .cells (rowC (encI .i64) (lh2_1 ++ [o2.1])) 0 3 1), (4, .cells [.int .i64 o2.1] 0 3 1), (3, .cells [.int .i64 o2.2.2.1, .int .i64 o2.2.2.2] 0 61 0), (1, .cells (rowC encP lh1_1) 0 61 2), (0, .cells (rowC (encI .u8) lh0_1) 0 63 0)]) (c' := 6) (by kernel_rfl) ?_
                    refine XR.done (by kernel_rfl) ?_
                    show XQ _ _ _ _ _ _ _ _
                    refine XQ.region (by kernel_rfl) ?_
                    refine XR.run E0_ok 1 2 [4, 8, 11, 12, 13, 14, 29, 30, 31] rfl (σ' := [(4, .int .u8 e), (8, .pointer (some ⟨0, 0, none⟩)), (11, .slice (some ⟨1, 0, none⟩) lh1_1.length lh1_1.length), (12, .int .i64 x12_1), (13, .slice (some ⟨5, 0, none⟩) ((lh2_1 ++ [o2.1]).length) ((lh2_1 ++ [o2.1]).length)), (14, .int .i64 1), (29, .slice (some ⟨1, 0, none⟩) lh1_1.length lh1_1.length), (30, .int .i64 x30_1), (31, .int .i64 (w64 (x31_1 + 1)))]) (h' := [(5, .cells (rowC (encI .i64) (lh2_1 ++ [o2.1])) 0 3 1), (4, .cells [.int .i64 o2.1] 0 3 1), (3, .cells [.int .i64 o2.2.2.1, .int .i64 o2.2.2.2] 0 61 0), (1, .cells (rowC encP lh1_1) 0 61 2), (0, .cells (rowC (encI .u8) lh0_1) 0 63 0)]) (c' := 6) (by kernel_rfl) ?_
                    refine XR.done (by kernel_rfl) ?_
                    show XL _ _ _ _ _ _ _ _ _
                    refine XL.ren (σ' := [(4, .int .u8 e), (8, .pointer (some ⟨0, 0, none⟩)), (11, .slice (some ⟨1, 0, none⟩) lh1_1.length lh1_1.length), (12, .int .i64 x12_1), (13, .slice (some ⟨2, 0, none⟩) ((lh2_1 ++ [o2.1]).length) ((lh2_1 ++ [o2.1]).length)), (14, .int .i64 1), (29, .slice (some ⟨1, 0, none⟩) lh1_1.length lh1_1.length), (30, .int .i64 x30_1), (31, .int .i64 (w64 (x31_1 + 1)))]) (h' := [(2, .cells (rowC (encI .i64) (lh2_1 ++ [o2.1])) 0 3 1), (1, .cells (rowC encP lh1_1) 0 61 2), (0, .cells (rowC (encI .u8) lh0_1) 0 63 0)]) (c' := 3) [0, 1, 5] (by decide) rfl ⟨by kernel_rfl, by kernel_rfl, by kernel_rfl, by kernel_rfl, by kernel_rfl, by kernel_rfl, by kernel_rfl, by kernel_rfl, by kernel_rfl, trivial⟩ ⟨⟨_, _, rfl, rfl, .inl ⟨rfl, rowC_scal (encI_ok .i64) _⟩⟩, ⟨_, _, rfl, rfl, .inl ⟨rfl, rowC_scal encP_ok _⟩⟩, ⟨_, _, rfl, rfl, .inl ⟨rfl, rowC_scal (encI_ok .u8) _⟩⟩, trivial⟩ rfl ?_
                    refine XL.conv (f8_1_ok m fuel e x12_1 1 x30_1 (w64 (x31_1 + 1)) lh0_1 lh1_1 (lh2_1 ++ [o2.1]) o h Q hQ) (by first | rfl | simp)
                | false =>
                  have h := cF b10 h
                  refine XR.run E0_ok 1 6 [4, 8, 11, 12, 13, 14, 17, 18, 29, 30, 31, 73] rfl (σ' := [(4, .int .u8 e), (8, .pointer (some ⟨0, 0, none⟩)), (11, .slice (some ⟨1, 0, none⟩) lh1_1.length lh1_1.length), (12, .int .i64 x12_1), (13, .slice (some ⟨2, 0, none⟩) lh2_1.length lh2_1.length), (14, .int .i64 x14_1), (17, .int .i64 o2.1), (18, .int .i64 o2.2.1), (29, .slice (some ⟨1, 0, none⟩) lh1_1.length lh1_1.length), (30, .int .i64 x30_1), (31, .int .i64 x31_1), (73, .bool (decide (o2.1 > o2.2.2.2)))]) (h' := [(3, .cells [.int .i64 o2.2.2.1, .int .i64 o2.2.2.2] 0 61 0), (2, .cells (rowC (encI .i64) lh2_1) 0 3 1), (1, .cells (rowC encP lh1_1) 0 61 2), (0, .cells (rowC (encI .u8) lh0_1) 0 63 0)]) (c' := 4) (by kernel_rfl) ?_
                  refine XR.done (by kernel_rfl) ?_
                  show XQ _ _ _ _ _ _ _ _
                  refine XQ.meetC (σ' := [(4, .int .u8 e), (8, .pointer (some ⟨0, 0, none⟩)), (11, .slice (some ⟨1, 0, none⟩) lh1_1.length lh1_1.length), (12, .int .i64 x12_1), (13, .slice (some ⟨2, 0, none⟩) lh2_1.length lh2_1.length), (14, .int .i64 (cond (decide (o2.1 > o2.2.2.2)) 1 (cond (decide (o2.2.1 ≥ x12_1)) 15 x14_1))), (17, .int .i64 o2.1), (29, .slice (some ⟨1, 0, none⟩) lh1_1.length lh1_1.length), (30, .int .i64 x30_1), (31, .int .i64 x31_1)]) (h' := [(3, .cells [.int .i64 o2.2.2.1, .int .i64 o2.2.2.2] 0 61 0), (2, .cells (rowC (encI .i64) lh2_1) 0 3 1), (1, .cells (rowC encP lh1_1) 0 61 2), (0, .cells (rowC (encI .u8) lh0_1) 0 63 0)]) (c' := 4) ?_ ?_
                  rotate_left
                  · refine XQ.cond (s := (.tmp 73)) (b := decide (o2.1 > o2.2.2.2)) (by kernel_rfl) (by kernel_rfl) (fun b12 => ?_) (fun b12 => ?_)
                    · refine XQ.region (by kernel_rfl) ?_
                      refine XR.run E0_ok 1 1 [4, 8, 11, 12, 13, 14, 17, 29, 30, 31] rfl (σ' := [(4, .int .u8 e), (8, .pointer (some ⟨0, 0, none⟩)), (11, .slice (some ⟨1, 0, none⟩) lh1_1.length lh1_1.length), (12, .int .i64 x12_1), (13, .slice (some ⟨2, 0, none⟩) lh2_1.length lh2_1.length), (14, .int .i64 1), (17, .int .i64 o2.1), (29, .slice (some ⟨1, 0, none⟩) lh1_1.length lh1_1.length), (30, .int .i64 x30_1), (31, .int .i64 x31_1)]) (h' := [(3, .cells [.int .i64 o2.2.2.1, .int .i64 o2.2.2.2] 0 61 0), (2, .cells (rowC (encI .i64) lh2_1) 0 3 1), (1, .cells (rowC encP lh1_1) 0 61 2), (0, .cells (rowC (encI .u8) lh0_1) 0 63 0)]) (c' := 4) (by kernel_rfl) ?_
                      refine XR.done (by kernel_rfl) ?_
                      refine ⟨rfl, ?_, ?_⟩
                      · try rw [b12]
                        exact ⟨by kernel_rfl, by kernel_rfl, by kernel_rfl, by kernel_rfl, by kernel_rfl, by kernel_rfl, by kernel_rfl, by kernel_rfl, by kernel_rfl, by kernel_rfl, trivial⟩
                      · try rw [b12]
                        kernel_rfl
                    · refine XQ.seq E0_ok (by kernel_rfl) ?_
                      refine XQ.region (by kernel_rfl) ?_
                      refine XR.run E0_ok 1 4 [4, 8, 11, 12, 13, 14, 17, 29, 30, 31, 84] rfl (σ' := [(4, .int .u8 e), (8, .pointer (some ⟨0, 0, none⟩)), (11, .slice (some ⟨1, 0, none⟩) lh1_1.length lh1_1.length), (12, .int .i64 x12_1), (13, .slice (some ⟨2, 0, none⟩) lh2_1.length lh2_1.length), (14, .int .i64 x14_1), (17, .int .i64 o2.1), (29, .slice (some ⟨1, 0, none⟩) lh1_1.length lh1_1.length), (30, .int .i64 x30_1), (31, .int .i64 x31_1), (84, .bool (decide (o2.2.1 ≥ x12_1)))]) (h' := [(3, .cells [.int .i64 o2.2.2.1, .int .i64 o2.2.2.2] 0 61 0), (2, .cells (rowC (encI .i64) lh2_1) 0 3 1), (1, .cells (rowC encP lh1_1) 0 61 2), (0, .cells (rowC (encI .u8) lh0_1) 0 63 0)]) (c' := 4) (by kernel_rfl) ?_
                      refine XR.done (by kernel_rfl) ?_
                      show XQ _ _ _ _ _ _ _ _
                      refine XQ.meetC (σ' := [(4, .int .u8 e), (8, .pointer (some ⟨0, 0, none⟩)), (11, .slice (some ⟨1, 0, none⟩) lh1_1.length lh1_1.length), (12, .int .i64 x12_1), (13, .slice (some ⟨2, 0, none⟩) lh2_1.length lh2_1.length), (14, .int .i64 (cond (decide (o2.2.1 ≥ x12_1)) 15 x14_1)), (17, .int .i64 o2.1), (29, .slice (some ⟨1, 0, none⟩) lh1_1.length lh1_1.length), (30, .int .i64 x30_1), (31, .int .i64 x31_1)]) (h' := [(3, .cells [.int .i64 o2.2.2.1, .int .i64 o2.2.2.2] 0 61 0), (2, .cells (rowC (encI .i64) lh2_1) 0 3 1), (1, .cells (rowC encP lh1_1) 0 61 2), (0, .cells (rowC (encI .u8) lh0_1) 0 63 0)]) (c' := 4) ?_ ?_
                      rotate_left
                      · refine XQ.cond (s := (.tmp 84)) (b := decide (o2.2.1 ≥ x12_1)) (by kernel_rfl) (by kernel_rfl) (fun b12 => ?_) (fun b12 => ?_)
                        · refine XQ.region (by kernel_rfl) ?_
                          refine XR.run E0_ok 1 1 [4, 8, 11, 12, 13, 14, 17, 29, 30, 31] rfl (σ' := [(4, .int .u8 e), (8, .pointer (some ⟨0, 0, none⟩)), (11, .slice (some ⟨1, 0, none⟩) lh1_1.length lh1_1.length), (12, .int .i64 x12_1), (13, .slice (some ⟨2, 0, none⟩) lh2_1.length lh2_1.length), (14, .int .i64 15), (17, .int .i64 o2.1), (29, .slice (some ⟨1, 0, none⟩) lh1_1.length lh1_1.length), (30, .int .i64 x30_1), (31, .int .i64 x31_1)]) (h' := [(3, .cells [.int .i64 o2.2.2.1, .int .i64 o2.2.2.2] 0 61 0), (2, .cells (rowC (encI .i64) lh2_1) 0 3 1), (1, .cells (rowC encP lh1_1) 0 61 2), (0, .cells (rowC (encI .u8) lh0_1) 0 63 0)]) (c' := 4) (by kernel_rfl) ?_
                          refine XR.done (by kernel_rfl) ?_
                          refine ⟨rfl, ?_, ?_⟩
                          · try rw [b12]
                            exact ⟨by kernel_rfl, by kernel_rfl, by kernel_rfl, by kernel_rfl, by kernel_rfl, by kernel_rfl, by kernel_rfl, by kernel_rfl, by kernel_rfl, by kernel_rfl, trivial⟩
                          · try rw [b12]
                            kernel_rfl
                        · refine XQ.skip (by kernel_rfl) ?_
                          refine ⟨rfl, ?_, ?_⟩
                          · try rw [b12]
                            exact ⟨by kernel_rfl, by kernel_rfl, by kernel_rfl, by kernel_rfl, by kernel_rfl, by kernel_rfl, by kernel_rfl, by kernel_rfl, by kernel_rfl, by kernel_rfl, trivial⟩
                          · try rw [b12]
                            kernel_rfl
                      refine ⟨rfl, ?_, ?_⟩
                      · try rw [b12]
                        exact ⟨by kernel_rfl, by kernel_rfl, by kernel_rfl, by kernel_rfl, by kernel_rfl, by kernel_rfl, by kernel_rfl, by kernel_rfl, by kernel_rfl, by kernel_rfl, trivial⟩
                      · try rw [b12]
                        kernel_rfl
                  show XQ _ _ _ _ _ _ _ _
                  refine XQ.region (by kernel_rfl) ?_
                  refine XR.run E0_ok 1 3 [4, 8, 11, 12, 14, 29, 30, 31, 88, 90] rfl (σ' := [(4, .int .u8 e), (8, .pointer (some ⟨0, 0, none⟩)), (11, .slice (some ⟨1, 0, none⟩) lh1_1.length lh1_1.length), (12, .int .i64 x12_1), (14, .int .i64 (cond (decide (o2.1 > o2.2.2.2)) 1 (cond (decide (o2.2.1 ≥ x12_1)) 15 x14_1))), (29, .slice (some ⟨1, 0, none⟩) lh1_1.length lh1_1.length), (30, .int .i64 x30_1), (31, .int .i64 x31_1), (88, .slice (some ⟨2, 0, none⟩) lh2_1.length lh2_1.length), (90, .slice (some ⟨4, 0, none⟩) 1 1)]) (h' := [(4, .cells [.int .i64 o2.1] 0 3 1), (3, .cells [.int .i64 o2.2.2.1, .int .i64 o2.2.2.2] 0 61 0), (2, .cells (rowC (encI .i64) lh2_1) 0 3 1), (1, .cells (rowC encP lh1_1) 0 61 2), (0, .cells (rowC (encI .u8) lh0_1) 0 63 0)]) (c' := 5) (by kernel_rfl) ?_
                  cases b13 : (fitsB (lh2_1.length + 1) 8 : Bool) with
                  | false => cases (cF b13 h)
                  | true =>
                    have h := cT b13 h
                    refine XR.ef E0_ok [4, 8, 11, 12, 14, 29, 30, 31, 91] rfl (e_append (encI_ok .i64) (bytes := 8) (e := 3) (x := (src 107 (.tmp 88))) (y := (src 107 (.tmp 90))) (b := 2) (len := lh2_1.length) (cap := lh2_1.length) (xs := lh2_1) (m := 0) (ys := [o2.1]) (d := (some (path 12 91))) (n' := (lh2_1 ++ [o2.1]).length) (h' := [(5, .cells (rowC (encI .i64) (lh2_1 ++ [o2.1])) 0 3 1), (4, .cells [.int .i64 o2.1] 0 3 1), (3, .cells [.int .i64 o2.2.2.1, .int .i64 o2.2.2.2] 0 61 0), (1, .cells (rowC encP lh1_1) 0 61 2), (0, .cells (rowC (encI .u8) lh0_1) 0 63 0)]) (by kernel_rfl) (by kernel_rfl) (by kernel_rfl) (by kernel_rfl) rfl (by simp) (by simp) b13 (by simp) (by kernel_rfl)) (σ' := [(4, .int .u8 e), (8, .pointer (some ⟨0, 0, none⟩)), (11, .slice (some ⟨1, 0, none⟩) lh1_1.length lh1_1.length), (12, .int .i64 x12_1), (14, .int .i64 (cond (decide (o2.1 > o2.2.2.2)) 1 (cond (decide (o2.2.1 ≥ x12_1)) 15 x14_1))), (29, .slice (some ⟨1, 0, none⟩) lh1_1.length lh1_1.length), (30, .int .i64 x30_1), (31, .int .i64 x31_1), (91, .slice (some ⟨5, 0, none⟩) ((lh2_1 ++ [o2.1]).length) ((lh2_1 ++ [o2.1]).length))]) (by kernel_rfl) ?_
                    refine XR.run E0_ok 1 1 [4, 8, 11, 12, 13, 14, 29, 30, 31] rfl (σ' := [(4, .int .u8 e), (8, .pointer (some ⟨0, 0, none⟩)), (11, .slice (some ⟨1, 0, none⟩) lh1_1.length lh1_1.length), (12, .int .i64 x12_1), (13, .slice (some ⟨5, 0, none⟩) ((lh2_1 ++ [o2.1]).length) ((lh2_1 ++ [o2.1]).length)), (14, .int .i64 (cond (decide (o2.1 > o2.2.2.2)) 1 (cond (decide (o2.2.1 ≥ x12_1)) 15 x14_1))), (29, .slice (some ⟨1, 0, none⟩) lh1_1.length lh1_1.length), (30, .int .i64 x30_1), (31, .int .i64 x31_1)]) (h' := [(5, .cells (rowC (encI .i64) (lh2_1 ++ [o2.1])) 0 3 1), (4, .cells [.int .i64 o2.1] 0 3 1), (3, .cells [.int .i64 o2.2.2.1, .int .i64 o2.2.2.2] 0 61 0), (1, .cells (rowC encP lh1_1) 0 61 2), (0, .cells (rowC (encI .u8) lh0_1) 0 63 0)]) (c' := 6) (by kernel_rfl) ?_
                    refine XR.done (by kernel_rfl) ?_
                    show XQ _ _ _ _ _ _ _ _
                    refine XQ.region (by kernel_rfl) ?_
                    refine XR.run E0_ok 1 2 [4, 8, 11, 12, 13, 14, 29, 30, 31] rfl (σ' := [(4, .int .u8 e), (8, .pointer (some ⟨0, 0, none⟩)), (11, .slice (some ⟨1, 0, none⟩) lh1_1.length lh1_1.length), (12, .int .i64 x12_1), (13, .slice (some ⟨5, 0, none⟩) ((lh2_1 ++ [o2.1]).length) ((lh2_1 ++ [o2.1]).length)), (14, .int .i64 (cond (decide (o2.1 > o2.2.2.2)) 1 (cond (decide (o2.2.1 ≥ x12_1)) 15 x14_1))), (29, .slice (some ⟨1, 0, none⟩) lh1_1.length lh1_1.length), (30, .int .i64 x30_1), (31, .int .i64 (w64 (x31_1 + 1)))]) (h' := [(5, .cells (rowC (encI .i64) (lh2_1 ++ [o2.1])) 0 3 1), (4, .cells [.int .i64 o2.1] 0 3 1), (3, .cells [.int .i64 o2.2.2.1, .int .i64 o2.2.2.2] 0 61 0), (1, .cells (rowC encP lh1_1) 0 61 2), (0, .cells (rowC (encI .u8) lh0_1) 0 63 0)]) (c' := 6) (by kernel_rfl) ?_
                    refine XR.done (by kernel_rfl) ?_
                    show XL _ _ _ _ _ _ _ _ _
                    refine XL.ren (σ' := [(4, .int .u8 e), (8, .pointer (some ⟨0, 0, none⟩)), (11, .slice (some ⟨1, 0, none⟩) lh1_1.length lh1_1.length), (12, .int .i64 x12_1), (13, .slice (some ⟨2, 0, none⟩) ((lh2_1 ++ [o2.1]).length) ((lh2_1 ++ [o2.1]).length)), (14, .int .i64 (cond (decide (o2.1 > o2.2.2.2)) 1 (cond (decide (o2.2.1 ≥ x12_1)) 15 x14_1))), (29, .slice (some ⟨1, 0, none⟩) lh1_1.length lh1_1.length), (30, .int .i64 x30_1), (31, .int .i64 (w64 (x31_1 + 1)))]) (h' := [(2, .cells (rowC (encI .i64) (lh2_1 ++ [o2.1])) 0 3 1), (1, .cells (rowC encP lh1_1) 0 61 2), (0, .cells (rowC (encI .u8) lh0_1) 0 63 0)]) (c' := 3) [0, 1, 5] (by decide) rfl ⟨by kernel_rfl, by kernel_rfl, by kernel_rfl, by kernel_rfl, by kernel_rfl, by kernel_rfl, by kernel_rfl, by kernel_rfl, by kernel_rfl, trivial⟩ ⟨⟨_, _, rfl, rfl, .inl ⟨rfl, rowC_scal (encI_ok .i64) _⟩⟩, ⟨_, _, rfl, rfl, .inl ⟨rfl, rowC_scal encP_ok _⟩⟩, ⟨_, _, rfl, rfl, .inl ⟨rfl, rowC_scal (encI_ok .u8) _⟩⟩, trivial⟩ rfl ?_
                    refine XL.conv (f8_1_ok m fuel e x12_1 (cond (decide (o2.1 > o2.2.2.2)) 1 (cond (decide (o2.2.1 ≥ x12_1)) 15 x14_1)) x30_1 (w64 (x31_1 + 1)) lh0_1 lh1_1 (lh2_1 ++ [o2.1]) o h Q hQ) (by first | rfl | simp)
              | false =>
                have h := cF b9 h
                refine XQ.cond (s := (.tmp 72)) (b := false) (by kernel_rfl) (by kernel_rfl) (fun q => by cases q) (fun _ => ?_)
                refine XQ.skip (by kernel_rfl) ?_
                show XQ _ _ _ _ _ _ _ _
                refine XQ.region (by kernel_rfl) ?_
                refine XR.run E0_ok 1 3 [4, 8, 11, 12, 14, 29, 30, 31, 88, 90] rfl (σ' := [(4, .int .u8 e), (8, .pointer (some ⟨0, 0, none⟩)), (11, .slice (some ⟨1, 0, none⟩) lh1_1.length lh1_1.length), (12, .int .i64 x12_1), (14, .int .i64 x14_1), (29, .slice (some ⟨1, 0, none⟩) lh1_1.length lh1_1.length), (30, .int .i64 x30_1), (31, .int .i64 x31_1), (88, .slice (some ⟨2, 0, none⟩) lh2_1.length lh2_1.length), (90, .slice (some ⟨4, 0, none⟩) 1 1)]) (h' := [(4, .cells [.int .i64 o2.1] 0 3 1), (3, .cells [.int .i64 o2.2.2.1, .int .i64 o2.2.2.2] 0 61 0), (2, .cells (rowC (encI .i64) lh2_1) 0 3 1), (1, .cells (rowC encP lh1_1) 0 61 2), (0, .cells (rowC (encI .u8) lh0_1) 0 63 0)]) (c' := 5) (by kernel_rfl) ?_
                cases b14 : (fitsB (lh2_1.length + 1) 8 : Bool) with
                | false => cases (cF b14 h)
                | true =>
                  have h := cT b14 h
                  refine XR.ef E0_ok [4, 8, 11, 12, 14, 29, 30, 31, 91] rfl (e_append (encI_ok .i64) (bytes := 8) (e := 3) (x := (src 107 (.tmp 88))) (y := (src 107 (.tmp 90))) (b := 2) (len := lh2_1.length) (cap := lh2_1.length) (xs := lh2_1) (m := 0) (ys := [o2.1]) (d := (some (path 12 91))) (n' := (lh2_1 ++ [o2.1]).length) (h' := [(5, .cells (rowC (encI .i64) (lh2_1 ++ [o2.1])) 0 3 1), (4, .cells [.int .i64 o2.1] 0 3 1), (3, .cells [.int .i64 o2.2.2.1, .int .i64 o2.2.2.2] 0 61 0), (1, .cells (rowC encP lh1_1) 0 61 2), (0, .cells (rowC (encI .u8) lh0_1) 0 63 0)]) (by kernel_rfl) (by kernel_rfl) (by kernel_rfl) (by kernel_rfl) rfl (by simp) (by simp) b14 (by simp) (by kernel_rfl)) (σ' := [(4, .int .u8 e), (8, .pointer (some ⟨0, 0, none⟩)), (11, .slice (some ⟨1, 0, none⟩) lh1_1.length lh1_1.length), (12, .int .i64 x12_1), (14, .int .i64 x14_1), (29, .slice (some ⟨1, 0, none⟩) lh1_1.length lh1_1.length), (30, .int .i64 x30_1), (31, .int .i64 x31_1), (91, .slice (some ⟨5, 0, none⟩) ((lh2_1 ++ [o2.1]).length) ((lh2_1 ++ [o2.1]).length))]) (by kernel_rfl) ?_
                  refine XR.run E0_ok 1 1 [4, 8, 11, 12, 13, 14, 29, 30, 31] rfl (σ' := [(4, .int .u8 e), (8, .pointer (some ⟨0, 0, none⟩)), (11, .slice (some ⟨1, 0, none⟩) lh1_1.length lh1_1.length), (12, .int .i64 x12_1), (13, .slice (some ⟨5, 0, none⟩) ((lh2_1 ++ [o2.1]).length) ((lh2_1 ++ [o2.1]).length)), (14, .int .i64 x14_1), (29, .slice (some ⟨1, 0, none⟩) lh1_1.length lh1_1.length), (30, .int .i64 x30_1), (31, .int .i64 x31_1)]) (h' := [(5, .cells (rowC (encI .i64) (lh2_1 ++ [o2.1])) 0 3 1), (4, .cells [.int .i64 o2.1] 0 3 1), (3, .cells [.int .i64 o2.2.2.1, .int .i64 o2.2.2.2] 0 61 0), (1, .cells (rowC encP lh1_1) 0 61 2), (0, .cells (rowC (encI .u8) lh0_1) 0 63 0)]) (c' := 6) (by kernel_rfl) ?_
                  refine XR.done (by kernel_rfl) ?_
                  show XQ _ _ _ _ _ _ _ _
                  refine XQ.region (by kernel_rfl) ?_
                  refine XR.run E0_ok 1 2 [4, 8, 11, 12, 13, 14, 29, 30, 31] rfl (σ' := [(4, .int .u8 e), (8, .pointer (some ⟨0, 0, none⟩)), (11, .slice (some ⟨1, 0, none⟩) lh1_1.length lh1_1.length), (12, .int .i64 x12_1), (13, .slice (some ⟨5, 0, none⟩) ((lh2_1 ++ [o2.1]).length) ((lh2_1 ++ [o2.1]).length)), (14, .int .i64 x14_1), (29, .slice (some ⟨1, 0, none⟩) lh1_1.length lh1_1.length), (30, .int .i64 x30_1), (31, .int .i64 (w64 (x31_1 + 1)))]) (h' := [(5, .cells (rowC (encI .i64) (lh2_1 ++ [o2.1])) 0 3 1), (4, .cells [.int .i64 o2.1] 0 3 1), (3, .cells [.int .i64 o2.2.2.1, .int .i64 o2.2.2.2] 0 61 0), (1, .cells (rowC encP lh1_1) 0 61 2), (0, .cells (rowC (encI .u8) lh0_1) 0 63 0)]) (c' := 6) (by kernel_rfl) ?_
                  refine XR.done (by kernel_rfl) ?_
                  show XL _ _ _ _ _ _ _ _ _
                  refine XL.ren (σ' := [(4, .int .u8 e), (8, .pointer (some ⟨0, 0, none⟩)), (11, .slice (some ⟨1, 0, none⟩) lh1_1.length lh1_1.length), (12, .int .i64 x12_1), (13, .slice (some ⟨2, 0, none⟩) ((lh2_1 ++ [o2.1]).length) ((lh2_1 ++ [o2.1]).length)), (14, .int .i64 x14_1), (29, .slice (some ⟨1, 0, none⟩) lh1_1.length lh1_1.length), (30, .int .i64 x30_1), (31, .int .i64 (w64 (x31_1 + 1)))]) (h' := [(2, .cells (rowC (encI .i64) (lh2_1 ++ [o2.1])) 0 3 1), (1, .cells (rowC encP lh1_1) 0 61 2), (0, .cells (rowC (encI .u8) lh0_1) 0 63 0)]) (c' := 3) [0, 1, 5] (by decide) rfl ⟨by kernel_rfl, by kernel_rfl, by kernel_rfl, by kernel_rfl, by kernel_rfl, by kernel_rfl, by kernel_rfl, by kernel_rfl, by kernel_rfl, trivial⟩ ⟨⟨_, _, rfl, rfl, .inl ⟨rfl, rowC_scal (encI_ok .i64) _⟩⟩, ⟨_, _, rfl, rfl, .inl ⟨rfl, rowC_scal encP_ok _⟩⟩, ⟨_, _, rfl, rfl, .inl ⟨rfl, rowC_scal (encI_ok .u8) _⟩⟩, trivial⟩ rfl ?_
                  refine XL.conv (f8_1_ok m fuel e x12_1 x14_1 x30_1 (w64 (x31_1 + 1)) lh0_1 lh1_1 (lh2_1 ++ [o2.1]) o h Q hQ) (by first | rfl | simp)
    | false =>
      have h := cF b1 h
      refine XQ.cond (s := (.tmp 32)) (b := false) (by kernel_rfl) (by kernel_rfl) (fun q => by cases q) (fun _ => ?_)
      refine XQ.ren (σ' := [(4, .int .u8 e), (11, .slice (some ⟨0, 0, none⟩) lh1_1.length lh1_1.length), (12, .int .i64 x12_1), (13, .slice (some ⟨1, 0, none⟩) lh2_1.length lh2_1.length), (14, .int .i64 x14_1)]) (h' := [(1, .cells (rowC (encI .i64) lh2_1) 0 3 1), (0, .cells (rowC encP lh1_1) 0 61 2)]) (c' := 2) [1, 2] (by decide) rfl ⟨by kernel_rfl, by kernel_rfl, by kernel_rfl, by kernel_rfl, by kernel_rfl, trivial⟩ ⟨⟨_, _, rfl, rfl, .inl ⟨rfl, rowC_scal (encI_ok .i64) _⟩⟩, ⟨_, _, rfl, rfl, .inl ⟨rfl, rowC_scal encP_ok _⟩⟩, trivial⟩ rfl ?_
      refine XQ.exit (i := 0) (by kernel_rfl) ?_
      cases h
      exact hQ

def f8 (m : Nat) (a_0_0 : Int) (a_0_1 : Int) (a_1_0 : Int) (a_1_1 : Int) (a_2_0 : Int) (a_2_1 : Int) (a_3_0 : Int) (a_3_1 : Int) (a_4_0 : Int) (a_4_1 : Int) (a_5_0 : Int) (a_5_1 : Int) (a_6_0 : Int) (a_6_1 : Int) (a_7_0 : Int) (a_7_1 : Int) (b : Int) (c : Int) (d_0 : Int) (d_1 : Int) (d_2 : Int) (d_3 : Int) (d_4 : Int) (d_5 : Int) (d_6 : Int) (d_7 : Int) (e : Int) : Option (Bool) :=
  (f41 m a_0_0 a_0_1 a_1_0 a_1_1 a_2_0 a_2_1 a_3_0 a_3_1 a_4_0 a_4_1 a_5_0 a_5_1 a_6_0 a_6_1 a_7_0 a_7_1 (w64 b) 8 10 0).bind fun r1 =>
    (f8_1 m m e (w64 (1 + (Int.tmod (w64 c) 3))) 0 ((r1.length : Nat) : Int) 0 [d_0, d_1, d_2, d_3, d_4, d_5, d_6, d_7] r1 []).bind fun o1 =>
      cond (decide (e > 240)) (
        cond (fitsB (o1.2.2.2.length + 1) 8) (
          (f21 m o1.2.2.1 o1.1 (o1.2.2.2 ++ [0])).bind fun r2 =>
            cond (r2 == 5) (
              some (true)
            ) (
              some (false)
            )
        ) none
      ) (
        (f21 m o1.2.2.1 o1.1 o1.2.2.2).bind fun r3 =>
          cond (r3 == o1.2.1) (
            some (true)
          ) (
            some (false)
          )
      )

theorem f8_ok (m : Nat) (a_0_0 : Int) (a_0_1 : Int) (a_1_0 : Int) (a_1_1 : Int) (a_2_0 : Int) (a_2_1 : Int) (a_3_0 : Int) (a_3_1 : Int) (a_4_0 : Int) (a_4_1 : Int) (a_5_0 : Int) (a_5_1 : Int) (a_6_0 : Int) (a_6_1 : Int) (a_7_0 : Int) (a_7_1 : Int) (b : Int) (c : Int) (d_0 : Int) (d_1 : Int) (d_2 : Int) (d_3 : Int) (d_4 : Int) (d_5 : Int) (d_6 : Int) (d_7 : Int) (e : Int) (o : Bool) (h : f8 m a_0_0 a_0_1 a_1_0 a_1_1 a_2_0 a_2_1 a_3_0 a_3_1 a_4_0 a_4_1 a_5_0 a_5_1 a_6_0 a_6_1 a_7_0 a_7_1 b c d_0 d_1 d_2 d_3 d_4 d_5 d_6 d_7 e = some o) (w : World) (hI : anyInv w) : Calls Proofs.Try.prog 8 #[.agg #[.int .u8 a_0_0, .int .u8 a_0_1, .int .u8 a_1_0, .int .u8 a_1_1, .int .u8 a_2_0, .int .u8 a_2_1, .int .u8 a_3_0, .int .u8 a_3_1, .int .u8 a_4_0, .int .u8 a_4_1, .int .u8 a_5_0, .int .u8 a_5_1, .int .u8 a_6_0, .int .u8 a_6_1, .int .u8 a_7_0, .int .u8 a_7_1], .int .u8 b, .int .u8 c, .agg #[.int .u8 d_0, .int .u8 d_1, .int .u8 d_2, .int .u8 d_3, .int .u8 d_4, .int .u8 d_5, .int .u8 d_6, .int .u8 d_7], .int .u8 e] w fun e w' => e = .returned (.bool o) ∧ Below w.heap.size w w' := by
  refine KC.calls (E := E0) (args := [.agg #[.int .u8 a_0_0, .int .u8 a_0_1, .int .u8 a_1_0, .int .u8 a_1_1, .int .u8 a_2_0, .int .u8 a_2_1, .int .u8 a_3_0, .int .u8 a_3_1, .int .u8 a_4_0, .int .u8 a_4_1, .int .u8 a_5_0, .int .u8 a_5_1, .int .u8 a_6_0, .int .u8 a_6_1, .int .u8 a_7_0, .int .u8 a_7_1], .int .u8 b, .int .u8 c, .agg #[.int .u8 d_0, .int .u8 d_1, .int .u8 d_2, .int .u8 d_3, .int .u8 d_4, .int .u8 d_5, .int .u8 d_6, .int .u8 d_7], .int .u8 e]) (v := .bool o) rfl rfl (KC.bodyN E0_ok (F := Proofs.Try.f8) (by kernel_rfl) (code := f8_C8) (by kernel_rfl) (nt := 107) (by kernel_rfl) (rs := [.tmp 10]) (by kernel_rfl) (by kernel_rfl) (σ := [(0, .agg #[.int .u8 a_0_0, .int .u8 a_0_1, .int .u8 a_1_0, .int .u8 a_1_1, .int .u8 a_2_0, .int .u8 a_2_1, .int .u8 a_3_0, .int .u8 a_3_1, .int .u8 a_4_0, .int .u8 a_4_1, .int .u8 a_5_0, .int .u8 a_5_1, .int .u8 a_6_0, .int .u8 a_6_1, .int .u8 a_7_0, .int .u8 a_7_1]), (1, .int .u8 b), (2, .int .u8 c), (3, .agg #[.int .u8 d_0, .int .u8 d_1, .int .u8 d_2, .int .u8 d_3, .int .u8 d_4, .int .u8 d_5, .int .u8 d_6, .int .u8 d_7]), (4, .int .u8 e)]) (by kernel_rfl) ?_) w (anyInv_size hI) hI
  unfold f8 at h
  refine XQ.seq E0_ok (by kernel_rfl) ?_
  refine XQ.region (by kernel_rfl) ?_
  refine XR.run E0_ok 1 3 [1, 2, 4, 5, 8] rfl (σ' := [(1, .int .u8 b), (2, .int .u8 c), (4, .int .u8 e), (5, .pointer (some ⟨0, 0, none⟩)), (8, .pointer (some ⟨1, 0, none⟩))]) (h' := [(1, .cells [.int .u8 d_0, .int .u8 d_1, .int .u8 d_2, .int .u8 d_3, .int .u8 d_4, .int .u8 d_5, .int .u8 d_6, .int .u8 d_7] 0 63 0), (0, .cells [.int .u8 a_0_0, .int .u8 a_0_1, .int .u8 a_1_0, .int .u8 a_1_1, .int .u8 a_2_0, .int .u8 a_2_1, .int .u8 a_3_0, .int .u8 a_3_1, .int .u8 a_4_0, .int .u8 a_4_1, .int .u8 a_5_0, .int .u8 a_5_1, .int .u8 a_6_0, .int .u8 a_6_1, .int .u8 a_7_0, .int .u8 a_7_1] 0 56 0)]) (c' := 2) (by kernel_rfl) ?_
  refine XR.done (by kernel_rfl) ?_
  show XQ _ _ _ _ _ _ _ _
  refine XQ.seq E0_ok (by kernel_rfl) ?_
  refine XQ.region (by kernel_rfl) ?_
  refine XR.run E0_ok 1 3 [2, 4, 8, 21, 23] rfl (σ' := [(2, .int .u8 c), (4, .int .u8 e), (8, .pointer (some ⟨1, 0, none⟩)), (21, .agg #[.int .u8 a_0_0, .int .u8 a_0_1, .int .u8 a_1_0, .int .u8 a_1_1, .int .u8 a_2_0, .int .u8 a_2_1, .int .u8 a_3_0, .int .u8 a_3_1, .int .u8 a_4_0, .int .u8 a_4_1, .int .u8 a_5_0, .int .u8 a_5_1, .int .u8 a_6_0, .int .u8 a_6_1, .int .u8 a_7_0, .int .u8 a_7_1]), (23, .int .i64 (w64 b))]) (h' := [(1, .cells [.int .u8 d_0, .int .u8 d_1, .int .u8 d_2, .int .u8 d_3, .int .u8 d_4, .int .u8 d_5, .int .u8 d_6, .int .u8 d_7] 0 63 0), (0, .cells [.int .u8 a_0_0, .int .u8 a_0_1, .int .u8 a_1_0, .int .u8 a_1_1, .int .u8 a_2_0, .int .u8 a_2_1, .int .u8 a_3_0, .int .u8 a_3_1, .int .u8 a_4_0, .int .u8 a_4_1, .int .u8 a_5_0, .int .u8 a_5_1, .int .u8 a_6_0, .int .u8 a_6_1, .int .u8 a_7_0, .int .u8 a_7_1] 0 56 0)]) (c' := 2) (by kernel_rfl) ?_
  obtain ⟨r1, r1_h, h⟩ := bS h
  refine XR.call E0_ok [2, 4, 8, 24] rfl (K := 41) (args := [.agg #[.int .u8 a_0_0, .int .u8 a_0_1, .int .u8 a_1_0, .int .u8 a_1_1, .int .u8 a_2_0, .int .u8 a_2_1, .int .u8 a_3_0, .int .u8 a_3_1, .int .u8 a_4_0, .int .u8 a_4_1, .int .u8 a_5_0, .int .u8 a_5_1, .int .u8 a_6_0, .int .u8 a_6_1, .int .u8 a_7_0, .int .u8 a_7_1], .int .i64 (w64 b), .int .i64 8, .int .i64 10, .int .i64 0]) (d := (some (path 12 24))) (by kernel_rfl) (KC.lift (V2 := .slice (some ⟨2, 0, none⟩) r1.length r1.length) (H2 := [(2, .cells (rowC encP r1) 0 61 2)]) [1, 2, 0] (f41_ok m a_0_0 a_0_1 a_1_0 a_1_1 a_2_0 a_2_1 a_3_0 a_3_1 a_4_0 a_4_1 a_5_0 a_5_1 a_6_0 a_6_1 a_7_0 a_7_1 (w64 b) 8 10 0 r1 r1_h) rfl (by decide) (by decide) (by kernel_rfl) ⟨⟨_, _, rfl, rfl, .inl ⟨rfl, rowC_scal encP_ok _⟩⟩, trivial⟩ (by rfl)) ?_
  rintro _ _ _ ⟨rfl, rfl, rfl⟩
  refine XR.conv (σ' := [(2, .int .u8 c), (4, .int .u8 e), (8, .pointer (some ⟨1, 0, none⟩)), (24, .slice (some ⟨2, 0, none⟩) r1.length r1.length)]) (h' := [(2, .cells (rowC encP r1) 0 61 2), (1, .cells [.int .u8 d_0, .int .u8 d_1, .int .u8 d_2, .int .u8 d_3, .int .u8 d_4, .int .u8 d_5, .int .u8 d_6, .int .u8 d_7] 0 63 0), (0, .cells [.int .u8 a_0_0, .int .u8 a_0_1, .int .u8 a_1_0, .int .u8 a_1_1, .int .u8 a_2_0, .int .u8 a_2_1, .int .u8 a_3_0, .int .u8 a_3_1, .int .u8 a_4_0, .int .u8 a_4_1, .int .u8 a_5_0, .int .u8 a_5_1, .int .u8 a_6_0, .int .u8 a_6_1, .int .u8 a_7_0, .int .u8 a_7_1] 0 56 0)]) (c' := 3) ?_ (by kernel_rfl)
  refine XR.run E0_ok 1 1 [2, 4, 8, 11] rfl (σ' := [(2, .int .u8 c), (4, .int .u8 e), (8, .pointer (some ⟨1, 0, none⟩)), (11, .slice (some ⟨2, 0, none⟩) r1.length r1.length)]) (h' := [(2, .cells (rowC encP r1) 0 61 2), (1, .cells [.int .u8 d_0, .int .u8 d_1, .int .u8 d_2, .int .u8 d_3, .int .u8 d_4, .int .u8 d_5, .int .u8 d_6, .int .u8 d_7] 0 63 0), (0, .cells [.int .u8 a_0_0, .int .u8 a_0_1, .int .u8 a_1_0, .int .u8 a_1_1, .int .u8 a_2_0, .int .u8 a_2_1, .int .u8 a_3_0, .int .u8 a_3_1, .int .u8 a_4_0, .int .u8 a_4_1, .int .u8 a_5_0, .int .u8 a_5_1, .int .u8 a_6_0, .int .u8 a_6_1, .int .u8 a_7_0, .int .u8 a_7_1] 0 56 0)]) (c' := 3) (by kernel_rfl) ?_
  refine XR.done (by kernel_rfl) ?_
  show XQ _ _ _ _ _ _ _ _
  refine XQ.seq E0_ok (by kernel_rfl) ?_
  refine XQ.region (by kernel_rfl) ?_
  refine XR.run E0_ok 1 5 [4, 8, 11, 12] rfl (σ' := [(4, .int .u8 e), (8, .pointer (some ⟨1, 0, none⟩)), (11, .slice (some ⟨2, 0, none⟩) r1.length r1.length), (12, .int .i64 (w64 (1 + (Int.tmod (w64 c) 3))))]) (h' := [(2, .cells (rowC encP r1) 0 61 2), (1, .cells [.int .u8 d_0, .int .u8 d_1, .int .u8 d_2, .int .u8 d_3, .int .u8 d_4, .int .u8 d_5, .int .u8 d_6, .int .u8 d_7] 0 63 0), (0, .cells [.int .u8 a_0_0, .int .u8 a_0_1, .int .u8 a_1_0, .int .u8 a_1_1, .int .u8 a_2_0, .int .u8 a_2_1, .int .u8 a_3_0, .int .u8 a_3_1, .int .u8 a_4_0, .int .u8 a_4_1, .int .u8 a_5_0, .int .u8 a_5_1, .int .u8 a_6_0, .int .u8 a_6_1, .int .u8 a_7_0, .int .u8 a_7_1] 0 56 0)]) (c' := 3) (by kernel_rfl) ?_
  refine XR.done (by kernel_rfl) ?_
  show XQ _ _ _ _ _ _ _ _
  refine XQ.seq E0_ok (by kernel_rfl) ?_
  refine XQ.region (by kernel_rfl) ?_
  refine XR.run E0_ok 1 1 [4, 8, 11, 12, 13] rfl (σ' := [(4, .int .u8 e), (8, .pointer (some ⟨1, 0, none⟩)), (11, .slice (some ⟨2, 0, none⟩) r1.length r1.length), (12, .int .i64 (w64 (1 + (Int.tmod (w64 c) 3)))), (13, .slice none 0 0)]) (h' := [(2, .cells (rowC encP r1) 0 61 2), (1, .cells [.int .u8 d_0, .int .u8 d_1, .int .u8 d_2, .int .u8 d_3, .int .u8 d_4, .int .u8 d_5, .int .u8 d_6, .int .u8 d_7] 0 63 0), (0, .cells [.int .u8 a_0_0, .int .u8 a_0_1, .int .u8 a_1_0, .int .u8 a_1_1, .int .u8 a_2_0, .int .u8 a_2_1, .int .u8 a_3_0, .int .u8 a_3_1, .int .u8 a_4_0, .int .u8 a_4_1, .int .u8 a_5_0, .int .u8 a_5_1, .int .u8 a_6_0, .int .u8 a_6_1, .int .u8 a_7_0, .int .u8 a_7_1] 0 56 0)]) (c' := 3) (by kernel_rfl) ?_
  refine XR.done (by kernel_rfl) ?_
  show XQ _ _ _ _ _ _ _ _
  refine XQ.ghost 3 1 rfl (σ' := [(4, .int .u8 e), (8, .pointer (some ⟨1, 0, none⟩)), (11, .slice (some ⟨2, 0, none⟩) r1.length r1.length), (12, .int .i64 (w64 (1 + (Int.tmod (w64 c) 3)))), (13, .slice (some ⟨3, 0, none⟩) 0 0)]) (h' := [(2, .cells (rowC encP r1) 0 61 2), (1, .cells [.int .u8 d_0, .int .u8 d_1, .int .u8 d_2, .int .u8 d_3, .int .u8 d_4, .int .u8 d_5, .int .u8 d_6, .int .u8 d_7] 0 63 0), (0, .cells [.int .u8 a_0_0, .int .u8 a_0_1, .int .u8 a_1_0, .int .u8 a_1_1, .int .u8 a_2_0, .int .u8 a_2_1, .int .u8 a_3_0, .int .u8 a_3_1, .int .u8 a_4_0, .int .u8 a_4_1, .int .u8 a_5_0, .int .u8 a_5_1, .int .u8 a_6_0, .int .u8 a_6_1, .int .u8 a_7_0, .int .u8 a_7_1] 0 56 0)]) ⟨by kernel_rfl, by kernel_rfl, by kernel_rfl, by kernel_rfl, by kernel_rfl, trivial⟩ ⟨⟨_, rfl, .inl rfl⟩, ⟨_, rfl, .inl rfl⟩, ⟨_, rfl, .inl rfl⟩, trivial⟩ ?_
  refine XQ.conv (σ' := [(4, .int .u8 e), (8, .pointer (some ⟨1, 0, none⟩)), (11, .slice (some ⟨2, 0, none⟩) r1.length r1.length), (12, .int .i64 (w64 (1 + (Int.tmod (w64 c) 3)))), (13, .slice (some ⟨3, 0, none⟩) 0 0)]) (h' := [(3, .cells (rowC (encI .i64) []) 0 3 1), (2, .cells (rowC encP r1) 0 61 2), (1, .cells [.int .u8 d_0, .int .u8 d_1, .int .u8 d_2, .int .u8 d_3, .int .u8 d_4, .int .u8 d_5, .int .u8 d_6, .int .u8 d_7] 0 63 0), (0, .cells [.int .u8 a_0_0, .int .u8 a_0_1, .int .u8 a_1_0, .int .u8 a_1_1, .int .u8 a_2_0, .int .u8 a_2_1, .int .u8 a_3_0, .int .u8 a_3_1, .int .u8 a_4_0, .int .u8 a_4_1, .int .u8 a_5_0, .int .u8 a_5_1, .int .u8 a_6_0, .int .u8 a_6_1, .int .u8 a_7_0, .int .u8 a_7_1] 0 56 0)]) (c' := 4) ?_ (by kernel_rfl)
  refine XQ.seq E0_ok (by kernel_rfl) ?_
  refine XQ.region (by kernel_rfl) ?_
  refine XR.run E0_ok 1 1 [4, 8, 11, 12, 13, 14] rfl (σ' := [(4, .int .u8 e), (8, .pointer (some ⟨1, 0, none⟩)), (11, .slice (some ⟨2, 0, none⟩) r1.length r1.length), (12, .int .i64 (w64 (1 + (Int.tmod (w64 c) 3)))), (13, .slice (some ⟨3, 0, none⟩) 0 0), (14, .int .i64 0)]) (h' := [(3, .cells (rowC (encI .i64) []) 0 3 1), (2, .cells (rowC encP r1) 0 61 2), (1, .cells [.int .u8 d_0, .int .u8 d_1, .int .u8 d_2, .int .u8 d_3, .int .u8 d_4, .int .u8 d_5, .int .u8 d_6, .int .u8 d_7] 0 63 0), (0, .cells [.int .u8 a_0_0, .int .u8 a_0_1, .int .u8 a_1_0, .int .u8 a_1_1, .int .u8 a_2_0, .int .u8 a_2_1, .int .u8 a_3_0, .int .u8 a_3_1, .int .u8 a_4_0, .int .u8 a_4_1, .int .u8 a_5_0, .int .u8 a_5_1, .int .u8 a_6_0, .int .u8 a_6_1, .int .u8 a_7_0, .int .u8 a_7_1] 0 56 0)]) (c' := 4) (by kernel_rfl) ?_
  refine XR.done (by kernel_rfl) ?_
  show XQ _ _ _ _ _ _ _ _
  refine XQ.seq E0_ok (by kernel_rfl) ?_
  refine XQ.seq E0_ok (by kernel_rfl) ?_
  refine XQ.region (by kernel_rfl) ?_
  refine XR.run E0_ok 1 3 [4, 8, 11, 12, 13, 14, 29, 30, 31] rfl (σ' := [(4, .int .u8 e), (8, .pointer (some ⟨1, 0, none⟩)), (11, .slice (some ⟨2, 0, none⟩) r1.length r1.length), (12, .int .i64 (w64 (1 + (Int.tmod (w64 c) 3)))), (13, .slice (some ⟨3, 0, none⟩) 0 0), (14, .int .i64 0), (29, .slice (some ⟨2, 0, none⟩) r1.length r1.length), (30, .int .i64 ((r1.length : Nat) : Int)), (31, .int .i64 0)]) (h' := [(3, .cells (rowC (encI .i64) []) 0 3 1), (2, .cells (rowC encP r1) 0 61 2), (1, .cells [.int .u8 d_0, .int .u8 d_1, .int .u8 d_2, .int .u8 d_3, .int .u8 d_4, .int .u8 d_5, .int .u8 d_6, .int .u8 d_7] 0 63 0), (0, .cells [.int .u8 a_0_0, .int .u8 a_0_1, .int .u8 a_1_0, .int .u8 a_1_1, .int .u8 a_2_0, .int .u8 a_2_1, .int .u8 a_3_0, .int .u8 a_3_1, .int .u8 a_4_0, .int .u8 a_4_1, .int .u8 a_5_0, .int .u8 a_5_1, .int .u8 a_6_0, .int .u8 a_6_1, .int .u8 a_7_0, .int .u8 a_7_1] 0 56 0)]) (c' := 4) (by kernel_rfl) ?_
  refine XR.done (by kernel_rfl) ?_
  show XQ _ _ _ _ _ _ _ _
  refine XQ.block (id := 0) (by kernel_rfl) ?_
  refine XQ.loop m (by kernel_rfl) ?_
  obtain ⟨o1, o1_h, h⟩ := bS h
  refine XL.ren (σ' := [(4, .int .u8 e), (8, .pointer (some ⟨0, 0, none⟩)), (11, .slice (some ⟨1, 0, none⟩) r1.length r1.length), (12, .int .i64 (w64 (1 + (Int.tmod (w64 c) 3)))), (13, .slice (some ⟨2, 0, none⟩) 0 0), (14, .int .i64 0), (29, .slice (some ⟨1, 0, none⟩) r1.length r1.length), (30, .int .i64 ((r1.length : Nat) : Int)), (31, .int .i64 0)]) (h' := [(2, .cells (rowC (encI .i64) []) 0 3 1), (1, .cells (rowC encP r1) 0 61 2), (0, .cells [.int .u8 d_0, .int .u8 d_1, .int .u8 d_2, .int .u8 d_3, .int .u8 d_4, .int .u8 d_5, .int .u8 d_6, .int .u8 d_7] 0 63 0)]) (c' := 3) [1, 2, 3] (by decide) rfl ⟨by kernel_rfl, by kernel_rfl, by kernel_rfl, by kernel_rfl, by kernel_rfl, by kernel_rfl, by kernel_rfl, by kernel_rfl, by kernel_rfl, trivial⟩ ⟨⟨_, _, rfl, rfl, .inl ⟨rfl, rowC_scal (encI_ok .i64) _⟩⟩, ⟨_, _, rfl, rfl, .inl ⟨rfl, rowC_scal encP_ok _⟩⟩, ⟨_, _, rfl, rfl, .inr ⟨_, _, _, _, rfl, rfl⟩⟩, trivial⟩ rfl ?_
  refine XL.conv (σ' := [(4, .int .u8 e), (8, .pointer (some ⟨0, 0, none⟩)), (11, .slice (some ⟨1, 0, none⟩) r1.length r1.length), (12, .int .i64 (w64 (1 + (Int.tmod (w64 c) 3)))), (13, .slice (some ⟨2, 0, none⟩) 0 0), (14, .int .i64 0), (29, .slice (some ⟨1, 0, none⟩) r1.length r1.length), (30, .int .i64 ((r1.length : Nat) : Int)), (31, .int .i64 0)]) (h' := [(2, .cells (rowC (encI .i64) []) 0 3 1), (1, .cells (rowC encP r1) 0 61 2), (0, .cells (rowC (encI .u8) [d_0, d_1, d_2, d_3, d_4, d_5, d_6, d_7]) 0 63 0)]) (c' := 3) ?_ (by kernel_rfl)
  refine XL.conv (f8_1_ok m m e (w64 (1 + (Int.tmod (w64 c) 3))) 0 ((r1.length : Nat) : Int) 0 [d_0, d_1, d_2, d_3, d_4, d_5, d_6, d_7] r1 [] o1 o1_h _ ?_) (by first | rfl | simp)
  show XQ _ _ _ _ _ _ _ _
  refine XQ.seq E0_ok (by kernel_rfl) ?_
  refine XQ.seq E0_ok (by kernel_rfl) ?_
  refine XQ.region (by kernel_rfl) ?_
  refine XR.run E0_ok 1 2 [11, 12, 13, 14, 94] rfl (σ' := [(11, .slice (some ⟨0, 0, none⟩) o1.2.2.1.length o1.2.2.1.length), (12, .int .i64 o1.1), (13, .slice (some ⟨1, 0, none⟩) o1.2.2.2.length o1.2.2.2.length), (14, .int .i64 o1.2.1), (94, .bool (decide (e > 240)))]) (h' := [(1, .cells (rowC (encI .i64) o1.2.2.2) 0 3 1), (0, .cells (rowC encP o1.2.2.1) 0 61 2)]) (c' := 2) (by kernel_rfl) ?_
  refine XR.done (by kernel_rfl) ?_
  show XQ _ _ _ _ _ _ _ _
  cases b2 : (decide (e > 240) : Bool) with
  | true =>
    have h := cT b2 h
    refine XQ.cond (s := (.tmp 94)) (b := true) (by kernel_rfl) (by kernel_rfl) (fun _ => ?_) (fun q => by cases q)
    refine XQ.region (by kernel_rfl) ?_
    refine XR.run E0_ok 1 2 [11, 12, 95, 96] rfl (σ' := [(11, .slice (some ⟨0, 0, none⟩) o1.2.2.1.length o1.2.2.1.length), (12, .int .i64 o1.1), (95, .slice (some ⟨1, 0, none⟩) o1.2.2.2.length o1.2.2.2.length), (96, .slice (some ⟨2, 0, none⟩) 1 1)]) (h' := [(2, .cells [.int .i64 0] 0 3 1), (1, .cells (rowC (encI .i64) o1.2.2.2) 0 3 1), (0, .cells (rowC encP o1.2.2.1) 0 61 2)]) (c' := 3) (by kernel_rfl) ?_
    cases b3 : (fitsB (o1.2.2.2.length + 1) 8 : Bool) with
    | false => cases (cF b3 h)
    | true =>
      have h := cT b3 h
      refine XR.ef E0_ok [11, 12, 97] rfl (e_append (encI_ok .i64) (bytes := 8) (e := 3) (x := (src 107 (.tmp 95))) (y := (src 107 (.tmp 96))) (b := 1) (len := o1.2.2.2.length) (cap := o1.2.2.2.length) (xs := o1.2.2.2) (m := 0) (ys := [0]) (d := (some (path 12 97))) (n' := (o1.2.2.2 ++ [0]).length) (h' := [(3, .cells (rowC (encI .i64) (o1.2.2.2 ++ [0])) 0 3 1), (2, .cells [.int .i64 0] 0 3 1), (0, .cells (rowC encP o1.2.2.1) 0 61 2)]) (by kernel_rfl) (by kernel_rfl) (by kernel_rfl) (by kernel_rfl) rfl (by simp) (by simp) b3 (by simp) (by kernel_rfl)) (σ' := [(11, .slice (some ⟨0, 0, none⟩) o1.2.2.1.length o1.2.2.1.length), (12, .int .i64 o1.1), (97, .slice (some ⟨3, 0, none⟩) ((o1.2.2.2 ++ [0]).length) ((o1.2.2.2 ++ [0]).length))]) (by kernel_rfl) ?_
      refine XR.run E0_ok 1 2 [11, 12, 13, 14] rfl (σ' := [(11, .slice (some ⟨0, 0, none⟩) o1.2.2.1.length o1.2.2.1.length), (12, .int .i64 o1.1), (13, .slice (some ⟨3, 0, none⟩) ((o1.2.2.2 ++ [0]).length) ((o1.2.2.2 ++ [0]).length)), (14, .int .i64 5)]) (h' := [(3, .cells (rowC (encI .i64) (o1.2.2.2 ++ [0])) 0 3 1), (2, .cells [.int .i64 0] 0 3 1), (0, .cells (rowC encP o1.2.2.1) 0 61 2)]) (c' := 4) (by kernel_rfl) ?_
      refine XR.done (by kernel_rfl) ?_
      show XQ _ _ _ _ _ _ _ _
      refine XQ.seq E0_ok (by kernel_rfl) ?_
      refine XQ.region (by kernel_rfl) ?_
      refine XR.run E0_ok 1 3 [14, 98, 99, 100] rfl (σ' := [(14, .int .i64 5), (98, .slice (some ⟨0, 0, none⟩) o1.2.2.1.length o1.2.2.1.length), (99, .int .i64 o1.1), (100, .slice (some ⟨3, 0, none⟩) ((o1.2.2.2 ++ [0]).length) ((o1.2.2.2 ++ [0]).length))]) (h' := [(3, .cells (rowC (encI .i64) (o1.2.2.2 ++ [0])) 0 3 1), (2, .cells [.int .i64 0] 0 3 1), (0, .cells (rowC encP o1.2.2.1) 0 61 2)]) (c' := 4) (by kernel_rfl) ?_
      obtain ⟨r2, r2_h, h⟩ := bS h
      refine XR.call E0_ok [14, 101] rfl (K := 21) (args := [.slice (some ⟨0, 0, none⟩) o1.2.2.1.length o1.2.2.1.length, .int .i64 o1.1, .slice (some ⟨3, 0, none⟩) ((o1.2.2.2 ++ [0]).length) ((o1.2.2.2 ++ [0]).length)]) (d := (some (path 12 101))) (by kernel_rfl) (KQ.call (KC.quiet E0_ok (args0 := [.slice (some ⟨0, 0, none⟩) o1.2.2.1.length o1.2.2.1.length, .int .i64 o1.1, .slice (some ⟨1, 0, none⟩) ((o1.2.2.2 ++ [0]).length) ((o1.2.2.2 ++ [0]).length)]) (h0 := [(1, .cells (rowC (encI .i64) (o1.2.2.2 ++ [0])) (0 + ((rowC (encI .i64) (o1.2.2.2 ++ [0])).length + 1)) 3 1), (0, .cells (rowC encP o1.2.2.1) (0 + ((rowC encP o1.2.2.1).length + 1)) 61 2)]) (n := 2) (V := .int .i64 r2) [0, 3] (f21_ok m (0 + ((rowC encP o1.2.2.1).length + 1)) (0 + ((rowC (encI .i64) (o1.2.2.2 ++ [0])).length + 1)) o1.2.2.1 o1.1 (o1.2.2.2 ++ [0]) r2 r2_h) rfl (by rfl) (by decide) rfl (by kernel_rfl) ⟨⟨_, _, rfl, rfl, .inl ⟨rfl, rowC_scal (encI_ok .i64) _⟩⟩, ⟨_, _, rfl, rfl, .inl ⟨rfl, rowC_scal encP_ok _⟩⟩, trivial⟩) rfl) ?_
      rintro _ _ _ ⟨rfl, rfl, rfl⟩
      refine XR.conv (σ' := [(14, .int .i64 5), (101, .int .i64 r2)]) (h' := [(3, .cells (rowC (encI .i64) (o1.2.2.2 ++ [0])) 0 3 1), (2, .cells [.int .i64 0] 0 3 1), (0, .cells (rowC encP o1.2.2.1) 0 61 2)]) (c' := 4) ?_ (by kernel_rfl)
      refine XR.run E0_ok 1 3 [104] rfl (σ' := [(104, .bool (r2 == 5))]) (h' := [(3, .cells (rowC (encI .i64) (o1.2.2.2 ++ [0])) 0 3 1), (2, .cells [.int .i64 0] 0 3 1), (0, .cells (rowC encP o1.2.2.1) 0 61 2)]) (c' := 4) (by kernel_rfl) ?_
      cases b4 : (r2 == 5 : Bool) with
      | true =>
        have h := cT b4 h
        refine XR.call E0_ok [104, 105] rfl (K := 16) (args := []) (d := (some (path 12 105))) (by kernel_rfl) (KC.of_calls E0_ok (F := Proofs.Try.f16) (v := .bool true) (by kernel_rfl) rfl rfl (works_ok)) ?_
        rintro _ _ _ ⟨rfl, rfl, rfl⟩
        refine XR.conv (σ' := [(104, .bool true), (105, .bool true)]) (h' := [(3, .cells (rowC (encI .i64) (o1.2.2.2 ++ [0])) 0 3 1), (2, .cells [.int .i64 0] 0 3 1), (0, .cells (rowC encP o1.2.2.1) 0 61 2)]) (c' := 4) ?_ (by kernel_rfl)
        refine XR.run E0_ok 1 2 [10] rfl (σ' := [(10, .bool true)]) (h' := [(3, .cells (rowC (encI .i64) (o1.2.2.2 ++ [0])) 0 3 1), (2, .cells [.int .i64 0] 0 3 1), (0, .cells (rowC encP o1.2.2.1) 0 61 2)]) (c' := 4) (by kernel_rfl) ?_
        refine XR.done (by kernel_rfl) ?_
        show XQ _ _ _ _ _ _ _ _
        refine XQ.ret (by kernel_rfl) ?_
        have h := Option.some.inj h
        subst h
        exact ⟨fun i q => (by cases q), .bool true, (by kernel_rfl), rfl⟩
      | false =>
        have h := cF b4 h
        refine XR.run E0_ok 1 3 [10] rfl (σ' := [(10, .bool false)]) (h' := [(3, .cells (rowC (encI .i64) (o1.2.2.2 ++ [0])) 0 3 1), (2, .cells [.int .i64 0] 0 3 1), (0, .cells (rowC encP o1.2.2.1) 0 61 2)]) (c' := 4) (by kernel_rfl) ?_
        refine XR.done (by kernel_rfl) ?_
        show XQ _ _ _ _ _ _ _ _
        refine XQ.ret (by kernel_rfl) ?_
        have h := Option.some.inj h
        subst h
        exact ⟨fun i q => (by cases q), .bool false, (by kernel_rfl), rfl⟩
  | false =>
    have h := cF b2 h
    refine XQ.cond (s := (.tmp 94)) (b := false) (by kernel_rfl) (by kernel_rfl) (fun q => by cases q) (fun _ => ?_)
    refine XQ.skip (by kernel_rfl) ?_
    show XQ _ _ _ _ _ _ _ _
    refine XQ.seq E0_ok (by kernel_rfl) ?_
    refine XQ.region (by kernel_rfl) ?_
    refine XR.run E0_ok 1 3 [14, 98, 99, 100] rfl (σ' := [(14, .int .i64 o1.2.1), (98, .slice (some ⟨0, 0, none⟩) o1.2.2.1.length o1.2.2.1.length), (99, .int .i64 o1.1), (100, .slice (some ⟨1, 0, none⟩) o1.2.2.2.length o1.2.2.2.length)]) (h' := [(1, .cells (rowC (encI .i64) o1.2.2.2) 0 3 1), (0, .cells (rowC encP o1.2.2.1) 0 61 2)]) (c' := 2) (by kernel_rfl) ?_
    obtain ⟨r3, r3_h, h⟩ := bS h
    refine XR.call E0_ok [14, 101] rfl (K := 21) (args := [.slice (some ⟨0, 0, none⟩) o1.2.2.1.length o1.2.2.1.length, .int .i64 o1.1, .slice (some ⟨1, 0, none⟩) o1.2.2.2.length o1.2.2.2.length]) (d := (some (path 12 101))) (by kernel_rfl) (KQ.call (KC.quiet E0_ok (args0 := [.slice (some ⟨0, 0, none⟩) o1.2.2.1.length o1.2.2.1.length, .int .i64 o1.1, .slice (some ⟨1, 0, none⟩) o1.2.2.2.length o1.2.2.2.length]) (h0 := [(1, .cells (rowC (encI .i64) o1.2.2.2) (0 + ((rowC (encI .i64) o1.2.2.2).length + 1)) 3 1), (0, .cells (rowC encP o1.2.2.1) (0 + ((rowC encP o1.2.2.1).length + 1)) 61 2)]) (n := 2) (V := .int .i64 r3) [0, 1] (f21_ok m (0 + ((rowC encP o1.2.2.1).length + 1)) (0 + ((rowC (encI .i64) o1.2.2.2).length + 1)) o1.2.2.1 o1.1 o1.2.2.2 r3 r3_h) rfl (by rfl) (by decide) rfl (by kernel_rfl) ⟨⟨_, _, rfl, rfl, .inl ⟨rfl, rowC_scal (encI_ok .i64) _⟩⟩, ⟨_, _, rfl, rfl, .inl ⟨rfl, rowC_scal encP_ok _⟩⟩, trivial⟩) rfl) ?_
    rintro _ _ _ ⟨rfl, rfl, rfl⟩
    refine XR.conv (σ' := [(14, .int .i64 o1.2.1), (101, .int .i64 r3)]) (h' := [(1, .cells (rowC (encI .i64) o1.2.2.2) 0 3 1), (0, .cells (rowC encP o1.2.2.1) 0 61 2)]) (c' := 2) ?_ (by kernel_rfl)
    refine XR.run E0_ok 1 3 [104] rfl (σ' := [(104, .bool (r3 == o1.2.1))]) (h' := [(1, .cells (rowC (encI .i64) o1.2.2.2) 0 3 1), (0, .cells (rowC encP o1.2.2.1) 0 61 2)]) (c' := 2) (by kernel_rfl) ?_
    cases b5 : (r3 == o1.2.1 : Bool) with
    | true =>
      have h := cT b5 h
      refine XR.call E0_ok [104, 105] rfl (K := 16) (args := []) (d := (some (path 12 105))) (by kernel_rfl) (KC.of_calls E0_ok (F := Proofs.Try.f16) (v := .bool true) (by kernel_rfl) rfl rfl (works_ok)) ?_
      rintro _ _ _ ⟨rfl, rfl, rfl⟩
      refine XR.conv (σ' := [(104, .bool true), (105, .bool true)]) (h' := [(1, .cells (rowC (encI .i64) o1.2.2.2) 0 3 1), (0, .cells (rowC encP o1.2.2.1) 0 61 2)]) (c' := 2) ?_ (by kernel_rfl)
      refine XR.run E0_ok 1 2 [10] rfl (σ' := [(10, .bool true)]) (h' := [(1, .cells (rowC (encI .i64) o1.2.2.2) 0 3 1), (0, .cells (rowC encP o1.2.2.1) 0 61 2)]) (c' := 2) (by kernel_rfl) ?_
      refine XR.done (by kernel_rfl) ?_
      show XQ _ _ _ _ _ _ _ _
      refine XQ.ret (by kernel_rfl) ?_
      have h := Option.some.inj h
      subst h
      exact ⟨fun i q => (by cases q), .bool true, (by kernel_rfl), rfl⟩
    | false =>
      have h := cF b5 h
      refine XR.run E0_ok 1 3 [10] rfl (σ' := [(10, .bool false)]) (h' := [(1, .cells (rowC (encI .i64) o1.2.2.2) 0 3 1), (0, .cells (rowC encP o1.2.2.1) 0 61 2)]) (c' := 2) (by kernel_rfl) ?_
      refine XR.done (by kernel_rfl) ?_
      show XQ _ _ _ _ _ _ _ _
      refine XQ.ret (by kernel_rfl) ?_
      have h := Option.some.inj h
      subst h
      exact ⟨fun i q => (by cases q), .bool false, (by kernel_rfl), rfl⟩

end Go.Xm
