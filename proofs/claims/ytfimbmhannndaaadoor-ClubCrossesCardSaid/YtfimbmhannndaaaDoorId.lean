/- What these functions of the program compute, as functions in Lean, and the proofs that they do: vitolalaw12.ClubCrosses. Conditions: the library's variables hold what their texts lay. -/
import Derived.Test.YtfimbmhannndaaaDoorIc
namespace Go.Xm
open Go.RowKit
set_option linter.unusedVariables false
set_option linter.unusedSimpArgs false
set_option maxRecDepth 20000

/-! vitola/vitolalaw12.ClubCrosses -/
noncomputable def f5_C5 : Code := Proofs.Tryd.f5.body.getD .skip
noncomputable def f5_C25 : Code := Proofs.Tryd.f25.body.getD .skip
noncomputable def f5_C39 : Code := Proofs.Tryd.f39.body.getD .skip
noncomputable def f5_L1 : Code := lft (lft (rgt (lft (rgt (rgt f5_C39)))))

inductive Of5_1 where
 | r (lh2_r1 : List (Int × Int)) (xh3_0_r1 : Int) (lh4_r1 : List (Int × Int)) (xh5_0_r1 : Int) (xh6_0_r1 : Int) (xh7_0_r1 : Int)
 | x0 (lh2_x01 : List (Int × Int)) (xh3_0_x01 : Int) (lh4_x01 : List (Int × Int)) (xh5_0_x01 : Int) (xh6_0_x01 : Int) (xh7_0_x01 : Int)

def f5_1 (m : Nat) : Nat → Int → List (Int × Int) → Int → List (Int × Int) → Int → List (Int × Int) → Int → Int → Int → Option Of5_1
 | 0, _, _, _, _, _, _, _, _, _ => none
 | fuel + 1, a_Sorters, a_Tables, x5_1, lh2_1, xh3_0_1, lh4_1, xh5_0_1, xh6_0_1, xh7_0_1 =>
  cond (decide (x5_1 < ((lh2_1.length : Nat) : Int))) (
   cond (inRow x5_1 lh2_1.length) (
    cond (inRow x5_1 lh4_1.length) (
     cond (!(((List.getD lh2_1 (Int.toNat x5_1) (0, 0)).1) == ((List.getD lh4_1 (Int.toNat x5_1) (0, 0)).1) && ((List.getD lh2_1 (Int.toNat x5_1) (0, 0)).2) == ((List.getD lh4_1 (Int.toNat x5_1) (0, 0)).2))) (
      some (.r lh2_1 xh3_0_1 lh4_1 xh5_0_1 xh6_0_1 xh7_0_1)
     ) (
      f5_1 m fuel a_Sorters a_Tables (w64 (x5_1 + 1)) lh2_1 xh3_0_1 lh4_1 xh5_0_1 xh6_0_1 xh7_0_1
     )
    ) none
   ) none
  ) (
   some (.x0 lh2_1 xh3_0_1 lh4_1 xh5_0_1 xh6_0_1 xh7_0_1)
  )

theorem f5_1_ok (m : Nat) : ∀ (fuel : Nat) (z0 : Nat) (y0 : Nat) (a_Sorters : Int) (a_Tables : List (Int × Int)) (x5_1 : Int) (lh2_1 : List (Int × Int)) (xh3_0_1 : Int) (lh4_1 : List (Int × Int)) (xh5_0_1 : Int) (xh6_0_1 : Int) (xh7_0_1 : Int) (o : Of5_1), f5_1 m fuel a_Sorters a_Tables x5_1 lh2_1 xh3_0_1 lh4_1 xh5_0_1 xh6_0_1 xh7_0_1 = some o → ∀ Q : QP, (match o with | .r lh2_r1 xh3_0_r1 lh4_r1 xh5_0_r1 xh6_0_r1 xh7_0_r1 => Q .ret [(4, .bool false)] [(7, .cells [ii xh7_0_r1, s0 4 lh4_r1.length] 0 37 0), (6, .cells [ii xh6_0_r1, s0 2 lh2_r1.length] 0 34 0), (5, .cells [ii xh5_0_r1, s0 4 lh4_r1.length] 0 37 0), (4, rc encP lh4_r1 0 55 2), (3, .cells [ii xh3_0_r1, s0 2 lh2_r1.length] 0 34 0), (2, rc encP lh2_r1 0 55 2), (1, .cells [ii a_Sorters, s0 0 a_Tables.length] 0 34 0), (0, rc encP a_Tables z0 y0 2)] 8 | .x0 lh2_x01 xh3_0_x01 lh4_x01 xh5_0_x01 xh6_0_x01 xh7_0_x01 => Q (.exit 0) [] [(7, .cells [ii xh7_0_x01, s0 4 lh4_x01.length] 0 37 0), (6, .cells [ii xh6_0_x01, s0 2 lh2_x01.length] 0 34 0), (5, .cells [ii xh5_0_x01, s0 4 lh4_x01.length] 0 37 0), (4, rc encP lh4_x01 0 55 2), (3, .cells [ii xh3_0_x01, s0 2 lh2_x01.length] 0 34 0), (2, rc encP lh2_x01 0 55 2), (1, .cells [ii a_Sorters, s0 0 a_Tables.length] 0 34 0), (0, rc encP a_Tables z0 y0 2)] 8) → XL E0 26 8 fuel f5_L1 [(0, s0 2 lh2_1.length), (1, s0 4 lh4_1.length), (5, ii x5_1)] [(7, .cells [ii xh7_0_1, s0 4 lh4_1.length] 0 37 0), (6, .cells [ii xh6_0_1, s0 2 lh2_1.length] 0 34 0), (5, .cells [ii xh5_0_1, s0 4 lh4_1.length] 0 37 0), (4, rc encP lh4_1 0 55 2), (3, .cells [ii xh3_0_1, s0 2 lh2_1.length] 0 34 0), (2, rc encP lh2_1 0 55 2), (1, .cells [ii a_Sorters, s0 0 a_Tables.length] 0 34 0), (0, rc encP a_Tables z0 y0 2)] 8 Q
 | 0, z0, y0, a_Sorters, a_Tables, x5_1, lh2_1, xh3_0_1, lh4_1, xh5_0_1, xh6_0_1, xh7_0_1, o, h, Q, hQ => by cases h
 | fuel + 1, z0, y0, a_Sorters, a_Tables, x5_1, lh2_1, xh3_0_1, lh4_1, xh5_0_1, xh6_0_1, xh7_0_1, o, h, Q, hQ => by
  unfold f5_1 at h
  refine XL.succ E0_ok ?_
  refine XQ.seq E0_ok (by kernel_rfl) ?_
  refine XQ.seq E0_ok (by kernel_rfl) ?_
  refine XQ.region (by kernel_rfl) ?_
  refine XR.runS E0_ok 1 4 [(0, s0 2 lh2_1.length), (1, s0 4 lh4_1.length), (5, ii x5_1), (14, .bool (decide (x5_1 < ((lh2_1.length : Nat) : Int))))] rfl (by kernel_rfl) ?_
  refine XR.done (by kernel_rfl) ?_
  show XQ _ _ _ _ _ _ _ _
  cases b1 : (decide (x5_1 < ((lh2_1.length : Nat) : Int)) : Bool) with
  | true =>
   have h := cT b1 h
   refine XQ.cond (s := (.tmp 14)) (b := true) (by kernel_rfl) (by kernel_rfl) (fun _ => ?_) (fun q => by cases q)
   refine XQ.skip (by kernel_rfl) ?_
   show XQ _ _ _ _ _ _ _ _
   refine XQ.seq E0_ok (by kernel_rfl) ?_
   refine XQ.block (id := 1) (by kernel_rfl) ?_
   refine XQ.seq E0_ok (by kernel_rfl) ?_
   refine XQ.quiet E0_ok (by kernel_rfl) (by kernel_rfl) ?_
   refine XU.run E0_ok 1 2 [0, 1, 5, 17, 18] rfl (σ' := [(0, s0 2 lh2_1.length), (1, s0 4 lh4_1.length), (5, ii x5_1), (17, s0 2 lh2_1.length), (18, ii x5_1)]) (by kernel_rfl) ?_
   cases b2 : (inRow x5_1 lh2_1.length : Bool) with
   | false => cases (cF b2 h)
   | true =>
    have h := cT b2 h
    refine XU.rd E0_ok [0, 1, 5, 19] rfl (v := pp 2 ((Int.toNat x5_1) * 2)) (v_idx (s := 2) (x := (src 26 (.tmp 17))) (y := (src 26 (.tmp 18))) (b := 2) (o := 0) (len := lh2_1.length) (cap := lh2_1.length) (ik := .i64) (i := x5_1) (off := (Int.toNat x5_1) * 2) (d := (some (path 12 19))) (by kernel_rfl) (by kernel_rfl) (by kernel_rfl) b2 (by omega)) (σ' := [(0, s0 2 lh2_1.length), (1, s0 4 lh4_1.length), (5, ii x5_1), (19, pp 2 ((Int.toNat x5_1) * 2))]) (by kernel_rfl) ?_
    refine XU.rd E0_ok [0, 1, 5, 20] rfl (v := .agg #[ii ((List.getD lh2_1 (Int.toNat x5_1) (0, 0)).1), ii ((List.getD lh2_1 (Int.toNat x5_1) (0, 0)).2)]) (v_loadN encP_ok (x := (src 26 (.tmp 19))) (b := 2) (off := (Int.toNat x5_1) * 2) (xs := lh2_1) (fz := 0) (e := 55) (es := 2) (d := (some (path 12 20))) (by kernel_rfl) (by kernel_rfl) (by kernel_rfl) (Int.toNat x5_1) (0, 0) (by first | rfl | omega) (row_len (inRow_toNat b2) (by simp)) rfl) (σ' := [(0, s0 2 lh2_1.length), (1, s0 4 lh4_1.length), (5, ii x5_1), (20, .agg #[ii ((List.getD lh2_1 (Int.toNat x5_1) (0, 0)).1), ii ((List.getD lh2_1 (Int.toNat x5_1) (0, 0)).2)])]) (by kernel_rfl) ?_
    refine XU.run E0_ok 1 2 [0, 1, 5, 20, 21, 22] rfl (σ' := [(0, s0 2 lh2_1.length), (1, s0 4 lh4_1.length), (5, ii x5_1), (20, .agg #[ii ((List.getD lh2_1 (Int.toNat x5_1) (0, 0)).1), ii ((List.getD lh2_1 (Int.toNat x5_1) (0, 0)).2)]), (21, s0 4 lh4_1.length), (22, ii x5_1)]) (by kernel_rfl) ?_
    cases b3 : (inRow x5_1 lh4_1.length : Bool) with
    | false => cases (cF b3 h)
    | true =>
     have h := cT b3 h
     refine XU.rd E0_ok [0, 1, 5, 20, 23] rfl (v := pp 4 ((Int.toNat x5_1) * 2)) (v_idx (s := 2) (x := (src 26 (.tmp 21))) (y := (src 26 (.tmp 22))) (b := 4) (o := 0) (len := lh4_1.length) (cap := lh4_1.length) (ik := .i64) (i := x5_1) (off := (Int.toNat x5_1) * 2) (d := (some (path 12 23))) (by kernel_rfl) (by kernel_rfl) (by kernel_rfl) b3 (by omega)) (σ' := [(0, s0 2 lh2_1.length), (1, s0 4 lh4_1.length), (5, ii x5_1), (20, .agg #[ii ((List.getD lh2_1 (Int.toNat x5_1) (0, 0)).1), ii ((List.getD lh2_1 (Int.toNat x5_1) (0, 0)).2)]), (23, pp 4 ((Int.toNat x5_1) * 2))]) (by kernel_rfl) ?_
     refine XU.rd E0_ok [0, 1, 5, 20, 24] rfl (v := .agg #[ii ((List.getD lh4_1 (Int.toNat x5_1) (0, 0)).1), ii ((List.getD lh4_1 (Int.toNat x5_1) (0, 0)).2)]) (v_loadN encP_ok (x := (src 26 (.tmp 23))) (b := 4) (off := (Int.toNat x5_1) * 2) (xs := lh4_1) (fz := 0) (e := 55) (es := 2) (d := (some (path 12 24))) (by kernel_rfl) (by kernel_rfl) (by kernel_rfl) (Int.toNat x5_1) (0, 0) (by first | rfl | omega) (row_len (inRow_toNat b3) (by simp)) rfl) (σ' := [(0, s0 2 lh2_1.length), (1, s0 4 lh4_1.length), (5, ii x5_1), (20, .agg #[ii ((List.getD lh2_1 (Int.toNat x5_1) (0, 0)).1), ii ((List.getD lh2_1 (Int.toNat x5_1) (0, 0)).2)]), (24, .agg #[ii ((List.getD lh4_1 (Int.toNat x5_1) (0, 0)).1), ii ((List.getD lh4_1 (Int.toNat x5_1) (0, 0)).2)])]) (by kernel_rfl) ?_
     refine XU.run E0_ok 1 1 [0, 1, 5, 25] rfl (σ' := [(0, s0 2 lh2_1.length), (1, s0 4 lh4_1.length), (5, ii x5_1), (25, .bool (!(((List.getD lh2_1 (Int.toNat x5_1) (0, 0)).1) == ((List.getD lh4_1 (Int.toNat x5_1) (0, 0)).1) && ((List.getD lh2_1 (Int.toNat x5_1) (0, 0)).2) == ((List.getD lh4_1 (Int.toNat x5_1) (0, 0)).2))))]) (by kernel_rfl) ?_
     refine XU.done (by kernel_rfl) ?_
     show XQ _ _ _ _ _ _ _ _
     cases b4 : (!(((List.getD lh2_1 (Int.toNat x5_1) (0, 0)).1) == ((List.getD lh4_1 (Int.toNat x5_1) (0, 0)).1) && ((List.getD lh2_1 (Int.toNat x5_1) (0, 0)).2) == ((List.getD lh4_1 (Int.toNat x5_1) (0, 0)).2)) : Bool) with
     | true =>
      have h := cT b4 h
      refine XQ.cond (s := (.tmp 25)) (b := true) (by kernel_rfl) (by kernel_rfl) (fun _ => ?_) (fun q => by cases q)
      refine XQ.seq E0_ok (by kernel_rfl) ?_
      refine XQ.region (by kernel_rfl) ?_
      refine XR.runS E0_ok 1 1 [(4, .bool false)] rfl (by kernel_rfl) ?_
      refine XR.done (by kernel_rfl) ?_
      show XQ _ _ _ _ _ _ _ _
      refine XQ.ren (σ' := [(4, .bool false)]) (h' := [(7, .cells [ii xh7_0_1, s0 4 lh4_1.length] 0 37 0), (6, .cells [ii xh6_0_1, s0 2 lh2_1.length] 0 34 0), (5, .cells [ii xh5_0_1, s0 4 lh4_1.length] 0 37 0), (4, rc encP lh4_1 0 55 2), (3, .cells [ii xh3_0_1, s0 2 lh2_1.length] 0 34 0), (2, rc encP lh2_1 0 55 2), (1, .cells [ii a_Sorters, s0 0 a_Tables.length] 0 34 0), (0, rc encP a_Tables z0 y0 2)]) (c' := 8) [0, 1, 2, 3, 4, 5, 6, 7] (by decide) rfl ⟨by kernel_rfl, trivial⟩ ⟨⟨_, _, rfl, rfl, .inr ⟨_, _, _, _, rfl, rfl⟩⟩, ⟨_, _, rfl, rfl, .inr ⟨_, _, _, _, rfl, rfl⟩⟩, ⟨_, _, rfl, rfl, .inr ⟨_, _, _, _, rfl, rfl⟩⟩, ⟨_, _, rfl, rfl, .inl ⟨rfl, rowC_scal encP_ok _⟩⟩, ⟨_, _, rfl, rfl, .inr ⟨_, _, _, _, rfl, rfl⟩⟩, ⟨_, _, rfl, rfl, .inl ⟨rfl, rowC_scal encP_ok _⟩⟩, ⟨_, _, rfl, rfl, .inr ⟨_, _, _, _, rfl, rfl⟩⟩, ⟨_, _, rfl, rfl, .inl ⟨rfl, rowC_scal encP_ok _⟩⟩, trivial⟩ rfl ?_
      refine XQ.ret (by kernel_rfl) ?_
      cases h
      exact hQ
     | false =>
      have h := cF b4 h
      refine XQ.cond (s := (.tmp 25)) (b := false) (by kernel_rfl) (by kernel_rfl) (fun q => by cases q) (fun _ => ?_)
      refine XQ.skip (by kernel_rfl) ?_
      show XQ _ _ _ _ _ _ _ _
      refine XQ.region (by kernel_rfl) ?_
      refine XR.runS E0_ok 1 3 [(0, s0 2 lh2_1.length), (1, s0 4 lh4_1.length), (5, ii (w64 (x5_1 + 1)))] rfl (by kernel_rfl) ?_
      refine XR.done (by kernel_rfl) ?_
      show XL _ _ _ _ _ _ _ _ _
      refine XL.ren (σ' := [(0, s0 2 lh2_1.length), (1, s0 4 lh4_1.length), (5, ii (w64 (x5_1 + 1)))]) (h' := [(7, .cells [ii xh7_0_1, s0 4 lh4_1.length] 0 37 0), (6, .cells [ii xh6_0_1, s0 2 lh2_1.length] 0 34 0), (5, .cells [ii xh5_0_1, s0 4 lh4_1.length] 0 37 0), (4, rc encP lh4_1 0 55 2), (3, .cells [ii xh3_0_1, s0 2 lh2_1.length] 0 34 0), (2, rc encP lh2_1 0 55 2), (1, .cells [ii a_Sorters, s0 0 a_Tables.length] 0 34 0), (0, rc encP a_Tables z0 y0 2)]) (c' := 8) [0, 1, 2, 3, 4, 5, 6, 7] (by decide) rfl ⟨by kernel_rfl, by kernel_rfl, by kernel_rfl, trivial⟩ ⟨⟨_, _, rfl, rfl, .inr ⟨_, _, _, _, rfl, rfl⟩⟩, ⟨_, _, rfl, rfl, .inr ⟨_, _, _, _, rfl, rfl⟩⟩, ⟨_, _, rfl, rfl, .inr ⟨_, _, _, _, rfl, rfl⟩⟩, ⟨_, _, rfl, rfl, .inl ⟨rfl, rowC_scal encP_ok _⟩⟩, ⟨_, _, rfl, rfl, .inr ⟨_, _, _, _, rfl, rfl⟩⟩, ⟨_, _, rfl, rfl, .inl ⟨rfl, rowC_scal encP_ok _⟩⟩, ⟨_, _, rfl, rfl, .inr ⟨_, _, _, _, rfl, rfl⟩⟩, ⟨_, _, rfl, rfl, .inl ⟨rfl, rowC_scal encP_ok _⟩⟩, trivial⟩ rfl ?_
      refine XL.conv (f5_1_ok m fuel z0 y0 a_Sorters a_Tables (w64 (x5_1 + 1)) lh2_1 xh3_0_1 lh4_1 xh5_0_1 xh6_0_1 xh7_0_1 o h Q hQ) (by first | rfl | simp)
  | false =>
   have h := cF b1 h
   refine XQ.cond (s := (.tmp 14)) (b := false) (by kernel_rfl) (by kernel_rfl) (fun q => by cases q) (fun _ => ?_)
   refine XQ.ren (σ' := []) (h' := [(7, .cells [ii xh7_0_1, s0 4 lh4_1.length] 0 37 0), (6, .cells [ii xh6_0_1, s0 2 lh2_1.length] 0 34 0), (5, .cells [ii xh5_0_1, s0 4 lh4_1.length] 0 37 0), (4, rc encP lh4_1 0 55 2), (3, .cells [ii xh3_0_1, s0 2 lh2_1.length] 0 34 0), (2, rc encP lh2_1 0 55 2), (1, .cells [ii a_Sorters, s0 0 a_Tables.length] 0 34 0), (0, rc encP a_Tables z0 y0 2)]) (c' := 8) [0, 1, 2, 3, 4, 5, 6, 7] (by decide) rfl trivial ⟨⟨_, _, rfl, rfl, .inr ⟨_, _, _, _, rfl, rfl⟩⟩, ⟨_, _, rfl, rfl, .inr ⟨_, _, _, _, rfl, rfl⟩⟩, ⟨_, _, rfl, rfl, .inr ⟨_, _, _, _, rfl, rfl⟩⟩, ⟨_, _, rfl, rfl, .inl ⟨rfl, rowC_scal encP_ok _⟩⟩, ⟨_, _, rfl, rfl, .inr ⟨_, _, _, _, rfl, rfl⟩⟩, ⟨_, _, rfl, rfl, .inl ⟨rfl, rowC_scal encP_ok _⟩⟩, ⟨_, _, rfl, rfl, .inr ⟨_, _, _, _, rfl, rfl⟩⟩, ⟨_, _, rfl, rfl, .inl ⟨rfl, rowC_scal encP_ok _⟩⟩, trivial⟩ rfl ?_
   refine XQ.exit (i := 0) (by kernel_rfl) ?_
   cases h
   exact hQ

def f5 (m : Nat) (a_Sorters : Int) (a_Tables : List (Int × Int)) (b : Int) (c : Int) (d : Bool) : Option (Bool) :=
 cond (decide (((a_Tables.length : Nat) : Int) > 60)) (
  some (true)
 ) (
  (f30 m a_Sorters a_Tables b c d).bind fun r1 =>
   (f31 m a_Sorters a_Tables b c d).bind fun r2 =>
    cond (r1.1 == r2.1) (
     cond (((r1.2.1.length : Nat) : Int) != ((r2.2.1.length : Nat) : Int)) (
      some (false)
     ) (
      (f5_1 m m a_Sorters a_Tables 0 r1.2.1 r1.1 r2.2.1 r2.1 r1.1 r2.1).bind fun o1 =>
       match o1 with
       | .r lh2_r1 xh3_0_r1 lh4_r1 xh5_0_r1 xh6_0_r1 xh7_0_r1 =>
        some (false)
       | .x0 lh2_x01 xh3_0_x01 lh4_x01 xh5_0_x01 xh6_0_x01 xh7_0_x01 =>
        cond (r1.2.2 == r2.2.2) (
         some (true)
        ) (
         some (false)
        )
     )
    ) (
     some (false)
    )
 )

theorem f5_ok (m : Nat) (z0 : Nat) (y0 : Nat) (a_Sorters : Int) (a_Tables : List (Int × Int)) (b : Int) (c : Int) (d : Bool) (o : Bool) (h : f5 m a_Sorters a_Tables b c d = some o) : KC E0 5 [.agg #[ii a_Sorters, s0 0 a_Tables.length], ii b, ii c, .bool d] [(0, rc encP a_Tables z0 y0 2)] 1 (fun v _ _ => v = .bool o) := by
 refine KC.bodyN E0_ok (F := Proofs.Tryd.f5) (by kernel_rfl) (code := f5_C5) (by kernel_rfl) (nt := 45) (by kernel_rfl) (rs := [.tmp 8]) (by kernel_rfl) (by kernel_rfl) (σ := [(0, .agg #[ii a_Sorters, s0 0 a_Tables.length]), (1, ii b), (2, ii c), (3, .bool d)]) (by kernel_rfl) ?_
 unfold f5 at h
 refine XQ.seq E0_ok (by kernel_rfl) ?_
 refine XQ.region (by kernel_rfl) ?_
 refine XR.runT E0_ok 1 2 [(1, ii b), (2, ii c), (3, .bool d), (4, pp 1 0)] [(1, .cells [ii a_Sorters, s0 0 a_Tables.length] 0 34 0), (0, rc encP a_Tables z0 y0 2)] 2 rfl (by kernel_rfl) ?_
 refine XR.done (by kernel_rfl) ?_
 show XQ _ _ _ _ _ _ _ _
 refine XQ.seq E0_ok (by kernel_rfl) ?_
 refine XQ.seq E0_ok (by kernel_rfl) ?_
 refine XQ.region (by kernel_rfl) ?_
 refine XR.runS E0_ok 1 4 [(1, ii b), (2, ii c), (3, .bool d), (4, pp 1 0), (16, .bool (decide (((a_Tables.length : Nat) : Int) > 60)))] rfl (by kernel_rfl) ?_
 refine XR.done (by kernel_rfl) ?_
 show XQ _ _ _ _ _ _ _ _
 cases b1 : (decide (((a_Tables.length : Nat) : Int) > 60) : Bool) with
 | true =>
  have h := cT b1 h
  refine XQ.cond (s := (.tmp 16)) (b := true) (by kernel_rfl) (by kernel_rfl) (fun _ => ?_) (fun q => by cases q)
  refine XQ.seq E0_ok (by kernel_rfl) ?_
  refine XQ.region (by kernel_rfl) ?_
  refine XR.call E0_ok [17] rfl (K := 14) (args := []) (d := (some (path 12 17))) (by kernel_rfl) (KC.of_calls E0_ok (F := Proofs.Tryd.f14) (v := .bool true) (by kernel_rfl) rfl rfl (works_ok)) ?_
  rintro _ _ _ ⟨rfl, rfl, rfl⟩
  refine XR.conv (σ' := [(17, .bool true)]) (h' := [(1, .cells [ii a_Sorters, s0 0 a_Tables.length] 0 34 0), (0, rc encP a_Tables z0 y0 2)]) (c' := 2) ?_ (by kernel_rfl)
  refine XR.runS E0_ok 1 1 [(8, .bool true)] rfl (by kernel_rfl) ?_
  refine XR.done (by kernel_rfl) ?_
  show XQ _ _ _ _ _ _ _ _
  refine XQ.ret (by kernel_rfl) ?_
  have h := Option.some.inj h
  subst h
  exact ⟨fun i q => (by cases q), .bool true, (by kernel_rfl), rfl⟩
 | false =>
  have h := cF b1 h
  refine XQ.cond (s := (.tmp 16)) (b := false) (by kernel_rfl) (by kernel_rfl) (fun q => by cases q) (fun _ => ?_)
  refine XQ.skip (by kernel_rfl) ?_
  show XQ _ _ _ _ _ _ _ _
  refine XQ.seq E0_ok (by kernel_rfl) ?_
  refine XQ.region (by kernel_rfl) ?_
  refine XR.runS E0_ok 1 4 [(1, ii b), (2, ii c), (3, .bool d), (4, pp 1 0), (19, .agg #[ii a_Sorters, s0 0 a_Tables.length]), (20, ii b), (21, ii c), (22, .bool d)] rfl (by kernel_rfl) ?_
  obtain ⟨r1, r1_h, h⟩ := bS h
  refine XR.call E0_ok [1, 2, 3, 4, 23] rfl (K := 30) (args := [.agg #[ii a_Sorters, s0 0 a_Tables.length], ii b, ii c, .bool d]) (d := (some (path 12 23))) (by kernel_rfl) (KC.liftH (n0 := 1) (m := 1) (args0 := [.agg #[ii a_Sorters, s0 0 a_Tables.length], ii b, ii c, .bool d]) (h0 := [(0, rc encP a_Tables (z0 + ((rowC encP a_Tables).length + 1)) y0 2)]) (V := .tuple #[.agg #[ii r1.1, s0 1 r1.2.1.length], ii r1.2.2]) (V2 := .tuple #[.agg #[ii r1.1, s0 2 r1.2.1.length], ii r1.2.2]) (H := [(1, rc encP r1.2.1 0 55 2)]) (H2 := [(2, rc encP r1.2.1 0 55 2)]) [0] [2, 3, 1] (f30_ok m (z0 + ((rowC encP a_Tables).length + 1)) y0 a_Sorters a_Tables b c d r1 r1_h) (by rfl) (by decide) rfl (by kernel_rfl) ⟨⟨_, _, rfl, rfl, .inl ⟨rfl, rowC_scal encP_ok _⟩⟩, trivial⟩ (by decide) (by decide) (by kernel_rfl) ⟨⟨_, _, rfl, rfl, .inl ⟨rfl, rowC_scal encP_ok _⟩⟩, trivial⟩ (by rfl)) ?_
  rintro _ _ _ ⟨rfl, rfl, rfl⟩
  refine XR.conv (σ' := [(1, ii b), (2, ii c), (3, .bool d), (4, pp 1 0), (23, .tuple #[.agg #[ii r1.1, s0 2 r1.2.1.length], ii r1.2.2])]) (h' := [(2, rc encP r1.2.1 0 55 2), (1, .cells [ii a_Sorters, s0 0 a_Tables.length] 0 34 0), (0, rc encP a_Tables z0 y0 2)]) (c' := 3) ?_ (by kernel_rfl)
  refine XR.runT E0_ok 1 6 [(1, ii b), (2, ii c), (3, .bool d), (4, pp 1 0), (9, pp 3 0), (10, ii r1.2.2)] [(3, .cells [ii r1.1, s0 2 r1.2.1.length] 0 34 0), (2, rc encP r1.2.1 0 55 2), (1, .cells [ii a_Sorters, s0 0 a_Tables.length] 0 34 0), (0, rc encP a_Tables z0 y0 2)] 4 rfl (by kernel_rfl) ?_
  refine XR.done (by kernel_rfl) ?_
  show XQ _ _ _ _ _ _ _ _
  refine XQ.seq E0_ok (by kernel_rfl) ?_
  refine XQ.region (by kernel_rfl) ?_
  refine XR.runS E0_ok 1 4 [(9, pp 3 0), (10, ii r1.2.2), (27, .agg #[ii a_Sorters, s0 0 a_Tables.length]), (28, ii b), (29, ii c), (30, .bool d)] rfl (by kernel_rfl) ?_
  obtain ⟨r2, r2_h, h⟩ := bS h
  refine XR.call E0_ok [9, 10, 31] rfl (K := 31) (args := [.agg #[ii a_Sorters, s0 0 a_Tables.length], ii b, ii c, .bool d]) (d := (some (path 12 31))) (by kernel_rfl) (KC.liftH (n0 := 1) (m := 1) (args0 := [.agg #[ii a_Sorters, s0 0 a_Tables.length], ii b, ii c, .bool d]) (h0 := [(0, rc encP a_Tables (z0 + ((rowC encP a_Tables).length + 1)) y0 2)]) (V := .tuple #[.agg #[ii r2.1, s0 1 r2.2.1.length], ii r2.2.2]) (V2 := .tuple #[.agg #[ii r2.1, s0 4 r2.2.1.length], ii r2.2.2]) (H := [(1, rc encP r2.2.1 0 55 2)]) (H2 := [(4, rc encP r2.2.1 0 55 2)]) [0] [2, 3, 4, 5, 1] (f31_ok m (z0 + ((rowC encP a_Tables).length + 1)) y0 a_Sorters a_Tables b c d r2 r2_h) (by rfl) (by decide) rfl (by kernel_rfl) ⟨⟨_, _, rfl, rfl, .inl ⟨rfl, rowC_scal encP_ok _⟩⟩, trivial⟩ (by decide) (by decide) (by kernel_rfl) ⟨⟨_, _, rfl, rfl, .inl ⟨rfl, rowC_scal encP_ok _⟩⟩, trivial⟩ (by rfl)) ?_
  rintro _ _ _ ⟨rfl, rfl, rfl⟩
  refine XR.conv (σ' := [(9, pp 3 0), (10, ii r1.2.2), (31, .tuple #[.agg #[ii r2.1, s0 4 r2.2.1.length], ii r2.2.2])]) (h' := [(4, rc encP r2.2.1 0 55 2), (3, .cells [ii r1.1, s0 2 r1.2.1.length] 0 34 0), (2, rc encP r1.2.1 0 55 2), (1, .cells [ii a_Sorters, s0 0 a_Tables.length] 0 34 0), (0, rc encP a_Tables z0 y0 2)]) (c' := 5) ?_ (by kernel_rfl)
  refine XR.runT E0_ok 1 6 [(9, pp 3 0), (10, ii r1.2.2), (11, pp 5 0), (12, ii r2.2.2)] [(5, .cells [ii r2.1, s0 4 r2.2.1.length] 0 37 0), (4, rc encP r2.2.1 0 55 2), (3, .cells [ii r1.1, s0 2 r1.2.1.length] 0 34 0), (2, rc encP r1.2.1 0 55 2), (1, .cells [ii a_Sorters, s0 0 a_Tables.length] 0 34 0), (0, rc encP a_Tables z0 y0 2)] 6 rfl (by kernel_rfl) ?_
  refine XR.done (by kernel_rfl) ?_
  show XQ _ _ _ _ _ _ _ _
  refine XQ.seq E0_ok (by kernel_rfl) ?_
  refine XQ.region (by kernel_rfl) ?_
  refine XR.runS E0_ok 1 2 [(10, ii r1.2.2), (12, ii r2.2.2), (34, .agg #[ii r1.1, s0 2 r1.2.1.length]), (35, .agg #[ii r2.1, s0 4 r2.2.1.length])] rfl (by kernel_rfl) ?_
  refine XR.callK E0_ok [10, 12, 36] rfl (K := 25) (args := [.agg #[ii r1.1, s0 2 r1.2.1.length], .agg #[ii r2.1, s0 4 r2.2.1.length]]) (d := (some (path 12 36))) (by kernel_rfl) ?_
  refine KC.bodyN E0_ok (F := Proofs.Tryd.f25) (by kernel_rfl) (code := f5_C25) (by kernel_rfl) (nt := 17) (by kernel_rfl) (rs := [.tmp 4]) (by kernel_rfl) (by kernel_rfl) (σ := [(0, .agg #[ii r1.1, s0 2 r1.2.1.length]), (1, .agg #[ii r2.1, s0 4 r2.2.1.length])]) (by kernel_rfl) ?_
  refine XQ.seq E0_ok (by kernel_rfl) ?_
  refine XQ.region (by kernel_rfl) ?_
  refine XR.runT E0_ok 1 3 [(2, pp 6 0), (3, pp 7 0)] [(7, .cells [ii r2.1, s0 4 r2.2.1.length] 0 37 0), (6, .cells [ii r1.1, s0 2 r1.2.1.length] 0 34 0), (5, .cells [ii r2.1, s0 4 r2.2.1.length] 0 37 0), (4, rc encP r2.2.1 0 55 2), (3, .cells [ii r1.1, s0 2 r1.2.1.length] 0 34 0), (2, rc encP r1.2.1 0 55 2), (1, .cells [ii a_Sorters, s0 0 a_Tables.length] 0 34 0), (0, rc encP a_Tables z0 y0 2)] 8 rfl (by kernel_rfl) ?_
  refine XR.done (by kernel_rfl) ?_
  show XQ _ _ _ _ _ _ _ _
  refine XQ.seq E0_ok (by kernel_rfl) ?_
  refine XQ.region (by kernel_rfl) ?_
  refine XR.runS E0_ok 1 6 [(2, pp 6 0), (3, pp 7 0), (10, .bool (r1.1 == r2.1))] rfl (by kernel_rfl) ?_
  cases b2 : (r1.1 == r2.1 : Bool) with
  | true =>
   have h := cT b2 h
   refine XR.runS E0_ok 1 4 [(10, .bool true), (12, s0 2 r1.2.1.length), (14, s0 4 r2.2.1.length)] rfl (by kernel_rfl) ?_
   refine XR.callK E0_ok [10, 15] rfl (K := 39) (args := [s0 2 r1.2.1.length, s0 4 r2.2.1.length]) (d := (some (path 12 15))) (by kernel_rfl) ?_
   refine KC.bodyN E0_ok (F := Proofs.Tryd.f39) (by kernel_rfl) (code := f5_C39) (by kernel_rfl) (nt := 26) (by kernel_rfl) (rs := [.tmp 4]) (by kernel_rfl) (by kernel_rfl) (σ := [(0, s0 2 r1.2.1.length), (1, s0 4 r2.2.1.length)]) (by kernel_rfl) ?_
   refine XQ.seq E0_ok (by kernel_rfl) ?_
   refine XQ.region (by kernel_rfl) ?_
   refine XR.runS E0_ok 1 1 [(0, s0 2 r1.2.1.length), (1, s0 4 r2.2.1.length)] rfl (by kernel_rfl) ?_
   refine XR.done (by kernel_rfl) ?_
   show XQ _ _ _ _ _ _ _ _
   refine XQ.seq E0_ok (by kernel_rfl) ?_
   refine XQ.seq E0_ok (by kernel_rfl) ?_
   refine XQ.region (by kernel_rfl) ?_
   refine XR.runS E0_ok 1 5 [(0, s0 2 r1.2.1.length), (1, s0 4 r2.2.1.length), (10, .bool (((r1.2.1.length : Nat) : Int) != ((r2.2.1.length : Nat) : Int)))] rfl (by kernel_rfl) ?_
   refine XR.done (by kernel_rfl) ?_
   show XQ _ _ _ _ _ _ _ _
   cases b3 : (((r1.2.1.length : Nat) : Int) != ((r2.2.1.length : Nat) : Int) : Bool) with
   | true =>
    have h := cT b3 h
    refine XQ.cond (s := (.tmp 10)) (b := true) (by kernel_rfl) (by kernel_rfl) (fun _ => ?_) (fun q => by cases q)
    refine XQ.seq E0_ok (by kernel_rfl) ?_
    refine XQ.region (by kernel_rfl) ?_
    refine XR.runS E0_ok 1 1 [(4, .bool false)] rfl (by kernel_rfl) ?_
    refine XR.done (by kernel_rfl) ?_
    show XQ _ _ _ _ _ _ _ _
    refine XQ.ret (by kernel_rfl) ?_
    refine ⟨fun i q => (by cases q), .bool false, (by kernel_rfl), ?_⟩
    refine XR.conv (σ' := [(10, .bool true), (15, .bool false)]) (h' := [(7, .cells [ii r2.1, s0 4 r2.2.1.length] 0 37 0), (6, .cells [ii r1.1, s0 2 r1.2.1.length] 0 34 0), (5, .cells [ii r2.1, s0 4 r2.2.1.length] 0 37 0), (4, rc encP r2.2.1 0 55 2), (3, .cells [ii r1.1, s0 2 r1.2.1.length] 0 34 0), (2, rc encP r1.2.1 0 55 2), (1, .cells [ii a_Sorters, s0 0 a_Tables.length] 0 34 0), (0, rc encP a_Tables z0 y0 2)]) (c' := 8) ?_ (by kernel_rfl)
    refine XR.runS E0_ok 1 2 [(4, .bool false)] rfl (by kernel_rfl) ?_
    refine XR.done (by kernel_rfl) ?_
    show XQ _ _ _ _ _ _ _ _
    refine XQ.ret (by kernel_rfl) ?_
    refine ⟨fun i q => (by cases q), .bool false, (by kernel_rfl), ?_⟩
    refine XR.conv (σ' := [(10, ii r1.2.2), (12, ii r2.2.2), (36, .bool false)]) (h' := [(7, .cells [ii r2.1, s0 4 r2.2.1.length] 0 37 0), (6, .cells [ii r1.1, s0 2 r1.2.1.length] 0 34 0), (5, .cells [ii r2.1, s0 4 r2.2.1.length] 0 37 0), (4, rc encP r2.2.1 0 55 2), (3, .cells [ii r1.1, s0 2 r1.2.1.length] 0 34 0), (2, rc encP r1.2.1 0 55 2), (1, .cells [ii a_Sorters, s0 0 a_Tables.length] 0 34 0), (0, rc encP a_Tables z0 y0 2)]) (c' := 8) ?_ (by kernel_rfl)
    refine XR.runS E0_ok 1 9 [(8, .bool false)] rfl (by kernel_rfl) ?_
    refine XR.done (by kernel_rfl) ?_
    show XQ _ _ _ _ _ _ _ _
    refine XQ.ret (by kernel_rfl) ?_
    have h := Option.some.inj h
    subst h
    exact ⟨fun i q => (by cases q), .bool false, (by kernel_rfl), rfl⟩
   | false =>
    have h := cF b3 h
    refine XQ.cond (s := (.tmp 10)) (b := false) (by kernel_rfl) (by kernel_rfl) (fun q => by cases q) (fun _ => ?_)
    refine XQ.skip (by kernel_rfl) ?_
    show XQ _ _ _ _ _ _ _ _
    refine XQ.seq E0_ok (by kernel_rfl) ?_
    refine XQ.seq E0_ok (by kernel_rfl) ?_
    refine XQ.region (by kernel_rfl) ?_
    refine XR.runS E0_ok 1 1 [(0, s0 2 r1.2.1.length), (1, s0 4 r2.2.1.length), (5, ii 0)] rfl (by kernel_rfl) ?_
    refine XR.done (by kernel_rfl) ?_
    show XQ _ _ _ _ _ _ _ _
    refine XQ.block (id := 0) (by kernel_rfl) ?_
    refine XQ.loop m (by kernel_rfl) ?_
    obtain ⟨o1, o1_h, h⟩ := bS h
    refine XL.ren (σ' := [(0, s0 2 r1.2.1.length), (1, s0 4 r2.2.1.length), (5, ii 0)]) (h' := [(7, .cells [ii r2.1, s0 4 r2.2.1.length] 0 37 0), (6, .cells [ii r1.1, s0 2 r1.2.1.length] 0 34 0), (5, .cells [ii r2.1, s0 4 r2.2.1.length] 0 37 0), (4, rc encP r2.2.1 0 55 2), (3, .cells [ii r1.1, s0 2 r1.2.1.length] 0 34 0), (2, rc encP r1.2.1 0 55 2), (1, .cells [ii a_Sorters, s0 0 a_Tables.length] 0 34 0), (0, rc encP a_Tables z0 y0 2)]) (c' := 8) [0, 1, 2, 3, 4, 5, 6, 7] (by decide) rfl ⟨by kernel_rfl, by kernel_rfl, by kernel_rfl, trivial⟩ ⟨⟨_, _, rfl, rfl, .inr ⟨_, _, _, _, rfl, rfl⟩⟩, ⟨_, _, rfl, rfl, .inr ⟨_, _, _, _, rfl, rfl⟩⟩, ⟨_, _, rfl, rfl, .inr ⟨_, _, _, _, rfl, rfl⟩⟩, ⟨_, _, rfl, rfl, .inl ⟨rfl, rowC_scal encP_ok _⟩⟩, ⟨_, _, rfl, rfl, .inr ⟨_, _, _, _, rfl, rfl⟩⟩, ⟨_, _, rfl, rfl, .inl ⟨rfl, rowC_scal encP_ok _⟩⟩, ⟨_, _, rfl, rfl, .inr ⟨_, _, _, _, rfl, rfl⟩⟩, ⟨_, _, rfl, rfl, .inl ⟨rfl, rowC_scal encP_ok _⟩⟩, trivial⟩ rfl ?_
    cases o1 with
    | r lh2_r1 xh3_0_r1 lh4_r1 xh5_0_r1 xh6_0_r1 xh7_0_r1 =>
     dsimp only at h
     refine XL.conv (f5_1_ok m m z0 y0 a_Sorters a_Tables 0 r1.2.1 r1.1 r2.2.1 r2.1 r1.1 r2.1 (.r lh2_r1 xh3_0_r1 lh4_r1 xh5_0_r1 xh6_0_r1 xh7_0_r1) o1_h _ ?_) (by first | rfl | simp)
     refine ⟨fun i q => (by cases q), .bool false, (by kernel_rfl), ?_⟩
     refine XR.conv (σ' := [(10, .bool true), (15, .bool false)]) (h' := [(7, .cells [ii xh7_0_r1, s0 4 lh4_r1.length] 0 37 0), (6, .cells [ii xh6_0_r1, s0 2 lh2_r1.length] 0 34 0), (5, .cells [ii xh5_0_r1, s0 4 lh4_r1.length] 0 37 0), (4, rc encP lh4_r1 0 55 2), (3, .cells [ii xh3_0_r1, s0 2 lh2_r1.length] 0 34 0), (2, rc encP lh2_r1 0 55 2), (1, .cells [ii a_Sorters, s0 0 a_Tables.length] 0 34 0), (0, rc encP a_Tables z0 y0 2)]) (c' := 8) ?_ (by kernel_rfl)
     refine XR.runS E0_ok 1 2 [(4, .bool false)] rfl (by kernel_rfl) ?_
     refine XR.done (by kernel_rfl) ?_
     show XQ _ _ _ _ _ _ _ _
     refine XQ.ret (by kernel_rfl) ?_
     refine ⟨fun i q => (by cases q), .bool false, (by kernel_rfl), ?_⟩
     refine XR.conv (σ' := [(10, ii r1.2.2), (12, ii r2.2.2), (36, .bool false)]) (h' := [(7, .cells [ii xh7_0_r1, s0 4 lh4_r1.length] 0 37 0), (6, .cells [ii xh6_0_r1, s0 2 lh2_r1.length] 0 34 0), (5, .cells [ii xh5_0_r1, s0 4 lh4_r1.length] 0 37 0), (4, rc encP lh4_r1 0 55 2), (3, .cells [ii xh3_0_r1, s0 2 lh2_r1.length] 0 34 0), (2, rc encP lh2_r1 0 55 2), (1, .cells [ii a_Sorters, s0 0 a_Tables.length] 0 34 0), (0, rc encP a_Tables z0 y0 2)]) (c' := 8) ?_ (by kernel_rfl)
     refine XR.runS E0_ok 1 9 [(8, .bool false)] rfl (by kernel_rfl) ?_
     refine XR.done (by kernel_rfl) ?_
     show XQ _ _ _ _ _ _ _ _
     refine XQ.ret (by kernel_rfl) ?_
     have h := Option.some.inj h
     subst h
     exact ⟨fun i q => (by cases q), .bool false, (by kernel_rfl), rfl⟩
    | x0 lh2_x01 xh3_0_x01 lh4_x01 xh5_0_x01 xh6_0_x01 xh7_0_x01 =>
     dsimp only at h
     refine XL.conv (f5_1_ok m m z0 y0 a_Sorters a_Tables 0 r1.2.1 r1.1 r2.2.1 r2.1 r1.1 r2.1 (.x0 lh2_x01 xh3_0_x01 lh4_x01 xh5_0_x01 xh6_0_x01 xh7_0_x01) o1_h _ ?_) (by first | rfl | simp)
     show XQ _ _ _ _ _ _ _ _
     refine XQ.seq E0_ok (by kernel_rfl) ?_
     refine XQ.region (by kernel_rfl) ?_
     refine XR.runS E0_ok 1 1 [(4, .bool true)] rfl (by kernel_rfl) ?_
     refine XR.done (by kernel_rfl) ?_
     show XQ _ _ _ _ _ _ _ _
     refine XQ.ret (by kernel_rfl) ?_
     refine ⟨fun i q => (by cases q), .bool true, (by kernel_rfl), ?_⟩
     refine XR.conv (σ' := [(10, .bool true), (15, .bool true)]) (h' := [(7, .cells [ii xh7_0_x01, s0 4 lh4_x01.length] 0 37 0), (6, .cells [ii xh6_0_x01, s0 2 lh2_x01.length] 0 34 0), (5, .cells [ii xh5_0_x01, s0 4 lh4_x01.length] 0 37 0), (4, rc encP lh4_x01 0 55 2), (3, .cells [ii xh3_0_x01, s0 2 lh2_x01.length] 0 34 0), (2, rc encP lh2_x01 0 55 2), (1, .cells [ii a_Sorters, s0 0 a_Tables.length] 0 34 0), (0, rc encP a_Tables z0 y0 2)]) (c' := 8) ?_ (by kernel_rfl)
     refine XR.runS E0_ok 1 2 [(4, .bool true)] rfl (by kernel_rfl) ?_
     refine XR.done (by kernel_rfl) ?_
     show XQ _ _ _ _ _ _ _ _
     refine XQ.ret (by kernel_rfl) ?_
     refine ⟨fun i q => (by cases q), .bool true, (by kernel_rfl), ?_⟩
     refine XR.conv (σ' := [(10, ii r1.2.2), (12, ii r2.2.2), (36, .bool true)]) (h' := [(7, .cells [ii xh7_0_x01, s0 4 lh4_x01.length] 0 37 0), (6, .cells [ii xh6_0_x01, s0 2 lh2_x01.length] 0 34 0), (5, .cells [ii xh5_0_x01, s0 4 lh4_x01.length] 0 37 0), (4, rc encP lh4_x01 0 55 2), (3, .cells [ii xh3_0_x01, s0 2 lh2_x01.length] 0 34 0), (2, rc encP lh2_x01 0 55 2), (1, .cells [ii a_Sorters, s0 0 a_Tables.length] 0 34 0), (0, rc encP a_Tables z0 y0 2)]) (c' := 8) ?_ (by kernel_rfl)
     refine XR.runS E0_ok 1 6 [(42, .bool (r1.2.2 == r2.2.2))] rfl (by kernel_rfl) ?_
     cases b5 : (r1.2.2 == r2.2.2 : Bool) with
     | true =>
      have h := cT b5 h
      refine XR.call E0_ok [42, 43] rfl (K := 14) (args := []) (d := (some (path 12 43))) (by kernel_rfl) (KC.of_calls E0_ok (F := Proofs.Tryd.f14) (v := .bool true) (by kernel_rfl) rfl rfl (works_ok)) ?_
      rintro _ _ _ ⟨rfl, rfl, rfl⟩
      refine XR.conv (σ' := [(42, .bool true), (43, .bool true)]) (h' := [(7, .cells [ii xh7_0_x01, s0 4 lh4_x01.length] 0 37 0), (6, .cells [ii xh6_0_x01, s0 2 lh2_x01.length] 0 34 0), (5, .cells [ii xh5_0_x01, s0 4 lh4_x01.length] 0 37 0), (4, rc encP lh4_x01 0 55 2), (3, .cells [ii xh3_0_x01, s0 2 lh2_x01.length] 0 34 0), (2, rc encP lh2_x01 0 55 2), (1, .cells [ii a_Sorters, s0 0 a_Tables.length] 0 34 0), (0, rc encP a_Tables z0 y0 2)]) (c' := 8) ?_ (by kernel_rfl)
      refine XR.runS E0_ok 1 2 [(8, .bool true)] rfl (by kernel_rfl) ?_
      refine XR.done (by kernel_rfl) ?_
      show XQ _ _ _ _ _ _ _ _
      refine XQ.ret (by kernel_rfl) ?_
      have h := Option.some.inj h
      subst h
      exact ⟨fun i q => (by cases q), .bool true, (by kernel_rfl), rfl⟩
     | false =>
      have h := cF b5 h
      refine XR.runS E0_ok 1 3 [(8, .bool false)] rfl (by kernel_rfl) ?_
      refine XR.done (by kernel_rfl) ?_
      show XQ _ _ _ _ _ _ _ _
      refine XQ.ret (by kernel_rfl) ?_
      have h := Option.some.inj h
      subst h
      exact ⟨fun i q => (by cases q), .bool false, (by kernel_rfl), rfl⟩
  | false =>
   have h := cF b2 h
   refine XR.runS E0_ok 1 7 [(4, .bool false)] rfl (by kernel_rfl) ?_
   refine XR.done (by kernel_rfl) ?_
   show XQ _ _ _ _ _ _ _ _
   refine XQ.ret (by kernel_rfl) ?_
   refine ⟨fun i q => (by cases q), .bool false, (by kernel_rfl), ?_⟩
   refine XR.conv (σ' := [(10, ii r1.2.2), (12, ii r2.2.2), (36, .bool false)]) (h' := [(7, .cells [ii r2.1, s0 4 r2.2.1.length] 0 37 0), (6, .cells [ii r1.1, s0 2 r1.2.1.length] 0 34 0), (5, .cells [ii r2.1, s0 4 r2.2.1.length] 0 37 0), (4, rc encP r2.2.1 0 55 2), (3, .cells [ii r1.1, s0 2 r1.2.1.length] 0 34 0), (2, rc encP r1.2.1 0 55 2), (1, .cells [ii a_Sorters, s0 0 a_Tables.length] 0 34 0), (0, rc encP a_Tables z0 y0 2)]) (c' := 8) ?_ (by kernel_rfl)
   refine XR.runS E0_ok 1 9 [(8, .bool false)] rfl (by kernel_rfl) ?_
   refine XR.done (by kernel_rfl) ?_
   show XQ _ _ _ _ _ _ _ _
   refine XQ.ret (by kernel_rfl) ?_
   have h := Option.some.inj h
   subst h
   exact ⟨fun i q => (by cases q), .bool false, (by kernel_rfl), rfl⟩

end Go.Xm
