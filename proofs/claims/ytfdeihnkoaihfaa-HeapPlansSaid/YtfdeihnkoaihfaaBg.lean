/- What these functions of the program compute, as functions in Lean, and the proofs that they do: vitolaref02.Plan, vitolaref02.Verify, vitolaref02.Crowd, vitolaref02.Why, vitolaref02.Fewest. Conditions: none. -/
import Derived.Test.YtfdeihnkoaihfaaBe
namespace Go.Xm
open Go.RowKit
set_option linter.unusedVariables false
set_option linter.unusedSimpArgs false
set_option maxRecDepth 20000

/-! vitola/vitolaref02.Plan -/
noncomputable def f19_C19 : Code := Proofs.Try.f19.body.getD .skip
noncomputable def f19_L1 : Code := lft (lft (rgt (lft (rgt (rgt (rgt (rgt (rgt f19_C19))))))))
noncomputable def f19_L2 : Code := lft (lft (lft (rgt (lft (lft (rgt f19_L1))))))
noncomputable def f19_L3 : Code := lft (lft (lft (rgt (lft (lft (rgt f19_L1))))))
noncomputable def f19_L4 : Code := lft (lft (rgt (lft (rgt (rgt (rgt (rgt (rgt f19_C19))))))))
noncomputable def f19_L5 : Code := lft (lft (lft (rgt (lft (lft (rgt f19_L4))))))
noncomputable def f19_L6 : Code := lft (lft (lft (rgt (lft (lft (rgt f19_L4))))))

def f19_1 (m : Nat) : Nat → List (Int × Int) → Int → Int → Option Int
  | 0, _, _, _ => none
  | fuel + 1, a, b, x9_1 =>
    (f61 m a 0 x9_1).bind fun r10 =>
      (f60 m r10 b).bind fun r11 =>
        cond (!r11) (
          f19_1 m fuel a b (w64 (x9_1 + 1))
        ) (
          some (x9_1)
        )

theorem f19_1_ok (m : Nat) : ∀ (fuel : Nat) (z0 : Nat) (y0 : Nat) (a : List (Int × Int)) (b : Int) (x9_1 : Int) (o : Int), f19_1 m fuel a b x9_1 = some o → ∀ Q : QP, Q (.exit 2) [(0, .slice (some ⟨0, 0, none⟩) a.length a.length), (1, .int .i64 b), (7, .slice (some ⟨1, 0, none⟩) 0 0), (8, .int .i64 0), (9, .int .i64 o)] [(1, .cells (rowC (encI .i64) []) 0 3 1), (0, .cells (rowC encP a) z0 y0 2)] 2 → XL E0 53 1 fuel f19_L2 [(0, .slice (some ⟨0, 0, none⟩) a.length a.length), (1, .int .i64 b), (7, .slice (some ⟨1, 0, none⟩) 0 0), (8, .int .i64 0), (9, .int .i64 x9_1)] [(1, .cells (rowC (encI .i64) []) 0 3 1), (0, .cells (rowC encP a) z0 y0 2)] 2 Q
  | 0, z0, y0, a, b, x9_1, o, h, Q, hQ => by cases h
  | fuel + 1, z0, y0, a, b, x9_1, o, h, Q, hQ => by
    unfold f19_1 at h
    refine XL.succ E0_ok ?_
    refine XQ.seq E0_ok (by kernel_rfl) ?_
    refine XQ.seq E0_ok (by kernel_rfl) ?_
    refine XQ.region (by kernel_rfl) ?_
    refine XR.run E0_ok 1 3 [0, 1, 7, 8, 9, 35, 36, 37] rfl (σ' := [(0, .slice (some ⟨0, 0, none⟩) a.length a.length), (1, .int .i64 b), (7, .slice (some ⟨1, 0, none⟩) 0 0), (8, .int .i64 0), (9, .int .i64 x9_1), (35, .slice (some ⟨0, 0, none⟩) a.length a.length), (36, .int .i64 0), (37, .int .i64 x9_1)]) (h' := [(1, .cells (rowC (encI .i64) []) 0 3 1), (0, .cells (rowC encP a) z0 y0 2)]) (c' := 2) (by kernel_rfl) ?_
    obtain ⟨r10, r10_h, h⟩ := bS h
    refine XR.call E0_ok [0, 1, 7, 8, 9, 38] rfl (K := 61) (args := [.slice (some ⟨0, 0, none⟩) a.length a.length, .int .i64 0, .int .i64 x9_1]) (d := (some (path 12 38))) (by kernel_rfl) (KC.liftH (n0 := 1) (m := 1) (args0 := [.slice (some ⟨0, 0, none⟩) a.length a.length, .int .i64 0, .int .i64 x9_1]) (h0 := [(0, .cells (rowC encP a) (z0 + ((rowC encP a).length + 1)) y0 2)]) (V := .slice (some ⟨1, 0, none⟩) r10.length r10.length) (V2 := .slice (some ⟨2, 0, none⟩) r10.length r10.length) (H := [(1, .cells (rowC encP r10) 0 83 2)]) (H2 := [(2, .cells (rowC encP r10) 0 83 2)]) [0] [2, 3, 1] (f61_ok m (z0 + ((rowC encP a).length + 1)) y0 a 0 x9_1 r10 r10_h) (by rfl) (by decide) rfl (by kernel_rfl) ⟨⟨_, _, rfl, rfl, .inl ⟨rfl, rowC_scal encP_ok _⟩⟩, trivial⟩ (by decide) (by decide) (by kernel_rfl) ⟨⟨_, _, rfl, rfl, .inl ⟨rfl, rowC_scal encP_ok _⟩⟩, trivial⟩ (by rfl)) ?_
    rintro _ _ _ ⟨rfl, rfl, rfl⟩
    refine XR.conv (σ' := [(0, .slice (some ⟨0, 0, none⟩) a.length a.length), (1, .int .i64 b), (7, .slice (some ⟨1, 0, none⟩) 0 0), (8, .int .i64 0), (9, .int .i64 x9_1), (38, .slice (some ⟨2, 0, none⟩) r10.length r10.length)]) (h' := [(2, .cells (rowC encP r10) 0 83 2), (1, .cells (rowC (encI .i64) []) 0 3 1), (0, .cells (rowC encP a) z0 y0 2)]) (c' := 3) ?_ (by kernel_rfl)
    refine XR.run E0_ok 1 1 [0, 1, 7, 8, 9, 38, 39] rfl (σ' := [(0, .slice (some ⟨0, 0, none⟩) a.length a.length), (1, .int .i64 b), (7, .slice (some ⟨1, 0, none⟩) 0 0), (8, .int .i64 0), (9, .int .i64 x9_1), (38, .slice (some ⟨2, 0, none⟩) r10.length r10.length), (39, .int .i64 b)]) (h' := [(2, .cells (rowC encP r10) 0 83 2), (1, .cells (rowC (encI .i64) []) 0 3 1), (0, .cells (rowC encP a) z0 y0 2)]) (c' := 3) (by kernel_rfl) ?_
    obtain ⟨r11, r11_h, h⟩ := bS h
    refine XR.call E0_ok [0, 1, 7, 8, 9, 40] rfl (K := 60) (args := [.slice (some ⟨2, 0, none⟩) r10.length r10.length, .int .i64 b]) (d := (some (path 12 40))) (by kernel_rfl) (KQ.call (KC.quiet E0_ok (args0 := [.slice (some ⟨0, 0, none⟩) r10.length r10.length, .int .i64 b]) (h0 := [(0, .cells (rowC encP r10) (0 + ((rowC encP r10).length + 1)) 83 2)]) (n := 1) (V := .bool r11) [2] (f60_ok m (0 + ((rowC encP r10).length + 1)) 83 r10 b r11 r11_h) rfl (by rfl) (by decide) rfl (by kernel_rfl) ⟨⟨_, _, rfl, rfl, .inl ⟨rfl, rowC_scal encP_ok _⟩⟩, trivial⟩) rfl) ?_
    rintro _ _ _ ⟨rfl, rfl, rfl⟩
    refine XR.conv (σ' := [(0, .slice (some ⟨0, 0, none⟩) a.length a.length), (1, .int .i64 b), (7, .slice (some ⟨1, 0, none⟩) 0 0), (8, .int .i64 0), (9, .int .i64 x9_1), (40, .bool r11)]) (h' := [(2, .cells (rowC encP r10) 0 83 2), (1, .cells (rowC (encI .i64) []) 0 3 1), (0, .cells (rowC encP a) z0 y0 2)]) (c' := 3) ?_ (by kernel_rfl)
    refine XR.run E0_ok 1 1 [0, 1, 7, 8, 9, 41] rfl (σ' := [(0, .slice (some ⟨0, 0, none⟩) a.length a.length), (1, .int .i64 b), (7, .slice (some ⟨1, 0, none⟩) 0 0), (8, .int .i64 0), (9, .int .i64 x9_1), (41, .bool (!r11))]) (h' := [(2, .cells (rowC encP r10) 0 83 2), (1, .cells (rowC (encI .i64) []) 0 3 1), (0, .cells (rowC encP a) z0 y0 2)]) (c' := 3) (by kernel_rfl) ?_
    refine XR.done (by kernel_rfl) ?_
    show XQ _ _ _ _ _ _ _ _
    cases b1 : (!r11 : Bool) with
    | true =>
      have h := cT b1 h
      refine XQ.cond (s := (.tmp 41)) (b := true) (by kernel_rfl) (by kernel_rfl) (fun _ => ?_) (fun q => by cases q)
      refine XQ.skip (by kernel_rfl) ?_
      show XQ _ _ _ _ _ _ _ _
      refine XQ.block (id := 3) (by kernel_rfl) ?_
      refine XQ.region (by kernel_rfl) ?_
      refine XR.run E0_ok 1 3 [0, 1, 7, 8, 9] rfl (σ' := [(0, .slice (some ⟨0, 0, none⟩) a.length a.length), (1, .int .i64 b), (7, .slice (some ⟨1, 0, none⟩) 0 0), (8, .int .i64 0), (9, .int .i64 (w64 (x9_1 + 1)))]) (h' := [(2, .cells (rowC encP r10) 0 83 2), (1, .cells (rowC (encI .i64) []) 0 3 1), (0, .cells (rowC encP a) z0 y0 2)]) (c' := 3) (by kernel_rfl) ?_
      refine XR.done (by kernel_rfl) ?_
      show XL _ _ _ _ _ _ _ _ _
      refine XL.ren (σ' := [(0, .slice (some ⟨0, 0, none⟩) a.length a.length), (1, .int .i64 b), (7, .slice (some ⟨1, 0, none⟩) 0 0), (8, .int .i64 0), (9, .int .i64 (w64 (x9_1 + 1)))]) (h' := [(1, .cells (rowC (encI .i64) []) 0 3 1), (0, .cells (rowC encP a) z0 y0 2)]) (c' := 2) [0, 1] (by decide) rfl ⟨by kernel_rfl, by kernel_rfl, by kernel_rfl, by kernel_rfl, by kernel_rfl, trivial⟩ ⟨⟨_, _, rfl, rfl, .inl ⟨rfl, rowC_scal (encI_ok .i64) _⟩⟩, ⟨_, _, rfl, rfl, .inl ⟨rfl, rowC_scal encP_ok _⟩⟩, trivial⟩ rfl ?_
      refine XL.conv (f19_1_ok m fuel z0 y0 a b (w64 (x9_1 + 1)) o h Q hQ) (by first | rfl | simp)
    | false =>
      have h := cF b1 h
      refine XQ.cond (s := (.tmp 41)) (b := false) (by kernel_rfl) (by kernel_rfl) (fun q => by cases q) (fun _ => ?_)
      refine XQ.ren (σ' := [(0, .slice (some ⟨0, 0, none⟩) a.length a.length), (1, .int .i64 b), (7, .slice (some ⟨1, 0, none⟩) 0 0), (8, .int .i64 0), (9, .int .i64 x9_1)]) (h' := [(1, .cells (rowC (encI .i64) []) 0 3 1), (0, .cells (rowC encP a) z0 y0 2)]) (c' := 2) [0, 1] (by decide) rfl ⟨by kernel_rfl, by kernel_rfl, by kernel_rfl, by kernel_rfl, by kernel_rfl, trivial⟩ ⟨⟨_, _, rfl, rfl, .inl ⟨rfl, rowC_scal (encI_ok .i64) _⟩⟩, ⟨_, _, rfl, rfl, .inl ⟨rfl, rowC_scal encP_ok _⟩⟩, trivial⟩ rfl ?_
      refine XQ.exit (i := 2) (by kernel_rfl) ?_
      cases h
      exact hQ

def f19_3 (m : Nat) : Nat → List (Int × Int) → Int → Int → List (Int × Int) → List Int → Int → Option Int
  | 0, _, _, _, _, _, _ => none
  | fuel + 1, a, b, x8_2, lh1_2, lh2_2, x9_3 =>
    (f61 m lh1_2 x8_2 x9_3).bind fun r25 =>
      (f60 m r25 b).bind fun r26 =>
        cond (!r26) (
          f19_3 m fuel a b x8_2 lh1_2 lh2_2 (w64 (x9_3 + 1))
        ) (
          some (x9_3)
        )

theorem f19_3_ok (m : Nat) : ∀ (fuel : Nat) (z0 : Nat) (y0 : Nat) (a : List (Int × Int)) (b : Int) (x8_2 : Int) (lh1_2 : List (Int × Int)) (lh2_2 : List Int) (x9_3 : Int) (o : Int), f19_3 m fuel a b x8_2 lh1_2 lh2_2 x9_3 = some o → ∀ Q : QP, Q (.exit 2) [(0, .slice (some ⟨1, 0, none⟩) lh1_2.length lh1_2.length), (1, .int .i64 b), (7, .slice (some ⟨2, 0, none⟩) lh2_2.length lh2_2.length), (8, .int .i64 x8_2), (9, .int .i64 o)] [(2, .cells (rowC (encI .i64) lh2_2) 0 3 1), (1, .cells (rowC encP lh1_2) 0 83 2), (0, .cells (rowC encP a) z0 y0 2)] 3 → XL E0 53 1 fuel f19_L3 [(0, .slice (some ⟨1, 0, none⟩) lh1_2.length lh1_2.length), (1, .int .i64 b), (7, .slice (some ⟨2, 0, none⟩) lh2_2.length lh2_2.length), (8, .int .i64 x8_2), (9, .int .i64 x9_3)] [(2, .cells (rowC (encI .i64) lh2_2) 0 3 1), (1, .cells (rowC encP lh1_2) 0 83 2), (0, .cells (rowC encP a) z0 y0 2)] 3 Q
  | 0, z0, y0, a, b, x8_2, lh1_2, lh2_2, x9_3, o, h, Q, hQ => by cases h
  | fuel + 1, z0, y0, a, b, x8_2, lh1_2, lh2_2, x9_3, o, h, Q, hQ => by
    unfold f19_3 at h
    refine XL.succ E0_ok ?_
    refine XQ.seq E0_ok (by kernel_rfl) ?_
    refine XQ.seq E0_ok (by kernel_rfl) ?_
    refine XQ.region (by kernel_rfl) ?_
    refine XR.run E0_ok 1 3 [0, 1, 7, 8, 9, 35, 36, 37] rfl (σ' := [(0, .slice (some ⟨1, 0, none⟩) lh1_2.length lh1_2.length), (1, .int .i64 b), (7, .slice (some ⟨2, 0, none⟩) lh2_2.length lh2_2.length), (8, .int .i64 x8_2), (9, .int .i64 x9_3), (35, .slice (some ⟨1, 0, none⟩) lh1_2.length lh1_2.length), (36, .int .i64 x8_2), (37, .int .i64 x9_3)]) (h' := [(2, .cells (rowC (encI .i64) lh2_2) 0 3 1), (1, .cells (rowC encP lh1_2) 0 83 2), (0, .cells (rowC encP a) z0 y0 2)]) (c' := 3) (by kernel_rfl) ?_
    obtain ⟨r25, r25_h, h⟩ := bS h
    refine XR.call E0_ok [0, 1, 7, 8, 9, 38] rfl (K := 61) (args := [.slice (some ⟨1, 0, none⟩) lh1_2.length lh1_2.length, .int .i64 x8_2, .int .i64 x9_3]) (d := (some (path 12 38))) (by kernel_rfl) (KC.liftH (n0 := 1) (m := 1) (args0 := [.slice (some ⟨0, 0, none⟩) lh1_2.length lh1_2.length, .int .i64 x8_2, .int .i64 x9_3]) (h0 := [(0, .cells (rowC encP lh1_2) (0 + ((rowC encP lh1_2).length + 1)) 83 2)]) (V := .slice (some ⟨1, 0, none⟩) r25.length r25.length) (V2 := .slice (some ⟨3, 0, none⟩) r25.length r25.length) (H := [(1, .cells (rowC encP r25) 0 83 2)]) (H2 := [(3, .cells (rowC encP r25) 0 83 2)]) [1] [2, 3, 4, 1] (f61_ok m (0 + ((rowC encP lh1_2).length + 1)) 83 lh1_2 x8_2 x9_3 r25 r25_h) (by rfl) (by decide) rfl (by kernel_rfl) ⟨⟨_, _, rfl, rfl, .inl ⟨rfl, rowC_scal encP_ok _⟩⟩, trivial⟩ (by decide) (by decide) (by kernel_rfl) ⟨⟨_, _, rfl, rfl, .inl ⟨rfl, rowC_scal encP_ok _⟩⟩, trivial⟩ (by rfl)) ?_
    rintro _ _ _ ⟨rfl, rfl, rfl⟩
    refine XR.conv (σ' := [(0, .slice (some ⟨1, 0, none⟩) lh1_2.length lh1_2.length), (1, .int .i64 b), (7, .slice (some ⟨2, 0, none⟩) lh2_2.length lh2_2.length), (8, .int .i64 x8_2), (9, .int .i64 x9_3), (38, .slice (some ⟨3, 0, none⟩) r25.length r25.length)]) (h' := [(3, .cells (rowC encP r25) 0 83 2), (2, .cells (rowC (encI .i64) lh2_2) 0 3 1), (1, .cells (rowC encP lh1_2) 0 83 2), (0, .cells (rowC encP a) z0 y0 2)]) (c' := 4) ?_ (by kernel_rfl)
    refine XR.run E0_ok 1 1 [0, 1, 7, 8, 9, 38, 39] rfl (σ' := [(0, .slice (some ⟨1, 0, none⟩) lh1_2.length lh1_2.length), (1, .int .i64 b), (7, .slice (some ⟨2, 0, none⟩) lh2_2.length lh2_2.length), (8, .int .i64 x8_2), (9, .int .i64 x9_3), (38, .slice (some ⟨3, 0, none⟩) r25.length r25.length), (39, .int .i64 b)]) (h' := [(3, .cells (rowC encP r25) 0 83 2), (2, .cells (rowC (encI .i64) lh2_2) 0 3 1), (1, .cells (rowC encP lh1_2) 0 83 2), (0, .cells (rowC encP a) z0 y0 2)]) (c' := 4) (by kernel_rfl) ?_
    obtain ⟨r26, r26_h, h⟩ := bS h
    refine XR.call E0_ok [0, 1, 7, 8, 9, 40] rfl (K := 60) (args := [.slice (some ⟨3, 0, none⟩) r25.length r25.length, .int .i64 b]) (d := (some (path 12 40))) (by kernel_rfl) (KQ.call (KC.quiet E0_ok (args0 := [.slice (some ⟨0, 0, none⟩) r25.length r25.length, .int .i64 b]) (h0 := [(0, .cells (rowC encP r25) (0 + ((rowC encP r25).length + 1)) 83 2)]) (n := 1) (V := .bool r26) [3] (f60_ok m (0 + ((rowC encP r25).length + 1)) 83 r25 b r26 r26_h) rfl (by rfl) (by decide) rfl (by kernel_rfl) ⟨⟨_, _, rfl, rfl, .inl ⟨rfl, rowC_scal encP_ok _⟩⟩, trivial⟩) rfl) ?_
    rintro _ _ _ ⟨rfl, rfl, rfl⟩
    refine XR.conv (σ' := [(0, .slice (some ⟨1, 0, none⟩) lh1_2.length lh1_2.length), (1, .int .i64 b), (7, .slice (some ⟨2, 0, none⟩) lh2_2.length lh2_2.length), (8, .int .i64 x8_2), (9, .int .i64 x9_3), (40, .bool r26)]) (h' := [(3, .cells (rowC encP r25) 0 83 2), (2, .cells (rowC (encI .i64) lh2_2) 0 3 1), (1, .cells (rowC encP lh1_2) 0 83 2), (0, .cells (rowC encP a) z0 y0 2)]) (c' := 4) ?_ (by kernel_rfl)
    refine XR.run E0_ok 1 1 [0, 1, 7, 8, 9, 41] rfl (σ' := [(0, .slice (some ⟨1, 0, none⟩) lh1_2.length lh1_2.length), (1, .int .i64 b), (7, .slice (some ⟨2, 0, none⟩) lh2_2.length lh2_2.length), (8, .int .i64 x8_2), (9, .int .i64 x9_3), (41, .bool (!r26))]) (h' := [(3, .cells (rowC encP r25) 0 83 2), (2, .cells (rowC (encI .i64) lh2_2) 0 3 1), (1, .cells (rowC encP lh1_2) 0 83 2), (0, .cells (rowC encP a) z0 y0 2)]) (c' := 4) (by kernel_rfl) ?_
    refine XR.done (by kernel_rfl) ?_
    show XQ _ _ _ _ _ _ _ _
    cases b1 : (!r26 : Bool) with
    | true =>
      have h := cT b1 h
      refine XQ.cond (s := (.tmp 41)) (b := true) (by kernel_rfl) (by kernel_rfl) (fun _ => ?_) (fun q => by cases q)
      refine XQ.skip (by kernel_rfl) ?_
      show XQ _ _ _ _ _ _ _ _
      refine XQ.block (id := 3) (by kernel_rfl) ?_
      refine XQ.region (by kernel_rfl) ?_
      refine XR.run E0_ok 1 3 [0, 1, 7, 8, 9] rfl (σ' := [(0, .slice (some ⟨1, 0, none⟩) lh1_2.length lh1_2.length), (1, .int .i64 b), (7, .slice (some ⟨2, 0, none⟩) lh2_2.length lh2_2.length), (8, .int .i64 x8_2), (9, .int .i64 (w64 (x9_3 + 1)))]) (h' := [(3, .cells (rowC encP r25) 0 83 2), (2, .cells (rowC (encI .i64) lh2_2) 0 3 1), (1, .cells (rowC encP lh1_2) 0 83 2), (0, .cells (rowC encP a) z0 y0 2)]) (c' := 4) (by kernel_rfl) ?_
      refine XR.done (by kernel_rfl) ?_
      show XL _ _ _ _ _ _ _ _ _
      refine XL.ren (σ' := [(0, .slice (some ⟨1, 0, none⟩) lh1_2.length lh1_2.length), (1, .int .i64 b), (7, .slice (some ⟨2, 0, none⟩) lh2_2.length lh2_2.length), (8, .int .i64 x8_2), (9, .int .i64 (w64 (x9_3 + 1)))]) (h' := [(2, .cells (rowC (encI .i64) lh2_2) 0 3 1), (1, .cells (rowC encP lh1_2) 0 83 2), (0, .cells (rowC encP a) z0 y0 2)]) (c' := 3) [0, 1, 2] (by decide) rfl ⟨by kernel_rfl, by kernel_rfl, by kernel_rfl, by kernel_rfl, by kernel_rfl, trivial⟩ ⟨⟨_, _, rfl, rfl, .inl ⟨rfl, rowC_scal (encI_ok .i64) _⟩⟩, ⟨_, _, rfl, rfl, .inl ⟨rfl, rowC_scal encP_ok _⟩⟩, ⟨_, _, rfl, rfl, .inl ⟨rfl, rowC_scal encP_ok _⟩⟩, trivial⟩ rfl ?_
      refine XL.conv (f19_3_ok m fuel z0 y0 a b x8_2 lh1_2 lh2_2 (w64 (x9_3 + 1)) o h Q hQ) (by first | rfl | simp)
    | false =>
      have h := cF b1 h
      refine XQ.cond (s := (.tmp 41)) (b := false) (by kernel_rfl) (by kernel_rfl) (fun q => by cases q) (fun _ => ?_)
      refine XQ.ren (σ' := [(0, .slice (some ⟨1, 0, none⟩) lh1_2.length lh1_2.length), (1, .int .i64 b), (7, .slice (some ⟨2, 0, none⟩) lh2_2.length lh2_2.length), (8, .int .i64 x8_2), (9, .int .i64 x9_3)]) (h' := [(2, .cells (rowC (encI .i64) lh2_2) 0 3 1), (1, .cells (rowC encP lh1_2) 0 83 2), (0, .cells (rowC encP a) z0 y0 2)]) (c' := 3) [0, 1, 2] (by decide) rfl ⟨by kernel_rfl, by kernel_rfl, by kernel_rfl, by kernel_rfl, by kernel_rfl, trivial⟩ ⟨⟨_, _, rfl, rfl, .inl ⟨rfl, rowC_scal (encI_ok .i64) _⟩⟩, ⟨_, _, rfl, rfl, .inl ⟨rfl, rowC_scal encP_ok _⟩⟩, ⟨_, _, rfl, rfl, .inl ⟨rfl, rowC_scal encP_ok _⟩⟩, trivial⟩ rfl ?_
      refine XQ.exit (i := 2) (by kernel_rfl) ?_
      cases h
      exact hQ

def f19_2 (m : Nat) : Nat → List (Int × Int) → Int → Int → List (Int × Int) → List Int → Option (List Int)
  | 0, _, _, _, _, _ => none
  | fuel + 1, a, b, x8_2, lh1_2, lh2_2 =>
    cond (decide (x8_2 < ((lh1_2.length : Nat) : Int))) (
      cond (inRow x8_2 lh1_2.length) (
        (f19_3 m m a b x8_2 lh1_2 lh2_2 ((List.getD lh1_2 (Int.toNat x8_2) (0, 0)).1)).bind fun o3 =>
          (f61 m lh1_2 x8_2 o3).bind fun r27 =>
            cond (fitsB (lh2_2.length + 1) 8) (
              f19_2 m fuel a b (w64 (x8_2 + 1)) r27 (lh2_2 ++ [o3])
            ) none
      ) none
    ) (
      some (lh2_2)
    )

theorem f19_2_ok (m : Nat) : ∀ (fuel : Nat) (z0 : Nat) (y0 : Nat) (a : List (Int × Int)) (b : Int) (x8_2 : Int) (lh1_2 : List (Int × Int)) (lh2_2 : List Int) (o : (List Int)), f19_2 m fuel a b x8_2 lh1_2 lh2_2 = some o → ∀ Q : QP, Q (.exit 0) [(7, .slice (some ⟨1, 0, none⟩) o.length o.length)] [(1, .cells (rowC (encI .i64) o) 0 3 1), (0, .cells (rowC encP a) z0 y0 2)] 2 → XL E0 53 1 fuel f19_L1 [(0, .slice (some ⟨1, 0, none⟩) lh1_2.length lh1_2.length), (1, .int .i64 b), (7, .slice (some ⟨2, 0, none⟩) lh2_2.length lh2_2.length), (8, .int .i64 x8_2)] [(2, .cells (rowC (encI .i64) lh2_2) 0 3 1), (1, .cells (rowC encP lh1_2) 0 83 2), (0, .cells (rowC encP a) z0 y0 2)] 3 Q
  | 0, z0, y0, a, b, x8_2, lh1_2, lh2_2, o, h, Q, hQ => by cases h
  | fuel + 1, z0, y0, a, b, x8_2, lh1_2, lh2_2, o, h, Q, hQ => by
    unfold f19_2 at h
    refine XL.succ E0_ok ?_
    refine XQ.seq E0_ok (by kernel_rfl) ?_
    refine XQ.seq E0_ok (by kernel_rfl) ?_
    refine XQ.region (by kernel_rfl) ?_
    refine XR.run E0_ok 1 4 [0, 1, 7, 8, 27] rfl (σ' := [(0, .slice (some ⟨1, 0, none⟩) lh1_2.length lh1_2.length), (1, .int .i64 b), (7, .slice (some ⟨2, 0, none⟩) lh2_2.length lh2_2.length), (8, .int .i64 x8_2), (27, .bool (decide (x8_2 < ((lh1_2.length : Nat) : Int))))]) (h' := [(2, .cells (rowC (encI .i64) lh2_2) 0 3 1), (1, .cells (rowC encP lh1_2) 0 83 2), (0, .cells (rowC encP a) z0 y0 2)]) (c' := 3) (by kernel_rfl) ?_
    refine XR.done (by kernel_rfl) ?_
    show XQ _ _ _ _ _ _ _ _
    cases b1 : (decide (x8_2 < ((lh1_2.length : Nat) : Int)) : Bool) with
    | true =>
      have h := cT b1 h
      refine XQ.cond (s := (.tmp 27)) (b := true) (by kernel_rfl) (by kernel_rfl) (fun _ => ?_) (fun q => by cases q)
      refine XQ.skip (by kernel_rfl) ?_
      show XQ _ _ _ _ _ _ _ _
      refine XQ.seq E0_ok (by kernel_rfl) ?_
      refine XQ.block (id := 1) (by kernel_rfl) ?_
      refine XQ.seq E0_ok (by kernel_rfl) ?_
      refine XQ.region (by kernel_rfl) ?_
      refine XR.run E0_ok 1 2 [0, 1, 7, 8, 30, 31] rfl (σ' := [(0, .slice (some ⟨1, 0, none⟩) lh1_2.length lh1_2.length), (1, .int .i64 b), (7, .slice (some ⟨2, 0, none⟩) lh2_2.length lh2_2.length), (8, .int .i64 x8_2), (30, .slice (some ⟨1, 0, none⟩) lh1_2.length lh1_2.length), (31, .int .i64 x8_2)]) (h' := [(2, .cells (rowC (encI .i64) lh2_2) 0 3 1), (1, .cells (rowC encP lh1_2) 0 83 2), (0, .cells (rowC encP a) z0 y0 2)]) (c' := 3) (by kernel_rfl) ?_
      cases b2 : (inRow x8_2 lh1_2.length : Bool) with
      | false => cases (cF b2 h)
      | true =>
        have h := cT b2 h
        refine XR.rd E0_ok [0, 1, 7, 8, 32] rfl (v := .pointer (some ⟨1, (Int.toNat x8_2) * 2, none⟩)) (v_idx (s := 2) (x := (src 53 (.tmp 30))) (y := (src 53 (.tmp 31))) (b := 1) (o := 0) (len := lh1_2.length) (cap := lh1_2.length) (ik := .i64) (i := x8_2) (off := (Int.toNat x8_2) * 2) (d := (some (path 12 32))) (by kernel_rfl) (by kernel_rfl) (by kernel_rfl) b2 (by omega)) (σ' := [(0, .slice (some ⟨1, 0, none⟩) lh1_2.length lh1_2.length), (1, .int .i64 b), (7, .slice (some ⟨2, 0, none⟩) lh2_2.length lh2_2.length), (8, .int .i64 x8_2), (32, .pointer (some ⟨1, (Int.toNat x8_2) * 2, none⟩))]) (by kernel_rfl) ?_
        refine XR.run E0_ok 1 1 [0, 1, 7, 8, 33] rfl (σ' := [(0, .slice (some ⟨1, 0, none⟩) lh1_2.length lh1_2.length), (1, .int .i64 b), (7, .slice (some ⟨2, 0, none⟩) lh2_2.length lh2_2.length), (8, .int .i64 x8_2), (33, .pointer (some ⟨1, (Int.toNat x8_2) * 2, none⟩))]) (h' := [(2, .cells (rowC (encI .i64) lh2_2) 0 3 1), (1, .cells (rowC encP lh1_2) 0 83 2), (0, .cells (rowC encP a) z0 y0 2)]) (c' := 3) (by kernel_rfl) ?_
        refine XR.rd E0_ok [0, 1, 7, 8, 34] rfl (v := .int .i64 ((List.getD lh1_2 (Int.toNat x8_2) (0, 0)).1)) (v_load1 encP_ok (x := (src 53 (.tmp 33))) (b := 1) (off := (Int.toNat x8_2) * 2) (xs := lh1_2) (fz := 0) (e := 83) (es := 2) (d := (some (path 12 34))) (by kernel_rfl) (by kernel_rfl) (by kernel_rfl) (Int.toNat x8_2) 0 (0, 0) (by first | rfl | omega) (row_len (inRow_toNat b2) (by simp)) rfl rfl) (σ' := [(0, .slice (some ⟨1, 0, none⟩) lh1_2.length lh1_2.length), (1, .int .i64 b), (7, .slice (some ⟨2, 0, none⟩) lh2_2.length lh2_2.length), (8, .int .i64 x8_2), (34, .int .i64 ((List.getD lh1_2 (Int.toNat x8_2) (0, 0)).1))]) (by kernel_rfl) ?_
        refine XR.run E0_ok 1 1 [0, 1, 7, 8, 9] rfl (σ' := [(0, .slice (some ⟨1, 0, none⟩) lh1_2.length lh1_2.length), (1, .int .i64 b), (7, .slice (some ⟨2, 0, none⟩) lh2_2.length lh2_2.length), (8, .int .i64 x8_2), (9, .int .i64 ((List.getD lh1_2 (Int.toNat x8_2) (0, 0)).1))]) (h' := [(2, .cells (rowC (encI .i64) lh2_2) 0 3 1), (1, .cells (rowC encP lh1_2) 0 83 2), (0, .cells (rowC encP a) z0 y0 2)]) (c' := 3) (by kernel_rfl) ?_
        refine XR.done (by kernel_rfl) ?_
        show XQ _ _ _ _ _ _ _ _
        refine XQ.seq E0_ok (by kernel_rfl) ?_
        refine XQ.block (id := 2) (by kernel_rfl) ?_
        refine XQ.loop m (by kernel_rfl) ?_
        obtain ⟨o3, o3_h, h⟩ := bS h
        refine XL.ren (σ' := [(0, .slice (some ⟨1, 0, none⟩) lh1_2.length lh1_2.length), (1, .int .i64 b), (7, .slice (some ⟨2, 0, none⟩) lh2_2.length lh2_2.length), (8, .int .i64 x8_2), (9, .int .i64 ((List.getD lh1_2 (Int.toNat x8_2) (0, 0)).1))]) (h' := [(2, .cells (rowC (encI .i64) lh2_2) 0 3 1), (1, .cells (rowC encP lh1_2) 0 83 2), (0, .cells (rowC encP a) z0 y0 2)]) (c' := 3) [0, 1, 2] (by decide) rfl ⟨by kernel_rfl, by kernel_rfl, by kernel_rfl, by kernel_rfl, by kernel_rfl, trivial⟩ ⟨⟨_, _, rfl, rfl, .inl ⟨rfl, rowC_scal (encI_ok .i64) _⟩⟩, ⟨_, _, rfl, rfl, .inl ⟨rfl, rowC_scal encP_ok _⟩⟩, ⟨_, _, rfl, rfl, .inl ⟨rfl, rowC_scal encP_ok _⟩⟩, trivial⟩ rfl ?_
        refine XL.conv (f19_3_ok m m z0 y0 a b x8_2 lh1_2 lh2_2 ((List.getD lh1_2 (Int.toNat x8_2) (0, 0)).1) o3 o3_h _ ?_) (by first | rfl | simp)
        show XQ _ _ _ _ _ _ _ _
        refine XQ.seq E0_ok (by kernel_rfl) ?_
        refine XQ.region (by kernel_rfl) ?_
        refine XR.run E0_ok 1 3 [1, 7, 8, 9, 44, 45, 46] rfl (σ' := [(1, .int .i64 b), (7, .slice (some ⟨2, 0, none⟩) lh2_2.length lh2_2.length), (8, .int .i64 x8_2), (9, .int .i64 o3), (44, .slice (some ⟨1, 0, none⟩) lh1_2.length lh1_2.length), (45, .int .i64 x8_2), (46, .int .i64 o3)]) (h' := [(2, .cells (rowC (encI .i64) lh2_2) 0 3 1), (1, .cells (rowC encP lh1_2) 0 83 2), (0, .cells (rowC encP a) z0 y0 2)]) (c' := 3) (by kernel_rfl) ?_
        obtain ⟨r27, r27_h, h⟩ := bS h
        refine XR.call E0_ok [1, 7, 8, 9, 47] rfl (K := 61) (args := [.slice (some ⟨1, 0, none⟩) lh1_2.length lh1_2.length, .int .i64 x8_2, .int .i64 o3]) (d := (some (path 12 47))) (by kernel_rfl) (KC.liftH (n0 := 1) (m := 1) (args0 := [.slice (some ⟨0, 0, none⟩) lh1_2.length lh1_2.length, .int .i64 x8_2, .int .i64 o3]) (h0 := [(0, .cells (rowC encP lh1_2) (0 + ((rowC encP lh1_2).length + 1)) 83 2)]) (V := .slice (some ⟨1, 0, none⟩) r27.length r27.length) (V2 := .slice (some ⟨3, 0, none⟩) r27.length r27.length) (H := [(1, .cells (rowC encP r27) 0 83 2)]) (H2 := [(3, .cells (rowC encP r27) 0 83 2)]) [1] [2, 3, 4, 1] (f61_ok m (0 + ((rowC encP lh1_2).length + 1)) 83 lh1_2 x8_2 o3 r27 r27_h) (by rfl) (by decide) rfl (by kernel_rfl) ⟨⟨_, _, rfl, rfl, .inl ⟨rfl, rowC_scal encP_ok _⟩⟩, trivial⟩ (by decide) (by decide) (by kernel_rfl) ⟨⟨_, _, rfl, rfl, .inl ⟨rfl, rowC_scal encP_ok _⟩⟩, trivial⟩ (by rfl)) ?_
        rintro _ _ _ ⟨rfl, rfl, rfl⟩
        refine XR.conv (σ' := [(1, .int .i64 b), (7, .slice (some ⟨2, 0, none⟩) lh2_2.length lh2_2.length), (8, .int .i64 x8_2), (9, .int .i64 o3), (47, .slice (some ⟨3, 0, none⟩) r27.length r27.length)]) (h' := [(3, .cells (rowC encP r27) 0 83 2), (2, .cells (rowC (encI .i64) lh2_2) 0 3 1), (1, .cells (rowC encP lh1_2) 0 83 2), (0, .cells (rowC encP a) z0 y0 2)]) (c' := 4) ?_ (by kernel_rfl)
        refine XR.run E0_ok 1 1 [0, 1, 7, 8, 9] rfl (σ' := [(0, .slice (some ⟨3, 0, none⟩) r27.length r27.length), (1, .int .i64 b), (7, .slice (some ⟨2, 0, none⟩) lh2_2.length lh2_2.length), (8, .int .i64 x8_2), (9, .int .i64 o3)]) (h' := [(3, .cells (rowC encP r27) 0 83 2), (2, .cells (rowC (encI .i64) lh2_2) 0 3 1), (1, .cells (rowC encP lh1_2) 0 83 2), (0, .cells (rowC encP a) z0 y0 2)]) (c' := 4) (by kernel_rfl) ?_
        refine XR.done (by kernel_rfl) ?_
        show XQ _ _ _ _ _ _ _ _
        refine XQ.region (by kernel_rfl) ?_
        refine XR.run E0_ok 1 3 [0, 1, 8, 48, 50] rfl (σ' := [(0, .slice (some ⟨3, 0, none⟩) r27.length r27.length), (1, .int .i64 b), (8, .int .i64 x8_2), (48, .slice (some ⟨2, 0, none⟩) lh2_2.length lh2_2.length), (50, .slice (some ⟨4, 0, none⟩) 1 1)]) (h' := [(4, .cells [.int .i64 o3] 0 3 1), (3, .cells (rowC encP r27) 0 83 2), (2, .cells (rowC (encI .i64) lh2_2) 0 3 1), (1, .cells (rowC encP lh1_2) 0 83 2), (0, .cells (rowC encP a) z0 y0 2)]) (c' := 5) (by kernel_rfl) ?_
        cases b4 : (fitsB (lh2_2.length + 1) 8 : Bool) with
        | false => cases (cF b4 h)
        | true =>
          have h := cT b4 h
          refine XR.ef E0_ok [0, 1, 8, 51] rfl (e_append (encI_ok .i64) (bytes := 8) (e := 3) (x := (src 53 (.tmp 48))) (y := (src 53 (.tmp 50))) (b := 2) (len := lh2_2.length) (cap := lh2_2.length) (xs := lh2_2) (m := 0) (ys := [o3]) (d := (some (path 12 51))) (n' := (lh2_2 ++ [o3]).length) (h' := [(5, .cells (rowC (encI .i64) (lh2_2 ++ [o3])) 0 3 1), (4, .cells [.int .i64 o3] 0 3 1), (3, .cells (rowC encP r27) 0 83 2), (1, .cells (rowC encP lh1_2) 0 83 2), (0, .cells (rowC encP a) z0 y0 2)]) (by kernel_rfl) (by kernel_rfl) (by kernel_rfl) (by kernel_rfl) rfl (by simp) (by simp) b4 (by simp) (by kernel_rfl)) (σ' := [(0, .slice (some ⟨3, 0, none⟩) r27.length r27.length), (1, .int .i64 b), (8, .int .i64 x8_2), (51, .slice (some ⟨5, 0, none⟩) ((lh2_2 ++ [o3]).length) ((lh2_2 ++ [o3]).length))]) (by kernel_rfl) ?_
          refine XR.run E0_ok 1 1 [0, 1, 7, 8] rfl (σ' := [(0, .slice (some ⟨3, 0, none⟩) r27.length r27.length), (1, .int .i64 b), (7, .slice (some ⟨5, 0, none⟩) ((lh2_2 ++ [o3]).length) ((lh2_2 ++ [o3]).length)), (8, .int .i64 x8_2)]) (h' := [(5, .cells (rowC (encI .i64) (lh2_2 ++ [o3])) 0 3 1), (4, .cells [.int .i64 o3] 0 3 1), (3, .cells (rowC encP r27) 0 83 2), (1, .cells (rowC encP lh1_2) 0 83 2), (0, .cells (rowC encP a) z0 y0 2)]) (c' := 6) (by kernel_rfl) ?_
          refine XR.done (by kernel_rfl) ?_
          show XQ _ _ _ _ _ _ _ _
          refine XQ.region (by kernel_rfl) ?_
          refine XR.run E0_ok 1 3 [0, 1, 7, 8] rfl (σ' := [(0, .slice (some ⟨3, 0, none⟩) r27.length r27.length), (1, .int .i64 b), (7, .slice (some ⟨5, 0, none⟩) ((lh2_2 ++ [o3]).length) ((lh2_2 ++ [o3]).length)), (8, .int .i64 (w64 (x8_2 + 1)))]) (h' := [(5, .cells (rowC (encI .i64) (lh2_2 ++ [o3])) 0 3 1), (4, .cells [.int .i64 o3] 0 3 1), (3, .cells (rowC encP r27) 0 83 2), (1, .cells (rowC encP lh1_2) 0 83 2), (0, .cells (rowC encP a) z0 y0 2)]) (c' := 6) (by kernel_rfl) ?_
          refine XR.done (by kernel_rfl) ?_
          show XL _ _ _ _ _ _ _ _ _
          refine XL.ren (σ' := [(0, .slice (some ⟨1, 0, none⟩) r27.length r27.length), (1, .int .i64 b), (7, .slice (some ⟨2, 0, none⟩) ((lh2_2 ++ [o3]).length) ((lh2_2 ++ [o3]).length)), (8, .int .i64 (w64 (x8_2 + 1)))]) (h' := [(2, .cells (rowC (encI .i64) (lh2_2 ++ [o3])) 0 3 1), (1, .cells (rowC encP r27) 0 83 2), (0, .cells (rowC encP a) z0 y0 2)]) (c' := 3) [0, 3, 5] (by decide) rfl ⟨by kernel_rfl, by kernel_rfl, by kernel_rfl, by kernel_rfl, trivial⟩ ⟨⟨_, _, rfl, rfl, .inl ⟨rfl, rowC_scal (encI_ok .i64) _⟩⟩, ⟨_, _, rfl, rfl, .inl ⟨rfl, rowC_scal encP_ok _⟩⟩, ⟨_, _, rfl, rfl, .inl ⟨rfl, rowC_scal encP_ok _⟩⟩, trivial⟩ rfl ?_
          refine XL.conv (f19_2_ok m fuel z0 y0 a b (w64 (x8_2 + 1)) r27 (lh2_2 ++ [o3]) o h Q hQ) (by first | rfl | simp)
    | false =>
      have h := cF b1 h
      refine XQ.cond (s := (.tmp 27)) (b := false) (by kernel_rfl) (by kernel_rfl) (fun q => by cases q) (fun _ => ?_)
      refine XQ.ren (σ' := [(7, .slice (some ⟨1, 0, none⟩) lh2_2.length lh2_2.length)]) (h' := [(1, .cells (rowC (encI .i64) lh2_2) 0 3 1), (0, .cells (rowC encP a) z0 y0 2)]) (c' := 2) [0, 2] (by decide) rfl ⟨by kernel_rfl, trivial⟩ ⟨⟨_, _, rfl, rfl, .inl ⟨rfl, rowC_scal (encI_ok .i64) _⟩⟩, ⟨_, _, rfl, rfl, .inl ⟨rfl, rowC_scal encP_ok _⟩⟩, trivial⟩ rfl ?_
      refine XQ.exit (i := 0) (by kernel_rfl) ?_
      cases h
      exact hQ

def f19_4 (m : Nat) : Nat → List (Int × Int) → Int → Int → Option Int
  | 0, _, _, _ => none
  | fuel + 1, a, b, x9_4 =>
    (f61 m a 0 x9_4).bind fun r35 =>
      (f60 m r35 b).bind fun r36 =>
        cond (!r36) (
          f19_4 m fuel a b (w64 (x9_4 + 1))
        ) (
          some (x9_4)
        )

theorem f19_4_ok (m : Nat) : ∀ (fuel : Nat) (z0 : Nat) (y0 : Nat) (a : List (Int × Int)) (b : Int) (x9_4 : Int) (o : Int), f19_4 m fuel a b x9_4 = some o → ∀ Q : QP, Q (.exit 2) [(0, .slice (some ⟨0, 0, none⟩) a.length a.length), (1, .int .i64 b), (7, .slice (some ⟨1, 0, none⟩) 0 0), (8, .int .i64 0), (9, .int .i64 o)] [(1, .cells (rowC (encI .i64) []) 0 3 1), (0, .cells (rowC encP a) z0 y0 2)] 2 → XL E0 53 1 fuel f19_L5 [(0, .slice (some ⟨0, 0, none⟩) a.length a.length), (1, .int .i64 b), (7, .slice (some ⟨1, 0, none⟩) 0 0), (8, .int .i64 0), (9, .int .i64 x9_4)] [(1, .cells (rowC (encI .i64) []) 0 3 1), (0, .cells (rowC encP a) z0 y0 2)] 2 Q
  | 0, z0, y0, a, b, x9_4, o, h, Q, hQ => by cases h
  | fuel + 1, z0, y0, a, b, x9_4, o, h, Q, hQ => by
    unfold f19_4 at h
    refine XL.succ E0_ok ?_
    refine XQ.seq E0_ok (by kernel_rfl) ?_
    refine XQ.seq E0_ok (by kernel_rfl) ?_
    refine XQ.region (by kernel_rfl) ?_
    refine XR.run E0_ok 1 3 [0, 1, 7, 8, 9, 35, 36, 37] rfl (σ' := [(0, .slice (some ⟨0, 0, none⟩) a.length a.length), (1, .int .i64 b), (7, .slice (some ⟨1, 0, none⟩) 0 0), (8, .int .i64 0), (9, .int .i64 x9_4), (35, .slice (some ⟨0, 0, none⟩) a.length a.length), (36, .int .i64 0), (37, .int .i64 x9_4)]) (h' := [(1, .cells (rowC (encI .i64) []) 0 3 1), (0, .cells (rowC encP a) z0 y0 2)]) (c' := 2) (by kernel_rfl) ?_
    obtain ⟨r35, r35_h, h⟩ := bS h
    refine XR.call E0_ok [0, 1, 7, 8, 9, 38] rfl (K := 61) (args := [.slice (some ⟨0, 0, none⟩) a.length a.length, .int .i64 0, .int .i64 x9_4]) (d := (some (path 12 38))) (by kernel_rfl) (KC.liftH (n0 := 1) (m := 1) (args0 := [.slice (some ⟨0, 0, none⟩) a.length a.length, .int .i64 0, .int .i64 x9_4]) (h0 := [(0, .cells (rowC encP a) (z0 + ((rowC encP a).length + 1)) y0 2)]) (V := .slice (some ⟨1, 0, none⟩) r35.length r35.length) (V2 := .slice (some ⟨2, 0, none⟩) r35.length r35.length) (H := [(1, .cells (rowC encP r35) 0 83 2)]) (H2 := [(2, .cells (rowC encP r35) 0 83 2)]) [0] [2, 3, 1] (f61_ok m (z0 + ((rowC encP a).length + 1)) y0 a 0 x9_4 r35 r35_h) (by rfl) (by decide) rfl (by kernel_rfl) ⟨⟨_, _, rfl, rfl, .inl ⟨rfl, rowC_scal encP_ok _⟩⟩, trivial⟩ (by decide) (by decide) (by kernel_rfl) ⟨⟨_, _, rfl, rfl, .inl ⟨rfl, rowC_scal encP_ok _⟩⟩, trivial⟩ (by rfl)) ?_
    rintro _ _ _ ⟨rfl, rfl, rfl⟩
    refine XR.conv (σ' := [(0, .slice (some ⟨0, 0, none⟩) a.length a.length), (1, .int .i64 b), (7, .slice (some ⟨1, 0, none⟩) 0 0), (8, .int .i64 0), (9, .int .i64 x9_4), (38, .slice (some ⟨2, 0, none⟩) r35.length r35.length)]) (h' := [(2, .cells (rowC encP r35) 0 83 2), (1, .cells (rowC (encI .i64) []) 0 3 1), (0, .cells (rowC encP a) z0 y0 2)]) (c' := 3) ?_ (by kernel_rfl)
    refine XR.run E0_ok 1 1 [0, 1, 7, 8, 9, 38, 39] rfl (σ' := [(0, .slice (some ⟨0, 0, none⟩) a.length a.length), (1, .int .i64 b), (7, .slice (some ⟨1, 0, none⟩) 0 0), (8, .int .i64 0), (9, .int .i64 x9_4), (38, .slice (some ⟨2, 0, none⟩) r35.length r35.length), (39, .int .i64 b)]) (h' := [(2, .cells (rowC encP r35) 0 83 2), (1, .cells (rowC (encI .i64) []) 0 3 1), (0, .cells (rowC encP a) z0 y0 2)]) (c' := 3) (by kernel_rfl) ?_
    obtain ⟨r36, r36_h, h⟩ := bS h
    refine XR.call E0_ok [0, 1, 7, 8, 9, 40] rfl (K := 60) (args := [.slice (some ⟨2, 0, none⟩) r35.length r35.length, .int .i64 b]) (d := (some (path 12 40))) (by kernel_rfl) (KQ.call (KC.quiet E0_ok (args0 := [.slice (some ⟨0, 0, none⟩) r35.length r35.length, .int .i64 b]) (h0 := [(0, .cells (rowC encP r35) (0 + ((rowC encP r35).length + 1)) 83 2)]) (n := 1) (V := .bool r36) [2] (f60_ok m (0 + ((rowC encP r35).length + 1)) 83 r35 b r36 r36_h) rfl (by rfl) (by decide) rfl (by kernel_rfl) ⟨⟨_, _, rfl, rfl, .inl ⟨rfl, rowC_scal encP_ok _⟩⟩, trivial⟩) rfl) ?_
    rintro _ _ _ ⟨rfl, rfl, rfl⟩
    refine XR.conv (σ' := [(0, .slice (some ⟨0, 0, none⟩) a.length a.length), (1, .int .i64 b), (7, .slice (some ⟨1, 0, none⟩) 0 0), (8, .int .i64 0), (9, .int .i64 x9_4), (40, .bool r36)]) (h' := [(2, .cells (rowC encP r35) 0 83 2), (1, .cells (rowC (encI .i64) []) 0 3 1), (0, .cells (rowC encP a) z0 y0 2)]) (c' := 3) ?_ (by kernel_rfl)
    refine XR.run E0_ok 1 1 [0, 1, 7, 8, 9, 41] rfl (σ' := [(0, .slice (some ⟨0, 0, none⟩) a.length a.length), (1, .int .i64 b), (7, .slice (some ⟨1, 0, none⟩) 0 0), (8, .int .i64 0), (9, .int .i64 x9_4), (41, .bool (!r36))]) (h' := [(2, .cells (rowC encP r35) 0 83 2), (1, .cells (rowC (encI .i64) []) 0 3 1), (0, .cells (rowC encP a) z0 y0 2)]) (c' := 3) (by kernel_rfl) ?_
    refine XR.done (by kernel_rfl) ?_
    show XQ _ _ _ _ _ _ _ _
    cases b1 : (!r36 : Bool) with
    | true =>
      have h := cT b1 h
      refine XQ.cond (s := (.tmp 41)) (b := true) (by kernel_rfl) (by kernel_rfl) (fun _ => ?_) (fun q => by cases q)
      refine XQ.skip (by kernel_rfl) ?_
      show XQ _ _ _ _ _ _ _ _
      refine XQ.block (id := 3) (by kernel_rfl) ?_
      refine XQ.region (by kernel_rfl) ?_
      refine XR.run E0_ok 1 3 [0, 1, 7, 8, 9] rfl (σ' := [(0, .slice (some ⟨0, 0, none⟩) a.length a.length), (1, .int .i64 b), (7, .slice (some ⟨1, 0, none⟩) 0 0), (8, .int .i64 0), (9, .int .i64 (w64 (x9_4 + 1)))]) (h' := [(2, .cells (rowC encP r35) 0 83 2), (1, .cells (rowC (encI .i64) []) 0 3 1), (0, .cells (rowC encP a) z0 y0 2)]) (c' := 3) (by kernel_rfl) ?_
      refine XR.done (by kernel_rfl) ?_
      show XL _ _ _ _ _ _ _ _ _
      refine XL.ren (σ' := [(0, .slice (some ⟨0, 0, none⟩) a.length a.length), (1, .int .i64 b), (7, .slice (some ⟨1, 0, none⟩) 0 0), (8, .int .i64 0), (9, .int .i64 (w64 (x9_4 + 1)))]) (h' := [(1, .cells (rowC (encI .i64) []) 0 3 1), (0, .cells (rowC encP a) z0 y0 2)]) (c' := 2) [0, 1] (by decide) rfl ⟨by kernel_rfl, by kernel_rfl, by kernel_rfl, by kernel_rfl, by kernel_rfl, trivial⟩ ⟨⟨_, _, rfl, rfl, .inl ⟨rfl, rowC_scal (encI_ok .i64) _⟩⟩, ⟨_, _, rfl, rfl, .inl ⟨rfl, rowC_scal encP_ok _⟩⟩, trivial⟩ rfl ?_
      refine XL.conv (f19_4_ok m fuel z0 y0 a b (w64 (x9_4 + 1)) o h Q hQ) (by first | rfl | simp)
    | false =>
      have h := cF b1 h
      refine XQ.cond (s := (.tmp 41)) (b := false) (by kernel_rfl) (by kernel_rfl) (fun q => by cases q) (fun _ => ?_)
      refine XQ.ren (σ' := [(0, .slice (some ⟨0, 0, none⟩) a.length a.length), (1, .int .i64 b), (7, .slice (some ⟨1, 0, none⟩) 0 0), (8, .int .i64 0), (9, .int .i64 x9_4)]) (h' := [(1, .cells (rowC (encI .i64) []) 0 3 1), (0, .cells (rowC encP a) z0 y0 2)]) (c' := 2) [0, 1] (by decide) rfl ⟨by kernel_rfl, by kernel_rfl, by kernel_rfl, by kernel_rfl, by kernel_rfl, trivial⟩ ⟨⟨_, _, rfl, rfl, .inl ⟨rfl, rowC_scal (encI_ok .i64) _⟩⟩, ⟨_, _, rfl, rfl, .inl ⟨rfl, rowC_scal encP_ok _⟩⟩, trivial⟩ rfl ?_
      refine XQ.exit (i := 2) (by kernel_rfl) ?_
      cases h
      exact hQ

def f19_6 (m : Nat) : Nat → List (Int × Int) → Int → Int → List (Int × Int) → List Int → Int → Option Int
  | 0, _, _, _, _, _, _ => none
  | fuel + 1, a, b, x8_5, lh1_5, lh2_5, x9_6 =>
    (f61 m lh1_5 x8_5 x9_6).bind fun r50 =>
      (f60 m r50 b).bind fun r51 =>
        cond (!r51) (
          f19_6 m fuel a b x8_5 lh1_5 lh2_5 (w64 (x9_6 + 1))
        ) (
          some (x9_6)
        )

theorem f19_6_ok (m : Nat) : ∀ (fuel : Nat) (z0 : Nat) (y0 : Nat) (a : List (Int × Int)) (b : Int) (x8_5 : Int) (lh1_5 : List (Int × Int)) (lh2_5 : List Int) (x9_6 : Int) (o : Int), f19_6 m fuel a b x8_5 lh1_5 lh2_5 x9_6 = some o → ∀ Q : QP, Q (.exit 2) [(0, .slice (some ⟨1, 0, none⟩) lh1_5.length lh1_5.length), (1, .int .i64 b), (7, .slice (some ⟨2, 0, none⟩) lh2_5.length lh2_5.length), (8, .int .i64 x8_5), (9, .int .i64 o)] [(2, .cells (rowC (encI .i64) lh2_5) 0 3 1), (1, .cells (rowC encP lh1_5) 0 83 2), (0, .cells (rowC encP a) z0 y0 2)] 3 → XL E0 53 1 fuel f19_L6 [(0, .slice (some ⟨1, 0, none⟩) lh1_5.length lh1_5.length), (1, .int .i64 b), (7, .slice (some ⟨2, 0, none⟩) lh2_5.length lh2_5.length), (8, .int .i64 x8_5), (9, .int .i64 x9_6)] [(2, .cells (rowC (encI .i64) lh2_5) 0 3 1), (1, .cells (rowC encP lh1_5) 0 83 2), (0, .cells (rowC encP a) z0 y0 2)] 3 Q
  | 0, z0, y0, a, b, x8_5, lh1_5, lh2_5, x9_6, o, h, Q, hQ => by cases h
  | fuel + 1, z0, y0, a, b, x8_5, lh1_5, lh2_5, x9_6, o, h, Q, hQ => by
    unfold f19_6 at h
    refine XL.succ E0_ok ?_
    refine XQ.seq E0_ok (by kernel_rfl) ?_
    refine XQ.seq E0_ok (by kernel_rfl) ?_
    refine XQ.region (by kernel_rfl) ?_
    refine XR.run E0_ok 1 3 [0, 1, 7, 8, 9, 35, 36, 37] rfl (σ' := [(0, .slice (some ⟨1, 0, none⟩) lh1_5.length lh1_5.length), (1, .int .i64 b), (7, .slice (some ⟨2, 0, none⟩) lh2_5.length lh2_5.length), (8, .int .i64 x8_5), (9, .int .i64 x9_6), (35, .slice (some ⟨1, 0, none⟩) lh1_5.length lh1_5.length), (36, .int .i64 x8_5), (37, .int .i64 x9_6)]) (h' := [(2, .cells (rowC (encI .i64) lh2_5) 0 3 1), (1, .cells (rowC encP lh1_5) 0 83 2), (0, .cells (rowC encP a) z0 y0 2)]) (c' := 3) (by kernel_rfl) ?_
    obtain ⟨r50, r50_h, h⟩ := bS h
    refine XR.call E0_ok [0, 1, 7, 8, 9, 38] rfl (K := 61) (args := [.slice (some ⟨1, 0, none⟩) lh1_5.length lh1_5.length, .int .i64 x8_5, .int .i64 x9_6]) (d := (some (path 12 38))) (by kernel_rfl) (KC.liftH (n0 := 1) (m := 1) (args0 := [.slice (some ⟨0, 0, none⟩) lh1_5.length lh1_5.length, .int .i64 x8_5, .int .i64 x9_6]) (h0 := [(0, .cells (rowC encP lh1_5) (0 + ((rowC encP lh1_5).length + 1)) 83 2)]) (V := .slice (some ⟨1, 0, none⟩) r50.length r50.length) (V2 := .slice (some ⟨3, 0, none⟩) r50.length r50.length) (H := [(1, .cells (rowC encP r50) 0 83 2)]) (H2 := [(3, .cells (rowC encP r50) 0 83 2)]) [1] [2, 3, 4, 1] (f61_ok m (0 + ((rowC encP lh1_5).length + 1)) 83 lh1_5 x8_5 x9_6 r50 r50_h) (by rfl) (by decide) rfl (by kernel_rfl) ⟨⟨_, _, rfl, rfl, .inl ⟨rfl, rowC_scal encP_ok _⟩⟩, trivial⟩ (by decide) (by decide) (by kernel_rfl) ⟨⟨_, _, rfl, rfl, .inl ⟨rfl, rowC_scal encP_ok _⟩⟩, trivial⟩ (by rfl)) ?_
    rintro _ _ _ ⟨rfl, rfl, rfl⟩
    refine XR.conv (σ' := [(0, .slice (some ⟨1, 0, none⟩) lh1_5.length lh1_5.length), (1, .int .i64 b), (7, .slice (some ⟨2, 0, none⟩) lh2_5.length lh2_5.length), (8, .int .i64 x8_5), (9, .int .i64 x9_6), (38, .slice (some ⟨3, 0, none⟩) r50.length r50.length)]) (h' := [(3, .cells (rowC encP r50) 0 83 2), (2, .cells (rowC (encI .i64) lh2_5) 0 3 1), (1, .cells (rowC encP lh1_5) 0 83 2), (0, .cells (rowC encP a) z0 y0 2)]) (c' := 4) ?_ (by kernel_rfl)
    refine XR.run E0_ok 1 1 [0, 1, 7, 8, 9, 38, 39] rfl (σ' := [(0, .slice (some ⟨1, 0, none⟩) lh1_5.length lh1_5.length), (1, .int .i64 b), (7, .slice (some ⟨2, 0, none⟩) lh2_5.length lh2_5.length), (8, .int .i64 x8_5), (9, .int .i64 x9_6), (38, .slice (some ⟨3, 0, none⟩) r50.length r50.length), (39, .int .i64 b)]) (h' := [(3, .cells (rowC encP r50) 0 83 2), (2, .cells (rowC (encI .i64) lh2_5) 0 3 1), (1, .cells (rowC encP lh1_5) 0 83 2), (0, .cells (rowC encP a) z0 y0 2)]) (c' := 4) (by kernel_rfl) ?_
    obtain ⟨r51, r51_h, h⟩ := bS h
    refine XR.call E0_ok [0, 1, 7, 8, 9, 40] rfl (K := 60) (args := [.slice (some ⟨3, 0, none⟩) r50.length r50.length, .int .i64 b]) (d := (some (path 12 40))) (by kernel_rfl) (KQ.call (KC.quiet E0_ok (args0 := [.slice (some ⟨0, 0, none⟩) r50.length r50.length, .int .i64 b]) (h0 := [(0, .cells (rowC encP r50) (0 + ((rowC encP r50).length + 1)) 83 2)]) (n := 1) (V := .bool r51) [3] (f60_ok m (0 + ((rowC encP r50).length + 1)) 83 r50 b r51 r51_h) rfl (by rfl) (by decide) rfl (by kernel_rfl) ⟨⟨_, _, rfl, rfl, .inl ⟨rfl, rowC_scal encP_ok _⟩⟩, trivial⟩) rfl) ?_
    rintro _ _ _ ⟨rfl, rfl, rfl⟩
    refine XR.conv (σ' := [(0, .slice (some ⟨1, 0, none⟩) lh1_5.length lh1_5.length), (1, .int .i64 b), (7, .slice (some ⟨2, 0, none⟩) lh2_5.length lh2_5.length), (8, .int .i64 x8_5), (9, .int .i64 x9_6), (40, .bool r51)]) (h' := [(3, .cells (rowC encP r50) 0 83 2), (2, .cells (rowC (encI .i64) lh2_5) 0 3 1), (1, .cells (rowC encP lh1_5) 0 83 2), (0, .cells (rowC encP a) z0 y0 2)]) (c' := 4) ?_ (by kernel_rfl)
    refine XR.run E0_ok 1 1 [0, 1, 7, 8, 9, 41] rfl (σ' := [(0, .slice (some ⟨1, 0, none⟩) lh1_5.length lh1_5.length), (1, .int .i64 b), (7, .slice (some ⟨2, 0, none⟩) lh2_5.length lh2_5.length), (8, .int .i64 x8_5), (9, .int .i64 x9_6), (41, .bool (!r51))]) (h' := [(3, .cells (rowC encP r50) 0 83 2), (2, .cells (rowC (encI .i64) lh2_5) 0 3 1), (1, .cells (rowC encP lh1_5) 0 83 2), (0, .cells (rowC encP a) z0 y0 2)]) (c' := 4) (by kernel_rfl) ?_
    refine XR.done (by kernel_rfl) ?_
    show XQ _ _ _ _ _ _ _ _
    cases b1 : (!r51 : Bool) with
    | true =>
      have h := cT b1 h
      refine XQ.cond (s := (.tmp 41)) (b := true) (by kernel_rfl) (by kernel_rfl) (fun _ => ?_) (fun q => by cases q)
      refine XQ.skip (by kernel_rfl) ?_
      show XQ _ _ _ _ _ _ _ _
      refine XQ.block (id := 3) (by kernel_rfl) ?_
      refine XQ.region (by kernel_rfl) ?_
      refine XR.run E0_ok 1 3 [0, 1, 7, 8, 9] rfl (σ' := [(0, .slice (some ⟨1, 0, none⟩) lh1_5.length lh1_5.length), (1, .int .i64 b), (7, .slice (some ⟨2, 0, none⟩) lh2_5.length lh2_5.length), (8, .int .i64 x8_5), (9, .int .i64 (w64 (x9_6 + 1)))]) (h' := [(3, .cells (rowC encP r50) 0 83 2), (2, .cells (rowC (encI .i64) lh2_5) 0 3 1), (1, .cells (rowC encP lh1_5) 0 83 2), (0, .cells (rowC encP a) z0 y0 2)]) (c' := 4) (by kernel_rfl) ?_
      refine XR.done (by kernel_rfl) ?_
      show XL _ _ _ _ _ _ _ _ _
      refine XL.ren (σ' := [(0, .slice (some ⟨1, 0, none⟩) lh1_5.length lh1_5.length), (1, .int .i64 b), (7, .slice (some ⟨2, 0, none⟩) lh2_5.length lh2_5.length), (8, .int .i64 x8_5), (9, .int .i64 (w64 (x9_6 + 1)))]) (h' := [(2, .cells (rowC (encI .i64) lh2_5) 0 3 1), (1, .cells (rowC encP lh1_5) 0 83 2), (0, .cells (rowC encP a) z0 y0 2)]) (c' := 3) [0, 1, 2] (by decide) rfl ⟨by kernel_rfl, by kernel_rfl, by kernel_rfl, by kernel_rfl, by kernel_rfl, trivial⟩ ⟨⟨_, _, rfl, rfl, .inl ⟨rfl, rowC_scal (encI_ok .i64) _⟩⟩, ⟨_, _, rfl, rfl, .inl ⟨rfl, rowC_scal encP_ok _⟩⟩, ⟨_, _, rfl, rfl, .inl ⟨rfl, rowC_scal encP_ok _⟩⟩, trivial⟩ rfl ?_
      refine XL.conv (f19_6_ok m fuel z0 y0 a b x8_5 lh1_5 lh2_5 (w64 (x9_6 + 1)) o h Q hQ) (by first | rfl | simp)
    | false =>
      have h := cF b1 h
      refine XQ.cond (s := (.tmp 41)) (b := false) (by kernel_rfl) (by kernel_rfl) (fun q => by cases q) (fun _ => ?_)
      refine XQ.ren (σ' := [(0, .slice (some ⟨1, 0, none⟩) lh1_5.length lh1_5.length), (1, .int .i64 b), (7, .slice (some ⟨2, 0, none⟩) lh2_5.length lh2_5.length), (8, .int .i64 x8_5), (9, .int .i64 x9_6)]) (h' := [(2, .cells (rowC (encI .i64) lh2_5) 0 3 1), (1, .cells (rowC encP lh1_5) 0 83 2), (0, .cells (rowC encP a) z0 y0 2)]) (c' := 3) [0, 1, 2] (by decide) rfl ⟨by kernel_rfl, by kernel_rfl, by kernel_rfl, by kernel_rfl, by kernel_rfl, trivial⟩ ⟨⟨_, _, rfl, rfl, .inl ⟨rfl, rowC_scal (encI_ok .i64) _⟩⟩, ⟨_, _, rfl, rfl, .inl ⟨rfl, rowC_scal encP_ok _⟩⟩, ⟨_, _, rfl, rfl, .inl ⟨rfl, rowC_scal encP_ok _⟩⟩, trivial⟩ rfl ?_
      refine XQ.exit (i := 2) (by kernel_rfl) ?_
      cases h
      exact hQ

def f19_5 (m : Nat) : Nat → List (Int × Int) → Int → Int → List (Int × Int) → List Int → Option (List Int)
  | 0, _, _, _, _, _ => none
  | fuel + 1, a, b, x8_5, lh1_5, lh2_5 =>
    cond (decide (x8_5 < ((lh1_5.length : Nat) : Int))) (
      cond (inRow x8_5 lh1_5.length) (
        (f19_6 m m a b x8_5 lh1_5 lh2_5 ((List.getD lh1_5 (Int.toNat x8_5) (0, 0)).1)).bind fun o6 =>
          (f61 m lh1_5 x8_5 o6).bind fun r52 =>
            cond (fitsB (lh2_5.length + 1) 8) (
              f19_5 m fuel a b (w64 (x8_5 + 1)) r52 (lh2_5 ++ [o6])
            ) none
      ) none
    ) (
      some (lh2_5)
    )

theorem f19_5_ok (m : Nat) : ∀ (fuel : Nat) (z0 : Nat) (y0 : Nat) (a : List (Int × Int)) (b : Int) (x8_5 : Int) (lh1_5 : List (Int × Int)) (lh2_5 : List Int) (o : (List Int)), f19_5 m fuel a b x8_5 lh1_5 lh2_5 = some o → ∀ Q : QP, Q (.exit 0) [(7, .slice (some ⟨1, 0, none⟩) o.length o.length)] [(1, .cells (rowC (encI .i64) o) 0 3 1), (0, .cells (rowC encP a) z0 y0 2)] 2 → XL E0 53 1 fuel f19_L4 [(0, .slice (some ⟨1, 0, none⟩) lh1_5.length lh1_5.length), (1, .int .i64 b), (7, .slice (some ⟨2, 0, none⟩) lh2_5.length lh2_5.length), (8, .int .i64 x8_5)] [(2, .cells (rowC (encI .i64) lh2_5) 0 3 1), (1, .cells (rowC encP lh1_5) 0 83 2), (0, .cells (rowC encP a) z0 y0 2)] 3 Q
  | 0, z0, y0, a, b, x8_5, lh1_5, lh2_5, o, h, Q, hQ => by cases h
  | fuel + 1, z0, y0, a, b, x8_5, lh1_5, lh2_5, o, h, Q, hQ => by
    unfold f19_5 at h
    refine XL.succ E0_ok ?_
    refine XQ.seq E0_ok (by kernel_rfl) ?_
    refine XQ.seq E0_ok (by kernel_rfl) ?_
    refine XQ.region (by kernel_rfl) ?_
    refine XR.run E0_ok 1 4 [0, 1, 7, 8, 27] rfl (σ' := [(0, .slice (some ⟨1, 0, none⟩) lh1_5.length lh1_5.length), (1, .int .i64 b), (7, .slice (some ⟨2, 0, none⟩) lh2_5.length lh2_5.length), (8, .int .i64 x8_5), (27, .bool (decide (x8_5 < ((lh1_5.length : Nat) : Int))))]) (h' := [(2, .cells (rowC (encI .i64) lh2_5) 0 3 1), (1, .cells (rowC encP lh1_5) 0 83 2), (0, .cells (rowC encP a) z0 y0 2)]) (c' := 3) (by kernel_rfl) ?_
    refine XR.done (by kernel_rfl) ?_
    show XQ _ _ _ _ _ _ _ _
    cases b1 : (decide (x8_5 < ((lh1_5.length : Nat) : Int)) : Bool) with
    | true =>
      have h := cT b1 h
      refine XQ.cond (s := (.tmp 27)) (b := true) (by kernel_rfl) (by kernel_rfl) (fun _ => ?_) (fun q => by cases q)
      refine XQ.skip (by kernel_rfl) ?_
      show XQ _ _ _ _ _ _ _ _
      refine XQ.seq E0_ok (by kernel_rfl) ?_
      refine XQ.block (id := 1) (by kernel_rfl) ?_
      refine XQ.seq E0_ok (by kernel_rfl) ?_
      refine XQ.region (by kernel_rfl) ?_
      refine XR.run E0_ok 1 2 [0, 1, 7, 8, 30, 31] rfl (σ' := [(0, .slice (some ⟨1, 0, none⟩) lh1_5.length lh1_5.length), (1, .int .i64 b), (7, .slice (some ⟨2, 0, none⟩) lh2_5.length lh2_5.length), (8, .int .i64 x8_5), (30, .slice (some ⟨1, 0, none⟩) lh1_5.length lh1_5.length), (31, .int .i64 x8_5)]) (h' := [(2, .cells (rowC (encI .i64) lh2_5) 0 3 1), (1, .cells (rowC encP lh1_5) 0 83 2), (0, .cells (rowC encP a) z0 y0 2)]) (c' := 3) (by kernel_rfl) ?_
      cases b2 : (inRow x8_5 lh1_5.length : Bool) with
      | false => cases (cF b2 h)
      | true =>
        have h := cT b2 h
        refine XR.rd E0_ok [0, 1, 7, 8, 32] rfl (v := .pointer (some ⟨1, (Int.toNat x8_5) * 2, none⟩)) (v_idx (s := 2) (x := (src 53 (.tmp 30))) (y := (src 53 (.tmp 31))) (b := 1) (o := 0) (len := lh1_5.length) (cap := lh1_5.length) (ik := .i64) (i := x8_5) (off := (Int.toNat x8_5) * 2) (d := (some (path 12 32))) (by kernel_rfl) (by kernel_rfl) (by kernel_rfl) b2 (by omega)) (σ' := [(0, .slice (some ⟨1, 0, none⟩) lh1_5.length lh1_5.length), (1, .int .i64 b), (7, .slice (some ⟨2, 0, none⟩) lh2_5.length lh2_5.length), (8, .int .i64 x8_5), (32, .pointer (some ⟨1, (Int.toNat x8_5) * 2, none⟩))]) (by kernel_rfl) ?_
        refine XR.run E0_ok 1 1 [0, 1, 7, 8, 33] rfl (σ' := [(0, .slice (some ⟨1, 0, none⟩) lh1_5.length lh1_5.length), (1, .int .i64 b), (7, .slice (some ⟨2, 0, none⟩) lh2_5.length lh2_5.length), (8, .int .i64 x8_5), (33, .pointer (some ⟨1, (Int.toNat x8_5) * 2, none⟩))]) (h' := [(2, .cells (rowC (encI .i64) lh2_5) 0 3 1), (1, .cells (rowC encP lh1_5) 0 83 2), (0, .cells (rowC encP a) z0 y0 2)]) (c' := 3) (by kernel_rfl) ?_
        refine XR.rd E0_ok [0, 1, 7, 8, 34] rfl (v := .int .i64 ((List.getD lh1_5 (Int.toNat x8_5) (0, 0)).1)) (v_load1 encP_ok (x := (src 53 (.tmp 33))) (b := 1) (off := (Int.toNat x8_5) * 2) (xs := lh1_5) (fz := 0) (e := 83) (es := 2) (d := (some (path 12 34))) (by kernel_rfl) (by kernel_rfl) (by kernel_rfl) (Int.toNat x8_5) 0 (0, 0) (by first | rfl | omega) (row_len (inRow_toNat b2) (by simp)) rfl rfl) (σ' := [(0, .slice (some ⟨1, 0, none⟩) lh1_5.length lh1_5.length), (1, .int .i64 b), (7, .slice (some ⟨2, 0, none⟩) lh2_5.length lh2_5.length), (8, .int .i64 x8_5), (34, .int .i64 ((List.getD lh1_5 (Int.toNat x8_5) (0, 0)).1))]) (by kernel_rfl) ?_
        refine XR.run E0_ok 1 1 [0, 1, 7, 8, 9] rfl (σ' := [(0, .slice (some ⟨1, 0, none⟩) lh1_5.length lh1_5.length), (1, .int .i64 b), (7, .slice (some ⟨2, 0, none⟩) lh2_5.length lh2_5.length), (8, .int .i64 x8_5), (9, .int .i64 ((List.getD lh1_5 (Int.toNat x8_5) (0, 0)).1))]) (h' := [(2, .cells (rowC (encI .i64) lh2_5) 0 3 1), (1, .cells (rowC encP lh1_5) 0 83 2), (0, .cells (rowC encP a) z0 y0 2)]) (c' := 3) (by kernel_rfl) ?_
        refine XR.done (by kernel_rfl) ?_
        show XQ _ _ _ _ _ _ _ _
        refine XQ.seq E0_ok (by kernel_rfl) ?_
        refine XQ.block (id := 2) (by kernel_rfl) ?_
        refine XQ.loop m (by kernel_rfl) ?_
        obtain ⟨o6, o6_h, h⟩ := bS h
        refine XL.ren (σ' := [(0, .slice (some ⟨1, 0, none⟩) lh1_5.length lh1_5.length), (1, .int .i64 b), (7, .slice (some ⟨2, 0, none⟩) lh2_5.length lh2_5.length), (8, .int .i64 x8_5), (9, .int .i64 ((List.getD lh1_5 (Int.toNat x8_5) (0, 0)).1))]) (h' := [(2, .cells (rowC (encI .i64) lh2_5) 0 3 1), (1, .cells (rowC encP lh1_5) 0 83 2), (0, .cells (rowC encP a) z0 y0 2)]) (c' := 3) [0, 1, 2] (by decide) rfl ⟨by kernel_rfl, by kernel_rfl, by kernel_rfl, by kernel_rfl, by kernel_rfl, trivial⟩ ⟨⟨_, _, rfl, rfl, .inl ⟨rfl, rowC_scal (encI_ok .i64) _⟩⟩, ⟨_, _, rfl, rfl, .inl ⟨rfl, rowC_scal encP_ok _⟩⟩, ⟨_, _, rfl, rfl, .inl ⟨rfl, rowC_scal encP_ok _⟩⟩, trivial⟩ rfl ?_
        refine XL.conv (f19_6_ok m m z0 y0 a b x8_5 lh1_5 lh2_5 ((List.getD lh1_5 (Int.toNat x8_5) (0, 0)).1) o6 o6_h _ ?_) (by first | rfl | simp)
        show XQ _ _ _ _ _ _ _ _
        refine XQ.seq E0_ok (by kernel_rfl) ?_
        refine XQ.region (by kernel_rfl) ?_
        refine XR.run E0_ok 1 3 [1, 7, 8, 9, 44, 45, 46] rfl (σ' := [(1, .int .i64 b), (7, .slice (some ⟨2, 0, none⟩) lh2_5.length lh2_5.length), (8, .int .i64 x8_5), (9, .int .i64 o6), (44, .slice (some ⟨1, 0, none⟩) lh1_5.length lh1_5.length), (45, .int .i64 x8_5), (46, .int .i64 o6)]) (h' := [(2, .cells (rowC (encI .i64) lh2_5) 0 3 1), (1, .cells (rowC encP lh1_5) 0 83 2), (0, .cells (rowC encP a) z0 y0 2)]) (c' := 3) (by kernel_rfl) ?_
        obtain ⟨r52, r52_h, h⟩ := bS h
        refine XR.call E0_ok [1, 7, 8, 9, 47] rfl (K := 61) (args := [.slice (some ⟨1, 0, none⟩) lh1_5.length lh1_5.length, .int .i64 x8_5, .int .i64 o6]) (d := (some (path 12 47))) (by kernel_rfl) (KC.liftH (n0 := 1) (m := 1) (args0 := [.slice (some ⟨0, 0, none⟩) lh1_5.length lh1_5.length, .int .i64 x8_5, .int .i64 o6]) (h0 := [(0, .cells (rowC encP lh1_5) (0 + ((rowC encP lh1_5).length + 1)) 83 2)]) (V := .slice (some ⟨1, 0, none⟩) r52.length r52.length) (V2 := .slice (some ⟨3, 0, none⟩) r52.length r52.length) (H := [(1, .cells (rowC encP r52) 0 83 2)]) (H2 := [(3, .cells (rowC encP r52) 0 83 2)]) [1] [2, 3, 4, 1] (f61_ok m (0 + ((rowC encP lh1_5).length + 1)) 83 lh1_5 x8_5 o6 r52 r52_h) (by rfl) (by decide) rfl (by kernel_rfl) ⟨⟨_, _, rfl, rfl, .inl ⟨rfl, rowC_scal encP_ok _⟩⟩, trivial⟩ (by decide) (by decide) (by kernel_rfl) ⟨⟨_, _, rfl, rfl, .inl ⟨rfl, rowC_scal encP_ok _⟩⟩, trivial⟩ (by rfl)) ?_
        rintro _ _ _ ⟨rfl, rfl, rfl⟩
        refine XR.conv (σ' := [(1, .int .i64 b), (7, .slice (some ⟨2, 0, none⟩) lh2_5.length lh2_5.length), (8, .int .i64 x8_5), (9, .int .i64 o6), (47, .slice (some ⟨3, 0, none⟩) r52.length r52.length)]) (h' := [(3, .cells (rowC encP r52) 0 83 2), (2, .cells (rowC (encI .i64) lh2_5) 0 3 1), (1, .cells (rowC encP lh1_5) 0 83 2), (0, .cells (rowC encP a) z0 y0 2)]) (c' := 4) ?_ (by kernel_rfl)
        refine XR.run E0_ok 1 1 [0, 1, 7, 8, 9] rfl (σ' := [(0, .slice (some ⟨3, 0, none⟩) r52.length r52.length), (1, .int .i64 b), (7, .slice (some ⟨2, 0, none⟩) lh2_5.length lh2_5.length), (8, .int .i64 x8_5), (9, .int .i64 o6)]) (h' := [(3, .cells (rowC encP r52) 0 83 2), (2, .cells (rowC (encI .i64) lh2_5) 0 3 1), (1, .cells (rowC encP lh1_5) 0 83 2), (0, .cells (rowC encP a) z0 y0 2)]) (c' := 4) (by kernel_rfl) ?_
        refine XR.done (by kernel_rfl) ?_
        show XQ _ _ _ _ _ _ _ _
        refine XQ.region (by kernel_rfl) ?_
        refine XR.run E0_ok 1 3 [0, 1, 8, 48, 50] rfl (σ' := [(0, .slice (some ⟨3, 0, none⟩) r52.length r52.length), (1, .int .i64 b), (8, .int .i64 x8_5), (48, .slice (some ⟨2, 0, none⟩) lh2_5.length lh2_5.length), (50, .slice (some ⟨4, 0, none⟩) 1 1)]) (h' := [(4, .cells [.int .i64 o6] 0 3 1), (3, .cells (rowC encP r52) 0 83 2), (2, .cells (rowC (encI .i64) lh2_5) 0 3 1), (1, .cells (rowC encP lh1_5) 0 83 2), (0, .cells (rowC encP a) z0 y0 2)]) (c' := 5) (by kernel_rfl) ?_
        cases b4 : (fitsB (lh2_5.length + 1) 8 : Bool) with
        | false => cases (cF b4 h)
        | true =>
          have h := cT b4 h
          refine XR.ef E0_ok [0, 1, 8, 51] rfl (e_append (encI_ok .i64) (bytes := 8) (e := 3) (x := (src 53 (.tmp 48))) (y := (src 53 (.tmp 50))) (b := 2) (len := lh2_5.length) (cap := lh2_5.length) (xs := lh2_5) (m := 0) (ys := [o6]) (d := (some (path 12 51))) (n' := (lh2_5 ++ [o6]).length) (h' := [(5, .cells (rowC (encI .i64) (lh2_5 ++ [o6])) 0 3 1), (4, .cells [.int .i64 o6] 0 3 1), (3, .cells (rowC encP r52) 0 83 2), (1, .cells (rowC encP lh1_5) 0 83 2), (0, .cells (rowC encP a) z0 y0 2)]) (by kernel_rfl) (by kernel_rfl) (by kernel_rfl) (by kernel_rfl) rfl (by simp) (by simp) b4 (by simp) (by kernel_rfl)) (σ' := [(0, .slice (some ⟨3, 0, none⟩) r52.length r52.length), (1, .int .i64 b), (8, .int .i64 x8_5), (51, .slice (some ⟨5, 0, none⟩) ((lh2_5 ++ [o6]).length) ((lh2_5 ++ [o6]).length))]) (by kernel_rfl) ?_
          refine XR.run E0_ok 1 1 [0, 1, 7, 8] rfl (σ' := [(0, .slice (some ⟨3, 0, none⟩) r52.length r52.length), (1, .int .i64 b), (7, .slice (some ⟨5, 0, none⟩) ((lh2_5 ++ [o6]).length) ((lh2_5 ++ [o6]).length)), (8, .int .i64 x8_5)]) (h' := [(5, .cells (rowC (encI .i64) (lh2_5 ++ [o6])) 0 3 1), (4, .cells [.int .i64 o6] 0 3 1), (3, .cells (rowC encP r52) 0 83 2), (1, .cells (rowC encP lh1_5) 0 83 2), (0, .cells (rowC encP a) z0 y0 2)]) (c' := 6) (by kernel_rfl) ?_
          refine XR.done (by kernel_rfl) ?_
          show XQ _ _ _ _ _ _ _ _
          refine XQ.region (by kernel_rfl) ?_
          refine XR.run E0_ok 1 3 [0, 1, 7, 8] rfl (σ' := [(0, .slice (some ⟨3, 0, none⟩) r52.length r52.length), (1, .int .i64 b), (7, .slice (some ⟨5, 0, none⟩) ((lh2_5 ++ [o6]).length) ((lh2_5 ++ [o6]).length)), (8, .int .i64 (w64 (x8_5 + 1)))]) (h' := [(5, .cells (rowC (encI .i64) (lh2_5 ++ [o6])) 0 3 1), (4, .cells [.int .i64 o6] 0 3 1), (3, .cells (rowC encP r52) 0 83 2), (1, .cells (rowC encP lh1_5) 0 83 2), (0, .cells (rowC encP a) z0 y0 2)]) (c' := 6) (by kernel_rfl) ?_
          refine XR.done (by kernel_rfl) ?_
          show XL _ _ _ _ _ _ _ _ _
          refine XL.ren (σ' := [(0, .slice (some ⟨1, 0, none⟩) r52.length r52.length), (1, .int .i64 b), (7, .slice (some ⟨2, 0, none⟩) ((lh2_5 ++ [o6]).length) ((lh2_5 ++ [o6]).length)), (8, .int .i64 (w64 (x8_5 + 1)))]) (h' := [(2, .cells (rowC (encI .i64) (lh2_5 ++ [o6])) 0 3 1), (1, .cells (rowC encP r52) 0 83 2), (0, .cells (rowC encP a) z0 y0 2)]) (c' := 3) [0, 3, 5] (by decide) rfl ⟨by kernel_rfl, by kernel_rfl, by kernel_rfl, by kernel_rfl, trivial⟩ ⟨⟨_, _, rfl, rfl, .inl ⟨rfl, rowC_scal (encI_ok .i64) _⟩⟩, ⟨_, _, rfl, rfl, .inl ⟨rfl, rowC_scal encP_ok _⟩⟩, ⟨_, _, rfl, rfl, .inl ⟨rfl, rowC_scal encP_ok _⟩⟩, trivial⟩ rfl ?_
          refine XL.conv (f19_5_ok m fuel z0 y0 a b (w64 (x8_5 + 1)) r52 (lh2_5 ++ [o6]) o h Q hQ) (by first | rfl | simp)
    | false =>
      have h := cF b1 h
      refine XQ.cond (s := (.tmp 27)) (b := false) (by kernel_rfl) (by kernel_rfl) (fun q => by cases q) (fun _ => ?_)
      refine XQ.ren (σ' := [(7, .slice (some ⟨1, 0, none⟩) lh2_5.length lh2_5.length)]) (h' := [(1, .cells (rowC (encI .i64) lh2_5) 0 3 1), (0, .cells (rowC encP a) z0 y0 2)]) (c' := 2) [0, 2] (by decide) rfl ⟨by kernel_rfl, trivial⟩ ⟨⟨_, _, rfl, rfl, .inl ⟨rfl, rowC_scal (encI_ok .i64) _⟩⟩, ⟨_, _, rfl, rfl, .inl ⟨rfl, rowC_scal encP_ok _⟩⟩, trivial⟩ rfl ?_
      refine XQ.exit (i := 0) (by kernel_rfl) ?_
      cases h
      exact hQ

def f19 (m : Nat) (a : List (Int × Int)) (b : Int) : Option ((List Int) × Int) :=
  (f59 m a b).bind fun r1 =>
    cond (r1 == 0) (
      (f60 m a b).bind fun r2 =>
        cond ((cond (!r2) 12 r1 : Int) != 0) (
          some ([], cond (!r2) 12 r1)
        ) (
          cond (decide ((0 : Int) < ((a.length : Nat) : Int))) (
            cond (inRow 0 a.length) (
              (f19_1 m m a b ((List.getD a 0 (0, 0)).1)).bind fun o1 =>
                (f61 m a 0 o1).bind fun r12 =>
                  (f19_2 m m a b 1 r12 [o1]).bind fun o2 =>
                    some (o2, 0)
            ) none
          ) (
            some ([], 0)
          )
        )
    ) (
      cond (r1 != 0) (
        some ([], r1)
      ) (
        cond (decide ((0 : Int) < ((a.length : Nat) : Int))) (
          cond (inRow 0 a.length) (
            (f19_4 m m a b ((List.getD a 0 (0, 0)).1)).bind fun o4 =>
              (f61 m a 0 o4).bind fun r37 =>
                (f19_5 m m a b 1 r37 [o4]).bind fun o5 =>
                  some (o5, 0)
          ) none
        ) (
          some ([], 0)
        )
      )
    )

theorem f19_ok (m : Nat) (z0 : Nat) (y0 : Nat) (a : List (Int × Int)) (b : Int) (o : (List Int) × Int) (h : f19 m a b = some o) : KC E0 19 [.slice (some ⟨0, 0, none⟩) a.length a.length, .int .i64 b] [(0, .cells (rowC encP a) z0 y0 2)] 1 (fun v h' c' => v = .tuple #[.slice (some ⟨1, 0, none⟩) o.1.length o.1.length, .int .i64 o.2] ∧ h' = [(1, .cells (rowC (encI .i64) o.1) 0 3 1)] ++ [(0, .cells (rowC encP a) z0 y0 2)] ∧ c' = 2) := by
  refine KC.bodyN E0_ok (F := Proofs.Try.f19) (by kernel_rfl) (code := f19_C19) (by kernel_rfl) (nt := 53) (by kernel_rfl) (rs := [.tmp 4, .tmp 5]) (by kernel_rfl) (by kernel_rfl) (σ := [(0, .slice (some ⟨0, 0, none⟩) a.length a.length), (1, .int .i64 b)]) (by kernel_rfl) ?_
  unfold f19 at h
  refine XQ.seq E0_ok (by kernel_rfl) ?_
  refine XQ.region (by kernel_rfl) ?_
  refine XR.run E0_ok 1 2 [0, 1] rfl (σ' := [(0, .slice (some ⟨0, 0, none⟩) a.length a.length), (1, .int .i64 b)]) (h' := [(0, .cells (rowC encP a) z0 y0 2)]) (c' := 1) (by kernel_rfl) ?_
  refine XR.done (by kernel_rfl) ?_
  show XQ _ _ _ _ _ _ _ _
  refine XQ.seq E0_ok (by kernel_rfl) ?_
  refine XQ.region (by kernel_rfl) ?_
  refine XR.run E0_ok 1 2 [0, 1, 10, 11] rfl (σ' := [(0, .slice (some ⟨0, 0, none⟩) a.length a.length), (1, .int .i64 b), (10, .slice (some ⟨0, 0, none⟩) a.length a.length), (11, .int .i64 b)]) (h' := [(0, .cells (rowC encP a) z0 y0 2)]) (c' := 1) (by kernel_rfl) ?_
  obtain ⟨r1, r1_h, h⟩ := bS h
  refine XR.call E0_ok [0, 1, 12] rfl (K := 59) (args := [.slice (some ⟨0, 0, none⟩) a.length a.length, .int .i64 b]) (d := (some (path 12 12))) (by kernel_rfl) (KQ.call (KC.quiet E0_ok (args0 := [.slice (some ⟨0, 0, none⟩) a.length a.length, .int .i64 b]) (h0 := [(0, .cells (rowC encP a) (z0 + ((rowC encP a).length + 1)) y0 2)]) (n := 1) (V := .int .i64 r1) [0] (f59_ok m (z0 + ((rowC encP a).length + 1)) y0 a b r1 r1_h) rfl (by rfl) (by decide) rfl (by kernel_rfl) ⟨⟨_, _, rfl, rfl, .inl ⟨rfl, rowC_scal encP_ok _⟩⟩, trivial⟩) rfl) ?_
  rintro _ _ _ ⟨rfl, rfl, rfl⟩
  refine XR.conv (σ' := [(0, .slice (some ⟨0, 0, none⟩) a.length a.length), (1, .int .i64 b), (12, .int .i64 r1)]) (h' := [(0, .cells (rowC encP a) z0 y0 2)]) (c' := 1) ?_ (by kernel_rfl)
  refine XR.run E0_ok 1 1 [0, 1, 6] rfl (σ' := [(0, .slice (some ⟨0, 0, none⟩) a.length a.length), (1, .int .i64 b), (6, .int .i64 r1)]) (h' := [(0, .cells (rowC encP a) z0 y0 2)]) (c' := 1) (by kernel_rfl) ?_
  refine XR.done (by kernel_rfl) ?_
  show XQ _ _ _ _ _ _ _ _
  refine XQ.seq E0_ok (by kernel_rfl) ?_
  refine XQ.seq E0_ok (by kernel_rfl) ?_
  refine XQ.region (by kernel_rfl) ?_
  refine XR.run E0_ok 1 3 [0, 1, 6, 15] rfl (σ' := [(0, .slice (some ⟨0, 0, none⟩) a.length a.length), (1, .int .i64 b), (6, .int .i64 r1), (15, .bool (r1 == 0))]) (h' := [(0, .cells (rowC encP a) z0 y0 2)]) (c' := 1) (by kernel_rfl) ?_
  cases b1 : (r1 == 0 : Bool) with
  | true =>
    have h := cT b1 h
    refine XR.run E0_ok 1 2 [0, 1, 6, 15, 16, 17] rfl (σ' := [(0, .slice (some ⟨0, 0, none⟩) a.length a.length), (1, .int .i64 b), (6, .int .i64 r1), (15, .bool true), (16, .slice (some ⟨0, 0, none⟩) a.length a.length), (17, .int .i64 b)]) (h' := [(0, .cells (rowC encP a) z0 y0 2)]) (c' := 1) (by kernel_rfl) ?_
    obtain ⟨r2, r2_h, h⟩ := bS h
    refine XR.call E0_ok [0, 1, 6, 15, 18] rfl (K := 60) (args := [.slice (some ⟨0, 0, none⟩) a.length a.length, .int .i64 b]) (d := (some (path 12 18))) (by kernel_rfl) (KQ.call (KC.quiet E0_ok (args0 := [.slice (some ⟨0, 0, none⟩) a.length a.length, .int .i64 b]) (h0 := [(0, .cells (rowC encP a) (z0 + ((rowC encP a).length + 1)) y0 2)]) (n := 1) (V := .bool r2) [0] (f60_ok m (z0 + ((rowC encP a).length + 1)) y0 a b r2 r2_h) rfl (by rfl) (by decide) rfl (by kernel_rfl) ⟨⟨_, _, rfl, rfl, .inl ⟨rfl, rowC_scal encP_ok _⟩⟩, trivial⟩) rfl) ?_
    rintro _ _ _ ⟨rfl, rfl, rfl⟩
    refine XR.conv (σ' := [(0, .slice (some ⟨0, 0, none⟩) a.length a.length), (1, .int .i64 b), (6, .int .i64 r1), (15, .bool true), (18, .bool r2)]) (h' := [(0, .cells (rowC encP a) z0 y0 2)]) (c' := 1) ?_ (by kernel_rfl)
    refine XR.run E0_ok 1 2 [0, 1, 6, 20] rfl (σ' := [(0, .slice (some ⟨0, 0, none⟩) a.length a.length), (1, .int .i64 b), (6, .int .i64 r1), (20, .bool (!r2))]) (h' := [(0, .cells (rowC encP a) z0 y0 2)]) (c' := 1) (by kernel_rfl) ?_
    refine XR.done (by kernel_rfl) ?_
    show XQ _ _ _ _ _ _ _ _
    refine XQ.meetC (σ' := [(0, .slice (some ⟨0, 0, none⟩) a.length a.length), (1, .int .i64 b), (6, .int .i64 (cond (!r2) 12 r1))]) (h' := [(0, .cells (rowC encP a) z0 y0 2)]) (c' := 1) ?_ ?_
    rotate_left
    · refine XQ.cond (s := (.tmp 20)) (b := !r2) (by kernel_rfl) (by kernel_rfl) (fun b2 => ?_) (fun b2 => ?_)
      · refine XQ.region (by kernel_rfl) ?_
        refine XR.run E0_ok 1 1 [0, 1, 6] rfl (σ' := [(0, .slice (some ⟨0, 0, none⟩) a.length a.length), (1, .int .i64 b), (6, .int .i64 12)]) (h' := [(0, .cells (rowC encP a) z0 y0 2)]) (c' := 1) (by kernel_rfl) ?_
        refine XR.done (by kernel_rfl) ?_
        refine ⟨rfl, ?_, ?_⟩
        · try rw [b2]
          exact ⟨by kernel_rfl, by kernel_rfl, by kernel_rfl, trivial⟩
        · try rw [b2]
          kernel_rfl
      · refine XQ.skip (by kernel_rfl) ?_
        refine ⟨rfl, ?_, ?_⟩
        · try rw [b2]
          exact ⟨by kernel_rfl, by kernel_rfl, by kernel_rfl, trivial⟩
        · try rw [b2]
          kernel_rfl
    show XQ _ _ _ _ _ _ _ _
    refine XQ.seq E0_ok (by kernel_rfl) ?_
    refine XQ.seq E0_ok (by kernel_rfl) ?_
    refine XQ.region (by kernel_rfl) ?_
    refine XR.run E0_ok 1 2 [0, 1, 6, 22] rfl (σ' := [(0, .slice (some ⟨0, 0, none⟩) a.length a.length), (1, .int .i64 b), (6, .int .i64 (cond (!r2) 12 r1)), (22, .bool ((cond (!r2) 12 r1 : Int) != 0))]) (h' := [(0, .cells (rowC encP a) z0 y0 2)]) (c' := 1) (by kernel_rfl) ?_
    refine XR.done (by kernel_rfl) ?_
    show XQ _ _ _ _ _ _ _ _
    cases b3 : ((cond (!r2) 12 r1 : Int) != 0 : Bool) with
    | true =>
      have h := cT b3 h
      refine XQ.cond (s := (.tmp 22)) (b := true) (by kernel_rfl) (by kernel_rfl) (fun _ => ?_) (fun q => by cases q)
      refine XQ.seq E0_ok (by kernel_rfl) ?_
      refine XQ.region (by kernel_rfl) ?_
      refine XR.run E0_ok 1 3 [4, 5] rfl (σ' := [(4, .slice none 0 0), (5, .int .i64 (cond (!r2) 12 r1))]) (h' := [(0, .cells (rowC encP a) z0 y0 2)]) (c' := 1) (by kernel_rfl) ?_
      refine XR.done (by kernel_rfl) ?_
      show XQ _ _ _ _ _ _ _ _
      refine XQ.ghost 3 1 rfl (σ' := [(4, .slice (some ⟨1, 0, none⟩) 0 0), (5, .int .i64 (cond (!r2) 12 r1))]) (h' := [(0, .cells (rowC encP a) z0 y0 2)]) ⟨by kernel_rfl, by kernel_rfl, trivial⟩ ⟨⟨_, rfl, .inl rfl⟩, trivial⟩ ?_
      refine XQ.conv (σ' := [(4, .slice (some ⟨1, 0, none⟩) 0 0), (5, .int .i64 (cond (!r2) 12 r1))]) (h' := [(1, .cells (rowC (encI .i64) []) 0 3 1), (0, .cells (rowC encP a) z0 y0 2)]) (c' := 2) ?_ (by kernel_rfl)
      refine XQ.ren (σ' := [(4, .slice (some ⟨1, 0, none⟩) 0 0), (5, .int .i64 (cond (!r2) 12 r1))]) (h' := [(1, .cells (rowC (encI .i64) []) 0 3 1), (0, .cells (rowC encP a) z0 y0 2)]) (c' := 2) [0, 1] (by decide) rfl ⟨by kernel_rfl, by kernel_rfl, trivial⟩ ⟨⟨_, _, rfl, rfl, .inl ⟨rfl, rowC_scal (encI_ok .i64) _⟩⟩, ⟨_, _, rfl, rfl, .inl ⟨rfl, rowC_scal encP_ok _⟩⟩, trivial⟩ rfl ?_
      refine XQ.ret (by kernel_rfl) ?_
      have h := Option.some.inj h
      subst h
      exact ⟨fun i q => (by cases q), .tuple #[.slice (some ⟨1, 0, none⟩) 0 0, .int .i64 (cond (!r2) 12 r1)], (by kernel_rfl), (by kernel_rfl), (by kernel_rfl), rfl⟩
    | false =>
      have h := cF b3 h
      refine XQ.cond (s := (.tmp 22)) (b := false) (by kernel_rfl) (by kernel_rfl) (fun q => by cases q) (fun _ => ?_)
      refine XQ.skip (by kernel_rfl) ?_
      show XQ _ _ _ _ _ _ _ _
      refine XQ.seq E0_ok (by kernel_rfl) ?_
      refine XQ.region (by kernel_rfl) ?_
      refine XR.run E0_ok 1 1 [0, 1, 7] rfl (σ' := [(0, .slice (some ⟨0, 0, none⟩) a.length a.length), (1, .int .i64 b), (7, .slice none 0 0)]) (h' := [(0, .cells (rowC encP a) z0 y0 2)]) (c' := 1) (by kernel_rfl) ?_
      refine XR.done (by kernel_rfl) ?_
      show XQ _ _ _ _ _ _ _ _
      refine XQ.ghost 3 1 rfl (σ' := [(0, .slice (some ⟨0, 0, none⟩) a.length a.length), (1, .int .i64 b), (7, .slice (some ⟨1, 0, none⟩) 0 0)]) (h' := [(0, .cells (rowC encP a) z0 y0 2)]) ⟨by kernel_rfl, by kernel_rfl, by kernel_rfl, trivial⟩ ⟨⟨_, rfl, .inl rfl⟩, trivial⟩ ?_
      refine XQ.conv (σ' := [(0, .slice (some ⟨0, 0, none⟩) a.length a.length), (1, .int .i64 b), (7, .slice (some ⟨1, 0, none⟩) 0 0)]) (h' := [(1, .cells (rowC (encI .i64) []) 0 3 1), (0, .cells (rowC encP a) z0 y0 2)]) (c' := 2) ?_ (by kernel_rfl)
      refine XQ.seq E0_ok (by kernel_rfl) ?_
      refine XQ.seq E0_ok (by kernel_rfl) ?_
      refine XQ.region (by kernel_rfl) ?_
      refine XR.run E0_ok 1 1 [0, 1, 7, 8] rfl (σ' := [(0, .slice (some ⟨0, 0, none⟩) a.length a.length), (1, .int .i64 b), (7, .slice (some ⟨1, 0, none⟩) 0 0), (8, .int .i64 0)]) (h' := [(1, .cells (rowC (encI .i64) []) 0 3 1), (0, .cells (rowC encP a) z0 y0 2)]) (c' := 2) (by kernel_rfl) ?_
      refine XR.done (by kernel_rfl) ?_
      show XQ _ _ _ _ _ _ _ _
      refine XQ.block (id := 0) (by kernel_rfl) ?_
      refine XQ.loop (m + 1) (by kernel_rfl) ?_
      refine XL.succ E0_ok ?_
      refine XQ.seq E0_ok (by kernel_rfl) ?_
      refine XQ.seq E0_ok (by kernel_rfl) ?_
      refine XQ.region (by kernel_rfl) ?_
      refine XR.run E0_ok 1 4 [0, 1, 7, 8, 27] rfl (σ' := [(0, .slice (some ⟨0, 0, none⟩) a.length a.length), (1, .int .i64 b), (7, .slice (some ⟨1, 0, none⟩) 0 0), (8, .int .i64 0), (27, .bool (decide ((0 : Int) < ((a.length : Nat) : Int))))]) (h' := [(1, .cells (rowC (encI .i64) []) 0 3 1), (0, .cells (rowC encP a) z0 y0 2)]) (c' := 2) (by kernel_rfl) ?_
      refine XR.done (by kernel_rfl) ?_
      show XQ _ _ _ _ _ _ _ _
      cases b4 : (decide ((0 : Int) < ((a.length : Nat) : Int)) : Bool) with
      | true =>
        have h := cT b4 h
        refine XQ.cond (s := (.tmp 27)) (b := true) (by kernel_rfl) (by kernel_rfl) (fun _ => ?_) (fun q => by cases q)
        refine XQ.skip (by kernel_rfl) ?_
        show XQ _ _ _ _ _ _ _ _
        refine XQ.seq E0_ok (by kernel_rfl) ?_
        refine XQ.block (id := 1) (by kernel_rfl) ?_
        refine XQ.seq E0_ok (by kernel_rfl) ?_
        refine XQ.region (by kernel_rfl) ?_
        refine XR.run E0_ok 1 2 [0, 1, 7, 8, 30, 31] rfl (σ' := [(0, .slice (some ⟨0, 0, none⟩) a.length a.length), (1, .int .i64 b), (7, .slice (some ⟨1, 0, none⟩) 0 0), (8, .int .i64 0), (30, .slice (some ⟨0, 0, none⟩) a.length a.length), (31, .int .i64 0)]) (h' := [(1, .cells (rowC (encI .i64) []) 0 3 1), (0, .cells (rowC encP a) z0 y0 2)]) (c' := 2) (by kernel_rfl) ?_
        cases b5 : (inRow 0 a.length : Bool) with
        | false => cases (cF b5 h)
        | true =>
          have h := cT b5 h
          refine XR.rd E0_ok [0, 1, 7, 8, 32] rfl (v := .pointer (some ⟨0, 0 * 2, none⟩)) (v_idx (s := 2) (x := (src 53 (.tmp 30))) (y := (src 53 (.tmp 31))) (b := 0) (o := 0) (len := a.length) (cap := a.length) (ik := .i64) (i := 0) (off := 0 * 2) (d := (some (path 12 32))) (by kernel_rfl) (by kernel_rfl) (by kernel_rfl) b5 (by omega)) (σ' := [(0, .slice (some ⟨0, 0, none⟩) a.length a.length), (1, .int .i64 b), (7, .slice (some ⟨1, 0, none⟩) 0 0), (8, .int .i64 0), (32, .pointer (some ⟨0, 0 * 2, none⟩))]) (by kernel_rfl) ?_
          refine XR.run E0_ok 1 1 [0, 1, 7, 8, 33] rfl (σ' := [(0, .slice (some ⟨0, 0, none⟩) a.length a.length), (1, .int .i64 b), (7, .slice (some ⟨1, 0, none⟩) 0 0), (8, .int .i64 0), (33, .pointer (some ⟨0, 0 * 2, none⟩))]) (h' := [(1, .cells (rowC (encI .i64) []) 0 3 1), (0, .cells (rowC encP a) z0 y0 2)]) (c' := 2) (by kernel_rfl) ?_
          refine XR.rd E0_ok [0, 1, 7, 8, 34] rfl (v := .int .i64 ((List.getD a 0 (0, 0)).1)) (v_load1 encP_ok (x := (src 53 (.tmp 33))) (b := 0) (off := 0 * 2) (xs := a) (fz := z0) (e := y0) (es := 2) (d := (some (path 12 34))) (by kernel_rfl) (by kernel_rfl) (by kernel_rfl) 0 0 (0, 0) (by first | rfl | omega) (row_len (inRow_toNat b5) (by simp)) rfl rfl) (σ' := [(0, .slice (some ⟨0, 0, none⟩) a.length a.length), (1, .int .i64 b), (7, .slice (some ⟨1, 0, none⟩) 0 0), (8, .int .i64 0), (34, .int .i64 ((List.getD a 0 (0, 0)).1))]) (by kernel_rfl) ?_
          refine XR.run E0_ok 1 1 [0, 1, 7, 8, 9] rfl (σ' := [(0, .slice (some ⟨0, 0, none⟩) a.length a.length), (1, .int .i64 b), (7, .slice (some ⟨1, 0, none⟩) 0 0), (8, .int .i64 0), (9, .int .i64 ((List.getD a 0 (0, 0)).1))]) (h' := [(1, .cells (rowC (encI .i64) []) 0 3 1), (0, .cells (rowC encP a) z0 y0 2)]) (c' := 2) (by kernel_rfl) ?_
          refine XR.done (by kernel_rfl) ?_
          show XQ _ _ _ _ _ _ _ _
          refine XQ.seq E0_ok (by kernel_rfl) ?_
          refine XQ.block (id := 2) (by kernel_rfl) ?_
          refine XQ.loop m (by kernel_rfl) ?_
          obtain ⟨o1, o1_h, h⟩ := bS h
          refine XL.ren (σ' := [(0, .slice (some ⟨0, 0, none⟩) a.length a.length), (1, .int .i64 b), (7, .slice (some ⟨1, 0, none⟩) 0 0), (8, .int .i64 0), (9, .int .i64 ((List.getD a 0 (0, 0)).1))]) (h' := [(1, .cells (rowC (encI .i64) []) 0 3 1), (0, .cells (rowC encP a) z0 y0 2)]) (c' := 2) [0, 1] (by decide) rfl ⟨by kernel_rfl, by kernel_rfl, by kernel_rfl, by kernel_rfl, by kernel_rfl, trivial⟩ ⟨⟨_, _, rfl, rfl, .inl ⟨rfl, rowC_scal (encI_ok .i64) _⟩⟩, ⟨_, _, rfl, rfl, .inl ⟨rfl, rowC_scal encP_ok _⟩⟩, trivial⟩ rfl ?_
          refine XL.conv (f19_1_ok m m z0 y0 a b ((List.getD a 0 (0, 0)).1) o1 o1_h _ ?_) (by first | rfl | simp)
          show XQ _ _ _ _ _ _ _ _
          refine XQ.seq E0_ok (by kernel_rfl) ?_
          refine XQ.region (by kernel_rfl) ?_
          refine XR.run E0_ok 1 3 [1, 7, 8, 9, 44, 45, 46] rfl (σ' := [(1, .int .i64 b), (7, .slice (some ⟨1, 0, none⟩) 0 0), (8, .int .i64 0), (9, .int .i64 o1), (44, .slice (some ⟨0, 0, none⟩) a.length a.length), (45, .int .i64 0), (46, .int .i64 o1)]) (h' := [(1, .cells (rowC (encI .i64) []) 0 3 1), (0, .cells (rowC encP a) z0 y0 2)]) (c' := 2) (by kernel_rfl) ?_
          obtain ⟨r12, r12_h, h⟩ := bS h
          refine XR.call E0_ok [1, 7, 8, 9, 47] rfl (K := 61) (args := [.slice (some ⟨0, 0, none⟩) a.length a.length, .int .i64 0, .int .i64 o1]) (d := (some (path 12 47))) (by kernel_rfl) (KC.liftH (n0 := 1) (m := 1) (args0 := [.slice (some ⟨0, 0, none⟩) a.length a.length, .int .i64 0, .int .i64 o1]) (h0 := [(0, .cells (rowC encP a) (z0 + ((rowC encP a).length + 1)) y0 2)]) (V := .slice (some ⟨1, 0, none⟩) r12.length r12.length) (V2 := .slice (some ⟨2, 0, none⟩) r12.length r12.length) (H := [(1, .cells (rowC encP r12) 0 83 2)]) (H2 := [(2, .cells (rowC encP r12) 0 83 2)]) [0] [2, 3, 1] (f61_ok m (z0 + ((rowC encP a).length + 1)) y0 a 0 o1 r12 r12_h) (by rfl) (by decide) rfl (by kernel_rfl) ⟨⟨_, _, rfl, rfl, .inl ⟨rfl, rowC_scal encP_ok _⟩⟩, trivial⟩ (by decide) (by decide) (by kernel_rfl) ⟨⟨_, _, rfl, rfl, .inl ⟨rfl, rowC_scal encP_ok _⟩⟩, trivial⟩ (by rfl)) ?_
          rintro _ _ _ ⟨rfl, rfl, rfl⟩
          refine XR.conv (σ' := [(1, .int .i64 b), (7, .slice (some ⟨1, 0, none⟩) 0 0), (8, .int .i64 0), (9, .int .i64 o1), (47, .slice (some ⟨2, 0, none⟩) r12.length r12.length)]) (h' := [(2, .cells (rowC encP r12) 0 83 2), (1, .cells (rowC (encI .i64) []) 0 3 1), (0, .cells (rowC encP a) z0 y0 2)]) (c' := 3) ?_ (by kernel_rfl)
          refine XR.run E0_ok 1 1 [0, 1, 7, 8, 9] rfl (σ' := [(0, .slice (some ⟨2, 0, none⟩) r12.length r12.length), (1, .int .i64 b), (7, .slice (some ⟨1, 0, none⟩) 0 0), (8, .int .i64 0), (9, .int .i64 o1)]) (h' := [(2, .cells (rowC encP r12) 0 83 2), (1, .cells (rowC (encI .i64) []) 0 3 1), (0, .cells (rowC encP a) z0 y0 2)]) (c' := 3) (by kernel_rfl) ?_
          refine XR.done (by kernel_rfl) ?_
          show XQ _ _ _ _ _ _ _ _
          refine XQ.region (by kernel_rfl) ?_
          refine XR.run E0_ok 1 3 [0, 1, 8, 48, 50] rfl (σ' := [(0, .slice (some ⟨2, 0, none⟩) r12.length r12.length), (1, .int .i64 b), (8, .int .i64 0), (48, .slice (some ⟨1, 0, none⟩) 0 0), (50, .slice (some ⟨3, 0, none⟩) 1 1)]) (h' := [(3, .cells [.int .i64 o1] 0 3 1), (2, .cells (rowC encP r12) 0 83 2), (1, .cells (rowC (encI .i64) []) 0 3 1), (0, .cells (rowC encP a) z0 y0 2)]) (c' := 4) (by kernel_rfl) ?_
          refine XR.ef E0_ok [0, 1, 8, 51] rfl (e_append (encI_ok .i64) (bytes := 8) (e := 3) (x := (src 53 (.tmp 48))) (y := (src 53 (.tmp 50))) (b := 1) (len := 0) (cap := 0) (xs := []) (m := 0) (ys := [o1]) (d := (some (path 12 51))) (n' := 1) (h' := [(4, .cells (rowC (encI .i64) [o1]) 0 3 1), (3, .cells [.int .i64 o1] 0 3 1), (2, .cells (rowC encP r12) 0 83 2), (0, .cells (rowC encP a) z0 y0 2)]) (by kernel_rfl) (by kernel_rfl) (by kernel_rfl) (by kernel_rfl) rfl (by simp) (by simp) (by first | rfl | simp) (by simp) (by kernel_rfl)) (σ' := [(0, .slice (some ⟨2, 0, none⟩) r12.length r12.length), (1, .int .i64 b), (8, .int .i64 0), (51, .slice (some ⟨4, 0, none⟩) 1 1)]) (by kernel_rfl) ?_
          refine XR.run E0_ok 1 1 [0, 1, 7, 8] rfl (σ' := [(0, .slice (some ⟨2, 0, none⟩) r12.length r12.length), (1, .int .i64 b), (7, .slice (some ⟨4, 0, none⟩) 1 1), (8, .int .i64 0)]) (h' := [(4, .cells (rowC (encI .i64) [o1]) 0 3 1), (3, .cells [.int .i64 o1] 0 3 1), (2, .cells (rowC encP r12) 0 83 2), (0, .cells (rowC encP a) z0 y0 2)]) (c' := 5) (by kernel_rfl) ?_
          refine XR.done (by kernel_rfl) ?_
          show XQ _ _ _ _ _ _ _ _
          refine XQ.region (by kernel_rfl) ?_
          refine XR.run E0_ok 1 3 [0, 1, 7, 8] rfl (σ' := [(0, .slice (some ⟨2, 0, none⟩) r12.length r12.length), (1, .int .i64 b), (7, .slice (some ⟨4, 0, none⟩) 1 1), (8, .int .i64 1)]) (h' := [(4, .cells (rowC (encI .i64) [o1]) 0 3 1), (3, .cells [.int .i64 o1] 0 3 1), (2, .cells (rowC encP r12) 0 83 2), (0, .cells (rowC encP a) z0 y0 2)]) (c' := 5) (by kernel_rfl) ?_
          refine XR.done (by kernel_rfl) ?_
          show XL _ _ _ _ _ _ _ _ _
          obtain ⟨o2, o2_h, h⟩ := bS h
          refine XL.ren (σ' := [(0, .slice (some ⟨1, 0, none⟩) r12.length r12.length), (1, .int .i64 b), (7, .slice (some ⟨2, 0, none⟩) 1 1), (8, .int .i64 1)]) (h' := [(2, .cells (rowC (encI .i64) [o1]) 0 3 1), (1, .cells (rowC encP r12) 0 83 2), (0, .cells (rowC encP a) z0 y0 2)]) (c' := 3) [0, 2, 4] (by decide) rfl ⟨by kernel_rfl, by kernel_rfl, by kernel_rfl, by kernel_rfl, trivial⟩ ⟨⟨_, _, rfl, rfl, .inl ⟨rfl, rowC_scal (encI_ok .i64) _⟩⟩, ⟨_, _, rfl, rfl, .inl ⟨rfl, rowC_scal encP_ok _⟩⟩, ⟨_, _, rfl, rfl, .inl ⟨rfl, rowC_scal encP_ok _⟩⟩, trivial⟩ rfl ?_
          refine XL.conv (f19_2_ok m m z0 y0 a b 1 r12 [o1] o2 o2_h _ ?_) (by first | rfl | simp)
          show XQ _ _ _ _ _ _ _ _
          refine XQ.seq E0_ok (by kernel_rfl) ?_
          refine XQ.region (by kernel_rfl) ?_
          refine XR.run E0_ok 1 3 [4, 5] rfl (σ' := [(4, .slice (some ⟨1, 0, none⟩) o2.length o2.length), (5, .int .i64 0)]) (h' := [(1, .cells (rowC (encI .i64) o2) 0 3 1), (0, .cells (rowC encP a) z0 y0 2)]) (c' := 2) (by kernel_rfl) ?_
          refine XR.done (by kernel_rfl) ?_
          show XQ _ _ _ _ _ _ _ _
          refine XQ.ren (σ' := [(4, .slice (some ⟨1, 0, none⟩) o2.length o2.length), (5, .int .i64 0)]) (h' := [(1, .cells (rowC (encI .i64) o2) 0 3 1), (0, .cells (rowC encP a) z0 y0 2)]) (c' := 2) [0, 1] (by decide) rfl ⟨by kernel_rfl, by kernel_rfl, trivial⟩ ⟨⟨_, _, rfl, rfl, .inl ⟨rfl, rowC_scal (encI_ok .i64) _⟩⟩, ⟨_, _, rfl, rfl, .inl ⟨rfl, rowC_scal encP_ok _⟩⟩, trivial⟩ rfl ?_
          refine XQ.ret (by kernel_rfl) ?_
          have h := Option.some.inj h
          subst h
          exact ⟨fun i q => (by cases q), .tuple #[.slice (some ⟨1, 0, none⟩) o2.length o2.length, .int .i64 0], (by kernel_rfl), (by kernel_rfl), (by kernel_rfl), rfl⟩
      | false =>
        have h := cF b4 h
        refine XQ.cond (s := (.tmp 27)) (b := false) (by kernel_rfl) (by kernel_rfl) (fun q => by cases q) (fun _ => ?_)
        refine XQ.exit (i := 0) (by kernel_rfl) ?_
        show XQ _ _ _ _ _ _ _ _
        refine XQ.seq E0_ok (by kernel_rfl) ?_
        refine XQ.region (by kernel_rfl) ?_
        refine XR.run E0_ok 1 3 [4, 5] rfl (σ' := [(4, .slice (some ⟨1, 0, none⟩) 0 0), (5, .int .i64 0)]) (h' := [(1, .cells (rowC (encI .i64) []) 0 3 1), (0, .cells (rowC encP a) z0 y0 2)]) (c' := 2) (by kernel_rfl) ?_
        refine XR.done (by kernel_rfl) ?_
        show XQ _ _ _ _ _ _ _ _
        refine XQ.ren (σ' := [(4, .slice (some ⟨1, 0, none⟩) 0 0), (5, .int .i64 0)]) (h' := [(1, .cells (rowC (encI .i64) []) 0 3 1), (0, .cells (rowC encP a) z0 y0 2)]) (c' := 2) [0, 1] (by decide) rfl ⟨by kernel_rfl, by kernel_rfl, trivial⟩ ⟨⟨_, _, rfl, rfl, .inl ⟨rfl, rowC_scal (encI_ok .i64) _⟩⟩, ⟨_, _, rfl, rfl, .inl ⟨rfl, rowC_scal encP_ok _⟩⟩, trivial⟩ rfl ?_
        refine XQ.ret (by kernel_rfl) ?_
        have h := Option.some.inj h
        subst h
        exact ⟨fun i q => (by cases q), .tuple #[.slice (some ⟨1, 0, none⟩) 0 0, .int .i64 0], (by kernel_rfl), (by kernel_rfl), (by kernel_rfl), rfl⟩
  | false =>
    have h := cF b1 h
    refine XR.run E0_ok 1 5 [0, 1, 6, 20] rfl (σ' := [(0, .slice (some ⟨0, 0, none⟩) a.length a.length), (1, .int .i64 b), (6, .int .i64 r1), (20, .bool false)]) (h' := [(0, .cells (rowC encP a) z0 y0 2)]) (c' := 1) (by kernel_rfl) ?_
    refine XR.done (by kernel_rfl) ?_
    show XQ _ _ _ _ _ _ _ _
    refine XQ.cond (s := (.tmp 20)) (b := false) (by kernel_rfl) (by kernel_rfl) (fun q => by cases q) (fun _ => ?_)
    refine XQ.skip (by kernel_rfl) ?_
    show XQ _ _ _ _ _ _ _ _
    refine XQ.seq E0_ok (by kernel_rfl) ?_
    refine XQ.seq E0_ok (by kernel_rfl) ?_
    refine XQ.region (by kernel_rfl) ?_
    refine XR.run E0_ok 1 2 [0, 1, 6, 22] rfl (σ' := [(0, .slice (some ⟨0, 0, none⟩) a.length a.length), (1, .int .i64 b), (6, .int .i64 r1), (22, .bool (r1 != 0))]) (h' := [(0, .cells (rowC encP a) z0 y0 2)]) (c' := 1) (by kernel_rfl) ?_
    refine XR.done (by kernel_rfl) ?_
    show XQ _ _ _ _ _ _ _ _
    cases b8 : (r1 != 0 : Bool) with
    | true =>
      have h := cT b8 h
      refine XQ.cond (s := (.tmp 22)) (b := true) (by kernel_rfl) (by kernel_rfl) (fun _ => ?_) (fun q => by cases q)
      refine XQ.seq E0_ok (by kernel_rfl) ?_
      refine XQ.region (by kernel_rfl) ?_
      refine XR.run E0_ok 1 3 [4, 5] rfl (σ' := [(4, .slice none 0 0), (5, .int .i64 r1)]) (h' := [(0, .cells (rowC encP a) z0 y0 2)]) (c' := 1) (by kernel_rfl) ?_
      refine XR.done (by kernel_rfl) ?_
      show XQ _ _ _ _ _ _ _ _
      refine XQ.ghost 3 1 rfl (σ' := [(4, .slice (some ⟨1, 0, none⟩) 0 0), (5, .int .i64 r1)]) (h' := [(0, .cells (rowC encP a) z0 y0 2)]) ⟨by kernel_rfl, by kernel_rfl, trivial⟩ ⟨⟨_, rfl, .inl rfl⟩, trivial⟩ ?_
      refine XQ.conv (σ' := [(4, .slice (some ⟨1, 0, none⟩) 0 0), (5, .int .i64 r1)]) (h' := [(1, .cells (rowC (encI .i64) []) 0 3 1), (0, .cells (rowC encP a) z0 y0 2)]) (c' := 2) ?_ (by kernel_rfl)
      refine XQ.ren (σ' := [(4, .slice (some ⟨1, 0, none⟩) 0 0), (5, .int .i64 r1)]) (h' := [(1, .cells (rowC (encI .i64) []) 0 3 1), (0, .cells (rowC encP a) z0 y0 2)]) (c' := 2) [0, 1] (by decide) rfl ⟨by kernel_rfl, by kernel_rfl, trivial⟩ ⟨⟨_, _, rfl, rfl, .inl ⟨rfl, rowC_scal (encI_ok .i64) _⟩⟩, ⟨_, _, rfl, rfl, .inl ⟨rfl, rowC_scal encP_ok _⟩⟩, trivial⟩ rfl ?_
      refine XQ.ret (by kernel_rfl) ?_
      have h := Option.some.inj h
      subst h
      exact ⟨fun i q => (by cases q), .tuple #[.slice (some ⟨1, 0, none⟩) 0 0, .int .i64 r1], (by kernel_rfl), (by kernel_rfl), (by kernel_rfl), rfl⟩
    | false =>
      have h := cF b8 h
      refine XQ.cond (s := (.tmp 22)) (b := false) (by kernel_rfl) (by kernel_rfl) (fun q => by cases q) (fun _ => ?_)
      refine XQ.skip (by kernel_rfl) ?_
      show XQ _ _ _ _ _ _ _ _
      refine XQ.seq E0_ok (by kernel_rfl) ?_
      refine XQ.region (by kernel_rfl) ?_
      refine XR.run E0_ok 1 1 [0, 1, 7] rfl (σ' := [(0, .slice (some ⟨0, 0, none⟩) a.length a.length), (1, .int .i64 b), (7, .slice none 0 0)]) (h' := [(0, .cells (rowC encP a) z0 y0 2)]) (c' := 1) (by kernel_rfl) ?_
      refine XR.done (by kernel_rfl) ?_
      show XQ _ _ _ _ _ _ _ _
      refine XQ.ghost 3 1 rfl (σ' := [(0, .slice (some ⟨0, 0, none⟩) a.length a.length), (1, .int .i64 b), (7, .slice (some ⟨1, 0, none⟩) 0 0)]) (h' := [(0, .cells (rowC encP a) z0 y0 2)]) ⟨by kernel_rfl, by kernel_rfl, by kernel_rfl, trivial⟩ ⟨⟨_, rfl, .inl rfl⟩, trivial⟩ ?_
      refine XQ.conv (σ' := [(0, .slice (some ⟨0, 0, none⟩) a.length a.length), (1, .int .i64 b), (7, .slice (some ⟨1, 0, none⟩) 0 0)]) (h' := [(1, .cells (rowC (encI .i64) []) 0 3 1), (0, .cells (rowC encP a) z0 y0 2)]) (c' := 2) ?_ (by kernel_rfl)
      refine XQ.seq E0_ok (by kernel_rfl) ?_
      refine XQ.seq E0_ok (by kernel_rfl) ?_
      refine XQ.region (by kernel_rfl) ?_
      refine XR.run E0_ok 1 1 [0, 1, 7, 8] rfl (σ' := [(0, .slice (some ⟨0, 0, none⟩) a.length a.length), (1, .int .i64 b), (7, .slice (some ⟨1, 0, none⟩) 0 0), (8, .int .i64 0)]) (h' := [(1, .cells (rowC (encI .i64) []) 0 3 1), (0, .cells (rowC encP a) z0 y0 2)]) (c' := 2) (by kernel_rfl) ?_
      refine XR.done (by kernel_rfl) ?_
      show XQ _ _ _ _ _ _ _ _
      refine XQ.block (id := 0) (by kernel_rfl) ?_
      refine XQ.loop (m + 1) (by kernel_rfl) ?_
      refine XL.succ E0_ok ?_
      refine XQ.seq E0_ok (by kernel_rfl) ?_
      refine XQ.seq E0_ok (by kernel_rfl) ?_
      refine XQ.region (by kernel_rfl) ?_
      refine XR.run E0_ok 1 4 [0, 1, 7, 8, 27] rfl (σ' := [(0, .slice (some ⟨0, 0, none⟩) a.length a.length), (1, .int .i64 b), (7, .slice (some ⟨1, 0, none⟩) 0 0), (8, .int .i64 0), (27, .bool (decide ((0 : Int) < ((a.length : Nat) : Int))))]) (h' := [(1, .cells (rowC (encI .i64) []) 0 3 1), (0, .cells (rowC encP a) z0 y0 2)]) (c' := 2) (by kernel_rfl) ?_
      refine XR.done (by kernel_rfl) ?_
      show XQ _ _ _ _ _ _ _ _
      cases b9 : (decide ((0 : Int) < ((a.length : Nat) : Int)) : Bool) with
      | true =>
        have h := cT b9 h
        refine XQ.cond (s := (.tmp 27)) (b := true) (by kernel_rfl) (by kernel_rfl) (fun _ => ?_) (fun q => by cases q)
        refine XQ.skip (by kernel_rfl) ?_
        show XQ _ _ _ _ _ _ _ _
        refine XQ.seq E0_ok (by kernel_rfl) ?_
        refine XQ.block (id := 1) (by kernel_rfl) ?_
        refine XQ.seq E0_ok (by kernel_rfl) ?_
        refine XQ.region (by kernel_rfl) ?_
        refine XR.run E0_ok 1 2 [0, 1, 7, 8, 30, 31] rfl (σ' := [(0, .slice (some ⟨0, 0, none⟩) a.length a.length), (1, .int .i64 b), (7, .slice (some ⟨1, 0, none⟩) 0 0), (8, .int .i64 0), (30, .slice (some ⟨0, 0, none⟩) a.length a.length), (31, .int .i64 0)]) (h' := [(1, .cells (rowC (encI .i64) []) 0 3 1), (0, .cells (rowC encP a) z0 y0 2)]) (c' := 2) (by kernel_rfl) ?_
        cases b10 : (inRow 0 a.length : Bool) with
        | false => cases (cF b10 h)
        | true =>
          have h := cT b10 h
          refine XR.rd E0_ok [0, 1, 7, 8, 32] rfl (v := .pointer (some ⟨0, 0 * 2, none⟩)) (v_idx (s := 2) (x := (src 53 (.tmp 30))) (y := (src 53 (.tmp 31))) (b := 0) (o := 0) (len := a.length) (cap := a.length) (ik := .i64) (i := 0) (off := 0 * 2) (d := (some (path 12 32))) (by kernel_rfl) (by kernel_rfl) (by kernel_rfl) b10 (by omega)) (σ' := [(0, .slice (some ⟨0, 0, none⟩) a.length a.length), (1, .int .i64 b), (7, .slice (some ⟨1, 0, none⟩) 0 0), (8, .int .i64 0), (32, .pointer (some ⟨0, 0 * 2, none⟩))]) (by kernel_rfl) ?_
          refine XR.run E0_ok 1 1 [0, 1, 7, 8, 33] rfl (σ' := [(0, .slice (some ⟨0, 0, none⟩) a.length a.length), (1, .int .i64 b), (7, .slice (some ⟨1, 0, none⟩) 0 0), (8, .int .i64 0), (33, .pointer (some ⟨0, 0 * 2, none⟩))]) (h' := [(1, .cells (rowC (encI .i64) []) 0 3 1), (0, .cells (rowC encP a) z0 y0 2)]) (c' := 2) (by kernel_rfl) ?_
          refine XR.rd E0_ok [0, 1, 7, 8, 34] rfl (v := .int .i64 ((List.getD a 0 (0, 0)).1)) (v_load1 encP_ok (x := (src 53 (.tmp 33))) (b := 0) (off := 0 * 2) (xs := a) (fz := z0) (e := y0) (es := 2) (d := (some (path 12 34))) (by kernel_rfl) (by kernel_rfl) (by kernel_rfl) 0 0 (0, 0) (by first | rfl | omega) (row_len (inRow_toNat b10) (by simp)) rfl rfl) (σ' := [(0, .slice (some ⟨0, 0, none⟩) a.length a.length), (1, .int .i64 b), (7, .slice (some ⟨1, 0, none⟩) 0 0), (8, .int .i64 0), (34, .int .i64 ((List.getD a 0 (0, 0)).1))]) (by kernel_rfl) ?_
          refine XR.run E0_ok 1 1 [0, 1, 7, 8, 9] rfl (σ' := [(0, .slice (some ⟨0, 0, none⟩) a.length a.length), (1, .int .i64 b), (7, .slice (some ⟨1, 0, none⟩) 0 0), (8, .int .i64 0), (9, .int .i64 ((List.getD a 0 (0, 0)).1))]) (h' := [(1, .cells (rowC (encI .i64) []) 0 3 1), (0, .cells (rowC encP a) z0 y0 2)]) (c' := 2) (by kernel_rfl) ?_
          refine XR.done (by kernel_rfl) ?_
          show XQ _ _ _ _ _ _ _ _
          refine XQ.seq E0_ok (by kernel_rfl) ?_
          refine XQ.block (id := 2) (by kernel_rfl) ?_
          refine XQ.loop m (by kernel_rfl) ?_
          obtain ⟨o4, o4_h, h⟩ := bS h
          refine XL.ren (σ' := [(0, .slice (some ⟨0, 0, none⟩) a.length a.length), (1, .int .i64 b), (7, .slice (some ⟨1, 0, none⟩) 0 0), (8, .int .i64 0), (9, .int .i64 ((List.getD a 0 (0, 0)).1))]) (h' := [(1, .cells (rowC (encI .i64) []) 0 3 1), (0, .cells (rowC encP a) z0 y0 2)]) (c' := 2) [0, 1] (by decide) rfl ⟨by kernel_rfl, by kernel_rfl, by kernel_rfl, by kernel_rfl, by kernel_rfl, trivial⟩ ⟨⟨_, _, rfl, rfl, .inl ⟨rfl, rowC_scal (encI_ok .i64) _⟩⟩, ⟨_, _, rfl, rfl, .inl ⟨rfl, rowC_scal encP_ok _⟩⟩, trivial⟩ rfl ?_
          refine XL.conv (f19_4_ok m m z0 y0 a b ((List.getD a 0 (0, 0)).1) o4 o4_h _ ?_) (by first | rfl | simp)
          show XQ _ _ _ _ _ _ _ _
          refine XQ.seq E0_ok (by kernel_rfl) ?_
          refine XQ.region (by kernel_rfl) ?_
          refine XR.run E0_ok 1 3 [1, 7, 8, 9, 44, 45, 46] rfl (σ' := [(1, .int .i64 b), (7, .slice (some ⟨1, 0, none⟩) 0 0), (8, .int .i64 0), (9, .int .i64 o4), (44, .slice (some ⟨0, 0, none⟩) a.length a.length), (45, .int .i64 0), (46, .int .i64 o4)]) (h' := [(1, .cells (rowC (encI .i64) []) 0 3 1), (0, .cells (rowC encP a) z0 y0 2)]) (c' := 2) (by kernel_rfl) ?_
          obtain ⟨r37, r37_h, h⟩ := bS h
          refine XR.call E0_ok [1, 7, 8, 9, 47] rfl (K := 61) (args := [.slice (some ⟨0, 0, none⟩) a.length a.length, .int .i64 0, .int .i64 o4]) (d := (some (path 12 47))) (by kernel_rfl) (KC.liftH (n0 := 1) (m := 1) (args0 := [.slice (some ⟨0, 0, none⟩) a.length a.length, .int .i64 0, .int .i64 o4]) (h0 := [(0, .cells (rowC encP a) (z0 + ((rowC encP a).length + 1)) y0 2)]) (V := .slice (some ⟨1, 0, none⟩) r37.length r37.length) (V2 := .slice (some ⟨2, 0, none⟩) r37.length r37.length) (H := [(1, .cells (rowC encP r37) 0 83 2)]) (H2 := [(2, .cells (rowC encP r37) 0 83 2)]) [0] [2, 3, 1] (f61_ok m (z0 + ((rowC encP a).length + 1)) y0 a 0 o4 r37 r37_h) (by rfl) (by decide) rfl (by kernel_rfl) ⟨⟨_, _, rfl, rfl, .inl ⟨rfl, rowC_scal encP_ok _⟩⟩, trivial⟩ (by decide) (by decide) (by kernel_rfl) ⟨⟨_, _, rfl, rfl, .inl ⟨rfl, rowC_scal encP_ok _⟩⟩, trivial⟩ (by rfl)) ?_
          rintro _ _ _ ⟨rfl, rfl, rfl⟩
          refine XR.conv (σ' := [(1, .int .i64 b), (7, .slice (some ⟨1, 0, none⟩) 0 0), (8, .int .i64 0), (9, .int .i64 o4), (47, .slice (some ⟨2, 0, none⟩) r37.length r37.length)]) (h' := [(2, .cells (rowC encP r37) 0 83 2), (1, .cells (rowC (encI .i64) []) 0 3 1), (0, .cells (rowC encP a) z0 y0 2)]) (c' := 3) ?_ (by kernel_rfl)
          refine XR.run E0_ok 1 1 [0, 1, 7, 8, 9] rfl (σ' := [(0, .slice (some ⟨2, 0, none⟩) r37.length r37.length), (1, .int .i64 b), (7, .slice (some ⟨1, 0, none⟩) 0 0), (8, .int .i64 0), (9, .int .i64 o4)]) (h' := [(2, .cells (rowC encP r37) 0 83 2), (1, .cells (rowC (encI .i64) []) 0 3 1), (0, .cells (rowC encP a) z0 y0 2)]) (c' := 3) (by kernel_rfl) ?_
          refine XR.done (by kernel_rfl) ?_
          show XQ _ _ _ _ _ _ _ _
          refine XQ.region (by kernel_rfl) ?_
          refine XR.run E0_ok 1 3 [0, 1, 8, 48, 50] rfl (σ' := [(0, .slice (some ⟨2, 0, none⟩) r37.length r37.length), (1, .int .i64 b), (8, .int .i64 0), (48, .slice (some ⟨1, 0, none⟩) 0 0), (50, .slice (some ⟨3, 0, none⟩) 1 1)]) (h' := [(3, .cells [.int .i64 o4] 0 3 1), (2, .cells (rowC encP r37) 0 83 2), (1, .cells (rowC (encI .i64) []) 0 3 1), (0, .cells (rowC encP a) z0 y0 2)]) (c' := 4) (by kernel_rfl) ?_
          refine XR.ef E0_ok [0, 1, 8, 51] rfl (e_append (encI_ok .i64) (bytes := 8) (e := 3) (x := (src 53 (.tmp 48))) (y := (src 53 (.tmp 50))) (b := 1) (len := 0) (cap := 0) (xs := []) (m := 0) (ys := [o4]) (d := (some (path 12 51))) (n' := 1) (h' := [(4, .cells (rowC (encI .i64) [o4]) 0 3 1), (3, .cells [.int .i64 o4] 0 3 1), (2, .cells (rowC encP r37) 0 83 2), (0, .cells (rowC encP a) z0 y0 2)]) (by kernel_rfl) (by kernel_rfl) (by kernel_rfl) (by kernel_rfl) rfl (by simp) (by simp) (by first | rfl | simp) (by simp) (by kernel_rfl)) (σ' := [(0, .slice (some ⟨2, 0, none⟩) r37.length r37.length), (1, .int .i64 b), (8, .int .i64 0), (51, .slice (some ⟨4, 0, none⟩) 1 1)]) (by kernel_rfl) ?_
          refine XR.run E0_ok 1 1 [0, 1, 7, 8] rfl (σ' := [(0, .slice (some ⟨2, 0, none⟩) r37.length r37.length), (1, .int .i64 b), (7, .slice (some ⟨4, 0, none⟩) 1 1), (8, .int .i64 0)]) (h' := [(4, .cells (rowC (encI .i64) [o4]) 0 3 1), (3, .cells [.int .i64 o4] 0 3 1), (2, .cells (rowC encP r37) 0 83 2), (0, .cells (rowC encP a) z0 y0 2)]) (c' := 5) (by kernel_rfl) ?_
          refine XR.done (by kernel_rfl) ?_
          show XQ _ _ _ _ _ _ _ _
          refine XQ.region (by kernel_rfl) ?_
          refine XR.run E0_ok 1 3 [0, 1, 7, 8] rfl (σ' := [(0, .slice (some ⟨2, 0, none⟩) r37.length r37.length), (1, .int .i64 b), (7, .slice (some ⟨4, 0, none⟩) 1 1), (8, .int .i64 1)]) (h' := [(4, .cells (rowC (encI .i64) [o4]) 0 3 1), (3, .cells [.int .i64 o4] 0 3 1), (2, .cells (rowC encP r37) 0 83 2), (0, .cells (rowC encP a) z0 y0 2)]) (c' := 5) (by kernel_rfl) ?_
          refine XR.done (by kernel_rfl) ?_
          show XL _ _ _ _ _ _ _ _ _
          obtain ⟨o5, o5_h, h⟩ := bS h
          refine XL.ren (σ' := [(0, .slice (some ⟨1, 0, none⟩) r37.length r37.length), (1, .int .i64 b), (7, .slice (some ⟨2, 0, none⟩) 1 1), (8, .int .i64 1)]) (h' := [(2, .cells (rowC (encI .i64) [o4]) 0 3 1), (1, .cells (rowC encP r37) 0 83 2), (0, .cells (rowC encP a) z0 y0 2)]) (c' := 3) [0, 2, 4] (by decide) rfl ⟨by kernel_rfl, by kernel_rfl, by kernel_rfl, by kernel_rfl, trivial⟩ ⟨⟨_, _, rfl, rfl, .inl ⟨rfl, rowC_scal (encI_ok .i64) _⟩⟩, ⟨_, _, rfl, rfl, .inl ⟨rfl, rowC_scal encP_ok _⟩⟩, ⟨_, _, rfl, rfl, .inl ⟨rfl, rowC_scal encP_ok _⟩⟩, trivial⟩ rfl ?_
          refine XL.conv (f19_5_ok m m z0 y0 a b 1 r37 [o4] o5 o5_h _ ?_) (by first | rfl | simp)
          show XQ _ _ _ _ _ _ _ _
          refine XQ.seq E0_ok (by kernel_rfl) ?_
          refine XQ.region (by kernel_rfl) ?_
          refine XR.run E0_ok 1 3 [4, 5] rfl (σ' := [(4, .slice (some ⟨1, 0, none⟩) o5.length o5.length), (5, .int .i64 0)]) (h' := [(1, .cells (rowC (encI .i64) o5) 0 3 1), (0, .cells (rowC encP a) z0 y0 2)]) (c' := 2) (by kernel_rfl) ?_
          refine XR.done (by kernel_rfl) ?_
          show XQ _ _ _ _ _ _ _ _
          refine XQ.ren (σ' := [(4, .slice (some ⟨1, 0, none⟩) o5.length o5.length), (5, .int .i64 0)]) (h' := [(1, .cells (rowC (encI .i64) o5) 0 3 1), (0, .cells (rowC encP a) z0 y0 2)]) (c' := 2) [0, 1] (by decide) rfl ⟨by kernel_rfl, by kernel_rfl, trivial⟩ ⟨⟨_, _, rfl, rfl, .inl ⟨rfl, rowC_scal (encI_ok .i64) _⟩⟩, ⟨_, _, rfl, rfl, .inl ⟨rfl, rowC_scal encP_ok _⟩⟩, trivial⟩ rfl ?_
          refine XQ.ret (by kernel_rfl) ?_
          have h := Option.some.inj h
          subst h
          exact ⟨fun i q => (by cases q), .tuple #[.slice (some ⟨1, 0, none⟩) o5.length o5.length, .int .i64 0], (by kernel_rfl), (by kernel_rfl), (by kernel_rfl), rfl⟩
      | false =>
        have h := cF b9 h
        refine XQ.cond (s := (.tmp 27)) (b := false) (by kernel_rfl) (by kernel_rfl) (fun q => by cases q) (fun _ => ?_)
        refine XQ.exit (i := 0) (by kernel_rfl) ?_
        show XQ _ _ _ _ _ _ _ _
        refine XQ.seq E0_ok (by kernel_rfl) ?_
        refine XQ.region (by kernel_rfl) ?_
        refine XR.run E0_ok 1 3 [4, 5] rfl (σ' := [(4, .slice (some ⟨1, 0, none⟩) 0 0), (5, .int .i64 0)]) (h' := [(1, .cells (rowC (encI .i64) []) 0 3 1), (0, .cells (rowC encP a) z0 y0 2)]) (c' := 2) (by kernel_rfl) ?_
        refine XR.done (by kernel_rfl) ?_
        show XQ _ _ _ _ _ _ _ _
        refine XQ.ren (σ' := [(4, .slice (some ⟨1, 0, none⟩) 0 0), (5, .int .i64 0)]) (h' := [(1, .cells (rowC (encI .i64) []) 0 3 1), (0, .cells (rowC encP a) z0 y0 2)]) (c' := 2) [0, 1] (by decide) rfl ⟨by kernel_rfl, by kernel_rfl, trivial⟩ ⟨⟨_, _, rfl, rfl, .inl ⟨rfl, rowC_scal (encI_ok .i64) _⟩⟩, ⟨_, _, rfl, rfl, .inl ⟨rfl, rowC_scal encP_ok _⟩⟩, trivial⟩ rfl ?_
        refine XQ.ret (by kernel_rfl) ?_
        have h := Option.some.inj h
        subst h
        exact ⟨fun i q => (by cases q), .tuple #[.slice (some ⟨1, 0, none⟩) 0 0, .int .i64 0], (by kernel_rfl), (by kernel_rfl), (by kernel_rfl), rfl⟩

/-! vitola/vitolaref02.Verify -/
noncomputable def f22_C22 : Code := Proofs.Try.f22.body.getD .skip
noncomputable def f22_L1 : Code := lft (lft (rgt (lft (rgt (rgt (rgt (rgt f22_C22)))))))
noncomputable def f22_L2 : Code := lft (lft (rgt (lft (rgt (rgt (lft (lft (rgt f22_L1))))))))
noncomputable def f22_L3 : Code := lft (lft (rgt (lft (rgt (rgt (rgt (rgt f22_C22)))))))
noncomputable def f22_L4 : Code := lft (lft (rgt (lft (rgt (rgt (lft (lft (rgt f22_L3))))))))

def f22_2 (m : Nat) : Nat → List (Int × Int) → Int → List Int → Int → Int → Int → Option Int
  | 0, _, _, _, _, _, _ => none
  | fuel + 1, a, b, c, x8_1, x9_2, x10_2 =>
    cond (decide (x10_2 < x8_1)) (
      cond (inRow x10_2 c.length) (
        cond (inRow x8_1 c.length) (
          f22_2 m fuel a b c x8_1 (cond ((List.getD c (Int.toNat x10_2) 0) == (List.getD c (Int.toNat x8_1) 0)) (w64 (x9_2 + 1)) x9_2) (w64 (x10_2 + 1))
        ) none
      ) none
    ) (
      some (x9_2)
    )

theorem f22_2_ok (m : Nat) : ∀ (fuel : Nat) (z0 : Nat) (y0 : Nat) (a : List (Int × Int)) (b : Int) (z1 : Nat) (y1 : Nat) (c : List Int) (x8_1 : Int) (x9_2 : Int) (x10_2 : Int) (o : Int), f22_2 m fuel a b c x8_1 x9_2 x10_2 = some o → ∀ Q : QP, Q (.exit 2) [(0, .slice (some ⟨0, 0, none⟩) a.length a.length), (1, .int .i64 b), (2, .slice (some ⟨1, 0, none⟩) c.length c.length), (8, .int .i64 x8_1), (9, .int .i64 o)] [(1, .cells (rowC (encI .i64) c) z1 y1 1), (0, .cells (rowC encP a) z0 y0 2)] 2 → XL E0 67 2 fuel f22_L2 [(0, .slice (some ⟨0, 0, none⟩) a.length a.length), (1, .int .i64 b), (2, .slice (some ⟨1, 0, none⟩) c.length c.length), (8, .int .i64 x8_1), (9, .int .i64 x9_2), (10, .int .i64 x10_2)] [(1, .cells (rowC (encI .i64) c) z1 y1 1), (0, .cells (rowC encP a) z0 y0 2)] 2 Q
  | 0, z0, y0, a, b, z1, y1, c, x8_1, x9_2, x10_2, o, h, Q, hQ => by cases h
  | fuel + 1, z0, y0, a, b, z1, y1, c, x8_1, x9_2, x10_2, o, h, Q, hQ => by
    unfold f22_2 at h
    refine XL.succ E0_ok ?_
    refine XQ.seq E0_ok (by kernel_rfl) ?_
    refine XQ.seq E0_ok (by kernel_rfl) ?_
    refine XQ.region (by kernel_rfl) ?_
    refine XR.run E0_ok 1 3 [0, 1, 2, 8, 9, 10, 50] rfl (σ' := [(0, .slice (some ⟨0, 0, none⟩) a.length a.length), (1, .int .i64 b), (2, .slice (some ⟨1, 0, none⟩) c.length c.length), (8, .int .i64 x8_1), (9, .int .i64 x9_2), (10, .int .i64 x10_2), (50, .bool (decide (x10_2 < x8_1)))]) (h' := [(1, .cells (rowC (encI .i64) c) z1 y1 1), (0, .cells (rowC encP a) z0 y0 2)]) (c' := 2) (by kernel_rfl) ?_
    refine XR.done (by kernel_rfl) ?_
    show XQ _ _ _ _ _ _ _ _
    cases b1 : (decide (x10_2 < x8_1) : Bool) with
    | true =>
      have h := cT b1 h
      refine XQ.cond (s := (.tmp 50)) (b := true) (by kernel_rfl) (by kernel_rfl) (fun _ => ?_) (fun q => by cases q)
      refine XQ.skip (by kernel_rfl) ?_
      show XQ _ _ _ _ _ _ _ _
      refine XQ.seq E0_ok (by kernel_rfl) ?_
      refine XQ.block (id := 3) (by kernel_rfl) ?_
      refine XQ.seq E0_ok (by kernel_rfl) ?_
      refine XQ.quiet E0_ok (by kernel_rfl) (by kernel_rfl) ?_
      refine XU.run E0_ok 1 2 [0, 1, 2, 8, 9, 10, 53, 54] rfl (σ' := [(0, .slice (some ⟨0, 0, none⟩) a.length a.length), (1, .int .i64 b), (2, .slice (some ⟨1, 0, none⟩) c.length c.length), (8, .int .i64 x8_1), (9, .int .i64 x9_2), (10, .int .i64 x10_2), (53, .slice (some ⟨1, 0, none⟩) c.length c.length), (54, .int .i64 x10_2)]) (by kernel_rfl) ?_
      cases b2 : (inRow x10_2 c.length : Bool) with
      | false => cases (cF b2 h)
      | true =>
        have h := cT b2 h
        refine XU.rd E0_ok [0, 1, 2, 8, 9, 10, 55] rfl (v := .pointer (some ⟨1, (Int.toNat x10_2) * 1, none⟩)) (v_idx (s := 1) (x := (src 67 (.tmp 53))) (y := (src 67 (.tmp 54))) (b := 1) (o := 0) (len := c.length) (cap := c.length) (ik := .i64) (i := x10_2) (off := (Int.toNat x10_2) * 1) (d := (some (path 12 55))) (by kernel_rfl) (by kernel_rfl) (by kernel_rfl) b2 (by omega)) (σ' := [(0, .slice (some ⟨0, 0, none⟩) a.length a.length), (1, .int .i64 b), (2, .slice (some ⟨1, 0, none⟩) c.length c.length), (8, .int .i64 x8_1), (9, .int .i64 x9_2), (10, .int .i64 x10_2), (55, .pointer (some ⟨1, (Int.toNat x10_2) * 1, none⟩))]) (by kernel_rfl) ?_
        refine XU.rd E0_ok [0, 1, 2, 8, 9, 10, 56] rfl (v := .int .i64 (List.getD c (Int.toNat x10_2) 0)) (v_load1 (encI_ok .i64) (x := (src 67 (.tmp 55))) (b := 1) (off := (Int.toNat x10_2) * 1) (xs := c) (fz := z1) (e := y1) (es := 1) (d := (some (path 12 56))) (by kernel_rfl) (by kernel_rfl) (by kernel_rfl) (Int.toNat x10_2) 0 0 (by first | rfl | omega) (row_len (inRow_toNat b2) (by simp)) rfl rfl) (σ' := [(0, .slice (some ⟨0, 0, none⟩) a.length a.length), (1, .int .i64 b), (2, .slice (some ⟨1, 0, none⟩) c.length c.length), (8, .int .i64 x8_1), (9, .int .i64 x9_2), (10, .int .i64 x10_2), (56, .int .i64 (List.getD c (Int.toNat x10_2) 0))]) (by kernel_rfl) ?_
        refine XU.run E0_ok 1 2 [0, 1, 2, 8, 9, 10, 56, 57, 58] rfl (σ' := [(0, .slice (some ⟨0, 0, none⟩) a.length a.length), (1, .int .i64 b), (2, .slice (some ⟨1, 0, none⟩) c.length c.length), (8, .int .i64 x8_1), (9, .int .i64 x9_2), (10, .int .i64 x10_2), (56, .int .i64 (List.getD c (Int.toNat x10_2) 0)), (57, .slice (some ⟨1, 0, none⟩) c.length c.length), (58, .int .i64 x8_1)]) (by kernel_rfl) ?_
        cases b3 : (inRow x8_1 c.length : Bool) with
        | false => cases (cF b3 h)
        | true =>
          have h := cT b3 h
          refine XU.rd E0_ok [0, 1, 2, 8, 9, 10, 56, 59] rfl (v := .pointer (some ⟨1, (Int.toNat x8_1) * 1, none⟩)) (v_idx (s := 1) (x := (src 67 (.tmp 57))) (y := (src 67 (.tmp 58))) (b := 1) (o := 0) (len := c.length) (cap := c.length) (ik := .i64) (i := x8_1) (off := (Int.toNat x8_1) * 1) (d := (some (path 12 59))) (by kernel_rfl) (by kernel_rfl) (by kernel_rfl) b3 (by omega)) (σ' := [(0, .slice (some ⟨0, 0, none⟩) a.length a.length), (1, .int .i64 b), (2, .slice (some ⟨1, 0, none⟩) c.length c.length), (8, .int .i64 x8_1), (9, .int .i64 x9_2), (10, .int .i64 x10_2), (56, .int .i64 (List.getD c (Int.toNat x10_2) 0)), (59, .pointer (some ⟨1, (Int.toNat x8_1) * 1, none⟩))]) (by kernel_rfl) ?_
          refine XU.rd E0_ok [0, 1, 2, 8, 9, 10, 56, 60] rfl (v := .int .i64 (List.getD c (Int.toNat x8_1) 0)) (v_load1 (encI_ok .i64) (x := (src 67 (.tmp 59))) (b := 1) (off := (Int.toNat x8_1) * 1) (xs := c) (fz := z1) (e := y1) (es := 1) (d := (some (path 12 60))) (by kernel_rfl) (by kernel_rfl) (by kernel_rfl) (Int.toNat x8_1) 0 0 (by first | rfl | omega) (row_len (inRow_toNat b3) (by simp)) rfl rfl) (σ' := [(0, .slice (some ⟨0, 0, none⟩) a.length a.length), (1, .int .i64 b), (2, .slice (some ⟨1, 0, none⟩) c.length c.length), (8, .int .i64 x8_1), (9, .int .i64 x9_2), (10, .int .i64 x10_2), (56, .int .i64 (List.getD c (Int.toNat x10_2) 0)), (60, .int .i64 (List.getD c (Int.toNat x8_1) 0))]) (by kernel_rfl) ?_
          refine XU.run E0_ok 1 1 [0, 1, 2, 8, 9, 10, 61] rfl (σ' := [(0, .slice (some ⟨0, 0, none⟩) a.length a.length), (1, .int .i64 b), (2, .slice (some ⟨1, 0, none⟩) c.length c.length), (8, .int .i64 x8_1), (9, .int .i64 x9_2), (10, .int .i64 x10_2), (61, .bool ((List.getD c (Int.toNat x10_2) 0) == (List.getD c (Int.toNat x8_1) 0)))]) (by kernel_rfl) ?_
          refine XU.done (by kernel_rfl) ?_
          show XQ _ _ _ _ _ _ _ _
          refine XQ.meetC (σ' := [(0, .slice (some ⟨0, 0, none⟩) a.length a.length), (1, .int .i64 b), (2, .slice (some ⟨1, 0, none⟩) c.length c.length), (8, .int .i64 x8_1), (9, .int .i64 (cond ((List.getD c (Int.toNat x10_2) 0) == (List.getD c (Int.toNat x8_1) 0)) (w64 (x9_2 + 1)) x9_2)), (10, .int .i64 x10_2)]) (h' := [(1, .cells (rowC (encI .i64) c) z1 y1 1), (0, .cells (rowC encP a) z0 y0 2)]) (c' := 2) ?_ ?_
          rotate_left
          · refine XQ.cond (s := (.tmp 61)) (b := (List.getD c (Int.toNat x10_2) 0) == (List.getD c (Int.toNat x8_1) 0)) (by kernel_rfl) (by kernel_rfl) (fun b4 => ?_) (fun b4 => ?_)
            · refine XQ.region (by kernel_rfl) ?_
              refine XR.run E0_ok 1 3 [0, 1, 2, 8, 9, 10] rfl (σ' := [(0, .slice (some ⟨0, 0, none⟩) a.length a.length), (1, .int .i64 b), (2, .slice (some ⟨1, 0, none⟩) c.length c.length), (8, .int .i64 x8_1), (9, .int .i64 (w64 (x9_2 + 1))), (10, .int .i64 x10_2)]) (h' := [(1, .cells (rowC (encI .i64) c) z1 y1 1), (0, .cells (rowC encP a) z0 y0 2)]) (c' := 2) (by kernel_rfl) ?_
              refine XR.done (by kernel_rfl) ?_
              refine ⟨rfl, ?_, ?_⟩
              · try rw [b4]
                exact ⟨by kernel_rfl, by kernel_rfl, by kernel_rfl, by kernel_rfl, by kernel_rfl, by kernel_rfl, trivial⟩
              · try rw [b4]
                kernel_rfl
            · refine XQ.skip (by kernel_rfl) ?_
              refine ⟨rfl, ?_, ?_⟩
              · try rw [b4]
                exact ⟨by kernel_rfl, by kernel_rfl, by kernel_rfl, by kernel_rfl, by kernel_rfl, by kernel_rfl, trivial⟩
              · try rw [b4]
                kernel_rfl
          show XQ _ _ _ _ _ _ _ _
          refine XQ.region (by kernel_rfl) ?_
          refine XR.run E0_ok 1 3 [0, 1, 2, 8, 9, 10] rfl (σ' := [(0, .slice (some ⟨0, 0, none⟩) a.length a.length), (1, .int .i64 b), (2, .slice (some ⟨1, 0, none⟩) c.length c.length), (8, .int .i64 x8_1), (9, .int .i64 (cond ((List.getD c (Int.toNat x10_2) 0) == (List.getD c (Int.toNat x8_1) 0)) (w64 (x9_2 + 1)) x9_2)), (10, .int .i64 (w64 (x10_2 + 1)))]) (h' := [(1, .cells (rowC (encI .i64) c) z1 y1 1), (0, .cells (rowC encP a) z0 y0 2)]) (c' := 2) (by kernel_rfl) ?_
          refine XR.done (by kernel_rfl) ?_
          show XL _ _ _ _ _ _ _ _ _
          refine XL.ren (σ' := [(0, .slice (some ⟨0, 0, none⟩) a.length a.length), (1, .int .i64 b), (2, .slice (some ⟨1, 0, none⟩) c.length c.length), (8, .int .i64 x8_1), (9, .int .i64 (cond ((List.getD c (Int.toNat x10_2) 0) == (List.getD c (Int.toNat x8_1) 0)) (w64 (x9_2 + 1)) x9_2)), (10, .int .i64 (w64 (x10_2 + 1)))]) (h' := [(1, .cells (rowC (encI .i64) c) z1 y1 1), (0, .cells (rowC encP a) z0 y0 2)]) (c' := 2) [0, 1] (by decide) rfl ⟨by kernel_rfl, by kernel_rfl, by kernel_rfl, by kernel_rfl, by kernel_rfl, by kernel_rfl, trivial⟩ ⟨⟨_, _, rfl, rfl, .inl ⟨rfl, rowC_scal (encI_ok .i64) _⟩⟩, ⟨_, _, rfl, rfl, .inl ⟨rfl, rowC_scal encP_ok _⟩⟩, trivial⟩ rfl ?_
          refine XL.conv (f22_2_ok m fuel z0 y0 a b z1 y1 c x8_1 (cond ((List.getD c (Int.toNat x10_2) 0) == (List.getD c (Int.toNat x8_1) 0)) (w64 (x9_2 + 1)) x9_2) (w64 (x10_2 + 1)) o h Q hQ) (by first | rfl | simp)
    | false =>
      have h := cF b1 h
      refine XQ.cond (s := (.tmp 50)) (b := false) (by kernel_rfl) (by kernel_rfl) (fun q => by cases q) (fun _ => ?_)
      refine XQ.ren (σ' := [(0, .slice (some ⟨0, 0, none⟩) a.length a.length), (1, .int .i64 b), (2, .slice (some ⟨1, 0, none⟩) c.length c.length), (8, .int .i64 x8_1), (9, .int .i64 x9_2)]) (h' := [(1, .cells (rowC (encI .i64) c) z1 y1 1), (0, .cells (rowC encP a) z0 y0 2)]) (c' := 2) [0, 1] (by decide) rfl ⟨by kernel_rfl, by kernel_rfl, by kernel_rfl, by kernel_rfl, by kernel_rfl, trivial⟩ ⟨⟨_, _, rfl, rfl, .inl ⟨rfl, rowC_scal (encI_ok .i64) _⟩⟩, ⟨_, _, rfl, rfl, .inl ⟨rfl, rowC_scal encP_ok _⟩⟩, trivial⟩ rfl ?_
      refine XQ.exit (i := 2) (by kernel_rfl) ?_
      cases h
      exact hQ

inductive Of22_1 where
  | r (x6_r1 : Int)
  | x0

def f22_1 (m : Nat) : Nat → List (Int × Int) → Int → List Int → Int → Option Of22_1
  | 0, _, _, _, _ => none
  | fuel + 1, a, b, c, x8_1 =>
    cond (decide (x8_1 < ((c.length : Nat) : Int))) (
      cond (inRow x8_1 c.length) (
        cond (inRow x8_1 a.length) (
          (f63 m (List.getD c (Int.toNat x8_1) 0) ((List.getD a (Int.toNat x8_1) (0, 0)).1) ((List.getD a (Int.toNat x8_1) (0, 0)).2)).bind fun r4 =>
            cond (!r4) (
              some (.r 1)
            ) (
              (f22_2 m m a b c x8_1 0 0).bind fun o2 =>
                cond (decide (o2 ≥ b)) (
                  some (.r 15)
                ) (
                  f22_1 m fuel a b c (w64 (x8_1 + 1))
                )
            )
        ) none
      ) none
    ) (
      some (.x0)
    )

theorem f22_1_ok (m : Nat) : ∀ (fuel : Nat) (z0 : Nat) (y0 : Nat) (a : List (Int × Int)) (b : Int) (z1 : Nat) (y1 : Nat) (c : List Int) (x8_1 : Int) (o : Of22_1), f22_1 m fuel a b c x8_1 = some o → ∀ Q : QP, (match o with | .r x6_r1 => Q .ret [(6, .int .i64 x6_r1)] [(1, .cells (rowC (encI .i64) c) z1 y1 1), (0, .cells (rowC encP a) z0 y0 2)] 2 | .x0 => Q (.exit 0) [] [(1, .cells (rowC (encI .i64) c) z1 y1 1), (0, .cells (rowC encP a) z0 y0 2)] 2) → XL E0 67 2 fuel f22_L1 [(0, .slice (some ⟨0, 0, none⟩) a.length a.length), (1, .int .i64 b), (2, .slice (some ⟨1, 0, none⟩) c.length c.length), (8, .int .i64 x8_1)] [(1, .cells (rowC (encI .i64) c) z1 y1 1), (0, .cells (rowC encP a) z0 y0 2)] 2 Q
  | 0, z0, y0, a, b, z1, y1, c, x8_1, o, h, Q, hQ => by cases h
  | fuel + 1, z0, y0, a, b, z1, y1, c, x8_1, o, h, Q, hQ => by
    unfold f22_1 at h
    refine XL.succ E0_ok ?_
    refine XQ.seq E0_ok (by kernel_rfl) ?_
    refine XQ.seq E0_ok (by kernel_rfl) ?_
    refine XQ.region (by kernel_rfl) ?_
    refine XR.run E0_ok 1 4 [0, 1, 2, 8, 29] rfl (σ' := [(0, .slice (some ⟨0, 0, none⟩) a.length a.length), (1, .int .i64 b), (2, .slice (some ⟨1, 0, none⟩) c.length c.length), (8, .int .i64 x8_1), (29, .bool (decide (x8_1 < ((c.length : Nat) : Int))))]) (h' := [(1, .cells (rowC (encI .i64) c) z1 y1 1), (0, .cells (rowC encP a) z0 y0 2)]) (c' := 2) (by kernel_rfl) ?_
    refine XR.done (by kernel_rfl) ?_
    show XQ _ _ _ _ _ _ _ _
    cases b1 : (decide (x8_1 < ((c.length : Nat) : Int)) : Bool) with
    | true =>
      have h := cT b1 h
      refine XQ.cond (s := (.tmp 29)) (b := true) (by kernel_rfl) (by kernel_rfl) (fun _ => ?_) (fun q => by cases q)
      refine XQ.skip (by kernel_rfl) ?_
      show XQ _ _ _ _ _ _ _ _
      refine XQ.seq E0_ok (by kernel_rfl) ?_
      refine XQ.block (id := 1) (by kernel_rfl) ?_
      refine XQ.seq E0_ok (by kernel_rfl) ?_
      refine XQ.seq E0_ok (by kernel_rfl) ?_
      refine XQ.quiet E0_ok (by kernel_rfl) (by kernel_rfl) ?_
      refine XU.run E0_ok 1 2 [0, 1, 2, 8, 32, 33] rfl (σ' := [(0, .slice (some ⟨0, 0, none⟩) a.length a.length), (1, .int .i64 b), (2, .slice (some ⟨1, 0, none⟩) c.length c.length), (8, .int .i64 x8_1), (32, .slice (some ⟨1, 0, none⟩) c.length c.length), (33, .int .i64 x8_1)]) (by kernel_rfl) ?_
      cases b2 : (inRow x8_1 c.length : Bool) with
      | false => cases (cF b2 h)
      | true =>
        have h := cT b2 h
        refine XU.rd E0_ok [0, 1, 2, 8, 34] rfl (v := .pointer (some ⟨1, (Int.toNat x8_1) * 1, none⟩)) (v_idx (s := 1) (x := (src 67 (.tmp 32))) (y := (src 67 (.tmp 33))) (b := 1) (o := 0) (len := c.length) (cap := c.length) (ik := .i64) (i := x8_1) (off := (Int.toNat x8_1) * 1) (d := (some (path 12 34))) (by kernel_rfl) (by kernel_rfl) (by kernel_rfl) b2 (by omega)) (σ' := [(0, .slice (some ⟨0, 0, none⟩) a.length a.length), (1, .int .i64 b), (2, .slice (some ⟨1, 0, none⟩) c.length c.length), (8, .int .i64 x8_1), (34, .pointer (some ⟨1, (Int.toNat x8_1) * 1, none⟩))]) (by kernel_rfl) ?_
        refine XU.rd E0_ok [0, 1, 2, 8, 35] rfl (v := .int .i64 (List.getD c (Int.toNat x8_1) 0)) (v_load1 (encI_ok .i64) (x := (src 67 (.tmp 34))) (b := 1) (off := (Int.toNat x8_1) * 1) (xs := c) (fz := z1) (e := y1) (es := 1) (d := (some (path 12 35))) (by kernel_rfl) (by kernel_rfl) (by kernel_rfl) (Int.toNat x8_1) 0 0 (by first | rfl | omega) (row_len (inRow_toNat b2) (by simp)) rfl rfl) (σ' := [(0, .slice (some ⟨0, 0, none⟩) a.length a.length), (1, .int .i64 b), (2, .slice (some ⟨1, 0, none⟩) c.length c.length), (8, .int .i64 x8_1), (35, .int .i64 (List.getD c (Int.toNat x8_1) 0))]) (by kernel_rfl) ?_
        refine XU.run E0_ok 1 2 [0, 1, 2, 8, 35, 36, 37] rfl (σ' := [(0, .slice (some ⟨0, 0, none⟩) a.length a.length), (1, .int .i64 b), (2, .slice (some ⟨1, 0, none⟩) c.length c.length), (8, .int .i64 x8_1), (35, .int .i64 (List.getD c (Int.toNat x8_1) 0)), (36, .slice (some ⟨0, 0, none⟩) a.length a.length), (37, .int .i64 x8_1)]) (by kernel_rfl) ?_
        cases b3 : (inRow x8_1 a.length : Bool) with
        | false => cases (cF b3 h)
        | true =>
          have h := cT b3 h
          refine XU.rd E0_ok [0, 1, 2, 8, 35, 38] rfl (v := .pointer (some ⟨0, (Int.toNat x8_1) * 2, none⟩)) (v_idx (s := 2) (x := (src 67 (.tmp 36))) (y := (src 67 (.tmp 37))) (b := 0) (o := 0) (len := a.length) (cap := a.length) (ik := .i64) (i := x8_1) (off := (Int.toNat x8_1) * 2) (d := (some (path 12 38))) (by kernel_rfl) (by kernel_rfl) (by kernel_rfl) b3 (by omega)) (σ' := [(0, .slice (some ⟨0, 0, none⟩) a.length a.length), (1, .int .i64 b), (2, .slice (some ⟨1, 0, none⟩) c.length c.length), (8, .int .i64 x8_1), (35, .int .i64 (List.getD c (Int.toNat x8_1) 0)), (38, .pointer (some ⟨0, (Int.toNat x8_1) * 2, none⟩))]) (by kernel_rfl) ?_
          refine XU.run E0_ok 1 1 [0, 1, 2, 8, 35, 39] rfl (σ' := [(0, .slice (some ⟨0, 0, none⟩) a.length a.length), (1, .int .i64 b), (2, .slice (some ⟨1, 0, none⟩) c.length c.length), (8, .int .i64 x8_1), (35, .int .i64 (List.getD c (Int.toNat x8_1) 0)), (39, .pointer (some ⟨0, (Int.toNat x8_1) * 2, none⟩))]) (by kernel_rfl) ?_
          refine XU.rd E0_ok [0, 1, 2, 8, 35, 40] rfl (v := .int .i64 ((List.getD a (Int.toNat x8_1) (0, 0)).1)) (v_load1 encP_ok (x := (src 67 (.tmp 39))) (b := 0) (off := (Int.toNat x8_1) * 2) (xs := a) (fz := z0) (e := y0) (es := 2) (d := (some (path 12 40))) (by kernel_rfl) (by kernel_rfl) (by kernel_rfl) (Int.toNat x8_1) 0 (0, 0) (by first | rfl | omega) (row_len (inRow_toNat b3) (by simp)) rfl rfl) (σ' := [(0, .slice (some ⟨0, 0, none⟩) a.length a.length), (1, .int .i64 b), (2, .slice (some ⟨1, 0, none⟩) c.length c.length), (8, .int .i64 x8_1), (35, .int .i64 (List.getD c (Int.toNat x8_1) 0)), (40, .int .i64 ((List.getD a (Int.toNat x8_1) (0, 0)).1))]) (by kernel_rfl) ?_
          refine XU.run E0_ok 1 2 [0, 1, 2, 8, 35, 40, 41, 42] rfl (σ' := [(0, .slice (some ⟨0, 0, none⟩) a.length a.length), (1, .int .i64 b), (2, .slice (some ⟨1, 0, none⟩) c.length c.length), (8, .int .i64 x8_1), (35, .int .i64 (List.getD c (Int.toNat x8_1) 0)), (40, .int .i64 ((List.getD a (Int.toNat x8_1) (0, 0)).1)), (41, .slice (some ⟨0, 0, none⟩) a.length a.length), (42, .int .i64 x8_1)]) (by kernel_rfl) ?_
          refine XU.rd E0_ok [0, 1, 2, 8, 35, 40, 43] rfl (v := .pointer (some ⟨0, (Int.toNat x8_1) * 2, none⟩)) (v_idx (s := 2) (x := (src 67 (.tmp 41))) (y := (src 67 (.tmp 42))) (b := 0) (o := 0) (len := a.length) (cap := a.length) (ik := .i64) (i := x8_1) (off := (Int.toNat x8_1) * 2) (d := (some (path 12 43))) (by kernel_rfl) (by kernel_rfl) (by kernel_rfl) b3 (by omega)) (σ' := [(0, .slice (some ⟨0, 0, none⟩) a.length a.length), (1, .int .i64 b), (2, .slice (some ⟨1, 0, none⟩) c.length c.length), (8, .int .i64 x8_1), (35, .int .i64 (List.getD c (Int.toNat x8_1) 0)), (40, .int .i64 ((List.getD a (Int.toNat x8_1) (0, 0)).1)), (43, .pointer (some ⟨0, (Int.toNat x8_1) * 2, none⟩))]) (by kernel_rfl) ?_
          refine XU.run E0_ok 1 1 [0, 1, 2, 8, 35, 40, 44] rfl (σ' := [(0, .slice (some ⟨0, 0, none⟩) a.length a.length), (1, .int .i64 b), (2, .slice (some ⟨1, 0, none⟩) c.length c.length), (8, .int .i64 x8_1), (35, .int .i64 (List.getD c (Int.toNat x8_1) 0)), (40, .int .i64 ((List.getD a (Int.toNat x8_1) (0, 0)).1)), (44, .pointer (some ⟨0, (Int.toNat x8_1) * 2 + 1, none⟩))]) (by kernel_rfl) ?_
          refine XU.rd E0_ok [0, 1, 2, 8, 35, 40, 45] rfl (v := .int .i64 ((List.getD a (Int.toNat x8_1) (0, 0)).2)) (v_load1 encP_ok (x := (src 67 (.tmp 44))) (b := 0) (off := (Int.toNat x8_1) * 2 + 1) (xs := a) (fz := z0) (e := y0) (es := 2) (d := (some (path 12 45))) (by kernel_rfl) (by kernel_rfl) (by kernel_rfl) (Int.toNat x8_1) 1 (0, 0) (by first | rfl | omega) (row_len (inRow_toNat b3) (by simp)) rfl rfl) (σ' := [(0, .slice (some ⟨0, 0, none⟩) a.length a.length), (1, .int .i64 b), (2, .slice (some ⟨1, 0, none⟩) c.length c.length), (8, .int .i64 x8_1), (35, .int .i64 (List.getD c (Int.toNat x8_1) 0)), (40, .int .i64 ((List.getD a (Int.toNat x8_1) (0, 0)).1)), (45, .int .i64 ((List.getD a (Int.toNat x8_1) (0, 0)).2))]) (by kernel_rfl) ?_
          obtain ⟨r4, r4_h, h⟩ := bS h
          refine XU.call E0_ok [0, 1, 2, 8, 46] rfl (K := 63) (F := Proofs.Try.f63) (args := [.int .i64 (List.getD c (Int.toNat x8_1) 0), .int .i64 ((List.getD a (Int.toNat x8_1) (0, 0)).1), .int .i64 ((List.getD a (Int.toNat x8_1) (0, 0)).2)]) (d := (some (path 12 46))) (v := .bool r4) (by kernel_rfl) (by kernel_rfl) rfl rfl (fun w hI => f63_ok m (List.getD c (Int.toNat x8_1) 0) ((List.getD a (Int.toNat x8_1) (0, 0)).1) ((List.getD a (Int.toNat x8_1) (0, 0)).2) r4 r4_h w hI) (σ' := [(0, .slice (some ⟨0, 0, none⟩) a.length a.length), (1, .int .i64 b), (2, .slice (some ⟨1, 0, none⟩) c.length c.length), (8, .int .i64 x8_1), (46, .bool r4)]) (by kernel_rfl) ?_
          refine XU.run E0_ok 1 1 [0, 1, 2, 8, 47] rfl (σ' := [(0, .slice (some ⟨0, 0, none⟩) a.length a.length), (1, .int .i64 b), (2, .slice (some ⟨1, 0, none⟩) c.length c.length), (8, .int .i64 x8_1), (47, .bool (!r4))]) (by kernel_rfl) ?_
          refine XU.done (by kernel_rfl) ?_
          show XQ _ _ _ _ _ _ _ _
          cases b4 : (!r4 : Bool) with
          | true =>
            have h := cT b4 h
            refine XQ.cond (s := (.tmp 47)) (b := true) (by kernel_rfl) (by kernel_rfl) (fun _ => ?_) (fun q => by cases q)
            refine XQ.seq E0_ok (by kernel_rfl) ?_
            refine XQ.region (by kernel_rfl) ?_
            refine XR.run E0_ok 1 1 [6] rfl (σ' := [(6, .int .i64 1)]) (h' := [(1, .cells (rowC (encI .i64) c) z1 y1 1), (0, .cells (rowC encP a) z0 y0 2)]) (c' := 2) (by kernel_rfl) ?_
            refine XR.done (by kernel_rfl) ?_
            show XQ _ _ _ _ _ _ _ _
            refine XQ.ren (σ' := [(6, .int .i64 1)]) (h' := [(1, .cells (rowC (encI .i64) c) z1 y1 1), (0, .cells (rowC encP a) z0 y0 2)]) (c' := 2) [0, 1] (by decide) rfl ⟨by kernel_rfl, trivial⟩ ⟨⟨_, _, rfl, rfl, .inl ⟨rfl, rowC_scal (encI_ok .i64) _⟩⟩, ⟨_, _, rfl, rfl, .inl ⟨rfl, rowC_scal encP_ok _⟩⟩, trivial⟩ rfl ?_
            refine XQ.ret (by kernel_rfl) ?_
            cases h
            exact hQ
          | false =>
            have h := cF b4 h
            refine XQ.cond (s := (.tmp 47)) (b := false) (by kernel_rfl) (by kernel_rfl) (fun q => by cases q) (fun _ => ?_)
            refine XQ.skip (by kernel_rfl) ?_
            show XQ _ _ _ _ _ _ _ _
            refine XQ.seq E0_ok (by kernel_rfl) ?_
            refine XQ.region (by kernel_rfl) ?_
            refine XR.run E0_ok 1 1 [0, 1, 2, 8, 9] rfl (σ' := [(0, .slice (some ⟨0, 0, none⟩) a.length a.length), (1, .int .i64 b), (2, .slice (some ⟨1, 0, none⟩) c.length c.length), (8, .int .i64 x8_1), (9, .int .i64 0)]) (h' := [(1, .cells (rowC (encI .i64) c) z1 y1 1), (0, .cells (rowC encP a) z0 y0 2)]) (c' := 2) (by kernel_rfl) ?_
            refine XR.done (by kernel_rfl) ?_
            show XQ _ _ _ _ _ _ _ _
            refine XQ.seq E0_ok (by kernel_rfl) ?_
            refine XQ.seq E0_ok (by kernel_rfl) ?_
            refine XQ.region (by kernel_rfl) ?_
            refine XR.run E0_ok 1 1 [0, 1, 2, 8, 9, 10] rfl (σ' := [(0, .slice (some ⟨0, 0, none⟩) a.length a.length), (1, .int .i64 b), (2, .slice (some ⟨1, 0, none⟩) c.length c.length), (8, .int .i64 x8_1), (9, .int .i64 0), (10, .int .i64 0)]) (h' := [(1, .cells (rowC (encI .i64) c) z1 y1 1), (0, .cells (rowC encP a) z0 y0 2)]) (c' := 2) (by kernel_rfl) ?_
            refine XR.done (by kernel_rfl) ?_
            show XQ _ _ _ _ _ _ _ _
            refine XQ.block (id := 2) (by kernel_rfl) ?_
            refine XQ.loop m (by kernel_rfl) ?_
            obtain ⟨o2, o2_h, h⟩ := bS h
            refine XL.ren (σ' := [(0, .slice (some ⟨0, 0, none⟩) a.length a.length), (1, .int .i64 b), (2, .slice (some ⟨1, 0, none⟩) c.length c.length), (8, .int .i64 x8_1), (9, .int .i64 0), (10, .int .i64 0)]) (h' := [(1, .cells (rowC (encI .i64) c) z1 y1 1), (0, .cells (rowC encP a) z0 y0 2)]) (c' := 2) [0, 1] (by decide) rfl ⟨by kernel_rfl, by kernel_rfl, by kernel_rfl, by kernel_rfl, by kernel_rfl, by kernel_rfl, trivial⟩ ⟨⟨_, _, rfl, rfl, .inl ⟨rfl, rowC_scal (encI_ok .i64) _⟩⟩, ⟨_, _, rfl, rfl, .inl ⟨rfl, rowC_scal encP_ok _⟩⟩, trivial⟩ rfl ?_
            refine XL.conv (f22_2_ok m m z0 y0 a b z1 y1 c x8_1 0 0 o2 o2_h _ ?_) (by first | rfl | simp)
            show XQ _ _ _ _ _ _ _ _
            refine XQ.seq E0_ok (by kernel_rfl) ?_
            refine XQ.region (by kernel_rfl) ?_
            refine XR.run E0_ok 1 3 [0, 1, 2, 8, 66] rfl (σ' := [(0, .slice (some ⟨0, 0, none⟩) a.length a.length), (1, .int .i64 b), (2, .slice (some ⟨1, 0, none⟩) c.length c.length), (8, .int .i64 x8_1), (66, .bool (decide (o2 ≥ b)))]) (h' := [(1, .cells (rowC (encI .i64) c) z1 y1 1), (0, .cells (rowC encP a) z0 y0 2)]) (c' := 2) (by kernel_rfl) ?_
            refine XR.done (by kernel_rfl) ?_
            show XQ _ _ _ _ _ _ _ _
            cases b6 : (decide (o2 ≥ b) : Bool) with
            | true =>
              have h := cT b6 h
              refine XQ.cond (s := (.tmp 66)) (b := true) (by kernel_rfl) (by kernel_rfl) (fun _ => ?_) (fun q => by cases q)
              refine XQ.seq E0_ok (by kernel_rfl) ?_
              refine XQ.region (by kernel_rfl) ?_
              refine XR.run E0_ok 1 1 [6] rfl (σ' := [(6, .int .i64 15)]) (h' := [(1, .cells (rowC (encI .i64) c) z1 y1 1), (0, .cells (rowC encP a) z0 y0 2)]) (c' := 2) (by kernel_rfl) ?_
              refine XR.done (by kernel_rfl) ?_
              show XQ _ _ _ _ _ _ _ _
              refine XQ.ren (σ' := [(6, .int .i64 15)]) (h' := [(1, .cells (rowC (encI .i64) c) z1 y1 1), (0, .cells (rowC encP a) z0 y0 2)]) (c' := 2) [0, 1] (by decide) rfl ⟨by kernel_rfl, trivial⟩ ⟨⟨_, _, rfl, rfl, .inl ⟨rfl, rowC_scal (encI_ok .i64) _⟩⟩, ⟨_, _, rfl, rfl, .inl ⟨rfl, rowC_scal encP_ok _⟩⟩, trivial⟩ rfl ?_
              refine XQ.ret (by kernel_rfl) ?_
              cases h
              exact hQ
            | false =>
              have h := cF b6 h
              refine XQ.cond (s := (.tmp 66)) (b := false) (by kernel_rfl) (by kernel_rfl) (fun q => by cases q) (fun _ => ?_)
              refine XQ.skip (by kernel_rfl) ?_
              show XQ _ _ _ _ _ _ _ _
              refine XQ.region (by kernel_rfl) ?_
              refine XR.run E0_ok 1 3 [0, 1, 2, 8] rfl (σ' := [(0, .slice (some ⟨0, 0, none⟩) a.length a.length), (1, .int .i64 b), (2, .slice (some ⟨1, 0, none⟩) c.length c.length), (8, .int .i64 (w64 (x8_1 + 1)))]) (h' := [(1, .cells (rowC (encI .i64) c) z1 y1 1), (0, .cells (rowC encP a) z0 y0 2)]) (c' := 2) (by kernel_rfl) ?_
              refine XR.done (by kernel_rfl) ?_
              show XL _ _ _ _ _ _ _ _ _
              refine XL.ren (σ' := [(0, .slice (some ⟨0, 0, none⟩) a.length a.length), (1, .int .i64 b), (2, .slice (some ⟨1, 0, none⟩) c.length c.length), (8, .int .i64 (w64 (x8_1 + 1)))]) (h' := [(1, .cells (rowC (encI .i64) c) z1 y1 1), (0, .cells (rowC encP a) z0 y0 2)]) (c' := 2) [0, 1] (by decide) rfl ⟨by kernel_rfl, by kernel_rfl, by kernel_rfl, by kernel_rfl, trivial⟩ ⟨⟨_, _, rfl, rfl, .inl ⟨rfl, rowC_scal (encI_ok .i64) _⟩⟩, ⟨_, _, rfl, rfl, .inl ⟨rfl, rowC_scal encP_ok _⟩⟩, trivial⟩ rfl ?_
              refine XL.conv (f22_1_ok m fuel z0 y0 a b z1 y1 c (w64 (x8_1 + 1)) o h Q hQ) (by first | rfl | simp)
    | false =>
      have h := cF b1 h
      refine XQ.cond (s := (.tmp 29)) (b := false) (by kernel_rfl) (by kernel_rfl) (fun q => by cases q) (fun _ => ?_)
      refine XQ.ren (σ' := []) (h' := [(1, .cells (rowC (encI .i64) c) z1 y1 1), (0, .cells (rowC encP a) z0 y0 2)]) (c' := 2) [0, 1] (by decide) rfl trivial ⟨⟨_, _, rfl, rfl, .inl ⟨rfl, rowC_scal (encI_ok .i64) _⟩⟩, ⟨_, _, rfl, rfl, .inl ⟨rfl, rowC_scal encP_ok _⟩⟩, trivial⟩ rfl ?_
      refine XQ.exit (i := 0) (by kernel_rfl) ?_
      cases h
      exact hQ

def f22_4 (m : Nat) : Nat → List (Int × Int) → Int → List Int → Int → Int → Int → Option Int
  | 0, _, _, _, _, _, _ => none
  | fuel + 1, a, b, c, x8_3, x9_4, x10_4 =>
    cond (decide (x10_4 < x8_3)) (
      cond (inRow x10_4 c.length) (
        cond (inRow x8_3 c.length) (
          f22_4 m fuel a b c x8_3 (cond ((List.getD c (Int.toNat x10_4) 0) == (List.getD c (Int.toNat x8_3) 0)) (w64 (x9_4 + 1)) x9_4) (w64 (x10_4 + 1))
        ) none
      ) none
    ) (
      some (x9_4)
    )

theorem f22_4_ok (m : Nat) : ∀ (fuel : Nat) (z0 : Nat) (y0 : Nat) (a : List (Int × Int)) (b : Int) (z1 : Nat) (y1 : Nat) (c : List Int) (x8_3 : Int) (x9_4 : Int) (x10_4 : Int) (o : Int), f22_4 m fuel a b c x8_3 x9_4 x10_4 = some o → ∀ Q : QP, Q (.exit 2) [(0, .slice (some ⟨0, 0, none⟩) a.length a.length), (1, .int .i64 b), (2, .slice (some ⟨1, 0, none⟩) c.length c.length), (8, .int .i64 x8_3), (9, .int .i64 o)] [(1, .cells (rowC (encI .i64) c) z1 y1 1), (0, .cells (rowC encP a) z0 y0 2)] 2 → XL E0 67 2 fuel f22_L4 [(0, .slice (some ⟨0, 0, none⟩) a.length a.length), (1, .int .i64 b), (2, .slice (some ⟨1, 0, none⟩) c.length c.length), (8, .int .i64 x8_3), (9, .int .i64 x9_4), (10, .int .i64 x10_4)] [(1, .cells (rowC (encI .i64) c) z1 y1 1), (0, .cells (rowC encP a) z0 y0 2)] 2 Q
  | 0, z0, y0, a, b, z1, y1, c, x8_3, x9_4, x10_4, o, h, Q, hQ => by cases h
  | fuel + 1, z0, y0, a, b, z1, y1, c, x8_3, x9_4, x10_4, o, h, Q, hQ => by
    unfold f22_4 at h
    refine XL.succ E0_ok ?_
    refine XQ.seq E0_ok (by kernel_rfl) ?_
    refine XQ.seq E0_ok (by kernel_rfl) ?_
    refine XQ.region (by kernel_rfl) ?_
    refine XR.run E0_ok 1 3 [0, 1, 2, 8, 9, 10, 50] rfl (σ' := [(0, .slice (some ⟨0, 0, none⟩) a.length a.length), (1, .int .i64 b), (2, .slice (some ⟨1, 0, none⟩) c.length c.length), (8, .int .i64 x8_3), (9, .int .i64 x9_4), (10, .int .i64 x10_4), (50, .bool (decide (x10_4 < x8_3)))]) (h' := [(1, .cells (rowC (encI .i64) c) z1 y1 1), (0, .cells (rowC encP a) z0 y0 2)]) (c' := 2) (by kernel_rfl) ?_
    refine XR.done (by kernel_rfl) ?_
    show XQ _ _ _ _ _ _ _ _
    cases b1 : (decide (x10_4 < x8_3) : Bool) with
    | true =>
      have h := cT b1 h
      refine XQ.cond (s := (.tmp 50)) (b := true) (by kernel_rfl) (by kernel_rfl) (fun _ => ?_) (fun q => by cases q)
      refine XQ.skip (by kernel_rfl) ?_
      show XQ _ _ _ _ _ _ _ _
      refine XQ.seq E0_ok (by kernel_rfl) ?_
      refine XQ.block (id := 3) (by kernel_rfl) ?_
      refine XQ.seq E0_ok (by kernel_rfl) ?_
      refine XQ.quiet E0_ok (by kernel_rfl) (by kernel_rfl) ?_
      refine XU.run E0_ok 1 2 [0, 1, 2, 8, 9, 10, 53, 54] rfl (σ' := [(0, .slice (some ⟨0, 0, none⟩) a.length a.length), (1, .int .i64 b), (2, .slice (some ⟨1, 0, none⟩) c.length c.length), (8, .int .i64 x8_3), (9, .int .i64 x9_4), (10, .int .i64 x10_4), (53, .slice (some ⟨1, 0, none⟩) c.length c.length), (54, .int .i64 x10_4)]) (by kernel_rfl) ?_
      cases b2 : (inRow x10_4 c.length : Bool) with
      | false => cases (cF b2 h)
      | true =>
        have h := cT b2 h
        refine XU.rd E0_ok [0, 1, 2, 8, 9, 10, 55] rfl (v := .pointer (some ⟨1, (Int.toNat x10_4) * 1, none⟩)) (v_idx (s := 1) (x := (src 67 (.tmp 53))) (y := (src 67 (.tmp 54))) (b := 1) (o := 0) (len := c.length) (cap := c.length) (ik := .i64) (i := x10_4) (off := (Int.toNat x10_4) * 1) (d := (some (path 12 55))) (by kernel_rfl) (by kernel_rfl) (by kernel_rfl) b2 (by omega)) (σ' := [(0, .slice (some ⟨0, 0, none⟩) a.length a.length), (1, .int .i64 b), (2, .slice (some ⟨1, 0, none⟩) c.length c.length), (8, .int .i64 x8_3), (9, .int .i64 x9_4), (10, .int .i64 x10_4), (55, .pointer (some ⟨1, (Int.toNat x10_4) * 1, none⟩))]) (by kernel_rfl) ?_
        refine XU.rd E0_ok [0, 1, 2, 8, 9, 10, 56] rfl (v := .int .i64 (List.getD c (Int.toNat x10_4) 0)) (v_load1 (encI_ok .i64) (x := (src 67 (.tmp 55))) (b := 1) (off := (Int.toNat x10_4) * 1) (xs := c) (fz := z1) (e := y1) (es := 1) (d := (some (path 12 56))) (by kernel_rfl) (by kernel_rfl) (by kernel_rfl) (Int.toNat x10_4) 0 0 (by first | rfl | omega) (row_len (inRow_toNat b2) (by simp)) rfl rfl) (σ' := [(0, .slice (some ⟨0, 0, none⟩) a.length a.length), (1, .int .i64 b), (2, .slice (some ⟨1, 0, none⟩) c.length c.length), (8, .int .i64 x8_3), (9, .int .i64 x9_4), (10, .int .i64 x10_4), (56, .int .i64 (List.getD c (Int.toNat x10_4) 0))]) (by kernel_rfl) ?_
        refine XU.run E0_ok 1 2 [0, 1, 2, 8, 9, 10, 56, 57, 58] rfl (σ' := [(0, .slice (some ⟨0, 0, none⟩) a.length a.length), (1, .int .i64 b), (2, .slice (some ⟨1, 0, none⟩) c.length c.length), (8, .int .i64 x8_3), (9, .int .i64 x9_4), (10, .int .i64 x10_4), (56, .int .i64 (List.getD c (Int.toNat x10_4) 0)), (57, .slice (some ⟨1, 0, none⟩) c.length c.length), (58, .int .i64 x8_3)]) (by kernel_rfl) ?_
        cases b3 : (inRow x8_3 c.length : Bool) with
        | false => cases (cF b3 h)
        | true =>
          have h := cT b3 h
          refine XU.rd E0_ok [0, 1, 2, 8, 9, 10, 56, 59] rfl (v := .pointer (some ⟨1, (Int.toNat x8_3) * 1, none⟩)) (v_idx (s := 1) (x := (src 67 (.tmp 57))) (y := (src 67 (.tmp 58))) (b := 1) (o := 0) (len := c.length) (cap := c.length) (ik := .i64) (i := x8_3) (off := (Int.toNat x8_3) * 1) (d := (some (path 12 59))) (by kernel_rfl) (by kernel_rfl) (by kernel_rfl) b3 (by omega)) (σ' := [(0, .slice (some ⟨0, 0, none⟩) a.length a.length), (1, .int .i64 b), (2, .slice (some ⟨1, 0, none⟩) c.length c.length), (8, .int .i64 x8_3), (9, .int .i64 x9_4), (10, .int .i64 x10_4), (56, .int .i64 (List.getD c (Int.toNat x10_4) 0)), (59, .pointer (some ⟨1, (Int.toNat x8_3) * 1, none⟩))]) (by kernel_rfl) ?_
          refine XU.rd E0_ok [0, 1, 2, 8, 9, 10, 56, 60] rfl (v := .int .i64 (List.getD c (Int.toNat x8_3) 0)) (v_load1 (encI_ok .i64) (x := (src 67 (.tmp 59))) (b := 1) (off := (Int.toNat x8_3) * 1) (xs := c) (fz := z1) (e := y1) (es := 1) (d := (some (path 12 60))) (by kernel_rfl) (by kernel_rfl) (by kernel_rfl) (Int.toNat x8_3) 0 0 (by first | rfl | omega) (row_len (inRow_toNat b3) (by simp)) rfl rfl) (σ' := [(0, .slice (some ⟨0, 0, none⟩) a.length a.length), (1, .int .i64 b), (2, .slice (some ⟨1, 0, none⟩) c.length c.length), (8, .int .i64 x8_3), (9, .int .i64 x9_4), (10, .int .i64 x10_4), (56, .int .i64 (List.getD c (Int.toNat x10_4) 0)), (60, .int .i64 (List.getD c (Int.toNat x8_3) 0))]) (by kernel_rfl) ?_
          refine XU.run E0_ok 1 1 [0, 1, 2, 8, 9, 10, 61] rfl (σ' := [(0, .slice (some ⟨0, 0, none⟩) a.length a.length), (1, .int .i64 b), (2, .slice (some ⟨1, 0, none⟩) c.length c.length), (8, .int .i64 x8_3), (9, .int .i64 x9_4), (10, .int .i64 x10_4), (61, .bool ((List.getD c (Int.toNat x10_4) 0) == (List.getD c (Int.toNat x8_3) 0)))]) (by kernel_rfl) ?_
          refine XU.done (by kernel_rfl) ?_
          show XQ _ _ _ _ _ _ _ _
          refine XQ.meetC (σ' := [(0, .slice (some ⟨0, 0, none⟩) a.length a.length), (1, .int .i64 b), (2, .slice (some ⟨1, 0, none⟩) c.length c.length), (8, .int .i64 x8_3), (9, .int .i64 (cond ((List.getD c (Int.toNat x10_4) 0) == (List.getD c (Int.toNat x8_3) 0)) (w64 (x9_4 + 1)) x9_4)), (10, .int .i64 x10_4)]) (h' := [(1, .cells (rowC (encI .i64) c) z1 y1 1), (0, .cells (rowC encP a) z0 y0 2)]) (c' := 2) ?_ ?_
          rotate_left
          · refine XQ.cond (s := (.tmp 61)) (b := (List.getD c (Int.toNat x10_4) 0) == (List.getD c (Int.toNat x8_3) 0)) (by kernel_rfl) (by kernel_rfl) (fun b4 => ?_) (fun b4 => ?_)
            · refine XQ.region (by kernel_rfl) ?_
              refine XR.run E0_ok 1 3 [0, 1, 2, 8, 9, 10] rfl (σ' := [(0, .slice (some ⟨0, 0, none⟩) a.length a.length), (1, .int .i64 b), (2, .slice (some ⟨1, 0, none⟩) c.length c.length), (8, .int .i64 x8_3), (9, .int .i64 (w64 (x9_4 + 1))), (10, .int .i64 x10_4)]) (h' := [(1, .cells (rowC (encI .i64) c) z1 y1 1), (0, .cells (rowC encP a) z0 y0 2)]) (c' := 2) (by kernel_rfl) ?_
              refine XR.done (by kernel_rfl) ?_
              refine ⟨rfl, ?_, ?_⟩
              · try rw [b4]
                exact ⟨by kernel_rfl, by kernel_rfl, by kernel_rfl, by kernel_rfl, by kernel_rfl, by kernel_rfl, trivial⟩
              · try rw [b4]
                kernel_rfl
            · refine XQ.skip (by kernel_rfl) ?_
              refine ⟨rfl, ?_, ?_⟩
              · try rw [b4]
                exact ⟨by kernel_rfl, by kernel_rfl, by kernel_rfl, by kernel_rfl, by kernel_rfl, by kernel_rfl, trivial⟩
              · try rw [b4]
                kernel_rfl
          show XQ _ _ _ _ _ _ _ _
          refine XQ.region (by kernel_rfl) ?_
          refine XR.run E0_ok 1 3 [0, 1, 2, 8, 9, 10] rfl (σ' := [(0, .slice (some ⟨0, 0, none⟩) a.length a.length), (1, .int .i64 b), (2, .slice (some ⟨1, 0, none⟩) c.length c.length), (8, .int .i64 x8_3), (9, .int .i64 (cond ((List.getD c (Int.toNat x10_4) 0) == (List.getD c (Int.toNat x8_3) 0)) (w64 (x9_4 + 1)) x9_4)), (10, .int .i64 (w64 (x10_4 + 1)))]) (h' := [(1, .cells (rowC (encI .i64) c) z1 y1 1), (0, .cells (rowC encP a) z0 y0 2)]) (c' := 2) (by kernel_rfl) ?_
          refine XR.done (by kernel_rfl) ?_
          show XL _ _ _ _ _ _ _ _ _
          refine XL.ren (σ' := [(0, .slice (some ⟨0, 0, none⟩) a.length a.length), (1, .int .i64 b), (2, .slice (some ⟨1, 0, none⟩) c.length c.length), (8, .int .i64 x8_3), (9, .int .i64 (cond ((List.getD c (Int.toNat x10_4) 0) == (List.getD c (Int.toNat x8_3) 0)) (w64 (x9_4 + 1)) x9_4)), (10, .int .i64 (w64 (x10_4 + 1)))]) (h' := [(1, .cells (rowC (encI .i64) c) z1 y1 1), (0, .cells (rowC encP a) z0 y0 2)]) (c' := 2) [0, 1] (by decide) rfl ⟨by kernel_rfl, by kernel_rfl, by kernel_rfl, by kernel_rfl, by kernel_rfl, by kernel_rfl, trivial⟩ ⟨⟨_, _, rfl, rfl, .inl ⟨rfl, rowC_scal (encI_ok .i64) _⟩⟩, ⟨_, _, rfl, rfl, .inl ⟨rfl, rowC_scal encP_ok _⟩⟩, trivial⟩ rfl ?_
          refine XL.conv (f22_4_ok m fuel z0 y0 a b z1 y1 c x8_3 (cond ((List.getD c (Int.toNat x10_4) 0) == (List.getD c (Int.toNat x8_3) 0)) (w64 (x9_4 + 1)) x9_4) (w64 (x10_4 + 1)) o h Q hQ) (by first | rfl | simp)
    | false =>
      have h := cF b1 h
      refine XQ.cond (s := (.tmp 50)) (b := false) (by kernel_rfl) (by kernel_rfl) (fun q => by cases q) (fun _ => ?_)
      refine XQ.ren (σ' := [(0, .slice (some ⟨0, 0, none⟩) a.length a.length), (1, .int .i64 b), (2, .slice (some ⟨1, 0, none⟩) c.length c.length), (8, .int .i64 x8_3), (9, .int .i64 x9_4)]) (h' := [(1, .cells (rowC (encI .i64) c) z1 y1 1), (0, .cells (rowC encP a) z0 y0 2)]) (c' := 2) [0, 1] (by decide) rfl ⟨by kernel_rfl, by kernel_rfl, by kernel_rfl, by kernel_rfl, by kernel_rfl, trivial⟩ ⟨⟨_, _, rfl, rfl, .inl ⟨rfl, rowC_scal (encI_ok .i64) _⟩⟩, ⟨_, _, rfl, rfl, .inl ⟨rfl, rowC_scal encP_ok _⟩⟩, trivial⟩ rfl ?_
      refine XQ.exit (i := 2) (by kernel_rfl) ?_
      cases h
      exact hQ

inductive Of22_3 where
  | r (x6_r3 : Int)
  | x0

def f22_3 (m : Nat) : Nat → List (Int × Int) → Int → List Int → Int → Option Of22_3
  | 0, _, _, _, _ => none
  | fuel + 1, a, b, c, x8_3 =>
    cond (decide (x8_3 < ((c.length : Nat) : Int))) (
      cond (inRow x8_3 c.length) (
        cond (inRow x8_3 a.length) (
          (f63 m (List.getD c (Int.toNat x8_3) 0) ((List.getD a (Int.toNat x8_3) (0, 0)).1) ((List.getD a (Int.toNat x8_3) (0, 0)).2)).bind fun r7 =>
            cond (!r7) (
              some (.r 1)
            ) (
              (f22_4 m m a b c x8_3 0 0).bind fun o4 =>
                cond (decide (o4 ≥ b)) (
                  some (.r 15)
                ) (
                  f22_3 m fuel a b c (w64 (x8_3 + 1))
                )
            )
        ) none
      ) none
    ) (
      some (.x0)
    )

theorem f22_3_ok (m : Nat) : ∀ (fuel : Nat) (z0 : Nat) (y0 : Nat) (a : List (Int × Int)) (b : Int) (z1 : Nat) (y1 : Nat) (c : List Int) (x8_3 : Int) (o : Of22_3), f22_3 m fuel a b c x8_3 = some o → ∀ Q : QP, (match o with | .r x6_r3 => Q .ret [(6, .int .i64 x6_r3)] [(1, .cells (rowC (encI .i64) c) z1 y1 1), (0, .cells (rowC encP a) z0 y0 2)] 2 | .x0 => Q (.exit 0) [] [(1, .cells (rowC (encI .i64) c) z1 y1 1), (0, .cells (rowC encP a) z0 y0 2)] 2) → XL E0 67 2 fuel f22_L3 [(0, .slice (some ⟨0, 0, none⟩) a.length a.length), (1, .int .i64 b), (2, .slice (some ⟨1, 0, none⟩) c.length c.length), (8, .int .i64 x8_3)] [(1, .cells (rowC (encI .i64) c) z1 y1 1), (0, .cells (rowC encP a) z0 y0 2)] 2 Q
  | 0, z0, y0, a, b, z1, y1, c, x8_3, o, h, Q, hQ => by cases h
  | fuel + 1, z0, y0, a, b, z1, y1, c, x8_3, o, h, Q, hQ => by
    unfold f22_3 at h
    refine XL.succ E0_ok ?_
    refine XQ.seq E0_ok (by kernel_rfl) ?_
    refine XQ.seq E0_ok (by kernel_rfl) ?_
    refine XQ.region (by kernel_rfl) ?_
    refine XR.run E0_ok 1 4 [0, 1, 2, 8, 29] rfl (σ' := [(0, .slice (some ⟨0, 0, none⟩) a.length a.length), (1, .int .i64 b), (2, .slice (some ⟨1, 0, none⟩) c.length c.length), (8, .int .i64 x8_3), (29, .bool (decide (x8_3 < ((c.length : Nat) : Int))))]) (h' := [(1, .cells (rowC (encI .i64) c) z1 y1 1), (0, .cells (rowC encP a) z0 y0 2)]) (c' := 2) (by kernel_rfl) ?_
    refine XR.done (by kernel_rfl) ?_
    show XQ _ _ _ _ _ _ _ _
    cases b1 : (decide (x8_3 < ((c.length : Nat) : Int)) : Bool) with
    | true =>
      have h := cT b1 h
      refine XQ.cond (s := (.tmp 29)) (b := true) (by kernel_rfl) (by kernel_rfl) (fun _ => ?_) (fun q => by cases q)
      refine XQ.skip (by kernel_rfl) ?_
      show XQ _ _ _ _ _ _ _ _
      refine XQ.seq E0_ok (by kernel_rfl) ?_
      refine XQ.block (id := 1) (by kernel_rfl) ?_
      refine XQ.seq E0_ok (by kernel_rfl) ?_
      refine XQ.seq E0_ok (by kernel_rfl) ?_
      refine XQ.quiet E0_ok (by kernel_rfl) (by kernel_rfl) ?_
      refine XU.run E0_ok 1 2 [0, 1, 2, 8, 32, 33] rfl (σ' := [(0, .slice (some ⟨0, 0, none⟩) a.length a.length), (1, .int .i64 b), (2, .slice (some ⟨1, 0, none⟩) c.length c.length), (8, .int .i64 x8_3), (32, .slice (some ⟨1, 0, none⟩) c.length c.length), (33, .int .i64 x8_3)]) (by kernel_rfl) ?_
      cases b2 : (inRow x8_3 c.length : Bool) with
      | false => cases (cF b2 h)
      | true =>
        have h := cT b2 h
        refine XU.rd E0_ok [0, 1, 2, 8, 34] rfl (v := .pointer (some ⟨1, (Int.toNat x8_3) * 1, none⟩)) (v_idx (s := 1) (x := (src 67 (.tmp 32))) (y := (src 67 (.tmp 33))) (b := 1) (o := 0) (len := c.length) (cap := c.length) (ik := .i64) (i := x8_3) (off := (Int.toNat x8_3) * 1) (d := (some (path 12 34))) (by kernel_rfl) (by kernel_rfl) (by kernel_rfl) b2 (by omega)) (σ' := [(0, .slice (some ⟨0, 0, none⟩) a.length a.length), (1, .int .i64 b), (2, .slice (some ⟨1, 0, none⟩) c.length c.length), (8, .int .i64 x8_3), (34, .pointer (some ⟨1, (Int.toNat x8_3) * 1, none⟩))]) (by kernel_rfl) ?_
        refine XU.rd E0_ok [0, 1, 2, 8, 35] rfl (v := .int .i64 (List.getD c (Int.toNat x8_3) 0)) (v_load1 (encI_ok .i64) (x := (src 67 (.tmp 34))) (b := 1) (off := (Int.toNat x8_3) * 1) (xs := c) (fz := z1) (e := y1) (es := 1) (d := (some (path 12 35))) (by kernel_rfl) (by kernel_rfl) (by kernel_rfl) (Int.toNat x8_3) 0 0 (by first | rfl | omega) (row_len (inRow_toNat b2) (by simp)) rfl rfl) (σ' := [(0, .slice (some ⟨0, 0, none⟩) a.length a.length), (1, .int .i64 b), (2, .slice (some ⟨1, 0, none⟩) c.length c.length), (8, .int .i64 x8_3), (35, .int .i64 (List.getD c (Int.toNat x8_3) 0))]) (by kernel_rfl) ?_
        refine XU.run E0_ok 1 2 [0, 1, 2, 8, 35, 36, 37] rfl (σ' := [(0, .slice (some ⟨0, 0, none⟩) a.length a.length), (1, .int .i64 b), (2, .slice (some ⟨1, 0, none⟩) c.length c.length), (8, .int .i64 x8_3), (35, .int .i64 (List.getD c (Int.toNat x8_3) 0)), (36, .slice (some ⟨0, 0, none⟩) a.length a.length), (37, .int .i64 x8_3)]) (by kernel_rfl) ?_
        cases b3 : (inRow x8_3 a.length : Bool) with
        | false => cases (cF b3 h)
        | true =>
          have h := cT b3 h
          refine XU.rd E0_ok [0, 1, 2, 8, 35, 38] rfl (v := .pointer (some ⟨0, (Int.toNat x8_3) * 2, none⟩)) (v_idx (s := 2) (x := (src 67 (.tmp 36))) (y := (src 67 (.tmp 37))) (b := 0) (o := 0) (len := a.length) (cap := a.length) (ik := .i64) (i := x8_3) (off := (Int.toNat x8_3) * 2) (d := (some (path 12 38))) (by kernel_rfl) (by kernel_rfl) (by kernel_rfl) b3 (by omega)) (σ' := [(0, .slice (some ⟨0, 0, none⟩) a.length a.length), (1, .int .i64 b), (2, .slice (some ⟨1, 0, none⟩) c.length c.length), (8, .int .i64 x8_3), (35, .int .i64 (List.getD c (Int.toNat x8_3) 0)), (38, .pointer (some ⟨0, (Int.toNat x8_3) * 2, none⟩))]) (by kernel_rfl) ?_
          refine XU.run E0_ok 1 1 [0, 1, 2, 8, 35, 39] rfl (σ' := [(0, .slice (some ⟨0, 0, none⟩) a.length a.length), (1, .int .i64 b), (2, .slice (some ⟨1, 0, none⟩) c.length c.length), (8, .int .i64 x8_3), (35, .int .i64 (List.getD c (Int.toNat x8_3) 0)), (39, .pointer (some ⟨0, (Int.toNat x8_3) * 2, none⟩))]) (by kernel_rfl) ?_
          refine XU.rd E0_ok [0, 1, 2, 8, 35, 40] rfl (v := .int .i64 ((List.getD a (Int.toNat x8_3) (0, 0)).1)) (v_load1 encP_ok (x := (src 67 (.tmp 39))) (b := 0) (off := (Int.toNat x8_3) * 2) (xs := a) (fz := z0) (e := y0) (es := 2) (d := (some (path 12 40))) (by kernel_rfl) (by kernel_rfl) (by kernel_rfl) (Int.toNat x8_3) 0 (0, 0) (by first | rfl | omega) (row_len (inRow_toNat b3) (by simp)) rfl rfl) (σ' := [(0, .slice (some ⟨0, 0, none⟩) a.length a.length), (1, .int .i64 b), (2, .slice (some ⟨1, 0, none⟩) c.length c.length), (8, .int .i64 x8_3), (35, .int .i64 (List.getD c (Int.toNat x8_3) 0)), (40, .int .i64 ((List.getD a (Int.toNat x8_3) (0, 0)).1))]) (by kernel_rfl) ?_
          refine XU.run E0_ok 1 2 [0, 1, 2, 8, 35, 40, 41, 42] rfl (σ' := [(0, .slice (some ⟨0, 0, none⟩) a.length a.length), (1, .int .i64 b), (2, .slice (some ⟨1, 0, none⟩) c.length c.length), (8, .int .i64 x8_3), (35, .int .i64 (List.getD c (Int.toNat x8_3) 0)), (40, .int .i64 ((List.getD a (Int.toNat x8_3) (0, 0)).1)), (41, .slice (some ⟨0, 0, none⟩) a.length a.length), (42, .int .i64 x8_3)]) (by kernel_rfl) ?_
          refine XU.rd E0_ok [0, 1, 2, 8, 35, 40, 43] rfl (v := .pointer (some ⟨0, (Int.toNat x8_3) * 2, none⟩)) (v_idx (s := 2) (x := (src 67 (.tmp 41))) (y := (src 67 (.tmp 42))) (b := 0) (o := 0) (len := a.length) (cap := a.length) (ik := .i64) (i := x8_3) (off := (Int.toNat x8_3) * 2) (d := (some (path 12 43))) (by kernel_rfl) (by kernel_rfl) (by kernel_rfl) b3 (by omega)) (σ' := [(0, .slice (some ⟨0, 0, none⟩) a.length a.length), (1, .int .i64 b), (2, .slice (some ⟨1, 0, none⟩) c.length c.length), (8, .int .i64 x8_3), (35, .int .i64 (List.getD c (Int.toNat x8_3) 0)), (40, .int .i64 ((List.getD a (Int.toNat x8_3) (0, 0)).1)), (43, .pointer (some ⟨0, (Int.toNat x8_3) * 2, none⟩))]) (by kernel_rfl) ?_
          refine XU.run E0_ok 1 1 [0, 1, 2, 8, 35, 40, 44] rfl (σ' := [(0, .slice (some ⟨0, 0, none⟩) a.length a.length), (1, .int .i64 b), (2, .slice (some ⟨1, 0, none⟩) c.length c.length), (8, .int .i64 x8_3), (35, .int .i64 (List.getD c (Int.toNat x8_3) 0)), (40, .int .i64 ((List.getD a (Int.toNat x8_3) (0, 0)).1)), (44, .pointer (some ⟨0, (Int.toNat x8_3) * 2 + 1, none⟩))]) (by kernel_rfl) ?_
          refine XU.rd E0_ok [0, 1, 2, 8, 35, 40, 45] rfl (v := .int .i64 ((List.getD a (Int.toNat x8_3) (0, 0)).2)) (v_load1 encP_ok (x := (src 67 (.tmp 44))) (b := 0) (off := (Int.toNat x8_3) * 2 + 1) (xs := a) (fz := z0) (e := y0) (es := 2) (d := (some (path 12 45))) (by kernel_rfl) (by kernel_rfl) (by kernel_rfl) (Int.toNat x8_3) 1 (0, 0) (by first | rfl | omega) (row_len (inRow_toNat b3) (by simp)) rfl rfl) (σ' := [(0, .slice (some ⟨0, 0, none⟩) a.length a.length), (1, .int .i64 b), (2, .slice (some ⟨1, 0, none⟩) c.length c.length), (8, .int .i64 x8_3), (35, .int .i64 (List.getD c (Int.toNat x8_3) 0)), (40, .int .i64 ((List.getD a (Int.toNat x8_3) (0, 0)).1)), (45, .int .i64 ((List.getD a (Int.toNat x8_3) (0, 0)).2))]) (by kernel_rfl) ?_
          obtain ⟨r7, r7_h, h⟩ := bS h
          refine XU.call E0_ok [0, 1, 2, 8, 46] rfl (K := 63) (F := Proofs.Try.f63) (args := [.int .i64 (List.getD c (Int.toNat x8_3) 0), .int .i64 ((List.getD a (Int.toNat x8_3) (0, 0)).1), .int .i64 ((List.getD a (Int.toNat x8_3) (0, 0)).2)]) (d := (some (path 12 46))) (v := .bool r7) (by kernel_rfl) (by kernel_rfl) rfl rfl (fun w hI => f63_ok m (List.getD c (Int.toNat x8_3) 0) ((List.getD a (Int.toNat x8_3) (0, 0)).1) ((List.getD a (Int.toNat x8_3) (0, 0)).2) r7 r7_h w hI) (σ' := [(0, .slice (some ⟨0, 0, none⟩) a.length a.length), (1, .int .i64 b), (2, .slice (some ⟨1, 0, none⟩) c.length c.length), (8, .int .i64 x8_3), (46, .bool r7)]) (by kernel_rfl) ?_
          refine XU.run E0_ok 1 1 [0, 1, 2, 8, 47] rfl (σ' := [(0, .slice (some ⟨0, 0, none⟩) a.length a.length), (1, .int .i64 b), (2, .slice (some ⟨1, 0, none⟩) c.length c.length), (8, .int .i64 x8_3), (47, .bool (!r7))]) (by kernel_rfl) ?_
          refine XU.done (by kernel_rfl) ?_
          show XQ _ _ _ _ _ _ _ _
          cases b4 : (!r7 : Bool) with
          | true =>
            have h := cT b4 h
            refine XQ.cond (s := (.tmp 47)) (b := true) (by kernel_rfl) (by kernel_rfl) (fun _ => ?_) (fun q => by cases q)
            refine XQ.seq E0_ok (by kernel_rfl) ?_
            refine XQ.region (by kernel_rfl) ?_
            refine XR.run E0_ok 1 1 [6] rfl (σ' := [(6, .int .i64 1)]) (h' := [(1, .cells (rowC (encI .i64) c) z1 y1 1), (0, .cells (rowC encP a) z0 y0 2)]) (c' := 2) (by kernel_rfl) ?_
            refine XR.done (by kernel_rfl) ?_
            show XQ _ _ _ _ _ _ _ _
            refine XQ.ren (σ' := [(6, .int .i64 1)]) (h' := [(1, .cells (rowC (encI .i64) c) z1 y1 1), (0, .cells (rowC encP a) z0 y0 2)]) (c' := 2) [0, 1] (by decide) rfl ⟨by kernel_rfl, trivial⟩ ⟨⟨_, _, rfl, rfl, .inl ⟨rfl, rowC_scal (encI_ok .i64) _⟩⟩, ⟨_, _, rfl, rfl, .inl ⟨rfl, rowC_scal encP_ok _⟩⟩, trivial⟩ rfl ?_
            refine XQ.ret (by kernel_rfl) ?_
            cases h
            exact hQ
          | false =>
            have h := cF b4 h
            refine XQ.cond (s := (.tmp 47)) (b := false) (by kernel_rfl) (by kernel_rfl) (fun q => by cases q) (fun _ => ?_)
            refine XQ.skip (by kernel_rfl) ?_
            show XQ _ _ _ _ _ _ _ _
            refine XQ.seq E0_ok (by kernel_rfl) ?_
            refine XQ.region (by kernel_rfl) ?_
            refine XR.run E0_ok 1 1 [0, 1, 2, 8, 9] rfl (σ' := [(0, .slice (some ⟨0, 0, none⟩) a.length a.length), (1, .int .i64 b), (2, .slice (some ⟨1, 0, none⟩) c.length c.length), (8, .int .i64 x8_3), (9, .int .i64 0)]) (h' := [(1, .cells (rowC (encI .i64) c) z1 y1 1), (0, .cells (rowC encP a) z0 y0 2)]) (c' := 2) (by kernel_rfl) ?_
            refine XR.done (by kernel_rfl) ?_
            show XQ _ _ _ _ _ _ _ _
            refine XQ.seq E0_ok (by kernel_rfl) ?_
            refine XQ.seq E0_ok (by kernel_rfl) ?_
            refine XQ.region (by kernel_rfl) ?_
            refine XR.run E0_ok 1 1 [0, 1, 2, 8, 9, 10] rfl (σ' := [(0, .slice (some ⟨0, 0, none⟩) a.length a.length), (1, .int .i64 b), (2, .slice (some ⟨1, 0, none⟩) c.length c.length), (8, .int .i64 x8_3), (9, .int .i64 0), (10, .int .i64 0)]) (h' := [(1, .cells (rowC (encI .i64) c) z1 y1 1), (0, .cells (rowC encP a) z0 y0 2)]) (c' := 2) (by kernel_rfl) ?_
            refine XR.done (by kernel_rfl) ?_
            show XQ _ _ _ _ _ _ _ _
            refine XQ.block (id := 2) (by kernel_rfl) ?_
            refine XQ.loop m (by kernel_rfl) ?_
            obtain ⟨o4, o4_h, h⟩ := bS h
            refine XL.ren (σ' := [(0, .slice (some ⟨0, 0, none⟩) a.length a.length), (1, .int .i64 b), (2, .slice (some ⟨1, 0, none⟩) c.length c.length), (8, .int .i64 x8_3), (9, .int .i64 0), (10, .int .i64 0)]) (h' := [(1, .cells (rowC (encI .i64) c) z1 y1 1), (0, .cells (rowC encP a) z0 y0 2)]) (c' := 2) [0, 1] (by decide) rfl ⟨by kernel_rfl, by kernel_rfl, by kernel_rfl, by kernel_rfl, by kernel_rfl, by kernel_rfl, trivial⟩ ⟨⟨_, _, rfl, rfl, .inl ⟨rfl, rowC_scal (encI_ok .i64) _⟩⟩, ⟨_, _, rfl, rfl, .inl ⟨rfl, rowC_scal encP_ok _⟩⟩, trivial⟩ rfl ?_
            refine XL.conv (f22_4_ok m m z0 y0 a b z1 y1 c x8_3 0 0 o4 o4_h _ ?_) (by first | rfl | simp)
            show XQ _ _ _ _ _ _ _ _
            refine XQ.seq E0_ok (by kernel_rfl) ?_
            refine XQ.region (by kernel_rfl) ?_
            refine XR.run E0_ok 1 3 [0, 1, 2, 8, 66] rfl (σ' := [(0, .slice (some ⟨0, 0, none⟩) a.length a.length), (1, .int .i64 b), (2, .slice (some ⟨1, 0, none⟩) c.length c.length), (8, .int .i64 x8_3), (66, .bool (decide (o4 ≥ b)))]) (h' := [(1, .cells (rowC (encI .i64) c) z1 y1 1), (0, .cells (rowC encP a) z0 y0 2)]) (c' := 2) (by kernel_rfl) ?_
            refine XR.done (by kernel_rfl) ?_
            show XQ _ _ _ _ _ _ _ _
            cases b6 : (decide (o4 ≥ b) : Bool) with
            | true =>
              have h := cT b6 h
              refine XQ.cond (s := (.tmp 66)) (b := true) (by kernel_rfl) (by kernel_rfl) (fun _ => ?_) (fun q => by cases q)
              refine XQ.seq E0_ok (by kernel_rfl) ?_
              refine XQ.region (by kernel_rfl) ?_
              refine XR.run E0_ok 1 1 [6] rfl (σ' := [(6, .int .i64 15)]) (h' := [(1, .cells (rowC (encI .i64) c) z1 y1 1), (0, .cells (rowC encP a) z0 y0 2)]) (c' := 2) (by kernel_rfl) ?_
              refine XR.done (by kernel_rfl) ?_
              show XQ _ _ _ _ _ _ _ _
              refine XQ.ren (σ' := [(6, .int .i64 15)]) (h' := [(1, .cells (rowC (encI .i64) c) z1 y1 1), (0, .cells (rowC encP a) z0 y0 2)]) (c' := 2) [0, 1] (by decide) rfl ⟨by kernel_rfl, trivial⟩ ⟨⟨_, _, rfl, rfl, .inl ⟨rfl, rowC_scal (encI_ok .i64) _⟩⟩, ⟨_, _, rfl, rfl, .inl ⟨rfl, rowC_scal encP_ok _⟩⟩, trivial⟩ rfl ?_
              refine XQ.ret (by kernel_rfl) ?_
              cases h
              exact hQ
            | false =>
              have h := cF b6 h
              refine XQ.cond (s := (.tmp 66)) (b := false) (by kernel_rfl) (by kernel_rfl) (fun q => by cases q) (fun _ => ?_)
              refine XQ.skip (by kernel_rfl) ?_
              show XQ _ _ _ _ _ _ _ _
              refine XQ.region (by kernel_rfl) ?_
              refine XR.run E0_ok 1 3 [0, 1, 2, 8] rfl (σ' := [(0, .slice (some ⟨0, 0, none⟩) a.length a.length), (1, .int .i64 b), (2, .slice (some ⟨1, 0, none⟩) c.length c.length), (8, .int .i64 (w64 (x8_3 + 1)))]) (h' := [(1, .cells (rowC (encI .i64) c) z1 y1 1), (0, .cells (rowC encP a) z0 y0 2)]) (c' := 2) (by kernel_rfl) ?_
              refine XR.done (by kernel_rfl) ?_
              show XL _ _ _ _ _ _ _ _ _
              refine XL.ren (σ' := [(0, .slice (some ⟨0, 0, none⟩) a.length a.length), (1, .int .i64 b), (2, .slice (some ⟨1, 0, none⟩) c.length c.length), (8, .int .i64 (w64 (x8_3 + 1)))]) (h' := [(1, .cells (rowC (encI .i64) c) z1 y1 1), (0, .cells (rowC encP a) z0 y0 2)]) (c' := 2) [0, 1] (by decide) rfl ⟨by kernel_rfl, by kernel_rfl, by kernel_rfl, by kernel_rfl, trivial⟩ ⟨⟨_, _, rfl, rfl, .inl ⟨rfl, rowC_scal (encI_ok .i64) _⟩⟩, ⟨_, _, rfl, rfl, .inl ⟨rfl, rowC_scal encP_ok _⟩⟩, trivial⟩ rfl ?_
              refine XL.conv (f22_3_ok m fuel z0 y0 a b z1 y1 c (w64 (x8_3 + 1)) o h Q hQ) (by first | rfl | simp)
    | false =>
      have h := cF b1 h
      refine XQ.cond (s := (.tmp 29)) (b := false) (by kernel_rfl) (by kernel_rfl) (fun q => by cases q) (fun _ => ?_)
      refine XQ.ren (σ' := []) (h' := [(1, .cells (rowC (encI .i64) c) z1 y1 1), (0, .cells (rowC encP a) z0 y0 2)]) (c' := 2) [0, 1] (by decide) rfl trivial ⟨⟨_, _, rfl, rfl, .inl ⟨rfl, rowC_scal (encI_ok .i64) _⟩⟩, ⟨_, _, rfl, rfl, .inl ⟨rfl, rowC_scal encP_ok _⟩⟩, trivial⟩ rfl ?_
      refine XQ.exit (i := 0) (by kernel_rfl) ?_
      cases h
      exact hQ

def f22 (m : Nat) (a : List (Int × Int)) (b : Int) (c : List Int) : Option (Int) :=
  (f59 m a b).bind fun r1 =>
    cond (r1 == 0) (
      cond ((cond (((c.length : Nat) : Int) != ((a.length : Nat) : Int)) 5 r1 : Int) != 0) (
        some (cond (((c.length : Nat) : Int) != ((a.length : Nat) : Int)) 5 r1)
      ) (
        (f22_1 m m a b c 0).bind fun o1 =>
          match o1 with
          | .r x6_r1 =>
            some (x6_r1)
          | .x0 =>
            some (0)
      )
    ) (
      cond (r1 != 0) (
        some (r1)
      ) (
        (f22_3 m m a b c 0).bind fun o3 =>
          match o3 with
          | .r x6_r3 =>
            some (x6_r3)
          | .x0 =>
            some (0)
      )
    )

theorem f22_ok (m : Nat) (z0 : Nat) (y0 : Nat) (z1 : Nat) (y1 : Nat) (a : List (Int × Int)) (b : Int) (c : List Int) (o : Int) (h : f22 m a b c = some o) : KC E0 22 [.slice (some ⟨0, 0, none⟩) a.length a.length, .int .i64 b, .slice (some ⟨1, 0, none⟩) c.length c.length] [(1, .cells (rowC (encI .i64) c) z1 y1 1), (0, .cells (rowC encP a) z0 y0 2)] 2 (fun v _ _ => v = .int .i64 o) := by
  refine KC.bodyN E0_ok (F := Proofs.Try.f22) (by kernel_rfl) (code := f22_C22) (by kernel_rfl) (nt := 67) (by kernel_rfl) (rs := [.tmp 6]) (by kernel_rfl) (by kernel_rfl) (σ := [(0, .slice (some ⟨0, 0, none⟩) a.length a.length), (1, .int .i64 b), (2, .slice (some ⟨1, 0, none⟩) c.length c.length)]) (by kernel_rfl) ?_
  unfold f22 at h
  refine XQ.seq E0_ok (by kernel_rfl) ?_
  refine XQ.region (by kernel_rfl) ?_
  refine XR.run E0_ok 1 1 [0, 1, 2] rfl (σ' := [(0, .slice (some ⟨0, 0, none⟩) a.length a.length), (1, .int .i64 b), (2, .slice (some ⟨1, 0, none⟩) c.length c.length)]) (h' := [(1, .cells (rowC (encI .i64) c) z1 y1 1), (0, .cells (rowC encP a) z0 y0 2)]) (c' := 2) (by kernel_rfl) ?_
  refine XR.done (by kernel_rfl) ?_
  show XQ _ _ _ _ _ _ _ _
  refine XQ.seq E0_ok (by kernel_rfl) ?_
  refine XQ.region (by kernel_rfl) ?_
  refine XR.run E0_ok 1 2 [0, 1, 2, 11, 12] rfl (σ' := [(0, .slice (some ⟨0, 0, none⟩) a.length a.length), (1, .int .i64 b), (2, .slice (some ⟨1, 0, none⟩) c.length c.length), (11, .slice (some ⟨0, 0, none⟩) a.length a.length), (12, .int .i64 b)]) (h' := [(1, .cells (rowC (encI .i64) c) z1 y1 1), (0, .cells (rowC encP a) z0 y0 2)]) (c' := 2) (by kernel_rfl) ?_
  obtain ⟨r1, r1_h, h⟩ := bS h
  refine XR.call E0_ok [0, 1, 2, 13] rfl (K := 59) (args := [.slice (some ⟨0, 0, none⟩) a.length a.length, .int .i64 b]) (d := (some (path 12 13))) (by kernel_rfl) (KQ.call (KC.quiet E0_ok (args0 := [.slice (some ⟨0, 0, none⟩) a.length a.length, .int .i64 b]) (h0 := [(0, .cells (rowC encP a) (z0 + ((rowC encP a).length + 1)) y0 2)]) (n := 1) (V := .int .i64 r1) [0] (f59_ok m (z0 + ((rowC encP a).length + 1)) y0 a b r1 r1_h) rfl (by rfl) (by decide) rfl (by kernel_rfl) ⟨⟨_, _, rfl, rfl, .inl ⟨rfl, rowC_scal encP_ok _⟩⟩, trivial⟩) rfl) ?_
  rintro _ _ _ ⟨rfl, rfl, rfl⟩
  refine XR.conv (σ' := [(0, .slice (some ⟨0, 0, none⟩) a.length a.length), (1, .int .i64 b), (2, .slice (some ⟨1, 0, none⟩) c.length c.length), (13, .int .i64 r1)]) (h' := [(1, .cells (rowC (encI .i64) c) z1 y1 1), (0, .cells (rowC encP a) z0 y0 2)]) (c' := 2) ?_ (by kernel_rfl)
  refine XR.run E0_ok 1 1 [0, 1, 2, 7] rfl (σ' := [(0, .slice (some ⟨0, 0, none⟩) a.length a.length), (1, .int .i64 b), (2, .slice (some ⟨1, 0, none⟩) c.length c.length), (7, .int .i64 r1)]) (h' := [(1, .cells (rowC (encI .i64) c) z1 y1 1), (0, .cells (rowC encP a) z0 y0 2)]) (c' := 2) (by kernel_rfl) ?_
  refine XR.done (by kernel_rfl) ?_
  show XQ _ _ _ _ _ _ _ _
  refine XQ.seq E0_ok (by kernel_rfl) ?_
  refine XQ.seq E0_ok (by kernel_rfl) ?_
  refine XQ.region (by kernel_rfl) ?_
  refine XR.run E0_ok 1 3 [0, 1, 2, 7, 16] rfl (σ' := [(0, .slice (some ⟨0, 0, none⟩) a.length a.length), (1, .int .i64 b), (2, .slice (some ⟨1, 0, none⟩) c.length c.length), (7, .int .i64 r1), (16, .bool (r1 == 0))]) (h' := [(1, .cells (rowC (encI .i64) c) z1 y1 1), (0, .cells (rowC encP a) z0 y0 2)]) (c' := 2) (by kernel_rfl) ?_
  cases b1 : (r1 == 0 : Bool) with
  | true =>
    have h := cT b1 h
    refine XR.run E0_ok 1 6 [0, 1, 2, 7, 22] rfl (σ' := [(0, .slice (some ⟨0, 0, none⟩) a.length a.length), (1, .int .i64 b), (2, .slice (some ⟨1, 0, none⟩) c.length c.length), (7, .int .i64 r1), (22, .bool (((c.length : Nat) : Int) != ((a.length : Nat) : Int)))]) (h' := [(1, .cells (rowC (encI .i64) c) z1 y1 1), (0, .cells (rowC encP a) z0 y0 2)]) (c' := 2) (by kernel_rfl) ?_
    refine XR.done (by kernel_rfl) ?_
    show XQ _ _ _ _ _ _ _ _
    refine XQ.meetC (σ' := [(0, .slice (some ⟨0, 0, none⟩) a.length a.length), (1, .int .i64 b), (2, .slice (some ⟨1, 0, none⟩) c.length c.length), (7, .int .i64 (cond (((c.length : Nat) : Int) != ((a.length : Nat) : Int)) 5 r1))]) (h' := [(1, .cells (rowC (encI .i64) c) z1 y1 1), (0, .cells (rowC encP a) z0 y0 2)]) (c' := 2) ?_ ?_
    rotate_left
    · refine XQ.cond (s := (.tmp 22)) (b := ((c.length : Nat) : Int) != ((a.length : Nat) : Int)) (by kernel_rfl) (by kernel_rfl) (fun b2 => ?_) (fun b2 => ?_)
      · refine XQ.region (by kernel_rfl) ?_
        refine XR.run E0_ok 1 1 [0, 1, 2, 7] rfl (σ' := [(0, .slice (some ⟨0, 0, none⟩) a.length a.length), (1, .int .i64 b), (2, .slice (some ⟨1, 0, none⟩) c.length c.length), (7, .int .i64 5)]) (h' := [(1, .cells (rowC (encI .i64) c) z1 y1 1), (0, .cells (rowC encP a) z0 y0 2)]) (c' := 2) (by kernel_rfl) ?_
        refine XR.done (by kernel_rfl) ?_
        refine ⟨rfl, ?_, ?_⟩
        · try rw [b2]
          exact ⟨by kernel_rfl, by kernel_rfl, by kernel_rfl, by kernel_rfl, trivial⟩
        · try rw [b2]
          kernel_rfl
      · refine XQ.skip (by kernel_rfl) ?_
        refine ⟨rfl, ?_, ?_⟩
        · try rw [b2]
          exact ⟨by kernel_rfl, by kernel_rfl, by kernel_rfl, by kernel_rfl, trivial⟩
        · try rw [b2]
          kernel_rfl
    show XQ _ _ _ _ _ _ _ _
    refine XQ.seq E0_ok (by kernel_rfl) ?_
    refine XQ.seq E0_ok (by kernel_rfl) ?_
    refine XQ.region (by kernel_rfl) ?_
    refine XR.run E0_ok 1 2 [0, 1, 2, 7, 24] rfl (σ' := [(0, .slice (some ⟨0, 0, none⟩) a.length a.length), (1, .int .i64 b), (2, .slice (some ⟨1, 0, none⟩) c.length c.length), (7, .int .i64 (cond (((c.length : Nat) : Int) != ((a.length : Nat) : Int)) 5 r1)), (24, .bool ((cond (((c.length : Nat) : Int) != ((a.length : Nat) : Int)) 5 r1 : Int) != 0))]) (h' := [(1, .cells (rowC (encI .i64) c) z1 y1 1), (0, .cells (rowC encP a) z0 y0 2)]) (c' := 2) (by kernel_rfl) ?_
    refine XR.done (by kernel_rfl) ?_
    show XQ _ _ _ _ _ _ _ _
    cases b3 : ((cond (((c.length : Nat) : Int) != ((a.length : Nat) : Int)) 5 r1 : Int) != 0 : Bool) with
    | true =>
      have h := cT b3 h
      refine XQ.cond (s := (.tmp 24)) (b := true) (by kernel_rfl) (by kernel_rfl) (fun _ => ?_) (fun q => by cases q)
      refine XQ.seq E0_ok (by kernel_rfl) ?_
      refine XQ.region (by kernel_rfl) ?_
      refine XR.run E0_ok 1 2 [6] rfl (σ' := [(6, .int .i64 (cond (((c.length : Nat) : Int) != ((a.length : Nat) : Int)) 5 r1))]) (h' := [(1, .cells (rowC (encI .i64) c) z1 y1 1), (0, .cells (rowC encP a) z0 y0 2)]) (c' := 2) (by kernel_rfl) ?_
      refine XR.done (by kernel_rfl) ?_
      show XQ _ _ _ _ _ _ _ _
      refine XQ.ret (by kernel_rfl) ?_
      have h := Option.some.inj h
      subst h
      exact ⟨fun i q => (by cases q), .int .i64 (cond (((c.length : Nat) : Int) != ((a.length : Nat) : Int)) 5 r1), (by kernel_rfl), rfl⟩
    | false =>
      have h := cF b3 h
      refine XQ.cond (s := (.tmp 24)) (b := false) (by kernel_rfl) (by kernel_rfl) (fun q => by cases q) (fun _ => ?_)
      refine XQ.skip (by kernel_rfl) ?_
      show XQ _ _ _ _ _ _ _ _
      refine XQ.seq E0_ok (by kernel_rfl) ?_
      refine XQ.seq E0_ok (by kernel_rfl) ?_
      refine XQ.region (by kernel_rfl) ?_
      refine XR.run E0_ok 1 1 [0, 1, 2, 8] rfl (σ' := [(0, .slice (some ⟨0, 0, none⟩) a.length a.length), (1, .int .i64 b), (2, .slice (some ⟨1, 0, none⟩) c.length c.length), (8, .int .i64 0)]) (h' := [(1, .cells (rowC (encI .i64) c) z1 y1 1), (0, .cells (rowC encP a) z0 y0 2)]) (c' := 2) (by kernel_rfl) ?_
      refine XR.done (by kernel_rfl) ?_
      show XQ _ _ _ _ _ _ _ _
      refine XQ.block (id := 0) (by kernel_rfl) ?_
      refine XQ.loop m (by kernel_rfl) ?_
      obtain ⟨o1, o1_h, h⟩ := bS h
      refine XL.ren (σ' := [(0, .slice (some ⟨0, 0, none⟩) a.length a.length), (1, .int .i64 b), (2, .slice (some ⟨1, 0, none⟩) c.length c.length), (8, .int .i64 0)]) (h' := [(1, .cells (rowC (encI .i64) c) z1 y1 1), (0, .cells (rowC encP a) z0 y0 2)]) (c' := 2) [0, 1] (by decide) rfl ⟨by kernel_rfl, by kernel_rfl, by kernel_rfl, by kernel_rfl, trivial⟩ ⟨⟨_, _, rfl, rfl, .inl ⟨rfl, rowC_scal (encI_ok .i64) _⟩⟩, ⟨_, _, rfl, rfl, .inl ⟨rfl, rowC_scal encP_ok _⟩⟩, trivial⟩ rfl ?_
      cases o1 with
      | r x6_r1 =>
        dsimp only at h
        refine XL.conv (f22_1_ok m m z0 y0 a b z1 y1 c 0 (.r x6_r1) o1_h _ ?_) (by first | rfl | simp)
        have h := Option.some.inj h
        subst h
        exact ⟨fun i q => (by cases q), .int .i64 x6_r1, (by kernel_rfl), rfl⟩
      | x0 =>
        dsimp only at h
        refine XL.conv (f22_1_ok m m z0 y0 a b z1 y1 c 0 (.x0) o1_h _ ?_) (by first | rfl | simp)
        show XQ _ _ _ _ _ _ _ _
        refine XQ.seq E0_ok (by kernel_rfl) ?_
        refine XQ.region (by kernel_rfl) ?_
        refine XR.run E0_ok 1 1 [6] rfl (σ' := [(6, .int .i64 0)]) (h' := [(1, .cells (rowC (encI .i64) c) z1 y1 1), (0, .cells (rowC encP a) z0 y0 2)]) (c' := 2) (by kernel_rfl) ?_
        refine XR.done (by kernel_rfl) ?_
        show XQ _ _ _ _ _ _ _ _
        refine XQ.ret (by kernel_rfl) ?_
        have h := Option.some.inj h
        subst h
        exact ⟨fun i q => (by cases q), .int .i64 0, (by kernel_rfl), rfl⟩
  | false =>
    have h := cF b1 h
    refine XR.run E0_ok 1 6 [0, 1, 2, 7, 22] rfl (σ' := [(0, .slice (some ⟨0, 0, none⟩) a.length a.length), (1, .int .i64 b), (2, .slice (some ⟨1, 0, none⟩) c.length c.length), (7, .int .i64 r1), (22, .bool false)]) (h' := [(1, .cells (rowC (encI .i64) c) z1 y1 1), (0, .cells (rowC encP a) z0 y0 2)]) (c' := 2) (by kernel_rfl) ?_
    refine XR.done (by kernel_rfl) ?_
    show XQ _ _ _ _ _ _ _ _
    refine XQ.cond (s := (.tmp 22)) (b := false) (by kernel_rfl) (by kernel_rfl) (fun q => by cases q) (fun _ => ?_)
    refine XQ.skip (by kernel_rfl) ?_
    show XQ _ _ _ _ _ _ _ _
    refine XQ.seq E0_ok (by kernel_rfl) ?_
    refine XQ.seq E0_ok (by kernel_rfl) ?_
    refine XQ.region (by kernel_rfl) ?_
    refine XR.run E0_ok 1 2 [0, 1, 2, 7, 24] rfl (σ' := [(0, .slice (some ⟨0, 0, none⟩) a.length a.length), (1, .int .i64 b), (2, .slice (some ⟨1, 0, none⟩) c.length c.length), (7, .int .i64 r1), (24, .bool (r1 != 0))]) (h' := [(1, .cells (rowC (encI .i64) c) z1 y1 1), (0, .cells (rowC encP a) z0 y0 2)]) (c' := 2) (by kernel_rfl) ?_
    refine XR.done (by kernel_rfl) ?_
    show XQ _ _ _ _ _ _ _ _
    cases b5 : (r1 != 0 : Bool) with
    | true =>
      have h := cT b5 h
      refine XQ.cond (s := (.tmp 24)) (b := true) (by kernel_rfl) (by kernel_rfl) (fun _ => ?_) (fun q => by cases q)
      refine XQ.seq E0_ok (by kernel_rfl) ?_
      refine XQ.region (by kernel_rfl) ?_
      refine XR.run E0_ok 1 2 [6] rfl (σ' := [(6, .int .i64 r1)]) (h' := [(1, .cells (rowC (encI .i64) c) z1 y1 1), (0, .cells (rowC encP a) z0 y0 2)]) (c' := 2) (by kernel_rfl) ?_
      refine XR.done (by kernel_rfl) ?_
      show XQ _ _ _ _ _ _ _ _
      refine XQ.ret (by kernel_rfl) ?_
      have h := Option.some.inj h
      subst h
      exact ⟨fun i q => (by cases q), .int .i64 r1, (by kernel_rfl), rfl⟩
    | false =>
      have h := cF b5 h
      refine XQ.cond (s := (.tmp 24)) (b := false) (by kernel_rfl) (by kernel_rfl) (fun q => by cases q) (fun _ => ?_)
      refine XQ.skip (by kernel_rfl) ?_
      show XQ _ _ _ _ _ _ _ _
      refine XQ.seq E0_ok (by kernel_rfl) ?_
      refine XQ.seq E0_ok (by kernel_rfl) ?_
      refine XQ.region (by kernel_rfl) ?_
      refine XR.run E0_ok 1 1 [0, 1, 2, 8] rfl (σ' := [(0, .slice (some ⟨0, 0, none⟩) a.length a.length), (1, .int .i64 b), (2, .slice (some ⟨1, 0, none⟩) c.length c.length), (8, .int .i64 0)]) (h' := [(1, .cells (rowC (encI .i64) c) z1 y1 1), (0, .cells (rowC encP a) z0 y0 2)]) (c' := 2) (by kernel_rfl) ?_
      refine XR.done (by kernel_rfl) ?_
      show XQ _ _ _ _ _ _ _ _
      refine XQ.block (id := 0) (by kernel_rfl) ?_
      refine XQ.loop m (by kernel_rfl) ?_
      obtain ⟨o3, o3_h, h⟩ := bS h
      refine XL.ren (σ' := [(0, .slice (some ⟨0, 0, none⟩) a.length a.length), (1, .int .i64 b), (2, .slice (some ⟨1, 0, none⟩) c.length c.length), (8, .int .i64 0)]) (h' := [(1, .cells (rowC (encI .i64) c) z1 y1 1), (0, .cells (rowC encP a) z0 y0 2)]) (c' := 2) [0, 1] (by decide) rfl ⟨by kernel_rfl, by kernel_rfl, by kernel_rfl, by kernel_rfl, trivial⟩ ⟨⟨_, _, rfl, rfl, .inl ⟨rfl, rowC_scal (encI_ok .i64) _⟩⟩, ⟨_, _, rfl, rfl, .inl ⟨rfl, rowC_scal encP_ok _⟩⟩, trivial⟩ rfl ?_
      cases o3 with
      | r x6_r3 =>
        dsimp only at h
        refine XL.conv (f22_3_ok m m z0 y0 a b z1 y1 c 0 (.r x6_r3) o3_h _ ?_) (by first | rfl | simp)
        have h := Option.some.inj h
        subst h
        exact ⟨fun i q => (by cases q), .int .i64 x6_r3, (by kernel_rfl), rfl⟩
      | x0 =>
        dsimp only at h
        refine XL.conv (f22_3_ok m m z0 y0 a b z1 y1 c 0 (.x0) o3_h _ ?_) (by first | rfl | simp)
        show XQ _ _ _ _ _ _ _ _
        refine XQ.seq E0_ok (by kernel_rfl) ?_
        refine XQ.region (by kernel_rfl) ?_
        refine XR.run E0_ok 1 1 [6] rfl (σ' := [(6, .int .i64 0)]) (h' := [(1, .cells (rowC (encI .i64) c) z1 y1 1), (0, .cells (rowC encP a) z0 y0 2)]) (c' := 2) (by kernel_rfl) ?_
        refine XR.done (by kernel_rfl) ?_
        show XQ _ _ _ _ _ _ _ _
        refine XQ.ret (by kernel_rfl) ?_
        have h := Option.some.inj h
        subst h
        exact ⟨fun i q => (by cases q), .int .i64 0, (by kernel_rfl), rfl⟩

/-! vitola/vitolaref02.Crowd -/
noncomputable def f26_C26 : Code := Proofs.Try.f26.body.getD .skip

def f26 (m : Nat) (a : List (Int × Int)) (b : Int) (c : Int) : Option (Int × Int) :=
  (f24 m a).bind fun r1 =>
    cond (r1 == 0) (
      (f63 m b 0 23).bind fun r2 =>
        cond (!r2) (
          some (0, 1)
        ) (
          (f63 m c 0 23).bind fun r3 =>
            cond ((cond (!r3) 1 r1 : Int) == 0) (
              cond ((cond (decide (b > c)) 7 (cond (!r3) 1 r1) : Int) != 0) (
                some (0, cond (decide (b > c)) 7 (cond (!r3) 1 r1))
              ) (
                (f66 m a b c).bind fun r4 =>
                  some (r4, 0)
              )
            ) (
              cond ((cond (!r3) 1 r1 : Int) != 0) (
                some (0, cond (!r3) 1 r1)
              ) (
                (f66 m a b c).bind fun r5 =>
                  some (r5, 0)
              )
            )
        )
    ) (
      cond (r1 != 0) (
        some (0, r1)
      ) (
        (f66 m a b c).bind fun r6 =>
          some (r6, 0)
      )
    )

theorem f26_ok (m : Nat) (z0 : Nat) (y0 : Nat) (a : List (Int × Int)) (b : Int) (c : Int) (o : Int × Int) (h : f26 m a b c = some o) : KC E0 26 [.slice (some ⟨0, 0, none⟩) a.length a.length, .int .i64 b, .int .i64 c] [(0, .cells (rowC encP a) z0 y0 2)] 1 (fun v _ _ => v = .tuple #[.int .i64 o.1, .int .i64 o.2]) := by
  refine KC.bodyN E0_ok (F := Proofs.Try.f26) (by kernel_rfl) (code := f26_C26) (by kernel_rfl) (nt := 37) (by kernel_rfl) (rs := [.tmp 6, .tmp 7]) (by kernel_rfl) (by kernel_rfl) (σ := [(0, .slice (some ⟨0, 0, none⟩) a.length a.length), (1, .int .i64 b), (2, .int .i64 c)]) (by kernel_rfl) ?_
  unfold f26 at h
  refine XQ.seq E0_ok (by kernel_rfl) ?_
  refine XQ.region (by kernel_rfl) ?_
  refine XR.run E0_ok 1 2 [0, 1, 2] rfl (σ' := [(0, .slice (some ⟨0, 0, none⟩) a.length a.length), (1, .int .i64 b), (2, .int .i64 c)]) (h' := [(0, .cells (rowC encP a) z0 y0 2)]) (c' := 1) (by kernel_rfl) ?_
  refine XR.done (by kernel_rfl) ?_
  show XQ _ _ _ _ _ _ _ _
  refine XQ.seq E0_ok (by kernel_rfl) ?_
  refine XQ.region (by kernel_rfl) ?_
  refine XR.run E0_ok 1 1 [0, 1, 2, 9] rfl (σ' := [(0, .slice (some ⟨0, 0, none⟩) a.length a.length), (1, .int .i64 b), (2, .int .i64 c), (9, .slice (some ⟨0, 0, none⟩) a.length a.length)]) (h' := [(0, .cells (rowC encP a) z0 y0 2)]) (c' := 1) (by kernel_rfl) ?_
  obtain ⟨r1, r1_h, h⟩ := bS h
  refine XR.call E0_ok [0, 1, 2, 10] rfl (K := 24) (args := [.slice (some ⟨0, 0, none⟩) a.length a.length]) (d := (some (path 12 10))) (by kernel_rfl) (KQ.call (KC.quiet E0_ok (args0 := [.slice (some ⟨0, 0, none⟩) a.length a.length]) (h0 := [(0, .cells (rowC encP a) (z0 + ((rowC encP a).length + 1)) y0 2)]) (n := 1) (V := .int .i64 r1) [0] (f24_ok m (z0 + ((rowC encP a).length + 1)) y0 a r1 r1_h) rfl (by rfl) (by decide) rfl (by kernel_rfl) ⟨⟨_, _, rfl, rfl, .inl ⟨rfl, rowC_scal encP_ok _⟩⟩, trivial⟩) rfl) ?_
  rintro _ _ _ ⟨rfl, rfl, rfl⟩
  refine XR.conv (σ' := [(0, .slice (some ⟨0, 0, none⟩) a.length a.length), (1, .int .i64 b), (2, .int .i64 c), (10, .int .i64 r1)]) (h' := [(0, .cells (rowC encP a) z0 y0 2)]) (c' := 1) ?_ (by kernel_rfl)
  refine XR.run E0_ok 1 1 [0, 1, 2, 8] rfl (σ' := [(0, .slice (some ⟨0, 0, none⟩) a.length a.length), (1, .int .i64 b), (2, .int .i64 c), (8, .int .i64 r1)]) (h' := [(0, .cells (rowC encP a) z0 y0 2)]) (c' := 1) (by kernel_rfl) ?_
  refine XR.done (by kernel_rfl) ?_
  show XQ _ _ _ _ _ _ _ _
  refine XQ.seq E0_ok (by kernel_rfl) ?_
  refine XQ.seq E0_ok (by kernel_rfl) ?_
  refine XQ.region (by kernel_rfl) ?_
  refine XR.run E0_ok 1 3 [0, 1, 2, 8, 13] rfl (σ' := [(0, .slice (some ⟨0, 0, none⟩) a.length a.length), (1, .int .i64 b), (2, .int .i64 c), (8, .int .i64 r1), (13, .bool (r1 == 0))]) (h' := [(0, .cells (rowC encP a) z0 y0 2)]) (c' := 1) (by kernel_rfl) ?_
  cases b1 : (r1 == 0 : Bool) with
  | true =>
    have h := cT b1 h
    refine XR.run E0_ok 1 1 [0, 1, 2, 8, 13, 14] rfl (σ' := [(0, .slice (some ⟨0, 0, none⟩) a.length a.length), (1, .int .i64 b), (2, .int .i64 c), (8, .int .i64 r1), (13, .bool true), (14, .int .i64 b)]) (h' := [(0, .cells (rowC encP a) z0 y0 2)]) (c' := 1) (by kernel_rfl) ?_
    obtain ⟨r2, r2_h, h⟩ := bS h
    refine XR.call E0_ok [0, 1, 2, 8, 13, 15] rfl (K := 63) (args := [.int .i64 b, .int .i64 0, .int .i64 23]) (d := (some (path 12 15))) (by kernel_rfl) (KC.of_calls E0_ok (F := Proofs.Try.f63) (v := .bool r2) (by kernel_rfl) rfl rfl (fun w hI => f63_ok m b 0 23 r2 r2_h w hI)) ?_
    rintro _ _ _ ⟨rfl, rfl, rfl⟩
    refine XR.conv (σ' := [(0, .slice (some ⟨0, 0, none⟩) a.length a.length), (1, .int .i64 b), (2, .int .i64 c), (8, .int .i64 r1), (13, .bool true), (15, .bool r2)]) (h' := [(0, .cells (rowC encP a) z0 y0 2)]) (c' := 1) ?_ (by kernel_rfl)
    refine XR.run E0_ok 1 2 [0, 1, 2, 8, 13, 17] rfl (σ' := [(0, .slice (some ⟨0, 0, none⟩) a.length a.length), (1, .int .i64 b), (2, .int .i64 c), (8, .int .i64 r1), (13, .bool true), (17, .bool (!r2))]) (h' := [(0, .cells (rowC encP a) z0 y0 2)]) (c' := 1) (by kernel_rfl) ?_
    cases b2 : (!r2 : Bool) with
    | true =>
      have h := cT b2 h
      refine XR.run E0_ok 1 5 [0, 1, 2, 8, 22] rfl (σ' := [(0, .slice (some ⟨0, 0, none⟩) a.length a.length), (1, .int .i64 b), (2, .int .i64 c), (8, .int .i64 r1), (22, .bool true)]) (h' := [(0, .cells (rowC encP a) z0 y0 2)]) (c' := 1) (by kernel_rfl) ?_
      refine XR.done (by kernel_rfl) ?_
      show XQ _ _ _ _ _ _ _ _
      refine XQ.cond (s := (.tmp 22)) (b := true) (by kernel_rfl) (by kernel_rfl) (fun _ => ?_) (fun q => by cases q)
      refine XQ.region (by kernel_rfl) ?_
      refine XR.run E0_ok 1 1 [0, 1, 2, 8] rfl (σ' := [(0, .slice (some ⟨0, 0, none⟩) a.length a.length), (1, .int .i64 b), (2, .int .i64 c), (8, .int .i64 1)]) (h' := [(0, .cells (rowC encP a) z0 y0 2)]) (c' := 1) (by kernel_rfl) ?_
      refine XR.done (by kernel_rfl) ?_
      show XQ _ _ _ _ _ _ _ _
      refine XQ.seq E0_ok (by kernel_rfl) ?_
      refine XQ.seq E0_ok (by kernel_rfl) ?_
      refine XQ.region (by kernel_rfl) ?_
      refine XR.run E0_ok 1 7 [0, 1, 2, 8, 29] rfl (σ' := [(0, .slice (some ⟨0, 0, none⟩) a.length a.length), (1, .int .i64 b), (2, .int .i64 c), (8, .int .i64 1), (29, .bool false)]) (h' := [(0, .cells (rowC encP a) z0 y0 2)]) (c' := 1) (by kernel_rfl) ?_
      refine XR.done (by kernel_rfl) ?_
      show XQ _ _ _ _ _ _ _ _
      refine XQ.cond (s := (.tmp 29)) (b := false) (by kernel_rfl) (by kernel_rfl) (fun q => by cases q) (fun _ => ?_)
      refine XQ.skip (by kernel_rfl) ?_
      show XQ _ _ _ _ _ _ _ _
      refine XQ.seq E0_ok (by kernel_rfl) ?_
      refine XQ.seq E0_ok (by kernel_rfl) ?_
      refine XQ.region (by kernel_rfl) ?_
      refine XR.run E0_ok 1 2 [0, 1, 2, 8, 31] rfl (σ' := [(0, .slice (some ⟨0, 0, none⟩) a.length a.length), (1, .int .i64 b), (2, .int .i64 c), (8, .int .i64 1), (31, .bool true)]) (h' := [(0, .cells (rowC encP a) z0 y0 2)]) (c' := 1) (by kernel_rfl) ?_
      refine XR.done (by kernel_rfl) ?_
      show XQ _ _ _ _ _ _ _ _
      refine XQ.cond (s := (.tmp 31)) (b := true) (by kernel_rfl) (by kernel_rfl) (fun _ => ?_) (fun q => by cases q)
      refine XQ.seq E0_ok (by kernel_rfl) ?_
      refine XQ.region (by kernel_rfl) ?_
      refine XR.run E0_ok 1 3 [6, 7] rfl (σ' := [(6, .int .i64 0), (7, .int .i64 1)]) (h' := [(0, .cells (rowC encP a) z0 y0 2)]) (c' := 1) (by kernel_rfl) ?_
      refine XR.done (by kernel_rfl) ?_
      show XQ _ _ _ _ _ _ _ _
      refine XQ.ret (by kernel_rfl) ?_
      have h := Option.some.inj h
      subst h
      exact ⟨fun i q => (by cases q), .tuple #[.int .i64 0, .int .i64 1], (by kernel_rfl), rfl⟩
    | false =>
      have h := cF b2 h
      refine XR.run E0_ok 1 1 [0, 1, 2, 8, 13, 17, 18] rfl (σ' := [(0, .slice (some ⟨0, 0, none⟩) a.length a.length), (1, .int .i64 b), (2, .int .i64 c), (8, .int .i64 r1), (13, .bool true), (17, .bool false), (18, .int .i64 c)]) (h' := [(0, .cells (rowC encP a) z0 y0 2)]) (c' := 1) (by kernel_rfl) ?_
      obtain ⟨r3, r3_h, h⟩ := bS h
      refine XR.call E0_ok [0, 1, 2, 8, 13, 17, 19] rfl (K := 63) (args := [.int .i64 c, .int .i64 0, .int .i64 23]) (d := (some (path 12 19))) (by kernel_rfl) (KC.of_calls E0_ok (F := Proofs.Try.f63) (v := .bool r3) (by kernel_rfl) rfl rfl (fun w hI => f63_ok m c 0 23 r3 r3_h w hI)) ?_
      rintro _ _ _ ⟨rfl, rfl, rfl⟩
      refine XR.conv (σ' := [(0, .slice (some ⟨0, 0, none⟩) a.length a.length), (1, .int .i64 b), (2, .int .i64 c), (8, .int .i64 r1), (13, .bool true), (17, .bool false), (19, .bool r3)]) (h' := [(0, .cells (rowC encP a) z0 y0 2)]) (c' := 1) ?_ (by kernel_rfl)
      refine XR.run E0_ok 1 3 [0, 1, 2, 8, 22] rfl (σ' := [(0, .slice (some ⟨0, 0, none⟩) a.length a.length), (1, .int .i64 b), (2, .int .i64 c), (8, .int .i64 r1), (22, .bool (!r3))]) (h' := [(0, .cells (rowC encP a) z0 y0 2)]) (c' := 1) (by kernel_rfl) ?_
      refine XR.done (by kernel_rfl) ?_
      show XQ _ _ _ _ _ _ _ _
      refine XQ.meetC (σ' := [(0, .slice (some ⟨0, 0, none⟩) a.length a.length), (1, .int .i64 b), (2, .int .i64 c), (8, .int .i64 (cond (!r3) 1 r1))]) (h' := [(0, .cells (rowC encP a) z0 y0 2)]) (c' := 1) ?_ ?_
      rotate_left
      · refine XQ.cond (s := (.tmp 22)) (b := !r3) (by kernel_rfl) (by kernel_rfl) (fun b3 => ?_) (fun b3 => ?_)
        · refine XQ.region (by kernel_rfl) ?_
          refine XR.run E0_ok 1 1 [0, 1, 2, 8] rfl (σ' := [(0, .slice (some ⟨0, 0, none⟩) a.length a.length), (1, .int .i64 b), (2, .int .i64 c), (8, .int .i64 1)]) (h' := [(0, .cells (rowC encP a) z0 y0 2)]) (c' := 1) (by kernel_rfl) ?_
          refine XR.done (by kernel_rfl) ?_
          refine ⟨rfl, ?_, ?_⟩
          · try rw [b3]
            exact ⟨by kernel_rfl, by kernel_rfl, by kernel_rfl, by kernel_rfl, trivial⟩
          · try rw [b3]
            kernel_rfl
        · refine XQ.skip (by kernel_rfl) ?_
          refine ⟨rfl, ?_, ?_⟩
          · try rw [b3]
            exact ⟨by kernel_rfl, by kernel_rfl, by kernel_rfl, by kernel_rfl, trivial⟩
          · try rw [b3]
            kernel_rfl
      show XQ _ _ _ _ _ _ _ _
      refine XQ.seq E0_ok (by kernel_rfl) ?_
      refine XQ.seq E0_ok (by kernel_rfl) ?_
      refine XQ.region (by kernel_rfl) ?_
      refine XR.run E0_ok 1 3 [0, 1, 2, 8, 25] rfl (σ' := [(0, .slice (some ⟨0, 0, none⟩) a.length a.length), (1, .int .i64 b), (2, .int .i64 c), (8, .int .i64 (cond (!r3) 1 r1)), (25, .bool ((cond (!r3) 1 r1 : Int) == 0))]) (h' := [(0, .cells (rowC encP a) z0 y0 2)]) (c' := 1) (by kernel_rfl) ?_
      cases b4 : ((cond (!r3) 1 r1 : Int) == 0 : Bool) with
      | true =>
        have h := cT b4 h
        refine XR.run E0_ok 1 4 [0, 1, 2, 8, 29] rfl (σ' := [(0, .slice (some ⟨0, 0, none⟩) a.length a.length), (1, .int .i64 b), (2, .int .i64 c), (8, .int .i64 (cond (!r3) 1 r1)), (29, .bool (decide (b > c)))]) (h' := [(0, .cells (rowC encP a) z0 y0 2)]) (c' := 1) (by kernel_rfl) ?_
        refine XR.done (by kernel_rfl) ?_
        show XQ _ _ _ _ _ _ _ _
        refine XQ.meetC (σ' := [(0, .slice (some ⟨0, 0, none⟩) a.length a.length), (1, .int .i64 b), (2, .int .i64 c), (8, .int .i64 (cond (decide (b > c)) 7 (cond (!r3) 1 r1)))]) (h' := [(0, .cells (rowC encP a) z0 y0 2)]) (c' := 1) ?_ ?_
        rotate_left
        · refine XQ.cond (s := (.tmp 29)) (b := decide (b > c)) (by kernel_rfl) (by kernel_rfl) (fun b5 => ?_) (fun b5 => ?_)
          · refine XQ.region (by kernel_rfl) ?_
            refine XR.run E0_ok 1 1 [0, 1, 2, 8] rfl (σ' := [(0, .slice (some ⟨0, 0, none⟩) a.length a.length), (1, .int .i64 b), (2, .int .i64 c), (8, .int .i64 7)]) (h' := [(0, .cells (rowC encP a) z0 y0 2)]) (c' := 1) (by kernel_rfl) ?_
            refine XR.done (by kernel_rfl) ?_
            refine ⟨rfl, ?_, ?_⟩
            · try rw [b5]
              exact ⟨by kernel_rfl, by kernel_rfl, by kernel_rfl, by kernel_rfl, trivial⟩
            · try rw [b5]
              kernel_rfl
          · refine XQ.skip (by kernel_rfl) ?_
            refine ⟨rfl, ?_, ?_⟩
            · try rw [b5]
              exact ⟨by kernel_rfl, by kernel_rfl, by kernel_rfl, by kernel_rfl, trivial⟩
            · try rw [b5]
              kernel_rfl
        show XQ _ _ _ _ _ _ _ _
        refine XQ.seq E0_ok (by kernel_rfl) ?_
        refine XQ.seq E0_ok (by kernel_rfl) ?_
        refine XQ.region (by kernel_rfl) ?_
        refine XR.run E0_ok 1 2 [0, 1, 2, 8, 31] rfl (σ' := [(0, .slice (some ⟨0, 0, none⟩) a.length a.length), (1, .int .i64 b), (2, .int .i64 c), (8, .int .i64 (cond (decide (b > c)) 7 (cond (!r3) 1 r1))), (31, .bool ((cond (decide (b > c)) 7 (cond (!r3) 1 r1) : Int) != 0))]) (h' := [(0, .cells (rowC encP a) z0 y0 2)]) (c' := 1) (by kernel_rfl) ?_
        refine XR.done (by kernel_rfl) ?_
        show XQ _ _ _ _ _ _ _ _
        cases b6 : ((cond (decide (b > c)) 7 (cond (!r3) 1 r1) : Int) != 0 : Bool) with
        | true =>
          have h := cT b6 h
          refine XQ.cond (s := (.tmp 31)) (b := true) (by kernel_rfl) (by kernel_rfl) (fun _ => ?_) (fun q => by cases q)
          refine XQ.seq E0_ok (by kernel_rfl) ?_
          refine XQ.region (by kernel_rfl) ?_
          refine XR.run E0_ok 1 3 [6, 7] rfl (σ' := [(6, .int .i64 0), (7, .int .i64 (cond (decide (b > c)) 7 (cond (!r3) 1 r1)))]) (h' := [(0, .cells (rowC encP a) z0 y0 2)]) (c' := 1) (by kernel_rfl) ?_
          refine XR.done (by kernel_rfl) ?_
          show XQ _ _ _ _ _ _ _ _
          refine XQ.ret (by kernel_rfl) ?_
          have h := Option.some.inj h
          subst h
          exact ⟨fun i q => (by cases q), .tuple #[.int .i64 0, .int .i64 (cond (decide (b > c)) 7 (cond (!r3) 1 r1))], (by kernel_rfl), rfl⟩
        | false =>
          have h := cF b6 h
          refine XQ.cond (s := (.tmp 31)) (b := false) (by kernel_rfl) (by kernel_rfl) (fun q => by cases q) (fun _ => ?_)
          refine XQ.skip (by kernel_rfl) ?_
          show XQ _ _ _ _ _ _ _ _
          refine XQ.seq E0_ok (by kernel_rfl) ?_
          refine XQ.region (by kernel_rfl) ?_
          refine XR.run E0_ok 1 3 [33, 34, 35] rfl (σ' := [(33, .slice (some ⟨0, 0, none⟩) a.length a.length), (34, .int .i64 b), (35, .int .i64 c)]) (h' := [(0, .cells (rowC encP a) z0 y0 2)]) (c' := 1) (by kernel_rfl) ?_
          obtain ⟨r4, r4_h, h⟩ := bS h
          refine XR.call E0_ok [36] rfl (K := 66) (args := [.slice (some ⟨0, 0, none⟩) a.length a.length, .int .i64 b, .int .i64 c]) (d := (some (path 12 36))) (by kernel_rfl) (KQ.call (KC.quiet E0_ok (args0 := [.slice (some ⟨0, 0, none⟩) a.length a.length, .int .i64 b, .int .i64 c]) (h0 := [(0, .cells (rowC encP a) (z0 + ((rowC encP a).length + 1)) y0 2)]) (n := 1) (V := .int .i64 r4) [0] (f66_ok m (z0 + ((rowC encP a).length + 1)) y0 a b c r4 r4_h) rfl (by rfl) (by decide) rfl (by kernel_rfl) ⟨⟨_, _, rfl, rfl, .inl ⟨rfl, rowC_scal encP_ok _⟩⟩, trivial⟩) rfl) ?_
          rintro _ _ _ ⟨rfl, rfl, rfl⟩
          refine XR.conv (σ' := [(36, .int .i64 r4)]) (h' := [(0, .cells (rowC encP a) z0 y0 2)]) (c' := 1) ?_ (by kernel_rfl)
          refine XR.run E0_ok 1 2 [6, 7] rfl (σ' := [(6, .int .i64 r4), (7, .int .i64 0)]) (h' := [(0, .cells (rowC encP a) z0 y0 2)]) (c' := 1) (by kernel_rfl) ?_
          refine XR.done (by kernel_rfl) ?_
          show XQ _ _ _ _ _ _ _ _
          refine XQ.ret (by kernel_rfl) ?_
          have h := Option.some.inj h
          subst h
          exact ⟨fun i q => (by cases q), .tuple #[.int .i64 r4, .int .i64 0], (by kernel_rfl), rfl⟩
      | false =>
        have h := cF b4 h
        refine XR.run E0_ok 1 4 [0, 1, 2, 8, 29] rfl (σ' := [(0, .slice (some ⟨0, 0, none⟩) a.length a.length), (1, .int .i64 b), (2, .int .i64 c), (8, .int .i64 (cond (!r3) 1 r1)), (29, .bool false)]) (h' := [(0, .cells (rowC encP a) z0 y0 2)]) (c' := 1) (by kernel_rfl) ?_
        refine XR.done (by kernel_rfl) ?_
        show XQ _ _ _ _ _ _ _ _
        refine XQ.cond (s := (.tmp 29)) (b := false) (by kernel_rfl) (by kernel_rfl) (fun q => by cases q) (fun _ => ?_)
        refine XQ.skip (by kernel_rfl) ?_
        show XQ _ _ _ _ _ _ _ _
        refine XQ.seq E0_ok (by kernel_rfl) ?_
        refine XQ.seq E0_ok (by kernel_rfl) ?_
        refine XQ.region (by kernel_rfl) ?_
        refine XR.run E0_ok 1 2 [0, 1, 2, 8, 31] rfl (σ' := [(0, .slice (some ⟨0, 0, none⟩) a.length a.length), (1, .int .i64 b), (2, .int .i64 c), (8, .int .i64 (cond (!r3) 1 r1)), (31, .bool ((cond (!r3) 1 r1 : Int) != 0))]) (h' := [(0, .cells (rowC encP a) z0 y0 2)]) (c' := 1) (by kernel_rfl) ?_
        refine XR.done (by kernel_rfl) ?_
        show XQ _ _ _ _ _ _ _ _
        cases b7 : ((cond (!r3) 1 r1 : Int) != 0 : Bool) with
        | true =>
          have h := cT b7 h
          refine XQ.cond (s := (.tmp 31)) (b := true) (by kernel_rfl) (by kernel_rfl) (fun _ => ?_) (fun q => by cases q)
          refine XQ.seq E0_ok (by kernel_rfl) ?_
          refine XQ.region (by kernel_rfl) ?_
          refine XR.run E0_ok 1 3 [6, 7] rfl (σ' := [(6, .int .i64 0), (7, .int .i64 (cond (!r3) 1 r1))]) (h' := [(0, .cells (rowC encP a) z0 y0 2)]) (c' := 1) (by kernel_rfl) ?_
          refine XR.done (by kernel_rfl) ?_
          show XQ _ _ _ _ _ _ _ _
          refine XQ.ret (by kernel_rfl) ?_
          have h := Option.some.inj h
          subst h
          exact ⟨fun i q => (by cases q), .tuple #[.int .i64 0, .int .i64 (cond (!r3) 1 r1)], (by kernel_rfl), rfl⟩
        | false =>
          have h := cF b7 h
          refine XQ.cond (s := (.tmp 31)) (b := false) (by kernel_rfl) (by kernel_rfl) (fun q => by cases q) (fun _ => ?_)
          refine XQ.skip (by kernel_rfl) ?_
          show XQ _ _ _ _ _ _ _ _
          refine XQ.seq E0_ok (by kernel_rfl) ?_
          refine XQ.region (by kernel_rfl) ?_
          refine XR.run E0_ok 1 3 [33, 34, 35] rfl (σ' := [(33, .slice (some ⟨0, 0, none⟩) a.length a.length), (34, .int .i64 b), (35, .int .i64 c)]) (h' := [(0, .cells (rowC encP a) z0 y0 2)]) (c' := 1) (by kernel_rfl) ?_
          obtain ⟨r5, r5_h, h⟩ := bS h
          refine XR.call E0_ok [36] rfl (K := 66) (args := [.slice (some ⟨0, 0, none⟩) a.length a.length, .int .i64 b, .int .i64 c]) (d := (some (path 12 36))) (by kernel_rfl) (KQ.call (KC.quiet E0_ok (args0 := [.slice (some ⟨0, 0, none⟩) a.length a.length, .int .i64 b, .int .i64 c]) (h0 := [(0, .cells (rowC encP a) (z0 + ((rowC encP a).length + 1)) y0 2)]) (n := 1) (V := .int .i64 r5) [0] (f66_ok m (z0 + ((rowC encP a).length + 1)) y0 a b c r5 r5_h) rfl (by rfl) (by decide) rfl (by kernel_rfl) ⟨⟨_, _, rfl, rfl, .inl ⟨rfl, rowC_scal encP_ok _⟩⟩, trivial⟩) rfl) ?_
          rintro _ _ _ ⟨rfl, rfl, rfl⟩
          refine XR.conv (σ' := [(36, .int .i64 r5)]) (h' := [(0, .cells (rowC encP a) z0 y0 2)]) (c' := 1) ?_ (by kernel_rfl)
          refine XR.run E0_ok 1 2 [6, 7] rfl (σ' := [(6, .int .i64 r5), (7, .int .i64 0)]) (h' := [(0, .cells (rowC encP a) z0 y0 2)]) (c' := 1) (by kernel_rfl) ?_
          refine XR.done (by kernel_rfl) ?_
          show XQ _ _ _ _ _ _ _ _
          refine XQ.ret (by kernel_rfl) ?_
          have h := Option.some.inj h
          subst h
          exact ⟨fun i q => (by cases q), .tuple #[.int .i64 r5, .int .i64 0], (by kernel_rfl), rfl⟩
  | false =>
    have h := cF b1 h
    refine XR.run E0_ok 1 9 [0, 1, 2, 8, 22] rfl (σ' := [(0, .slice (some ⟨0, 0, none⟩) a.length a.length), (1, .int .i64 b), (2, .int .i64 c), (8, .int .i64 r1), (22, .bool false)]) (h' := [(0, .cells (rowC encP a) z0 y0 2)]) (c' := 1) (by kernel_rfl) ?_
    refine XR.done (by kernel_rfl) ?_
    show XQ _ _ _ _ _ _ _ _
    refine XQ.cond (s := (.tmp 22)) (b := false) (by kernel_rfl) (by kernel_rfl) (fun q => by cases q) (fun _ => ?_)
    refine XQ.skip (by kernel_rfl) ?_
    show XQ _ _ _ _ _ _ _ _
    refine XQ.seq E0_ok (by kernel_rfl) ?_
    refine XQ.seq E0_ok (by kernel_rfl) ?_
    refine XQ.region (by kernel_rfl) ?_
    refine XR.run E0_ok 1 3 [0, 1, 2, 8, 25] rfl (σ' := [(0, .slice (some ⟨0, 0, none⟩) a.length a.length), (1, .int .i64 b), (2, .int .i64 c), (8, .int .i64 r1), (25, .bool (r1 == 0))]) (h' := [(0, .cells (rowC encP a) z0 y0 2)]) (c' := 1) (by kernel_rfl) ?_
    rw [b1]
    refine XR.run E0_ok 1 4 [0, 1, 2, 8, 29] rfl (σ' := [(0, .slice (some ⟨0, 0, none⟩) a.length a.length), (1, .int .i64 b), (2, .int .i64 c), (8, .int .i64 r1), (29, .bool false)]) (h' := [(0, .cells (rowC encP a) z0 y0 2)]) (c' := 1) (by kernel_rfl) ?_
    refine XR.done (by kernel_rfl) ?_
    show XQ _ _ _ _ _ _ _ _
    refine XQ.cond (s := (.tmp 29)) (b := false) (by kernel_rfl) (by kernel_rfl) (fun q => by cases q) (fun _ => ?_)
    refine XQ.skip (by kernel_rfl) ?_
    show XQ _ _ _ _ _ _ _ _
    refine XQ.seq E0_ok (by kernel_rfl) ?_
    refine XQ.seq E0_ok (by kernel_rfl) ?_
    refine XQ.region (by kernel_rfl) ?_
    refine XR.run E0_ok 1 2 [0, 1, 2, 8, 31] rfl (σ' := [(0, .slice (some ⟨0, 0, none⟩) a.length a.length), (1, .int .i64 b), (2, .int .i64 c), (8, .int .i64 r1), (31, .bool (r1 != 0))]) (h' := [(0, .cells (rowC encP a) z0 y0 2)]) (c' := 1) (by kernel_rfl) ?_
    refine XR.done (by kernel_rfl) ?_
    show XQ _ _ _ _ _ _ _ _
    cases b8 : (r1 != 0 : Bool) with
    | true =>
      have h := cT b8 h
      refine XQ.cond (s := (.tmp 31)) (b := true) (by kernel_rfl) (by kernel_rfl) (fun _ => ?_) (fun q => by cases q)
      refine XQ.seq E0_ok (by kernel_rfl) ?_
      refine XQ.region (by kernel_rfl) ?_
      refine XR.run E0_ok 1 3 [6, 7] rfl (σ' := [(6, .int .i64 0), (7, .int .i64 r1)]) (h' := [(0, .cells (rowC encP a) z0 y0 2)]) (c' := 1) (by kernel_rfl) ?_
      refine XR.done (by kernel_rfl) ?_
      show XQ _ _ _ _ _ _ _ _
      refine XQ.ret (by kernel_rfl) ?_
      have h := Option.some.inj h
      subst h
      exact ⟨fun i q => (by cases q), .tuple #[.int .i64 0, .int .i64 r1], (by kernel_rfl), rfl⟩
    | false =>
      have h := cF b8 h
      refine XQ.cond (s := (.tmp 31)) (b := false) (by kernel_rfl) (by kernel_rfl) (fun q => by cases q) (fun _ => ?_)
      refine XQ.skip (by kernel_rfl) ?_
      show XQ _ _ _ _ _ _ _ _
      refine XQ.seq E0_ok (by kernel_rfl) ?_
      refine XQ.region (by kernel_rfl) ?_
      refine XR.run E0_ok 1 3 [33, 34, 35] rfl (σ' := [(33, .slice (some ⟨0, 0, none⟩) a.length a.length), (34, .int .i64 b), (35, .int .i64 c)]) (h' := [(0, .cells (rowC encP a) z0 y0 2)]) (c' := 1) (by kernel_rfl) ?_
      obtain ⟨r6, r6_h, h⟩ := bS h
      refine XR.call E0_ok [36] rfl (K := 66) (args := [.slice (some ⟨0, 0, none⟩) a.length a.length, .int .i64 b, .int .i64 c]) (d := (some (path 12 36))) (by kernel_rfl) (KQ.call (KC.quiet E0_ok (args0 := [.slice (some ⟨0, 0, none⟩) a.length a.length, .int .i64 b, .int .i64 c]) (h0 := [(0, .cells (rowC encP a) (z0 + ((rowC encP a).length + 1)) y0 2)]) (n := 1) (V := .int .i64 r6) [0] (f66_ok m (z0 + ((rowC encP a).length + 1)) y0 a b c r6 r6_h) rfl (by rfl) (by decide) rfl (by kernel_rfl) ⟨⟨_, _, rfl, rfl, .inl ⟨rfl, rowC_scal encP_ok _⟩⟩, trivial⟩) rfl) ?_
      rintro _ _ _ ⟨rfl, rfl, rfl⟩
      refine XR.conv (σ' := [(36, .int .i64 r6)]) (h' := [(0, .cells (rowC encP a) z0 y0 2)]) (c' := 1) ?_ (by kernel_rfl)
      refine XR.run E0_ok 1 2 [6, 7] rfl (σ' := [(6, .int .i64 r6), (7, .int .i64 0)]) (h' := [(0, .cells (rowC encP a) z0 y0 2)]) (c' := 1) (by kernel_rfl) ?_
      refine XR.done (by kernel_rfl) ?_
      show XQ _ _ _ _ _ _ _ _
      refine XQ.ret (by kernel_rfl) ?_
      have h := Option.some.inj h
      subst h
      exact ⟨fun i q => (by cases q), .tuple #[.int .i64 r6, .int .i64 0], (by kernel_rfl), rfl⟩

/-! vitola/vitolaref02.Why -/
noncomputable def f28_C28 : Code := Proofs.Try.f28.body.getD .skip

def f28 (m : Nat) (a : List (Int × Int)) (b : Int) : Option (Int × Int × Int) :=
  (f59 m a b).bind fun r1 =>
    cond (r1 == 0) (
      (f60 m a b).bind fun r2 =>
        cond ((cond (r2) 13 r1 : Int) != 0) (
          some (0, 0, cond (r2) 13 r1)
        ) (
          (f69 m a b).bind fun r3 =>
            some (r3.1, r3.2.1, 0)
        )
    ) (
      cond (r1 != 0) (
        some (0, 0, r1)
      ) (
        (f69 m a b).bind fun r4 =>
          some (r4.1, r4.2.1, 0)
      )
    )

theorem f28_ok (m : Nat) (z0 : Nat) (y0 : Nat) (a : List (Int × Int)) (b : Int) (o : Int × Int × Int) (h : f28 m a b = some o) : KC E0 28 [.slice (some ⟨0, 0, none⟩) a.length a.length, .int .i64 b] [(0, .cells (rowC encP a) z0 y0 2)] 1 (fun v _ _ => v = .tuple #[.int .i64 o.1, .int .i64 o.2.1, .int .i64 o.2.2]) := by
  refine KC.bodyN E0_ok (F := Proofs.Try.f28) (by kernel_rfl) (code := f28_C28) (by kernel_rfl) (nt := 33) (by kernel_rfl) (rs := [.tmp 4, .tmp 5, .tmp 6]) (by kernel_rfl) (by kernel_rfl) (σ := [(0, .slice (some ⟨0, 0, none⟩) a.length a.length), (1, .int .i64 b)]) (by kernel_rfl) ?_
  unfold f28 at h
  refine XQ.seq E0_ok (by kernel_rfl) ?_
  refine XQ.region (by kernel_rfl) ?_
  refine XR.run E0_ok 1 3 [0, 1] rfl (σ' := [(0, .slice (some ⟨0, 0, none⟩) a.length a.length), (1, .int .i64 b)]) (h' := [(0, .cells (rowC encP a) z0 y0 2)]) (c' := 1) (by kernel_rfl) ?_
  refine XR.done (by kernel_rfl) ?_
  show XQ _ _ _ _ _ _ _ _
  refine XQ.seq E0_ok (by kernel_rfl) ?_
  refine XQ.region (by kernel_rfl) ?_
  refine XR.run E0_ok 1 2 [0, 1, 11, 12] rfl (σ' := [(0, .slice (some ⟨0, 0, none⟩) a.length a.length), (1, .int .i64 b), (11, .slice (some ⟨0, 0, none⟩) a.length a.length), (12, .int .i64 b)]) (h' := [(0, .cells (rowC encP a) z0 y0 2)]) (c' := 1) (by kernel_rfl) ?_
  obtain ⟨r1, r1_h, h⟩ := bS h
  refine XR.call E0_ok [0, 1, 13] rfl (K := 59) (args := [.slice (some ⟨0, 0, none⟩) a.length a.length, .int .i64 b]) (d := (some (path 12 13))) (by kernel_rfl) (KQ.call (KC.quiet E0_ok (args0 := [.slice (some ⟨0, 0, none⟩) a.length a.length, .int .i64 b]) (h0 := [(0, .cells (rowC encP a) (z0 + ((rowC encP a).length + 1)) y0 2)]) (n := 1) (V := .int .i64 r1) [0] (f59_ok m (z0 + ((rowC encP a).length + 1)) y0 a b r1 r1_h) rfl (by rfl) (by decide) rfl (by kernel_rfl) ⟨⟨_, _, rfl, rfl, .inl ⟨rfl, rowC_scal encP_ok _⟩⟩, trivial⟩) rfl) ?_
  rintro _ _ _ ⟨rfl, rfl, rfl⟩
  refine XR.conv (σ' := [(0, .slice (some ⟨0, 0, none⟩) a.length a.length), (1, .int .i64 b), (13, .int .i64 r1)]) (h' := [(0, .cells (rowC encP a) z0 y0 2)]) (c' := 1) ?_ (by kernel_rfl)
  refine XR.run E0_ok 1 1 [0, 1, 7] rfl (σ' := [(0, .slice (some ⟨0, 0, none⟩) a.length a.length), (1, .int .i64 b), (7, .int .i64 r1)]) (h' := [(0, .cells (rowC encP a) z0 y0 2)]) (c' := 1) (by kernel_rfl) ?_
  refine XR.done (by kernel_rfl) ?_
  show XQ _ _ _ _ _ _ _ _
  refine XQ.seq E0_ok (by kernel_rfl) ?_
  refine XQ.seq E0_ok (by kernel_rfl) ?_
  refine XQ.region (by kernel_rfl) ?_
  refine XR.run E0_ok 1 3 [0, 1, 7, 16] rfl (σ' := [(0, .slice (some ⟨0, 0, none⟩) a.length a.length), (1, .int .i64 b), (7, .int .i64 r1), (16, .bool (r1 == 0))]) (h' := [(0, .cells (rowC encP a) z0 y0 2)]) (c' := 1) (by kernel_rfl) ?_
  cases b1 : (r1 == 0 : Bool) with
  | true =>
    have h := cT b1 h
    refine XR.run E0_ok 1 2 [0, 1, 7, 16, 17, 18] rfl (σ' := [(0, .slice (some ⟨0, 0, none⟩) a.length a.length), (1, .int .i64 b), (7, .int .i64 r1), (16, .bool true), (17, .slice (some ⟨0, 0, none⟩) a.length a.length), (18, .int .i64 b)]) (h' := [(0, .cells (rowC encP a) z0 y0 2)]) (c' := 1) (by kernel_rfl) ?_
    obtain ⟨r2, r2_h, h⟩ := bS h
    refine XR.call E0_ok [0, 1, 7, 16, 19] rfl (K := 60) (args := [.slice (some ⟨0, 0, none⟩) a.length a.length, .int .i64 b]) (d := (some (path 12 19))) (by kernel_rfl) (KQ.call (KC.quiet E0_ok (args0 := [.slice (some ⟨0, 0, none⟩) a.length a.length, .int .i64 b]) (h0 := [(0, .cells (rowC encP a) (z0 + ((rowC encP a).length + 1)) y0 2)]) (n := 1) (V := .bool r2) [0] (f60_ok m (z0 + ((rowC encP a).length + 1)) y0 a b r2 r2_h) rfl (by rfl) (by decide) rfl (by kernel_rfl) ⟨⟨_, _, rfl, rfl, .inl ⟨rfl, rowC_scal encP_ok _⟩⟩, trivial⟩) rfl) ?_
    rintro _ _ _ ⟨rfl, rfl, rfl⟩
    refine XR.conv (σ' := [(0, .slice (some ⟨0, 0, none⟩) a.length a.length), (1, .int .i64 b), (7, .int .i64 r1), (16, .bool true), (19, .bool r2)]) (h' := [(0, .cells (rowC encP a) z0 y0 2)]) (c' := 1) ?_ (by kernel_rfl)
    refine XR.run E0_ok 1 1 [0, 1, 7, 20] rfl (σ' := [(0, .slice (some ⟨0, 0, none⟩) a.length a.length), (1, .int .i64 b), (7, .int .i64 r1), (20, .bool r2)]) (h' := [(0, .cells (rowC encP a) z0 y0 2)]) (c' := 1) (by kernel_rfl) ?_
    refine XR.done (by kernel_rfl) ?_
    show XQ _ _ _ _ _ _ _ _
    refine XQ.meetC (σ' := [(0, .slice (some ⟨0, 0, none⟩) a.length a.length), (1, .int .i64 b), (7, .int .i64 (cond (r2) 13 r1))]) (h' := [(0, .cells (rowC encP a) z0 y0 2)]) (c' := 1) ?_ ?_
    rotate_left
    · refine XQ.cond (s := (.tmp 20)) (b := r2) (by kernel_rfl) (by kernel_rfl) (fun b2 => ?_) (fun b2 => ?_)
      · refine XQ.region (by kernel_rfl) ?_
        refine XR.run E0_ok 1 1 [0, 1, 7] rfl (σ' := [(0, .slice (some ⟨0, 0, none⟩) a.length a.length), (1, .int .i64 b), (7, .int .i64 13)]) (h' := [(0, .cells (rowC encP a) z0 y0 2)]) (c' := 1) (by kernel_rfl) ?_
        refine XR.done (by kernel_rfl) ?_
        refine ⟨rfl, ?_, ?_⟩
        · try rw [b2]
          exact ⟨by kernel_rfl, by kernel_rfl, by kernel_rfl, trivial⟩
        · try rw [b2]
          kernel_rfl
      · refine XQ.skip (by kernel_rfl) ?_
        refine ⟨rfl, ?_, ?_⟩
        · try rw [b2]
          exact ⟨by kernel_rfl, by kernel_rfl, by kernel_rfl, trivial⟩
        · try rw [b2]
          kernel_rfl
    show XQ _ _ _ _ _ _ _ _
    refine XQ.seq E0_ok (by kernel_rfl) ?_
    refine XQ.seq E0_ok (by kernel_rfl) ?_
    refine XQ.region (by kernel_rfl) ?_
    refine XR.run E0_ok 1 2 [0, 1, 7, 22] rfl (σ' := [(0, .slice (some ⟨0, 0, none⟩) a.length a.length), (1, .int .i64 b), (7, .int .i64 (cond (r2) 13 r1)), (22, .bool ((cond (r2) 13 r1 : Int) != 0))]) (h' := [(0, .cells (rowC encP a) z0 y0 2)]) (c' := 1) (by kernel_rfl) ?_
    refine XR.done (by kernel_rfl) ?_
    show XQ _ _ _ _ _ _ _ _
    cases b3 : ((cond (r2) 13 r1 : Int) != 0 : Bool) with
    | true =>
      have h := cT b3 h
      refine XQ.cond (s := (.tmp 22)) (b := true) (by kernel_rfl) (by kernel_rfl) (fun _ => ?_) (fun q => by cases q)
      refine XQ.seq E0_ok (by kernel_rfl) ?_
      refine XQ.region (by kernel_rfl) ?_
      refine XR.run E0_ok 1 4 [4, 5, 6] rfl (σ' := [(4, .int .i64 0), (5, .int .i64 0), (6, .int .i64 (cond (r2) 13 r1))]) (h' := [(0, .cells (rowC encP a) z0 y0 2)]) (c' := 1) (by kernel_rfl) ?_
      refine XR.done (by kernel_rfl) ?_
      show XQ _ _ _ _ _ _ _ _
      refine XQ.ret (by kernel_rfl) ?_
      have h := Option.some.inj h
      subst h
      exact ⟨fun i q => (by cases q), .tuple #[.int .i64 0, .int .i64 0, .int .i64 (cond (r2) 13 r1)], (by kernel_rfl), rfl⟩
    | false =>
      have h := cF b3 h
      refine XQ.cond (s := (.tmp 22)) (b := false) (by kernel_rfl) (by kernel_rfl) (fun q => by cases q) (fun _ => ?_)
      refine XQ.skip (by kernel_rfl) ?_
      show XQ _ _ _ _ _ _ _ _
      refine XQ.seq E0_ok (by kernel_rfl) ?_
      refine XQ.region (by kernel_rfl) ?_
      refine XR.run E0_ok 1 2 [25, 26] rfl (σ' := [(25, .slice (some ⟨0, 0, none⟩) a.length a.length), (26, .int .i64 b)]) (h' := [(0, .cells (rowC encP a) z0 y0 2)]) (c' := 1) (by kernel_rfl) ?_
      obtain ⟨r3, r3_h, h⟩ := bS h
      refine XR.call E0_ok [27] rfl (K := 69) (args := [.slice (some ⟨0, 0, none⟩) a.length a.length, .int .i64 b]) (d := (some (path 12 27))) (by kernel_rfl) (KQ.call (KC.quiet E0_ok (args0 := [.slice (some ⟨0, 0, none⟩) a.length a.length, .int .i64 b]) (h0 := [(0, .cells (rowC encP a) (z0 + ((rowC encP a).length + 1)) y0 2)]) (n := 1) (V := .tuple #[.int .i64 r3.1, .int .i64 r3.2.1, .bool r3.2.2]) [0] (f69_ok m (z0 + ((rowC encP a).length + 1)) y0 a b r3 r3_h) rfl (by rfl) (by decide) rfl (by kernel_rfl) ⟨⟨_, _, rfl, rfl, .inl ⟨rfl, rowC_scal encP_ok _⟩⟩, trivial⟩) rfl) ?_
      rintro _ _ _ ⟨rfl, rfl, rfl⟩
      refine XR.conv (σ' := [(27, .tuple #[.int .i64 r3.1, .int .i64 r3.2.1, .bool r3.2.2])]) (h' := [(0, .cells (rowC encP a) z0 y0 2)]) (c' := 1) ?_ (by kernel_rfl)
      refine XR.run E0_ok 1 7 [8, 9] rfl (σ' := [(8, .int .i64 r3.1), (9, .int .i64 r3.2.1)]) (h' := [(0, .cells (rowC encP a) z0 y0 2)]) (c' := 1) (by kernel_rfl) ?_
      refine XR.done (by kernel_rfl) ?_
      show XQ _ _ _ _ _ _ _ _
      refine XQ.seq E0_ok (by kernel_rfl) ?_
      refine XQ.region (by kernel_rfl) ?_
      refine XR.run E0_ok 1 5 [4, 5, 6] rfl (σ' := [(4, .int .i64 r3.1), (5, .int .i64 r3.2.1), (6, .int .i64 0)]) (h' := [(0, .cells (rowC encP a) z0 y0 2)]) (c' := 1) (by kernel_rfl) ?_
      refine XR.done (by kernel_rfl) ?_
      show XQ _ _ _ _ _ _ _ _
      refine XQ.ret (by kernel_rfl) ?_
      have h := Option.some.inj h
      subst h
      exact ⟨fun i q => (by cases q), .tuple #[.int .i64 r3.1, .int .i64 r3.2.1, .int .i64 0], (by kernel_rfl), rfl⟩
  | false =>
    have h := cF b1 h
    refine XR.run E0_ok 1 4 [0, 1, 7, 20] rfl (σ' := [(0, .slice (some ⟨0, 0, none⟩) a.length a.length), (1, .int .i64 b), (7, .int .i64 r1), (20, .bool false)]) (h' := [(0, .cells (rowC encP a) z0 y0 2)]) (c' := 1) (by kernel_rfl) ?_
    refine XR.done (by kernel_rfl) ?_
    show XQ _ _ _ _ _ _ _ _
    refine XQ.cond (s := (.tmp 20)) (b := false) (by kernel_rfl) (by kernel_rfl) (fun q => by cases q) (fun _ => ?_)
    refine XQ.skip (by kernel_rfl) ?_
    show XQ _ _ _ _ _ _ _ _
    refine XQ.seq E0_ok (by kernel_rfl) ?_
    refine XQ.seq E0_ok (by kernel_rfl) ?_
    refine XQ.region (by kernel_rfl) ?_
    refine XR.run E0_ok 1 2 [0, 1, 7, 22] rfl (σ' := [(0, .slice (some ⟨0, 0, none⟩) a.length a.length), (1, .int .i64 b), (7, .int .i64 r1), (22, .bool (r1 != 0))]) (h' := [(0, .cells (rowC encP a) z0 y0 2)]) (c' := 1) (by kernel_rfl) ?_
    refine XR.done (by kernel_rfl) ?_
    show XQ _ _ _ _ _ _ _ _
    cases b4 : (r1 != 0 : Bool) with
    | true =>
      have h := cT b4 h
      refine XQ.cond (s := (.tmp 22)) (b := true) (by kernel_rfl) (by kernel_rfl) (fun _ => ?_) (fun q => by cases q)
      refine XQ.seq E0_ok (by kernel_rfl) ?_
      refine XQ.region (by kernel_rfl) ?_
      refine XR.run E0_ok 1 4 [4, 5, 6] rfl (σ' := [(4, .int .i64 0), (5, .int .i64 0), (6, .int .i64 r1)]) (h' := [(0, .cells (rowC encP a) z0 y0 2)]) (c' := 1) (by kernel_rfl) ?_
      refine XR.done (by kernel_rfl) ?_
      show XQ _ _ _ _ _ _ _ _
      refine XQ.ret (by kernel_rfl) ?_
      have h := Option.some.inj h
      subst h
      exact ⟨fun i q => (by cases q), .tuple #[.int .i64 0, .int .i64 0, .int .i64 r1], (by kernel_rfl), rfl⟩
    | false =>
      have h := cF b4 h
      refine XQ.cond (s := (.tmp 22)) (b := false) (by kernel_rfl) (by kernel_rfl) (fun q => by cases q) (fun _ => ?_)
      refine XQ.skip (by kernel_rfl) ?_
      show XQ _ _ _ _ _ _ _ _
      refine XQ.seq E0_ok (by kernel_rfl) ?_
      refine XQ.region (by kernel_rfl) ?_
      refine XR.run E0_ok 1 2 [25, 26] rfl (σ' := [(25, .slice (some ⟨0, 0, none⟩) a.length a.length), (26, .int .i64 b)]) (h' := [(0, .cells (rowC encP a) z0 y0 2)]) (c' := 1) (by kernel_rfl) ?_
      obtain ⟨r4, r4_h, h⟩ := bS h
      refine XR.call E0_ok [27] rfl (K := 69) (args := [.slice (some ⟨0, 0, none⟩) a.length a.length, .int .i64 b]) (d := (some (path 12 27))) (by kernel_rfl) (KQ.call (KC.quiet E0_ok (args0 := [.slice (some ⟨0, 0, none⟩) a.length a.length, .int .i64 b]) (h0 := [(0, .cells (rowC encP a) (z0 + ((rowC encP a).length + 1)) y0 2)]) (n := 1) (V := .tuple #[.int .i64 r4.1, .int .i64 r4.2.1, .bool r4.2.2]) [0] (f69_ok m (z0 + ((rowC encP a).length + 1)) y0 a b r4 r4_h) rfl (by rfl) (by decide) rfl (by kernel_rfl) ⟨⟨_, _, rfl, rfl, .inl ⟨rfl, rowC_scal encP_ok _⟩⟩, trivial⟩) rfl) ?_
      rintro _ _ _ ⟨rfl, rfl, rfl⟩
      refine XR.conv (σ' := [(27, .tuple #[.int .i64 r4.1, .int .i64 r4.2.1, .bool r4.2.2])]) (h' := [(0, .cells (rowC encP a) z0 y0 2)]) (c' := 1) ?_ (by kernel_rfl)
      refine XR.run E0_ok 1 7 [8, 9] rfl (σ' := [(8, .int .i64 r4.1), (9, .int .i64 r4.2.1)]) (h' := [(0, .cells (rowC encP a) z0 y0 2)]) (c' := 1) (by kernel_rfl) ?_
      refine XR.done (by kernel_rfl) ?_
      show XQ _ _ _ _ _ _ _ _
      refine XQ.seq E0_ok (by kernel_rfl) ?_
      refine XQ.region (by kernel_rfl) ?_
      refine XR.run E0_ok 1 5 [4, 5, 6] rfl (σ' := [(4, .int .i64 r4.1), (5, .int .i64 r4.2.1), (6, .int .i64 0)]) (h' := [(0, .cells (rowC encP a) z0 y0 2)]) (c' := 1) (by kernel_rfl) ?_
      refine XR.done (by kernel_rfl) ?_
      show XQ _ _ _ _ _ _ _ _
      refine XQ.ret (by kernel_rfl) ?_
      have h := Option.some.inj h
      subst h
      exact ⟨fun i q => (by cases q), .tuple #[.int .i64 r4.1, .int .i64 r4.2.1, .int .i64 0], (by kernel_rfl), rfl⟩

/-! vitola/vitolaref02.Fewest -/
noncomputable def f30_C30 : Code := Proofs.Try.f30.body.getD .skip
noncomputable def f30_L1 : Code := lft (lft (lft (rgt (rgt (rgt (rgt f30_C30))))))

def f30_1 (m : Nat) : Nat → List (Int × Int) → Int → Option Int
  | 0, _, _ => none
  | fuel + 1, a, x5_1 =>
    (f60 m a x5_1).bind fun r4 =>
      cond (!r4) (
        f30_1 m fuel a (w64 (x5_1 + 1))
      ) (
        some (x5_1)
      )

theorem f30_1_ok (m : Nat) : ∀ (fuel : Nat) (z0 : Nat) (y0 : Nat) (a : List (Int × Int)) (x5_1 : Int) (o : Int), f30_1 m fuel a x5_1 = some o → ∀ Q : QP, Q (.exit 0) [(5, .int .i64 o)] [(0, .cells (rowC encP a) z0 y0 2)] 1 → XL E0 18 1 fuel f30_L1 [(0, .slice (some ⟨0, 0, none⟩) a.length a.length), (5, .int .i64 x5_1)] [(0, .cells (rowC encP a) z0 y0 2)] 1 Q
  | 0, z0, y0, a, x5_1, o, h, Q, hQ => by cases h
  | fuel + 1, z0, y0, a, x5_1, o, h, Q, hQ => by
    unfold f30_1 at h
    refine XL.succ E0_ok ?_
    refine XQ.seq E0_ok (by kernel_rfl) ?_
    refine XQ.seq E0_ok (by kernel_rfl) ?_
    refine XQ.region (by kernel_rfl) ?_
    refine XR.run E0_ok 1 2 [0, 5, 11, 12] rfl (σ' := [(0, .slice (some ⟨0, 0, none⟩) a.length a.length), (5, .int .i64 x5_1), (11, .slice (some ⟨0, 0, none⟩) a.length a.length), (12, .int .i64 x5_1)]) (h' := [(0, .cells (rowC encP a) z0 y0 2)]) (c' := 1) (by kernel_rfl) ?_
    obtain ⟨r4, r4_h, h⟩ := bS h
    refine XR.call E0_ok [0, 5, 13] rfl (K := 60) (args := [.slice (some ⟨0, 0, none⟩) a.length a.length, .int .i64 x5_1]) (d := (some (path 12 13))) (by kernel_rfl) (KQ.call (KC.quiet E0_ok (args0 := [.slice (some ⟨0, 0, none⟩) a.length a.length, .int .i64 x5_1]) (h0 := [(0, .cells (rowC encP a) (z0 + ((rowC encP a).length + 1)) y0 2)]) (n := 1) (V := .bool r4) [0] (f60_ok m (z0 + ((rowC encP a).length + 1)) y0 a x5_1 r4 r4_h) rfl (by rfl) (by decide) rfl (by kernel_rfl) ⟨⟨_, _, rfl, rfl, .inl ⟨rfl, rowC_scal encP_ok _⟩⟩, trivial⟩) rfl) ?_
    rintro _ _ _ ⟨rfl, rfl, rfl⟩
    refine XR.conv (σ' := [(0, .slice (some ⟨0, 0, none⟩) a.length a.length), (5, .int .i64 x5_1), (13, .bool r4)]) (h' := [(0, .cells (rowC encP a) z0 y0 2)]) (c' := 1) ?_ (by kernel_rfl)
    refine XR.run E0_ok 1 1 [0, 5, 14] rfl (σ' := [(0, .slice (some ⟨0, 0, none⟩) a.length a.length), (5, .int .i64 x5_1), (14, .bool (!r4))]) (h' := [(0, .cells (rowC encP a) z0 y0 2)]) (c' := 1) (by kernel_rfl) ?_
    refine XR.done (by kernel_rfl) ?_
    show XQ _ _ _ _ _ _ _ _
    cases b1 : (!r4 : Bool) with
    | true =>
      have h := cT b1 h
      refine XQ.cond (s := (.tmp 14)) (b := true) (by kernel_rfl) (by kernel_rfl) (fun _ => ?_) (fun q => by cases q)
      refine XQ.skip (by kernel_rfl) ?_
      show XQ _ _ _ _ _ _ _ _
      refine XQ.block (id := 1) (by kernel_rfl) ?_
      refine XQ.region (by kernel_rfl) ?_
      refine XR.run E0_ok 1 3 [0, 5] rfl (σ' := [(0, .slice (some ⟨0, 0, none⟩) a.length a.length), (5, .int .i64 (w64 (x5_1 + 1)))]) (h' := [(0, .cells (rowC encP a) z0 y0 2)]) (c' := 1) (by kernel_rfl) ?_
      refine XR.done (by kernel_rfl) ?_
      show XL _ _ _ _ _ _ _ _ _
      refine XL.ren (σ' := [(0, .slice (some ⟨0, 0, none⟩) a.length a.length), (5, .int .i64 (w64 (x5_1 + 1)))]) (h' := [(0, .cells (rowC encP a) z0 y0 2)]) (c' := 1) [0] (by decide) rfl ⟨by kernel_rfl, by kernel_rfl, trivial⟩ ⟨⟨_, _, rfl, rfl, .inl ⟨rfl, rowC_scal encP_ok _⟩⟩, trivial⟩ rfl ?_
      refine XL.conv (f30_1_ok m fuel z0 y0 a (w64 (x5_1 + 1)) o h Q hQ) (by first | rfl | simp)
    | false =>
      have h := cF b1 h
      refine XQ.cond (s := (.tmp 14)) (b := false) (by kernel_rfl) (by kernel_rfl) (fun q => by cases q) (fun _ => ?_)
      refine XQ.ren (σ' := [(5, .int .i64 x5_1)]) (h' := [(0, .cells (rowC encP a) z0 y0 2)]) (c' := 1) [0] (by decide) rfl ⟨by kernel_rfl, trivial⟩ ⟨⟨_, _, rfl, rfl, .inl ⟨rfl, rowC_scal encP_ok _⟩⟩, trivial⟩ rfl ?_
      refine XQ.exit (i := 0) (by kernel_rfl) ?_
      cases h
      exact hQ

def f30 (m : Nat) (a : List (Int × Int)) : Option (Int × Int) :=
  (f24 m a).bind fun r1 =>
    cond (r1 != 0) (
      some (0, r1)
    ) (
      (f30_1 m m a 0).bind fun o1 =>
        some (o1, 0)
    )

theorem f30_ok (m : Nat) (z0 : Nat) (y0 : Nat) (a : List (Int × Int)) (o : Int × Int) (h : f30 m a = some o) : KC E0 30 [.slice (some ⟨0, 0, none⟩) a.length a.length] [(0, .cells (rowC encP a) z0 y0 2)] 1 (fun v _ _ => v = .tuple #[.int .i64 o.1, .int .i64 o.2]) := by
  refine KC.bodyN E0_ok (F := Proofs.Try.f30) (by kernel_rfl) (code := f30_C30) (by kernel_rfl) (nt := 18) (by kernel_rfl) (rs := [.tmp 2, .tmp 3]) (by kernel_rfl) (by kernel_rfl) (σ := [(0, .slice (some ⟨0, 0, none⟩) a.length a.length)]) (by kernel_rfl) ?_
  unfold f30 at h
  refine XQ.seq E0_ok (by kernel_rfl) ?_
  refine XQ.region (by kernel_rfl) ?_
  refine XR.run E0_ok 1 2 [0] rfl (σ' := [(0, .slice (some ⟨0, 0, none⟩) a.length a.length)]) (h' := [(0, .cells (rowC encP a) z0 y0 2)]) (c' := 1) (by kernel_rfl) ?_
  refine XR.done (by kernel_rfl) ?_
  show XQ _ _ _ _ _ _ _ _
  refine XQ.seq E0_ok (by kernel_rfl) ?_
  refine XQ.region (by kernel_rfl) ?_
  refine XR.run E0_ok 1 1 [0, 6] rfl (σ' := [(0, .slice (some ⟨0, 0, none⟩) a.length a.length), (6, .slice (some ⟨0, 0, none⟩) a.length a.length)]) (h' := [(0, .cells (rowC encP a) z0 y0 2)]) (c' := 1) (by kernel_rfl) ?_
  obtain ⟨r1, r1_h, h⟩ := bS h
  refine XR.call E0_ok [0, 7] rfl (K := 24) (args := [.slice (some ⟨0, 0, none⟩) a.length a.length]) (d := (some (path 12 7))) (by kernel_rfl) (KQ.call (KC.quiet E0_ok (args0 := [.slice (some ⟨0, 0, none⟩) a.length a.length]) (h0 := [(0, .cells (rowC encP a) (z0 + ((rowC encP a).length + 1)) y0 2)]) (n := 1) (V := .int .i64 r1) [0] (f24_ok m (z0 + ((rowC encP a).length + 1)) y0 a r1 r1_h) rfl (by rfl) (by decide) rfl (by kernel_rfl) ⟨⟨_, _, rfl, rfl, .inl ⟨rfl, rowC_scal encP_ok _⟩⟩, trivial⟩) rfl) ?_
  rintro _ _ _ ⟨rfl, rfl, rfl⟩
  refine XR.conv (σ' := [(0, .slice (some ⟨0, 0, none⟩) a.length a.length), (7, .int .i64 r1)]) (h' := [(0, .cells (rowC encP a) z0 y0 2)]) (c' := 1) ?_ (by kernel_rfl)
  refine XR.run E0_ok 1 1 [0, 4] rfl (σ' := [(0, .slice (some ⟨0, 0, none⟩) a.length a.length), (4, .int .i64 r1)]) (h' := [(0, .cells (rowC encP a) z0 y0 2)]) (c' := 1) (by kernel_rfl) ?_
  refine XR.done (by kernel_rfl) ?_
  show XQ _ _ _ _ _ _ _ _
  refine XQ.seq E0_ok (by kernel_rfl) ?_
  refine XQ.seq E0_ok (by kernel_rfl) ?_
  refine XQ.region (by kernel_rfl) ?_
  refine XR.run E0_ok 1 2 [0, 4, 9] rfl (σ' := [(0, .slice (some ⟨0, 0, none⟩) a.length a.length), (4, .int .i64 r1), (9, .bool (r1 != 0))]) (h' := [(0, .cells (rowC encP a) z0 y0 2)]) (c' := 1) (by kernel_rfl) ?_
  refine XR.done (by kernel_rfl) ?_
  show XQ _ _ _ _ _ _ _ _
  cases b1 : (r1 != 0 : Bool) with
  | true =>
    have h := cT b1 h
    refine XQ.cond (s := (.tmp 9)) (b := true) (by kernel_rfl) (by kernel_rfl) (fun _ => ?_) (fun q => by cases q)
    refine XQ.seq E0_ok (by kernel_rfl) ?_
    refine XQ.region (by kernel_rfl) ?_
    refine XR.run E0_ok 1 3 [2, 3] rfl (σ' := [(2, .int .i64 0), (3, .int .i64 r1)]) (h' := [(0, .cells (rowC encP a) z0 y0 2)]) (c' := 1) (by kernel_rfl) ?_
    refine XR.done (by kernel_rfl) ?_
    show XQ _ _ _ _ _ _ _ _
    refine XQ.ret (by kernel_rfl) ?_
    have h := Option.some.inj h
    subst h
    exact ⟨fun i q => (by cases q), .tuple #[.int .i64 0, .int .i64 r1], (by kernel_rfl), rfl⟩
  | false =>
    have h := cF b1 h
    refine XQ.cond (s := (.tmp 9)) (b := false) (by kernel_rfl) (by kernel_rfl) (fun q => by cases q) (fun _ => ?_)
    refine XQ.skip (by kernel_rfl) ?_
    show XQ _ _ _ _ _ _ _ _
    refine XQ.seq E0_ok (by kernel_rfl) ?_
    refine XQ.region (by kernel_rfl) ?_
    refine XR.run E0_ok 1 1 [0, 5] rfl (σ' := [(0, .slice (some ⟨0, 0, none⟩) a.length a.length), (5, .int .i64 0)]) (h' := [(0, .cells (rowC encP a) z0 y0 2)]) (c' := 1) (by kernel_rfl) ?_
    refine XR.done (by kernel_rfl) ?_
    show XQ _ _ _ _ _ _ _ _
    refine XQ.seq E0_ok (by kernel_rfl) ?_
    refine XQ.block (id := 0) (by kernel_rfl) ?_
    refine XQ.loop m (by kernel_rfl) ?_
    obtain ⟨o1, o1_h, h⟩ := bS h
    refine XL.ren (σ' := [(0, .slice (some ⟨0, 0, none⟩) a.length a.length), (5, .int .i64 0)]) (h' := [(0, .cells (rowC encP a) z0 y0 2)]) (c' := 1) [0] (by decide) rfl ⟨by kernel_rfl, by kernel_rfl, trivial⟩ ⟨⟨_, _, rfl, rfl, .inl ⟨rfl, rowC_scal encP_ok _⟩⟩, trivial⟩ rfl ?_
    refine XL.conv (f30_1_ok m m z0 y0 a 0 o1 o1_h _ ?_) (by first | rfl | simp)
    show XQ _ _ _ _ _ _ _ _
    refine XQ.seq E0_ok (by kernel_rfl) ?_
    refine XQ.region (by kernel_rfl) ?_
    refine XR.run E0_ok 1 3 [2, 3] rfl (σ' := [(2, .int .i64 o1), (3, .int .i64 0)]) (h' := [(0, .cells (rowC encP a) z0 y0 2)]) (c' := 1) (by kernel_rfl) ?_
    refine XR.done (by kernel_rfl) ?_
    show XQ _ _ _ _ _ _ _ _
    refine XQ.ret (by kernel_rfl) ?_
    have h := Option.some.inj h
    subst h
    exact ⟨fun i q => (by cases q), .tuple #[.int .i64 o1, .int .i64 0], (by kernel_rfl), rfl⟩

end Go.Xm
