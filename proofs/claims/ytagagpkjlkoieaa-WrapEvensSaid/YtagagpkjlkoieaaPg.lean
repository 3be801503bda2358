/- What these functions of the program compute, as functions in Lean, and the proofs that they do: vitolaref05.Nearer, wrap.Chain, vitolaref05.Chain. Conditions: none. -/
import Derived.Test.YtagagpkjlkoieaaPa
namespace Go.Xm
open Go.RowKit
set_option linter.unusedVariables false
set_option linter.unusedSimpArgs false
set_option maxRecDepth 20000

/-! vitola/vitolaref05.Nearer -/
noncomputable def f40_C40 : Code := Proofs.Try.f40.body.getD .skip
noncomputable def f40_L1 : Code := lft (lft (rgt (lft (rgt (rgt (rgt (rgt (rgt (rgt f40_C40)))))))))

def f40_1 (m : Nat) : Nat → Int → Int → Int → Int → List Int → Option (List Int)
  | 0, _, _, _, _, _ => none
  | fuel + 1, a, b, x9_1, x10_1, lh1_1 =>
    (f67 m a b 0).bind fun r8 =>
      cond (decide (x10_1 ≤ r8)) (
        (f61 m a b 0 x10_1).bind fun r9 =>
          (f61 m a b 0 x10_1).bind fun r10 =>
            cond (decide ((iMin r9 (w64 (a - r10))) < x9_1)) (
              cond (fitsB (lh1_1.length + 1) 8) (
                f40_1 m fuel a b (iMin r9 (w64 (a - r10))) (w64 (x10_1 + 1)) (lh1_1 ++ [x10_1])
              ) none
            ) (
              f40_1 m fuel a b x9_1 (w64 (x10_1 + 1)) lh1_1
            )
      ) (
        some (lh1_1)
      )

theorem f40_1_ok (m : Nat) : ∀ (fuel : Nat) (a : Int) (b : Int) (x9_1 : Int) (x10_1 : Int) (lh1_1 : List Int) (o : (List Int)), f40_1 m fuel a b x9_1 x10_1 lh1_1 = some o → ∀ Q : QP, Q (.exit 0) [(8, .slice (some ⟨0, 0, none⟩) o.length o.length)] [(0, .cells (rowC (encI .i64) o) 0 3 1)] 1 → XL E0 46 0 fuel f40_L1 [(0, .int .i64 a), (7, .pointer (some ⟨0, 0, none⟩)), (8, .slice (some ⟨1, 0, none⟩) lh1_1.length lh1_1.length), (9, .int .i64 x9_1), (10, .int .i64 x10_1)] [(1, .cells (rowC (encI .i64) lh1_1) 0 3 1), (0, .cells [.int .i64 a, .int .i64 b, .int .i64 0] 0 24 0)] 2 Q
  | 0, a, b, x9_1, x10_1, lh1_1, o, h, Q, hQ => by cases h
  | fuel + 1, a, b, x9_1, x10_1, lh1_1, o, h, Q, hQ => by
    unfold f40_1 at h
    refine XL.succ E0_ok ?_
    refine XQ.seq E0_ok (by kernel_rfl) ?_
    refine XQ.seq E0_ok (by kernel_rfl) ?_
    refine XQ.region (by kernel_rfl) ?_
    refine XR.run E0_ok 1 2 [0, 7, 8, 9, 10, 22, 23] rfl (σ' := [(0, .int .i64 a), (7, .pointer (some ⟨0, 0, none⟩)), (8, .slice (some ⟨1, 0, none⟩) lh1_1.length lh1_1.length), (9, .int .i64 x9_1), (10, .int .i64 x10_1), (22, .int .i64 x10_1), (23, .agg #[.int .i64 a, .int .i64 b, .int .i64 0])]) (h' := [(1, .cells (rowC (encI .i64) lh1_1) 0 3 1), (0, .cells [.int .i64 a, .int .i64 b, .int .i64 0] 0 24 0)]) (c' := 2) (by kernel_rfl) ?_
    obtain ⟨r8, r8_h, h⟩ := bS h
    refine XR.call E0_ok [0, 7, 8, 9, 10, 22, 24] rfl (K := 67) (args := [.agg #[.int .i64 a, .int .i64 b, .int .i64 0]]) (d := (some (path 12 24))) (by kernel_rfl) (KC.of_calls E0_ok (F := Proofs.Try.f67) (v := .int .i64 r8) (by kernel_rfl) rfl rfl (fun w hI => f67_ok m a b 0 r8 r8_h w hI)) ?_
    rintro _ _ _ ⟨rfl, rfl, rfl⟩
    refine XR.conv (σ' := [(0, .int .i64 a), (7, .pointer (some ⟨0, 0, none⟩)), (8, .slice (some ⟨1, 0, none⟩) lh1_1.length lh1_1.length), (9, .int .i64 x9_1), (10, .int .i64 x10_1), (22, .int .i64 x10_1), (24, .int .i64 r8)]) (h' := [(1, .cells (rowC (encI .i64) lh1_1) 0 3 1), (0, .cells [.int .i64 a, .int .i64 b, .int .i64 0] 0 24 0)]) (c' := 2) ?_ (by kernel_rfl)
    refine XR.run E0_ok 1 1 [0, 7, 8, 9, 10, 25] rfl (σ' := [(0, .int .i64 a), (7, .pointer (some ⟨0, 0, none⟩)), (8, .slice (some ⟨1, 0, none⟩) lh1_1.length lh1_1.length), (9, .int .i64 x9_1), (10, .int .i64 x10_1), (25, .bool (decide (x10_1 ≤ r8)))]) (h' := [(1, .cells (rowC (encI .i64) lh1_1) 0 3 1), (0, .cells [.int .i64 a, .int .i64 b, .int .i64 0] 0 24 0)]) (c' := 2) (by kernel_rfl) ?_
    refine XR.done (by kernel_rfl) ?_
    show XQ _ _ _ _ _ _ _ _
    cases b1 : (decide (x10_1 ≤ r8) : Bool) with
    | true =>
      have h := cT b1 h
      refine XQ.cond (s := (.tmp 25)) (b := true) (by kernel_rfl) (by kernel_rfl) (fun _ => ?_) (fun q => by cases q)
      refine XQ.skip (by kernel_rfl) ?_
      show XQ _ _ _ _ _ _ _ _
      refine XQ.seq E0_ok (by kernel_rfl) ?_
      refine XQ.block (id := 1) (by kernel_rfl) ?_
      refine XQ.seq E0_ok (by kernel_rfl) ?_
      refine XQ.quiet E0_ok (by kernel_rfl) (by kernel_rfl) ?_
      refine XU.run E0_ok 1 2 [0, 7, 8, 9, 10, 28, 29] rfl (σ' := [(0, .int .i64 a), (7, .pointer (some ⟨0, 0, none⟩)), (8, .slice (some ⟨1, 0, none⟩) lh1_1.length lh1_1.length), (9, .int .i64 x9_1), (10, .int .i64 x10_1), (28, .agg #[.int .i64 a, .int .i64 b, .int .i64 0]), (29, .int .i64 x10_1)]) (by kernel_rfl) ?_
      obtain ⟨r9, r9_h, h⟩ := bS h
      refine XU.call E0_ok [0, 7, 8, 9, 10, 30] rfl (K := 61) (F := Proofs.Try.f61) (args := [.agg #[.int .i64 a, .int .i64 b, .int .i64 0], .int .i64 x10_1]) (d := (some (path 12 30))) (v := .int .i64 r9) (by kernel_rfl) (by kernel_rfl) rfl rfl (fun w hI => f61_ok m a b 0 x10_1 r9 r9_h w hI) (σ' := [(0, .int .i64 a), (7, .pointer (some ⟨0, 0, none⟩)), (8, .slice (some ⟨1, 0, none⟩) lh1_1.length lh1_1.length), (9, .int .i64 x9_1), (10, .int .i64 x10_1), (30, .int .i64 r9)]) (by kernel_rfl) ?_
      refine XU.run E0_ok 1 3 [0, 7, 8, 9, 10, 30, 31, 32, 33] rfl (σ' := [(0, .int .i64 a), (7, .pointer (some ⟨0, 0, none⟩)), (8, .slice (some ⟨1, 0, none⟩) lh1_1.length lh1_1.length), (9, .int .i64 x9_1), (10, .int .i64 x10_1), (30, .int .i64 r9), (31, .int .i64 a), (32, .agg #[.int .i64 a, .int .i64 b, .int .i64 0]), (33, .int .i64 x10_1)]) (by kernel_rfl) ?_
      obtain ⟨r10, r10_h, h⟩ := bS h
      refine XU.call E0_ok [0, 7, 8, 9, 10, 30, 31, 34] rfl (K := 61) (F := Proofs.Try.f61) (args := [.agg #[.int .i64 a, .int .i64 b, .int .i64 0], .int .i64 x10_1]) (d := (some (path 12 34))) (v := .int .i64 r10) (by kernel_rfl) (by kernel_rfl) rfl rfl (fun w hI => f61_ok m a b 0 x10_1 r10 r10_h w hI) (σ' := [(0, .int .i64 a), (7, .pointer (some ⟨0, 0, none⟩)), (8, .slice (some ⟨1, 0, none⟩) lh1_1.length lh1_1.length), (9, .int .i64 x9_1), (10, .int .i64 x10_1), (30, .int .i64 r9), (31, .int .i64 a), (34, .int .i64 r10)]) (by kernel_rfl) ?_
      refine XU.run E0_ok 1 3 [0, 7, 8, 9, 10, 11] rfl (σ' := [(0, .int .i64 a), (7, .pointer (some ⟨0, 0, none⟩)), (8, .slice (some ⟨1, 0, none⟩) lh1_1.length lh1_1.length), (9, .int .i64 x9_1), (10, .int .i64 x10_1), (11, .int .i64 (iMin r9 (w64 (a - r10))))]) (by kernel_rfl) ?_
      refine XU.done (by kernel_rfl) ?_
      show XQ _ _ _ _ _ _ _ _
      refine XQ.seq E0_ok (by kernel_rfl) ?_
      refine XQ.region (by kernel_rfl) ?_
      refine XR.run E0_ok 1 3 [0, 7, 8, 9, 10, 11, 39] rfl (σ' := [(0, .int .i64 a), (7, .pointer (some ⟨0, 0, none⟩)), (8, .slice (some ⟨1, 0, none⟩) lh1_1.length lh1_1.length), (9, .int .i64 x9_1), (10, .int .i64 x10_1), (11, .int .i64 (iMin r9 (w64 (a - r10)))), (39, .bool (decide ((iMin r9 (w64 (a - r10))) < x9_1)))]) (h' := [(1, .cells (rowC (encI .i64) lh1_1) 0 3 1), (0, .cells [.int .i64 a, .int .i64 b, .int .i64 0] 0 24 0)]) (c' := 2) (by kernel_rfl) ?_
      refine XR.done (by kernel_rfl) ?_
      show XQ _ _ _ _ _ _ _ _
      cases b2 : (decide ((iMin r9 (w64 (a - r10))) < x9_1) : Bool) with
      | true =>
        have h := cT b2 h
        refine XQ.cond (s := (.tmp 39)) (b := true) (by kernel_rfl) (by kernel_rfl) (fun _ => ?_) (fun q => by cases q)
        refine XQ.seq E0_ok (by kernel_rfl) ?_
        refine XQ.region (by kernel_rfl) ?_
        refine XR.run E0_ok 1 3 [0, 7, 10, 11, 40, 42] rfl (σ' := [(0, .int .i64 a), (7, .pointer (some ⟨0, 0, none⟩)), (10, .int .i64 x10_1), (11, .int .i64 (iMin r9 (w64 (a - r10)))), (40, .slice (some ⟨1, 0, none⟩) lh1_1.length lh1_1.length), (42, .slice (some ⟨2, 0, none⟩) 1 1)]) (h' := [(2, .cells [.int .i64 x10_1] 0 3 1), (1, .cells (rowC (encI .i64) lh1_1) 0 3 1), (0, .cells [.int .i64 a, .int .i64 b, .int .i64 0] 0 24 0)]) (c' := 3) (by kernel_rfl) ?_
        cases b3 : (fitsB (lh1_1.length + 1) 8 : Bool) with
        | false => cases (cF b3 h)
        | true =>
          have h := cT b3 h
          refine XR.ef E0_ok [0, 7, 10, 11, 43] rfl (e_append (encI_ok .i64) (bytes := 8) (e := 3) (x := (src 46 (.tmp 40))) (y := (src 46 (.tmp 42))) (b := 1) (len := lh1_1.length) (cap := lh1_1.length) (xs := lh1_1) (m := 0) (ys := [x10_1]) (d := (some (path 12 43))) (n' := (lh1_1 ++ [x10_1]).length) (h' := [(3, .cells (rowC (encI .i64) (lh1_1 ++ [x10_1])) 0 3 1), (2, .cells [.int .i64 x10_1] 0 3 1), (0, .cells [.int .i64 a, .int .i64 b, .int .i64 0] 0 24 0)]) (by kernel_rfl) (by kernel_rfl) (by kernel_rfl) (by kernel_rfl) rfl (by simp) (by simp) b3 (by simp) (by kernel_rfl)) (σ' := [(0, .int .i64 a), (7, .pointer (some ⟨0, 0, none⟩)), (10, .int .i64 x10_1), (11, .int .i64 (iMin r9 (w64 (a - r10)))), (43, .slice (some ⟨3, 0, none⟩) ((lh1_1 ++ [x10_1]).length) ((lh1_1 ++ [x10_1]).length))]) (by kernel_rfl) ?_
          refine XR.run E0_ok 1 1 [0, 7, 8, 10, 11] rfl (σ' := [(0, .int .i64 a), (7, .pointer (some ⟨0, 0, none⟩)), (8, .slice (some ⟨3, 0, none⟩) ((lh1_1 ++ [x10_1]).length) ((lh1_1 ++ [x10_1]).length)), (10, .int .i64 x10_1), (11, .int .i64 (iMin r9 (w64 (a - r10))))]) (h' := [(3, .cells (rowC (encI .i64) (lh1_1 ++ [x10_1])) 0 3 1), (2, .cells [.int .i64 x10_1] 0 3 1), (0, .cells [.int .i64 a, .int .i64 b, .int .i64 0] 0 24 0)]) (c' := 4) (by kernel_rfl) ?_
          refine XR.done (by kernel_rfl) ?_
          show XQ _ _ _ _ _ _ _ _
          refine XQ.region (by kernel_rfl) ?_
          refine XR.run E0_ok 1 2 [0, 7, 8, 9, 10] rfl (σ' := [(0, .int .i64 a), (7, .pointer (some ⟨0, 0, none⟩)), (8, .slice (some ⟨3, 0, none⟩) ((lh1_1 ++ [x10_1]).length) ((lh1_1 ++ [x10_1]).length)), (9, .int .i64 (iMin r9 (w64 (a - r10)))), (10, .int .i64 x10_1)]) (h' := [(3, .cells (rowC (encI .i64) (lh1_1 ++ [x10_1])) 0 3 1), (2, .cells [.int .i64 x10_1] 0 3 1), (0, .cells [.int .i64 a, .int .i64 b, .int .i64 0] 0 24 0)]) (c' := 4) (by kernel_rfl) ?_
          refine XR.done (by kernel_rfl) ?_
          show XQ _ _ _ _ _ _ _ _
          refine XQ.region (by kernel_rfl) ?_
          refine XR.run E0_ok 1 3 [0, 7, 8, 9, 10] rfl (σ' := [(0, .int .i64 a), (7, .pointer (some ⟨0, 0, none⟩)), (8, .slice (some ⟨3, 0, none⟩) ((lh1_1 ++ [x10_1]).length) ((lh1_1 ++ [x10_1]).length)), (9, .int .i64 (iMin r9 (w64 (a - r10)))), (10, .int .i64 (w64 (x10_1 + 1)))]) (h' := [(3, .cells (rowC (encI .i64) (lh1_1 ++ [x10_1])) 0 3 1), (2, .cells [.int .i64 x10_1] 0 3 1), (0, .cells [.int .i64 a, .int .i64 b, .int .i64 0] 0 24 0)]) (c' := 4) (by kernel_rfl) ?_
          refine XR.done (by kernel_rfl) ?_
          show XL _ _ _ _ _ _ _ _ _
          refine XL.ren (σ' := [(0, .int .i64 a), (7, .pointer (some ⟨0, 0, none⟩)), (8, .slice (some ⟨1, 0, none⟩) ((lh1_1 ++ [x10_1]).length) ((lh1_1 ++ [x10_1]).length)), (9, .int .i64 (iMin r9 (w64 (a - r10)))), (10, .int .i64 (w64 (x10_1 + 1)))]) (h' := [(1, .cells (rowC (encI .i64) (lh1_1 ++ [x10_1])) 0 3 1), (0, .cells [.int .i64 a, .int .i64 b, .int .i64 0] 0 24 0)]) (c' := 2) [0, 3] (by decide) rfl ⟨by kernel_rfl, by kernel_rfl, by kernel_rfl, by kernel_rfl, by kernel_rfl, trivial⟩ ⟨⟨_, _, rfl, rfl, .inl ⟨rfl, rowC_scal (encI_ok .i64) _⟩⟩, ⟨_, _, rfl, rfl, .inr ⟨_, _, _, _, rfl, rfl⟩⟩, trivial⟩ rfl ?_
          refine XL.conv (f40_1_ok m fuel a b (iMin r9 (w64 (a - r10))) (w64 (x10_1 + 1)) (lh1_1 ++ [x10_1]) o h Q hQ) (by first | rfl | simp)
      | false =>
        have h := cF b2 h
        refine XQ.cond (s := (.tmp 39)) (b := false) (by kernel_rfl) (by kernel_rfl) (fun q => by cases q) (fun _ => ?_)
        refine XQ.skip (by kernel_rfl) ?_
        show XQ _ _ _ _ _ _ _ _
        refine XQ.region (by kernel_rfl) ?_
        refine XR.run E0_ok 1 3 [0, 7, 8, 9, 10] rfl (σ' := [(0, .int .i64 a), (7, .pointer (some ⟨0, 0, none⟩)), (8, .slice (some ⟨1, 0, none⟩) lh1_1.length lh1_1.length), (9, .int .i64 x9_1), (10, .int .i64 (w64 (x10_1 + 1)))]) (h' := [(1, .cells (rowC (encI .i64) lh1_1) 0 3 1), (0, .cells [.int .i64 a, .int .i64 b, .int .i64 0] 0 24 0)]) (c' := 2) (by kernel_rfl) ?_
        refine XR.done (by kernel_rfl) ?_
        show XL _ _ _ _ _ _ _ _ _
        refine XL.ren (σ' := [(0, .int .i64 a), (7, .pointer (some ⟨0, 0, none⟩)), (8, .slice (some ⟨1, 0, none⟩) lh1_1.length lh1_1.length), (9, .int .i64 x9_1), (10, .int .i64 (w64 (x10_1 + 1)))]) (h' := [(1, .cells (rowC (encI .i64) lh1_1) 0 3 1), (0, .cells [.int .i64 a, .int .i64 b, .int .i64 0] 0 24 0)]) (c' := 2) [0, 1] (by decide) rfl ⟨by kernel_rfl, by kernel_rfl, by kernel_rfl, by kernel_rfl, by kernel_rfl, trivial⟩ ⟨⟨_, _, rfl, rfl, .inl ⟨rfl, rowC_scal (encI_ok .i64) _⟩⟩, ⟨_, _, rfl, rfl, .inr ⟨_, _, _, _, rfl, rfl⟩⟩, trivial⟩ rfl ?_
        refine XL.conv (f40_1_ok m fuel a b x9_1 (w64 (x10_1 + 1)) lh1_1 o h Q hQ) (by first | rfl | simp)
    | false =>
      have h := cF b1 h
      refine XQ.cond (s := (.tmp 25)) (b := false) (by kernel_rfl) (by kernel_rfl) (fun q => by cases q) (fun _ => ?_)
      refine XQ.ren (σ' := [(8, .slice (some ⟨0, 0, none⟩) lh1_1.length lh1_1.length)]) (h' := [(0, .cells (rowC (encI .i64) lh1_1) 0 3 1)]) (c' := 1) [1] (by decide) rfl ⟨by kernel_rfl, trivial⟩ ⟨⟨_, _, rfl, rfl, .inl ⟨rfl, rowC_scal (encI_ok .i64) _⟩⟩, trivial⟩ rfl ?_
      refine XQ.exit (i := 0) (by kernel_rfl) ?_
      cases h
      exact hQ

def f40 (m : Nat) (a : Int) (b : Int) : Option ((List Int) × Int) :=
  (f66 m a b).bind fun r1 =>
    cond (r1 != 0) (
      some ([], r1)
    ) (
      (f40_1 m m a b a 1 []).bind fun o1 =>
        some (o1, 0)
    )

theorem f40_ok (m : Nat) (a : Int) (b : Int) (o : (List Int) × Int) (h : f40 m a b = some o) : KC E0 40 [.int .i64 a, .int .i64 b] [] 0 (fun v h' c' => v = .tuple #[.slice (some ⟨0, 0, none⟩) o.1.length o.1.length, .int .i64 o.2] ∧ h' = [(0, .cells (rowC (encI .i64) o.1) 0 3 1)] ∧ c' = 1) := by
  refine KC.bodyN E0_ok (F := Proofs.Try.f40) (by kernel_rfl) (code := f40_C40) (by kernel_rfl) (nt := 46) (by kernel_rfl) (rs := [.tmp 4, .tmp 5]) (by kernel_rfl) (by kernel_rfl) (σ := [(0, .int .i64 a), (1, .int .i64 b)]) (by kernel_rfl) ?_
  unfold f40 at h
  refine XQ.seq E0_ok (by kernel_rfl) ?_
  refine XQ.region (by kernel_rfl) ?_
  refine XR.run E0_ok 1 2 [0, 1] rfl (σ' := [(0, .int .i64 a), (1, .int .i64 b)]) (h' := []) (c' := 0) (by kernel_rfl) ?_
  refine XR.done (by kernel_rfl) ?_
  show XQ _ _ _ _ _ _ _ _
  refine XQ.seq E0_ok (by kernel_rfl) ?_
  refine XQ.region (by kernel_rfl) ?_
  refine XR.run E0_ok 1 2 [0, 1, 12, 13] rfl (σ' := [(0, .int .i64 a), (1, .int .i64 b), (12, .int .i64 a), (13, .int .i64 b)]) (h' := []) (c' := 0) (by kernel_rfl) ?_
  obtain ⟨r1, r1_h, h⟩ := bS h
  refine XR.call E0_ok [0, 1, 14] rfl (K := 66) (args := [.int .i64 a, .int .i64 b]) (d := (some (path 12 14))) (by kernel_rfl) (KC.of_calls E0_ok (F := Proofs.Try.f66) (v := .int .i64 r1) (by kernel_rfl) rfl rfl (fun w hI => f66_ok m a b r1 r1_h w hI)) ?_
  rintro _ _ _ ⟨rfl, rfl, rfl⟩
  refine XR.conv (σ' := [(0, .int .i64 a), (1, .int .i64 b), (14, .int .i64 r1)]) (h' := []) (c' := 0) ?_ (by kernel_rfl)
  refine XR.run E0_ok 1 1 [0, 1, 6] rfl (σ' := [(0, .int .i64 a), (1, .int .i64 b), (6, .int .i64 r1)]) (h' := []) (c' := 0) (by kernel_rfl) ?_
  refine XR.done (by kernel_rfl) ?_
  show XQ _ _ _ _ _ _ _ _
  refine XQ.seq E0_ok (by kernel_rfl) ?_
  refine XQ.seq E0_ok (by kernel_rfl) ?_
  refine XQ.region (by kernel_rfl) ?_
  refine XR.run E0_ok 1 2 [0, 1, 6, 16] rfl (σ' := [(0, .int .i64 a), (1, .int .i64 b), (6, .int .i64 r1), (16, .bool (r1 != 0))]) (h' := []) (c' := 0) (by kernel_rfl) ?_
  refine XR.done (by kernel_rfl) ?_
  show XQ _ _ _ _ _ _ _ _
  cases b1 : (r1 != 0 : Bool) with
  | true =>
    have h := cT b1 h
    refine XQ.cond (s := (.tmp 16)) (b := true) (by kernel_rfl) (by kernel_rfl) (fun _ => ?_) (fun q => by cases q)
    refine XQ.seq E0_ok (by kernel_rfl) ?_
    refine XQ.region (by kernel_rfl) ?_
    refine XR.run E0_ok 1 3 [4, 5] rfl (σ' := [(4, .slice none 0 0), (5, .int .i64 r1)]) (h' := []) (c' := 0) (by kernel_rfl) ?_
    refine XR.done (by kernel_rfl) ?_
    show XQ _ _ _ _ _ _ _ _
    refine XQ.ghost 3 1 rfl (σ' := [(4, .slice (some ⟨0, 0, none⟩) 0 0), (5, .int .i64 r1)]) (h' := []) ⟨by kernel_rfl, by kernel_rfl, trivial⟩ trivial ?_
    refine XQ.conv (σ' := [(4, .slice (some ⟨0, 0, none⟩) 0 0), (5, .int .i64 r1)]) (h' := [(0, .cells (rowC (encI .i64) []) 0 3 1)]) (c' := 1) ?_ (by kernel_rfl)
    refine XQ.ren (σ' := [(4, .slice (some ⟨0, 0, none⟩) 0 0), (5, .int .i64 r1)]) (h' := [(0, .cells (rowC (encI .i64) []) 0 3 1)]) (c' := 1) [0] (by decide) rfl ⟨by kernel_rfl, by kernel_rfl, trivial⟩ ⟨⟨_, _, rfl, rfl, .inl ⟨rfl, rowC_scal (encI_ok .i64) _⟩⟩, trivial⟩ rfl ?_
    refine XQ.ret (by kernel_rfl) ?_
    have h := Option.some.inj h
    subst h
    exact ⟨fun i q => (by cases q), .tuple #[.slice (some ⟨0, 0, none⟩) 0 0, .int .i64 r1], (by kernel_rfl), (by kernel_rfl), (by kernel_rfl), rfl⟩
  | false =>
    have h := cF b1 h
    refine XQ.cond (s := (.tmp 16)) (b := false) (by kernel_rfl) (by kernel_rfl) (fun q => by cases q) (fun _ => ?_)
    refine XQ.skip (by kernel_rfl) ?_
    show XQ _ _ _ _ _ _ _ _
    refine XQ.seq E0_ok (by kernel_rfl) ?_
    refine XQ.region (by kernel_rfl) ?_
    refine XR.run E0_ok 1 5 [0, 7] rfl (σ' := [(0, .int .i64 a), (7, .pointer (some ⟨0, 0, none⟩))]) (h' := [(0, .cells [.int .i64 a, .int .i64 b, .int .i64 0] 0 24 0)]) (c' := 1) (by kernel_rfl) ?_
    refine XR.done (by kernel_rfl) ?_
    show XQ _ _ _ _ _ _ _ _
    refine XQ.seq E0_ok (by kernel_rfl) ?_
    refine XQ.region (by kernel_rfl) ?_
    refine XR.run E0_ok 1 1 [0, 7, 8] rfl (σ' := [(0, .int .i64 a), (7, .pointer (some ⟨0, 0, none⟩)), (8, .slice none 0 0)]) (h' := [(0, .cells [.int .i64 a, .int .i64 b, .int .i64 0] 0 24 0)]) (c' := 1) (by kernel_rfl) ?_
    refine XR.done (by kernel_rfl) ?_
    show XQ _ _ _ _ _ _ _ _
    refine XQ.ghost 3 1 rfl (σ' := [(0, .int .i64 a), (7, .pointer (some ⟨0, 0, none⟩)), (8, .slice (some ⟨1, 0, none⟩) 0 0)]) (h' := [(0, .cells [.int .i64 a, .int .i64 b, .int .i64 0] 0 24 0)]) ⟨by kernel_rfl, by kernel_rfl, by kernel_rfl, trivial⟩ ⟨⟨_, rfl, .inl rfl⟩, trivial⟩ ?_
    refine XQ.conv (σ' := [(0, .int .i64 a), (7, .pointer (some ⟨0, 0, none⟩)), (8, .slice (some ⟨1, 0, none⟩) 0 0)]) (h' := [(1, .cells (rowC (encI .i64) []) 0 3 1), (0, .cells [.int .i64 a, .int .i64 b, .int .i64 0] 0 24 0)]) (c' := 2) ?_ (by kernel_rfl)
    refine XQ.seq E0_ok (by kernel_rfl) ?_
    refine XQ.region (by kernel_rfl) ?_
    refine XR.run E0_ok 1 2 [0, 7, 8, 9] rfl (σ' := [(0, .int .i64 a), (7, .pointer (some ⟨0, 0, none⟩)), (8, .slice (some ⟨1, 0, none⟩) 0 0), (9, .int .i64 a)]) (h' := [(1, .cells (rowC (encI .i64) []) 0 3 1), (0, .cells [.int .i64 a, .int .i64 b, .int .i64 0] 0 24 0)]) (c' := 2) (by kernel_rfl) ?_
    refine XR.done (by kernel_rfl) ?_
    show XQ _ _ _ _ _ _ _ _
    refine XQ.seq E0_ok (by kernel_rfl) ?_
    refine XQ.seq E0_ok (by kernel_rfl) ?_
    refine XQ.region (by kernel_rfl) ?_
    refine XR.run E0_ok 1 1 [0, 7, 8, 9, 10] rfl (σ' := [(0, .int .i64 a), (7, .pointer (some ⟨0, 0, none⟩)), (8, .slice (some ⟨1, 0, none⟩) 0 0), (9, .int .i64 a), (10, .int .i64 1)]) (h' := [(1, .cells (rowC (encI .i64) []) 0 3 1), (0, .cells [.int .i64 a, .int .i64 b, .int .i64 0] 0 24 0)]) (c' := 2) (by kernel_rfl) ?_
    refine XR.done (by kernel_rfl) ?_
    show XQ _ _ _ _ _ _ _ _
    refine XQ.block (id := 0) (by kernel_rfl) ?_
    refine XQ.loop m (by kernel_rfl) ?_
    obtain ⟨o1, o1_h, h⟩ := bS h
    refine XL.ren (σ' := [(0, .int .i64 a), (7, .pointer (some ⟨0, 0, none⟩)), (8, .slice (some ⟨1, 0, none⟩) 0 0), (9, .int .i64 a), (10, .int .i64 1)]) (h' := [(1, .cells (rowC (encI .i64) []) 0 3 1), (0, .cells [.int .i64 a, .int .i64 b, .int .i64 0] 0 24 0)]) (c' := 2) [0, 1] (by decide) rfl ⟨by kernel_rfl, by kernel_rfl, by kernel_rfl, by kernel_rfl, by kernel_rfl, trivial⟩ ⟨⟨_, _, rfl, rfl, .inl ⟨rfl, rowC_scal (encI_ok .i64) _⟩⟩, ⟨_, _, rfl, rfl, .inr ⟨_, _, _, _, rfl, rfl⟩⟩, trivial⟩ rfl ?_
    refine XL.conv (f40_1_ok m m a b a 1 [] o1 o1_h _ ?_) (by first | rfl | simp)
    show XQ _ _ _ _ _ _ _ _
    refine XQ.seq E0_ok (by kernel_rfl) ?_
    refine XQ.region (by kernel_rfl) ?_
    refine XR.run E0_ok 1 3 [4, 5] rfl (σ' := [(4, .slice (some ⟨0, 0, none⟩) o1.length o1.length), (5, .int .i64 0)]) (h' := [(0, .cells (rowC (encI .i64) o1) 0 3 1)]) (c' := 1) (by kernel_rfl) ?_
    refine XR.done (by kernel_rfl) ?_
    show XQ _ _ _ _ _ _ _ _
    refine XQ.ren (σ' := [(4, .slice (some ⟨0, 0, none⟩) o1.length o1.length), (5, .int .i64 0)]) (h' := [(0, .cells (rowC (encI .i64) o1) 0 3 1)]) (c' := 1) [0] (by decide) rfl ⟨by kernel_rfl, by kernel_rfl, trivial⟩ ⟨⟨_, _, rfl, rfl, .inl ⟨rfl, rowC_scal (encI_ok .i64) _⟩⟩, trivial⟩ rfl ?_
    refine XQ.ret (by kernel_rfl) ?_
    have h := Option.some.inj h
    subst h
    exact ⟨fun i q => (by cases q), .tuple #[.slice (some ⟨0, 0, none⟩) o1.length o1.length, .int .i64 0], (by kernel_rfl), (by kernel_rfl), (by kernel_rfl), rfl⟩

/-! vitola/wrap.Chain -/
noncomputable def f41_C41 : Code := Proofs.Try.f41.body.getD .skip
noncomputable def f41_L1 : Code := lft (lft (lft (rgt (rgt (rgt f41_C41)))))

def f41_1 (m : Nat) : Nat → Int → Int → List Int → Option (List Int)
  | 0, _, _, _ => none
  | fuel + 1, x0_1, x1_1, lh0_1 =>
    cond (decide (x1_1 > 0)) (
      cond (x1_1 != 0) (
        cond (fitsB (lh0_1.length + 1) 8) (
          f41_1 m fuel x1_1 (Int.tmod x0_1 x1_1) (lh0_1 ++ [w64 (Int.tdiv x0_1 x1_1)])
        ) none
      ) none
    ) (
      some (lh0_1)
    )

theorem f41_1_ok (m : Nat) : ∀ (fuel : Nat) (x0_1 : Int) (x1_1 : Int) (lh0_1 : List Int) (o : (List Int)), f41_1 m fuel x0_1 x1_1 lh0_1 = some o → ∀ Q : QP, Q (.exit 0) [(6, .slice (some ⟨0, 0, none⟩) o.length o.length)] [(0, .cells (rowC (encI .i64) o) 0 3 1)] 1 → XL E0 24 0 fuel f41_L1 [(0, .int .i64 x0_1), (1, .int .i64 x1_1), (6, .slice (some ⟨0, 0, none⟩) lh0_1.length lh0_1.length)] [(0, .cells (rowC (encI .i64) lh0_1) 0 3 1)] 1 Q
  | 0, x0_1, x1_1, lh0_1, o, h, Q, hQ => by cases h
  | fuel + 1, x0_1, x1_1, lh0_1, o, h, Q, hQ => by
    unfold f41_1 at h
    refine XL.succ E0_ok ?_
    refine XQ.seq E0_ok (by kernel_rfl) ?_
    refine XQ.seq E0_ok (by kernel_rfl) ?_
    refine XQ.region (by kernel_rfl) ?_
    refine XR.run E0_ok 1 2 [0, 1, 6, 12] rfl (σ' := [(0, .int .i64 x0_1), (1, .int .i64 x1_1), (6, .slice (some ⟨0, 0, none⟩) lh0_1.length lh0_1.length), (12, .bool (decide (x1_1 > 0)))]) (h' := [(0, .cells (rowC (encI .i64) lh0_1) 0 3 1)]) (c' := 1) (by kernel_rfl) ?_
    refine XR.done (by kernel_rfl) ?_
    show XQ _ _ _ _ _ _ _ _
    cases b1 : (decide (x1_1 > 0) : Bool) with
    | true =>
      have h := cT b1 h
      refine XQ.cond (s := (.tmp 12)) (b := true) (by kernel_rfl) (by kernel_rfl) (fun _ => ?_) (fun q => by cases q)
      refine XQ.skip (by kernel_rfl) ?_
      show XQ _ _ _ _ _ _ _ _
      refine XQ.block (id := 1) (by kernel_rfl) ?_
      refine XQ.seq E0_ok (by kernel_rfl) ?_
      refine XQ.region (by kernel_rfl) ?_
      refine XR.run E0_ok 1 3 [0, 1, 13, 14, 15] rfl (σ' := [(0, .int .i64 x0_1), (1, .int .i64 x1_1), (13, .slice (some ⟨0, 0, none⟩) lh0_1.length lh0_1.length), (14, .int .i64 x0_1), (15, .int .i64 x1_1)]) (h' := [(0, .cells (rowC (encI .i64) lh0_1) 0 3 1)]) (c' := 1) (by kernel_rfl) ?_
      cases b2 : (x1_1 != 0 : Bool) with
      | false => cases (cF b2 h)
      | true =>
        have h := cT b2 h
        have e3 : insV (headI ((gsOf E0 24 (opsOf (lft (lft (rgt f41_L1))))).drop 3) (trS 24 [(0, .int .i64 x0_1), (1, .int .i64 x1_1), (13, .slice (some ⟨0, 0, none⟩) lh0_1.length lh0_1.length), (14, .int .i64 x0_1), (15, .int .i64 x1_1)])) (trS 24 [(0, .int .i64 x0_1), (1, .int .i64 x1_1), (13, .slice (some ⟨0, 0, none⟩) lh0_1.length lh0_1.length), (14, .int .i64 x0_1), (15, .int .i64 x1_1)]) [(0, .cells (rowC (encI .i64) lh0_1) 0 3 1)] = (match (x1_1 != 0 : Bool) with | true => some (.int .i64 (w64 (Int.tdiv x0_1 x1_1))) | false => none) := by kernel_rfl
        refine XR.rd E0_ok [0, 1, 13, 16] rfl (e3.trans (by rw [b2])) (σ' := [(0, .int .i64 x0_1), (1, .int .i64 x1_1), (13, .slice (some ⟨0, 0, none⟩) lh0_1.length lh0_1.length), (16, .int .i64 (w64 (Int.tdiv x0_1 x1_1)))]) (by kernel_rfl) ?_
        refine XR.run E0_ok 1 1 [0, 1, 13, 17] rfl (σ' := [(0, .int .i64 x0_1), (1, .int .i64 x1_1), (13, .slice (some ⟨0, 0, none⟩) lh0_1.length lh0_1.length), (17, .slice (some ⟨1, 0, none⟩) 1 1)]) (h' := [(1, .cells [.int .i64 (w64 (Int.tdiv x0_1 x1_1))] 0 3 1), (0, .cells (rowC (encI .i64) lh0_1) 0 3 1)]) (c' := 2) (by kernel_rfl) ?_
        cases b4 : (fitsB (lh0_1.length + 1) 8 : Bool) with
        | false => cases (cF b4 h)
        | true =>
          have h := cT b4 h
          refine XR.ef E0_ok [0, 1, 18] rfl (e_append (encI_ok .i64) (bytes := 8) (e := 3) (x := (src 24 (.tmp 13))) (y := (src 24 (.tmp 17))) (b := 0) (len := lh0_1.length) (cap := lh0_1.length) (xs := lh0_1) (m := 0) (ys := [w64 (Int.tdiv x0_1 x1_1)]) (d := (some (path 12 18))) (n' := (lh0_1 ++ [w64 (Int.tdiv x0_1 x1_1)]).length) (h' := [(2, .cells (rowC (encI .i64) (lh0_1 ++ [w64 (Int.tdiv x0_1 x1_1)])) 0 3 1), (1, .cells [.int .i64 (w64 (Int.tdiv x0_1 x1_1))] 0 3 1)]) (by kernel_rfl) (by kernel_rfl) (by kernel_rfl) (by kernel_rfl) rfl (by simp) (by simp) b4 (by simp) (by kernel_rfl)) (σ' := [(0, .int .i64 x0_1), (1, .int .i64 x1_1), (18, .slice (some ⟨2, 0, none⟩) ((lh0_1 ++ [w64 (Int.tdiv x0_1 x1_1)]).length) ((lh0_1 ++ [w64 (Int.tdiv x0_1 x1_1)]).length))]) (by kernel_rfl) ?_
          refine XR.run E0_ok 1 1 [0, 1, 6] rfl (σ' := [(0, .int .i64 x0_1), (1, .int .i64 x1_1), (6, .slice (some ⟨2, 0, none⟩) ((lh0_1 ++ [w64 (Int.tdiv x0_1 x1_1)]).length) ((lh0_1 ++ [w64 (Int.tdiv x0_1 x1_1)]).length))]) (h' := [(2, .cells (rowC (encI .i64) (lh0_1 ++ [w64 (Int.tdiv x0_1 x1_1)])) 0 3 1), (1, .cells [.int .i64 (w64 (Int.tdiv x0_1 x1_1))] 0 3 1)]) (c' := 3) (by kernel_rfl) ?_
          refine XR.done (by kernel_rfl) ?_
          show XQ _ _ _ _ _ _ _ _
          refine XQ.quiet E0_ok (by kernel_rfl) (by kernel_rfl) ?_
          refine XU.run E0_ok 1 3 [6, 19, 20, 21] rfl (σ' := [(6, .slice (some ⟨2, 0, none⟩) ((lh0_1 ++ [w64 (Int.tdiv x0_1 x1_1)]).length) ((lh0_1 ++ [w64 (Int.tdiv x0_1 x1_1)]).length)), (19, .int .i64 x1_1), (20, .int .i64 x0_1), (21, .int .i64 x1_1)]) (by kernel_rfl) ?_
          have e5 : insV (headI ((gsOf E0 24 (opsOf (rgt (lft (rgt f41_L1))))).drop 3) (trS 24 [(6, .slice (some ⟨2, 0, none⟩) ((lh0_1 ++ [w64 (Int.tdiv x0_1 x1_1)]).length) ((lh0_1 ++ [w64 (Int.tdiv x0_1 x1_1)]).length)), (19, .int .i64 x1_1), (20, .int .i64 x0_1), (21, .int .i64 x1_1)])) (trS 24 [(6, .slice (some ⟨2, 0, none⟩) ((lh0_1 ++ [w64 (Int.tdiv x0_1 x1_1)]).length) ((lh0_1 ++ [w64 (Int.tdiv x0_1 x1_1)]).length)), (19, .int .i64 x1_1), (20, .int .i64 x0_1), (21, .int .i64 x1_1)]) [(2, .cells (rowC (encI .i64) (lh0_1 ++ [w64 (Int.tdiv x0_1 x1_1)])) 0 3 1), (1, .cells [.int .i64 (w64 (Int.tdiv x0_1 x1_1))] 0 3 1)] = (match (x1_1 != 0 : Bool) with | true => some (.int .i64 (Int.tmod x0_1 x1_1)) | false => none) := by kernel_rfl
          refine XU.rd E0_ok [6, 19, 22] rfl (e5.trans (by rw [b2])) (σ' := [(6, .slice (some ⟨2, 0, none⟩) ((lh0_1 ++ [w64 (Int.tdiv x0_1 x1_1)]).length) ((lh0_1 ++ [w64 (Int.tdiv x0_1 x1_1)]).length)), (19, .int .i64 x1_1), (22, .int .i64 (Int.tmod x0_1 x1_1))]) (by kernel_rfl) ?_
          refine XU.run E0_ok 1 2 [0, 1, 6] rfl (σ' := [(0, .int .i64 x1_1), (1, .int .i64 (Int.tmod x0_1 x1_1)), (6, .slice (some ⟨2, 0, none⟩) ((lh0_1 ++ [w64 (Int.tdiv x0_1 x1_1)]).length) ((lh0_1 ++ [w64 (Int.tdiv x0_1 x1_1)]).length))]) (by kernel_rfl) ?_
          refine XU.done (by kernel_rfl) ?_
          show XL _ _ _ _ _ _ _ _ _
          refine XL.ren (σ' := [(0, .int .i64 x1_1), (1, .int .i64 (Int.tmod x0_1 x1_1)), (6, .slice (some ⟨0, 0, none⟩) ((lh0_1 ++ [w64 (Int.tdiv x0_1 x1_1)]).length) ((lh0_1 ++ [w64 (Int.tdiv x0_1 x1_1)]).length))]) (h' := [(0, .cells (rowC (encI .i64) (lh0_1 ++ [w64 (Int.tdiv x0_1 x1_1)])) 0 3 1)]) (c' := 1) [2] (by decide) rfl ⟨by kernel_rfl, by kernel_rfl, by kernel_rfl, trivial⟩ ⟨⟨_, _, rfl, rfl, .inl ⟨rfl, rowC_scal (encI_ok .i64) _⟩⟩, trivial⟩ rfl ?_
          refine XL.conv (f41_1_ok m fuel x1_1 (Int.tmod x0_1 x1_1) (lh0_1 ++ [w64 (Int.tdiv x0_1 x1_1)]) o h Q hQ) (by first | rfl | simp)
    | false =>
      have h := cF b1 h
      refine XQ.cond (s := (.tmp 12)) (b := false) (by kernel_rfl) (by kernel_rfl) (fun q => by cases q) (fun _ => ?_)
      refine XQ.ren (σ' := [(6, .slice (some ⟨0, 0, none⟩) lh0_1.length lh0_1.length)]) (h' := [(0, .cells (rowC (encI .i64) lh0_1) 0 3 1)]) (c' := 1) [0] (by decide) rfl ⟨by kernel_rfl, trivial⟩ ⟨⟨_, _, rfl, rfl, .inl ⟨rfl, rowC_scal (encI_ok .i64) _⟩⟩, trivial⟩ rfl ?_
      refine XQ.exit (i := 0) (by kernel_rfl) ?_
      cases h
      exact hQ

def f41 (m : Nat) (a : Int) (b : Int) : Option ((List Int) × Int) :=
  (f64 m a b).bind fun r1 =>
    cond (!r1) (
      some ([], 1)
    ) (
      (f41_1 m m a b []).bind fun o1 =>
        some (o1, 0)
    )

theorem f41_ok (m : Nat) (a : Int) (b : Int) (o : (List Int) × Int) (h : f41 m a b = some o) : KC E0 41 [.int .i64 a, .int .i64 b] [] 0 (fun v h' c' => v = .tuple #[.slice (some ⟨0, 0, none⟩) o.1.length o.1.length, .int .i64 o.2] ∧ h' = [(0, .cells (rowC (encI .i64) o.1) 0 3 1)] ∧ c' = 1) := by
  refine KC.bodyN E0_ok (F := Proofs.Try.f41) (by kernel_rfl) (code := f41_C41) (by kernel_rfl) (nt := 24) (by kernel_rfl) (rs := [.tmp 4, .tmp 5]) (by kernel_rfl) (by kernel_rfl) (σ := [(0, .int .i64 a), (1, .int .i64 b)]) (by kernel_rfl) ?_
  unfold f41 at h
  refine XQ.seq E0_ok (by kernel_rfl) ?_
  refine XQ.region (by kernel_rfl) ?_
  refine XR.run E0_ok 1 2 [0, 1] rfl (σ' := [(0, .int .i64 a), (1, .int .i64 b)]) (h' := []) (c' := 0) (by kernel_rfl) ?_
  refine XR.done (by kernel_rfl) ?_
  show XQ _ _ _ _ _ _ _ _
  refine XQ.seq E0_ok (by kernel_rfl) ?_
  refine XQ.seq E0_ok (by kernel_rfl) ?_
  refine XQ.region (by kernel_rfl) ?_
  refine XR.run E0_ok 1 2 [0, 1, 7, 8] rfl (σ' := [(0, .int .i64 a), (1, .int .i64 b), (7, .int .i64 a), (8, .int .i64 b)]) (h' := []) (c' := 0) (by kernel_rfl) ?_
  obtain ⟨r1, r1_h, h⟩ := bS h
  refine XR.call E0_ok [0, 1, 9] rfl (K := 64) (args := [.int .i64 a, .int .i64 b]) (d := (some (path 12 9))) (by kernel_rfl) (KC.of_calls E0_ok (F := Proofs.Try.f64) (v := .bool r1) (by kernel_rfl) rfl rfl (fun w hI => f64_ok m a b r1 r1_h w hI)) ?_
  rintro _ _ _ ⟨rfl, rfl, rfl⟩
  refine XR.conv (σ' := [(0, .int .i64 a), (1, .int .i64 b), (9, .bool r1)]) (h' := []) (c' := 0) ?_ (by kernel_rfl)
  refine XR.run E0_ok 1 1 [0, 1, 10] rfl (σ' := [(0, .int .i64 a), (1, .int .i64 b), (10, .bool (!r1))]) (h' := []) (c' := 0) (by kernel_rfl) ?_
  refine XR.done (by kernel_rfl) ?_
  show XQ _ _ _ _ _ _ _ _
  cases b1 : (!r1 : Bool) with
  | true =>
    have h := cT b1 h
    refine XQ.cond (s := (.tmp 10)) (b := true) (by kernel_rfl) (by kernel_rfl) (fun _ => ?_) (fun q => by cases q)
    refine XQ.seq E0_ok (by kernel_rfl) ?_
    refine XQ.region (by kernel_rfl) ?_
    refine XR.run E0_ok 1 2 [4, 5] rfl (σ' := [(4, .slice none 0 0), (5, .int .i64 1)]) (h' := []) (c' := 0) (by kernel_rfl) ?_
    refine XR.done (by kernel_rfl) ?_
    show XQ _ _ _ _ _ _ _ _
    refine XQ.ghost 3 1 rfl (σ' := [(4, .slice (some ⟨0, 0, none⟩) 0 0), (5, .int .i64 1)]) (h' := []) ⟨by kernel_rfl, by kernel_rfl, trivial⟩ trivial ?_
    refine XQ.conv (σ' := [(4, .slice (some ⟨0, 0, none⟩) 0 0), (5, .int .i64 1)]) (h' := [(0, .cells (rowC (encI .i64) []) 0 3 1)]) (c' := 1) ?_ (by kernel_rfl)
    refine XQ.ren (σ' := [(4, .slice (some ⟨0, 0, none⟩) 0 0), (5, .int .i64 1)]) (h' := [(0, .cells (rowC (encI .i64) []) 0 3 1)]) (c' := 1) [0] (by decide) rfl ⟨by kernel_rfl, by kernel_rfl, trivial⟩ ⟨⟨_, _, rfl, rfl, .inl ⟨rfl, rowC_scal (encI_ok .i64) _⟩⟩, trivial⟩ rfl ?_
    refine XQ.ret (by kernel_rfl) ?_
    have h := Option.some.inj h
    subst h
    exact ⟨fun i q => (by cases q), .tuple #[.slice (some ⟨0, 0, none⟩) 0 0, .int .i64 1], (by kernel_rfl), (by kernel_rfl), (by kernel_rfl), rfl⟩
  | false =>
    have h := cF b1 h
    refine XQ.cond (s := (.tmp 10)) (b := false) (by kernel_rfl) (by kernel_rfl) (fun q => by cases q) (fun _ => ?_)
    refine XQ.skip (by kernel_rfl) ?_
    show XQ _ _ _ _ _ _ _ _
    refine XQ.seq E0_ok (by kernel_rfl) ?_
    refine XQ.region (by kernel_rfl) ?_
    refine XR.run E0_ok 1 1 [0, 1, 6] rfl (σ' := [(0, .int .i64 a), (1, .int .i64 b), (6, .slice none 0 0)]) (h' := []) (c' := 0) (by kernel_rfl) ?_
    refine XR.done (by kernel_rfl) ?_
    show XQ _ _ _ _ _ _ _ _
    refine XQ.ghost 3 1 rfl (σ' := [(0, .int .i64 a), (1, .int .i64 b), (6, .slice (some ⟨0, 0, none⟩) 0 0)]) (h' := []) ⟨by kernel_rfl, by kernel_rfl, by kernel_rfl, trivial⟩ trivial ?_
    refine XQ.conv (σ' := [(0, .int .i64 a), (1, .int .i64 b), (6, .slice (some ⟨0, 0, none⟩) 0 0)]) (h' := [(0, .cells (rowC (encI .i64) []) 0 3 1)]) (c' := 1) ?_ (by kernel_rfl)
    refine XQ.seq E0_ok (by kernel_rfl) ?_
    refine XQ.block (id := 0) (by kernel_rfl) ?_
    refine XQ.loop m (by kernel_rfl) ?_
    obtain ⟨o1, o1_h, h⟩ := bS h
    refine XL.ren (σ' := [(0, .int .i64 a), (1, .int .i64 b), (6, .slice (some ⟨0, 0, none⟩) 0 0)]) (h' := [(0, .cells (rowC (encI .i64) []) 0 3 1)]) (c' := 1) [0] (by decide) rfl ⟨by kernel_rfl, by kernel_rfl, by kernel_rfl, trivial⟩ ⟨⟨_, _, rfl, rfl, .inl ⟨rfl, rowC_scal (encI_ok .i64) _⟩⟩, trivial⟩ rfl ?_
    refine XL.conv (f41_1_ok m m a b [] o1 o1_h _ ?_) (by first | rfl | simp)
    show XQ _ _ _ _ _ _ _ _
    refine XQ.seq E0_ok (by kernel_rfl) ?_
    refine XQ.region (by kernel_rfl) ?_
    refine XR.run E0_ok 1 3 [4, 5] rfl (σ' := [(4, .slice (some ⟨0, 0, none⟩) o1.length o1.length), (5, .int .i64 0)]) (h' := [(0, .cells (rowC (encI .i64) o1) 0 3 1)]) (c' := 1) (by kernel_rfl) ?_
    refine XR.done (by kernel_rfl) ?_
    show XQ _ _ _ _ _ _ _ _
    refine XQ.ren (σ' := [(4, .slice (some ⟨0, 0, none⟩) o1.length o1.length), (5, .int .i64 0)]) (h' := [(0, .cells (rowC (encI .i64) o1) 0 3 1)]) (c' := 1) [0] (by decide) rfl ⟨by kernel_rfl, by kernel_rfl, trivial⟩ ⟨⟨_, _, rfl, rfl, .inl ⟨rfl, rowC_scal (encI_ok .i64) _⟩⟩, trivial⟩ rfl ?_
    refine XQ.ret (by kernel_rfl) ?_
    have h := Option.some.inj h
    subst h
    exact ⟨fun i q => (by cases q), .tuple #[.slice (some ⟨0, 0, none⟩) o1.length o1.length, .int .i64 0], (by kernel_rfl), (by kernel_rfl), (by kernel_rfl), rfl⟩

/-! vitola/vitolaref05.Chain -/
noncomputable def f42_C42 : Code := Proofs.Try.f42.body.getD .skip
noncomputable def f42_L1 : Code := lft (lft (rgt (lft (rgt (rgt (rgt (rgt f42_C42)))))))

def f42_1 (m : Nat) : Nat → Int → Int → List Int → Option (List Int)
  | 0, _, _, _ => none
  | fuel + 1, x8_1, x9_1, lh0_1 =>
    cond (decide (x9_1 > 0)) (
      cond (x9_1 != 0) (
        cond (fitsB (lh0_1.length + 1) 8) (
          f42_1 m fuel x9_1 (Int.tmod x8_1 x9_1) (lh0_1 ++ [w64 (Int.tdiv x8_1 x9_1)])
        ) none
      ) none
    ) (
      some (lh0_1)
    )

theorem f42_1_ok (m : Nat) : ∀ (fuel : Nat) (x8_1 : Int) (x9_1 : Int) (lh0_1 : List Int) (o : (List Int)), f42_1 m fuel x8_1 x9_1 lh0_1 = some o → ∀ Q : QP, Q (.exit 0) [(7, .slice (some ⟨0, 0, none⟩) o.length o.length)] [(0, .cells (rowC (encI .i64) o) 0 3 1)] 1 → XL E0 31 0 fuel f42_L1 [(7, .slice (some ⟨0, 0, none⟩) lh0_1.length lh0_1.length), (8, .int .i64 x8_1), (9, .int .i64 x9_1)] [(0, .cells (rowC (encI .i64) lh0_1) 0 3 1)] 1 Q
  | 0, x8_1, x9_1, lh0_1, o, h, Q, hQ => by cases h
  | fuel + 1, x8_1, x9_1, lh0_1, o, h, Q, hQ => by
    unfold f42_1 at h
    refine XL.succ E0_ok ?_
    refine XQ.seq E0_ok (by kernel_rfl) ?_
    refine XQ.seq E0_ok (by kernel_rfl) ?_
    refine XQ.region (by kernel_rfl) ?_
    refine XR.run E0_ok 1 2 [7, 8, 9, 19] rfl (σ' := [(7, .slice (some ⟨0, 0, none⟩) lh0_1.length lh0_1.length), (8, .int .i64 x8_1), (9, .int .i64 x9_1), (19, .bool (decide (x9_1 > 0)))]) (h' := [(0, .cells (rowC (encI .i64) lh0_1) 0 3 1)]) (c' := 1) (by kernel_rfl) ?_
    refine XR.done (by kernel_rfl) ?_
    show XQ _ _ _ _ _ _ _ _
    cases b1 : (decide (x9_1 > 0) : Bool) with
    | true =>
      have h := cT b1 h
      refine XQ.cond (s := (.tmp 19)) (b := true) (by kernel_rfl) (by kernel_rfl) (fun _ => ?_) (fun q => by cases q)
      refine XQ.skip (by kernel_rfl) ?_
      show XQ _ _ _ _ _ _ _ _
      refine XQ.seq E0_ok (by kernel_rfl) ?_
      refine XQ.block (id := 1) (by kernel_rfl) ?_
      refine XQ.region (by kernel_rfl) ?_
      refine XR.run E0_ok 1 3 [8, 9, 24, 25, 26] rfl (σ' := [(8, .int .i64 x8_1), (9, .int .i64 x9_1), (24, .slice (some ⟨0, 0, none⟩) lh0_1.length lh0_1.length), (25, .int .i64 x8_1), (26, .int .i64 x9_1)]) (h' := [(0, .cells (rowC (encI .i64) lh0_1) 0 3 1)]) (c' := 1) (by kernel_rfl) ?_
      cases b2 : (x9_1 != 0 : Bool) with
      | false => cases (cF b2 h)
      | true =>
        have h := cT b2 h
        have e3 : insV (headI ((gsOf E0 31 (opsOf (lft (lft (rgt f42_L1))))).drop 3) (trS 31 [(8, .int .i64 x8_1), (9, .int .i64 x9_1), (24, .slice (some ⟨0, 0, none⟩) lh0_1.length lh0_1.length), (25, .int .i64 x8_1), (26, .int .i64 x9_1)])) (trS 31 [(8, .int .i64 x8_1), (9, .int .i64 x9_1), (24, .slice (some ⟨0, 0, none⟩) lh0_1.length lh0_1.length), (25, .int .i64 x8_1), (26, .int .i64 x9_1)]) [(0, .cells (rowC (encI .i64) lh0_1) 0 3 1)] = (match (x9_1 != 0 : Bool) with | true => some (.int .i64 (w64 (Int.tdiv x8_1 x9_1))) | false => none) := by kernel_rfl
        refine XR.rd E0_ok [8, 9, 24, 27] rfl (e3.trans (by rw [b2])) (σ' := [(8, .int .i64 x8_1), (9, .int .i64 x9_1), (24, .slice (some ⟨0, 0, none⟩) lh0_1.length lh0_1.length), (27, .int .i64 (w64 (Int.tdiv x8_1 x9_1)))]) (by kernel_rfl) ?_
        refine XR.run E0_ok 1 1 [8, 9, 24, 28] rfl (σ' := [(8, .int .i64 x8_1), (9, .int .i64 x9_1), (24, .slice (some ⟨0, 0, none⟩) lh0_1.length lh0_1.length), (28, .slice (some ⟨1, 0, none⟩) 1 1)]) (h' := [(1, .cells [.int .i64 (w64 (Int.tdiv x8_1 x9_1))] 0 3 1), (0, .cells (rowC (encI .i64) lh0_1) 0 3 1)]) (c' := 2) (by kernel_rfl) ?_
        cases b4 : (fitsB (lh0_1.length + 1) 8 : Bool) with
        | false => cases (cF b4 h)
        | true =>
          have h := cT b4 h
          refine XR.ef E0_ok [8, 9, 29] rfl (e_append (encI_ok .i64) (bytes := 8) (e := 3) (x := (src 31 (.tmp 24))) (y := (src 31 (.tmp 28))) (b := 0) (len := lh0_1.length) (cap := lh0_1.length) (xs := lh0_1) (m := 0) (ys := [w64 (Int.tdiv x8_1 x9_1)]) (d := (some (path 12 29))) (n' := (lh0_1 ++ [w64 (Int.tdiv x8_1 x9_1)]).length) (h' := [(2, .cells (rowC (encI .i64) (lh0_1 ++ [w64 (Int.tdiv x8_1 x9_1)])) 0 3 1), (1, .cells [.int .i64 (w64 (Int.tdiv x8_1 x9_1))] 0 3 1)]) (by kernel_rfl) (by kernel_rfl) (by kernel_rfl) (by kernel_rfl) rfl (by simp) (by simp) b4 (by simp) (by kernel_rfl)) (σ' := [(8, .int .i64 x8_1), (9, .int .i64 x9_1), (29, .slice (some ⟨2, 0, none⟩) ((lh0_1 ++ [w64 (Int.tdiv x8_1 x9_1)]).length) ((lh0_1 ++ [w64 (Int.tdiv x8_1 x9_1)]).length))]) (by kernel_rfl) ?_
          refine XR.run E0_ok 1 1 [7, 8, 9] rfl (σ' := [(7, .slice (some ⟨2, 0, none⟩) ((lh0_1 ++ [w64 (Int.tdiv x8_1 x9_1)]).length) ((lh0_1 ++ [w64 (Int.tdiv x8_1 x9_1)]).length)), (8, .int .i64 x8_1), (9, .int .i64 x9_1)]) (h' := [(2, .cells (rowC (encI .i64) (lh0_1 ++ [w64 (Int.tdiv x8_1 x9_1)])) 0 3 1), (1, .cells [.int .i64 (w64 (Int.tdiv x8_1 x9_1))] 0 3 1)]) (c' := 3) (by kernel_rfl) ?_
          refine XR.done (by kernel_rfl) ?_
          show XQ _ _ _ _ _ _ _ _
          refine XQ.quiet E0_ok (by kernel_rfl) (by kernel_rfl) ?_
          refine XU.run E0_ok 1 3 [7, 20, 21, 22] rfl (σ' := [(7, .slice (some ⟨2, 0, none⟩) ((lh0_1 ++ [w64 (Int.tdiv x8_1 x9_1)]).length) ((lh0_1 ++ [w64 (Int.tdiv x8_1 x9_1)]).length)), (20, .int .i64 x9_1), (21, .int .i64 x8_1), (22, .int .i64 x9_1)]) (by kernel_rfl) ?_
          have e5 : insV (headI ((gsOf E0 31 (opsOf (rgt (rgt f42_L1)))).drop 3) (trS 31 [(7, .slice (some ⟨2, 0, none⟩) ((lh0_1 ++ [w64 (Int.tdiv x8_1 x9_1)]).length) ((lh0_1 ++ [w64 (Int.tdiv x8_1 x9_1)]).length)), (20, .int .i64 x9_1), (21, .int .i64 x8_1), (22, .int .i64 x9_1)])) (trS 31 [(7, .slice (some ⟨2, 0, none⟩) ((lh0_1 ++ [w64 (Int.tdiv x8_1 x9_1)]).length) ((lh0_1 ++ [w64 (Int.tdiv x8_1 x9_1)]).length)), (20, .int .i64 x9_1), (21, .int .i64 x8_1), (22, .int .i64 x9_1)]) [(2, .cells (rowC (encI .i64) (lh0_1 ++ [w64 (Int.tdiv x8_1 x9_1)])) 0 3 1), (1, .cells [.int .i64 (w64 (Int.tdiv x8_1 x9_1))] 0 3 1)] = (match (x9_1 != 0 : Bool) with | true => some (.int .i64 (Int.tmod x8_1 x9_1)) | false => none) := by kernel_rfl
          refine XU.rd E0_ok [7, 20, 23] rfl (e5.trans (by rw [b2])) (σ' := [(7, .slice (some ⟨2, 0, none⟩) ((lh0_1 ++ [w64 (Int.tdiv x8_1 x9_1)]).length) ((lh0_1 ++ [w64 (Int.tdiv x8_1 x9_1)]).length)), (20, .int .i64 x9_1), (23, .int .i64 (Int.tmod x8_1 x9_1))]) (by kernel_rfl) ?_
          refine XU.run E0_ok 1 2 [7, 8, 9] rfl (σ' := [(7, .slice (some ⟨2, 0, none⟩) ((lh0_1 ++ [w64 (Int.tdiv x8_1 x9_1)]).length) ((lh0_1 ++ [w64 (Int.tdiv x8_1 x9_1)]).length)), (8, .int .i64 x9_1), (9, .int .i64 (Int.tmod x8_1 x9_1))]) (by kernel_rfl) ?_
          refine XU.done (by kernel_rfl) ?_
          show XL _ _ _ _ _ _ _ _ _
          refine XL.ren (σ' := [(7, .slice (some ⟨0, 0, none⟩) ((lh0_1 ++ [w64 (Int.tdiv x8_1 x9_1)]).length) ((lh0_1 ++ [w64 (Int.tdiv x8_1 x9_1)]).length)), (8, .int .i64 x9_1), (9, .int .i64 (Int.tmod x8_1 x9_1))]) (h' := [(0, .cells (rowC (encI .i64) (lh0_1 ++ [w64 (Int.tdiv x8_1 x9_1)])) 0 3 1)]) (c' := 1) [2] (by decide) rfl ⟨by kernel_rfl, by kernel_rfl, by kernel_rfl, trivial⟩ ⟨⟨_, _, rfl, rfl, .inl ⟨rfl, rowC_scal (encI_ok .i64) _⟩⟩, trivial⟩ rfl ?_
          refine XL.conv (f42_1_ok m fuel x9_1 (Int.tmod x8_1 x9_1) (lh0_1 ++ [w64 (Int.tdiv x8_1 x9_1)]) o h Q hQ) (by first | rfl | simp)
    | false =>
      have h := cF b1 h
      refine XQ.cond (s := (.tmp 19)) (b := false) (by kernel_rfl) (by kernel_rfl) (fun q => by cases q) (fun _ => ?_)
      refine XQ.ren (σ' := [(7, .slice (some ⟨0, 0, none⟩) lh0_1.length lh0_1.length)]) (h' := [(0, .cells (rowC (encI .i64) lh0_1) 0 3 1)]) (c' := 1) [0] (by decide) rfl ⟨by kernel_rfl, trivial⟩ ⟨⟨_, _, rfl, rfl, .inl ⟨rfl, rowC_scal (encI_ok .i64) _⟩⟩, trivial⟩ rfl ?_
      refine XQ.exit (i := 0) (by kernel_rfl) ?_
      cases h
      exact hQ

def f42 (m : Nat) (a : Int) (b : Int) : Option ((List Int) × Int) :=
  (f66 m a b).bind fun r1 =>
    cond (r1 != 0) (
      some ([], r1)
    ) (
      (f42_1 m m a b []).bind fun o1 =>
        some (o1, 0)
    )

theorem f42_ok (m : Nat) (a : Int) (b : Int) (o : (List Int) × Int) (h : f42 m a b = some o) : KC E0 42 [.int .i64 a, .int .i64 b] [] 0 (fun v h' c' => v = .tuple #[.slice (some ⟨0, 0, none⟩) o.1.length o.1.length, .int .i64 o.2] ∧ h' = [(0, .cells (rowC (encI .i64) o.1) 0 3 1)] ∧ c' = 1) := by
  refine KC.bodyN E0_ok (F := Proofs.Try.f42) (by kernel_rfl) (code := f42_C42) (by kernel_rfl) (nt := 31) (by kernel_rfl) (rs := [.tmp 4, .tmp 5]) (by kernel_rfl) (by kernel_rfl) (σ := [(0, .int .i64 a), (1, .int .i64 b)]) (by kernel_rfl) ?_
  unfold f42 at h
  refine XQ.seq E0_ok (by kernel_rfl) ?_
  refine XQ.region (by kernel_rfl) ?_
  refine XR.run E0_ok 1 2 [0, 1] rfl (σ' := [(0, .int .i64 a), (1, .int .i64 b)]) (h' := []) (c' := 0) (by kernel_rfl) ?_
  refine XR.done (by kernel_rfl) ?_
  show XQ _ _ _ _ _ _ _ _
  refine XQ.seq E0_ok (by kernel_rfl) ?_
  refine XQ.region (by kernel_rfl) ?_
  refine XR.run E0_ok 1 2 [0, 1, 10, 11] rfl (σ' := [(0, .int .i64 a), (1, .int .i64 b), (10, .int .i64 a), (11, .int .i64 b)]) (h' := []) (c' := 0) (by kernel_rfl) ?_
  obtain ⟨r1, r1_h, h⟩ := bS h
  refine XR.call E0_ok [0, 1, 12] rfl (K := 66) (args := [.int .i64 a, .int .i64 b]) (d := (some (path 12 12))) (by kernel_rfl) (KC.of_calls E0_ok (F := Proofs.Try.f66) (v := .int .i64 r1) (by kernel_rfl) rfl rfl (fun w hI => f66_ok m a b r1 r1_h w hI)) ?_
  rintro _ _ _ ⟨rfl, rfl, rfl⟩
  refine XR.conv (σ' := [(0, .int .i64 a), (1, .int .i64 b), (12, .int .i64 r1)]) (h' := []) (c' := 0) ?_ (by kernel_rfl)
  refine XR.run E0_ok 1 1 [0, 1, 6] rfl (σ' := [(0, .int .i64 a), (1, .int .i64 b), (6, .int .i64 r1)]) (h' := []) (c' := 0) (by kernel_rfl) ?_
  refine XR.done (by kernel_rfl) ?_
  show XQ _ _ _ _ _ _ _ _
  refine XQ.seq E0_ok (by kernel_rfl) ?_
  refine XQ.seq E0_ok (by kernel_rfl) ?_
  refine XQ.region (by kernel_rfl) ?_
  refine XR.run E0_ok 1 2 [0, 1, 6, 14] rfl (σ' := [(0, .int .i64 a), (1, .int .i64 b), (6, .int .i64 r1), (14, .bool (r1 != 0))]) (h' := []) (c' := 0) (by kernel_rfl) ?_
  refine XR.done (by kernel_rfl) ?_
  show XQ _ _ _ _ _ _ _ _
  cases b1 : (r1 != 0 : Bool) with
  | true =>
    have h := cT b1 h
    refine XQ.cond (s := (.tmp 14)) (b := true) (by kernel_rfl) (by kernel_rfl) (fun _ => ?_) (fun q => by cases q)
    refine XQ.seq E0_ok (by kernel_rfl) ?_
    refine XQ.region (by kernel_rfl) ?_
    refine XR.run E0_ok 1 3 [4, 5] rfl (σ' := [(4, .slice none 0 0), (5, .int .i64 r1)]) (h' := []) (c' := 0) (by kernel_rfl) ?_
    refine XR.done (by kernel_rfl) ?_
    show XQ _ _ _ _ _ _ _ _
    refine XQ.ghost 3 1 rfl (σ' := [(4, .slice (some ⟨0, 0, none⟩) 0 0), (5, .int .i64 r1)]) (h' := []) ⟨by kernel_rfl, by kernel_rfl, trivial⟩ trivial ?_
    refine XQ.conv (σ' := [(4, .slice (some ⟨0, 0, none⟩) 0 0), (5, .int .i64 r1)]) (h' := [(0, .cells (rowC (encI .i64) []) 0 3 1)]) (c' := 1) ?_ (by kernel_rfl)
    refine XQ.ren (σ' := [(4, .slice (some ⟨0, 0, none⟩) 0 0), (5, .int .i64 r1)]) (h' := [(0, .cells (rowC (encI .i64) []) 0 3 1)]) (c' := 1) [0] (by decide) rfl ⟨by kernel_rfl, by kernel_rfl, trivial⟩ ⟨⟨_, _, rfl, rfl, .inl ⟨rfl, rowC_scal (encI_ok .i64) _⟩⟩, trivial⟩ rfl ?_
    refine XQ.ret (by kernel_rfl) ?_
    have h := Option.some.inj h
    subst h
    exact ⟨fun i q => (by cases q), .tuple #[.slice (some ⟨0, 0, none⟩) 0 0, .int .i64 r1], (by kernel_rfl), (by kernel_rfl), (by kernel_rfl), rfl⟩
  | false =>
    have h := cF b1 h
    refine XQ.cond (s := (.tmp 14)) (b := false) (by kernel_rfl) (by kernel_rfl) (fun q => by cases q) (fun _ => ?_)
    refine XQ.skip (by kernel_rfl) ?_
    show XQ _ _ _ _ _ _ _ _
    refine XQ.seq E0_ok (by kernel_rfl) ?_
    refine XQ.region (by kernel_rfl) ?_
    refine XR.run E0_ok 1 1 [0, 1, 7] rfl (σ' := [(0, .int .i64 a), (1, .int .i64 b), (7, .slice none 0 0)]) (h' := []) (c' := 0) (by kernel_rfl) ?_
    refine XR.done (by kernel_rfl) ?_
    show XQ _ _ _ _ _ _ _ _
    refine XQ.ghost 3 1 rfl (σ' := [(0, .int .i64 a), (1, .int .i64 b), (7, .slice (some ⟨0, 0, none⟩) 0 0)]) (h' := []) ⟨by kernel_rfl, by kernel_rfl, by kernel_rfl, trivial⟩ trivial ?_
    refine XQ.conv (σ' := [(0, .int .i64 a), (1, .int .i64 b), (7, .slice (some ⟨0, 0, none⟩) 0 0)]) (h' := [(0, .cells (rowC (encI .i64) []) 0 3 1)]) (c' := 1) ?_ (by kernel_rfl)
    refine XQ.seq E0_ok (by kernel_rfl) ?_
    refine XQ.seq E0_ok (by kernel_rfl) ?_
    refine XQ.region (by kernel_rfl) ?_
    refine XR.run E0_ok 1 4 [7, 8, 9] rfl (σ' := [(7, .slice (some ⟨0, 0, none⟩) 0 0), (8, .int .i64 a), (9, .int .i64 b)]) (h' := [(0, .cells (rowC (encI .i64) []) 0 3 1)]) (c' := 1) (by kernel_rfl) ?_
    refine XR.done (by kernel_rfl) ?_
    show XQ _ _ _ _ _ _ _ _
    refine XQ.block (id := 0) (by kernel_rfl) ?_
    refine XQ.loop m (by kernel_rfl) ?_
    obtain ⟨o1, o1_h, h⟩ := bS h
    refine XL.ren (σ' := [(7, .slice (some ⟨0, 0, none⟩) 0 0), (8, .int .i64 a), (9, .int .i64 b)]) (h' := [(0, .cells (rowC (encI .i64) []) 0 3 1)]) (c' := 1) [0] (by decide) rfl ⟨by kernel_rfl, by kernel_rfl, by kernel_rfl, trivial⟩ ⟨⟨_, _, rfl, rfl, .inl ⟨rfl, rowC_scal (encI_ok .i64) _⟩⟩, trivial⟩ rfl ?_
    refine XL.conv (f42_1_ok m m a b [] o1 o1_h _ ?_) (by first | rfl | simp)
    show XQ _ _ _ _ _ _ _ _
    refine XQ.seq E0_ok (by kernel_rfl) ?_
    refine XQ.region (by kernel_rfl) ?_
    refine XR.run E0_ok 1 3 [4, 5] rfl (σ' := [(4, .slice (some ⟨0, 0, none⟩) o1.length o1.length), (5, .int .i64 0)]) (h' := [(0, .cells (rowC (encI .i64) o1) 0 3 1)]) (c' := 1) (by kernel_rfl) ?_
    refine XR.done (by kernel_rfl) ?_
    show XQ _ _ _ _ _ _ _ _
    refine XQ.ren (σ' := [(4, .slice (some ⟨0, 0, none⟩) o1.length o1.length), (5, .int .i64 0)]) (h' := [(0, .cells (rowC (encI .i64) o1) 0 3 1)]) (c' := 1) [0] (by decide) rfl ⟨by kernel_rfl, by kernel_rfl, trivial⟩ ⟨⟨_, _, rfl, rfl, .inl ⟨rfl, rowC_scal (encI_ok .i64) _⟩⟩, trivial⟩ rfl ?_
    refine XQ.ret (by kernel_rfl) ?_
    have h := Option.some.inj h
    subst h
    exact ⟨fun i q => (by cases q), .tuple #[.slice (some ⟨0, 0, none⟩) o1.length o1.length, .int .i64 0], (by kernel_rfl), (by kernel_rfl), (by kernel_rfl), rfl⟩

end Go.Xm
