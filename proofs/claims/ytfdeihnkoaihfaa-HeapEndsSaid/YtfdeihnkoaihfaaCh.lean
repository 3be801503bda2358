/- What these functions of the program compute, as functions in Lean, and the proofs that they do: slices.Max[[]int,int], vitolalaw02.HeapEnds. Conditions: none. -/
import Derived.Test.YtfdeihnkoaihfaaCg
import Derived.Test.YtfdeihnkoaihfaaBb
import Derived.Test.YtfdeihnkoaihfaaCd
namespace Go.Xm
open Go.RowKit
set_option linter.unusedVariables false
set_option linter.unusedSimpArgs false
set_option maxRecDepth 20000

/-! slices.Max[[]int,int] -/
noncomputable def f49_C49 : Code := Proofs.Try.f49.body.getD .skip
noncomputable def f49_L1 : Code := lft (lft (rgt (lft (rgt (rgt (rgt f49_C49))))))

def f49_1 (m : Nat) : Nat → List Int → Int → Int → Option Int
  | 0, _, _, _ => none
  | fuel + 1, a, x3_1, x4_1 =>
    cond (decide (x4_1 < ((a.length : Nat) : Int))) (
      cond (inRow x4_1 a.length) (
        f49_1 m fuel a (iMax x3_1 (List.getD a (Int.toNat x4_1) 0)) (w64 (x4_1 + 1))
      ) none
    ) (
      some (x3_1)
    )

theorem f49_1_ok (m : Nat) : ∀ (fuel : Nat) (z0 : Nat) (y0 : Nat) (a : List Int) (x3_1 : Int) (x4_1 : Int) (o : Int), f49_1 m fuel a x3_1 x4_1 = some o → ∀ Q : QP, Q (.exit 0) [(3, ii o)] [(0, rc (encI .i64) a z0 y0 1)] 1 → XL E0 25 1 fuel f49_L1 [(0, s0 0 a.length), (3, ii x3_1), (4, ii x4_1)] [(0, rc (encI .i64) a z0 y0 1)] 1 Q
  | 0, z0, y0, a, x3_1, x4_1, o, h, Q, hQ => by cases h
  | fuel + 1, z0, y0, a, x3_1, x4_1, o, h, Q, hQ => by
    unfold f49_1 at h
    refine XL.succ E0_ok ?_
    refine XQ.seq E0_ok (by kernel_rfl) ?_
    refine XQ.seq E0_ok (by kernel_rfl) ?_
    refine XQ.region (by kernel_rfl) ?_
    refine XR.runS E0_ok 1 4 [(0, s0 0 a.length), (3, ii x3_1), (4, ii x4_1), (15, .bool (decide (x4_1 < ((a.length : Nat) : Int))))] rfl (by kernel_rfl) ?_
    refine XR.done (by kernel_rfl) ?_
    show XQ _ _ _ _ _ _ _ _
    cases b1 : (decide (x4_1 < ((a.length : Nat) : Int)) : Bool) with
    | true =>
      have h := cT b1 h
      refine XQ.cond (s := (.tmp 15)) (b := true) (by kernel_rfl) (by kernel_rfl) (fun _ => ?_) (fun q => by cases q)
      refine XQ.skip (by kernel_rfl) ?_
      show XQ _ _ _ _ _ _ _ _
      refine XQ.seq E0_ok (by kernel_rfl) ?_
      refine XQ.block (id := 1) (by kernel_rfl) ?_
      refine XQ.region (by kernel_rfl) ?_
      refine XR.runS E0_ok 1 3 [(0, s0 0 a.length), (4, ii x4_1), (18, ii x3_1), (19, s0 0 a.length), (20, ii x4_1)] rfl (by kernel_rfl) ?_
      cases b2 : (inRow x4_1 a.length : Bool) with
      | false => cases (cF b2 h)
      | true =>
        have h := cT b2 h
        refine XR.rd E0_ok [0, 4, 18, 21] rfl (v := pp 0 ((Int.toNat x4_1) * 1)) (v_idx (s := 1) (x := (src 25 (.tmp 19))) (y := (src 25 (.tmp 20))) (b := 0) (o := 0) (len := a.length) (cap := a.length) (ik := .i64) (i := x4_1) (off := (Int.toNat x4_1) * 1) (d := (some (path 12 21))) (by kernel_rfl) (by kernel_rfl) (by kernel_rfl) b2 (by omega)) (σ' := [(0, s0 0 a.length), (4, ii x4_1), (18, ii x3_1), (21, pp 0 ((Int.toNat x4_1) * 1))]) (by kernel_rfl) ?_
        refine XR.rd E0_ok [0, 4, 18, 22] rfl (v := ii (List.getD a (Int.toNat x4_1) 0)) (v_load1 (encI_ok .i64) (x := (src 25 (.tmp 21))) (b := 0) (off := (Int.toNat x4_1) * 1) (xs := a) (fz := z0) (e := y0) (es := 1) (d := (some (path 12 22))) (by kernel_rfl) (by kernel_rfl) (by kernel_rfl) (Int.toNat x4_1) 0 0 (by first | rfl | omega) (row_len (inRow_toNat b2) (by simp)) rfl rfl) (σ' := [(0, s0 0 a.length), (4, ii x4_1), (18, ii x3_1), (22, ii (List.getD a (Int.toNat x4_1) 0))]) (by kernel_rfl) ?_
        refine XR.runS E0_ok 1 2 [(0, s0 0 a.length), (3, ii (iMax x3_1 (List.getD a (Int.toNat x4_1) 0))), (4, ii x4_1)] rfl (by kernel_rfl) ?_
        refine XR.done (by kernel_rfl) ?_
        show XQ _ _ _ _ _ _ _ _
        refine XQ.region (by kernel_rfl) ?_
        refine XR.runS E0_ok 1 3 [(0, s0 0 a.length), (3, ii (iMax x3_1 (List.getD a (Int.toNat x4_1) 0))), (4, ii (w64 (x4_1 + 1)))] rfl (by kernel_rfl) ?_
        refine XR.done (by kernel_rfl) ?_
        show XL _ _ _ _ _ _ _ _ _
        refine XL.ren (σ' := [(0, s0 0 a.length), (3, ii (iMax x3_1 (List.getD a (Int.toNat x4_1) 0))), (4, ii (w64 (x4_1 + 1)))]) (h' := [(0, rc (encI .i64) a z0 y0 1)]) (c' := 1) [0] (by decide) rfl ⟨by kernel_rfl, by kernel_rfl, by kernel_rfl, trivial⟩ ⟨⟨_, _, rfl, rfl, .inl ⟨rfl, rowC_scal (encI_ok .i64) _⟩⟩, trivial⟩ rfl ?_
        refine XL.conv (f49_1_ok m fuel z0 y0 a (iMax x3_1 (List.getD a (Int.toNat x4_1) 0)) (w64 (x4_1 + 1)) o h Q hQ) (by first | rfl | simp)
    | false =>
      have h := cF b1 h
      refine XQ.cond (s := (.tmp 15)) (b := false) (by kernel_rfl) (by kernel_rfl) (fun q => by cases q) (fun _ => ?_)
      refine XQ.ren (σ' := [(3, ii x3_1)]) (h' := [(0, rc (encI .i64) a z0 y0 1)]) (c' := 1) [0] (by decide) rfl ⟨by kernel_rfl, trivial⟩ ⟨⟨_, _, rfl, rfl, .inl ⟨rfl, rowC_scal (encI_ok .i64) _⟩⟩, trivial⟩ rfl ?_
      refine XQ.exit (i := 0) (by kernel_rfl) ?_
      cases h
      exact hQ

def f49 (m : Nat) (a : List Int) : Option (Int) :=
  cond (decide (((a.length : Nat) : Int) < 1)) (
    none
  ) (
    cond (inRow 0 a.length) (
      (f49_1 m m a (List.getD a 0 0) 1).bind fun o1 =>
        some (o1)
    ) none
  )

theorem f49_ok (m : Nat) (z0 : Nat) (y0 : Nat) (a : List Int) (o : Int) (h : f49 m a = some o) : KC E0 49 [s0 0 a.length] [(0, rc (encI .i64) a z0 y0 1)] 1 (fun v _ _ => v = ii o) := by
  refine KC.bodyN E0_ok (F := Proofs.Try.f49) (by kernel_rfl) (code := f49_C49) (by kernel_rfl) (nt := 25) (by kernel_rfl) (rs := [.tmp 2]) (by kernel_rfl) (by kernel_rfl) (σ := [(0, s0 0 a.length)]) (by kernel_rfl) ?_
  unfold f49 at h
  refine XQ.seq E0_ok (by kernel_rfl) ?_
  refine XQ.region (by kernel_rfl) ?_
  refine XR.runS E0_ok 1 1 [(0, s0 0 a.length)] rfl (by kernel_rfl) ?_
  refine XR.done (by kernel_rfl) ?_
  show XQ _ _ _ _ _ _ _ _
  refine XQ.seq E0_ok (by kernel_rfl) ?_
  refine XQ.seq E0_ok (by kernel_rfl) ?_
  refine XQ.region (by kernel_rfl) ?_
  refine XR.runS E0_ok 1 3 [(0, s0 0 a.length), (7, .bool (decide (((a.length : Nat) : Int) < 1)))] rfl (by kernel_rfl) ?_
  refine XR.done (by kernel_rfl) ?_
  show XQ _ _ _ _ _ _ _ _
  cases b1 : (decide (((a.length : Nat) : Int) < 1) : Bool) with
  | true =>
    have h := cT b1 h
    refine XQ.cond (s := (.tmp 7)) (b := true) (by kernel_rfl) (by kernel_rfl) (fun _ => ?_) (fun q => by cases q)
    refine XQ.region (by kernel_rfl) ?_
    cases h
  | false =>
    have h := cF b1 h
    refine XQ.cond (s := (.tmp 7)) (b := false) (by kernel_rfl) (by kernel_rfl) (fun q => by cases q) (fun _ => ?_)
    refine XQ.skip (by kernel_rfl) ?_
    show XQ _ _ _ _ _ _ _ _
    refine XQ.seq E0_ok (by kernel_rfl) ?_
    refine XQ.region (by kernel_rfl) ?_
    refine XR.runS E0_ok 1 1 [(0, s0 0 a.length), (9, s0 0 a.length)] rfl (by kernel_rfl) ?_
    cases b2 : (inRow 0 a.length : Bool) with
    | false => cases (cF b2 h)
    | true =>
      have h := cT b2 h
      refine XR.rd E0_ok [0, 10] rfl (v := pp 0 (0 * 1)) (v_idx (s := 1) (x := (src 25 (.tmp 9))) (y := (src 25 (.const (ii 0)))) (b := 0) (o := 0) (len := a.length) (cap := a.length) (ik := .i64) (i := 0) (off := 0 * 1) (d := (some (path 12 10))) (by kernel_rfl) (by kernel_rfl) (by kernel_rfl) b2 (by omega)) (σ' := [(0, s0 0 a.length), (10, pp 0 (0 * 1))]) (by kernel_rfl) ?_
      refine XR.rd E0_ok [0, 11] rfl (v := ii (List.getD a 0 0)) (v_load1 (encI_ok .i64) (x := (src 25 (.tmp 10))) (b := 0) (off := 0 * 1) (xs := a) (fz := z0) (e := y0) (es := 1) (d := (some (path 12 11))) (by kernel_rfl) (by kernel_rfl) (by kernel_rfl) 0 0 0 (by first | rfl | omega) (row_len (inRow_toNat b2) (by simp)) rfl rfl) (σ' := [(0, s0 0 a.length), (11, ii (List.getD a 0 0))]) (by kernel_rfl) ?_
      refine XR.runS E0_ok 1 1 [(0, s0 0 a.length), (3, ii (List.getD a 0 0))] rfl (by kernel_rfl) ?_
      refine XR.done (by kernel_rfl) ?_
      show XQ _ _ _ _ _ _ _ _
      refine XQ.seq E0_ok (by kernel_rfl) ?_
      refine XQ.seq E0_ok (by kernel_rfl) ?_
      refine XQ.region (by kernel_rfl) ?_
      refine XR.runS E0_ok 1 1 [(0, s0 0 a.length), (3, ii (List.getD a 0 0)), (4, ii 1)] rfl (by kernel_rfl) ?_
      refine XR.done (by kernel_rfl) ?_
      show XQ _ _ _ _ _ _ _ _
      refine XQ.block (id := 0) (by kernel_rfl) ?_
      refine XQ.loop m (by kernel_rfl) ?_
      obtain ⟨o1, o1_h, h⟩ := bS h
      refine XL.ren (σ' := [(0, s0 0 a.length), (3, ii (List.getD a 0 0)), (4, ii 1)]) (h' := [(0, rc (encI .i64) a z0 y0 1)]) (c' := 1) [0] (by decide) rfl ⟨by kernel_rfl, by kernel_rfl, by kernel_rfl, trivial⟩ ⟨⟨_, _, rfl, rfl, .inl ⟨rfl, rowC_scal (encI_ok .i64) _⟩⟩, trivial⟩ rfl ?_
      refine XL.conv (f49_1_ok m m z0 y0 a (List.getD a 0 0) 1 o1 o1_h _ ?_) (by first | rfl | simp)
      show XQ _ _ _ _ _ _ _ _
      refine XQ.seq E0_ok (by kernel_rfl) ?_
      refine XQ.region (by kernel_rfl) ?_
      refine XR.runS E0_ok 1 2 [(2, ii o1)] rfl (by kernel_rfl) ?_
      refine XR.done (by kernel_rfl) ?_
      show XQ _ _ _ _ _ _ _ _
      refine XQ.ret (by kernel_rfl) ?_
      have h := Option.some.inj h
      subst h
      exact ⟨fun i q => (by cases q), ii o1, (by kernel_rfl), rfl⟩

/-! vitola/vitolalaw02.HeapEnds -/
noncomputable def f11_C11 : Code := Proofs.Try.f11.body.getD .skip
noncomputable def f11_C47 : Code := Proofs.Try.f47.body.getD .skip
noncomputable def f11_C85 : Code := Proofs.Try.f85.body.getD .skip
noncomputable def f11_C48 : Code := Proofs.Try.f48.body.getD .skip
noncomputable def f11_L1 : Code := lft (lft (lft (rgt (rgt (rgt f11_C11)))))
noncomputable def f11_L3 : Code := lft (lft (rgt (lft (rgt (rgt f11_C85)))))

def f11_1 (m : Nat) : Nat → Int → Int → List (Int × Int) → Option (Int × (List (Int × Int)))
  | 0, _, _, _ => none
  | fuel + 1, c, x8_1, lh0_1 =>
    (f42 m lh0_1 x8_1).bind fun r4 =>
      cond (r4.2) (
        some (x8_1, lh0_1)
      ) (
        f11_1 m fuel c (w64 (x8_1 + 1)) lh0_1
      )

theorem f11_1_ok (m : Nat) : ∀ (fuel : Nat) (c : Int) (x8_1 : Int) (lh0_1 : List (Int × Int)) (o : (Int × (List (Int × Int)))), f11_1 m fuel c x8_1 lh0_1 = some o → ∀ Q : QP, Q (.exit 0) [(2, .int .u8 c), (7, s0 0 o.2.length), (8, ii o.1)] [(0, rc encP o.2 0 61 2)] 1 → XL E0 99 0 fuel f11_L1 [(2, .int .u8 c), (7, s0 0 lh0_1.length), (8, ii x8_1)] [(0, rc encP lh0_1 0 61 2)] 1 Q
  | 0, c, x8_1, lh0_1, o, h, Q, hQ => by cases h
  | fuel + 1, c, x8_1, lh0_1, o, h, Q, hQ => by
    unfold f11_1 at h
    refine XL.succ E0_ok ?_
    refine XQ.block (id := 1) (by kernel_rfl) ?_
    refine XQ.seq E0_ok (by kernel_rfl) ?_
    refine XQ.seq E0_ok (by kernel_rfl) ?_
    refine XQ.region (by kernel_rfl) ?_
    refine XR.runS E0_ok 1 2 [(2, .int .u8 c), (7, s0 0 lh0_1.length), (8, ii x8_1), (24, s0 0 lh0_1.length), (25, ii x8_1)] rfl (by kernel_rfl) ?_
    obtain ⟨r4, r4_h, h⟩ := bS h
    refine XR.call E0_ok [2, 7, 8, 26] rfl (K := 42) (args := [s0 0 lh0_1.length, ii x8_1]) (d := (some (path 12 26))) (by kernel_rfl) (KC.liftH (n0 := 1) (m := 1) (args0 := [s0 0 lh0_1.length, ii x8_1]) (h0 := [(0, rc encP lh0_1 (0 + ((rowC encP lh0_1).length + 1)) 61 2)]) (V := .tuple #[s0 1 r4.1.length, .bool r4.2]) (V2 := .tuple #[s0 1 r4.1.length, .bool r4.2]) (H := [(1, rc (encI .i64) r4.1 0 3 1)]) (H2 := [(1, rc (encI .i64) r4.1 0 3 1)]) [0] [2, 1] (f42_ok m (0 + ((rowC encP lh0_1).length + 1)) 61 lh0_1 x8_1 r4 r4_h) (by rfl) (by decide) rfl (by kernel_rfl) ⟨⟨_, _, rfl, rfl, .inl ⟨rfl, rowC_scal encP_ok _⟩⟩, trivial⟩ (by decide) (by decide) (by kernel_rfl) ⟨⟨_, _, rfl, rfl, .inl ⟨rfl, rowC_scal (encI_ok .i64) _⟩⟩, trivial⟩ (by rfl)) ?_
    rintro _ _ _ ⟨rfl, rfl, rfl⟩
    refine XR.conv (σ' := [(2, .int .u8 c), (7, s0 0 lh0_1.length), (8, ii x8_1), (26, .tuple #[s0 1 r4.1.length, .bool r4.2])]) (h' := [(1, rc (encI .i64) r4.1 0 3 1), (0, rc encP lh0_1 0 61 2)]) (c' := 2) ?_ (by kernel_rfl)
    refine XR.runS E0_ok 1 5 [(2, .int .u8 c), (7, s0 0 lh0_1.length), (8, ii x8_1), (10, .bool r4.2)] rfl (by kernel_rfl) ?_
    refine XR.done (by kernel_rfl) ?_
    show XQ _ _ _ _ _ _ _ _
    refine XQ.seq E0_ok (by kernel_rfl) ?_
    refine XQ.region (by kernel_rfl) ?_
    refine XR.runS E0_ok 1 1 [(2, .int .u8 c), (7, s0 0 lh0_1.length), (8, ii x8_1), (29, .bool r4.2)] rfl (by kernel_rfl) ?_
    refine XR.done (by kernel_rfl) ?_
    show XQ _ _ _ _ _ _ _ _
    cases b1 : (r4.2 : Bool) with
    | true =>
      have h := cT b1 h
      refine XQ.cond (s := (.tmp 29)) (b := true) (by kernel_rfl) (by kernel_rfl) (fun _ => ?_) (fun q => by cases q)
      refine XQ.ren (σ' := [(2, .int .u8 c), (7, s0 0 lh0_1.length), (8, ii x8_1)]) (h' := [(0, rc encP lh0_1 0 61 2)]) (c' := 1) [0] (by decide) rfl ⟨by kernel_rfl, by kernel_rfl, by kernel_rfl, trivial⟩ ⟨⟨_, _, rfl, rfl, .inl ⟨rfl, rowC_scal encP_ok _⟩⟩, trivial⟩ rfl ?_
      refine XQ.exit (i := 0) (by kernel_rfl) ?_
      cases h
      exact hQ
    | false =>
      have h := cF b1 h
      refine XQ.cond (s := (.tmp 29)) (b := false) (by kernel_rfl) (by kernel_rfl) (fun q => by cases q) (fun _ => ?_)
      refine XQ.skip (by kernel_rfl) ?_
      show XQ _ _ _ _ _ _ _ _
      refine XQ.region (by kernel_rfl) ?_
      refine XR.runS E0_ok 1 3 [(2, .int .u8 c), (7, s0 0 lh0_1.length), (8, ii (w64 (x8_1 + 1)))] rfl (by kernel_rfl) ?_
      refine XR.done (by kernel_rfl) ?_
      show XL _ _ _ _ _ _ _ _ _
      refine XL.ren (σ' := [(2, .int .u8 c), (7, s0 0 lh0_1.length), (8, ii (w64 (x8_1 + 1)))]) (h' := [(0, rc encP lh0_1 0 61 2)]) (c' := 1) [0] (by decide) rfl ⟨by kernel_rfl, by kernel_rfl, by kernel_rfl, trivial⟩ ⟨⟨_, _, rfl, rfl, .inl ⟨rfl, rowC_scal encP_ok _⟩⟩, trivial⟩ rfl ?_
      refine XL.conv (f11_1_ok m fuel c (w64 (x8_1 + 1)) lh0_1 o h Q hQ) (by first | rfl | simp)

def f11_3 (m : Nat) (F : Int → (List (Int × Int)) → Int → Int → (List Int) → (List Int) → Option (Int × (List Int) × (List Int))) : Nat → Int → List (Int × Int) → Int → Int → Int → List Int → List Int → Option (Int × (List Int) × (List Int))
  | 0, _, _, _, _, _, _, _ => none
  | fuel + 1, x0_2, lh0_2, xh3_0_2, x9_3, xh1_0_3, lh5_3, lh7_3 =>
    cond (inRow x0_2 lh0_2.length) (
      cond (decide (x9_3 ≤ ((List.getD lh0_2 (Int.toNat x0_2) (0, 0)).2))) (
        cond (inRow x9_3 24) (
          cond (decide (Int.toNat x9_3 < lh7_3.length)) (
            cond (decide ((List.getD lh7_3 (Int.toNat x9_3) 0) < xh3_0_2)) (
              cond (inRow x0_2 lh5_3.length) (
                (F (w64 (x0_2 + 1)) lh0_2 xh1_0_3 xh3_0_2 (List.set lh5_3 (Int.toNat x0_2) x9_3) (List.set lh7_3 (Int.toNat x9_3) (w64 ((List.getD lh7_3 (Int.toNat x9_3) 0) + 1)))).bind fun r37_ =>
                  cond (decide (Int.toNat x9_3 < r37_.2.2.length)) (
                    f11_3 m F fuel x0_2 lh0_2 xh3_0_2 (w64 (x9_3 + 1)) r37_.1 r37_.2.1 (List.set r37_.2.2 (Int.toNat x9_3) (w64 ((List.getD r37_.2.2 (Int.toNat x9_3) 0) - 1)))
                  ) none
              ) none
            ) (
              f11_3 m F fuel x0_2 lh0_2 xh3_0_2 (w64 (x9_3 + 1)) xh1_0_3 lh5_3 lh7_3
            )
          ) none
        ) none
      ) (
        some (xh1_0_3, lh5_3, lh7_3)
      )
    ) none

theorem f11_3_ok (m : Nat) (F : Int → (List (Int × Int)) → Int → Int → (List Int) → (List Int) → Option (Int × (List Int) × (List Int))) (hF : ∀ (x0_2 : Int) (lh0_2 : List (Int × Int)) (xh1_0_2 : Int) (xh3_0_2 : Int) (lh5_2 : List Int) (lh7_2 : List Int) (o : (Int × (List Int) × (List Int))), F x0_2 lh0_2 xh1_0_2 xh3_0_2 lh5_2 lh7_2 = some o → ∀ (R : Value → Heap → Nat → Prop), R (.bool true) [(8, .cells [.func (.func 85) #[] #[pp 2 0, pp 4 0, pp 6 0, pp 7 0, pp 3 0, pp 8 0]] 0 81 0), (7, rc (encI .i64) o.2.2 0 88 0), (6, .cells [s0 5 o.2.1.length] 0 23 0), (5, rc (encI .i64) o.2.1 0 3 1), (4, .cells [.func (.func 48) #[] #[pp 1 0]] 0 72 0), (3, .cells [ii xh3_0_2] 0 3 0), (2, .cells [s0 0 lh0_2.length] 0 22 0), (1, .cells [ii o.1] 0 3 0), (0, rc encP lh0_2 0 61 2)] 9 → KC E0 85 [ii x0_2, pp 2 0, pp 4 0, pp 6 0, pp 7 0, pp 3 0, pp 8 0] [(8, .cells [.func (.func 85) #[] #[pp 2 0, pp 4 0, pp 6 0, pp 7 0, pp 3 0, pp 8 0]] 0 81 0), (7, rc (encI .i64) lh7_2 0 88 0), (6, .cells [s0 5 lh5_2.length] 0 23 0), (5, rc (encI .i64) lh5_2 0 3 1), (4, .cells [.func (.func 48) #[] #[pp 1 0]] 0 72 0), (3, .cells [ii xh3_0_2] 0 3 0), (2, .cells [s0 0 lh0_2.length] 0 22 0), (1, .cells [ii xh1_0_2] 0 3 0), (0, rc encP lh0_2 0 61 2)] 9 R) : ∀ (fuel : Nat) (x0_2 : Int) (lh0_2 : List (Int × Int)) (xh3_0_2 : Int) (x9_3 : Int) (xh1_0_3 : Int) (lh5_3 : List Int) (lh7_3 : List Int) (o : (Int × (List Int) × (List Int))), f11_3 m F fuel x0_2 lh0_2 xh3_0_2 x9_3 xh1_0_3 lh5_3 lh7_3 = some o → ∀ Q : QP, Q (.exit 0) [] [(8, .cells [.func (.func 85) #[] #[pp 2 0, pp 4 0, pp 6 0, pp 7 0, pp 3 0, pp 8 0]] 0 81 0), (7, rc (encI .i64) o.2.2 0 88 0), (6, .cells [s0 5 o.2.1.length] 0 23 0), (5, rc (encI .i64) o.2.1 0 3 1), (4, .cells [.func (.func 48) #[] #[pp 1 0]] 0 72 0), (3, .cells [ii xh3_0_2] 0 3 0), (2, .cells [s0 0 lh0_2.length] 0 22 0), (1, .cells [ii o.1] 0 3 0), (0, rc encP lh0_2 0 61 2)] 9 → XL E0 57 9 fuel f11_L3 [(0, ii x0_2), (1, pp 2 0), (3, pp 6 0), (4, pp 7 0), (5, pp 3 0), (6, pp 8 0), (9, ii x9_3)] [(8, .cells [.func (.func 85) #[] #[pp 2 0, pp 4 0, pp 6 0, pp 7 0, pp 3 0, pp 8 0]] 0 81 0), (7, rc (encI .i64) lh7_3 0 88 0), (6, .cells [s0 5 lh5_3.length] 0 23 0), (5, rc (encI .i64) lh5_3 0 3 1), (4, .cells [.func (.func 48) #[] #[pp 1 0]] 0 72 0), (3, .cells [ii xh3_0_2] 0 3 0), (2, .cells [s0 0 lh0_2.length] 0 22 0), (1, .cells [ii xh1_0_3] 0 3 0), (0, rc encP lh0_2 0 61 2)] 9 Q
  | 0, x0_2, lh0_2, xh3_0_2, x9_3, xh1_0_3, lh5_3, lh7_3, o, h, Q, hQ => by cases h
  | fuel + 1, x0_2, lh0_2, xh3_0_2, x9_3, xh1_0_3, lh5_3, lh7_3, o, h, Q, hQ => by
    unfold f11_3 at h
    refine XL.succ E0_ok ?_
    refine XQ.seq E0_ok (by kernel_rfl) ?_
    refine XQ.seq E0_ok (by kernel_rfl) ?_
    refine XQ.region (by kernel_rfl) ?_
    refine XR.runS E0_ok 1 3 [(0, ii x0_2), (1, pp 2 0), (3, pp 6 0), (4, pp 7 0), (5, pp 3 0), (6, pp 8 0), (9, ii x9_3), (23, ii x9_3), (24, s0 0 lh0_2.length), (25, ii x0_2)] rfl (by kernel_rfl) ?_
    cases b1 : (inRow x0_2 lh0_2.length : Bool) with
    | false => cases (cF b1 h)
    | true =>
      have h := cT b1 h
      refine XR.rd E0_ok [0, 1, 3, 4, 5, 6, 9, 23, 26] rfl (v := pp 0 ((Int.toNat x0_2) * 2)) (v_idx (s := 2) (x := (src 57 (.tmp 24))) (y := (src 57 (.tmp 25))) (b := 0) (o := 0) (len := lh0_2.length) (cap := lh0_2.length) (ik := .i64) (i := x0_2) (off := (Int.toNat x0_2) * 2) (d := (some (path 12 26))) (by kernel_rfl) (by kernel_rfl) (by kernel_rfl) b1 (by omega)) (σ' := [(0, ii x0_2), (1, pp 2 0), (3, pp 6 0), (4, pp 7 0), (5, pp 3 0), (6, pp 8 0), (9, ii x9_3), (23, ii x9_3), (26, pp 0 ((Int.toNat x0_2) * 2))]) (by kernel_rfl) ?_
      refine XR.runS E0_ok 1 1 [(0, ii x0_2), (1, pp 2 0), (3, pp 6 0), (4, pp 7 0), (5, pp 3 0), (6, pp 8 0), (9, ii x9_3), (23, ii x9_3), (27, pp 0 ((Int.toNat x0_2) * 2 + 1))] rfl (by kernel_rfl) ?_
      refine XR.rd E0_ok [0, 1, 3, 4, 5, 6, 9, 23, 28] rfl (v := ii ((List.getD lh0_2 (Int.toNat x0_2) (0, 0)).2)) (v_load1 encP_ok (x := (src 57 (.tmp 27))) (b := 0) (off := (Int.toNat x0_2) * 2 + 1) (xs := lh0_2) (fz := 0) (e := 61) (es := 2) (d := (some (path 12 28))) (by kernel_rfl) (by kernel_rfl) (by kernel_rfl) (Int.toNat x0_2) 1 (0, 0) (by first | rfl | omega) (row_len (inRow_toNat b1) (by simp)) rfl rfl) (σ' := [(0, ii x0_2), (1, pp 2 0), (3, pp 6 0), (4, pp 7 0), (5, pp 3 0), (6, pp 8 0), (9, ii x9_3), (23, ii x9_3), (28, ii ((List.getD lh0_2 (Int.toNat x0_2) (0, 0)).2))]) (by kernel_rfl) ?_
      refine XR.runS E0_ok 1 1 [(0, ii x0_2), (1, pp 2 0), (3, pp 6 0), (4, pp 7 0), (5, pp 3 0), (6, pp 8 0), (9, ii x9_3), (29, .bool (decide (x9_3 ≤ ((List.getD lh0_2 (Int.toNat x0_2) (0, 0)).2))))] rfl (by kernel_rfl) ?_
      refine XR.done (by kernel_rfl) ?_
      show XQ _ _ _ _ _ _ _ _
      cases b2 : (decide (x9_3 ≤ ((List.getD lh0_2 (Int.toNat x0_2) (0, 0)).2)) : Bool) with
      | true =>
        have h := cT b2 h
        refine XQ.cond (s := (.tmp 29)) (b := true) (by kernel_rfl) (by kernel_rfl) (fun _ => ?_) (fun q => by cases q)
        refine XQ.skip (by kernel_rfl) ?_
        show XQ _ _ _ _ _ _ _ _
        refine XQ.seq E0_ok (by kernel_rfl) ?_
        refine XQ.block (id := 1) (by kernel_rfl) ?_
        refine XQ.seq E0_ok (by kernel_rfl) ?_
        refine XQ.quiet E0_ok (by kernel_rfl) (by kernel_rfl) ?_
        refine XU.run E0_ok 1 1 [0, 1, 3, 4, 5, 6, 9, 32] rfl (σ' := [(0, ii x0_2), (1, pp 2 0), (3, pp 6 0), (4, pp 7 0), (5, pp 3 0), (6, pp 8 0), (9, ii x9_3), (32, ii x9_3)]) (by kernel_rfl) ?_
        cases b3 : (inRow x9_3 24 : Bool) with
        | false => cases (cF b3 h)
        | true =>
          have h := cT b3 h
          refine XU.rd E0_ok [0, 1, 3, 4, 5, 6, 9, 33] rfl (v := pp 7 ((Int.toNat x9_3) * 1)) (v_idxA (s := 1) (len := 24) (x := (src 57 (.tmp 4))) (y := (src 57 (.tmp 32))) (b := 7) (o := 0) (ik := .i64) (i := x9_3) (off := (Int.toNat x9_3) * 1) (d := (some (path 12 33))) (by kernel_rfl) (by kernel_rfl) (by kernel_rfl) b3 (by omega)) (σ' := [(0, ii x0_2), (1, pp 2 0), (3, pp 6 0), (4, pp 7 0), (5, pp 3 0), (6, pp 8 0), (9, ii x9_3), (33, pp 7 ((Int.toNat x9_3) * 1))]) (by kernel_rfl) ?_
          cases b4 : (decide (Int.toNat x9_3 < lh7_3.length) : Bool) with
          | false => cases (cF b4 h)
          | true =>
            have h := cT b4 h
            refine XU.rd E0_ok [0, 1, 3, 4, 5, 6, 9, 34] rfl (v := ii (List.getD lh7_3 (Int.toNat x9_3) 0)) (v_load1 (encI_ok .i64) (x := (src 57 (.tmp 33))) (b := 7) (off := (Int.toNat x9_3) * 1) (xs := lh7_3) (fz := 0) (e := 88) (es := 0) (d := (some (path 12 34))) (by kernel_rfl) (by kernel_rfl) (by kernel_rfl) (Int.toNat x9_3) 0 0 (by first | rfl | omega) (row_len b4 (by simp)) rfl rfl) (σ' := [(0, ii x0_2), (1, pp 2 0), (3, pp 6 0), (4, pp 7 0), (5, pp 3 0), (6, pp 8 0), (9, ii x9_3), (34, ii (List.getD lh7_3 (Int.toNat x9_3) 0))]) (by kernel_rfl) ?_
            refine XU.run E0_ok 1 2 [0, 1, 3, 4, 5, 6, 9, 36] rfl (σ' := [(0, ii x0_2), (1, pp 2 0), (3, pp 6 0), (4, pp 7 0), (5, pp 3 0), (6, pp 8 0), (9, ii x9_3), (36, .bool (decide ((List.getD lh7_3 (Int.toNat x9_3) 0) < xh3_0_2)))]) (by kernel_rfl) ?_
            refine XU.done (by kernel_rfl) ?_
            show XQ _ _ _ _ _ _ _ _
            cases b5 : (decide ((List.getD lh7_3 (Int.toNat x9_3) 0) < xh3_0_2) : Bool) with
            | true =>
              have h := cT b5 h
              refine XQ.cond (s := (.tmp 36)) (b := true) (by kernel_rfl) (by kernel_rfl) (fun _ => ?_) (fun q => by cases q)
              refine XQ.seq E0_ok (by kernel_rfl) ?_
              refine XQ.region (by kernel_rfl) ?_
              refine XR.runS E0_ok 1 1 [(0, ii x0_2), (1, pp 2 0), (3, pp 6 0), (4, pp 7 0), (5, pp 3 0), (6, pp 8 0), (9, ii x9_3), (37, ii x9_3)] rfl (by kernel_rfl) ?_
              refine XR.rd E0_ok [0, 1, 3, 4, 5, 6, 9, 37, 38] rfl (v := pp 7 ((Int.toNat x9_3) * 1)) (v_idxA (s := 1) (len := 24) (x := (src 57 (.tmp 4))) (y := (src 57 (.tmp 37))) (b := 7) (o := 0) (ik := .i64) (i := x9_3) (off := (Int.toNat x9_3) * 1) (d := (some (path 12 38))) (by kernel_rfl) (by kernel_rfl) (by kernel_rfl) b3 (by omega)) (σ' := [(0, ii x0_2), (1, pp 2 0), (3, pp 6 0), (4, pp 7 0), (5, pp 3 0), (6, pp 8 0), (9, ii x9_3), (37, ii x9_3), (38, pp 7 ((Int.toNat x9_3) * 1))]) (by kernel_rfl) ?_
              refine XR.rd E0_ok [0, 1, 3, 4, 5, 6, 9, 37, 39] rfl (v := ii (List.getD lh7_3 (Int.toNat x9_3) 0)) (v_load1 (encI_ok .i64) (x := (src 57 (.tmp 38))) (b := 7) (off := (Int.toNat x9_3) * 1) (xs := lh7_3) (fz := 0) (e := 88) (es := 0) (d := (some (path 12 39))) (by kernel_rfl) (by kernel_rfl) (by kernel_rfl) (Int.toNat x9_3) 0 0 (by first | rfl | omega) (row_len b4 (by simp)) rfl rfl) (σ' := [(0, ii x0_2), (1, pp 2 0), (3, pp 6 0), (4, pp 7 0), (5, pp 3 0), (6, pp 8 0), (9, ii x9_3), (37, ii x9_3), (39, ii (List.getD lh7_3 (Int.toNat x9_3) 0))]) (by kernel_rfl) ?_
              refine XR.runS E0_ok 1 1 [(0, ii x0_2), (1, pp 2 0), (3, pp 6 0), (4, pp 7 0), (5, pp 3 0), (6, pp 8 0), (9, ii x9_3), (37, ii x9_3), (40, ii (w64 ((List.getD lh7_3 (Int.toNat x9_3) 0) + 1)))] rfl (by kernel_rfl) ?_
              refine XR.rd E0_ok [0, 1, 3, 4, 5, 6, 9, 40, 41] rfl (v := pp 7 ((Int.toNat x9_3) * 1)) (v_idxA (s := 1) (len := 24) (x := (src 57 (.tmp 4))) (y := (src 57 (.tmp 37))) (b := 7) (o := 0) (ik := .i64) (i := x9_3) (off := (Int.toNat x9_3) * 1) (d := (some (path 12 41))) (by kernel_rfl) (by kernel_rfl) (by kernel_rfl) b3 (by omega)) (σ' := [(0, ii x0_2), (1, pp 2 0), (3, pp 6 0), (4, pp 7 0), (5, pp 3 0), (6, pp 8 0), (9, ii x9_3), (40, ii (w64 ((List.getD lh7_3 (Int.toNat x9_3) 0) + 1))), (41, pp 7 ((Int.toNat x9_3) * 1))]) (by kernel_rfl) ?_
              refine XR.ef E0_ok [0, 1, 3, 4, 5, 6, 9] rfl (e_store (encI_ok .i64) (size := 1) (x := (src 57 (.tmp 41))) (y := (src 57 (.tmp 40))) (b := 7) (off := (Int.toNat x9_3) * 1) (xs := lh7_3) (e := 88) (es := 0) (d := none) (h' := [(8, .cells [.func (.func 85) #[] #[pp 2 0, pp 4 0, pp 6 0, pp 7 0, pp 3 0, pp 8 0]] 0 81 0), (7, rc (encI .i64) (List.set lh7_3 (Int.toNat x9_3) (w64 ((List.getD lh7_3 (Int.toNat x9_3) 0) + 1))) 0 88 0), (6, .cells [s0 5 lh5_3.length] 0 23 0), (5, rc (encI .i64) lh5_3 0 3 1), (4, .cells [.func (.func 48) #[] #[pp 1 0]] 0 72 0), (3, .cells [ii xh3_0_2] 0 3 0), (2, .cells [s0 0 lh0_2.length] 0 22 0), (1, .cells [ii xh1_0_3] 0 3 0), (0, rc encP lh0_2 0 61 2)]) (w := ii (w64 ((List.getD lh7_3 (Int.toNat x9_3) 0) + 1))) (ws := [ii (w64 ((List.getD lh7_3 (Int.toNat x9_3) 0) + 1))]) (a := w64 ((List.getD lh7_3 (Int.toNat x9_3) 0) + 1)) (by kernel_rfl) (by kernel_rfl) (by kernel_rfl) (Int.toNat x9_3) 0 0 (by first | rfl | omega) (row_len b4 (by simp)) (by kernel_rfl) rfl rfl rfl rfl rfl (by kernel_rfl)) (σ' := [(0, ii x0_2), (1, pp 2 0), (3, pp 6 0), (4, pp 7 0), (5, pp 3 0), (6, pp 8 0), (9, ii x9_3)]) (by kernel_rfl) ?_
              refine XR.done (by kernel_rfl) ?_
              show XQ _ _ _ _ _ _ _ _
              refine XQ.seq E0_ok (by kernel_rfl) ?_
              refine XQ.region (by kernel_rfl) ?_
              refine XR.runS E0_ok 1 3 [(0, ii x0_2), (1, pp 2 0), (3, pp 6 0), (4, pp 7 0), (5, pp 3 0), (6, pp 8 0), (9, ii x9_3), (42, s0 5 lh5_3.length), (43, ii x0_2), (44, ii x9_3)] rfl (by kernel_rfl) ?_
              cases b6 : (inRow x0_2 lh5_3.length : Bool) with
              | false => cases (cF b6 h)
              | true =>
                have h := cT b6 h
                refine XR.rd E0_ok [0, 1, 3, 4, 5, 6, 9, 44, 45] rfl (v := pp 5 ((Int.toNat x0_2) * 1)) (v_idx (s := 1) (x := (src 57 (.tmp 42))) (y := (src 57 (.tmp 43))) (b := 5) (o := 0) (len := lh5_3.length) (cap := lh5_3.length) (ik := .i64) (i := x0_2) (off := (Int.toNat x0_2) * 1) (d := (some (path 12 45))) (by kernel_rfl) (by kernel_rfl) (by kernel_rfl) b6 (by omega)) (σ' := [(0, ii x0_2), (1, pp 2 0), (3, pp 6 0), (4, pp 7 0), (5, pp 3 0), (6, pp 8 0), (9, ii x9_3), (44, ii x9_3), (45, pp 5 ((Int.toNat x0_2) * 1))]) (by kernel_rfl) ?_
                refine XR.ef E0_ok [0, 1, 3, 4, 5, 6, 9] rfl (e_store (encI_ok .i64) (size := 1) (x := (src 57 (.tmp 45))) (y := (src 57 (.tmp 44))) (b := 5) (off := (Int.toNat x0_2) * 1) (xs := lh5_3) (e := 3) (es := 1) (d := none) (h' := [(8, .cells [.func (.func 85) #[] #[pp 2 0, pp 4 0, pp 6 0, pp 7 0, pp 3 0, pp 8 0]] 0 81 0), (7, rc (encI .i64) (List.set lh7_3 (Int.toNat x9_3) (w64 ((List.getD lh7_3 (Int.toNat x9_3) 0) + 1))) 0 88 0), (6, .cells [s0 5 lh5_3.length] 0 23 0), (5, rc (encI .i64) (List.set lh5_3 (Int.toNat x0_2) x9_3) 0 3 1), (4, .cells [.func (.func 48) #[] #[pp 1 0]] 0 72 0), (3, .cells [ii xh3_0_2] 0 3 0), (2, .cells [s0 0 lh0_2.length] 0 22 0), (1, .cells [ii xh1_0_3] 0 3 0), (0, rc encP lh0_2 0 61 2)]) (w := ii x9_3) (ws := [ii x9_3]) (a := x9_3) (by kernel_rfl) (by kernel_rfl) (by kernel_rfl) (Int.toNat x0_2) 0 0 (by first | rfl | omega) (row_len (inRow_toNat b6) (by simp)) (by kernel_rfl) rfl rfl rfl rfl rfl (by kernel_rfl)) (σ' := [(0, ii x0_2), (1, pp 2 0), (3, pp 6 0), (4, pp 7 0), (5, pp 3 0), (6, pp 8 0), (9, ii x9_3)]) (by kernel_rfl) ?_
                refine XR.done (by kernel_rfl) ?_
                show XQ _ _ _ _ _ _ _ _
                refine XQ.seq E0_ok (by kernel_rfl) ?_
                refine XQ.region (by kernel_rfl) ?_
                refine XR.runS E0_ok 1 3 [(0, ii x0_2), (1, pp 2 0), (3, pp 6 0), (4, pp 7 0), (5, pp 3 0), (6, pp 8 0), (9, ii x9_3), (46, .func (.func 85) #[] #[pp 2 0, pp 4 0, pp 6 0, pp 7 0, pp 3 0, pp 8 0]), (48, ii (w64 (x0_2 + 1)))] rfl (by kernel_rfl) ?_
                refine XR.conv (σ' := [(0, ii x0_2), (1, pp 2 0), (3, pp 6 0), (4, pp 7 0), (5, pp 3 0), (6, pp 8 0), (9, ii x9_3), (46, .func (.func 85) #[] #[pp 2 0, pp 4 0, pp 6 0, pp 7 0, pp 3 0, pp 8 0]), (48, ii (w64 (x0_2 + 1)))]) (h' := [(8, .cells [.func (.func 85) #[] #[pp 2 0, pp 4 0, pp 6 0, pp 7 0, pp 3 0, pp 8 0]] 0 81 0), (7, rc (encI .i64) (List.set lh7_3 (Int.toNat x9_3) (w64 ((List.getD lh7_3 (Int.toNat x9_3) 0) + 1))) 0 88 0), (6, .cells [s0 5 ((List.set lh5_3 (Int.toNat x0_2) x9_3).length)] 0 23 0), (5, rc (encI .i64) (List.set lh5_3 (Int.toNat x0_2) x9_3) 0 3 1), (4, .cells [.func (.func 48) #[] #[pp 1 0]] 0 72 0), (3, .cells [ii xh3_0_2] 0 3 0), (2, .cells [s0 0 lh0_2.length] 0 22 0), (1, .cells [ii xh1_0_3] 0 3 0), (0, rc encP lh0_2 0 61 2)]) (c' := 9) ?_ (by simp only [List.length_set, List.length_replicate])
                obtain ⟨r37_, r37__h, h⟩ := bS h
                refine XR.call E0_ok [0, 1, 3, 4, 5, 6, 9, 49] rfl (K := 85) (args := [ii (w64 (x0_2 + 1)), pp 2 0, pp 4 0, pp 6 0, pp 7 0, pp 3 0, pp 8 0]) (d := (some (path 12 49))) (by kernel_rfl) (hF (w64 (x0_2 + 1)) lh0_2 xh1_0_3 xh3_0_2 (List.set lh5_3 (Int.toNat x0_2) x9_3) (List.set lh7_3 (Int.toNat x9_3) (w64 ((List.getD lh7_3 (Int.toNat x9_3) 0) + 1))) r37_ r37__h (fun v h' c' => v = .bool true ∧ h' = [(8, .cells [.func (.func 85) #[] #[pp 2 0, pp 4 0, pp 6 0, pp 7 0, pp 3 0, pp 8 0]] 0 81 0), (7, rc (encI .i64) r37_.2.2 0 88 0), (6, .cells [s0 5 r37_.2.1.length] 0 23 0), (5, rc (encI .i64) r37_.2.1 0 3 1), (4, .cells [.func (.func 48) #[] #[pp 1 0]] 0 72 0), (3, .cells [ii xh3_0_2] 0 3 0), (2, .cells [s0 0 lh0_2.length] 0 22 0), (1, .cells [ii r37_.1] 0 3 0), (0, rc encP lh0_2 0 61 2)] ∧ c' = 9) ⟨rfl, rfl, rfl⟩) ?_
                rintro _ _ _ ⟨rfl, rfl, rfl⟩
                refine XR.conv (σ' := [(0, ii x0_2), (1, pp 2 0), (3, pp 6 0), (4, pp 7 0), (5, pp 3 0), (6, pp 8 0), (9, ii x9_3), (49, .bool true)]) (h' := [(8, .cells [.func (.func 85) #[] #[pp 2 0, pp 4 0, pp 6 0, pp 7 0, pp 3 0, pp 8 0]] 0 81 0), (7, rc (encI .i64) r37_.2.2 0 88 0), (6, .cells [s0 5 r37_.2.1.length] 0 23 0), (5, rc (encI .i64) r37_.2.1 0 3 1), (4, .cells [.func (.func 48) #[] #[pp 1 0]] 0 72 0), (3, .cells [ii xh3_0_2] 0 3 0), (2, .cells [s0 0 lh0_2.length] 0 22 0), (1, .cells [ii r37_.1] 0 3 0), (0, rc encP lh0_2 0 61 2)]) (c' := 9) ?_ (by kernel_rfl)
                refine XR.runS E0_ok 1 1 [(0, ii x0_2), (1, pp 2 0), (3, pp 6 0), (4, pp 7 0), (5, pp 3 0), (6, pp 8 0), (9, ii x9_3), (10, .bool true)] rfl (by kernel_rfl) ?_
                refine XR.done (by kernel_rfl) ?_
                show XQ _ _ _ _ _ _ _ _
                refine XQ.seq E0_ok (by kernel_rfl) ?_
                refine XQ.region (by kernel_rfl) ?_
                refine XR.runS E0_ok 1 1 [(0, ii x0_2), (1, pp 2 0), (3, pp 6 0), (4, pp 7 0), (5, pp 3 0), (6, pp 8 0), (9, ii x9_3), (10, .bool true), (50, ii x9_3)] rfl (by kernel_rfl) ?_
                refine XR.rd E0_ok [0, 1, 3, 4, 5, 6, 9, 10, 50, 51] rfl (v := pp 7 ((Int.toNat x9_3) * 1)) (v_idxA (s := 1) (len := 24) (x := (src 57 (.tmp 4))) (y := (src 57 (.tmp 50))) (b := 7) (o := 0) (ik := .i64) (i := x9_3) (off := (Int.toNat x9_3) * 1) (d := (some (path 12 51))) (by kernel_rfl) (by kernel_rfl) (by kernel_rfl) b3 (by omega)) (σ' := [(0, ii x0_2), (1, pp 2 0), (3, pp 6 0), (4, pp 7 0), (5, pp 3 0), (6, pp 8 0), (9, ii x9_3), (10, .bool true), (50, ii x9_3), (51, pp 7 ((Int.toNat x9_3) * 1))]) (by kernel_rfl) ?_
                cases b7 : (decide (Int.toNat x9_3 < r37_.2.2.length) : Bool) with
                | false => cases (cF b7 h)
                | true =>
                  have h := cT b7 h
                  refine XR.rd E0_ok [0, 1, 3, 4, 5, 6, 9, 10, 50, 52] rfl (v := ii (List.getD r37_.2.2 (Int.toNat x9_3) 0)) (v_load1 (encI_ok .i64) (x := (src 57 (.tmp 51))) (b := 7) (off := (Int.toNat x9_3) * 1) (xs := r37_.2.2) (fz := 0) (e := 88) (es := 0) (d := (some (path 12 52))) (by kernel_rfl) (by kernel_rfl) (by kernel_rfl) (Int.toNat x9_3) 0 0 (by first | rfl | omega) (row_len b7 (by simp)) rfl rfl) (σ' := [(0, ii x0_2), (1, pp 2 0), (3, pp 6 0), (4, pp 7 0), (5, pp 3 0), (6, pp 8 0), (9, ii x9_3), (10, .bool true), (50, ii x9_3), (52, ii (List.getD r37_.2.2 (Int.toNat x9_3) 0))]) (by kernel_rfl) ?_
                  refine XR.runS E0_ok 1 1 [(0, ii x0_2), (1, pp 2 0), (3, pp 6 0), (4, pp 7 0), (5, pp 3 0), (6, pp 8 0), (9, ii x9_3), (10, .bool true), (50, ii x9_3), (53, ii (w64 ((List.getD r37_.2.2 (Int.toNat x9_3) 0) - 1)))] rfl (by kernel_rfl) ?_
                  refine XR.rd E0_ok [0, 1, 3, 4, 5, 6, 9, 10, 53, 54] rfl (v := pp 7 ((Int.toNat x9_3) * 1)) (v_idxA (s := 1) (len := 24) (x := (src 57 (.tmp 4))) (y := (src 57 (.tmp 50))) (b := 7) (o := 0) (ik := .i64) (i := x9_3) (off := (Int.toNat x9_3) * 1) (d := (some (path 12 54))) (by kernel_rfl) (by kernel_rfl) (by kernel_rfl) b3 (by omega)) (σ' := [(0, ii x0_2), (1, pp 2 0), (3, pp 6 0), (4, pp 7 0), (5, pp 3 0), (6, pp 8 0), (9, ii x9_3), (10, .bool true), (53, ii (w64 ((List.getD r37_.2.2 (Int.toNat x9_3) 0) - 1))), (54, pp 7 ((Int.toNat x9_3) * 1))]) (by kernel_rfl) ?_
                  refine XR.ef E0_ok [0, 1, 3, 4, 5, 6, 9, 10] rfl (e_store (encI_ok .i64) (size := 1) (x := (src 57 (.tmp 54))) (y := (src 57 (.tmp 53))) (b := 7) (off := (Int.toNat x9_3) * 1) (xs := r37_.2.2) (e := 88) (es := 0) (d := none) (h' := [(8, .cells [.func (.func 85) #[] #[pp 2 0, pp 4 0, pp 6 0, pp 7 0, pp 3 0, pp 8 0]] 0 81 0), (7, rc (encI .i64) (List.set r37_.2.2 (Int.toNat x9_3) (w64 ((List.getD r37_.2.2 (Int.toNat x9_3) 0) - 1))) 0 88 0), (6, .cells [s0 5 r37_.2.1.length] 0 23 0), (5, rc (encI .i64) r37_.2.1 0 3 1), (4, .cells [.func (.func 48) #[] #[pp 1 0]] 0 72 0), (3, .cells [ii xh3_0_2] 0 3 0), (2, .cells [s0 0 lh0_2.length] 0 22 0), (1, .cells [ii r37_.1] 0 3 0), (0, rc encP lh0_2 0 61 2)]) (w := ii (w64 ((List.getD r37_.2.2 (Int.toNat x9_3) 0) - 1))) (ws := [ii (w64 ((List.getD r37_.2.2 (Int.toNat x9_3) 0) - 1))]) (a := w64 ((List.getD r37_.2.2 (Int.toNat x9_3) 0) - 1)) (by kernel_rfl) (by kernel_rfl) (by kernel_rfl) (Int.toNat x9_3) 0 0 (by first | rfl | omega) (row_len b7 (by simp)) (by kernel_rfl) rfl rfl rfl rfl rfl (by kernel_rfl)) (σ' := [(0, ii x0_2), (1, pp 2 0), (3, pp 6 0), (4, pp 7 0), (5, pp 3 0), (6, pp 8 0), (9, ii x9_3), (10, .bool true)]) (by kernel_rfl) ?_
                  refine XR.done (by kernel_rfl) ?_
                  show XQ _ _ _ _ _ _ _ _
                  refine XQ.seq E0_ok (by kernel_rfl) ?_
                  refine XQ.region (by kernel_rfl) ?_
                  refine XR.runS E0_ok 1 2 [(0, ii x0_2), (1, pp 2 0), (3, pp 6 0), (4, pp 7 0), (5, pp 3 0), (6, pp 8 0), (9, ii x9_3), (56, .bool false)] rfl (by kernel_rfl) ?_
                  refine XR.done (by kernel_rfl) ?_
                  show XQ _ _ _ _ _ _ _ _
                  refine XQ.cond (s := (.tmp 56)) (b := false) (by kernel_rfl) (by kernel_rfl) (fun q => by cases q) (fun _ => ?_)
                  refine XQ.skip (by kernel_rfl) ?_
                  show XQ _ _ _ _ _ _ _ _
                  refine XQ.region (by kernel_rfl) ?_
                  refine XR.runS E0_ok 1 3 [(0, ii x0_2), (1, pp 2 0), (3, pp 6 0), (4, pp 7 0), (5, pp 3 0), (6, pp 8 0), (9, ii (w64 (x9_3 + 1)))] rfl (by kernel_rfl) ?_
                  refine XR.done (by kernel_rfl) ?_
                  show XL _ _ _ _ _ _ _ _ _
                  refine XL.ren (σ' := [(0, ii x0_2), (1, pp 2 0), (3, pp 6 0), (4, pp 7 0), (5, pp 3 0), (6, pp 8 0), (9, ii (w64 (x9_3 + 1)))]) (h' := [(8, .cells [.func (.func 85) #[] #[pp 2 0, pp 4 0, pp 6 0, pp 7 0, pp 3 0, pp 8 0]] 0 81 0), (7, rc (encI .i64) (List.set r37_.2.2 (Int.toNat x9_3) (w64 ((List.getD r37_.2.2 (Int.toNat x9_3) 0) - 1))) 0 88 0), (6, .cells [s0 5 r37_.2.1.length] 0 23 0), (5, rc (encI .i64) r37_.2.1 0 3 1), (4, .cells [.func (.func 48) #[] #[pp 1 0]] 0 72 0), (3, .cells [ii xh3_0_2] 0 3 0), (2, .cells [s0 0 lh0_2.length] 0 22 0), (1, .cells [ii r37_.1] 0 3 0), (0, rc encP lh0_2 0 61 2)]) (c' := 9) [0, 1, 2, 3, 4, 5, 6, 7, 8] (by decide) rfl ⟨by kernel_rfl, by kernel_rfl, by kernel_rfl, by kernel_rfl, by kernel_rfl, by kernel_rfl, by kernel_rfl, trivial⟩ ⟨⟨_, _, rfl, rfl, .inr ⟨_, _, _, _, rfl, rfl⟩⟩, ⟨_, _, rfl, rfl, .inl ⟨rfl, rowC_scal (encI_ok .i64) _⟩⟩, ⟨_, _, rfl, rfl, .inr ⟨_, _, _, _, rfl, rfl⟩⟩, ⟨_, _, rfl, rfl, .inl ⟨rfl, rowC_scal (encI_ok .i64) _⟩⟩, ⟨_, _, rfl, rfl, .inr ⟨_, _, _, _, rfl, rfl⟩⟩, ⟨_, _, rfl, rfl, .inr ⟨_, _, _, _, rfl, rfl⟩⟩, ⟨_, _, rfl, rfl, .inr ⟨_, _, _, _, rfl, rfl⟩⟩, ⟨_, _, rfl, rfl, .inr ⟨_, _, _, _, rfl, rfl⟩⟩, ⟨_, _, rfl, rfl, .inl ⟨rfl, rowC_scal encP_ok _⟩⟩, trivial⟩ rfl ?_
                  refine XL.conv (f11_3_ok m F hF fuel x0_2 lh0_2 xh3_0_2 (w64 (x9_3 + 1)) r37_.1 r37_.2.1 (List.set r37_.2.2 (Int.toNat x9_3) (w64 ((List.getD r37_.2.2 (Int.toNat x9_3) 0) - 1))) o h Q hQ) (by first | rfl | simp)
            | false =>
              have h := cF b5 h
              refine XQ.cond (s := (.tmp 36)) (b := false) (by kernel_rfl) (by kernel_rfl) (fun q => by cases q) (fun _ => ?_)
              refine XQ.skip (by kernel_rfl) ?_
              show XQ _ _ _ _ _ _ _ _
              refine XQ.region (by kernel_rfl) ?_
              refine XR.runS E0_ok 1 3 [(0, ii x0_2), (1, pp 2 0), (3, pp 6 0), (4, pp 7 0), (5, pp 3 0), (6, pp 8 0), (9, ii (w64 (x9_3 + 1)))] rfl (by kernel_rfl) ?_
              refine XR.done (by kernel_rfl) ?_
              show XL _ _ _ _ _ _ _ _ _
              refine XL.ren (σ' := [(0, ii x0_2), (1, pp 2 0), (3, pp 6 0), (4, pp 7 0), (5, pp 3 0), (6, pp 8 0), (9, ii (w64 (x9_3 + 1)))]) (h' := [(8, .cells [.func (.func 85) #[] #[pp 2 0, pp 4 0, pp 6 0, pp 7 0, pp 3 0, pp 8 0]] 0 81 0), (7, rc (encI .i64) lh7_3 0 88 0), (6, .cells [s0 5 lh5_3.length] 0 23 0), (5, rc (encI .i64) lh5_3 0 3 1), (4, .cells [.func (.func 48) #[] #[pp 1 0]] 0 72 0), (3, .cells [ii xh3_0_2] 0 3 0), (2, .cells [s0 0 lh0_2.length] 0 22 0), (1, .cells [ii xh1_0_3] 0 3 0), (0, rc encP lh0_2 0 61 2)]) (c' := 9) [0, 1, 2, 3, 4, 5, 6, 7, 8] (by decide) rfl ⟨by kernel_rfl, by kernel_rfl, by kernel_rfl, by kernel_rfl, by kernel_rfl, by kernel_rfl, by kernel_rfl, trivial⟩ ⟨⟨_, _, rfl, rfl, .inr ⟨_, _, _, _, rfl, rfl⟩⟩, ⟨_, _, rfl, rfl, .inl ⟨rfl, rowC_scal (encI_ok .i64) _⟩⟩, ⟨_, _, rfl, rfl, .inr ⟨_, _, _, _, rfl, rfl⟩⟩, ⟨_, _, rfl, rfl, .inl ⟨rfl, rowC_scal (encI_ok .i64) _⟩⟩, ⟨_, _, rfl, rfl, .inr ⟨_, _, _, _, rfl, rfl⟩⟩, ⟨_, _, rfl, rfl, .inr ⟨_, _, _, _, rfl, rfl⟩⟩, ⟨_, _, rfl, rfl, .inr ⟨_, _, _, _, rfl, rfl⟩⟩, ⟨_, _, rfl, rfl, .inr ⟨_, _, _, _, rfl, rfl⟩⟩, ⟨_, _, rfl, rfl, .inl ⟨rfl, rowC_scal encP_ok _⟩⟩, trivial⟩ rfl ?_
              refine XL.conv (f11_3_ok m F hF fuel x0_2 lh0_2 xh3_0_2 (w64 (x9_3 + 1)) xh1_0_3 lh5_3 lh7_3 o h Q hQ) (by first | rfl | simp)
      | false =>
        have h := cF b2 h
        refine XQ.cond (s := (.tmp 29)) (b := false) (by kernel_rfl) (by kernel_rfl) (fun q => by cases q) (fun _ => ?_)
        refine XQ.ren (σ' := []) (h' := [(8, .cells [.func (.func 85) #[] #[pp 2 0, pp 4 0, pp 6 0, pp 7 0, pp 3 0, pp 8 0]] 0 81 0), (7, rc (encI .i64) lh7_3 0 88 0), (6, .cells [s0 5 lh5_3.length] 0 23 0), (5, rc (encI .i64) lh5_3 0 3 1), (4, .cells [.func (.func 48) #[] #[pp 1 0]] 0 72 0), (3, .cells [ii xh3_0_2] 0 3 0), (2, .cells [s0 0 lh0_2.length] 0 22 0), (1, .cells [ii xh1_0_3] 0 3 0), (0, rc encP lh0_2 0 61 2)]) (c' := 9) [0, 1, 2, 3, 4, 5, 6, 7, 8] (by decide) rfl trivial ⟨⟨_, _, rfl, rfl, .inr ⟨_, _, _, _, rfl, rfl⟩⟩, ⟨_, _, rfl, rfl, .inl ⟨rfl, rowC_scal (encI_ok .i64) _⟩⟩, ⟨_, _, rfl, rfl, .inr ⟨_, _, _, _, rfl, rfl⟩⟩, ⟨_, _, rfl, rfl, .inl ⟨rfl, rowC_scal (encI_ok .i64) _⟩⟩, ⟨_, _, rfl, rfl, .inr ⟨_, _, _, _, rfl, rfl⟩⟩, ⟨_, _, rfl, rfl, .inr ⟨_, _, _, _, rfl, rfl⟩⟩, ⟨_, _, rfl, rfl, .inr ⟨_, _, _, _, rfl, rfl⟩⟩, ⟨_, _, rfl, rfl, .inr ⟨_, _, _, _, rfl, rfl⟩⟩, ⟨_, _, rfl, rfl, .inl ⟨rfl, rowC_scal encP_ok _⟩⟩, trivial⟩ rfl ?_
        refine XQ.exit (i := 0) (by kernel_rfl) ?_
        cases h
        exact hQ

def f11_2 (m : Nat) : Nat → Int → (List (Int × Int)) → Int → Int → (List Int) → (List Int) → Option (Int × (List Int) × (List Int))
  | 0, _, _, _, _, _, _ => none
  | fuel + 1, x0_2, lh0_2, xh1_0_2, xh3_0_2, lh5_2, lh7_2 =>
    cond (x0_2 == ((lh0_2.length : Nat) : Int)) (
      (f49 m lh5_2).bind fun r22 =>
        some (iMin xh1_0_2 r22, lh5_2, lh7_2)
    ) (
      cond (inRow x0_2 lh0_2.length) (
        (f11_3 m (f11_2 m fuel) m x0_2 lh0_2 xh3_0_2 ((List.getD lh0_2 (Int.toNat x0_2) (0, 0)).1) xh1_0_2 lh5_2 lh7_2).bind fun o3 =>
          some (o3.1, o3.2.1, o3.2.2)
      ) none
    )

theorem f11_2_ok (m : Nat) : ∀ (fuel : Nat) (x0_2 : Int) (lh0_2 : List (Int × Int)) (xh1_0_2 : Int) (xh3_0_2 : Int) (lh5_2 : List Int) (lh7_2 : List Int) (o : (Int × (List Int) × (List Int))), f11_2 m fuel x0_2 lh0_2 xh1_0_2 xh3_0_2 lh5_2 lh7_2 = some o → ∀ (R : Value → Heap → Nat → Prop), R (.bool true) [(8, .cells [.func (.func 85) #[] #[pp 2 0, pp 4 0, pp 6 0, pp 7 0, pp 3 0, pp 8 0]] 0 81 0), (7, rc (encI .i64) o.2.2 0 88 0), (6, .cells [s0 5 o.2.1.length] 0 23 0), (5, rc (encI .i64) o.2.1 0 3 1), (4, .cells [.func (.func 48) #[] #[pp 1 0]] 0 72 0), (3, .cells [ii xh3_0_2] 0 3 0), (2, .cells [s0 0 lh0_2.length] 0 22 0), (1, .cells [ii o.1] 0 3 0), (0, rc encP lh0_2 0 61 2)] 9 → KC E0 85 [ii x0_2, pp 2 0, pp 4 0, pp 6 0, pp 7 0, pp 3 0, pp 8 0] [(8, .cells [.func (.func 85) #[] #[pp 2 0, pp 4 0, pp 6 0, pp 7 0, pp 3 0, pp 8 0]] 0 81 0), (7, rc (encI .i64) lh7_2 0 88 0), (6, .cells [s0 5 lh5_2.length] 0 23 0), (5, rc (encI .i64) lh5_2 0 3 1), (4, .cells [.func (.func 48) #[] #[pp 1 0]] 0 72 0), (3, .cells [ii xh3_0_2] 0 3 0), (2, .cells [s0 0 lh0_2.length] 0 22 0), (1, .cells [ii xh1_0_2] 0 3 0), (0, rc encP lh0_2 0 61 2)] 9 R
  | 0, x0_2, lh0_2, xh1_0_2, xh3_0_2, lh5_2, lh7_2, o, h, R, hR => by cases h
  | fuel + 1, x0_2, lh0_2, xh1_0_2, xh3_0_2, lh5_2, lh7_2, o, h, R, hR => by
    refine KC.bodyN E0_ok (F := Proofs.Try.f85) (by kernel_rfl) (code := f11_C85) (by kernel_rfl) (nt := 57) (by kernel_rfl) (rs := [.tmp 8]) (by kernel_rfl) (by kernel_rfl) (σ := [(0, ii x0_2), (1, pp 2 0), (2, pp 4 0), (3, pp 6 0), (4, pp 7 0), (5, pp 3 0), (6, pp 8 0)]) (by kernel_rfl) ?_
    unfold f11_2 at h
    refine XQ.seq E0_ok (by kernel_rfl) ?_
    refine XQ.region (by kernel_rfl) ?_
    refine XR.runS E0_ok 1 1 [(0, ii x0_2), (1, pp 2 0), (2, pp 4 0), (3, pp 6 0), (4, pp 7 0), (5, pp 3 0), (6, pp 8 0)] rfl (by kernel_rfl) ?_
    refine XR.done (by kernel_rfl) ?_
    show XQ _ _ _ _ _ _ _ _
    refine XQ.seq E0_ok (by kernel_rfl) ?_
    refine XQ.seq E0_ok (by kernel_rfl) ?_
    refine XQ.region (by kernel_rfl) ?_
    refine XR.runS E0_ok 1 4 [(0, ii x0_2), (1, pp 2 0), (2, pp 4 0), (3, pp 6 0), (4, pp 7 0), (5, pp 3 0), (6, pp 8 0), (14, .bool (x0_2 == ((lh0_2.length : Nat) : Int)))] rfl (by kernel_rfl) ?_
    refine XR.done (by kernel_rfl) ?_
    show XQ _ _ _ _ _ _ _ _
    cases b1 : (x0_2 == ((lh0_2.length : Nat) : Int) : Bool) with
    | true =>
      have h := cT b1 h
      refine XQ.cond (s := (.tmp 14)) (b := true) (by kernel_rfl) (by kernel_rfl) (fun _ => ?_) (fun q => by cases q)
      refine XQ.seq E0_ok (by kernel_rfl) ?_
      refine XQ.region (by kernel_rfl) ?_
      refine XR.runS E0_ok 1 2 [(15, .func (.func 48) #[] #[pp 1 0]), (16, s0 5 lh5_2.length)] rfl (by kernel_rfl) ?_
      refine XR.callK E0_ok [17] rfl (K := 48) (args := [s0 5 lh5_2.length, pp 1 0]) (d := (some (path 12 17))) (by kernel_rfl) ?_
      refine KC.bodyN E0_ok (F := Proofs.Try.f48) (by kernel_rfl) (code := f11_C48) (by kernel_rfl) (nt := 8) (by kernel_rfl) (rs := [.tmp 3]) (by kernel_rfl) (by kernel_rfl) (σ := [(0, s0 5 lh5_2.length), (1, pp 1 0)]) (by kernel_rfl) ?_
      refine XQ.seq E0_ok (by kernel_rfl) ?_
      refine XQ.region (by kernel_rfl) ?_
      refine XR.runS E0_ok 1 1 [(0, s0 5 lh5_2.length), (1, pp 1 0)] rfl (by kernel_rfl) ?_
      refine XR.done (by kernel_rfl) ?_
      show XQ _ _ _ _ _ _ _ _
      refine XQ.seq E0_ok (by kernel_rfl) ?_
      refine XQ.qtail E0_ok [0, 1, 2, 3] 4 [] (by kernel_rfl) (by kernel_rfl) (by kernel_rfl) ?_
      refine XU.run E0_ok 1 2 [1, 4, 5] rfl (σ' := [(1, pp 1 0), (4, ii xh1_0_2), (5, s0 5 lh5_2.length)]) (by kernel_rfl) ?_
      obtain ⟨r22, r22_h, h⟩ := bS h
      refine XU.callH E0_ok [1, 4, 6] rfl (K := 49) (args := [s0 5 lh5_2.length]) (d := (some (path 12 6))) (V := ii r22) (by kernel_rfl) rfl (KC.quiet E0_ok (args0 := [s0 0 lh5_2.length]) (h0 := [(0, rc (encI .i64) lh5_2 (0 + ((rowC (encI .i64) lh5_2).length + 1)) 3 1)]) (n := 1) (V := ii r22) [5] (f49_ok m (0 + ((rowC (encI .i64) lh5_2).length + 1)) 3 lh5_2 r22 r22_h) rfl (by rfl) (by decide) rfl (by kernel_rfl) ⟨⟨_, _, rfl, rfl, .inl ⟨rfl, rowC_scal (encI_ok .i64) _⟩⟩, trivial⟩) (σ' := [(1, pp 1 0), (4, ii xh1_0_2), (6, ii r22)]) (by kernel_rfl) ?_
      refine XU.run E0_ok 1 1 [1, 7] rfl (σ' := [(1, pp 1 0), (7, ii (iMin xh1_0_2 r22))]) (by kernel_rfl) ?_
      refine XU.done (by kernel_rfl) ?_
      show XR _ _ _ _ _ _ _ _ _
      refine XR.runT E0_ok 1 1 [] [(8, .cells [.func (.func 85) #[] #[pp 2 0, pp 4 0, pp 6 0, pp 7 0, pp 3 0, pp 8 0]] 0 81 0), (7, rc (encI .i64) lh7_2 0 88 0), (6, .cells [s0 5 lh5_2.length] 0 23 0), (5, rc (encI .i64) lh5_2 0 3 1), (4, .cells [.func (.func 48) #[] #[pp 1 0]] 0 72 0), (3, .cells [ii xh3_0_2] 0 3 0), (2, .cells [s0 0 lh0_2.length] 0 22 0), (1, .cells [ii (iMin xh1_0_2 r22)] 0 3 0), (0, rc encP lh0_2 0 61 2)] 9 rfl (by kernel_rfl) ?_
      refine XR.done (by kernel_rfl) ?_
      show XQ _ _ _ _ _ _ _ _
      refine XQ.seq E0_ok (by kernel_rfl) ?_
      refine XQ.region (by kernel_rfl) ?_
      refine XR.runS E0_ok 1 1 [(3, .bool true)] rfl (by kernel_rfl) ?_
      refine XR.done (by kernel_rfl) ?_
      show XQ _ _ _ _ _ _ _ _
      refine XQ.ret (by kernel_rfl) ?_
      refine ⟨fun i q => (by cases q), .bool true, (by kernel_rfl), ?_⟩
      refine XR.conv (σ' := [(17, .bool true)]) (h' := [(8, .cells [.func (.func 85) #[] #[pp 2 0, pp 4 0, pp 6 0, pp 7 0, pp 3 0, pp 8 0]] 0 81 0), (7, rc (encI .i64) lh7_2 0 88 0), (6, .cells [s0 5 lh5_2.length] 0 23 0), (5, rc (encI .i64) lh5_2 0 3 1), (4, .cells [.func (.func 48) #[] #[pp 1 0]] 0 72 0), (3, .cells [ii xh3_0_2] 0 3 0), (2, .cells [s0 0 lh0_2.length] 0 22 0), (1, .cells [ii (iMin xh1_0_2 r22)] 0 3 0), (0, rc encP lh0_2 0 61 2)]) (c' := 9) ?_ (by kernel_rfl)
      refine XR.runS E0_ok 1 1 [(8, .bool true)] rfl (by kernel_rfl) ?_
      refine XR.done (by kernel_rfl) ?_
      show XQ _ _ _ _ _ _ _ _
      refine XQ.ren (σ' := [(8, .bool true)]) (h' := [(8, .cells [.func (.func 85) #[] #[pp 2 0, pp 4 0, pp 6 0, pp 7 0, pp 3 0, pp 8 0]] 0 81 0), (7, rc (encI .i64) lh7_2 0 88 0), (6, .cells [s0 5 lh5_2.length] 0 23 0), (5, rc (encI .i64) lh5_2 0 3 1), (4, .cells [.func (.func 48) #[] #[pp 1 0]] 0 72 0), (3, .cells [ii xh3_0_2] 0 3 0), (2, .cells [s0 0 lh0_2.length] 0 22 0), (1, .cells [ii (iMin xh1_0_2 r22)] 0 3 0), (0, rc encP lh0_2 0 61 2)]) (c' := 9) [0, 1, 2, 3, 4, 5, 6, 7, 8] (by decide) rfl ⟨by kernel_rfl, trivial⟩ ⟨⟨_, _, rfl, rfl, .inr ⟨_, _, _, _, rfl, rfl⟩⟩, ⟨_, _, rfl, rfl, .inl ⟨rfl, rowC_scal (encI_ok .i64) _⟩⟩, ⟨_, _, rfl, rfl, .inr ⟨_, _, _, _, rfl, rfl⟩⟩, ⟨_, _, rfl, rfl, .inl ⟨rfl, rowC_scal (encI_ok .i64) _⟩⟩, ⟨_, _, rfl, rfl, .inr ⟨_, _, _, _, rfl, rfl⟩⟩, ⟨_, _, rfl, rfl, .inr ⟨_, _, _, _, rfl, rfl⟩⟩, ⟨_, _, rfl, rfl, .inr ⟨_, _, _, _, rfl, rfl⟩⟩, ⟨_, _, rfl, rfl, .inr ⟨_, _, _, _, rfl, rfl⟩⟩, ⟨_, _, rfl, rfl, .inl ⟨rfl, rowC_scal encP_ok _⟩⟩, trivial⟩ rfl ?_
      refine XQ.ret (by kernel_rfl) ?_
      cases h
      exact ⟨fun i q => (by cases q), .bool true, (by kernel_rfl), (by first | exact hR | simpa only [List.length_set] using hR)⟩
    | false =>
      have h := cF b1 h
      refine XQ.cond (s := (.tmp 14)) (b := false) (by kernel_rfl) (by kernel_rfl) (fun q => by cases q) (fun _ => ?_)
      refine XQ.skip (by kernel_rfl) ?_
      show XQ _ _ _ _ _ _ _ _
      refine XQ.seq E0_ok (by kernel_rfl) ?_
      refine XQ.seq E0_ok (by kernel_rfl) ?_
      refine XQ.region (by kernel_rfl) ?_
      refine XR.runS E0_ok 1 2 [(0, ii x0_2), (1, pp 2 0), (3, pp 6 0), (4, pp 7 0), (5, pp 3 0), (6, pp 8 0), (18, s0 0 lh0_2.length), (19, ii x0_2)] rfl (by kernel_rfl) ?_
      cases b2 : (inRow x0_2 lh0_2.length : Bool) with
      | false => cases (cF b2 h)
      | true =>
        have h := cT b2 h
        refine XR.rd E0_ok [0, 1, 3, 4, 5, 6, 20] rfl (v := pp 0 ((Int.toNat x0_2) * 2)) (v_idx (s := 2) (x := (src 57 (.tmp 18))) (y := (src 57 (.tmp 19))) (b := 0) (o := 0) (len := lh0_2.length) (cap := lh0_2.length) (ik := .i64) (i := x0_2) (off := (Int.toNat x0_2) * 2) (d := (some (path 12 20))) (by kernel_rfl) (by kernel_rfl) (by kernel_rfl) b2 (by omega)) (σ' := [(0, ii x0_2), (1, pp 2 0), (3, pp 6 0), (4, pp 7 0), (5, pp 3 0), (6, pp 8 0), (20, pp 0 ((Int.toNat x0_2) * 2))]) (by kernel_rfl) ?_
        refine XR.runS E0_ok 1 1 [(0, ii x0_2), (1, pp 2 0), (3, pp 6 0), (4, pp 7 0), (5, pp 3 0), (6, pp 8 0), (21, pp 0 ((Int.toNat x0_2) * 2))] rfl (by kernel_rfl) ?_
        refine XR.rd E0_ok [0, 1, 3, 4, 5, 6, 22] rfl (v := ii ((List.getD lh0_2 (Int.toNat x0_2) (0, 0)).1)) (v_load1 encP_ok (x := (src 57 (.tmp 21))) (b := 0) (off := (Int.toNat x0_2) * 2) (xs := lh0_2) (fz := 0) (e := 61) (es := 2) (d := (some (path 12 22))) (by kernel_rfl) (by kernel_rfl) (by kernel_rfl) (Int.toNat x0_2) 0 (0, 0) (by first | rfl | omega) (row_len (inRow_toNat b2) (by simp)) rfl rfl) (σ' := [(0, ii x0_2), (1, pp 2 0), (3, pp 6 0), (4, pp 7 0), (5, pp 3 0), (6, pp 8 0), (22, ii ((List.getD lh0_2 (Int.toNat x0_2) (0, 0)).1))]) (by kernel_rfl) ?_
        refine XR.runS E0_ok 1 1 [(0, ii x0_2), (1, pp 2 0), (3, pp 6 0), (4, pp 7 0), (5, pp 3 0), (6, pp 8 0), (9, ii ((List.getD lh0_2 (Int.toNat x0_2) (0, 0)).1))] rfl (by kernel_rfl) ?_
        refine XR.done (by kernel_rfl) ?_
        show XQ _ _ _ _ _ _ _ _
        refine XQ.block (id := 0) (by kernel_rfl) ?_
        refine XQ.loop m (by kernel_rfl) ?_
        obtain ⟨o3, o3_h, h⟩ := bS h
        refine XL.ren (σ' := [(0, ii x0_2), (1, pp 2 0), (3, pp 6 0), (4, pp 7 0), (5, pp 3 0), (6, pp 8 0), (9, ii ((List.getD lh0_2 (Int.toNat x0_2) (0, 0)).1))]) (h' := [(8, .cells [.func (.func 85) #[] #[pp 2 0, pp 4 0, pp 6 0, pp 7 0, pp 3 0, pp 8 0]] 0 81 0), (7, rc (encI .i64) lh7_2 0 88 0), (6, .cells [s0 5 lh5_2.length] 0 23 0), (5, rc (encI .i64) lh5_2 0 3 1), (4, .cells [.func (.func 48) #[] #[pp 1 0]] 0 72 0), (3, .cells [ii xh3_0_2] 0 3 0), (2, .cells [s0 0 lh0_2.length] 0 22 0), (1, .cells [ii xh1_0_2] 0 3 0), (0, rc encP lh0_2 0 61 2)]) (c' := 9) [0, 1, 2, 3, 4, 5, 6, 7, 8] (by decide) rfl ⟨by kernel_rfl, by kernel_rfl, by kernel_rfl, by kernel_rfl, by kernel_rfl, by kernel_rfl, by kernel_rfl, trivial⟩ ⟨⟨_, _, rfl, rfl, .inr ⟨_, _, _, _, rfl, rfl⟩⟩, ⟨_, _, rfl, rfl, .inl ⟨rfl, rowC_scal (encI_ok .i64) _⟩⟩, ⟨_, _, rfl, rfl, .inr ⟨_, _, _, _, rfl, rfl⟩⟩, ⟨_, _, rfl, rfl, .inl ⟨rfl, rowC_scal (encI_ok .i64) _⟩⟩, ⟨_, _, rfl, rfl, .inr ⟨_, _, _, _, rfl, rfl⟩⟩, ⟨_, _, rfl, rfl, .inr ⟨_, _, _, _, rfl, rfl⟩⟩, ⟨_, _, rfl, rfl, .inr ⟨_, _, _, _, rfl, rfl⟩⟩, ⟨_, _, rfl, rfl, .inr ⟨_, _, _, _, rfl, rfl⟩⟩, ⟨_, _, rfl, rfl, .inl ⟨rfl, rowC_scal encP_ok _⟩⟩, trivial⟩ rfl ?_
        refine XL.conv (f11_3_ok m (f11_2 m fuel) (f11_2_ok m fuel) m x0_2 lh0_2 xh3_0_2 ((List.getD lh0_2 (Int.toNat x0_2) (0, 0)).1) xh1_0_2 lh5_2 lh7_2 o3 o3_h _ ?_) (by first | rfl | simp)
        show XQ _ _ _ _ _ _ _ _
        refine XQ.seq E0_ok (by kernel_rfl) ?_
        refine XQ.region (by kernel_rfl) ?_
        refine XR.runS E0_ok 1 1 [(8, .bool true)] rfl (by kernel_rfl) ?_
        refine XR.done (by kernel_rfl) ?_
        show XQ _ _ _ _ _ _ _ _
        refine XQ.ren (σ' := [(8, .bool true)]) (h' := [(8, .cells [.func (.func 85) #[] #[pp 2 0, pp 4 0, pp 6 0, pp 7 0, pp 3 0, pp 8 0]] 0 81 0), (7, rc (encI .i64) o3.2.2 0 88 0), (6, .cells [s0 5 o3.2.1.length] 0 23 0), (5, rc (encI .i64) o3.2.1 0 3 1), (4, .cells [.func (.func 48) #[] #[pp 1 0]] 0 72 0), (3, .cells [ii xh3_0_2] 0 3 0), (2, .cells [s0 0 lh0_2.length] 0 22 0), (1, .cells [ii o3.1] 0 3 0), (0, rc encP lh0_2 0 61 2)]) (c' := 9) [0, 1, 2, 3, 4, 5, 6, 7, 8] (by decide) rfl ⟨by kernel_rfl, trivial⟩ ⟨⟨_, _, rfl, rfl, .inr ⟨_, _, _, _, rfl, rfl⟩⟩, ⟨_, _, rfl, rfl, .inl ⟨rfl, rowC_scal (encI_ok .i64) _⟩⟩, ⟨_, _, rfl, rfl, .inr ⟨_, _, _, _, rfl, rfl⟩⟩, ⟨_, _, rfl, rfl, .inl ⟨rfl, rowC_scal (encI_ok .i64) _⟩⟩, ⟨_, _, rfl, rfl, .inr ⟨_, _, _, _, rfl, rfl⟩⟩, ⟨_, _, rfl, rfl, .inr ⟨_, _, _, _, rfl, rfl⟩⟩, ⟨_, _, rfl, rfl, .inr ⟨_, _, _, _, rfl, rfl⟩⟩, ⟨_, _, rfl, rfl, .inr ⟨_, _, _, _, rfl, rfl⟩⟩, ⟨_, _, rfl, rfl, .inl ⟨rfl, rowC_scal encP_ok _⟩⟩, trivial⟩ rfl ?_
        refine XQ.ret (by kernel_rfl) ?_
        cases h
        exact ⟨fun i q => (by cases q), .bool true, (by kernel_rfl), (by first | exact hR | simpa only [List.length_set] using hR)⟩

def f11 (m : Nat) (a_0_0 : Int) (a_0_1 : Int) (a_1_0 : Int) (a_1_1 : Int) (a_2_0 : Int) (a_2_1 : Int) (a_3_0 : Int) (a_3_1 : Int) (a_4_0 : Int) (a_4_1 : Int) (a_5_0 : Int) (a_5_1 : Int) (a_6_0 : Int) (a_6_1 : Int) (a_7_0 : Int) (a_7_1 : Int) (b : Int) (c : Int) : Option (Bool) :=
  (f41 m a_0_0 a_0_1 a_1_0 a_1_1 a_2_0 a_2_1 a_3_0 a_3_1 a_4_0 a_4_1 a_5_0 a_5_1 a_6_0 a_6_1 a_7_0 a_7_1 (w64 b) 7 8 0).bind fun r1 =>
    (f11_1 m m c 0 r1).bind fun o1 =>
      (f29 m o1.2).bind fun r5 =>
        cond (r5.2 != 0) (
          some (false)
        ) (
          cond (r5.1 != o1.1) (
            some (false)
          ) (
            (f31 m o1.2 (w64 (1 + (Int.tmod (w64 c) 3)))).bind fun r6 =>
              cond (decide ((w64 (1 + (Int.tmod (w64 c) 3))) < o1.1)) (
                cond (r6.2 == 12) (
                  cond (r6.1 == 0) (
                    some (true)
                  ) (
                    some (false)
                  )
                ) (
                  some (false)
                )
              ) (
                cond (decide (((o1.2.length : Nat) : Int) > 0)) (
                  cond (mkOK ((o1.2.length : Nat) : Int) ((o1.2.length : Nat) : Int) 8) (
                    (f11_2 m m 0 o1.2 100 (w64 (1 + (Int.tmod (w64 c) 3))) (List.replicate (Int.toNat ((o1.2.length : Nat) : Int)) 0) [0, 0, 0, 0, 0, 0, 0, 0, 0, 0, 0, 0, 0, 0, 0, 0, 0, 0, 0, 0, 0, 0, 0, 0]).bind fun r38_ =>
                      (f31 m o1.2 (w64 ((w64 (1 + (Int.tmod (w64 c) 3))) + 1))).bind fun r23 =>
                        cond (r6.2 == 0) (
                          cond (r6.1 == r38_.1) (
                            cond (r23.2 == 0) (
                              cond (decide (r23.1 ≤ r6.1)) (
                                some (true)
                              ) (
                                some (false)
                              )
                            ) (
                              some (false)
                            )
                          ) (
                            some (false)
                          )
                        ) (
                          some (false)
                        )
                  ) none
                ) (
                  (f31 m o1.2 (w64 ((w64 (1 + (Int.tmod (w64 c) 3))) + 1))).bind fun r24 =>
                    cond (r6.2 == 0) (
                      cond (r6.1 == 0) (
                        cond (r24.2 == 0) (
                          cond (decide (r24.1 ≤ r6.1)) (
                            some (true)
                          ) (
                            some (false)
                          )
                        ) (
                          some (false)
                        )
                      ) (
                        some (false)
                      )
                    ) (
                      some (false)
                    )
                )
              )
          )
        )

theorem f11_ok (m : Nat) (a_0_0 : Int) (a_0_1 : Int) (a_1_0 : Int) (a_1_1 : Int) (a_2_0 : Int) (a_2_1 : Int) (a_3_0 : Int) (a_3_1 : Int) (a_4_0 : Int) (a_4_1 : Int) (a_5_0 : Int) (a_5_1 : Int) (a_6_0 : Int) (a_6_1 : Int) (a_7_0 : Int) (a_7_1 : Int) (b : Int) (c : Int) (o : Bool) (h : f11 m a_0_0 a_0_1 a_1_0 a_1_1 a_2_0 a_2_1 a_3_0 a_3_1 a_4_0 a_4_1 a_5_0 a_5_1 a_6_0 a_6_1 a_7_0 a_7_1 b c = some o) (w : World) (hI : anyInv w) : Calls Proofs.Try.prog 11 #[.agg #[.int .u8 a_0_0, .int .u8 a_0_1, .int .u8 a_1_0, .int .u8 a_1_1, .int .u8 a_2_0, .int .u8 a_2_1, .int .u8 a_3_0, .int .u8 a_3_1, .int .u8 a_4_0, .int .u8 a_4_1, .int .u8 a_5_0, .int .u8 a_5_1, .int .u8 a_6_0, .int .u8 a_6_1, .int .u8 a_7_0, .int .u8 a_7_1], .int .u8 b, .int .u8 c] w fun e w' => e = .returned (.bool o) ∧ Below w.heap.size w w' := by
  refine KC.calls (E := E0) (args := [.agg #[.int .u8 a_0_0, .int .u8 a_0_1, .int .u8 a_1_0, .int .u8 a_1_1, .int .u8 a_2_0, .int .u8 a_2_1, .int .u8 a_3_0, .int .u8 a_3_1, .int .u8 a_4_0, .int .u8 a_4_1, .int .u8 a_5_0, .int .u8 a_5_1, .int .u8 a_6_0, .int .u8 a_6_1, .int .u8 a_7_0, .int .u8 a_7_1], .int .u8 b, .int .u8 c]) (v := .bool o) rfl rfl (KC.bodyN E0_ok (F := Proofs.Try.f11) (by kernel_rfl) (code := f11_C11) (by kernel_rfl) (nt := 99) (by kernel_rfl) (rs := [.tmp 6]) (by kernel_rfl) (by kernel_rfl) (σ := [(0, .agg #[.int .u8 a_0_0, .int .u8 a_0_1, .int .u8 a_1_0, .int .u8 a_1_1, .int .u8 a_2_0, .int .u8 a_2_1, .int .u8 a_3_0, .int .u8 a_3_1, .int .u8 a_4_0, .int .u8 a_4_1, .int .u8 a_5_0, .int .u8 a_5_1, .int .u8 a_6_0, .int .u8 a_6_1, .int .u8 a_7_0, .int .u8 a_7_1]), (1, .int .u8 b), (2, .int .u8 c)]) (by kernel_rfl) ?_) w (anyInv_size hI) hI
  unfold f11 at h
  refine XQ.seq E0_ok (by kernel_rfl) ?_
  refine XQ.region (by kernel_rfl) ?_
  refine XR.runT E0_ok 1 2 [(1, .int .u8 b), (2, .int .u8 c), (3, pp 0 0)] [(0, .cells [.int .u8 a_0_0, .int .u8 a_0_1, .int .u8 a_1_0, .int .u8 a_1_1, .int .u8 a_2_0, .int .u8 a_2_1, .int .u8 a_3_0, .int .u8 a_3_1, .int .u8 a_4_0, .int .u8 a_4_1, .int .u8 a_5_0, .int .u8 a_5_1, .int .u8 a_6_0, .int .u8 a_6_1, .int .u8 a_7_0, .int .u8 a_7_1] 0 56 0)] 1 rfl (by kernel_rfl) ?_
  refine XR.done (by kernel_rfl) ?_
  show XQ _ _ _ _ _ _ _ _
  refine XQ.seq E0_ok (by kernel_rfl) ?_
  refine XQ.region (by kernel_rfl) ?_
  refine XR.runS E0_ok 1 3 [(2, .int .u8 c), (19, .agg #[.int .u8 a_0_0, .int .u8 a_0_1, .int .u8 a_1_0, .int .u8 a_1_1, .int .u8 a_2_0, .int .u8 a_2_1, .int .u8 a_3_0, .int .u8 a_3_1, .int .u8 a_4_0, .int .u8 a_4_1, .int .u8 a_5_0, .int .u8 a_5_1, .int .u8 a_6_0, .int .u8 a_6_1, .int .u8 a_7_0, .int .u8 a_7_1]), (21, ii (w64 b))] rfl (by kernel_rfl) ?_
  obtain ⟨r1, r1_h, h⟩ := bS h
  refine XR.call E0_ok [2, 22] rfl (K := 41) (args := [.agg #[.int .u8 a_0_0, .int .u8 a_0_1, .int .u8 a_1_0, .int .u8 a_1_1, .int .u8 a_2_0, .int .u8 a_2_1, .int .u8 a_3_0, .int .u8 a_3_1, .int .u8 a_4_0, .int .u8 a_4_1, .int .u8 a_5_0, .int .u8 a_5_1, .int .u8 a_6_0, .int .u8 a_6_1, .int .u8 a_7_0, .int .u8 a_7_1], ii (w64 b), ii 7, ii 8, ii 0]) (d := (some (path 12 22))) (by kernel_rfl) (KC.lift (V2 := s0 1 r1.length) (H2 := [(1, rc encP r1 0 61 2)]) [1, 0] (f41_ok m a_0_0 a_0_1 a_1_0 a_1_1 a_2_0 a_2_1 a_3_0 a_3_1 a_4_0 a_4_1 a_5_0 a_5_1 a_6_0 a_6_1 a_7_0 a_7_1 (w64 b) 7 8 0 r1 r1_h) rfl (by decide) (by decide) (by kernel_rfl) ⟨⟨_, _, rfl, rfl, .inl ⟨rfl, rowC_scal encP_ok _⟩⟩, trivial⟩ (by rfl)) ?_
  rintro _ _ _ ⟨rfl, rfl, rfl⟩
  refine XR.conv (σ' := [(2, .int .u8 c), (22, s0 1 r1.length)]) (h' := [(1, rc encP r1 0 61 2), (0, .cells [.int .u8 a_0_0, .int .u8 a_0_1, .int .u8 a_1_0, .int .u8 a_1_1, .int .u8 a_2_0, .int .u8 a_2_1, .int .u8 a_3_0, .int .u8 a_3_1, .int .u8 a_4_0, .int .u8 a_4_1, .int .u8 a_5_0, .int .u8 a_5_1, .int .u8 a_6_0, .int .u8 a_6_1, .int .u8 a_7_0, .int .u8 a_7_1] 0 56 0)]) (c' := 2) ?_ (by kernel_rfl)
  refine XR.runS E0_ok 1 1 [(2, .int .u8 c), (7, s0 1 r1.length)] rfl (by kernel_rfl) ?_
  refine XR.done (by kernel_rfl) ?_
  show XQ _ _ _ _ _ _ _ _
  refine XQ.seq E0_ok (by kernel_rfl) ?_
  refine XQ.region (by kernel_rfl) ?_
  refine XR.runS E0_ok 1 1 [(2, .int .u8 c), (7, s0 1 r1.length), (8, ii 0)] rfl (by kernel_rfl) ?_
  refine XR.done (by kernel_rfl) ?_
  show XQ _ _ _ _ _ _ _ _
  refine XQ.seq E0_ok (by kernel_rfl) ?_
  refine XQ.block (id := 0) (by kernel_rfl) ?_
  refine XQ.loop m (by kernel_rfl) ?_
  obtain ⟨o1, o1_h, h⟩ := bS h
  refine XL.ren (σ' := [(2, .int .u8 c), (7, s0 0 r1.length), (8, ii 0)]) (h' := [(0, rc encP r1 0 61 2)]) (c' := 1) [1] (by decide) rfl ⟨by kernel_rfl, by kernel_rfl, by kernel_rfl, trivial⟩ ⟨⟨_, _, rfl, rfl, .inl ⟨rfl, rowC_scal encP_ok _⟩⟩, trivial⟩ rfl ?_
  refine XL.conv (f11_1_ok m m c 0 r1 o1 o1_h _ ?_) (by first | rfl | simp)
  show XQ _ _ _ _ _ _ _ _
  refine XQ.seq E0_ok (by kernel_rfl) ?_
  refine XQ.region (by kernel_rfl) ?_
  refine XR.runS E0_ok 1 1 [(2, .int .u8 c), (7, s0 0 o1.2.length), (8, ii o1.1), (33, s0 0 o1.2.length)] rfl (by kernel_rfl) ?_
  obtain ⟨r5, r5_h, h⟩ := bS h
  refine XR.call E0_ok [2, 7, 8, 34] rfl (K := 29) (args := [s0 0 o1.2.length]) (d := (some (path 12 34))) (by kernel_rfl) (KQ.call (KC.quiet E0_ok (args0 := [s0 0 o1.2.length]) (h0 := [(0, rc encP o1.2 (0 + ((rowC encP o1.2).length + 1)) 61 2)]) (n := 1) (V := .tuple #[ii r5.1, ii r5.2]) [0] (f29_ok m (0 + ((rowC encP o1.2).length + 1)) 61 o1.2 r5 r5_h) rfl (by rfl) (by decide) rfl (by kernel_rfl) ⟨⟨_, _, rfl, rfl, .inl ⟨rfl, rowC_scal encP_ok _⟩⟩, trivial⟩) rfl) ?_
  rintro _ _ _ ⟨rfl, rfl, rfl⟩
  refine XR.conv (σ' := [(2, .int .u8 c), (7, s0 0 o1.2.length), (8, ii o1.1), (34, .tuple #[ii r5.1, ii r5.2])]) (h' := [(0, rc encP o1.2 0 61 2)]) (c' := 1) ?_ (by kernel_rfl)
  refine XR.runS E0_ok 1 5 [(2, .int .u8 c), (7, s0 0 o1.2.length), (8, ii o1.1), (11, ii r5.1), (12, ii r5.2)] rfl (by kernel_rfl) ?_
  refine XR.done (by kernel_rfl) ?_
  show XQ _ _ _ _ _ _ _ _
  refine XQ.seq E0_ok (by kernel_rfl) ?_
  refine XQ.seq E0_ok (by kernel_rfl) ?_
  refine XQ.region (by kernel_rfl) ?_
  refine XR.runS E0_ok 1 3 [(2, .int .u8 c), (7, s0 0 o1.2.length), (8, ii o1.1), (11, ii r5.1), (39, .bool (r5.2 != 0))] rfl (by kernel_rfl) ?_
  cases b2 : (r5.2 != 0 : Bool) with
  | true =>
    have h := cT b2 h
    refine XR.runS E0_ok 1 4 [(2, .int .u8 c), (7, s0 0 o1.2.length), (8, ii o1.1), (43, .bool true)] rfl (by kernel_rfl) ?_
    refine XR.done (by kernel_rfl) ?_
    show XQ _ _ _ _ _ _ _ _
    refine XQ.cond (s := (.tmp 43)) (b := true) (by kernel_rfl) (by kernel_rfl) (fun _ => ?_) (fun q => by cases q)
    refine XQ.seq E0_ok (by kernel_rfl) ?_
    refine XQ.region (by kernel_rfl) ?_
    refine XR.runS E0_ok 1 1 [(6, .bool false)] rfl (by kernel_rfl) ?_
    refine XR.done (by kernel_rfl) ?_
    show XQ _ _ _ _ _ _ _ _
    refine XQ.ret (by kernel_rfl) ?_
    have h := Option.some.inj h
    subst h
    exact ⟨fun i q => (by cases q), .bool false, (by kernel_rfl), rfl⟩
  | false =>
    have h := cF b2 h
    refine XR.runS E0_ok 1 4 [(2, .int .u8 c), (7, s0 0 o1.2.length), (8, ii o1.1), (43, .bool (r5.1 != o1.1))] rfl (by kernel_rfl) ?_
    refine XR.done (by kernel_rfl) ?_
    show XQ _ _ _ _ _ _ _ _
    cases b3 : (r5.1 != o1.1 : Bool) with
    | true =>
      have h := cT b3 h
      refine XQ.cond (s := (.tmp 43)) (b := true) (by kernel_rfl) (by kernel_rfl) (fun _ => ?_) (fun q => by cases q)
      refine XQ.seq E0_ok (by kernel_rfl) ?_
      refine XQ.region (by kernel_rfl) ?_
      refine XR.runS E0_ok 1 1 [(6, .bool false)] rfl (by kernel_rfl) ?_
      refine XR.done (by kernel_rfl) ?_
      show XQ _ _ _ _ _ _ _ _
      refine XQ.ret (by kernel_rfl) ?_
      have h := Option.some.inj h
      subst h
      exact ⟨fun i q => (by cases q), .bool false, (by kernel_rfl), rfl⟩
    | false =>
      have h := cF b3 h
      refine XQ.cond (s := (.tmp 43)) (b := false) (by kernel_rfl) (by kernel_rfl) (fun q => by cases q) (fun _ => ?_)
      refine XQ.skip (by kernel_rfl) ?_
      show XQ _ _ _ _ _ _ _ _
      refine XQ.seq E0_ok (by kernel_rfl) ?_
      refine XQ.region (by kernel_rfl) ?_
      refine XR.runS E0_ok 1 5 [(7, s0 0 o1.2.length), (8, ii o1.1), (13, ii (w64 (1 + (Int.tmod (w64 c) 3))))] rfl (by kernel_rfl) ?_
      refine XR.done (by kernel_rfl) ?_
      show XQ _ _ _ _ _ _ _ _
      refine XQ.seq E0_ok (by kernel_rfl) ?_
      refine XQ.region (by kernel_rfl) ?_
      refine XR.runS E0_ok 1 2 [(7, s0 0 o1.2.length), (8, ii o1.1), (13, ii (w64 (1 + (Int.tmod (w64 c) 3)))), (49, s0 0 o1.2.length), (50, ii (w64 (1 + (Int.tmod (w64 c) 3))))] rfl (by kernel_rfl) ?_
      obtain ⟨r6, r6_h, h⟩ := bS h
      refine XR.call E0_ok [7, 8, 13, 51] rfl (K := 31) (args := [s0 0 o1.2.length, ii (w64 (1 + (Int.tmod (w64 c) 3)))]) (d := (some (path 12 51))) (by kernel_rfl) (KQ.call (KC.quiet E0_ok (args0 := [s0 0 o1.2.length, ii (w64 (1 + (Int.tmod (w64 c) 3)))]) (h0 := [(0, rc encP o1.2 (0 + ((rowC encP o1.2).length + 1)) 61 2)]) (n := 1) (V := .tuple #[ii r6.1, ii r6.2]) [0] (f31_ok m (0 + ((rowC encP o1.2).length + 1)) 61 o1.2 (w64 (1 + (Int.tmod (w64 c) 3))) r6 r6_h) rfl (by rfl) (by decide) rfl (by kernel_rfl) ⟨⟨_, _, rfl, rfl, .inl ⟨rfl, rowC_scal encP_ok _⟩⟩, trivial⟩) rfl) ?_
      rintro _ _ _ ⟨rfl, rfl, rfl⟩
      refine XR.conv (σ' := [(7, s0 0 o1.2.length), (8, ii o1.1), (13, ii (w64 (1 + (Int.tmod (w64 c) 3)))), (51, .tuple #[ii r6.1, ii r6.2])]) (h' := [(0, rc encP o1.2 0 61 2)]) (c' := 1) ?_ (by kernel_rfl)
      refine XR.runS E0_ok 1 5 [(7, s0 0 o1.2.length), (8, ii o1.1), (13, ii (w64 (1 + (Int.tmod (w64 c) 3)))), (14, ii r6.1), (15, ii r6.2)] rfl (by kernel_rfl) ?_
      refine XR.done (by kernel_rfl) ?_
      show XQ _ _ _ _ _ _ _ _
      refine XQ.seq E0_ok (by kernel_rfl) ?_
      refine XQ.seq E0_ok (by kernel_rfl) ?_
      refine XQ.region (by kernel_rfl) ?_
      refine XR.runS E0_ok 1 3 [(7, s0 0 o1.2.length), (13, ii (w64 (1 + (Int.tmod (w64 c) 3)))), (14, ii r6.1), (15, ii r6.2), (56, .bool (decide ((w64 (1 + (Int.tmod (w64 c) 3))) < o1.1)))] rfl (by kernel_rfl) ?_
      refine XR.done (by kernel_rfl) ?_
      show XQ _ _ _ _ _ _ _ _
      cases b4 : (decide ((w64 (1 + (Int.tmod (w64 c) 3))) < o1.1) : Bool) with
      | true =>
        have h := cT b4 h
        refine XQ.cond (s := (.tmp 56)) (b := true) (by kernel_rfl) (by kernel_rfl) (fun _ => ?_) (fun q => by cases q)
        refine XQ.seq E0_ok (by kernel_rfl) ?_
        refine XQ.region (by kernel_rfl) ?_
        refine XR.runS E0_ok 1 3 [(14, ii r6.1), (59, .bool (r6.2 == 12))] rfl (by kernel_rfl) ?_
        cases b5 : (r6.2 == 12 : Bool) with
        | true =>
          have h := cT b5 h
          refine XR.runS E0_ok 1 4 [(63, .bool (r6.1 == 0))] rfl (by kernel_rfl) ?_
          cases b6 : (r6.1 == 0 : Bool) with
          | true =>
            have h := cT b6 h
            refine XR.call E0_ok [63, 64] rfl (K := 16) (args := []) (d := (some (path 12 64))) (by kernel_rfl) (KC.of_calls E0_ok (F := Proofs.Try.f16) (v := .bool true) (by kernel_rfl) rfl rfl (works_ok)) ?_
            rintro _ _ _ ⟨rfl, rfl, rfl⟩
            refine XR.conv (σ' := [(63, .bool true), (64, .bool true)]) (h' := [(0, rc encP o1.2 0 61 2)]) (c' := 1) ?_ (by kernel_rfl)
            refine XR.runS E0_ok 1 2 [(6, .bool true)] rfl (by kernel_rfl) ?_
            refine XR.done (by kernel_rfl) ?_
            show XQ _ _ _ _ _ _ _ _
            refine XQ.ret (by kernel_rfl) ?_
            have h := Option.some.inj h
            subst h
            exact ⟨fun i q => (by cases q), .bool true, (by kernel_rfl), rfl⟩
          | false =>
            have h := cF b6 h
            refine XR.runS E0_ok 1 3 [(6, .bool false)] rfl (by kernel_rfl) ?_
            refine XR.done (by kernel_rfl) ?_
            show XQ _ _ _ _ _ _ _ _
            refine XQ.ret (by kernel_rfl) ?_
            have h := Option.some.inj h
            subst h
            exact ⟨fun i q => (by cases q), .bool false, (by kernel_rfl), rfl⟩
        | false =>
          have h := cF b5 h
          refine XR.runS E0_ok 1 7 [(6, .bool false)] rfl (by kernel_rfl) ?_
          refine XR.done (by kernel_rfl) ?_
          show XQ _ _ _ _ _ _ _ _
          refine XQ.ret (by kernel_rfl) ?_
          have h := Option.some.inj h
          subst h
          exact ⟨fun i q => (by cases q), .bool false, (by kernel_rfl), rfl⟩
      | false =>
        have h := cF b4 h
        refine XQ.cond (s := (.tmp 56)) (b := false) (by kernel_rfl) (by kernel_rfl) (fun q => by cases q) (fun _ => ?_)
        refine XQ.skip (by kernel_rfl) ?_
        show XQ _ _ _ _ _ _ _ _
        refine XQ.seq E0_ok (by kernel_rfl) ?_
        refine XQ.region (by kernel_rfl) ?_
        refine XR.runT E0_ok 1 2 [(7, s0 0 o1.2.length), (13, ii (w64 (1 + (Int.tmod (w64 c) 3)))), (14, ii r6.1), (15, ii r6.2), (16, pp 1 0)] [(1, .cells [ii 0] 0 3 0), (0, rc encP o1.2 0 61 2)] 2 rfl (by kernel_rfl) ?_
        refine XR.done (by kernel_rfl) ?_
        show XQ _ _ _ _ _ _ _ _
        refine XQ.seq E0_ok (by kernel_rfl) ?_
        refine XQ.seq E0_ok (by kernel_rfl) ?_
        refine XQ.region (by kernel_rfl) ?_
        refine XR.runS E0_ok 1 3 [(7, s0 0 o1.2.length), (13, ii (w64 (1 + (Int.tmod (w64 c) 3)))), (14, ii r6.1), (15, ii r6.2), (16, pp 1 0), (68, .bool (decide (((o1.2.length : Nat) : Int) > 0)))] rfl (by kernel_rfl) ?_
        refine XR.done (by kernel_rfl) ?_
        show XQ _ _ _ _ _ _ _ _
        cases b7 : (decide (((o1.2.length : Nat) : Int) > 0) : Bool) with
        | true =>
          have h := cT b7 h
          refine XQ.cond (s := (.tmp 68)) (b := true) (by kernel_rfl) (by kernel_rfl) (fun _ => ?_) (fun q => by cases q)
          refine XQ.seq E0_ok (by kernel_rfl) ?_
          refine XQ.region (by kernel_rfl) ?_
          refine XR.runT E0_ok 1 1 [(7, s0 0 o1.2.length), (13, ii (w64 (1 + (Int.tmod (w64 c) 3)))), (14, ii r6.1), (15, ii r6.2), (16, pp 1 0)] [(1, .cells [ii 100] 0 3 0), (0, rc encP o1.2 0 61 2)] 2 rfl (by kernel_rfl) ?_
          refine XR.done (by kernel_rfl) ?_
          show XQ _ _ _ _ _ _ _ _
          refine XQ.region (by kernel_rfl) ?_
          refine XR.runS E0_ok 1 3 [(7, s0 0 o1.2.length), (13, ii (w64 (1 + (Int.tmod (w64 c) 3)))), (14, ii r6.1), (15, ii r6.2), (16, pp 1 0), (69, s0 0 o1.2.length), (70, ii (w64 (1 + (Int.tmod (w64 c) 3)))), (71, .func (.func 48) #[] #[pp 1 0])] rfl (by kernel_rfl) ?_
          refine XR.callK E0_ok [7, 13, 14, 15, 16] rfl (K := 47) (args := [s0 0 o1.2.length, ii (w64 (1 + (Int.tmod (w64 c) 3))), .func (.func 48) #[] #[pp 1 0]]) (d := (some (path 12 72))) (by kernel_rfl) ?_
          refine KC.bodyN E0_ok (F := Proofs.Try.f47) (by kernel_rfl) (code := f11_C47) (by kernel_rfl) (nt := 15) (by kernel_rfl) (rs := []) (by kernel_rfl) (by kernel_rfl) (σ := [(0, s0 0 o1.2.length), (1, ii (w64 (1 + (Int.tmod (w64 c) 3)))), (2, .func (.func 48) #[] #[pp 1 0])]) (by kernel_rfl) ?_
          refine XQ.seq E0_ok (by kernel_rfl) ?_
          refine XQ.region (by kernel_rfl) ?_
          refine XR.runT E0_ok 1 3 [(3, pp 2 0), (4, pp 3 0), (5, pp 4 0)] [(4, .cells [.func (.func 48) #[] #[pp 1 0]] 0 72 0), (3, .cells [ii (w64 (1 + (Int.tmod (w64 c) 3)))] 0 3 0), (2, .cells [s0 0 o1.2.length] 0 22 0), (1, .cells [ii 100] 0 3 0), (0, rc encP o1.2 0 61 2)] 5 rfl (by kernel_rfl) ?_
          refine XR.done (by kernel_rfl) ?_
          show XQ _ _ _ _ _ _ _ _
          refine XQ.seq E0_ok (by kernel_rfl) ?_
          refine XQ.region (by kernel_rfl) ?_
          refine XR.runS E0_ok 1 2 [(3, pp 2 0), (4, pp 3 0), (5, pp 4 0), (10, ii ((o1.2.length : Nat) : Int))] rfl (by kernel_rfl) ?_
          cases b8 : (mkOK ((o1.2.length : Nat) : Int) ((o1.2.length : Nat) : Int) 8 : Bool) with
          | false => cases (cF b8 h)
          | true =>
            have h := cT b8 h
            refine XR.ef E0_ok [3, 4, 5, 11] rfl (e_make (encI_ok .i64) (x := (src 15 (.tmp 10))) (y := (src 15 (.tmp 10))) (l := ((o1.2.length : Nat) : Int)) (n := ((o1.2.length : Nat) : Int)) (bytes := 8) (e := 3) (z := #[ii 0]) (d := (some (path 12 11))) (by kernel_rfl) (by kernel_rfl) (by kernel_rfl) 0 rfl (by kernel_rfl) b8) (σ' := [(3, pp 2 0), (4, pp 3 0), (5, pp 4 0), (11, s0 5 (Int.toNat ((o1.2.length : Nat) : Int)))]) (by kernel_rfl) ?_
            refine XR.runT E0_ok 1 2 [(3, pp 2 0), (4, pp 3 0), (5, pp 4 0), (6, pp 6 0)] [(6, .cells [s0 5 (Int.toNat ((o1.2.length : Nat) : Int))] 0 23 0), (5, rc (encI .i64) (List.replicate (Int.toNat ((o1.2.length : Nat) : Int)) 0) 0 3 1), (4, .cells [.func (.func 48) #[] #[pp 1 0]] 0 72 0), (3, .cells [ii (w64 (1 + (Int.tmod (w64 c) 3)))] 0 3 0), (2, .cells [s0 0 o1.2.length] 0 22 0), (1, .cells [ii 100] 0 3 0), (0, rc encP o1.2 0 61 2)] 7 rfl (by kernel_rfl) ?_
            refine XR.done (by kernel_rfl) ?_
            show XQ _ _ _ _ _ _ _ _
            refine XQ.seq E0_ok (by kernel_rfl) ?_
            refine XQ.region (by kernel_rfl) ?_
            refine XR.runT E0_ok 1 1 [(3, pp 2 0), (4, pp 3 0), (5, pp 4 0), (6, pp 6 0), (7, pp 7 0)] [(7, .cells [ii 0, ii 0, ii 0, ii 0, ii 0, ii 0, ii 0, ii 0, ii 0, ii 0, ii 0, ii 0, ii 0, ii 0, ii 0, ii 0, ii 0, ii 0, ii 0, ii 0, ii 0, ii 0, ii 0, ii 0] 0 88 0), (6, .cells [s0 5 (Int.toNat ((o1.2.length : Nat) : Int))] 0 23 0), (5, rc (encI .i64) (List.replicate (Int.toNat ((o1.2.length : Nat) : Int)) 0) 0 3 1), (4, .cells [.func (.func 48) #[] #[pp 1 0]] 0 72 0), (3, .cells [ii (w64 (1 + (Int.tmod (w64 c) 3)))] 0 3 0), (2, .cells [s0 0 o1.2.length] 0 22 0), (1, .cells [ii 100] 0 3 0), (0, rc encP o1.2 0 61 2)] 8 rfl (by kernel_rfl) ?_
            refine XR.done (by kernel_rfl) ?_
            show XQ _ _ _ _ _ _ _ _
            refine XQ.seq E0_ok (by kernel_rfl) ?_
            refine XQ.region (by kernel_rfl) ?_
            refine XR.runT E0_ok 1 1 [(3, pp 2 0), (4, pp 3 0), (5, pp 4 0), (6, pp 6 0), (7, pp 7 0), (8, pp 8 0)] [(8, .cells [.nilFunc] 0 81 0), (7, .cells [ii 0, ii 0, ii 0, ii 0, ii 0, ii 0, ii 0, ii 0, ii 0, ii 0, ii 0, ii 0, ii 0, ii 0, ii 0, ii 0, ii 0, ii 0, ii 0, ii 0, ii 0, ii 0, ii 0, ii 0] 0 88 0), (6, .cells [s0 5 (Int.toNat ((o1.2.length : Nat) : Int))] 0 23 0), (5, rc (encI .i64) (List.replicate (Int.toNat ((o1.2.length : Nat) : Int)) 0) 0 3 1), (4, .cells [.func (.func 48) #[] #[pp 1 0]] 0 72 0), (3, .cells [ii (w64 (1 + (Int.tmod (w64 c) 3)))] 0 3 0), (2, .cells [s0 0 o1.2.length] 0 22 0), (1, .cells [ii 100] 0 3 0), (0, rc encP o1.2 0 61 2)] 9 rfl (by kernel_rfl) ?_
            refine XR.done (by kernel_rfl) ?_
            show XQ _ _ _ _ _ _ _ _
            refine XQ.seq E0_ok (by kernel_rfl) ?_
            refine XQ.region (by kernel_rfl) ?_
            refine XR.runT E0_ok 1 2 [(8, pp 8 0)] [(8, .cells [.func (.func 85) #[] #[pp 2 0, pp 4 0, pp 6 0, pp 7 0, pp 3 0, pp 8 0]] 0 81 0), (7, .cells [ii 0, ii 0, ii 0, ii 0, ii 0, ii 0, ii 0, ii 0, ii 0, ii 0, ii 0, ii 0, ii 0, ii 0, ii 0, ii 0, ii 0, ii 0, ii 0, ii 0, ii 0, ii 0, ii 0, ii 0] 0 88 0), (6, .cells [s0 5 (Int.toNat ((o1.2.length : Nat) : Int))] 0 23 0), (5, rc (encI .i64) (List.replicate (Int.toNat ((o1.2.length : Nat) : Int)) 0) 0 3 1), (4, .cells [.func (.func 48) #[] #[pp 1 0]] 0 72 0), (3, .cells [ii (w64 (1 + (Int.tmod (w64 c) 3)))] 0 3 0), (2, .cells [s0 0 o1.2.length] 0 22 0), (1, .cells [ii 100] 0 3 0), (0, rc encP o1.2 0 61 2)] 9 rfl (by kernel_rfl) ?_
            refine XR.done (by kernel_rfl) ?_
            show XQ _ _ _ _ _ _ _ _
            refine XQ.region (by kernel_rfl) ?_
            refine XR.runS E0_ok 1 1 [(13, .func (.func 85) #[] #[pp 2 0, pp 4 0, pp 6 0, pp 7 0, pp 3 0, pp 8 0])] rfl (by kernel_rfl) ?_
            refine XR.conv (σ' := [(13, .func (.func 85) #[] #[pp 2 0, pp 4 0, pp 6 0, pp 7 0, pp 3 0, pp 8 0])]) (h' := [(8, .cells [.func (.func 85) #[] #[pp 2 0, pp 4 0, pp 6 0, pp 7 0, pp 3 0, pp 8 0]] 0 81 0), (7, rc (encI .i64) [0, 0, 0, 0, 0, 0, 0, 0, 0, 0, 0, 0, 0, 0, 0, 0, 0, 0, 0, 0, 0, 0, 0, 0] 0 88 0), (6, .cells [s0 5 (Int.toNat ((o1.2.length : Nat) : Int))] 0 23 0), (5, rc (encI .i64) (List.replicate (Int.toNat ((o1.2.length : Nat) : Int)) 0) 0 3 1), (4, .cells [.func (.func 48) #[] #[pp 1 0]] 0 72 0), (3, .cells [ii (w64 (1 + (Int.tmod (w64 c) 3)))] 0 3 0), (2, .cells [s0 0 o1.2.length] 0 22 0), (1, .cells [ii 100] 0 3 0), (0, rc encP o1.2 0 61 2)]) (c' := 9) ?_ (by kernel_rfl)
            refine XR.conv (σ' := [(13, .func (.func 85) #[] #[pp 2 0, pp 4 0, pp 6 0, pp 7 0, pp 3 0, pp 8 0])]) (h' := [(8, .cells [.func (.func 85) #[] #[pp 2 0, pp 4 0, pp 6 0, pp 7 0, pp 3 0, pp 8 0]] 0 81 0), (7, rc (encI .i64) ([0, 0, 0, 0, 0, 0, 0, 0, 0, 0, 0, 0, 0, 0, 0, 0, 0, 0, 0, 0, 0, 0, 0, 0]) 0 88 0), (6, .cells [s0 5 ((List.replicate (α := Int) (Int.toNat ((o1.2.length : Nat) : Int)) 0).length)] 0 23 0), (5, rc (encI .i64) (List.replicate (α := Int) (Int.toNat ((o1.2.length : Nat) : Int)) 0) 0 3 1), (4, .cells [.func (.func 48) #[] #[pp 1 0]] 0 72 0), (3, .cells [ii (w64 (1 + (Int.tmod (w64 c) 3)))] 0 3 0), (2, .cells [s0 0 o1.2.length] 0 22 0), (1, .cells [ii 100] 0 3 0), (0, rc encP o1.2 0 61 2)]) (c' := 9) ?_ (by simp only [List.length_set, List.length_replicate])
            obtain ⟨r38_, r38__h, h⟩ := bS h
            refine XR.call E0_ok [] rfl (K := 85) (args := [ii 0, pp 2 0, pp 4 0, pp 6 0, pp 7 0, pp 3 0, pp 8 0]) (d := (some (path 12 14))) (by kernel_rfl) (f11_2_ok m m 0 o1.2 100 (w64 (1 + (Int.tmod (w64 c) 3))) (List.replicate (Int.toNat ((o1.2.length : Nat) : Int)) 0) [0, 0, 0, 0, 0, 0, 0, 0, 0, 0, 0, 0, 0, 0, 0, 0, 0, 0, 0, 0, 0, 0, 0, 0] r38_ r38__h (fun v h' c' => v = .bool true ∧ h' = [(8, .cells [.func (.func 85) #[] #[pp 2 0, pp 4 0, pp 6 0, pp 7 0, pp 3 0, pp 8 0]] 0 81 0), (7, rc (encI .i64) r38_.2.2 0 88 0), (6, .cells [s0 5 r38_.2.1.length] 0 23 0), (5, rc (encI .i64) r38_.2.1 0 3 1), (4, .cells [.func (.func 48) #[] #[pp 1 0]] 0 72 0), (3, .cells [ii (w64 (1 + (Int.tmod (w64 c) 3)))] 0 3 0), (2, .cells [s0 0 o1.2.length] 0 22 0), (1, .cells [ii r38_.1] 0 3 0), (0, rc encP o1.2 0 61 2)] ∧ c' = 9) ⟨rfl, rfl, rfl⟩) ?_
            rintro _ _ _ ⟨rfl, rfl, rfl⟩
            refine XR.conv (σ' := []) (h' := [(8, .cells [.func (.func 85) #[] #[pp 2 0, pp 4 0, pp 6 0, pp 7 0, pp 3 0, pp 8 0]] 0 81 0), (7, rc (encI .i64) r38_.2.2 0 88 0), (6, .cells [s0 5 r38_.2.1.length] 0 23 0), (5, rc (encI .i64) r38_.2.1 0 3 1), (4, .cells [.func (.func 48) #[] #[pp 1 0]] 0 72 0), (3, .cells [ii (w64 (1 + (Int.tmod (w64 c) 3)))] 0 3 0), (2, .cells [s0 0 o1.2.length] 0 22 0), (1, .cells [ii r38_.1] 0 3 0), (0, rc encP o1.2 0 61 2)]) (c' := 9) ?_ (by kernel_rfl)
            refine XR.done (by kernel_rfl) ?_
            refine ⟨fun i q => (by cases q), .tuple #[], (by kernel_rfl), ?_⟩
            refine XR.conv (σ' := [(7, s0 0 o1.2.length), (13, ii (w64 (1 + (Int.tmod (w64 c) 3)))), (14, ii r6.1), (15, ii r6.2), (16, pp 1 0)]) (h' := [(8, .cells [.func (.func 85) #[] #[pp 2 0, pp 4 0, pp 6 0, pp 7 0, pp 3 0, pp 8 0]] 0 81 0), (7, rc (encI .i64) r38_.2.2 0 88 0), (6, .cells [s0 5 r38_.2.1.length] 0 23 0), (5, rc (encI .i64) r38_.2.1 0 3 1), (4, .cells [.func (.func 48) #[] #[pp 1 0]] 0 72 0), (3, .cells [ii (w64 (1 + (Int.tmod (w64 c) 3)))] 0 3 0), (2, .cells [s0 0 o1.2.length] 0 22 0), (1, .cells [ii r38_.1] 0 3 0), (0, rc encP o1.2 0 61 2)]) (c' := 9) ?_ (by kernel_rfl)
            refine XR.done (by kernel_rfl) ?_
            show XQ _ _ _ _ _ _ _ _
            refine XQ.seq E0_ok (by kernel_rfl) ?_
            refine XQ.region (by kernel_rfl) ?_
            refine XR.runS E0_ok 1 3 [(14, ii r6.1), (15, ii r6.2), (16, pp 1 0), (74, s0 0 o1.2.length), (76, ii (w64 ((w64 (1 + (Int.tmod (w64 c) 3))) + 1)))] rfl (by kernel_rfl) ?_
            obtain ⟨r23, r23_h, h⟩ := bS h
            refine XR.call E0_ok [14, 15, 16, 77] rfl (K := 31) (args := [s0 0 o1.2.length, ii (w64 ((w64 (1 + (Int.tmod (w64 c) 3))) + 1))]) (d := (some (path 12 77))) (by kernel_rfl) (KQ.call (KC.quiet E0_ok (args0 := [s0 0 o1.2.length, ii (w64 ((w64 (1 + (Int.tmod (w64 c) 3))) + 1))]) (h0 := [(0, rc encP o1.2 (0 + ((rowC encP o1.2).length + 1)) 61 2)]) (n := 1) (V := .tuple #[ii r23.1, ii r23.2]) [0] (f31_ok m (0 + ((rowC encP o1.2).length + 1)) 61 o1.2 (w64 ((w64 (1 + (Int.tmod (w64 c) 3))) + 1)) r23 r23_h) rfl (by rfl) (by decide) rfl (by kernel_rfl) ⟨⟨_, _, rfl, rfl, .inl ⟨rfl, rowC_scal encP_ok _⟩⟩, trivial⟩) rfl) ?_
            rintro _ _ _ ⟨rfl, rfl, rfl⟩
            refine XR.conv (σ' := [(14, ii r6.1), (15, ii r6.2), (16, pp 1 0), (77, .tuple #[ii r23.1, ii r23.2])]) (h' := [(8, .cells [.func (.func 85) #[] #[pp 2 0, pp 4 0, pp 6 0, pp 7 0, pp 3 0, pp 8 0]] 0 81 0), (7, rc (encI .i64) r38_.2.2 0 88 0), (6, .cells [s0 5 r38_.2.1.length] 0 23 0), (5, rc (encI .i64) r38_.2.1 0 3 1), (4, .cells [.func (.func 48) #[] #[pp 1 0]] 0 72 0), (3, .cells [ii (w64 (1 + (Int.tmod (w64 c) 3)))] 0 3 0), (2, .cells [s0 0 o1.2.length] 0 22 0), (1, .cells [ii r38_.1] 0 3 0), (0, rc encP o1.2 0 61 2)]) (c' := 9) ?_ (by kernel_rfl)
            refine XR.runS E0_ok 1 5 [(14, ii r6.1), (15, ii r6.2), (16, pp 1 0), (17, ii r23.1), (18, ii r23.2)] rfl (by kernel_rfl) ?_
            refine XR.done (by kernel_rfl) ?_
            show XQ _ _ _ _ _ _ _ _
            refine XQ.seq E0_ok (by kernel_rfl) ?_
            refine XQ.region (by kernel_rfl) ?_
            refine XR.runS E0_ok 1 3 [(14, ii r6.1), (16, pp 1 0), (17, ii r23.1), (18, ii r23.2), (82, .bool (r6.2 == 0))] rfl (by kernel_rfl) ?_
            cases b10 : (r6.2 == 0 : Bool) with
            | true =>
              have h := cT b10 h
              refine XR.runS E0_ok 1 5 [(14, ii r6.1), (17, ii r23.1), (18, ii r23.2), (87, .bool (r6.1 == r38_.1))] rfl (by kernel_rfl) ?_
              cases b11 : (r6.1 == r38_.1 : Bool) with
              | true =>
                have h := cT b11 h
                refine XR.runS E0_ok 1 4 [(14, ii r6.1), (17, ii r23.1), (91, .bool (r23.2 == 0))] rfl (by kernel_rfl) ?_
                cases b12 : (r23.2 == 0 : Bool) with
                | true =>
                  have h := cT b12 h
                  refine XR.runS E0_ok 1 5 [(96, .bool (decide (r23.1 ≤ r6.1)))] rfl (by kernel_rfl) ?_
                  cases b13 : (decide (r23.1 ≤ r6.1) : Bool) with
                  | true =>
                    have h := cT b13 h
                    refine XR.call E0_ok [96, 97] rfl (K := 16) (args := []) (d := (some (path 12 97))) (by kernel_rfl) (KC.of_calls E0_ok (F := Proofs.Try.f16) (v := .bool true) (by kernel_rfl) rfl rfl (works_ok)) ?_
                    rintro _ _ _ ⟨rfl, rfl, rfl⟩
                    refine XR.conv (σ' := [(96, .bool true), (97, .bool true)]) (h' := [(8, .cells [.func (.func 85) #[] #[pp 2 0, pp 4 0, pp 6 0, pp 7 0, pp 3 0, pp 8 0]] 0 81 0), (7, rc (encI .i64) r38_.2.2 0 88 0), (6, .cells [s0 5 r38_.2.1.length] 0 23 0), (5, rc (encI .i64) r38_.2.1 0 3 1), (4, .cells [.func (.func 48) #[] #[pp 1 0]] 0 72 0), (3, .cells [ii (w64 (1 + (Int.tmod (w64 c) 3)))] 0 3 0), (2, .cells [s0 0 o1.2.length] 0 22 0), (1, .cells [ii r38_.1] 0 3 0), (0, rc encP o1.2 0 61 2)]) (c' := 9) ?_ (by kernel_rfl)
                    refine XR.runS E0_ok 1 2 [(6, .bool true)] rfl (by kernel_rfl) ?_
                    refine XR.done (by kernel_rfl) ?_
                    show XQ _ _ _ _ _ _ _ _
                    refine XQ.ret (by kernel_rfl) ?_
                    have h := Option.some.inj h
                    subst h
                    exact ⟨fun i q => (by cases q), .bool true, (by kernel_rfl), rfl⟩
                  | false =>
                    have h := cF b13 h
                    refine XR.runS E0_ok 1 3 [(6, .bool false)] rfl (by kernel_rfl) ?_
                    refine XR.done (by kernel_rfl) ?_
                    show XQ _ _ _ _ _ _ _ _
                    refine XQ.ret (by kernel_rfl) ?_
                    have h := Option.some.inj h
                    subst h
                    exact ⟨fun i q => (by cases q), .bool false, (by kernel_rfl), rfl⟩
                | false =>
                  have h := cF b12 h
                  refine XR.runS E0_ok 1 8 [(6, .bool false)] rfl (by kernel_rfl) ?_
                  refine XR.done (by kernel_rfl) ?_
                  show XQ _ _ _ _ _ _ _ _
                  refine XQ.ret (by kernel_rfl) ?_
                  have h := Option.some.inj h
                  subst h
                  exact ⟨fun i q => (by cases q), .bool false, (by kernel_rfl), rfl⟩
              | false =>
                have h := cF b11 h
                refine XR.runS E0_ok 1 12 [(6, .bool false)] rfl (by kernel_rfl) ?_
                refine XR.done (by kernel_rfl) ?_
                show XQ _ _ _ _ _ _ _ _
                refine XQ.ret (by kernel_rfl) ?_
                have h := Option.some.inj h
                subst h
                exact ⟨fun i q => (by cases q), .bool false, (by kernel_rfl), rfl⟩
            | false =>
              have h := cF b10 h
              refine XR.runS E0_ok 1 17 [(6, .bool false)] rfl (by kernel_rfl) ?_
              refine XR.done (by kernel_rfl) ?_
              show XQ _ _ _ _ _ _ _ _
              refine XQ.ret (by kernel_rfl) ?_
              have h := Option.some.inj h
              subst h
              exact ⟨fun i q => (by cases q), .bool false, (by kernel_rfl), rfl⟩
        | false =>
          have h := cF b7 h
          refine XQ.cond (s := (.tmp 68)) (b := false) (by kernel_rfl) (by kernel_rfl) (fun q => by cases q) (fun _ => ?_)
          refine XQ.skip (by kernel_rfl) ?_
          show XQ _ _ _ _ _ _ _ _
          refine XQ.seq E0_ok (by kernel_rfl) ?_
          refine XQ.region (by kernel_rfl) ?_
          refine XR.runS E0_ok 1 3 [(14, ii r6.1), (15, ii r6.2), (16, pp 1 0), (74, s0 0 o1.2.length), (76, ii (w64 ((w64 (1 + (Int.tmod (w64 c) 3))) + 1)))] rfl (by kernel_rfl) ?_
          obtain ⟨r24, r24_h, h⟩ := bS h
          refine XR.call E0_ok [14, 15, 16, 77] rfl (K := 31) (args := [s0 0 o1.2.length, ii (w64 ((w64 (1 + (Int.tmod (w64 c) 3))) + 1))]) (d := (some (path 12 77))) (by kernel_rfl) (KQ.call (KC.quiet E0_ok (args0 := [s0 0 o1.2.length, ii (w64 ((w64 (1 + (Int.tmod (w64 c) 3))) + 1))]) (h0 := [(0, rc encP o1.2 (0 + ((rowC encP o1.2).length + 1)) 61 2)]) (n := 1) (V := .tuple #[ii r24.1, ii r24.2]) [0] (f31_ok m (0 + ((rowC encP o1.2).length + 1)) 61 o1.2 (w64 ((w64 (1 + (Int.tmod (w64 c) 3))) + 1)) r24 r24_h) rfl (by rfl) (by decide) rfl (by kernel_rfl) ⟨⟨_, _, rfl, rfl, .inl ⟨rfl, rowC_scal encP_ok _⟩⟩, trivial⟩) rfl) ?_
          rintro _ _ _ ⟨rfl, rfl, rfl⟩
          refine XR.conv (σ' := [(14, ii r6.1), (15, ii r6.2), (16, pp 1 0), (77, .tuple #[ii r24.1, ii r24.2])]) (h' := [(1, .cells [ii 0] 0 3 0), (0, rc encP o1.2 0 61 2)]) (c' := 2) ?_ (by kernel_rfl)
          refine XR.runS E0_ok 1 5 [(14, ii r6.1), (15, ii r6.2), (16, pp 1 0), (17, ii r24.1), (18, ii r24.2)] rfl (by kernel_rfl) ?_
          refine XR.done (by kernel_rfl) ?_
          show XQ _ _ _ _ _ _ _ _
          refine XQ.seq E0_ok (by kernel_rfl) ?_
          refine XQ.region (by kernel_rfl) ?_
          refine XR.runS E0_ok 1 3 [(14, ii r6.1), (16, pp 1 0), (17, ii r24.1), (18, ii r24.2), (82, .bool (r6.2 == 0))] rfl (by kernel_rfl) ?_
          cases b14 : (r6.2 == 0 : Bool) with
          | true =>
            have h := cT b14 h
            refine XR.runS E0_ok 1 5 [(14, ii r6.1), (17, ii r24.1), (18, ii r24.2), (87, .bool (r6.1 == 0))] rfl (by kernel_rfl) ?_
            cases b15 : (r6.1 == 0 : Bool) with
            | true =>
              have h := cT b15 h
              refine XR.runS E0_ok 1 4 [(14, ii r6.1), (17, ii r24.1), (91, .bool (r24.2 == 0))] rfl (by kernel_rfl) ?_
              cases b16 : (r24.2 == 0 : Bool) with
              | true =>
                have h := cT b16 h
                refine XR.runS E0_ok 1 5 [(96, .bool (decide (r24.1 ≤ r6.1)))] rfl (by kernel_rfl) ?_
                cases b17 : (decide (r24.1 ≤ r6.1) : Bool) with
                | true =>
                  have h := cT b17 h
                  refine XR.call E0_ok [96, 97] rfl (K := 16) (args := []) (d := (some (path 12 97))) (by kernel_rfl) (KC.of_calls E0_ok (F := Proofs.Try.f16) (v := .bool true) (by kernel_rfl) rfl rfl (works_ok)) ?_
                  rintro _ _ _ ⟨rfl, rfl, rfl⟩
                  refine XR.conv (σ' := [(96, .bool true), (97, .bool true)]) (h' := [(1, .cells [ii 0] 0 3 0), (0, rc encP o1.2 0 61 2)]) (c' := 2) ?_ (by kernel_rfl)
                  refine XR.runS E0_ok 1 2 [(6, .bool true)] rfl (by kernel_rfl) ?_
                  refine XR.done (by kernel_rfl) ?_
                  show XQ _ _ _ _ _ _ _ _
                  refine XQ.ret (by kernel_rfl) ?_
                  have h := Option.some.inj h
                  subst h
                  exact ⟨fun i q => (by cases q), .bool true, (by kernel_rfl), rfl⟩
                | false =>
                  have h := cF b17 h
                  refine XR.runS E0_ok 1 3 [(6, .bool false)] rfl (by kernel_rfl) ?_
                  refine XR.done (by kernel_rfl) ?_
                  show XQ _ _ _ _ _ _ _ _
                  refine XQ.ret (by kernel_rfl) ?_
                  have h := Option.some.inj h
                  subst h
                  exact ⟨fun i q => (by cases q), .bool false, (by kernel_rfl), rfl⟩
              | false =>
                have h := cF b16 h
                refine XR.runS E0_ok 1 8 [(6, .bool false)] rfl (by kernel_rfl) ?_
                refine XR.done (by kernel_rfl) ?_
                show XQ _ _ _ _ _ _ _ _
                refine XQ.ret (by kernel_rfl) ?_
                have h := Option.some.inj h
                subst h
                exact ⟨fun i q => (by cases q), .bool false, (by kernel_rfl), rfl⟩
            | false =>
              have h := cF b15 h
              refine XR.runS E0_ok 1 12 [(6, .bool false)] rfl (by kernel_rfl) ?_
              refine XR.done (by kernel_rfl) ?_
              show XQ _ _ _ _ _ _ _ _
              refine XQ.ret (by kernel_rfl) ?_
              have h := Option.some.inj h
              subst h
              exact ⟨fun i q => (by cases q), .bool false, (by kernel_rfl), rfl⟩
          | false =>
            have h := cF b14 h
            refine XR.runS E0_ok 1 17 [(6, .bool false)] rfl (by kernel_rfl) ?_
            refine XR.done (by kernel_rfl) ?_
            show XQ _ _ _ _ _ _ _ _
            refine XQ.ret (by kernel_rfl) ?_
            have h := Option.some.inj h
            subst h
            exact ⟨fun i q => (by cases q), .bool false, (by kernel_rfl), rfl⟩

end Go.Xm
