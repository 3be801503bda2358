/- What these functions of the program compute, as functions in Lean, and the proofs that they do: club.Can, club.Why, club.Proves, vitolaref12.Can, vitolaref12.Why, vitolaref12.Proves. Conditions: the library's variables hold what their texts lay. -/
import Derived.Test.YtfimbmhannndaaaDoorDc
namespace Go.Xm
open Go.RowKit
set_option linter.unusedVariables false
set_option linter.unusedSimpArgs false
set_option maxRecDepth 20000

/-! vitola/club.Can -/
noncomputable def f15_C15 : Code := Proofs.Tryd.f15.body.getD .skip

def f15 (m : Nat) (a : List Int) : Option (Bool × Int) :=
 (f21 m a).bind fun r1 =>
  cond (r1 != 0) (
   some (false, r1)
  ) (
   (f59 m a).bind fun r2 =>
    some (r2, 0)
  )

theorem f15_ok (m : Nat) (z0 : Nat) (y0 : Nat) (a : List Int) (o : Bool × Int) (h : f15 m a = some o) : KC E0 15 [s0 0 a.length] [(0, rc (encI .i64) a z0 y0 1)] 1 (fun v _ _ => v = .tuple #[.bool o.1, ii o.2]) := by
 refine KC.bodyN E0_ok (F := Proofs.Tryd.f15) (by kernel_rfl) (code := f15_C15) (by kernel_rfl) (nt := 12) (by kernel_rfl) (rs := [.tmp 2, .tmp 3]) (by kernel_rfl) (by kernel_rfl) (σ := [(0, s0 0 a.length)]) (by kernel_rfl) ?_
 unfold f15 at h
 refine XQ.seq E0_ok (by kernel_rfl) ?_
 refine XQ.region (by kernel_rfl) ?_
 refine XR.runS E0_ok 1 2 [(0, s0 0 a.length)] rfl (by kernel_rfl) ?_
 refine XR.done (by kernel_rfl) ?_
 show XQ _ _ _ _ _ _ _ _
 refine XQ.seq E0_ok (by kernel_rfl) ?_
 refine XQ.seq E0_ok (by kernel_rfl) ?_
 refine XQ.region (by kernel_rfl) ?_
 refine XR.runS E0_ok 1 1 [(0, s0 0 a.length), (5, s0 0 a.length)] rfl (by kernel_rfl) ?_
 obtain ⟨r1, r1_h, h⟩ := bS h
 refine XR.call E0_ok [0, 6] rfl (K := 21) (args := [s0 0 a.length]) (d := (some (path 12 6))) (by kernel_rfl) (KQ.call (KC.quiet E0_ok (args0 := [s0 0 a.length]) (h0 := [(0, rc (encI .i64) a (z0 + ((rowC (encI .i64) a).length + 1)) y0 1)]) (n := 1) (V := ii r1) [0] (f21_ok m (z0 + ((rowC (encI .i64) a).length + 1)) y0 a r1 r1_h) rfl (by rfl) (by decide) rfl (by kernel_rfl) ⟨⟨_, _, rfl, rfl, .inl ⟨rfl, rowC_scal (encI_ok .i64) _⟩⟩, trivial⟩) rfl) ?_
 rintro _ _ _ ⟨rfl, rfl, rfl⟩
 refine XR.conv (σ' := [(0, s0 0 a.length), (6, ii r1)]) (h' := [(0, rc (encI .i64) a z0 y0 1)]) (c' := 1) ?_ (by kernel_rfl)
 refine XR.runS E0_ok 1 1 [(0, s0 0 a.length), (4, ii r1)] rfl (by kernel_rfl) ?_
 refine XR.done (by kernel_rfl) ?_
 show XQ _ _ _ _ _ _ _ _
 refine XQ.seq E0_ok (by kernel_rfl) ?_
 refine XQ.region (by kernel_rfl) ?_
 refine XR.runS E0_ok 1 2 [(0, s0 0 a.length), (4, ii r1), (8, .bool (r1 != 0))] rfl (by kernel_rfl) ?_
 refine XR.done (by kernel_rfl) ?_
 show XQ _ _ _ _ _ _ _ _
 cases b1 : (r1 != 0 : Bool) with
 | true =>
  have h := cT b1 h
  refine XQ.cond (s := (.tmp 8)) (b := true) (by kernel_rfl) (by kernel_rfl) (fun _ => ?_) (fun q => by cases q)
  refine XQ.seq E0_ok (by kernel_rfl) ?_
  refine XQ.region (by kernel_rfl) ?_
  refine XR.runS E0_ok 1 3 [(2, .bool false), (3, ii r1)] rfl (by kernel_rfl) ?_
  refine XR.done (by kernel_rfl) ?_
  show XQ _ _ _ _ _ _ _ _
  refine XQ.ret (by kernel_rfl) ?_
  have h := Option.some.inj h
  subst h
  exact ⟨fun i q => (by cases q), .tuple #[.bool false, ii r1], (by kernel_rfl), rfl⟩
 | false =>
  have h := cF b1 h
  refine XQ.cond (s := (.tmp 8)) (b := false) (by kernel_rfl) (by kernel_rfl) (fun q => by cases q) (fun _ => ?_)
  refine XQ.skip (by kernel_rfl) ?_
  show XQ _ _ _ _ _ _ _ _
  refine XQ.seq E0_ok (by kernel_rfl) ?_
  refine XQ.region (by kernel_rfl) ?_
  refine XR.runS E0_ok 1 1 [(10, s0 0 a.length)] rfl (by kernel_rfl) ?_
  obtain ⟨r2, r2_h, h⟩ := bS h
  refine XR.call E0_ok [11] rfl (K := 59) (args := [s0 0 a.length]) (d := (some (path 12 11))) (by kernel_rfl) (KQ.call (KC.quiet E0_ok (args0 := [s0 0 a.length]) (h0 := [(0, rc (encI .i64) a (z0 + ((rowC (encI .i64) a).length + 1)) y0 1)]) (n := 1) (V := .bool r2) [0] (f59_ok m (z0 + ((rowC (encI .i64) a).length + 1)) y0 a r2 r2_h) rfl (by rfl) (by decide) rfl (by kernel_rfl) ⟨⟨_, _, rfl, rfl, .inl ⟨rfl, rowC_scal (encI_ok .i64) _⟩⟩, trivial⟩) rfl) ?_
  rintro _ _ _ ⟨rfl, rfl, rfl⟩
  refine XR.conv (σ' := [(11, .bool r2)]) (h' := [(0, rc (encI .i64) a z0 y0 1)]) (c' := 1) ?_ (by kernel_rfl)
  refine XR.runS E0_ok 1 2 [(2, .bool r2), (3, ii 0)] rfl (by kernel_rfl) ?_
  refine XR.done (by kernel_rfl) ?_
  show XQ _ _ _ _ _ _ _ _
  refine XQ.ret (by kernel_rfl) ?_
  have h := Option.some.inj h
  subst h
  exact ⟨fun i q => (by cases q), .tuple #[.bool r2, ii 0], (by kernel_rfl), rfl⟩

/-! vitola/club.Why -/
noncomputable def f17_C17 : Code := Proofs.Tryd.f17.body.getD .skip
noncomputable def f17_L1 : Code := lft (lft (rgt (lft (rgt (rgt (rgt f17_C17))))))
noncomputable def f17_L2 : Code := lft (lft (lft (rgt (rgt (rgt (rgt (rgt (rgt (rgt f17_C17)))))))))

def f17_1 (m : Nat) : Nat → List Int → Int → Int → Int → Option Int
 | 0, _, _, _, _ => none
 | fuel + 1, a, x5_1, x16_1, x17_1 =>
  cond (decide (x17_1 < x16_1)) (
   cond (inRow x17_1 a.length) (
    f17_1 m fuel a (w64 (x5_1 + (List.getD a (Int.toNat x17_1) 0))) x16_1 (w64 (x17_1 + 1))
   ) none
  ) (
   some (x5_1)
  )

theorem f17_1_ok (m : Nat) : ∀ (fuel : Nat) (z0 : Nat) (y0 : Nat) (a : List Int) (x5_1 : Int) (x16_1 : Int) (x17_1 : Int) (o : Int), f17_1 m fuel a x5_1 x16_1 x17_1 = some o → ∀ Q : QP, Q (.exit 0) [(0, s0 0 a.length), (5, ii o)] [(0, rc (encI .i64) a z0 y0 1)] 1 → XL E0 47 1 fuel f17_L1 [(0, s0 0 a.length), (5, ii x5_1), (15, s0 0 a.length), (16, ii x16_1), (17, ii x17_1)] [(0, rc (encI .i64) a z0 y0 1)] 1 Q
 | 0, z0, y0, a, x5_1, x16_1, x17_1, o, h, Q, hQ => by cases h
 | fuel + 1, z0, y0, a, x5_1, x16_1, x17_1, o, h, Q, hQ => by
  unfold f17_1 at h
  refine XL.succ E0_ok ?_
  refine XQ.seq E0_ok (by kernel_rfl) ?_
  refine XQ.region (by kernel_rfl) ?_
  refine XR.runS E0_ok 1 1 [(0, s0 0 a.length), (5, ii x5_1), (15, s0 0 a.length), (16, ii x16_1), (17, ii x17_1), (18, .bool (decide (x17_1 < x16_1)))] rfl (by kernel_rfl) ?_
  refine XR.done (by kernel_rfl) ?_
  show XQ _ _ _ _ _ _ _ _
  refine XQ.seq E0_ok (by kernel_rfl) ?_
  cases b1 : (decide (x17_1 < x16_1) : Bool) with
  | true =>
   have h := cT b1 h
   refine XQ.cond (s := (.tmp 18)) (b := true) (by kernel_rfl) (by kernel_rfl) (fun _ => ?_) (fun q => by cases q)
   refine XQ.skip (by kernel_rfl) ?_
   show XQ _ _ _ _ _ _ _ _
   refine XQ.seq E0_ok (by kernel_rfl) ?_
   refine XQ.block (id := 1) (by kernel_rfl) ?_
   refine XQ.seq E0_ok (by kernel_rfl) ?_
   refine XQ.region (by kernel_rfl) ?_
   cases b2 : (inRow x17_1 a.length : Bool) with
   | false => cases (cF b2 h)
   | true =>
    have h := cT b2 h
    refine XR.rd E0_ok [0, 5, 15, 16, 17, 19] rfl (v := pp 0 ((Int.toNat x17_1) * 1)) (v_idx (s := 1) (x := (src 47 (.tmp 15))) (y := (src 47 (.tmp 17))) (b := 0) (o := 0) (len := a.length) (cap := a.length) (ik := .i64) (i := x17_1) (off := (Int.toNat x17_1) * 1) (d := (some (path 12 19))) (by kernel_rfl) (by kernel_rfl) (by kernel_rfl) b2 (by omega)) (σ' := [(0, s0 0 a.length), (5, ii x5_1), (15, s0 0 a.length), (16, ii x16_1), (17, ii x17_1), (19, pp 0 ((Int.toNat x17_1) * 1))]) (by kernel_rfl) ?_
    refine XR.rd E0_ok [0, 5, 15, 16, 17, 20] rfl (v := ii (List.getD a (Int.toNat x17_1) 0)) (v_load1 (encI_ok .i64) (x := (src 47 (.tmp 19))) (b := 0) (off := (Int.toNat x17_1) * 1) (xs := a) (fz := z0) (e := y0) (es := 1) (d := (some (path 12 20))) (by kernel_rfl) (by kernel_rfl) (by kernel_rfl) (Int.toNat x17_1) 0 0 (by first | rfl | omega) (row_len (inRow_toNat b2) (by simp)) rfl rfl) (σ' := [(0, s0 0 a.length), (5, ii x5_1), (15, s0 0 a.length), (16, ii x16_1), (17, ii x17_1), (20, ii (List.getD a (Int.toNat x17_1) 0))]) (by kernel_rfl) ?_
    refine XR.runS E0_ok 1 1 [(0, s0 0 a.length), (5, ii x5_1), (7, ii (List.getD a (Int.toNat x17_1) 0)), (15, s0 0 a.length), (16, ii x16_1), (17, ii x17_1)] rfl (by kernel_rfl) ?_
    refine XR.done (by kernel_rfl) ?_
    show XQ _ _ _ _ _ _ _ _
    refine XQ.region (by kernel_rfl) ?_
    refine XR.runS E0_ok 1 4 [(0, s0 0 a.length), (5, ii (w64 (x5_1 + (List.getD a (Int.toNat x17_1) 0)))), (15, s0 0 a.length), (16, ii x16_1), (17, ii x17_1)] rfl (by kernel_rfl) ?_
    refine XR.done (by kernel_rfl) ?_
    show XQ _ _ _ _ _ _ _ _
    refine XQ.region (by kernel_rfl) ?_
    refine XR.runS E0_ok 1 2 [(0, s0 0 a.length), (5, ii (w64 (x5_1 + (List.getD a (Int.toNat x17_1) 0)))), (15, s0 0 a.length), (16, ii x16_1), (17, ii (w64 (x17_1 + 1)))] rfl (by kernel_rfl) ?_
    refine XR.done (by kernel_rfl) ?_
    show XL _ _ _ _ _ _ _ _ _
    refine XL.ren (σ' := [(0, s0 0 a.length), (5, ii (w64 (x5_1 + (List.getD a (Int.toNat x17_1) 0)))), (15, s0 0 a.length), (16, ii x16_1), (17, ii (w64 (x17_1 + 1)))]) (h' := [(0, rc (encI .i64) a z0 y0 1)]) (c' := 1) [0] (by decide) rfl ⟨by kernel_rfl, by kernel_rfl, by kernel_rfl, by kernel_rfl, by kernel_rfl, trivial⟩ ⟨⟨_, _, rfl, rfl, .inl ⟨rfl, rowC_scal (encI_ok .i64) _⟩⟩, trivial⟩ rfl ?_
    refine XL.conv (f17_1_ok m fuel z0 y0 a (w64 (x5_1 + (List.getD a (Int.toNat x17_1) 0))) x16_1 (w64 (x17_1 + 1)) o h Q hQ) (by first | rfl | simp)
  | false =>
   have h := cF b1 h
   refine XQ.cond (s := (.tmp 18)) (b := false) (by kernel_rfl) (by kernel_rfl) (fun q => by cases q) (fun _ => ?_)
   refine XQ.ren (σ' := [(0, s0 0 a.length), (5, ii x5_1)]) (h' := [(0, rc (encI .i64) a z0 y0 1)]) (c' := 1) [0] (by decide) rfl ⟨by kernel_rfl, by kernel_rfl, trivial⟩ ⟨⟨_, _, rfl, rfl, .inl ⟨rfl, rowC_scal (encI_ok .i64) _⟩⟩, trivial⟩ rfl ?_
   refine XQ.exit (i := 0) (by kernel_rfl) ?_
   cases h
   exact hQ

def f17_2 (m : Nat) : Nat → List Int → Int → List Int → Option Int
 | 0, _, _, _ => none
 | fuel + 1, a, x9_2, lh1_2 =>
  cond (decide (x9_2 < ((lh1_2.length : Nat) : Int))) (
   (f62 m lh1_2 x9_2).bind fun r6 =>
    cond (!r6) (
     f17_2 m fuel a (w64 (x9_2 + 1)) lh1_2
    ) (
     some (x9_2)
    )
  ) (
   some (x9_2)
  )

theorem f17_2_ok (m : Nat) : ∀ (fuel : Nat) (z0 : Nat) (y0 : Nat) (a : List Int) (x9_2 : Int) (lh1_2 : List Int) (o : Int), f17_2 m fuel a x9_2 lh1_2 = some o → ∀ Q : QP, Q (.exit 3) [(9, ii o)] [(0, rc (encI .i64) a z0 y0 1)] 1 → XL E0 47 1 fuel f17_L2 [(8, s0 1 lh1_2.length), (9, ii x9_2)] [(1, rc (encI .i64) lh1_2 0 3 1), (0, rc (encI .i64) a z0 y0 1)] 2 Q
 | 0, z0, y0, a, x9_2, lh1_2, o, h, Q, hQ => by cases h
 | fuel + 1, z0, y0, a, x9_2, lh1_2, o, h, Q, hQ => by
  unfold f17_2 at h
  refine XL.succ E0_ok ?_
  refine XQ.seq E0_ok (by kernel_rfl) ?_
  refine XQ.seq E0_ok (by kernel_rfl) ?_
  refine XQ.region (by kernel_rfl) ?_
  refine XR.runS E0_ok 1 5 [(8, s0 1 lh1_2.length), (9, ii x9_2), (38, .bool (decide (x9_2 < ((lh1_2.length : Nat) : Int))))] rfl (by kernel_rfl) ?_
  cases b1 : (decide (x9_2 < ((lh1_2.length : Nat) : Int)) : Bool) with
  | true =>
   have h := cT b1 h
   refine XR.runS E0_ok 1 2 [(8, s0 1 lh1_2.length), (9, ii x9_2), (38, .bool true), (39, s0 1 lh1_2.length), (40, ii x9_2)] rfl (by kernel_rfl) ?_
   obtain ⟨r6, r6_h, h⟩ := bS h
   refine XR.call E0_ok [8, 9, 38, 41] rfl (K := 62) (args := [s0 1 lh1_2.length, ii x9_2]) (d := (some (path 12 41))) (by kernel_rfl) (KQ.call (KC.quiet E0_ok (args0 := [s0 0 lh1_2.length, ii x9_2]) (h0 := [(0, rc (encI .i64) lh1_2 (0 + ((rowC (encI .i64) lh1_2).length + 1)) 3 1)]) (n := 1) (V := .bool r6) [1] (f62_ok m (0 + ((rowC (encI .i64) lh1_2).length + 1)) 3 lh1_2 x9_2 r6 r6_h) rfl (by rfl) (by decide) rfl (by kernel_rfl) ⟨⟨_, _, rfl, rfl, .inl ⟨rfl, rowC_scal (encI_ok .i64) _⟩⟩, trivial⟩) rfl) ?_
   rintro _ _ _ ⟨rfl, rfl, rfl⟩
   refine XR.conv (σ' := [(8, s0 1 lh1_2.length), (9, ii x9_2), (38, .bool true), (41, .bool r6)]) (h' := [(1, rc (encI .i64) lh1_2 0 3 1), (0, rc (encI .i64) a z0 y0 1)]) (c' := 2) ?_ (by kernel_rfl)
   refine XR.runS E0_ok 1 2 [(8, s0 1 lh1_2.length), (9, ii x9_2), (43, .bool (!r6))] rfl (by kernel_rfl) ?_
   refine XR.done (by kernel_rfl) ?_
   show XQ _ _ _ _ _ _ _ _
   cases b2 : (!r6 : Bool) with
   | true =>
    have h := cT b2 h
    refine XQ.cond (s := (.tmp 43)) (b := true) (by kernel_rfl) (by kernel_rfl) (fun _ => ?_) (fun q => by cases q)
    refine XQ.skip (by kernel_rfl) ?_
    show XQ _ _ _ _ _ _ _ _
    refine XQ.block (id := 4) (by kernel_rfl) ?_
    refine XQ.region (by kernel_rfl) ?_
    refine XR.runS E0_ok 1 3 [(8, s0 1 lh1_2.length), (9, ii (w64 (x9_2 + 1)))] rfl (by kernel_rfl) ?_
    refine XR.done (by kernel_rfl) ?_
    show XL _ _ _ _ _ _ _ _ _
    refine XL.ren (σ' := [(8, s0 1 lh1_2.length), (9, ii (w64 (x9_2 + 1)))]) (h' := [(1, rc (encI .i64) lh1_2 0 3 1), (0, rc (encI .i64) a z0 y0 1)]) (c' := 2) [0, 1] (by decide) rfl ⟨by kernel_rfl, by kernel_rfl, trivial⟩ ⟨⟨_, _, rfl, rfl, .inl ⟨rfl, rowC_scal (encI_ok .i64) _⟩⟩, ⟨_, _, rfl, rfl, .inl ⟨rfl, rowC_scal (encI_ok .i64) _⟩⟩, trivial⟩ rfl ?_
    refine XL.conv (f17_2_ok m fuel z0 y0 a (w64 (x9_2 + 1)) lh1_2 o h Q hQ) (by first | rfl | simp)
   | false =>
    have h := cF b2 h
    refine XQ.cond (s := (.tmp 43)) (b := false) (by kernel_rfl) (by kernel_rfl) (fun q => by cases q) (fun _ => ?_)
    refine XQ.ren (σ' := [(9, ii x9_2)]) (h' := [(0, rc (encI .i64) a z0 y0 1)]) (c' := 1) [0] (by decide) rfl ⟨by kernel_rfl, trivial⟩ ⟨⟨_, _, rfl, rfl, .inl ⟨rfl, rowC_scal (encI_ok .i64) _⟩⟩, trivial⟩ rfl ?_
    refine XQ.exit (i := 3) (by kernel_rfl) ?_
    cases h
    exact hQ
  | false =>
   have h := cF b1 h
   refine XR.runS E0_ok 1 5 [(8, s0 1 lh1_2.length), (9, ii x9_2), (43, .bool false)] rfl (by kernel_rfl) ?_
   refine XR.done (by kernel_rfl) ?_
   show XQ _ _ _ _ _ _ _ _
   refine XQ.cond (s := (.tmp 43)) (b := false) (by kernel_rfl) (by kernel_rfl) (fun q => by cases q) (fun _ => ?_)
   refine XQ.ren (σ' := [(9, ii x9_2)]) (h' := [(0, rc (encI .i64) a z0 y0 1)]) (c' := 1) [0] (by decide) rfl ⟨by kernel_rfl, trivial⟩ ⟨⟨_, _, rfl, rfl, .inl ⟨rfl, rowC_scal (encI_ok .i64) _⟩⟩, trivial⟩ rfl ?_
   refine XQ.exit (i := 3) (by kernel_rfl) ?_
   cases h
   exact hQ

def f17 (m : Nat) (a : List Int) : Option (Int × Int) :=
 (f21 m a).bind fun r1 =>
  cond (r1 != 0) (
   some (0, r1)
  ) (
   (f17_1 m m a 0 ((a.length : Nat) : Int) 0).bind fun o1 =>
    (f59 m a).bind fun r2 =>
     cond (r2) (
      some (0, 13)
     ) (
      cond ((Int.tmod o1 2) == 1) (
       some (0, 17)
      ) (
       (f61 m a).bind fun r3 =>
        (f17_2 m m a 1 r3).bind fun o2 =>
         some (o2, 0)
      )
     )
  )

theorem f17_ok (m : Nat) (z0 : Nat) (y0 : Nat) (a : List Int) (o : Int × Int) (h : f17 m a = some o) : KC E0 17 [s0 0 a.length] [(0, rc (encI .i64) a z0 y0 1)] 1 (fun v _ _ => v = .tuple #[ii o.1, ii o.2]) := by
 refine KC.bodyN E0_ok (F := Proofs.Tryd.f17) (by kernel_rfl) (code := f17_C17) (by kernel_rfl) (nt := 47) (by kernel_rfl) (rs := [.tmp 2, .tmp 3]) (by kernel_rfl) (by kernel_rfl) (σ := [(0, s0 0 a.length)]) (by kernel_rfl) ?_
 unfold f17 at h
 refine XQ.seq E0_ok (by kernel_rfl) ?_
 refine XQ.region (by kernel_rfl) ?_
 refine XR.runS E0_ok 1 2 [(0, s0 0 a.length)] rfl (by kernel_rfl) ?_
 refine XR.done (by kernel_rfl) ?_
 show XQ _ _ _ _ _ _ _ _
 refine XQ.seq E0_ok (by kernel_rfl) ?_
 refine XQ.seq E0_ok (by kernel_rfl) ?_
 refine XQ.region (by kernel_rfl) ?_
 refine XR.runS E0_ok 1 1 [(0, s0 0 a.length), (10, s0 0 a.length)] rfl (by kernel_rfl) ?_
 obtain ⟨r1, r1_h, h⟩ := bS h
 refine XR.call E0_ok [0, 11] rfl (K := 21) (args := [s0 0 a.length]) (d := (some (path 12 11))) (by kernel_rfl) (KQ.call (KC.quiet E0_ok (args0 := [s0 0 a.length]) (h0 := [(0, rc (encI .i64) a (z0 + ((rowC (encI .i64) a).length + 1)) y0 1)]) (n := 1) (V := ii r1) [0] (f21_ok m (z0 + ((rowC (encI .i64) a).length + 1)) y0 a r1 r1_h) rfl (by rfl) (by decide) rfl (by kernel_rfl) ⟨⟨_, _, rfl, rfl, .inl ⟨rfl, rowC_scal (encI_ok .i64) _⟩⟩, trivial⟩) rfl) ?_
 rintro _ _ _ ⟨rfl, rfl, rfl⟩
 refine XR.conv (σ' := [(0, s0 0 a.length), (11, ii r1)]) (h' := [(0, rc (encI .i64) a z0 y0 1)]) (c' := 1) ?_ (by kernel_rfl)
 refine XR.runS E0_ok 1 1 [(0, s0 0 a.length), (4, ii r1)] rfl (by kernel_rfl) ?_
 refine XR.done (by kernel_rfl) ?_
 show XQ _ _ _ _ _ _ _ _
 refine XQ.seq E0_ok (by kernel_rfl) ?_
 refine XQ.region (by kernel_rfl) ?_
 refine XR.runS E0_ok 1 2 [(0, s0 0 a.length), (4, ii r1), (13, .bool (r1 != 0))] rfl (by kernel_rfl) ?_
 refine XR.done (by kernel_rfl) ?_
 show XQ _ _ _ _ _ _ _ _
 cases b1 : (r1 != 0 : Bool) with
 | true =>
  have h := cT b1 h
  refine XQ.cond (s := (.tmp 13)) (b := true) (by kernel_rfl) (by kernel_rfl) (fun _ => ?_) (fun q => by cases q)
  refine XQ.seq E0_ok (by kernel_rfl) ?_
  refine XQ.region (by kernel_rfl) ?_
  refine XR.runS E0_ok 1 3 [(2, ii 0), (3, ii r1)] rfl (by kernel_rfl) ?_
  refine XR.done (by kernel_rfl) ?_
  show XQ _ _ _ _ _ _ _ _
  refine XQ.ret (by kernel_rfl) ?_
  have h := Option.some.inj h
  subst h
  exact ⟨fun i q => (by cases q), .tuple #[ii 0, ii r1], (by kernel_rfl), rfl⟩
 | false =>
  have h := cF b1 h
  refine XQ.cond (s := (.tmp 13)) (b := false) (by kernel_rfl) (by kernel_rfl) (fun q => by cases q) (fun _ => ?_)
  refine XQ.skip (by kernel_rfl) ?_
  show XQ _ _ _ _ _ _ _ _
  refine XQ.seq E0_ok (by kernel_rfl) ?_
  refine XQ.region (by kernel_rfl) ?_
  refine XR.runS E0_ok 1 1 [(0, s0 0 a.length), (5, ii 0)] rfl (by kernel_rfl) ?_
  refine XR.done (by kernel_rfl) ?_
  show XQ _ _ _ _ _ _ _ _
  refine XQ.seq E0_ok (by kernel_rfl) ?_
  refine XQ.seq E0_ok (by kernel_rfl) ?_
  refine XQ.region (by kernel_rfl) ?_
  refine XR.runS E0_ok 1 3 [(0, s0 0 a.length), (5, ii 0), (15, s0 0 a.length), (16, ii ((a.length : Nat) : Int)), (17, ii 0)] rfl (by kernel_rfl) ?_
  refine XR.done (by kernel_rfl) ?_
  show XQ _ _ _ _ _ _ _ _
  refine XQ.block (id := 0) (by kernel_rfl) ?_
  refine XQ.loop m (by kernel_rfl) ?_
  obtain ⟨o1, o1_h, h⟩ := bS h
  refine XL.ren (σ' := [(0, s0 0 a.length), (5, ii 0), (15, s0 0 a.length), (16, ii ((a.length : Nat) : Int)), (17, ii 0)]) (h' := [(0, rc (encI .i64) a z0 y0 1)]) (c' := 1) [0] (by decide) rfl ⟨by kernel_rfl, by kernel_rfl, by kernel_rfl, by kernel_rfl, by kernel_rfl, trivial⟩ ⟨⟨_, _, rfl, rfl, .inl ⟨rfl, rowC_scal (encI_ok .i64) _⟩⟩, trivial⟩ rfl ?_
  refine XL.conv (f17_1_ok m m z0 y0 a 0 ((a.length : Nat) : Int) 0 o1 o1_h _ ?_) (by first | rfl | simp)
  show XQ _ _ _ _ _ _ _ _
  refine XQ.seq E0_ok (by kernel_rfl) ?_
  refine XQ.block (id := 2) (by kernel_rfl) ?_
  refine XQ.seq E0_ok (by kernel_rfl) ?_
  refine XQ.region (by kernel_rfl) ?_
  refine XR.runS E0_ok 1 1 [(0, s0 0 a.length), (5, ii o1), (26, s0 0 a.length)] rfl (by kernel_rfl) ?_
  obtain ⟨r2, r2_h, h⟩ := bS h
  refine XR.call E0_ok [0, 5, 27] rfl (K := 59) (args := [s0 0 a.length]) (d := (some (path 12 27))) (by kernel_rfl) (KQ.call (KC.quiet E0_ok (args0 := [s0 0 a.length]) (h0 := [(0, rc (encI .i64) a (z0 + ((rowC (encI .i64) a).length + 1)) y0 1)]) (n := 1) (V := .bool r2) [0] (f59_ok m (z0 + ((rowC (encI .i64) a).length + 1)) y0 a r2 r2_h) rfl (by rfl) (by decide) rfl (by kernel_rfl) ⟨⟨_, _, rfl, rfl, .inl ⟨rfl, rowC_scal (encI_ok .i64) _⟩⟩, trivial⟩) rfl) ?_
  rintro _ _ _ ⟨rfl, rfl, rfl⟩
  refine XR.conv (σ' := [(0, s0 0 a.length), (5, ii o1), (27, .bool r2)]) (h' := [(0, rc (encI .i64) a z0 y0 1)]) (c' := 1) ?_ (by kernel_rfl)
  refine XR.runS E0_ok 1 1 [(0, s0 0 a.length), (5, ii o1), (25, .bool r2)] rfl (by kernel_rfl) ?_
  refine XR.done (by kernel_rfl) ?_
  show XQ _ _ _ _ _ _ _ _
  cases b3 : (r2 : Bool) with
  | true =>
   have h := cT b3 h
   refine XQ.cond (s := (.tmp 25)) (b := true) (by kernel_rfl) (by kernel_rfl) (fun _ => ?_) (fun q => by cases q)
   refine XQ.seq E0_ok (by kernel_rfl) ?_
   refine XQ.region (by kernel_rfl) ?_
   refine XR.runS E0_ok 1 2 [(2, ii 0), (3, ii 13)] rfl (by kernel_rfl) ?_
   refine XR.done (by kernel_rfl) ?_
   show XQ _ _ _ _ _ _ _ _
   refine XQ.ret (by kernel_rfl) ?_
   have h := Option.some.inj h
   subst h
   exact ⟨fun i q => (by cases q), .tuple #[ii 0, ii 13], (by kernel_rfl), rfl⟩
  | false =>
   have h := cF b3 h
   refine XQ.cond (s := (.tmp 25)) (b := false) (by kernel_rfl) (by kernel_rfl) (fun q => by cases q) (fun _ => ?_)
   refine XQ.seq E0_ok (by kernel_rfl) ?_
   refine XQ.region (by kernel_rfl) ?_
   refine XR.runS E0_ok 1 4 [(0, s0 0 a.length), (28, .bool ((Int.tmod o1 2) == 1))] rfl (by kernel_rfl) ?_
   refine XR.done (by kernel_rfl) ?_
   show XQ _ _ _ _ _ _ _ _
   cases b4 : ((Int.tmod o1 2) == 1 : Bool) with
   | true =>
    have h := cT b4 h
    refine XQ.cond (s := (.tmp 28)) (b := true) (by kernel_rfl) (by kernel_rfl) (fun _ => ?_) (fun q => by cases q)
    refine XQ.seq E0_ok (by kernel_rfl) ?_
    refine XQ.region (by kernel_rfl) ?_
    refine XR.runS E0_ok 1 2 [(2, ii 0), (3, ii 17)] rfl (by kernel_rfl) ?_
    refine XR.done (by kernel_rfl) ?_
    show XQ _ _ _ _ _ _ _ _
    refine XQ.ret (by kernel_rfl) ?_
    have h := Option.some.inj h
    subst h
    exact ⟨fun i q => (by cases q), .tuple #[ii 0, ii 17], (by kernel_rfl), rfl⟩
   | false =>
    have h := cF b4 h
    refine XQ.cond (s := (.tmp 28)) (b := false) (by kernel_rfl) (by kernel_rfl) (fun q => by cases q) (fun _ => ?_)
    refine XQ.skip (by kernel_rfl) ?_
    show XQ _ _ _ _ _ _ _ _
    refine XQ.seq E0_ok (by kernel_rfl) ?_
    refine XQ.region (by kernel_rfl) ?_
    refine XR.runS E0_ok 1 1 [(32, s0 0 a.length)] rfl (by kernel_rfl) ?_
    obtain ⟨r3, r3_h, h⟩ := bS h
    refine XR.call E0_ok [33] rfl (K := 61) (args := [s0 0 a.length]) (d := (some (path 12 33))) (by kernel_rfl) (KC.liftH (n0 := 1) (m := 1) (args0 := [s0 0 a.length]) (h0 := [(0, rc (encI .i64) a (z0 + ((rowC (encI .i64) a).length + 1)) y0 1)]) (V := s0 1 r3.length) (V2 := s0 1 r3.length) (H := [(1, rc (encI .i64) r3 0 3 1)]) (H2 := [(1, rc (encI .i64) r3 0 3 1)]) [0] [2, 1] (f61_ok m (z0 + ((rowC (encI .i64) a).length + 1)) y0 a r3 r3_h) (by rfl) (by decide) rfl (by kernel_rfl) ⟨⟨_, _, rfl, rfl, .inl ⟨rfl, rowC_scal (encI_ok .i64) _⟩⟩, trivial⟩ (by decide) (by decide) (by kernel_rfl) ⟨⟨_, _, rfl, rfl, .inl ⟨rfl, rowC_scal (encI_ok .i64) _⟩⟩, trivial⟩ (by rfl)) ?_
    rintro _ _ _ ⟨rfl, rfl, rfl⟩
    refine XR.conv (σ' := [(33, s0 1 r3.length)]) (h' := [(1, rc (encI .i64) r3 0 3 1), (0, rc (encI .i64) a z0 y0 1)]) (c' := 2) ?_ (by kernel_rfl)
    refine XR.runS E0_ok 1 1 [(8, s0 1 r3.length)] rfl (by kernel_rfl) ?_
    refine XR.done (by kernel_rfl) ?_
    show XQ _ _ _ _ _ _ _ _
    refine XQ.seq E0_ok (by kernel_rfl) ?_
    refine XQ.region (by kernel_rfl) ?_
    refine XR.runS E0_ok 1 1 [(8, s0 1 r3.length), (9, ii 1)] rfl (by kernel_rfl) ?_
    refine XR.done (by kernel_rfl) ?_
    show XQ _ _ _ _ _ _ _ _
    refine XQ.seq E0_ok (by kernel_rfl) ?_
    refine XQ.block (id := 3) (by kernel_rfl) ?_
    refine XQ.loop m (by kernel_rfl) ?_
    obtain ⟨o2, o2_h, h⟩ := bS h
    refine XL.ren (σ' := [(8, s0 1 r3.length), (9, ii 1)]) (h' := [(1, rc (encI .i64) r3 0 3 1), (0, rc (encI .i64) a z0 y0 1)]) (c' := 2) [0, 1] (by decide) rfl ⟨by kernel_rfl, by kernel_rfl, trivial⟩ ⟨⟨_, _, rfl, rfl, .inl ⟨rfl, rowC_scal (encI_ok .i64) _⟩⟩, ⟨_, _, rfl, rfl, .inl ⟨rfl, rowC_scal (encI_ok .i64) _⟩⟩, trivial⟩ rfl ?_
    refine XL.conv (f17_2_ok m m z0 y0 a 1 r3 o2 o2_h _ ?_) (by first | rfl | simp)
    show XQ _ _ _ _ _ _ _ _
    refine XQ.seq E0_ok (by kernel_rfl) ?_
    refine XQ.region (by kernel_rfl) ?_
    refine XR.runS E0_ok 1 3 [(2, ii o2), (3, ii 0)] rfl (by kernel_rfl) ?_
    refine XR.done (by kernel_rfl) ?_
    show XQ _ _ _ _ _ _ _ _
    refine XQ.ret (by kernel_rfl) ?_
    have h := Option.some.inj h
    subst h
    exact ⟨fun i q => (by cases q), .tuple #[ii o2, ii 0], (by kernel_rfl), rfl⟩

/-! vitola/club.Proves -/
noncomputable def f19_C19 : Code := Proofs.Tryd.f19.body.getD .skip

def f19 (m : Nat) (a : List Int) (b : Int) : Option (Int) :=
 (f21 m a).bind fun r1 =>
  cond (r1 != 0) (
   some (r1)
  ) (
   (f65 m b 1 ((a.length : Nat) : Int)).bind fun r2 =>
    cond (!r2) (
     some (1)
    ) (
     (f61 m a).bind fun r3 =>
      (f62 m r3 b).bind fun r4 =>
       cond (!r4) (
        some (14)
       ) (
        some (0)
       )
    )
  )

theorem f19_ok (m : Nat) (z0 : Nat) (y0 : Nat) (a : List Int) (b : Int) (o : Int) (h : f19 m a b = some o) : KC E0 19 [s0 0 a.length, ii b] [(0, rc (encI .i64) a z0 y0 1)] 1 (fun v _ _ => v = ii o) := by
 refine KC.bodyN E0_ok (F := Proofs.Tryd.f19) (by kernel_rfl) (code := f19_C19) (by kernel_rfl) (nt := 24) (by kernel_rfl) (rs := [.tmp 4]) (by kernel_rfl) (by kernel_rfl) (σ := [(0, s0 0 a.length), (1, ii b)]) (by kernel_rfl) ?_
 unfold f19 at h
 refine XQ.seq E0_ok (by kernel_rfl) ?_
 refine XQ.region (by kernel_rfl) ?_
 refine XR.runS E0_ok 1 1 [(0, s0 0 a.length), (1, ii b)] rfl (by kernel_rfl) ?_
 refine XR.done (by kernel_rfl) ?_
 show XQ _ _ _ _ _ _ _ _
 refine XQ.seq E0_ok (by kernel_rfl) ?_
 refine XQ.region (by kernel_rfl) ?_
 refine XR.runS E0_ok 1 1 [(0, s0 0 a.length), (1, ii b), (6, s0 0 a.length)] rfl (by kernel_rfl) ?_
 obtain ⟨r1, r1_h, h⟩ := bS h
 refine XR.call E0_ok [0, 1, 7] rfl (K := 21) (args := [s0 0 a.length]) (d := (some (path 12 7))) (by kernel_rfl) (KQ.call (KC.quiet E0_ok (args0 := [s0 0 a.length]) (h0 := [(0, rc (encI .i64) a (z0 + ((rowC (encI .i64) a).length + 1)) y0 1)]) (n := 1) (V := ii r1) [0] (f21_ok m (z0 + ((rowC (encI .i64) a).length + 1)) y0 a r1 r1_h) rfl (by rfl) (by decide) rfl (by kernel_rfl) ⟨⟨_, _, rfl, rfl, .inl ⟨rfl, rowC_scal (encI_ok .i64) _⟩⟩, trivial⟩) rfl) ?_
 rintro _ _ _ ⟨rfl, rfl, rfl⟩
 refine XR.conv (σ' := [(0, s0 0 a.length), (1, ii b), (7, ii r1)]) (h' := [(0, rc (encI .i64) a z0 y0 1)]) (c' := 1) ?_ (by kernel_rfl)
 refine XR.runS E0_ok 1 1 [(0, s0 0 a.length), (1, ii b), (5, ii r1)] rfl (by kernel_rfl) ?_
 refine XR.done (by kernel_rfl) ?_
 show XQ _ _ _ _ _ _ _ _
 refine XQ.seq E0_ok (by kernel_rfl) ?_
 refine XQ.block (id := 0) (by kernel_rfl) ?_
 refine XQ.seq E0_ok (by kernel_rfl) ?_
 refine XQ.region (by kernel_rfl) ?_
 refine XR.runS E0_ok 1 3 [(0, s0 0 a.length), (1, ii b), (5, ii r1), (8, .bool (r1 != 0))] rfl (by kernel_rfl) ?_
 refine XR.done (by kernel_rfl) ?_
 show XQ _ _ _ _ _ _ _ _
 cases b1 : (r1 != 0 : Bool) with
 | true =>
  have h := cT b1 h
  refine XQ.cond (s := (.tmp 8)) (b := true) (by kernel_rfl) (by kernel_rfl) (fun _ => ?_) (fun q => by cases q)
  refine XQ.seq E0_ok (by kernel_rfl) ?_
  refine XQ.region (by kernel_rfl) ?_
  refine XR.runS E0_ok 1 2 [(4, ii r1)] rfl (by kernel_rfl) ?_
  refine XR.done (by kernel_rfl) ?_
  show XQ _ _ _ _ _ _ _ _
  refine XQ.ret (by kernel_rfl) ?_
  have h := Option.some.inj h
  subst h
  exact ⟨fun i q => (by cases q), ii r1, (by kernel_rfl), rfl⟩
 | false =>
  have h := cF b1 h
  refine XQ.cond (s := (.tmp 8)) (b := false) (by kernel_rfl) (by kernel_rfl) (fun q => by cases q) (fun _ => ?_)
  refine XQ.seq E0_ok (by kernel_rfl) ?_
  refine XQ.region (by kernel_rfl) ?_
  refine XR.runS E0_ok 1 3 [(0, s0 0 a.length), (1, ii b), (13, ii b), (15, ii ((a.length : Nat) : Int))] rfl (by kernel_rfl) ?_
  obtain ⟨r2, r2_h, h⟩ := bS h
  refine XR.call E0_ok [0, 1, 16] rfl (K := 65) (args := [ii b, ii 1, ii ((a.length : Nat) : Int)]) (d := (some (path 12 16))) (by kernel_rfl) (KC.of_calls E0_ok (F := Proofs.Tryd.f65) (v := .bool r2) (by kernel_rfl) rfl rfl (fun w hI => f65_ok m b 1 ((a.length : Nat) : Int) r2 r2_h w hI)) ?_
  rintro _ _ _ ⟨rfl, rfl, rfl⟩
  refine XR.conv (σ' := [(0, s0 0 a.length), (1, ii b), (16, .bool r2)]) (h' := [(0, rc (encI .i64) a z0 y0 1)]) (c' := 1) ?_ (by kernel_rfl)
  refine XR.runS E0_ok 1 2 [(0, s0 0 a.length), (1, ii b), (12, .bool (!r2))] rfl (by kernel_rfl) ?_
  refine XR.done (by kernel_rfl) ?_
  show XQ _ _ _ _ _ _ _ _
  cases b2 : (!r2 : Bool) with
  | true =>
   have h := cT b2 h
   refine XQ.cond (s := (.tmp 12)) (b := true) (by kernel_rfl) (by kernel_rfl) (fun _ => ?_) (fun q => by cases q)
   refine XQ.seq E0_ok (by kernel_rfl) ?_
   refine XQ.region (by kernel_rfl) ?_
   refine XR.runS E0_ok 1 1 [(4, ii 1)] rfl (by kernel_rfl) ?_
   refine XR.done (by kernel_rfl) ?_
   show XQ _ _ _ _ _ _ _ _
   refine XQ.ret (by kernel_rfl) ?_
   have h := Option.some.inj h
   subst h
   exact ⟨fun i q => (by cases q), ii 1, (by kernel_rfl), rfl⟩
  | false =>
   have h := cF b2 h
   refine XQ.cond (s := (.tmp 12)) (b := false) (by kernel_rfl) (by kernel_rfl) (fun q => by cases q) (fun _ => ?_)
   refine XQ.seq E0_ok (by kernel_rfl) ?_
   refine XQ.region (by kernel_rfl) ?_
   refine XR.runS E0_ok 1 1 [(1, ii b), (19, s0 0 a.length)] rfl (by kernel_rfl) ?_
   obtain ⟨r3, r3_h, h⟩ := bS h
   refine XR.call E0_ok [1, 20] rfl (K := 61) (args := [s0 0 a.length]) (d := (some (path 12 20))) (by kernel_rfl) (KC.liftH (n0 := 1) (m := 1) (args0 := [s0 0 a.length]) (h0 := [(0, rc (encI .i64) a (z0 + ((rowC (encI .i64) a).length + 1)) y0 1)]) (V := s0 1 r3.length) (V2 := s0 1 r3.length) (H := [(1, rc (encI .i64) r3 0 3 1)]) (H2 := [(1, rc (encI .i64) r3 0 3 1)]) [0] [2, 1] (f61_ok m (z0 + ((rowC (encI .i64) a).length + 1)) y0 a r3 r3_h) (by rfl) (by decide) rfl (by kernel_rfl) ⟨⟨_, _, rfl, rfl, .inl ⟨rfl, rowC_scal (encI_ok .i64) _⟩⟩, trivial⟩ (by decide) (by decide) (by kernel_rfl) ⟨⟨_, _, rfl, rfl, .inl ⟨rfl, rowC_scal (encI_ok .i64) _⟩⟩, trivial⟩ (by rfl)) ?_
   rintro _ _ _ ⟨rfl, rfl, rfl⟩
   refine XR.conv (σ' := [(1, ii b), (20, s0 1 r3.length)]) (h' := [(1, rc (encI .i64) r3 0 3 1), (0, rc (encI .i64) a z0 y0 1)]) (c' := 2) ?_ (by kernel_rfl)
   refine XR.runS E0_ok 1 1 [(20, s0 1 r3.length), (21, ii b)] rfl (by kernel_rfl) ?_
   obtain ⟨r4, r4_h, h⟩ := bS h
   refine XR.call E0_ok [22] rfl (K := 62) (args := [s0 1 r3.length, ii b]) (d := (some (path 12 22))) (by kernel_rfl) (KQ.call (KC.quiet E0_ok (args0 := [s0 0 r3.length, ii b]) (h0 := [(0, rc (encI .i64) r3 (0 + ((rowC (encI .i64) r3).length + 1)) 3 1)]) (n := 1) (V := .bool r4) [1] (f62_ok m (0 + ((rowC (encI .i64) r3).length + 1)) 3 r3 b r4 r4_h) rfl (by rfl) (by decide) rfl (by kernel_rfl) ⟨⟨_, _, rfl, rfl, .inl ⟨rfl, rowC_scal (encI_ok .i64) _⟩⟩, trivial⟩) rfl) ?_
   rintro _ _ _ ⟨rfl, rfl, rfl⟩
   refine XR.conv (σ' := [(22, .bool r4)]) (h' := [(1, rc (encI .i64) r3 0 3 1), (0, rc (encI .i64) a z0 y0 1)]) (c' := 2) ?_ (by kernel_rfl)
   refine XR.runS E0_ok 1 2 [(18, .bool (!r4))] rfl (by kernel_rfl) ?_
   refine XR.done (by kernel_rfl) ?_
   show XQ _ _ _ _ _ _ _ _
   cases b3 : (!r4 : Bool) with
   | true =>
    have h := cT b3 h
    refine XQ.cond (s := (.tmp 18)) (b := true) (by kernel_rfl) (by kernel_rfl) (fun _ => ?_) (fun q => by cases q)
    refine XQ.seq E0_ok (by kernel_rfl) ?_
    refine XQ.region (by kernel_rfl) ?_
    refine XR.runS E0_ok 1 1 [(4, ii 14)] rfl (by kernel_rfl) ?_
    refine XR.done (by kernel_rfl) ?_
    show XQ _ _ _ _ _ _ _ _
    refine XQ.ret (by kernel_rfl) ?_
    have h := Option.some.inj h
    subst h
    exact ⟨fun i q => (by cases q), ii 14, (by kernel_rfl), rfl⟩
   | false =>
    have h := cF b3 h
    refine XQ.cond (s := (.tmp 18)) (b := false) (by kernel_rfl) (by kernel_rfl) (fun q => by cases q) (fun _ => ?_)
    refine XQ.skip (by kernel_rfl) ?_
    show XQ _ _ _ _ _ _ _ _
    refine XQ.seq E0_ok (by kernel_rfl) ?_
    refine XQ.region (by kernel_rfl) ?_
    refine XR.runS E0_ok 1 1 [(4, ii 0)] rfl (by kernel_rfl) ?_
    refine XR.done (by kernel_rfl) ?_
    show XQ _ _ _ _ _ _ _ _
    refine XQ.ret (by kernel_rfl) ?_
    have h := Option.some.inj h
    subst h
    exact ⟨fun i q => (by cases q), ii 0, (by kernel_rfl), rfl⟩

/-! vitola/vitolaref12.Can -/
noncomputable def f16_C16 : Code := Proofs.Tryd.f16.body.getD .skip

def f16 (m : Nat) (a : List Int) : Option (Bool × Int) :=
 (f22 m a).bind fun r1 =>
  cond (r1 != 0) (
   some (false, r1)
  ) (
   (f60 m a).bind fun r2 =>
    some (r2, 0)
  )

theorem f16_ok (m : Nat) (z0 : Nat) (y0 : Nat) (a : List Int) (o : Bool × Int) (h : f16 m a = some o) : KC E0 16 [s0 0 a.length] [(0, rc (encI .i64) a z0 y0 1)] 1 (fun v _ _ => v = .tuple #[.bool o.1, ii o.2]) := by
 refine KC.bodyN E0_ok (F := Proofs.Tryd.f16) (by kernel_rfl) (code := f16_C16) (by kernel_rfl) (nt := 12) (by kernel_rfl) (rs := [.tmp 2, .tmp 3]) (by kernel_rfl) (by kernel_rfl) (σ := [(0, s0 0 a.length)]) (by kernel_rfl) ?_
 unfold f16 at h
 refine XQ.seq E0_ok (by kernel_rfl) ?_
 refine XQ.region (by kernel_rfl) ?_
 refine XR.runS E0_ok 1 2 [(0, s0 0 a.length)] rfl (by kernel_rfl) ?_
 refine XR.done (by kernel_rfl) ?_
 show XQ _ _ _ _ _ _ _ _
 refine XQ.seq E0_ok (by kernel_rfl) ?_
 refine XQ.region (by kernel_rfl) ?_
 refine XR.runS E0_ok 1 1 [(0, s0 0 a.length), (5, s0 0 a.length)] rfl (by kernel_rfl) ?_
 obtain ⟨r1, r1_h, h⟩ := bS h
 refine XR.call E0_ok [0, 6] rfl (K := 22) (args := [s0 0 a.length]) (d := (some (path 12 6))) (by kernel_rfl) (KQ.call (KC.quiet E0_ok (args0 := [s0 0 a.length]) (h0 := [(0, rc (encI .i64) a (z0 + ((rowC (encI .i64) a).length + 1)) y0 1)]) (n := 1) (V := ii r1) [0] (f22_ok m (z0 + ((rowC (encI .i64) a).length + 1)) y0 a r1 r1_h) rfl (by rfl) (by decide) rfl (by kernel_rfl) ⟨⟨_, _, rfl, rfl, .inl ⟨rfl, rowC_scal (encI_ok .i64) _⟩⟩, trivial⟩) rfl) ?_
 rintro _ _ _ ⟨rfl, rfl, rfl⟩
 refine XR.conv (σ' := [(0, s0 0 a.length), (6, ii r1)]) (h' := [(0, rc (encI .i64) a z0 y0 1)]) (c' := 1) ?_ (by kernel_rfl)
 refine XR.runS E0_ok 1 1 [(0, s0 0 a.length), (4, ii r1)] rfl (by kernel_rfl) ?_
 refine XR.done (by kernel_rfl) ?_
 show XQ _ _ _ _ _ _ _ _
 refine XQ.seq E0_ok (by kernel_rfl) ?_
 refine XQ.seq E0_ok (by kernel_rfl) ?_
 refine XQ.region (by kernel_rfl) ?_
 refine XR.runS E0_ok 1 2 [(0, s0 0 a.length), (4, ii r1), (8, .bool (r1 != 0))] rfl (by kernel_rfl) ?_
 refine XR.done (by kernel_rfl) ?_
 show XQ _ _ _ _ _ _ _ _
 cases b1 : (r1 != 0 : Bool) with
 | true =>
  have h := cT b1 h
  refine XQ.cond (s := (.tmp 8)) (b := true) (by kernel_rfl) (by kernel_rfl) (fun _ => ?_) (fun q => by cases q)
  refine XQ.seq E0_ok (by kernel_rfl) ?_
  refine XQ.region (by kernel_rfl) ?_
  refine XR.runS E0_ok 1 3 [(2, .bool false), (3, ii r1)] rfl (by kernel_rfl) ?_
  refine XR.done (by kernel_rfl) ?_
  show XQ _ _ _ _ _ _ _ _
  refine XQ.ret (by kernel_rfl) ?_
  have h := Option.some.inj h
  subst h
  exact ⟨fun i q => (by cases q), .tuple #[.bool false, ii r1], (by kernel_rfl), rfl⟩
 | false =>
  have h := cF b1 h
  refine XQ.cond (s := (.tmp 8)) (b := false) (by kernel_rfl) (by kernel_rfl) (fun q => by cases q) (fun _ => ?_)
  refine XQ.skip (by kernel_rfl) ?_
  show XQ _ _ _ _ _ _ _ _
  refine XQ.seq E0_ok (by kernel_rfl) ?_
  refine XQ.region (by kernel_rfl) ?_
  refine XR.runS E0_ok 1 1 [(10, s0 0 a.length)] rfl (by kernel_rfl) ?_
  obtain ⟨r2, r2_h, h⟩ := bS h
  refine XR.call E0_ok [11] rfl (K := 60) (args := [s0 0 a.length]) (d := (some (path 12 11))) (by kernel_rfl) (KQ.call (KC.quiet E0_ok (args0 := [s0 0 a.length]) (h0 := [(0, rc (encI .i64) a (z0 + ((rowC (encI .i64) a).length + 1)) y0 1)]) (n := 1) (V := .bool r2) [0] (f60_ok m (z0 + ((rowC (encI .i64) a).length + 1)) y0 a r2 r2_h) rfl (by rfl) (by decide) rfl (by kernel_rfl) ⟨⟨_, _, rfl, rfl, .inl ⟨rfl, rowC_scal (encI_ok .i64) _⟩⟩, trivial⟩) rfl) ?_
  rintro _ _ _ ⟨rfl, rfl, rfl⟩
  refine XR.conv (σ' := [(11, .bool r2)]) (h' := [(0, rc (encI .i64) a z0 y0 1)]) (c' := 1) ?_ (by kernel_rfl)
  refine XR.runS E0_ok 1 2 [(2, .bool r2), (3, ii 0)] rfl (by kernel_rfl) ?_
  refine XR.done (by kernel_rfl) ?_
  show XQ _ _ _ _ _ _ _ _
  refine XQ.ret (by kernel_rfl) ?_
  have h := Option.some.inj h
  subst h
  exact ⟨fun i q => (by cases q), .tuple #[.bool r2, ii 0], (by kernel_rfl), rfl⟩

/-! vitola/vitolaref12.Why -/
noncomputable def f18_C18 : Code := Proofs.Tryd.f18.body.getD .skip

def f18 (m : Nat) (a : List Int) : Option (Int × Int) :=
 (f22 m a).bind fun r1 =>
  cond (r1 == 0) (
   (f60 m a).bind fun r2 =>
    cond ((cond (r2) 13 r1 : Int) == 0) (
     (f63 m a).bind fun r3 =>
      cond ((cond ((Int.tmod r3 2) == 1) 17 (cond (r2) 13 r1) : Int) != 0) (
       some (0, cond ((Int.tmod r3 2) == 1) 17 (cond (r2) 13 r1))
      ) (
       (f64 m a).bind fun r4 =>
        some (r4, 0)
      )
    ) (
     cond ((cond (r2) 13 r1 : Int) != 0) (
      some (0, cond (r2) 13 r1)
     ) (
      (f64 m a).bind fun r5 =>
       some (r5, 0)
     )
    )
  ) (
   cond (r1 != 0) (
    some (0, r1)
   ) (
    (f64 m a).bind fun r6 =>
     some (r6, 0)
   )
  )

theorem f18_ok (m : Nat) (z0 : Nat) (y0 : Nat) (a : List Int) (o : Int × Int) (h : f18 m a = some o) : KC E0 18 [s0 0 a.length] [(0, rc (encI .i64) a z0 y0 1)] 1 (fun v _ _ => v = .tuple #[ii o.1, ii o.2]) := by
 refine KC.bodyN E0_ok (F := Proofs.Tryd.f18) (by kernel_rfl) (code := f18_C18) (by kernel_rfl) (nt := 26) (by kernel_rfl) (rs := [.tmp 2, .tmp 3]) (by kernel_rfl) (by kernel_rfl) (σ := [(0, s0 0 a.length)]) (by kernel_rfl) ?_
 unfold f18 at h
 refine XQ.seq E0_ok (by kernel_rfl) ?_
 refine XQ.region (by kernel_rfl) ?_
 refine XR.runS E0_ok 1 2 [(0, s0 0 a.length)] rfl (by kernel_rfl) ?_
 refine XR.done (by kernel_rfl) ?_
 show XQ _ _ _ _ _ _ _ _
 refine XQ.seq E0_ok (by kernel_rfl) ?_
 refine XQ.region (by kernel_rfl) ?_
 refine XR.runS E0_ok 1 1 [(0, s0 0 a.length), (5, s0 0 a.length)] rfl (by kernel_rfl) ?_
 obtain ⟨r1, r1_h, h⟩ := bS h
 refine XR.call E0_ok [0, 6] rfl (K := 22) (args := [s0 0 a.length]) (d := (some (path 12 6))) (by kernel_rfl) (KQ.call (KC.quiet E0_ok (args0 := [s0 0 a.length]) (h0 := [(0, rc (encI .i64) a (z0 + ((rowC (encI .i64) a).length + 1)) y0 1)]) (n := 1) (V := ii r1) [0] (f22_ok m (z0 + ((rowC (encI .i64) a).length + 1)) y0 a r1 r1_h) rfl (by rfl) (by decide) rfl (by kernel_rfl) ⟨⟨_, _, rfl, rfl, .inl ⟨rfl, rowC_scal (encI_ok .i64) _⟩⟩, trivial⟩) rfl) ?_
 rintro _ _ _ ⟨rfl, rfl, rfl⟩
 refine XR.conv (σ' := [(0, s0 0 a.length), (6, ii r1)]) (h' := [(0, rc (encI .i64) a z0 y0 1)]) (c' := 1) ?_ (by kernel_rfl)
 refine XR.runS E0_ok 1 1 [(0, s0 0 a.length), (4, ii r1)] rfl (by kernel_rfl) ?_
 refine XR.done (by kernel_rfl) ?_
 show XQ _ _ _ _ _ _ _ _
 refine XQ.seq E0_ok (by kernel_rfl) ?_
 refine XQ.seq E0_ok (by kernel_rfl) ?_
 refine XQ.region (by kernel_rfl) ?_
 refine XR.runS E0_ok 1 3 [(0, s0 0 a.length), (4, ii r1), (9, .bool (r1 == 0))] rfl (by kernel_rfl) ?_
 cases b1 : (r1 == 0 : Bool) with
 | true =>
  have h := cT b1 h
  refine XR.runS E0_ok 1 1 [(0, s0 0 a.length), (4, ii r1), (9, .bool true), (10, s0 0 a.length)] rfl (by kernel_rfl) ?_
  obtain ⟨r2, r2_h, h⟩ := bS h
  refine XR.call E0_ok [0, 4, 9, 11] rfl (K := 60) (args := [s0 0 a.length]) (d := (some (path 12 11))) (by kernel_rfl) (KQ.call (KC.quiet E0_ok (args0 := [s0 0 a.length]) (h0 := [(0, rc (encI .i64) a (z0 + ((rowC (encI .i64) a).length + 1)) y0 1)]) (n := 1) (V := .bool r2) [0] (f60_ok m (z0 + ((rowC (encI .i64) a).length + 1)) y0 a r2 r2_h) rfl (by rfl) (by decide) rfl (by kernel_rfl) ⟨⟨_, _, rfl, rfl, .inl ⟨rfl, rowC_scal (encI_ok .i64) _⟩⟩, trivial⟩) rfl) ?_
  rintro _ _ _ ⟨rfl, rfl, rfl⟩
  refine XR.conv (σ' := [(0, s0 0 a.length), (4, ii r1), (9, .bool true), (11, .bool r2)]) (h' := [(0, rc (encI .i64) a z0 y0 1)]) (c' := 1) ?_ (by kernel_rfl)
  refine XR.runS E0_ok 1 1 [(0, s0 0 a.length), (4, ii r1), (12, .bool r2)] rfl (by kernel_rfl) ?_
  refine XR.done (by kernel_rfl) ?_
  show XQ _ _ _ _ _ _ _ _
  refine XQ.meetC (σ' := [(0, s0 0 a.length), (4, ii (cond (r2) 13 r1))]) (h' := [(0, rc (encI .i64) a z0 y0 1)]) (c' := 1) ?_ ?_
  rotate_left
  ·refine XQ.cond (s := (.tmp 12)) (b := r2) (by kernel_rfl) (by kernel_rfl) (fun b2 => ?_) (fun b2 => ?_)
   ·refine XQ.region (by kernel_rfl) ?_
    refine XR.runS E0_ok 1 1 [(0, s0 0 a.length), (4, ii 13)] rfl (by kernel_rfl) ?_
    refine XR.done (by kernel_rfl) ?_
    refine ⟨rfl, ?_, ?_⟩
    ·try rw [b2]
     exact ⟨by kernel_rfl, by kernel_rfl, trivial⟩
    ·try rw [b2]
     kernel_rfl
   ·refine XQ.skip (by kernel_rfl) ?_
    refine ⟨rfl, ?_, ?_⟩
    ·try rw [b2]
     exact ⟨by kernel_rfl, by kernel_rfl, trivial⟩
    ·try rw [b2]
     kernel_rfl
  show XQ _ _ _ _ _ _ _ _
  refine XQ.seq E0_ok (by kernel_rfl) ?_
  refine XQ.seq E0_ok (by kernel_rfl) ?_
  refine XQ.region (by kernel_rfl) ?_
  refine XR.runS E0_ok 1 3 [(0, s0 0 a.length), (4, ii (cond (r2) 13 r1)), (15, .bool ((cond (r2) 13 r1 : Int) == 0))] rfl (by kernel_rfl) ?_
  cases b3 : ((cond (r2) 13 r1 : Int) == 0 : Bool) with
  | true =>
   have h := cT b3 h
   refine XR.runS E0_ok 1 1 [(0, s0 0 a.length), (4, ii (cond (r2) 13 r1)), (15, .bool true), (16, s0 0 a.length)] rfl (by kernel_rfl) ?_
   obtain ⟨r3, r3_h, h⟩ := bS h
   refine XR.call E0_ok [0, 4, 15, 17] rfl (K := 63) (args := [s0 0 a.length]) (d := (some (path 12 17))) (by kernel_rfl) (KQ.call (KC.quiet E0_ok (args0 := [s0 0 a.length]) (h0 := [(0, rc (encI .i64) a (z0 + ((rowC (encI .i64) a).length + 1)) y0 1)]) (n := 1) (V := ii r3) [0] (f63_ok m (z0 + ((rowC (encI .i64) a).length + 1)) y0 a r3 r3_h) rfl (by rfl) (by decide) rfl (by kernel_rfl) ⟨⟨_, _, rfl, rfl, .inl ⟨rfl, rowC_scal (encI_ok .i64) _⟩⟩, trivial⟩) rfl) ?_
   rintro _ _ _ ⟨rfl, rfl, rfl⟩
   refine XR.conv (σ' := [(0, s0 0 a.length), (4, ii (cond (r2) 13 r1)), (15, .bool true), (17, ii r3)]) (h' := [(0, rc (encI .i64) a z0 y0 1)]) (c' := 1) ?_ (by kernel_rfl)
   refine XR.runS E0_ok 1 3 [(0, s0 0 a.length), (4, ii (cond (r2) 13 r1)), (20, .bool ((Int.tmod r3 2) == 1))] rfl (by kernel_rfl) ?_
   refine XR.done (by kernel_rfl) ?_
   show XQ _ _ _ _ _ _ _ _
   refine XQ.meetC (σ' := [(0, s0 0 a.length), (4, ii (cond ((Int.tmod r3 2) == 1) 17 (cond (r2) 13 r1)))]) (h' := [(0, rc (encI .i64) a z0 y0 1)]) (c' := 1) ?_ ?_
   rotate_left
   ·refine XQ.cond (s := (.tmp 20)) (b := (Int.tmod r3 2) == 1) (by kernel_rfl) (by kernel_rfl) (fun b4 => ?_) (fun b4 => ?_)
    ·refine XQ.region (by kernel_rfl) ?_
     refine XR.runS E0_ok 1 1 [(0, s0 0 a.length), (4, ii 17)] rfl (by kernel_rfl) ?_
     refine XR.done (by kernel_rfl) ?_
     refine ⟨rfl, ?_, ?_⟩
     ·try rw [b4]
      exact ⟨by kernel_rfl, by kernel_rfl, trivial⟩
     ·try rw [b4]
      kernel_rfl
    ·refine XQ.skip (by kernel_rfl) ?_
     refine ⟨rfl, ?_, ?_⟩
     ·try rw [b4]
      exact ⟨by kernel_rfl, by kernel_rfl, trivial⟩
     ·try rw [b4]
      kernel_rfl
   show XQ _ _ _ _ _ _ _ _
   refine XQ.seq E0_ok (by kernel_rfl) ?_
   refine XQ.seq E0_ok (by kernel_rfl) ?_
   refine XQ.region (by kernel_rfl) ?_
   refine XR.runS E0_ok 1 2 [(0, s0 0 a.length), (4, ii (cond ((Int.tmod r3 2) == 1) 17 (cond (r2) 13 r1))), (22, .bool ((cond ((Int.tmod r3 2) == 1) 17 (cond (r2) 13 r1) : Int) != 0))] rfl (by kernel_rfl) ?_
   refine XR.done (by kernel_rfl) ?_
   show XQ _ _ _ _ _ _ _ _
   cases b5 : ((cond ((Int.tmod r3 2) == 1) 17 (cond (r2) 13 r1) : Int) != 0 : Bool) with
   | true =>
    have h := cT b5 h
    refine XQ.cond (s := (.tmp 22)) (b := true) (by kernel_rfl) (by kernel_rfl) (fun _ => ?_) (fun q => by cases q)
    refine XQ.seq E0_ok (by kernel_rfl) ?_
    refine XQ.region (by kernel_rfl) ?_
    refine XR.runS E0_ok 1 3 [(2, ii 0), (3, ii (cond ((Int.tmod r3 2) == 1) 17 (cond (r2) 13 r1)))] rfl (by kernel_rfl) ?_
    refine XR.done (by kernel_rfl) ?_
    show XQ _ _ _ _ _ _ _ _
    refine XQ.ret (by kernel_rfl) ?_
    have h := Option.some.inj h
    subst h
    exact ⟨fun i q => (by cases q), .tuple #[ii 0, ii (cond ((Int.tmod r3 2) == 1) 17 (cond (r2) 13 r1))], (by kernel_rfl), rfl⟩
   | false =>
    have h := cF b5 h
    refine XQ.cond (s := (.tmp 22)) (b := false) (by kernel_rfl) (by kernel_rfl) (fun q => by cases q) (fun _ => ?_)
    refine XQ.skip (by kernel_rfl) ?_
    show XQ _ _ _ _ _ _ _ _
    refine XQ.seq E0_ok (by kernel_rfl) ?_
    refine XQ.region (by kernel_rfl) ?_
    refine XR.runS E0_ok 1 1 [(24, s0 0 a.length)] rfl (by kernel_rfl) ?_
    obtain ⟨r4, r4_h, h⟩ := bS h
    refine XR.call E0_ok [25] rfl (K := 64) (args := [s0 0 a.length]) (d := (some (path 12 25))) (by kernel_rfl) (KQ.call (KC.quiet E0_ok (args0 := [s0 0 a.length]) (h0 := [(0, rc (encI .i64) a (z0 + ((rowC (encI .i64) a).length + 1)) y0 1)]) (n := 1) (V := ii r4) [0] (f64_ok m (z0 + ((rowC (encI .i64) a).length + 1)) y0 a r4 r4_h) rfl (by rfl) (by decide) rfl (by kernel_rfl) ⟨⟨_, _, rfl, rfl, .inl ⟨rfl, rowC_scal (encI_ok .i64) _⟩⟩, trivial⟩) rfl) ?_
    rintro _ _ _ ⟨rfl, rfl, rfl⟩
    refine XR.conv (σ' := [(25, ii r4)]) (h' := [(0, rc (encI .i64) a z0 y0 1)]) (c' := 1) ?_ (by kernel_rfl)
    refine XR.runS E0_ok 1 2 [(2, ii r4), (3, ii 0)] rfl (by kernel_rfl) ?_
    refine XR.done (by kernel_rfl) ?_
    show XQ _ _ _ _ _ _ _ _
    refine XQ.ret (by kernel_rfl) ?_
    have h := Option.some.inj h
    subst h
    exact ⟨fun i q => (by cases q), .tuple #[ii r4, ii 0], (by kernel_rfl), rfl⟩
  | false =>
   have h := cF b3 h
   refine XR.runS E0_ok 1 5 [(0, s0 0 a.length), (4, ii (cond (r2) 13 r1)), (20, .bool false)] rfl (by kernel_rfl) ?_
   refine XR.done (by kernel_rfl) ?_
   show XQ _ _ _ _ _ _ _ _
   refine XQ.cond (s := (.tmp 20)) (b := false) (by kernel_rfl) (by kernel_rfl) (fun q => by cases q) (fun _ => ?_)
   refine XQ.skip (by kernel_rfl) ?_
   show XQ _ _ _ _ _ _ _ _
   refine XQ.seq E0_ok (by kernel_rfl) ?_
   refine XQ.seq E0_ok (by kernel_rfl) ?_
   refine XQ.region (by kernel_rfl) ?_
   refine XR.runS E0_ok 1 2 [(0, s0 0 a.length), (4, ii (cond (r2) 13 r1)), (22, .bool ((cond (r2) 13 r1 : Int) != 0))] rfl (by kernel_rfl) ?_
   refine XR.done (by kernel_rfl) ?_
   show XQ _ _ _ _ _ _ _ _
   cases b6 : ((cond (r2) 13 r1 : Int) != 0 : Bool) with
   | true =>
    have h := cT b6 h
    refine XQ.cond (s := (.tmp 22)) (b := true) (by kernel_rfl) (by kernel_rfl) (fun _ => ?_) (fun q => by cases q)
    refine XQ.seq E0_ok (by kernel_rfl) ?_
    refine XQ.region (by kernel_rfl) ?_
    refine XR.runS E0_ok 1 3 [(2, ii 0), (3, ii (cond (r2) 13 r1))] rfl (by kernel_rfl) ?_
    refine XR.done (by kernel_rfl) ?_
    show XQ _ _ _ _ _ _ _ _
    refine XQ.ret (by kernel_rfl) ?_
    have h := Option.some.inj h
    subst h
    exact ⟨fun i q => (by cases q), .tuple #[ii 0, ii (cond (r2) 13 r1)], (by kernel_rfl), rfl⟩
   | false =>
    have h := cF b6 h
    refine XQ.cond (s := (.tmp 22)) (b := false) (by kernel_rfl) (by kernel_rfl) (fun q => by cases q) (fun _ => ?_)
    refine XQ.skip (by kernel_rfl) ?_
    show XQ _ _ _ _ _ _ _ _
    refine XQ.seq E0_ok (by kernel_rfl) ?_
    refine XQ.region (by kernel_rfl) ?_
    refine XR.runS E0_ok 1 1 [(24, s0 0 a.length)] rfl (by kernel_rfl) ?_
    obtain ⟨r5, r5_h, h⟩ := bS h
    refine XR.call E0_ok [25] rfl (K := 64) (args := [s0 0 a.length]) (d := (some (path 12 25))) (by kernel_rfl) (KQ.call (KC.quiet E0_ok (args0 := [s0 0 a.length]) (h0 := [(0, rc (encI .i64) a (z0 + ((rowC (encI .i64) a).length + 1)) y0 1)]) (n := 1) (V := ii r5) [0] (f64_ok m (z0 + ((rowC (encI .i64) a).length + 1)) y0 a r5 r5_h) rfl (by rfl) (by decide) rfl (by kernel_rfl) ⟨⟨_, _, rfl, rfl, .inl ⟨rfl, rowC_scal (encI_ok .i64) _⟩⟩, trivial⟩) rfl) ?_
    rintro _ _ _ ⟨rfl, rfl, rfl⟩
    refine XR.conv (σ' := [(25, ii r5)]) (h' := [(0, rc (encI .i64) a z0 y0 1)]) (c' := 1) ?_ (by kernel_rfl)
    refine XR.runS E0_ok 1 2 [(2, ii r5), (3, ii 0)] rfl (by kernel_rfl) ?_
    refine XR.done (by kernel_rfl) ?_
    show XQ _ _ _ _ _ _ _ _
    refine XQ.ret (by kernel_rfl) ?_
    have h := Option.some.inj h
    subst h
    exact ⟨fun i q => (by cases q), .tuple #[ii r5, ii 0], (by kernel_rfl), rfl⟩
 | false =>
  have h := cF b1 h
  refine XR.runS E0_ok 1 3 [(0, s0 0 a.length), (4, ii r1), (12, .bool false)] rfl (by kernel_rfl) ?_
  refine XR.done (by kernel_rfl) ?_
  show XQ _ _ _ _ _ _ _ _
  refine XQ.cond (s := (.tmp 12)) (b := false) (by kernel_rfl) (by kernel_rfl) (fun q => by cases q) (fun _ => ?_)
  refine XQ.skip (by kernel_rfl) ?_
  show XQ _ _ _ _ _ _ _ _
  refine XQ.seq E0_ok (by kernel_rfl) ?_
  refine XQ.seq E0_ok (by kernel_rfl) ?_
  refine XQ.region (by kernel_rfl) ?_
  refine XR.runS E0_ok 1 3 [(0, s0 0 a.length), (4, ii r1), (15, .bool (r1 == 0))] rfl (by kernel_rfl) ?_
  rw [b1]
  refine XR.runS E0_ok 1 5 [(0, s0 0 a.length), (4, ii r1), (20, .bool false)] rfl (by kernel_rfl) ?_
  refine XR.done (by kernel_rfl) ?_
  show XQ _ _ _ _ _ _ _ _
  refine XQ.cond (s := (.tmp 20)) (b := false) (by kernel_rfl) (by kernel_rfl) (fun q => by cases q) (fun _ => ?_)
  refine XQ.skip (by kernel_rfl) ?_
  show XQ _ _ _ _ _ _ _ _
  refine XQ.seq E0_ok (by kernel_rfl) ?_
  refine XQ.seq E0_ok (by kernel_rfl) ?_
  refine XQ.region (by kernel_rfl) ?_
  refine XR.runS E0_ok 1 2 [(0, s0 0 a.length), (4, ii r1), (22, .bool (r1 != 0))] rfl (by kernel_rfl) ?_
  refine XR.done (by kernel_rfl) ?_
  show XQ _ _ _ _ _ _ _ _
  cases b7 : (r1 != 0 : Bool) with
  | true =>
   have h := cT b7 h
   refine XQ.cond (s := (.tmp 22)) (b := true) (by kernel_rfl) (by kernel_rfl) (fun _ => ?_) (fun q => by cases q)
   refine XQ.seq E0_ok (by kernel_rfl) ?_
   refine XQ.region (by kernel_rfl) ?_
   refine XR.runS E0_ok 1 3 [(2, ii 0), (3, ii r1)] rfl (by kernel_rfl) ?_
   refine XR.done (by kernel_rfl) ?_
   show XQ _ _ _ _ _ _ _ _
   refine XQ.ret (by kernel_rfl) ?_
   have h := Option.some.inj h
   subst h
   exact ⟨fun i q => (by cases q), .tuple #[ii 0, ii r1], (by kernel_rfl), rfl⟩
  | false =>
   have h := cF b7 h
   refine XQ.cond (s := (.tmp 22)) (b := false) (by kernel_rfl) (by kernel_rfl) (fun q => by cases q) (fun _ => ?_)
   refine XQ.skip (by kernel_rfl) ?_
   show XQ _ _ _ _ _ _ _ _
   refine XQ.seq E0_ok (by kernel_rfl) ?_
   refine XQ.region (by kernel_rfl) ?_
   refine XR.runS E0_ok 1 1 [(24, s0 0 a.length)] rfl (by kernel_rfl) ?_
   obtain ⟨r6, r6_h, h⟩ := bS h
   refine XR.call E0_ok [25] rfl (K := 64) (args := [s0 0 a.length]) (d := (some (path 12 25))) (by kernel_rfl) (KQ.call (KC.quiet E0_ok (args0 := [s0 0 a.length]) (h0 := [(0, rc (encI .i64) a (z0 + ((rowC (encI .i64) a).length + 1)) y0 1)]) (n := 1) (V := ii r6) [0] (f64_ok m (z0 + ((rowC (encI .i64) a).length + 1)) y0 a r6 r6_h) rfl (by rfl) (by decide) rfl (by kernel_rfl) ⟨⟨_, _, rfl, rfl, .inl ⟨rfl, rowC_scal (encI_ok .i64) _⟩⟩, trivial⟩) rfl) ?_
   rintro _ _ _ ⟨rfl, rfl, rfl⟩
   refine XR.conv (σ' := [(25, ii r6)]) (h' := [(0, rc (encI .i64) a z0 y0 1)]) (c' := 1) ?_ (by kernel_rfl)
   refine XR.runS E0_ok 1 2 [(2, ii r6), (3, ii 0)] rfl (by kernel_rfl) ?_
   refine XR.done (by kernel_rfl) ?_
   show XQ _ _ _ _ _ _ _ _
   refine XQ.ret (by kernel_rfl) ?_
   have h := Option.some.inj h
   subst h
   exact ⟨fun i q => (by cases q), .tuple #[ii r6, ii 0], (by kernel_rfl), rfl⟩

/-! vitola/vitolaref12.Proves -/
noncomputable def f20_C20 : Code := Proofs.Tryd.f20.body.getD .skip

def f20 (m : Nat) (a : List Int) (b : Int) : Option (Int) :=
 (f22 m a).bind fun r1 =>
  cond (r1 == 0) (
   (f66 m b 1 ((a.length : Nat) : Int)).bind fun r2 =>
    cond ((cond (!r2) 1 r1 : Int) == 0) (
     (f67 m a b).bind fun r3 =>
      some (cond (!r3) 14 (cond (!r2) 1 r1))
    ) (
     some (cond (!r2) 1 r1)
    )
  ) (
   some (r1)
  )

theorem f20_ok (m : Nat) (z0 : Nat) (y0 : Nat) (a : List Int) (b : Int) (o : Int) (h : f20 m a b = some o) : KC E0 20 [s0 0 a.length, ii b] [(0, rc (encI .i64) a z0 y0 1)] 1 (fun v _ _ => v = ii o) := by
 refine KC.bodyN E0_ok (F := Proofs.Tryd.f20) (by kernel_rfl) (code := f20_C20) (by kernel_rfl) (nt := 26) (by kernel_rfl) (rs := [.tmp 4]) (by kernel_rfl) (by kernel_rfl) (σ := [(0, s0 0 a.length), (1, ii b)]) (by kernel_rfl) ?_
 unfold f20 at h
 refine XQ.seq E0_ok (by kernel_rfl) ?_
 refine XQ.region (by kernel_rfl) ?_
 refine XR.runS E0_ok 1 1 [(0, s0 0 a.length), (1, ii b)] rfl (by kernel_rfl) ?_
 refine XR.done (by kernel_rfl) ?_
 show XQ _ _ _ _ _ _ _ _
 refine XQ.seq E0_ok (by kernel_rfl) ?_
 refine XQ.region (by kernel_rfl) ?_
 refine XR.runS E0_ok 1 1 [(0, s0 0 a.length), (1, ii b), (6, s0 0 a.length)] rfl (by kernel_rfl) ?_
 obtain ⟨r1, r1_h, h⟩ := bS h
 refine XR.call E0_ok [0, 1, 7] rfl (K := 22) (args := [s0 0 a.length]) (d := (some (path 12 7))) (by kernel_rfl) (KQ.call (KC.quiet E0_ok (args0 := [s0 0 a.length]) (h0 := [(0, rc (encI .i64) a (z0 + ((rowC (encI .i64) a).length + 1)) y0 1)]) (n := 1) (V := ii r1) [0] (f22_ok m (z0 + ((rowC (encI .i64) a).length + 1)) y0 a r1 r1_h) rfl (by rfl) (by decide) rfl (by kernel_rfl) ⟨⟨_, _, rfl, rfl, .inl ⟨rfl, rowC_scal (encI_ok .i64) _⟩⟩, trivial⟩) rfl) ?_
 rintro _ _ _ ⟨rfl, rfl, rfl⟩
 refine XR.conv (σ' := [(0, s0 0 a.length), (1, ii b), (7, ii r1)]) (h' := [(0, rc (encI .i64) a z0 y0 1)]) (c' := 1) ?_ (by kernel_rfl)
 refine XR.runS E0_ok 1 1 [(0, s0 0 a.length), (1, ii b), (5, ii r1)] rfl (by kernel_rfl) ?_
 refine XR.done (by kernel_rfl) ?_
 show XQ _ _ _ _ _ _ _ _
 refine XQ.seq E0_ok (by kernel_rfl) ?_
 refine XQ.seq E0_ok (by kernel_rfl) ?_
 refine XQ.region (by kernel_rfl) ?_
 refine XR.runS E0_ok 1 3 [(0, s0 0 a.length), (1, ii b), (5, ii r1), (10, .bool (r1 == 0))] rfl (by kernel_rfl) ?_
 cases b1 : (r1 == 0 : Bool) with
 | true =>
  have h := cT b1 h
  refine XR.runS E0_ok 1 3 [(0, s0 0 a.length), (1, ii b), (5, ii r1), (10, .bool true), (11, ii b), (13, ii ((a.length : Nat) : Int))] rfl (by kernel_rfl) ?_
  obtain ⟨r2, r2_h, h⟩ := bS h
  refine XR.call E0_ok [0, 1, 5, 10, 14] rfl (K := 66) (args := [ii b, ii 1, ii ((a.length : Nat) : Int)]) (d := (some (path 12 14))) (by kernel_rfl) (KC.of_calls E0_ok (F := Proofs.Tryd.f66) (v := .bool r2) (by kernel_rfl) rfl rfl (fun w hI => f66_ok m b 1 ((a.length : Nat) : Int) r2 r2_h w hI)) ?_
  rintro _ _ _ ⟨rfl, rfl, rfl⟩
  refine XR.conv (σ' := [(0, s0 0 a.length), (1, ii b), (5, ii r1), (10, .bool true), (14, .bool r2)]) (h' := [(0, rc (encI .i64) a z0 y0 1)]) (c' := 1) ?_ (by kernel_rfl)
  refine XR.runS E0_ok 1 2 [(0, s0 0 a.length), (1, ii b), (5, ii r1), (16, .bool (!r2))] rfl (by kernel_rfl) ?_
  refine XR.done (by kernel_rfl) ?_
  show XQ _ _ _ _ _ _ _ _
  refine XQ.meetC (σ' := [(0, s0 0 a.length), (1, ii b), (5, ii (cond (!r2) 1 r1))]) (h' := [(0, rc (encI .i64) a z0 y0 1)]) (c' := 1) ?_ ?_
  rotate_left
  ·refine XQ.cond (s := (.tmp 16)) (b := !r2) (by kernel_rfl) (by kernel_rfl) (fun b2 => ?_) (fun b2 => ?_)
   ·refine XQ.region (by kernel_rfl) ?_
    refine XR.runS E0_ok 1 1 [(0, s0 0 a.length), (1, ii b), (5, ii 1)] rfl (by kernel_rfl) ?_
    refine XR.done (by kernel_rfl) ?_
    refine ⟨rfl, ?_, ?_⟩
    ·try rw [b2]
     exact ⟨by kernel_rfl, by kernel_rfl, by kernel_rfl, trivial⟩
    ·try rw [b2]
     kernel_rfl
   ·refine XQ.skip (by kernel_rfl) ?_
    refine ⟨rfl, ?_, ?_⟩
    ·try rw [b2]
     exact ⟨by kernel_rfl, by kernel_rfl, by kernel_rfl, trivial⟩
    ·try rw [b2]
     kernel_rfl
  show XQ _ _ _ _ _ _ _ _
  refine XQ.seq E0_ok (by kernel_rfl) ?_
  refine XQ.seq E0_ok (by kernel_rfl) ?_
  refine XQ.region (by kernel_rfl) ?_
  refine XR.runS E0_ok 1 3 [(0, s0 0 a.length), (1, ii b), (5, ii (cond (!r2) 1 r1)), (19, .bool ((cond (!r2) 1 r1 : Int) == 0))] rfl (by kernel_rfl) ?_
  cases b3 : ((cond (!r2) 1 r1 : Int) == 0 : Bool) with
  | true =>
   have h := cT b3 h
   refine XR.runS E0_ok 1 2 [(5, ii (cond (!r2) 1 r1)), (19, .bool true), (20, s0 0 a.length), (21, ii b)] rfl (by kernel_rfl) ?_
   obtain ⟨r3, r3_h, h⟩ := bS h
   refine XR.call E0_ok [5, 19, 22] rfl (K := 67) (args := [s0 0 a.length, ii b]) (d := (some (path 12 22))) (by kernel_rfl) (KQ.call (KC.quiet E0_ok (args0 := [s0 0 a.length, ii b]) (h0 := [(0, rc (encI .i64) a (z0 + ((rowC (encI .i64) a).length + 1)) y0 1)]) (n := 1) (V := .bool r3) [0] (f67_ok m (z0 + ((rowC (encI .i64) a).length + 1)) y0 a b r3 r3_h) rfl (by rfl) (by decide) rfl (by kernel_rfl) ⟨⟨_, _, rfl, rfl, .inl ⟨rfl, rowC_scal (encI_ok .i64) _⟩⟩, trivial⟩) rfl) ?_
   rintro _ _ _ ⟨rfl, rfl, rfl⟩
   refine XR.conv (σ' := [(5, ii (cond (!r2) 1 r1)), (19, .bool true), (22, .bool r3)]) (h' := [(0, rc (encI .i64) a z0 y0 1)]) (c' := 1) ?_ (by kernel_rfl)
   refine XR.runS E0_ok 1 2 [(5, ii (cond (!r2) 1 r1)), (24, .bool (!r3))] rfl (by kernel_rfl) ?_
   refine XR.done (by kernel_rfl) ?_
   show XQ _ _ _ _ _ _ _ _
   refine XQ.meetC (σ' := [(5, ii (cond (!r3) 14 (cond (!r2) 1 r1)))]) (h' := [(0, rc (encI .i64) a z0 y0 1)]) (c' := 1) ?_ ?_
   rotate_left
   ·refine XQ.cond (s := (.tmp 24)) (b := !r3) (by kernel_rfl) (by kernel_rfl) (fun b4 => ?_) (fun b4 => ?_)
    ·refine XQ.region (by kernel_rfl) ?_
     refine XR.runS E0_ok 1 1 [(5, ii 14)] rfl (by kernel_rfl) ?_
     refine XR.done (by kernel_rfl) ?_
     refine ⟨rfl, ?_, ?_⟩
     ·try rw [b4]
      exact ⟨by kernel_rfl, trivial⟩
     ·try rw [b4]
      kernel_rfl
    ·refine XQ.skip (by kernel_rfl) ?_
     refine ⟨rfl, ?_, ?_⟩
     ·try rw [b4]
      exact ⟨by kernel_rfl, trivial⟩
     ·try rw [b4]
      kernel_rfl
   show XQ _ _ _ _ _ _ _ _
   refine XQ.seq E0_ok (by kernel_rfl) ?_
   refine XQ.region (by kernel_rfl) ?_
   refine XR.runS E0_ok 1 2 [(4, ii (cond (!r3) 14 (cond (!r2) 1 r1)))] rfl (by kernel_rfl) ?_
   refine XR.done (by kernel_rfl) ?_
   show XQ _ _ _ _ _ _ _ _
   refine XQ.ret (by kernel_rfl) ?_
   have h := Option.some.inj h
   subst h
   exact ⟨fun i q => (by cases q), ii (cond (!r3) 14 (cond (!r2) 1 r1)), (by kernel_rfl), rfl⟩
  | false =>
   have h := cF b3 h
   refine XR.runS E0_ok 1 5 [(5, ii (cond (!r2) 1 r1)), (24, .bool false)] rfl (by kernel_rfl) ?_
   refine XR.done (by kernel_rfl) ?_
   show XQ _ _ _ _ _ _ _ _
   refine XQ.cond (s := (.tmp 24)) (b := false) (by kernel_rfl) (by kernel_rfl) (fun q => by cases q) (fun _ => ?_)
   refine XQ.skip (by kernel_rfl) ?_
   show XQ _ _ _ _ _ _ _ _
   refine XQ.seq E0_ok (by kernel_rfl) ?_
   refine XQ.region (by kernel_rfl) ?_
   refine XR.runS E0_ok 1 2 [(4, ii (cond (!r2) 1 r1))] rfl (by kernel_rfl) ?_
   refine XR.done (by kernel_rfl) ?_
   show XQ _ _ _ _ _ _ _ _
   refine XQ.ret (by kernel_rfl) ?_
   have h := Option.some.inj h
   subst h
   exact ⟨fun i q => (by cases q), ii (cond (!r2) 1 r1), (by kernel_rfl), rfl⟩
 | false =>
  have h := cF b1 h
  refine XR.runS E0_ok 1 6 [(0, s0 0 a.length), (1, ii b), (5, ii r1), (16, .bool false)] rfl (by kernel_rfl) ?_
  refine XR.done (by kernel_rfl) ?_
  show XQ _ _ _ _ _ _ _ _
  refine XQ.cond (s := (.tmp 16)) (b := false) (by kernel_rfl) (by kernel_rfl) (fun q => by cases q) (fun _ => ?_)
  refine XQ.skip (by kernel_rfl) ?_
  show XQ _ _ _ _ _ _ _ _
  refine XQ.seq E0_ok (by kernel_rfl) ?_
  refine XQ.seq E0_ok (by kernel_rfl) ?_
  refine XQ.region (by kernel_rfl) ?_
  refine XR.runS E0_ok 1 3 [(0, s0 0 a.length), (1, ii b), (5, ii r1), (19, .bool (r1 == 0))] rfl (by kernel_rfl) ?_
  rw [b1]
  refine XR.runS E0_ok 1 5 [(5, ii r1), (24, .bool false)] rfl (by kernel_rfl) ?_
  refine XR.done (by kernel_rfl) ?_
  show XQ _ _ _ _ _ _ _ _
  refine XQ.cond (s := (.tmp 24)) (b := false) (by kernel_rfl) (by kernel_rfl) (fun q => by cases q) (fun _ => ?_)
  refine XQ.skip (by kernel_rfl) ?_
  show XQ _ _ _ _ _ _ _ _
  refine XQ.seq E0_ok (by kernel_rfl) ?_
  refine XQ.region (by kernel_rfl) ?_
  refine XR.runS E0_ok 1 2 [(4, ii r1)] rfl (by kernel_rfl) ?_
  refine XR.done (by kernel_rfl) ?_
  show XQ _ _ _ _ _ _ _ _
  refine XQ.ret (by kernel_rfl) ?_
  have h := Option.some.inj h
  subst h
  exact ⟨fun i q => (by cases q), ii r1, (by kernel_rfl), rfl⟩

end Go.Xm
