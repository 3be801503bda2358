/- What these functions of the program compute, as functions in Lean, and the proofs that they do: vitolatop.TopChance. Conditions: the library's variables hold what their texts lay. -/
import Derived.Test.YtcpagojealaigaaGreatDoorFe
namespace Go.Xm
open Go.RowKit
set_option linter.unusedVariables false
set_option linter.unusedSimpArgs false
set_option maxRecDepth 20000

/-! vitola/vitolatop.TopChance -/
noncomputable def f4_C4 : Code := Proofs.Tryz.f4.body.getD .skip
noncomputable def f4_L1 : Code := lft (lft (rgt (lft (rgt (rgt (rgt (rgt (rgt (rgt (rgt (rgt (rgt (rgt (rgt (rgt (rgt (rgt f4_C4)))))))))))))))))

def f4_1 (m : Nat) : Nat → Int → Int → Int → Int → Int → Int → Int → List Int → List Int → Option (Int × Int × Int × Int × Int × (List Int))
  | 0, _, _, _, _, _, _, _, _, _ => none
  | fuel + 1, x6_1, x7_1, x15_1, x17_1, x18_1, x117_1, x118_1, lh0_1, lh1_1 =>
    cond (decide (x118_1 < x117_1)) (
      cond (inRow x118_1 lh1_1.length) (
        f4_1 m fuel x6_1 x7_1 x15_1 x17_1 (w64 (x18_1 + (List.getD lh1_1 (Int.toNat x118_1) 0))) x117_1 (w64 (x118_1 + 1)) lh0_1 lh1_1
      ) none
    ) (
      some (x6_1, x7_1, x15_1, x17_1, x18_1, lh0_1)
    )

theorem f4_1_ok (m : Nat) : ∀ (fuel : Nat) (x6_1 : Int) (x7_1 : Int) (x15_1 : Int) (x17_1 : Int) (x18_1 : Int) (x117_1 : Int) (x118_1 : Int) (lh0_1 : List Int) (lh1_1 : List Int) (o : (Int × Int × Int × Int × Int × (List Int))), f4_1 m fuel x6_1 x7_1 x15_1 x17_1 x18_1 x117_1 x118_1 lh0_1 lh1_1 = some o → ∀ Q : QP, Q (.exit 0) [(6, ii o.1), (7, ii o.2.1), (11, s0 0 o.2.2.2.2.2.length), (15, ii o.2.2.1), (17, ii o.2.2.2.1), (18, ii o.2.2.2.2.1)] [(0, rc (encI .i64) o.2.2.2.2.2 0 3 1)] 1 → XL Ep 146 0 fuel f4_L1 [(6, ii x6_1), (7, ii x7_1), (11, s0 0 lh0_1.length), (15, ii x15_1), (17, ii x17_1), (18, ii x18_1), (116, s0 1 lh1_1.length), (117, ii x117_1), (118, ii x118_1)] [(1, rc (encI .i64) lh1_1 0 3 1), (0, rc (encI .i64) lh0_1 0 3 1)] 2 Q
  | 0, x6_1, x7_1, x15_1, x17_1, x18_1, x117_1, x118_1, lh0_1, lh1_1, o, h, Q, hQ => by cases h
  | fuel + 1, x6_1, x7_1, x15_1, x17_1, x18_1, x117_1, x118_1, lh0_1, lh1_1, o, h, Q, hQ => by
    unfold f4_1 at h
    refine XL.succ Ep_ok ?_
    refine XQ.seq Ep_ok (by kernel_rfl) ?_
    refine XQ.region (by kernel_rfl) ?_
    refine XR.runS Ep_ok 1 1 [(6, ii x6_1), (7, ii x7_1), (11, s0 0 lh0_1.length), (15, ii x15_1), (17, ii x17_1), (18, ii x18_1), (116, s0 1 lh1_1.length), (117, ii x117_1), (118, ii x118_1), (119, .bool (decide (x118_1 < x117_1)))] rfl (by kernel_rfl) ?_
    refine XR.done (by kernel_rfl) ?_
    show XQ _ _ _ _ _ _ _ _
    refine XQ.seq Ep_ok (by kernel_rfl) ?_
    cases b1 : (decide (x118_1 < x117_1) : Bool) with
    | true =>
      have h := cT b1 h
      refine XQ.cond (s := (.tmp 119)) (b := true) (by kernel_rfl) (by kernel_rfl) (fun _ => ?_) (fun q => by cases q)
      refine XQ.skip (by kernel_rfl) ?_
      show XQ _ _ _ _ _ _ _ _
      refine XQ.seq Ep_ok (by kernel_rfl) ?_
      refine XQ.block (id := 1) (by kernel_rfl) ?_
      refine XQ.seq Ep_ok (by kernel_rfl) ?_
      refine XQ.region (by kernel_rfl) ?_
      cases b2 : (inRow x118_1 lh1_1.length : Bool) with
      | false => cases (cF b2 h)
      | true =>
        have h := cT b2 h
        refine XR.rd Ep_ok [6, 7, 11, 15, 17, 18, 116, 117, 118, 120] rfl (v := pp 1 ((Int.toNat x118_1) * 1)) (v_idx (s := 1) (x := (src 146 (.tmp 116))) (y := (src 146 (.tmp 118))) (b := 1) (o := 0) (len := lh1_1.length) (cap := lh1_1.length) (ik := .i64) (i := x118_1) (off := (Int.toNat x118_1) * 1) (d := (some (path 12 120))) (by kernel_rfl) (by kernel_rfl) (by kernel_rfl) b2 (by omega)) (σ' := [(6, ii x6_1), (7, ii x7_1), (11, s0 0 lh0_1.length), (15, ii x15_1), (17, ii x17_1), (18, ii x18_1), (116, s0 1 lh1_1.length), (117, ii x117_1), (118, ii x118_1), (120, pp 1 ((Int.toNat x118_1) * 1))]) (by kernel_rfl) ?_
        refine XR.rd Ep_ok [6, 7, 11, 15, 17, 18, 116, 117, 118, 121] rfl (v := ii (List.getD lh1_1 (Int.toNat x118_1) 0)) (v_load1 (encI_ok .i64) (x := (src 146 (.tmp 120))) (b := 1) (off := (Int.toNat x118_1) * 1) (xs := lh1_1) (fz := 0) (e := 3) (es := 1) (d := (some (path 12 121))) (by kernel_rfl) (by kernel_rfl) (by kernel_rfl) (Int.toNat x118_1) 0 0 (by first | with_reducible rfl | omega | rfl) (row_len (inRow_toNat b2) (by simp)) rfl rfl) (σ' := [(6, ii x6_1), (7, ii x7_1), (11, s0 0 lh0_1.length), (15, ii x15_1), (17, ii x17_1), (18, ii x18_1), (116, s0 1 lh1_1.length), (117, ii x117_1), (118, ii x118_1), (121, ii (List.getD lh1_1 (Int.toNat x118_1) 0))]) (by kernel_rfl) ?_
        refine XR.runS Ep_ok 1 1 [(6, ii x6_1), (7, ii x7_1), (11, s0 0 lh0_1.length), (15, ii x15_1), (17, ii x17_1), (18, ii x18_1), (20, ii (List.getD lh1_1 (Int.toNat x118_1) 0)), (116, s0 1 lh1_1.length), (117, ii x117_1), (118, ii x118_1)] rfl (by kernel_rfl) ?_
        refine XR.done (by kernel_rfl) ?_
        show XQ _ _ _ _ _ _ _ _
        refine XQ.region (by kernel_rfl) ?_
        refine XR.runS Ep_ok 1 4 [(6, ii x6_1), (7, ii x7_1), (11, s0 0 lh0_1.length), (15, ii x15_1), (17, ii x17_1), (18, ii (w64 (x18_1 + (List.getD lh1_1 (Int.toNat x118_1) 0)))), (116, s0 1 lh1_1.length), (117, ii x117_1), (118, ii x118_1)] rfl (by kernel_rfl) ?_
        refine XR.done (by kernel_rfl) ?_
        show XQ _ _ _ _ _ _ _ _
        refine XQ.region (by kernel_rfl) ?_
        refine XR.runS Ep_ok 1 2 [(6, ii x6_1), (7, ii x7_1), (11, s0 0 lh0_1.length), (15, ii x15_1), (17, ii x17_1), (18, ii (w64 (x18_1 + (List.getD lh1_1 (Int.toNat x118_1) 0)))), (116, s0 1 lh1_1.length), (117, ii x117_1), (118, ii (w64 (x118_1 + 1)))] rfl (by kernel_rfl) ?_
        refine XR.done (by kernel_rfl) ?_
        show XL _ _ _ _ _ _ _ _ _
        refine XL.ren (σ' := [(6, ii x6_1), (7, ii x7_1), (11, s0 0 lh0_1.length), (15, ii x15_1), (17, ii x17_1), (18, ii (w64 (x18_1 + (List.getD lh1_1 (Int.toNat x118_1) 0)))), (116, s0 1 lh1_1.length), (117, ii x117_1), (118, ii (w64 (x118_1 + 1)))]) (h' := [(1, rc (encI .i64) lh1_1 0 3 1), (0, rc (encI .i64) lh0_1 0 3 1)]) (c' := 2) [0, 1] (by decide) rfl ⟨by kernel_rfl, by kernel_rfl, by kernel_rfl, by kernel_rfl, by kernel_rfl, by kernel_rfl, by kernel_rfl, by kernel_rfl, by kernel_rfl, trivial⟩ ⟨⟨_, _, rfl, rfl, .inl ⟨rfl, rowC_scal (encI_ok .i64) _⟩⟩, ⟨_, _, rfl, rfl, .inl ⟨rfl, rowC_scal (encI_ok .i64) _⟩⟩, trivial⟩ rfl ?_
        refine XL.conv (f4_1_ok m fuel x6_1 x7_1 x15_1 x17_1 (w64 (x18_1 + (List.getD lh1_1 (Int.toNat x118_1) 0))) x117_1 (w64 (x118_1 + 1)) lh0_1 lh1_1 o h Q hQ) (by first | with_reducible rfl | simp | rfl)
    | false =>
      have h := cF b1 h
      refine XQ.cond (s := (.tmp 119)) (b := false) (by kernel_rfl) (by kernel_rfl) (fun q => by cases q) (fun _ => ?_)
      refine XQ.ren (σ' := [(6, ii x6_1), (7, ii x7_1), (11, s0 0 lh0_1.length), (15, ii x15_1), (17, ii x17_1), (18, ii x18_1)]) (h' := [(0, rc (encI .i64) lh0_1 0 3 1)]) (c' := 1) [0] (by decide) rfl ⟨by kernel_rfl, by kernel_rfl, by kernel_rfl, by kernel_rfl, by kernel_rfl, by kernel_rfl, trivial⟩ ⟨⟨_, _, rfl, rfl, .inl ⟨rfl, rowC_scal (encI_ok .i64) _⟩⟩, trivial⟩ rfl ?_
      refine XQ.exit (i := 0) (by kernel_rfl) ?_
      cases h
      exact hQ

def f4 (m : Nat) (a : Bool) (b : Int) : Option (Bool) :=
  (f12 m (cond (a) 3 2) (cond (a) 3 2)).bind fun r1 =>
    cond (r1.2 != 0) (
      some (false)
    ) (
      cond (decide (r1.1 < 1)) (
        some (false)
      ) (
        cond (decide (r1.1 ≥ (cond (a) 27 4))) (
          some (false)
        ) (
          (f5 m r1.1 (cond (a) 27 4)).bind fun r2 =>
            (f13 m r1.1 (cond (a) 27 4)).bind fun r3 =>
              cond (r2.2.2 != 0) (
                some (false)
              ) (
                cond (r3.2 != 0) (
                  some (false)
                ) (
                  cond ((w64 (r2.1 * (cond (a) 27 4)) : Int) != (w64 (r2.2.1 * r1.1))) (
                    some (false)
                  ) (
                    (f14 m r3.1).bind fun r4 =>
                      cond (r4 != 0) (
                        some (false)
                      ) (
                        (f15 m r3.1).bind fun r5 =>
                          (f16 m (Int.tmod (w64 b) 100001) r3.1).bind fun r6 =>
                            cond (r5.2.2 != 0) (
                              some (false)
                            ) (
                              cond (r6.2.2 != 0) (
                                some (false)
                              ) (
                                cond (r5.1 != r2.1) (
                                  some (false)
                                ) (
                                  cond (r5.2.1 != r2.2.1) (
                                    some (false)
                                  ) (
                                    cond (((r6.1.length : Nat) : Int) != ((r3.1.length : Nat) : Int)) (
                                      some (false)
                                    ) (
                                      (f4_1 m m (cond (a) 27 4) r1.1 (Int.tmod (w64 b) 100001) r6.2.1 r6.2.1 ((r6.1.length : Nat) : Int) 0 r3.1 r6.1).bind fun o1 =>
                                        cond (o1.1 != 0) (
                                          cond (o1.2.2.2.2.1 == (w64 (Int.tdiv (w64 (o1.2.2.1 * o1.2.1)) o1.1))) (
                                            cond (decide (o1.2.2.2.1 ≥ 0)) (
                                              cond (decide (o1.2.2.2.1 < ((o1.2.2.2.2.2.length : Nat) : Int))) (
                                                some (true)
                                              ) (
                                                some (false)
                                              )
                                            ) (
                                              some (false)
                                            )
                                          ) (
                                            some (false)
                                          )
                                        ) none
                                    )
                                  )
                                )
                              )
                            )
                      )
                  )
                )
              )
        )
      )
    )

theorem f4_ok (m : Nat) (a : Bool) (b : Int) (o : Bool) (h : f4 m a b = some o) (w : World) (hI : seatInv w) : Calls Proofs.Tryz.prog 4 #[.bool a, .int .u32 b] w fun e w' => e = .returned (.bool o) ∧ Below w.heap.size w w' := by
  refine KC.calls (E := Ep) (args := [.bool a, .int .u32 b]) (v := .bool o) rfl rfl (KC.bodyN Ep_ok (F := Proofs.Tryz.f4) (by kernel_rfl) (code := f4_C4) (by kernel_rfl) (nt := 146) (by kernel_rfl) (rs := [.tmp 4]) (by kernel_rfl) (by kernel_rfl) (σ := [(0, .bool a), (1, .int .u32 b)]) (by kernel_rfl) ?_) w (seatInv_size hI) hI
  unfold f4 at h
  refine XQ.seq Ep_ok (by kernel_rfl) ?_
  refine XQ.region (by kernel_rfl) ?_
  refine XR.runS Ep_ok 1 1 [(0, .bool a), (1, .int .u32 b)] rfl (by kernel_rfl) ?_
  refine XR.done (by kernel_rfl) ?_
  show XQ _ _ _ _ _ _ _ _
  refine XQ.seq Ep_ok (by kernel_rfl) ?_
  refine XQ.region (by kernel_rfl) ?_
  refine XR.runS Ep_ok 1 2 [(0, .bool a), (1, .int .u32 b), (5, ii 2), (6, ii 4)] rfl (by kernel_rfl) ?_
  refine XR.done (by kernel_rfl) ?_
  show XQ _ _ _ _ _ _ _ _
  refine XQ.seq Ep_ok (by kernel_rfl) ?_
  refine XQ.seq Ep_ok (by kernel_rfl) ?_
  refine XQ.region (by kernel_rfl) ?_
  refine XR.runS Ep_ok 1 1 [(1, .int .u32 b), (5, ii 2), (6, ii 4), (21, .bool a)] rfl (by kernel_rfl) ?_
  refine XR.done (by kernel_rfl) ?_
  show XQ _ _ _ _ _ _ _ _
  refine XQ.meetC (σ' := [(1, .int .u32 b), (5, ii (cond (a) 3 2)), (6, ii (cond (a) 27 4))]) (h' := []) (c' := 0) ?_ ?_
  rotate_left
  · refine XQ.cond (s := (.tmp 21)) (b := a) (by kernel_rfl) (by kernel_rfl) (fun b1 => ?_) (fun b1 => ?_)
    · refine XQ.region (by kernel_rfl) ?_
      refine XR.runS Ep_ok 1 2 [(1, .int .u32 b), (5, ii 3), (6, ii 27)] rfl (by kernel_rfl) ?_
      refine XR.done (by kernel_rfl) ?_
      refine ⟨rfl, ?_, ?_⟩
      · try rw [b1]
        exact ⟨by kernel_rfl, by kernel_rfl, by kernel_rfl, trivial⟩
      · try rw [b1]
        kernel_rfl
    · refine XQ.skip (by kernel_rfl) ?_
      refine ⟨rfl, ?_, ?_⟩
      · try rw [b1]
        exact ⟨by kernel_rfl, by kernel_rfl, by kernel_rfl, trivial⟩
      · try rw [b1]
        kernel_rfl
  show XQ _ _ _ _ _ _ _ _
  refine XQ.seq Ep_ok (by kernel_rfl) ?_
  refine XQ.region (by kernel_rfl) ?_
  refine XR.runS Ep_ok 1 2 [(1, .int .u32 b), (6, ii (cond (a) 27 4)), (23, ii (cond (a) 3 2)), (24, ii (cond (a) 3 2))] rfl (by kernel_rfl) ?_
  obtain ⟨r1, r1_h, h⟩ := bS h
  refine XR.call Ep_ok [1, 6, 25] rfl (K := 12) (args := [ii (cond (a) 3 2), ii (cond (a) 3 2)]) (d := (some (path 12 25))) (by kernel_rfl) (KC.of_calls Ep_ok (F := Proofs.Tryz.f12) (v := .tuple #[ii r1.1, ii r1.2]) (by kernel_rfl) rfl rfl (fun w hI => f12_ok m (cond (a) 3 2) (cond (a) 3 2) r1 r1_h w hI)) ?_
  rintro _ _ _ ⟨rfl, rfl, rfl⟩
  refine XR.conv (σ' := [(1, .int .u32 b), (6, ii (cond (a) 27 4)), (25, .tuple #[ii r1.1, ii r1.2])]) (h' := []) (c' := 0) ?_ (by kernel_rfl)
  refine XR.runS Ep_ok 1 5 [(1, .int .u32 b), (6, ii (cond (a) 27 4)), (7, ii r1.1), (8, ii r1.2)] rfl (by kernel_rfl) ?_
  refine XR.done (by kernel_rfl) ?_
  show XQ _ _ _ _ _ _ _ _
  refine XQ.seq Ep_ok (by kernel_rfl) ?_
  refine XQ.seq Ep_ok (by kernel_rfl) ?_
  refine XQ.region (by kernel_rfl) ?_
  refine XR.runS Ep_ok 1 3 [(1, .int .u32 b), (6, ii (cond (a) 27 4)), (7, ii r1.1), (30, .bool (r1.2 != 0))] rfl (by kernel_rfl) ?_
  cases b2 : (r1.2 != 0 : Bool) with
  | true =>
    have h := cT b2 h
    refine XR.runS Ep_ok 1 8 [(1, .int .u32 b), (6, ii (cond (a) 27 4)), (7, ii r1.1), (38, .bool true)] rfl (by kernel_rfl) ?_
    refine XR.done (by kernel_rfl) ?_
    show XQ _ _ _ _ _ _ _ _
    refine XQ.cond (s := (.tmp 38)) (b := true) (by kernel_rfl) (by kernel_rfl) (fun _ => ?_) (fun q => by cases q)
    refine XQ.seq Ep_ok (by kernel_rfl) ?_
    refine XQ.region (by kernel_rfl) ?_
    refine XR.runS Ep_ok 1 1 [(4, .bool false)] rfl (by kernel_rfl) ?_
    refine XR.done (by kernel_rfl) ?_
    show XQ _ _ _ _ _ _ _ _
    refine XQ.ret (by kernel_rfl) ?_
    have h := Option.some.inj h
    subst h
    exact ⟨fun i q => (by cases q), .bool false, (by kernel_rfl), rfl⟩
  | false =>
    have h := cF b2 h
    refine XR.runS Ep_ok 1 4 [(1, .int .u32 b), (6, ii (cond (a) 27 4)), (7, ii r1.1), (34, .bool (decide (r1.1 < 1)))] rfl (by kernel_rfl) ?_
    cases b3 : (decide (r1.1 < 1) : Bool) with
    | true =>
      have h := cT b3 h
      refine XR.runS Ep_ok 1 4 [(1, .int .u32 b), (6, ii (cond (a) 27 4)), (7, ii r1.1), (38, .bool true)] rfl (by kernel_rfl) ?_
      refine XR.done (by kernel_rfl) ?_
      show XQ _ _ _ _ _ _ _ _
      refine XQ.cond (s := (.tmp 38)) (b := true) (by kernel_rfl) (by kernel_rfl) (fun _ => ?_) (fun q => by cases q)
      refine XQ.seq Ep_ok (by kernel_rfl) ?_
      refine XQ.region (by kernel_rfl) ?_
      refine XR.runS Ep_ok 1 1 [(4, .bool false)] rfl (by kernel_rfl) ?_
      refine XR.done (by kernel_rfl) ?_
      show XQ _ _ _ _ _ _ _ _
      refine XQ.ret (by kernel_rfl) ?_
      have h := Option.some.inj h
      subst h
      exact ⟨fun i q => (by cases q), .bool false, (by kernel_rfl), rfl⟩
    | false =>
      have h := cF b3 h
      refine XR.runS Ep_ok 1 4 [(1, .int .u32 b), (6, ii (cond (a) 27 4)), (7, ii r1.1), (38, .bool (decide (r1.1 ≥ (cond (a) 27 4))))] rfl (by kernel_rfl) ?_
      refine XR.done (by kernel_rfl) ?_
      show XQ _ _ _ _ _ _ _ _
      cases b4 : (decide (r1.1 ≥ (cond (a) 27 4)) : Bool) with
      | true =>
        have h := cT b4 h
        refine XQ.cond (s := (.tmp 38)) (b := true) (by kernel_rfl) (by kernel_rfl) (fun _ => ?_) (fun q => by cases q)
        refine XQ.seq Ep_ok (by kernel_rfl) ?_
        refine XQ.region (by kernel_rfl) ?_
        refine XR.runS Ep_ok 1 1 [(4, .bool false)] rfl (by kernel_rfl) ?_
        refine XR.done (by kernel_rfl) ?_
        show XQ _ _ _ _ _ _ _ _
        refine XQ.ret (by kernel_rfl) ?_
        have h := Option.some.inj h
        subst h
        exact ⟨fun i q => (by cases q), .bool false, (by kernel_rfl), rfl⟩
      | false =>
        have h := cF b4 h
        refine XQ.cond (s := (.tmp 38)) (b := false) (by kernel_rfl) (by kernel_rfl) (fun q => by cases q) (fun _ => ?_)
        refine XQ.skip (by kernel_rfl) ?_
        show XQ _ _ _ _ _ _ _ _
        refine XQ.seq Ep_ok (by kernel_rfl) ?_
        refine XQ.region (by kernel_rfl) ?_
        refine XR.runT Ep_ok 1 5 [(1, .int .u32 b), (6, ii (cond (a) 27 4)), (7, ii r1.1), (9, pp 0 0)] [(0, .cells [ii r1.1, ii (cond (a) 27 4)] 0 23 0)] 1 rfl (by kernel_rfl) ?_
        refine XR.done (by kernel_rfl) ?_
        show XQ _ _ _ _ _ _ _ _
        refine XQ.seq Ep_ok (by kernel_rfl) ?_
        refine XQ.region (by kernel_rfl) ?_
        refine XR.runS Ep_ok 1 1 [(1, .int .u32 b), (6, ii (cond (a) 27 4)), (7, ii r1.1), (9, pp 0 0), (43, .agg #[ii r1.1, ii (cond (a) 27 4)])] rfl (by kernel_rfl) ?_
        obtain ⟨r2, r2_h, h⟩ := bS h
        refine XR.call Ep_ok [1, 6, 7, 9, 44] rfl (K := 5) (args := [.agg #[ii r1.1, ii (cond (a) 27 4)]]) (d := (some (path 12 44))) (by kernel_rfl) (KC.of_calls Ep_ok (F := Proofs.Tryz.f5) (v := .tuple #[.agg #[ii r2.1, ii r2.2.1], ii r2.2.2]) (by kernel_rfl) rfl rfl (fun w hI => f5_ok m r1.1 (cond (a) 27 4) r2 r2_h w hI)) ?_
        rintro _ _ _ ⟨rfl, rfl, rfl⟩
        refine XR.conv (σ' := [(1, .int .u32 b), (6, ii (cond (a) 27 4)), (7, ii r1.1), (9, pp 0 0), (44, .tuple #[.agg #[ii r2.1, ii r2.2.1], ii r2.2.2])]) (h' := [(0, .cells [ii r1.1, ii (cond (a) 27 4)] 0 23 0)]) (c' := 1) ?_ (by kernel_rfl)
        refine XR.runT Ep_ok 1 6 [(1, .int .u32 b), (6, ii (cond (a) 27 4)), (7, ii r1.1), (8, ii r2.2.2), (9, pp 0 0), (10, pp 1 0)] [(1, .cells [ii r2.1, ii r2.2.1] 0 23 0), (0, .cells [ii r1.1, ii (cond (a) 27 4)] 0 23 0)] 2 rfl (by kernel_rfl) ?_
        refine XR.done (by kernel_rfl) ?_
        show XQ _ _ _ _ _ _ _ _
        refine XQ.seq Ep_ok (by kernel_rfl) ?_
        refine XQ.region (by kernel_rfl) ?_
        refine XR.runS Ep_ok 1 1 [(1, .int .u32 b), (6, ii (cond (a) 27 4)), (7, ii r1.1), (8, ii r2.2.2), (10, pp 1 0), (48, .agg #[ii r1.1, ii (cond (a) 27 4)])] rfl (by kernel_rfl) ?_
        obtain ⟨r3, r3_h, h⟩ := bS h
        refine XR.call Ep_ok [1, 6, 7, 8, 10, 49] rfl (K := 13) (args := [.agg #[ii r1.1, ii (cond (a) 27 4)]]) (d := (some (path 12 49))) (by kernel_rfl) (KC.lift (V2 := .tuple #[s0 2 r3.1.length, ii r3.2]) (H2 := [(2, rc (encI .i64) r3.1 0 3 1)]) [1, 2, 0] (f13_ok m r1.1 (cond (a) 27 4) r3 r3_h) rfl (by decide) (by decide) (by kernel_rfl) ⟨⟨_, _, rfl, rfl, .inl ⟨rfl, rowC_scal (encI_ok .i64) _⟩⟩, trivial⟩ (by rfl)) ?_
        rintro _ _ _ ⟨rfl, rfl, rfl⟩
        refine XR.conv (σ' := [(1, .int .u32 b), (6, ii (cond (a) 27 4)), (7, ii r1.1), (8, ii r2.2.2), (10, pp 1 0), (49, .tuple #[s0 2 r3.1.length, ii r3.2])]) (h' := [(2, rc (encI .i64) r3.1 0 3 1), (1, .cells [ii r2.1, ii r2.2.1] 0 23 0), (0, .cells [ii r1.1, ii (cond (a) 27 4)] 0 23 0)]) (c' := 3) ?_ (by kernel_rfl)
        refine XR.runS Ep_ok 1 5 [(1, .int .u32 b), (6, ii (cond (a) 27 4)), (7, ii r1.1), (8, ii r2.2.2), (10, pp 1 0), (11, s0 2 r3.1.length), (12, ii r3.2)] rfl (by kernel_rfl) ?_
        refine XR.done (by kernel_rfl) ?_
        show XQ _ _ _ _ _ _ _ _
        refine XQ.seq Ep_ok (by kernel_rfl) ?_
        refine XQ.seq Ep_ok (by kernel_rfl) ?_
        refine XQ.region (by kernel_rfl) ?_
        refine XR.runS Ep_ok 1 3 [(1, .int .u32 b), (6, ii (cond (a) 27 4)), (7, ii r1.1), (10, pp 1 0), (11, s0 2 r3.1.length), (12, ii r3.2), (54, .bool (r2.2.2 != 0))] rfl (by kernel_rfl) ?_
        cases b5 : (r2.2.2 != 0 : Bool) with
        | true =>
          have h := cT b5 h
          refine XR.runS Ep_ok 1 19 [(1, .int .u32 b), (6, ii (cond (a) 27 4)), (7, ii r1.1), (10, pp 1 0), (11, s0 2 r3.1.length), (73, .bool true)] rfl (by kernel_rfl) ?_
          refine XR.done (by kernel_rfl) ?_
          show XQ _ _ _ _ _ _ _ _
          refine XQ.cond (s := (.tmp 73)) (b := true) (by kernel_rfl) (by kernel_rfl) (fun _ => ?_) (fun q => by cases q)
          refine XQ.seq Ep_ok (by kernel_rfl) ?_
          refine XQ.region (by kernel_rfl) ?_
          refine XR.runS Ep_ok 1 1 [(4, .bool false)] rfl (by kernel_rfl) ?_
          refine XR.done (by kernel_rfl) ?_
          show XQ _ _ _ _ _ _ _ _
          refine XQ.ret (by kernel_rfl) ?_
          have h := Option.some.inj h
          subst h
          exact ⟨fun i q => (by cases q), .bool false, (by kernel_rfl), rfl⟩
        | false =>
          have h := cF b5 h
          refine XR.runS Ep_ok 1 4 [(1, .int .u32 b), (6, ii (cond (a) 27 4)), (7, ii r1.1), (10, pp 1 0), (11, s0 2 r3.1.length), (58, .bool (r3.2 != 0))] rfl (by kernel_rfl) ?_
          cases b6 : (r3.2 != 0 : Bool) with
          | true =>
            have h := cT b6 h
            refine XR.runS Ep_ok 1 15 [(1, .int .u32 b), (6, ii (cond (a) 27 4)), (7, ii r1.1), (10, pp 1 0), (11, s0 2 r3.1.length), (73, .bool true)] rfl (by kernel_rfl) ?_
            refine XR.done (by kernel_rfl) ?_
            show XQ _ _ _ _ _ _ _ _
            refine XQ.cond (s := (.tmp 73)) (b := true) (by kernel_rfl) (by kernel_rfl) (fun _ => ?_) (fun q => by cases q)
            refine XQ.seq Ep_ok (by kernel_rfl) ?_
            refine XQ.region (by kernel_rfl) ?_
            refine XR.runS Ep_ok 1 1 [(4, .bool false)] rfl (by kernel_rfl) ?_
            refine XR.done (by kernel_rfl) ?_
            show XQ _ _ _ _ _ _ _ _
            refine XQ.ret (by kernel_rfl) ?_
            have h := Option.some.inj h
            subst h
            exact ⟨fun i q => (by cases q), .bool false, (by kernel_rfl), rfl⟩
          | false =>
            have h := cF b6 h
            refine XR.runS Ep_ok 1 11 [(1, .int .u32 b), (6, ii (cond (a) 27 4)), (7, ii r1.1), (10, pp 1 0), (11, s0 2 r3.1.length), (69, .bool ((w64 (r2.1 * (cond (a) 27 4)) : Int) != (w64 (r2.2.1 * r1.1))))] rfl (by kernel_rfl) ?_
            cases b7 : ((w64 (r2.1 * (cond (a) 27 4)) : Int) != (w64 (r2.2.1 * r1.1)) : Bool) with
            | true =>
              have h := cT b7 h
              refine XR.runS Ep_ok 1 4 [(1, .int .u32 b), (6, ii (cond (a) 27 4)), (7, ii r1.1), (10, pp 1 0), (11, s0 2 r3.1.length), (73, .bool true)] rfl (by kernel_rfl) ?_
              refine XR.done (by kernel_rfl) ?_
              show XQ _ _ _ _ _ _ _ _
              refine XQ.cond (s := (.tmp 73)) (b := true) (by kernel_rfl) (by kernel_rfl) (fun _ => ?_) (fun q => by cases q)
              refine XQ.seq Ep_ok (by kernel_rfl) ?_
              refine XQ.region (by kernel_rfl) ?_
              refine XR.runS Ep_ok 1 1 [(4, .bool false)] rfl (by kernel_rfl) ?_
              refine XR.done (by kernel_rfl) ?_
              show XQ _ _ _ _ _ _ _ _
              refine XQ.ret (by kernel_rfl) ?_
              have h := Option.some.inj h
              subst h
              exact ⟨fun i q => (by cases q), .bool false, (by kernel_rfl), rfl⟩
            | false =>
              have h := cF b7 h
              refine XR.runS Ep_ok 1 1 [(1, .int .u32 b), (6, ii (cond (a) 27 4)), (7, ii r1.1), (10, pp 1 0), (11, s0 2 r3.1.length), (69, .bool false), (70, s0 2 r3.1.length)] rfl (by kernel_rfl) ?_
              obtain ⟨r4, r4_h, h⟩ := bS h
              refine XR.call Ep_ok [1, 6, 7, 10, 11, 69, 71] rfl (K := 14) (args := [s0 2 r3.1.length]) (d := (some (path 12 71))) (by kernel_rfl) (KQ.call (KC.quiet Ep_ok (args0 := [s0 0 r3.1.length]) (h0 := [(0, rc (encI .i64) r3.1 (0 + ((rowC (encI .i64) r3.1).length + 1)) 3 1)]) (n := 1) (V := ii r4) [2] (f14_ok m (0 + ((rowC (encI .i64) r3.1).length + 1)) 3 r3.1 r4 r4_h) rfl (by rfl) (by decide) rfl (by kernel_rfl) ⟨⟨_, _, rfl, rfl, .inl ⟨rfl, rowC_scal (encI_ok .i64) _⟩⟩, trivial⟩) rfl) ?_
              rintro _ _ _ ⟨rfl, rfl, rfl⟩
              refine XR.conv (σ' := [(1, .int .u32 b), (6, ii (cond (a) 27 4)), (7, ii r1.1), (10, pp 1 0), (11, s0 2 r3.1.length), (69, .bool false), (71, ii r4)]) (h' := [(2, rc (encI .i64) r3.1 0 3 1), (1, .cells [ii r2.1, ii r2.2.1] 0 23 0), (0, .cells [ii r1.1, ii (cond (a) 27 4)] 0 23 0)]) (c' := 3) ?_ (by kernel_rfl)
              refine XR.runS Ep_ok 1 2 [(1, .int .u32 b), (6, ii (cond (a) 27 4)), (7, ii r1.1), (10, pp 1 0), (11, s0 2 r3.1.length), (73, .bool (r4 != 0))] rfl (by kernel_rfl) ?_
              refine XR.done (by kernel_rfl) ?_
              show XQ _ _ _ _ _ _ _ _
              cases b8 : (r4 != 0 : Bool) with
              | true =>
                have h := cT b8 h
                refine XQ.cond (s := (.tmp 73)) (b := true) (by kernel_rfl) (by kernel_rfl) (fun _ => ?_) (fun q => by cases q)
                refine XQ.seq Ep_ok (by kernel_rfl) ?_
                refine XQ.region (by kernel_rfl) ?_
                refine XR.runS Ep_ok 1 1 [(4, .bool false)] rfl (by kernel_rfl) ?_
                refine XR.done (by kernel_rfl) ?_
                show XQ _ _ _ _ _ _ _ _
                refine XQ.ret (by kernel_rfl) ?_
                have h := Option.some.inj h
                subst h
                exact ⟨fun i q => (by cases q), .bool false, (by kernel_rfl), rfl⟩
              | false =>
                have h := cF b8 h
                refine XQ.cond (s := (.tmp 73)) (b := false) (by kernel_rfl) (by kernel_rfl) (fun q => by cases q) (fun _ => ?_)
                refine XQ.skip (by kernel_rfl) ?_
                show XQ _ _ _ _ _ _ _ _
                refine XQ.seq Ep_ok (by kernel_rfl) ?_
                refine XQ.region (by kernel_rfl) ?_
                refine XR.runS Ep_ok 1 1 [(1, .int .u32 b), (6, ii (cond (a) 27 4)), (7, ii r1.1), (10, pp 1 0), (11, s0 2 r3.1.length), (75, s0 2 r3.1.length)] rfl (by kernel_rfl) ?_
                obtain ⟨r5, r5_h, h⟩ := bS h
                refine XR.call Ep_ok [1, 6, 7, 10, 11, 76] rfl (K := 15) (args := [s0 2 r3.1.length]) (d := (some (path 12 76))) (by kernel_rfl) (KQ.call (KC.quiet Ep_ok (args0 := [s0 0 r3.1.length]) (h0 := [(0, rc (encI .i64) r3.1 (0 + ((rowC (encI .i64) r3.1).length + 1)) 3 1)]) (n := 1) (V := .tuple #[ii r5.1, ii r5.2.1, ii r5.2.2]) [2] (f15_ok m (0 + ((rowC (encI .i64) r3.1).length + 1)) 3 r3.1 r5 r5_h) rfl (by rfl) (by decide) rfl (by kernel_rfl) ⟨⟨_, _, rfl, rfl, .inl ⟨rfl, rowC_scal (encI_ok .i64) _⟩⟩, trivial⟩) rfl) ?_
                rintro _ _ _ ⟨rfl, rfl, rfl⟩
                refine XR.conv (σ' := [(1, .int .u32 b), (6, ii (cond (a) 27 4)), (7, ii r1.1), (10, pp 1 0), (11, s0 2 r3.1.length), (76, .tuple #[ii r5.1, ii r5.2.1, ii r5.2.2])]) (h' := [(2, rc (encI .i64) r3.1 0 3 1), (1, .cells [ii r2.1, ii r2.2.1] 0 23 0), (0, .cells [ii r1.1, ii (cond (a) 27 4)] 0 23 0)]) (c' := 3) ?_ (by kernel_rfl)
                refine XR.runS Ep_ok 1 7 [(1, .int .u32 b), (6, ii (cond (a) 27 4)), (7, ii r1.1), (8, ii r5.2.2), (10, pp 1 0), (11, s0 2 r3.1.length), (13, ii r5.1), (14, ii r5.2.1)] rfl (by kernel_rfl) ?_
                refine XR.done (by kernel_rfl) ?_
                show XQ _ _ _ _ _ _ _ _
                refine XQ.seq Ep_ok (by kernel_rfl) ?_
                refine XQ.region (by kernel_rfl) ?_
                refine XR.runS Ep_ok 1 4 [(6, ii (cond (a) 27 4)), (7, ii r1.1), (8, ii r5.2.2), (10, pp 1 0), (11, s0 2 r3.1.length), (13, ii r5.1), (14, ii r5.2.1), (15, ii (Int.tmod (w64 b) 100001))] rfl (by kernel_rfl) ?_
                refine XR.done (by kernel_rfl) ?_
                show XQ _ _ _ _ _ _ _ _
                refine XQ.seq Ep_ok (by kernel_rfl) ?_
                refine XQ.region (by kernel_rfl) ?_
                refine XR.runS Ep_ok 1 2 [(6, ii (cond (a) 27 4)), (7, ii r1.1), (8, ii r5.2.2), (10, pp 1 0), (11, s0 2 r3.1.length), (13, ii r5.1), (14, ii r5.2.1), (15, ii (Int.tmod (w64 b) 100001)), (84, ii (Int.tmod (w64 b) 100001)), (85, s0 2 r3.1.length)] rfl (by kernel_rfl) ?_
                obtain ⟨r6, r6_h, h⟩ := bS h
                refine XR.call Ep_ok [6, 7, 8, 10, 11, 13, 14, 15, 86] rfl (K := 16) (args := [ii (Int.tmod (w64 b) 100001), s0 2 r3.1.length]) (d := (some (path 12 86))) (by kernel_rfl) (KC.liftH (n0 := 1) (m := 1) (args0 := [ii (Int.tmod (w64 b) 100001), s0 0 r3.1.length]) (h0 := [(0, rc (encI .i64) r3.1 (0 + ((rowC (encI .i64) r3.1).length + 1)) 3 1)]) (V := .tuple #[s0 1 r6.1.length, ii r6.2.1, ii r6.2.2]) (V2 := .tuple #[s0 3 r6.1.length, ii r6.2.1, ii r6.2.2]) (H := [(1, rc (encI .i64) r6.1 0 3 1)]) (H2 := [(3, rc (encI .i64) r6.1 0 3 1)]) [2] [2, 3, 4, 1] (f16_ok m (0 + ((rowC (encI .i64) r3.1).length + 1)) 3 (Int.tmod (w64 b) 100001) r3.1 r6 r6_h) (by rfl) (by decide) rfl (by kernel_rfl) ⟨⟨_, _, rfl, rfl, .inl ⟨rfl, rowC_scal (encI_ok .i64) _⟩⟩, trivial⟩ (by decide) (by decide) (by kernel_rfl) ⟨⟨_, _, rfl, rfl, .inl ⟨rfl, rowC_scal (encI_ok .i64) _⟩⟩, trivial⟩ (by rfl)) ?_
                rintro _ _ _ ⟨rfl, rfl, rfl⟩
                refine XR.conv (σ' := [(6, ii (cond (a) 27 4)), (7, ii r1.1), (8, ii r5.2.2), (10, pp 1 0), (11, s0 2 r3.1.length), (13, ii r5.1), (14, ii r5.2.1), (15, ii (Int.tmod (w64 b) 100001)), (86, .tuple #[s0 3 r6.1.length, ii r6.2.1, ii r6.2.2])]) (h' := [(3, rc (encI .i64) r6.1 0 3 1), (2, rc (encI .i64) r3.1 0 3 1), (1, .cells [ii r2.1, ii r2.2.1] 0 23 0), (0, .cells [ii r1.1, ii (cond (a) 27 4)] 0 23 0)]) (c' := 4) ?_ (by kernel_rfl)
                refine XR.runS Ep_ok 1 7 [(6, ii (cond (a) 27 4)), (7, ii r1.1), (8, ii r5.2.2), (10, pp 1 0), (11, s0 2 r3.1.length), (12, ii r6.2.2), (13, ii r5.1), (14, ii r5.2.1), (15, ii (Int.tmod (w64 b) 100001)), (16, s0 3 r6.1.length), (17, ii r6.2.1)] rfl (by kernel_rfl) ?_
                refine XR.done (by kernel_rfl) ?_
                show XQ _ _ _ _ _ _ _ _
                refine XQ.seq Ep_ok (by kernel_rfl) ?_
                refine XQ.seq Ep_ok (by kernel_rfl) ?_
                refine XQ.region (by kernel_rfl) ?_
                refine XR.runS Ep_ok 1 3 [(6, ii (cond (a) 27 4)), (7, ii r1.1), (10, pp 1 0), (11, s0 2 r3.1.length), (12, ii r6.2.2), (13, ii r5.1), (14, ii r5.2.1), (15, ii (Int.tmod (w64 b) 100001)), (16, s0 3 r6.1.length), (17, ii r6.2.1), (92, .bool (r5.2.2 != 0))] rfl (by kernel_rfl) ?_
                cases b9 : (r5.2.2 != 0 : Bool) with
                | true =>
                  have h := cT b9 h
                  refine XR.runS Ep_ok 1 22 [(6, ii (cond (a) 27 4)), (7, ii r1.1), (11, s0 2 r3.1.length), (15, ii (Int.tmod (w64 b) 100001)), (16, s0 3 r6.1.length), (17, ii r6.2.1), (114, .bool true)] rfl (by kernel_rfl) ?_
                  refine XR.done (by kernel_rfl) ?_
                  show XQ _ _ _ _ _ _ _ _
                  refine XQ.cond (s := (.tmp 114)) (b := true) (by kernel_rfl) (by kernel_rfl) (fun _ => ?_) (fun q => by cases q)
                  refine XQ.seq Ep_ok (by kernel_rfl) ?_
                  refine XQ.region (by kernel_rfl) ?_
                  refine XR.runS Ep_ok 1 1 [(4, .bool false)] rfl (by kernel_rfl) ?_
                  refine XR.done (by kernel_rfl) ?_
                  show XQ _ _ _ _ _ _ _ _
                  refine XQ.ret (by kernel_rfl) ?_
                  have h := Option.some.inj h
                  subst h
                  exact ⟨fun i q => (by cases q), .bool false, (by kernel_rfl), rfl⟩
                | false =>
                  have h := cF b9 h
                  refine XR.runS Ep_ok 1 4 [(6, ii (cond (a) 27 4)), (7, ii r1.1), (10, pp 1 0), (11, s0 2 r3.1.length), (13, ii r5.1), (14, ii r5.2.1), (15, ii (Int.tmod (w64 b) 100001)), (16, s0 3 r6.1.length), (17, ii r6.2.1), (96, .bool (r6.2.2 != 0))] rfl (by kernel_rfl) ?_
                  cases b10 : (r6.2.2 != 0 : Bool) with
                  | true =>
                    have h := cT b10 h
                    refine XR.runS Ep_ok 1 18 [(6, ii (cond (a) 27 4)), (7, ii r1.1), (11, s0 2 r3.1.length), (15, ii (Int.tmod (w64 b) 100001)), (16, s0 3 r6.1.length), (17, ii r6.2.1), (114, .bool true)] rfl (by kernel_rfl) ?_
                    refine XR.done (by kernel_rfl) ?_
                    show XQ _ _ _ _ _ _ _ _
                    refine XQ.cond (s := (.tmp 114)) (b := true) (by kernel_rfl) (by kernel_rfl) (fun _ => ?_) (fun q => by cases q)
                    refine XQ.seq Ep_ok (by kernel_rfl) ?_
                    refine XQ.region (by kernel_rfl) ?_
                    refine XR.runS Ep_ok 1 1 [(4, .bool false)] rfl (by kernel_rfl) ?_
                    refine XR.done (by kernel_rfl) ?_
                    show XQ _ _ _ _ _ _ _ _
                    refine XQ.ret (by kernel_rfl) ?_
                    have h := Option.some.inj h
                    subst h
                    exact ⟨fun i q => (by cases q), .bool false, (by kernel_rfl), rfl⟩
                  | false =>
                    have h := cF b10 h
                    refine XR.runS Ep_ok 1 6 [(6, ii (cond (a) 27 4)), (7, ii r1.1), (10, pp 1 0), (11, s0 2 r3.1.length), (14, ii r5.2.1), (15, ii (Int.tmod (w64 b) 100001)), (16, s0 3 r6.1.length), (17, ii r6.2.1), (102, .bool (r5.1 != r2.1))] rfl (by kernel_rfl) ?_
                    cases b11 : (r5.1 != r2.1 : Bool) with
                    | true =>
                      have h := cT b11 h
                      refine XR.runS Ep_ok 1 12 [(6, ii (cond (a) 27 4)), (7, ii r1.1), (11, s0 2 r3.1.length), (15, ii (Int.tmod (w64 b) 100001)), (16, s0 3 r6.1.length), (17, ii r6.2.1), (114, .bool true)] rfl (by kernel_rfl) ?_
                      refine XR.done (by kernel_rfl) ?_
                      show XQ _ _ _ _ _ _ _ _
                      refine XQ.cond (s := (.tmp 114)) (b := true) (by kernel_rfl) (by kernel_rfl) (fun _ => ?_) (fun q => by cases q)
                      refine XQ.seq Ep_ok (by kernel_rfl) ?_
                      refine XQ.region (by kernel_rfl) ?_
                      refine XR.runS Ep_ok 1 1 [(4, .bool false)] rfl (by kernel_rfl) ?_
                      refine XR.done (by kernel_rfl) ?_
                      show XQ _ _ _ _ _ _ _ _
                      refine XQ.ret (by kernel_rfl) ?_
                      have h := Option.some.inj h
                      subst h
                      exact ⟨fun i q => (by cases q), .bool false, (by kernel_rfl), rfl⟩
                    | false =>
                      have h := cF b11 h
                      refine XR.runS Ep_ok 1 6 [(6, ii (cond (a) 27 4)), (7, ii r1.1), (11, s0 2 r3.1.length), (15, ii (Int.tmod (w64 b) 100001)), (16, s0 3 r6.1.length), (17, ii r6.2.1), (108, .bool (r5.2.1 != r2.2.1))] rfl (by kernel_rfl) ?_
                      cases b12 : (r5.2.1 != r2.2.1 : Bool) with
                      | true =>
                        have h := cT b12 h
                        refine XR.runS Ep_ok 1 6 [(6, ii (cond (a) 27 4)), (7, ii r1.1), (11, s0 2 r3.1.length), (15, ii (Int.tmod (w64 b) 100001)), (16, s0 3 r6.1.length), (17, ii r6.2.1), (114, .bool true)] rfl (by kernel_rfl) ?_
                        refine XR.done (by kernel_rfl) ?_
                        show XQ _ _ _ _ _ _ _ _
                        refine XQ.cond (s := (.tmp 114)) (b := true) (by kernel_rfl) (by kernel_rfl) (fun _ => ?_) (fun q => by cases q)
                        refine XQ.seq Ep_ok (by kernel_rfl) ?_
                        refine XQ.region (by kernel_rfl) ?_
                        refine XR.runS Ep_ok 1 1 [(4, .bool false)] rfl (by kernel_rfl) ?_
                        refine XR.done (by kernel_rfl) ?_
                        show XQ _ _ _ _ _ _ _ _
                        refine XQ.ret (by kernel_rfl) ?_
                        have h := Option.some.inj h
                        subst h
                        exact ⟨fun i q => (by cases q), .bool false, (by kernel_rfl), rfl⟩
                      | false =>
                        have h := cF b12 h
                        refine XR.runS Ep_ok 1 6 [(6, ii (cond (a) 27 4)), (7, ii r1.1), (11, s0 2 r3.1.length), (15, ii (Int.tmod (w64 b) 100001)), (16, s0 3 r6.1.length), (17, ii r6.2.1), (114, .bool (((r6.1.length : Nat) : Int) != ((r3.1.length : Nat) : Int)))] rfl (by kernel_rfl) ?_
                        refine XR.done (by kernel_rfl) ?_
                        show XQ _ _ _ _ _ _ _ _
                        cases b13 : (((r6.1.length : Nat) : Int) != ((r3.1.length : Nat) : Int) : Bool) with
                        | true =>
                          have h := cT b13 h
                          refine XQ.cond (s := (.tmp 114)) (b := true) (by kernel_rfl) (by kernel_rfl) (fun _ => ?_) (fun q => by cases q)
                          refine XQ.seq Ep_ok (by kernel_rfl) ?_
                          refine XQ.region (by kernel_rfl) ?_
                          refine XR.runS Ep_ok 1 1 [(4, .bool false)] rfl (by kernel_rfl) ?_
                          refine XR.done (by kernel_rfl) ?_
                          show XQ _ _ _ _ _ _ _ _
                          refine XQ.ret (by kernel_rfl) ?_
                          have h := Option.some.inj h
                          subst h
                          exact ⟨fun i q => (by cases q), .bool false, (by kernel_rfl), rfl⟩
                        | false =>
                          have h := cF b13 h
                          refine XQ.cond (s := (.tmp 114)) (b := false) (by kernel_rfl) (by kernel_rfl) (fun q => by cases q) (fun _ => ?_)
                          refine XQ.skip (by kernel_rfl) ?_
                          show XQ _ _ _ _ _ _ _ _
                          refine XQ.seq Ep_ok (by kernel_rfl) ?_
                          refine XQ.region (by kernel_rfl) ?_
                          refine XR.runS Ep_ok 1 2 [(6, ii (cond (a) 27 4)), (7, ii r1.1), (11, s0 2 r3.1.length), (15, ii (Int.tmod (w64 b) 100001)), (16, s0 3 r6.1.length), (17, ii r6.2.1), (18, ii r6.2.1)] rfl (by kernel_rfl) ?_
                          refine XR.done (by kernel_rfl) ?_
                          show XQ _ _ _ _ _ _ _ _
                          refine XQ.seq Ep_ok (by kernel_rfl) ?_
                          refine XQ.seq Ep_ok (by kernel_rfl) ?_
                          refine XQ.region (by kernel_rfl) ?_
                          refine XR.runS Ep_ok 1 3 [(6, ii (cond (a) 27 4)), (7, ii r1.1), (11, s0 2 r3.1.length), (15, ii (Int.tmod (w64 b) 100001)), (17, ii r6.2.1), (18, ii r6.2.1), (116, s0 3 r6.1.length), (117, ii ((r6.1.length : Nat) : Int)), (118, ii 0)] rfl (by kernel_rfl) ?_
                          refine XR.done (by kernel_rfl) ?_
                          show XQ _ _ _ _ _ _ _ _
                          refine XQ.block (id := 0) (by kernel_rfl) ?_
                          refine XQ.loop m (by kernel_rfl) ?_
                          obtain ⟨o1, o1_h, h⟩ := bS h
                          refine XL.ren (σ' := [(6, ii (cond (a) 27 4)), (7, ii r1.1), (11, s0 0 r3.1.length), (15, ii (Int.tmod (w64 b) 100001)), (17, ii r6.2.1), (18, ii r6.2.1), (116, s0 1 r6.1.length), (117, ii ((r6.1.length : Nat) : Int)), (118, ii 0)]) (h' := [(1, rc (encI .i64) r6.1 0 3 1), (0, rc (encI .i64) r3.1 0 3 1)]) (c' := 2) [2, 3] (by decide) rfl ⟨by kernel_rfl, by kernel_rfl, by kernel_rfl, by kernel_rfl, by kernel_rfl, by kernel_rfl, by kernel_rfl, by kernel_rfl, by kernel_rfl, trivial⟩ ⟨⟨_, _, rfl, rfl, .inl ⟨rfl, rowC_scal (encI_ok .i64) _⟩⟩, ⟨_, _, rfl, rfl, .inl ⟨rfl, rowC_scal (encI_ok .i64) _⟩⟩, trivial⟩ rfl ?_
                          refine XL.conv (f4_1_ok m m (cond (a) 27 4) r1.1 (Int.tmod (w64 b) 100001) r6.2.1 r6.2.1 ((r6.1.length : Nat) : Int) 0 r3.1 r6.1 o1 o1_h _ ?_) (by first | with_reducible rfl | simp | rfl)
                          show XQ _ _ _ _ _ _ _ _
                          refine XQ.seq Ep_ok (by kernel_rfl) ?_
                          refine XQ.region (by kernel_rfl) ?_
                          refine XR.runS Ep_ok 1 5 [(11, s0 0 o1.2.2.2.2.2.length), (17, ii o1.2.2.2.1), (126, ii o1.2.2.2.2.1), (129, ii (w64 (o1.2.2.1 * o1.2.1))), (130, ii o1.1)] rfl (by kernel_rfl) ?_
                          cases b15 : (o1.1 != 0 : Bool) with
                          | false => cases (cF b15 h)
                          | true =>
                            have h := cT b15 h
                            have e16 : insV (headI ((gsOf Ep 146 (opsOf (lft (rgt (rgt (rgt (rgt (rgt (rgt (rgt (rgt (rgt (rgt (rgt (rgt (rgt (rgt (rgt f4_C4)))))))))))))))))).drop 5) (trS 146 [(11, s0 0 o1.2.2.2.2.2.length), (17, ii o1.2.2.2.1), (126, ii o1.2.2.2.2.1), (129, ii (w64 (o1.2.2.1 * o1.2.1))), (130, ii o1.1)])) (trS 146 [(11, s0 0 o1.2.2.2.2.2.length), (17, ii o1.2.2.2.1), (126, ii o1.2.2.2.2.1), (129, ii (w64 (o1.2.2.1 * o1.2.1))), (130, ii o1.1)]) [(0, rc (encI .i64) o1.2.2.2.2.2 0 3 1)] = (match (o1.1 != 0 : Bool) with | true => some (ii (w64 (Int.tdiv (w64 (o1.2.2.1 * o1.2.1)) o1.1))) | false => none) := by kernel_rfl
                            refine XR.rd Ep_ok [11, 17, 126, 131] rfl (e16.trans (by rw [b15])) (σ' := [(11, s0 0 o1.2.2.2.2.2.length), (17, ii o1.2.2.2.1), (126, ii o1.2.2.2.2.1), (131, ii (w64 (Int.tdiv (w64 (o1.2.2.1 * o1.2.1)) o1.1)))]) (by kernel_rfl) ?_
                            refine XR.runS Ep_ok 1 2 [(11, s0 0 o1.2.2.2.2.2.length), (17, ii o1.2.2.2.1), (133, .bool (o1.2.2.2.2.1 == (w64 (Int.tdiv (w64 (o1.2.2.1 * o1.2.1)) o1.1))))] rfl (by kernel_rfl) ?_
                            cases b17 : (o1.2.2.2.2.1 == (w64 (Int.tdiv (w64 (o1.2.2.1 * o1.2.1)) o1.1)) : Bool) with
                            | true =>
                              have h := cT b17 h
                              refine XR.runS Ep_ok 1 4 [(11, s0 0 o1.2.2.2.2.2.length), (17, ii o1.2.2.2.1), (137, .bool (decide (o1.2.2.2.1 ≥ 0)))] rfl (by kernel_rfl) ?_
                              cases b18 : (decide (o1.2.2.2.1 ≥ 0) : Bool) with
                              | true =>
                                have h := cT b18 h
                                refine XR.runS Ep_ok 1 6 [(143, .bool (decide (o1.2.2.2.1 < ((o1.2.2.2.2.2.length : Nat) : Int))))] rfl (by kernel_rfl) ?_
                                cases b19 : (decide (o1.2.2.2.1 < ((o1.2.2.2.2.2.length : Nat) : Int)) : Bool) with
                                | true =>
                                  have h := cT b19 h
                                  refine XR.call Ep_ok [143, 144] rfl (K := 11) (args := []) (d := (some (path 12 144))) (by kernel_rfl) (KC.of_calls Ep_ok (F := Proofs.Tryz.f11) (v := .bool true) (by kernel_rfl) rfl rfl (works_ok)) ?_
                                  rintro _ _ _ ⟨rfl, rfl, rfl⟩
                                  refine XR.conv (σ' := [(143, .bool true), (144, .bool true)]) (h' := [(0, rc (encI .i64) o1.2.2.2.2.2 0 3 1)]) (c' := 1) ?_ (by kernel_rfl)
                                  refine XR.runS Ep_ok 1 2 [(4, .bool true)] rfl (by kernel_rfl) ?_
                                  refine XR.done (by kernel_rfl) ?_
                                  show XQ _ _ _ _ _ _ _ _
                                  refine XQ.ret (by kernel_rfl) ?_
                                  have h := Option.some.inj h
                                  subst h
                                  exact ⟨fun i q => (by cases q), .bool true, (by kernel_rfl), rfl⟩
                                | false =>
                                  have h := cF b19 h
                                  refine XR.runS Ep_ok 1 3 [(4, .bool false)] rfl (by kernel_rfl) ?_
                                  refine XR.done (by kernel_rfl) ?_
                                  show XQ _ _ _ _ _ _ _ _
                                  refine XQ.ret (by kernel_rfl) ?_
                                  have h := Option.some.inj h
                                  subst h
                                  exact ⟨fun i q => (by cases q), .bool false, (by kernel_rfl), rfl⟩
                              | false =>
                                have h := cF b18 h
                                refine XR.runS Ep_ok 1 9 [(4, .bool false)] rfl (by kernel_rfl) ?_
                                refine XR.done (by kernel_rfl) ?_
                                show XQ _ _ _ _ _ _ _ _
                                refine XQ.ret (by kernel_rfl) ?_
                                have h := Option.some.inj h
                                subst h
                                exact ⟨fun i q => (by cases q), .bool false, (by kernel_rfl), rfl⟩
                            | false =>
                              have h := cF b17 h
                              refine XR.runS Ep_ok 1 13 [(4, .bool false)] rfl (by kernel_rfl) ?_
                              refine XR.done (by kernel_rfl) ?_
                              show XQ _ _ _ _ _ _ _ _
                              refine XQ.ret (by kernel_rfl) ?_
                              have h := Option.some.inj h
                              subst h
                              exact ⟨fun i q => (by cases q), .bool false, (by kernel_rfl), rfl⟩

end Go.Xm
