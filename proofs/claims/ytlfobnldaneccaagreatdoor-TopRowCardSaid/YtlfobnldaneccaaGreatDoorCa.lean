/- What these functions of the program compute, as functions in Lean, and the proofs that they do: dock.within, dock.listed, dock.Check, dock.come, dock.Park, slices.Contains[[]int,int], dock.filled, dock.Next. Conditions: the library's variables hold what their texts lay. -/
import Derived.Test.YtlfobnldaneccaaGreatDoorBa
import Derived.Test.YtlfobnldaneccaaGreatDoorWd
namespace Go.Xm
open Go.RowKit
set_option linter.unusedVariables false
set_option linter.unusedSimpArgs false
set_option maxRecDepth 20000
set_option maxHeartbeats 4000000

/-! vitola/dock.within -/
noncomputable def f29_C29 : Code := Proofs.Tryz.f29.body.getD .skip

def f29 (m : Nat) (a : Int) (b : Int) (c : Int) : Option (Bool) :=
  cond (decide (b ≤ a)) (
    some (decide (a ≤ c))
  ) (
    some (false)
  )

theorem f29_ok (m : Nat) (a : Int) (b : Int) (c : Int) (o : Bool) (h : f29 m a b c = some o) (w : World) (hI : seatInv w) : Calls Proofs.Tryz.prog 29 #[ii a, ii b, ii c] w fun e w' => e = .returned (.bool o) ∧ Below w.heap.size w w' := by
  refine KC.calls (E := E0) (args := [ii a, ii b, ii c]) (v := .bool o) rfl rfl (KC.bodyN E0_ok (F := Proofs.Tryz.f29) (by kernel_rfl) (code := f29_C29) (by kernel_rfl) (nt := 15) (by kernel_rfl) (rs := [.tmp 6]) (by kernel_rfl) (by kernel_rfl) (σ := [(0, ii a), (1, ii b), (2, ii c)]) (by kernel_rfl) ?_) w (seatInv_size hI) hI
  unfold f29 at h
  refine XQ.seq E0_ok (by kernel_rfl) ?_
  refine XQ.region (by kernel_rfl) ?_
  refine XR.runS E0_ok 1 1 [(0, ii a), (1, ii b), (2, ii c)] rfl (by kernel_rfl) ?_
  refine XR.done (by kernel_rfl) ?_
  show XQ _ _ _ _ _ _ _ _
  refine XQ.seq E0_ok (by kernel_rfl) ?_
  refine XQ.region (by kernel_rfl) ?_
  refine XR.runS E0_ok 1 4 [(0, ii a), (2, ii c), (10, .bool (decide (b ≤ a)))] rfl (by kernel_rfl) ?_
  cases b1 : (decide (b ≤ a) : Bool) with
  | true =>
    have h := cT b1 h
    refine XR.runS E0_ok 1 5 [(6, .bool (decide (a ≤ c)))] rfl (by kernel_rfl) ?_
    refine XR.done (by kernel_rfl) ?_
    show XQ _ _ _ _ _ _ _ _
    refine XQ.ret (by kernel_rfl) ?_
    have h := Option.some.inj h
    subst h
    exact ⟨fun i q => (by cases q), .bool (decide (a ≤ c)), (by kernel_rfl), rfl⟩
  | false =>
    have h := cF b1 h
    refine XR.runS E0_ok 1 5 [(6, .bool false)] rfl (by kernel_rfl) ?_
    refine XR.done (by kernel_rfl) ?_
    show XQ _ _ _ _ _ _ _ _
    refine XQ.ret (by kernel_rfl) ?_
    have h := Option.some.inj h
    subst h
    exact ⟨fun i q => (by cases q), .bool false, (by kernel_rfl), rfl⟩

/-! vitola/dock.listed -/
noncomputable def f73_C73 : Code := Proofs.Tryz.f73.body.getD .skip
noncomputable def f73_C91 : Code := Proofs.Tryz.f91.body.getD .skip
noncomputable def f73_C103 : Code := Proofs.Tryz.f103.body.getD .skip
noncomputable def f73_C92 : Code := Proofs.Tryz.f92.body.getD .skip
noncomputable def f73_L1 : Code := lft (lft (rgt (lft (rgt f73_C103))))

inductive Of73_1 where
  | r (x4_r1 : Int)
  | x0

def f73_1 (m : Nat) : Nat → Int → List Int → Int → Int → Option Of73_1
  | 0, _, _, _, _ => none
  | fuel + 1, b, c, x7_1, x8_1 =>
    cond (decide (x8_1 < x7_1)) (
      cond (inRow x8_1 c.length) (
        (f29 m (List.getD c (Int.toNat x8_1) 0) 0 b).bind fun r4 =>
          cond (!r4) (
            some (.r x8_1)
          ) (
            f73_1 m fuel b c x7_1 (w64 (x8_1 + 1))
          )
      ) none
    ) (
      some (.x0)
    )

theorem f73_1_ok (m : Nat) : ∀ (fuel : Nat) (b : Int) (z0 : Nat) (y0 : Nat) (c : List Int) (x7_1 : Int) (x8_1 : Int) (o : Of73_1), f73_1 m fuel b c x7_1 x8_1 = some o → ∀ Q : QP, (match o with | .r x4_r1 => Q .ret [(4, ii x4_r1)] [(1, .cells [ii b] 0 3 0), (0, rc (encI .i64) c z0 y0 1)] 2 | .x0 => Q (.exit 0) [] [(1, .cells [ii b] 0 3 0), (0, rc (encI .i64) c z0 y0 1)] 2) → XL E0 19 2 fuel f73_L1 [(0, s0 0 c.length), (1, .func (.func 92) #[] #[pp 1 0]), (7, ii x7_1), (8, ii x8_1)] [(1, .cells [ii b] 0 3 0), (0, rc (encI .i64) c z0 y0 1)] 2 Q
  | 0, b, z0, y0, c, x7_1, x8_1, o, h, Q, hQ => by cases h
  | fuel + 1, b, z0, y0, c, x7_1, x8_1, o, h, Q, hQ => by
    unfold f73_1 at h
    refine XL.succ E0_ok ?_
    refine XQ.seq E0_ok (by kernel_rfl) ?_
    refine XQ.region (by kernel_rfl) ?_
    refine XR.runS E0_ok 1 1 [(0, s0 0 c.length), (1, .func (.func 92) #[] #[pp 1 0]), (7, ii x7_1), (8, ii x8_1), (9, .bool (decide (x8_1 < x7_1)))] rfl (by kernel_rfl) ?_
    refine XR.done (by kernel_rfl) ?_
    show XQ _ _ _ _ _ _ _ _
    refine XQ.seq E0_ok (by kernel_rfl) ?_
    cases b1 : (decide (x8_1 < x7_1) : Bool) with
    | true =>
      have h := cT b1 h
      refine XQ.cond (s := (.tmp 9)) (b := true) (by kernel_rfl) (by kernel_rfl) (fun _ => ?_) (fun q => by cases q)
      refine XQ.skip (by kernel_rfl) ?_
      show XQ _ _ _ _ _ _ _ _
      refine XQ.seq E0_ok (by kernel_rfl) ?_
      refine XQ.block (id := 1) (by kernel_rfl) ?_
      refine XQ.seq E0_ok (by kernel_rfl) ?_
      refine XQ.region (by kernel_rfl) ?_
      refine XR.runS E0_ok 1 2 [(0, s0 0 c.length), (1, .func (.func 92) #[] #[pp 1 0]), (5, ii x8_1), (7, ii x7_1), (8, ii x8_1)] rfl (by kernel_rfl) ?_
      refine XR.done (by kernel_rfl) ?_
      show XQ _ _ _ _ _ _ _ _
      refine XQ.seq E0_ok (by kernel_rfl) ?_
      refine XQ.region (by kernel_rfl) ?_
      refine XR.runS E0_ok 1 3 [(0, s0 0 c.length), (1, .func (.func 92) #[] #[pp 1 0]), (5, ii x8_1), (7, ii x7_1), (8, ii x8_1), (11, .func (.func 92) #[] #[pp 1 0]), (12, s0 0 c.length), (13, ii x8_1)] rfl (by kernel_rfl) ?_
      cases b2 : (inRow x8_1 c.length : Bool) with
      | false => cases (cF b2 h)
      | true =>
        have h := cT b2 h
        refine XR.rd E0_ok [0, 1, 5, 7, 8, 11, 14] rfl (v := pp 0 ((Int.toNat x8_1) * 1)) (v_idx (s := 1) (x := (src 19 (.tmp 12))) (y := (src 19 (.tmp 13))) (b := 0) (o := 0) (len := c.length) (cap := c.length) (ik := .i64) (i := x8_1) (off := (Int.toNat x8_1) * 1) (d := (some (path 12 14))) (by kernel_rfl) (by kernel_rfl) (by kernel_rfl) b2 (by omega)) (σ' := [(0, s0 0 c.length), (1, .func (.func 92) #[] #[pp 1 0]), (5, ii x8_1), (7, ii x7_1), (8, ii x8_1), (11, .func (.func 92) #[] #[pp 1 0]), (14, pp 0 ((Int.toNat x8_1) * 1))]) (by kernel_rfl) ?_
        refine XR.rd E0_ok [0, 1, 5, 7, 8, 11, 15] rfl (v := ii (List.getD c (Int.toNat x8_1) 0)) (v_load1 (encI_ok .i64) (x := (src 19 (.tmp 14))) (b := 0) (off := (Int.toNat x8_1) * 1) (xs := c) (fz := z0) (e := y0) (es := 1) (d := (some (path 12 15))) (by kernel_rfl) (by kernel_rfl) (by kernel_rfl) (Int.toNat x8_1) 0 0 (by first | with_reducible rfl | omega | rfl) (row_len (inRow_toNat b2) (by simp)) rfl rfl) (σ' := [(0, s0 0 c.length), (1, .func (.func 92) #[] #[pp 1 0]), (5, ii x8_1), (7, ii x7_1), (8, ii x8_1), (11, .func (.func 92) #[] #[pp 1 0]), (15, ii (List.getD c (Int.toNat x8_1) 0))]) (by kernel_rfl) ?_
        refine XR.callK E0_ok [0, 1, 5, 7, 8, 16] rfl (K := 92) (args := [ii (List.getD c (Int.toNat x8_1) 0), pp 1 0]) (d := (some (path 12 16))) (by kernel_rfl) ?_
        refine KC.bodyN E0_ok (F := Proofs.Tryz.f92) (by kernel_rfl) (code := f73_C92) (by kernel_rfl) (nt := 8) (by kernel_rfl) (rs := [.tmp 3]) (by kernel_rfl) (by kernel_rfl) (σ := [(0, ii (List.getD c (Int.toNat x8_1) 0)), (1, pp 1 0)]) (by kernel_rfl) ?_
        refine XQ.seq E0_ok (by kernel_rfl) ?_
        refine XQ.region (by kernel_rfl) ?_
        refine XR.runS E0_ok 1 1 [(0, ii (List.getD c (Int.toNat x8_1) 0)), (1, pp 1 0)] rfl (by kernel_rfl) ?_
        refine XR.done (by kernel_rfl) ?_
        show XQ _ _ _ _ _ _ _ _
        refine XQ.seq E0_ok (by kernel_rfl) ?_
        refine XQ.region (by kernel_rfl) ?_
        refine XR.runS E0_ok 1 2 [(4, ii (List.getD c (Int.toNat x8_1) 0)), (5, ii b)] rfl (by kernel_rfl) ?_
        obtain ⟨r4, r4_h, h⟩ := bS h
        refine XR.call E0_ok [6] rfl (K := 29) (args := [ii (List.getD c (Int.toNat x8_1) 0), ii 0, ii b]) (d := (some (path 12 6))) (by kernel_rfl) (KC.of_calls E0_ok (F := Proofs.Tryz.f29) (v := .bool r4) (by kernel_rfl) rfl rfl (fun w hI => f29_ok m (List.getD c (Int.toNat x8_1) 0) 0 b r4 r4_h w hI)) ?_
        rintro _ _ _ ⟨rfl, rfl, rfl⟩
        refine XR.conv (σ' := [(6, .bool r4)]) (h' := [(1, .cells [ii b] 0 3 0), (0, rc (encI .i64) c z0 y0 1)]) (c' := 2) ?_ (by kernel_rfl)
        refine XR.runS E0_ok 1 2 [(3, .bool (!r4))] rfl (by kernel_rfl) ?_
        refine XR.done (by kernel_rfl) ?_
        show XQ _ _ _ _ _ _ _ _
        refine XQ.ret (by kernel_rfl) ?_
        refine ⟨fun i q => (by cases q), .bool (!r4), (by kernel_rfl), ?_⟩
        refine XR.conv (σ' := [(0, s0 0 c.length), (1, .func (.func 92) #[] #[pp 1 0]), (5, ii x8_1), (7, ii x7_1), (8, ii x8_1), (16, .bool (!r4))]) (h' := [(1, .cells [ii b] 0 3 0), (0, rc (encI .i64) c z0 y0 1)]) (c' := 2) ?_ (by kernel_rfl)
        refine XR.done (by kernel_rfl) ?_
        show XQ _ _ _ _ _ _ _ _
        cases b3 : (!r4 : Bool) with
        | true =>
          have h := cT b3 h
          refine XQ.cond (s := (.tmp 16)) (b := true) (by kernel_rfl) (by kernel_rfl) (fun _ => ?_) (fun q => by cases q)
          refine XQ.seq E0_ok (by kernel_rfl) ?_
          refine XQ.region (by kernel_rfl) ?_
          refine XR.runS E0_ok 1 2 [(4, ii x8_1)] rfl (by kernel_rfl) ?_
          refine XR.done (by kernel_rfl) ?_
          show XQ _ _ _ _ _ _ _ _
          refine XQ.ren (σ' := [(4, ii x8_1)]) (h' := [(1, .cells [ii b] 0 3 0), (0, rc (encI .i64) c z0 y0 1)]) (c' := 2) [0, 1] (by decide) rfl ⟨by kernel_rfl, trivial⟩ ⟨⟨_, _, rfl, rfl, .inr ⟨_, _, _, _, rfl, rfl⟩⟩, ⟨_, _, rfl, rfl, .inl ⟨rfl, rowC_scal (encI_ok .i64) _⟩⟩, trivial⟩ rfl ?_
          refine XQ.ret (by kernel_rfl) ?_
          cases h
          exact hQ
        | false =>
          have h := cF b3 h
          refine XQ.cond (s := (.tmp 16)) (b := false) (by kernel_rfl) (by kernel_rfl) (fun q => by cases q) (fun _ => ?_)
          refine XQ.skip (by kernel_rfl) ?_
          show XQ _ _ _ _ _ _ _ _
          refine XQ.region (by kernel_rfl) ?_
          refine XR.runS E0_ok 1 2 [(0, s0 0 c.length), (1, .func (.func 92) #[] #[pp 1 0]), (7, ii x7_1), (8, ii (w64 (x8_1 + 1)))] rfl (by kernel_rfl) ?_
          refine XR.done (by kernel_rfl) ?_
          show XL _ _ _ _ _ _ _ _ _
          refine XL.ren (σ' := [(0, s0 0 c.length), (1, .func (.func 92) #[] #[pp 1 0]), (7, ii x7_1), (8, ii (w64 (x8_1 + 1)))]) (h' := [(1, .cells [ii b] 0 3 0), (0, rc (encI .i64) c z0 y0 1)]) (c' := 2) [0, 1] (by decide) rfl ⟨by kernel_rfl, by kernel_rfl, by kernel_rfl, by kernel_rfl, trivial⟩ ⟨⟨_, _, rfl, rfl, .inr ⟨_, _, _, _, rfl, rfl⟩⟩, ⟨_, _, rfl, rfl, .inl ⟨rfl, rowC_scal (encI_ok .i64) _⟩⟩, trivial⟩ rfl ?_
          refine XL.conv (f73_1_ok m fuel b z0 y0 c x7_1 (w64 (x8_1 + 1)) o h Q hQ) (by first | with_reducible rfl | simp | rfl)
    | false =>
      have h := cF b1 h
      refine XQ.cond (s := (.tmp 9)) (b := false) (by kernel_rfl) (by kernel_rfl) (fun q => by cases q) (fun _ => ?_)
      refine XQ.ren (σ' := []) (h' := [(1, .cells [ii b] 0 3 0), (0, rc (encI .i64) c z0 y0 1)]) (c' := 2) [0, 1] (by decide) rfl trivial ⟨⟨_, _, rfl, rfl, .inr ⟨_, _, _, _, rfl, rfl⟩⟩, ⟨_, _, rfl, rfl, .inl ⟨rfl, rowC_scal (encI_ok .i64) _⟩⟩, trivial⟩ rfl ?_
      refine XQ.exit (i := 0) (by kernel_rfl) ?_
      cases h
      exact hQ

def f73 (m : Nat) (a : Int) (b : Int) (c : List Int) : Option (Int) :=
  (f29 m a 1 8).bind fun r1 =>
    cond (!r1) (
      some (1)
    ) (
      cond (decide (((c.length : Nat) : Int) > a)) (
        some (3)
      ) (
        (f73_1 m m b c ((c.length : Nat) : Int) 0).bind fun o1 =>
          match o1 with
          | .r x4_r1 =>
            cond (decide (x4_r1 ≥ 0)) (
              some (2)
            ) (
              some (0)
            )
          | .x0 =>
            some (0)
      )
    )

theorem f73_ok (m : Nat) (z0 : Nat) (y0 : Nat) (a : Int) (b : Int) (c : List Int) (o : Int) (h : f73 m a b c = some o) : KC E0 73 [ii a, ii b, s0 0 c.length] [(0, rc (encI .i64) c z0 y0 1)] 1 (fun v _ _ => v = ii o) := by
  refine KC.bodyN E0_ok (F := Proofs.Tryz.f73) (by kernel_rfl) (code := f73_C73) (by kernel_rfl) (nt := 20) (by kernel_rfl) (rs := [.tmp 6]) (by kernel_rfl) (by kernel_rfl) (σ := [(0, ii a), (1, ii b), (2, s0 0 c.length)]) (by kernel_rfl) ?_
  unfold f73 at h
  refine XQ.seq E0_ok (by kernel_rfl) ?_
  refine XQ.region (by kernel_rfl) ?_
  refine XR.runT E0_ok 1 2 [(0, ii a), (2, s0 0 c.length), (4, pp 1 0)] [(1, .cells [ii b] 0 3 0), (0, rc (encI .i64) c z0 y0 1)] 2 rfl (by kernel_rfl) ?_
  refine XR.done (by kernel_rfl) ?_
  show XQ _ _ _ _ _ _ _ _
  refine XQ.seq E0_ok (by kernel_rfl) ?_
  refine XQ.block (id := 0) (by kernel_rfl) ?_
  refine XQ.seq E0_ok (by kernel_rfl) ?_
  refine XQ.region (by kernel_rfl) ?_
  refine XR.runS E0_ok 1 1 [(0, ii a), (2, s0 0 c.length), (4, pp 1 0), (8, ii a)] rfl (by kernel_rfl) ?_
  obtain ⟨r1, r1_h, h⟩ := bS h
  refine XR.call E0_ok [0, 2, 4, 9] rfl (K := 29) (args := [ii a, ii 1, ii 8]) (d := (some (path 12 9))) (by kernel_rfl) (KC.of_calls E0_ok (F := Proofs.Tryz.f29) (v := .bool r1) (by kernel_rfl) rfl rfl (fun w hI => f29_ok m a 1 8 r1 r1_h w hI)) ?_
  rintro _ _ _ ⟨rfl, rfl, rfl⟩
  refine XR.conv (σ' := [(0, ii a), (2, s0 0 c.length), (4, pp 1 0), (9, .bool r1)]) (h' := [(1, .cells [ii b] 0 3 0), (0, rc (encI .i64) c z0 y0 1)]) (c' := 2) ?_ (by kernel_rfl)
  refine XR.runS E0_ok 1 2 [(0, ii a), (2, s0 0 c.length), (4, pp 1 0), (7, .bool (!r1))] rfl (by kernel_rfl) ?_
  refine XR.done (by kernel_rfl) ?_
  show XQ _ _ _ _ _ _ _ _
  cases b1 : (!r1 : Bool) with
  | true =>
    have h := cT b1 h
    refine XQ.cond (s := (.tmp 7)) (b := true) (by kernel_rfl) (by kernel_rfl) (fun _ => ?_) (fun q => by cases q)
    refine XQ.seq E0_ok (by kernel_rfl) ?_
    refine XQ.region (by kernel_rfl) ?_
    refine XR.runS E0_ok 1 1 [(6, ii 1)] rfl (by kernel_rfl) ?_
    refine XR.done (by kernel_rfl) ?_
    show XQ _ _ _ _ _ _ _ _
    refine XQ.ret (by kernel_rfl) ?_
    have h := Option.some.inj h
    subst h
    exact ⟨fun i q => (by cases q), ii 1, (by kernel_rfl), rfl⟩
  | false =>
    have h := cF b1 h
    refine XQ.cond (s := (.tmp 7)) (b := false) (by kernel_rfl) (by kernel_rfl) (fun q => by cases q) (fun _ => ?_)
    refine XQ.seq E0_ok (by kernel_rfl) ?_
    refine XQ.region (by kernel_rfl) ?_
    refine XR.runS E0_ok 1 5 [(2, s0 0 c.length), (4, pp 1 0), (11, .bool (decide (((c.length : Nat) : Int) > a)))] rfl (by kernel_rfl) ?_
    refine XR.done (by kernel_rfl) ?_
    show XQ _ _ _ _ _ _ _ _
    cases b2 : (decide (((c.length : Nat) : Int) > a) : Bool) with
    | true =>
      have h := cT b2 h
      refine XQ.cond (s := (.tmp 11)) (b := true) (by kernel_rfl) (by kernel_rfl) (fun _ => ?_) (fun q => by cases q)
      refine XQ.seq E0_ok (by kernel_rfl) ?_
      refine XQ.region (by kernel_rfl) ?_
      refine XR.runS E0_ok 1 1 [(6, ii 3)] rfl (by kernel_rfl) ?_
      refine XR.done (by kernel_rfl) ?_
      show XQ _ _ _ _ _ _ _ _
      refine XQ.ret (by kernel_rfl) ?_
      have h := Option.some.inj h
      subst h
      exact ⟨fun i q => (by cases q), ii 3, (by kernel_rfl), rfl⟩
    | false =>
      have h := cF b2 h
      refine XQ.cond (s := (.tmp 11)) (b := false) (by kernel_rfl) (by kernel_rfl) (fun q => by cases q) (fun _ => ?_)
      refine XQ.seq E0_ok (by kernel_rfl) ?_
      refine XQ.region (by kernel_rfl) ?_
      refine XR.runS E0_ok 1 2 [(17, s0 0 c.length), (18, .func (.func 92) #[] #[pp 1 0])] rfl (by kernel_rfl) ?_
      refine XR.callK E0_ok [19] rfl (K := 91) (args := [s0 0 c.length, .func (.func 92) #[] #[pp 1 0]]) (d := (some (path 12 19))) (by kernel_rfl) ?_
      refine KC.bodyN E0_ok (F := Proofs.Tryz.f91) (by kernel_rfl) (code := f73_C91) (by kernel_rfl) (nt := 9) (by kernel_rfl) (rs := [.tmp 4]) (by kernel_rfl) (by kernel_rfl) (σ := [(0, s0 0 c.length), (1, .func (.func 92) #[] #[pp 1 0])]) (by kernel_rfl) ?_
      refine XQ.seq E0_ok (by kernel_rfl) ?_
      refine XQ.region (by kernel_rfl) ?_
      refine XR.runS E0_ok 1 1 [(0, s0 0 c.length), (1, .func (.func 92) #[] #[pp 1 0])] rfl (by kernel_rfl) ?_
      refine XR.done (by kernel_rfl) ?_
      show XQ _ _ _ _ _ _ _ _
      refine XQ.seq E0_ok (by kernel_rfl) ?_
      refine XQ.region (by kernel_rfl) ?_
      refine XR.runS E0_ok 1 2 [(5, s0 0 c.length), (6, .func (.func 92) #[] #[pp 1 0])] rfl (by kernel_rfl) ?_
      refine XR.callK E0_ok [7] rfl (K := 103) (args := [s0 0 c.length, .func (.func 92) #[] #[pp 1 0]]) (d := (some (path 12 7))) (by kernel_rfl) ?_
      refine KC.bodyN E0_ok (F := Proofs.Tryz.f103) (by kernel_rfl) (code := f73_C103) (by kernel_rfl) (nt := 19) (by kernel_rfl) (rs := [.tmp 4]) (by kernel_rfl) (by kernel_rfl) (σ := [(0, s0 0 c.length), (1, .func (.func 92) #[] #[pp 1 0])]) (by kernel_rfl) ?_
      refine XQ.seq E0_ok (by kernel_rfl) ?_
      refine XQ.region (by kernel_rfl) ?_
      refine XR.runS E0_ok 1 1 [(0, s0 0 c.length), (1, .func (.func 92) #[] #[pp 1 0])] rfl (by kernel_rfl) ?_
      refine XR.done (by kernel_rfl) ?_
      show XQ _ _ _ _ _ _ _ _
      refine XQ.seq E0_ok (by kernel_rfl) ?_
      refine XQ.seq E0_ok (by kernel_rfl) ?_
      refine XQ.region (by kernel_rfl) ?_
      refine XR.runS E0_ok 1 3 [(0, s0 0 c.length), (1, .func (.func 92) #[] #[pp 1 0]), (7, ii ((c.length : Nat) : Int)), (8, ii 0)] rfl (by kernel_rfl) ?_
      refine XR.done (by kernel_rfl) ?_
      show XQ _ _ _ _ _ _ _ _
      refine XQ.block (id := 0) (by kernel_rfl) ?_
      refine XQ.loop m (by kernel_rfl) ?_
      obtain ⟨o1, o1_h, h⟩ := bS h
      refine XL.ren (σ' := [(0, s0 0 c.length), (1, .func (.func 92) #[] #[pp 1 0]), (7, ii ((c.length : Nat) : Int)), (8, ii 0)]) (h' := [(1, .cells [ii b] 0 3 0), (0, rc (encI .i64) c z0 y0 1)]) (c' := 2) [0, 1] (by decide) rfl ⟨by kernel_rfl, by kernel_rfl, by kernel_rfl, by kernel_rfl, trivial⟩ ⟨⟨_, _, rfl, rfl, .inr ⟨_, _, _, _, rfl, rfl⟩⟩, ⟨_, _, rfl, rfl, .inl ⟨rfl, rowC_scal (encI_ok .i64) _⟩⟩, trivial⟩ rfl ?_
      cases o1 with
      | r x4_r1 =>
        dsimp only at h
        refine XL.conv (f73_1_ok m m b z0 y0 c ((c.length : Nat) : Int) 0 (.r x4_r1) o1_h _ ?_) (by first | with_reducible rfl | simp | rfl)
        refine ⟨fun i q => (by cases q), ii x4_r1, (by kernel_rfl), ?_⟩
        refine XR.conv (σ' := [(7, ii x4_r1)]) (h' := [(1, .cells [ii b] 0 3 0), (0, rc (encI .i64) c z0 y0 1)]) (c' := 2) ?_ (by kernel_rfl)
        refine XR.runS E0_ok 1 2 [(4, .bool (decide (x4_r1 ≥ 0)))] rfl (by kernel_rfl) ?_
        refine XR.done (by kernel_rfl) ?_
        show XQ _ _ _ _ _ _ _ _
        refine XQ.ret (by kernel_rfl) ?_
        refine ⟨fun i q => (by cases q), .bool (decide (x4_r1 ≥ 0)), (by kernel_rfl), ?_⟩
        refine XR.conv (σ' := [(19, .bool (decide (x4_r1 ≥ 0)))]) (h' := [(1, .cells [ii b] 0 3 0), (0, rc (encI .i64) c z0 y0 1)]) (c' := 2) ?_ (by kernel_rfl)
        refine XR.runS E0_ok 1 1 [(16, .bool (decide (x4_r1 ≥ 0)))] rfl (by kernel_rfl) ?_
        refine XR.done (by kernel_rfl) ?_
        show XQ _ _ _ _ _ _ _ _
        cases b4 : (decide (x4_r1 ≥ 0) : Bool) with
        | true =>
          have h := cT b4 h
          refine XQ.cond (s := (.tmp 16)) (b := true) (by kernel_rfl) (by kernel_rfl) (fun _ => ?_) (fun q => by cases q)
          refine XQ.seq E0_ok (by kernel_rfl) ?_
          refine XQ.region (by kernel_rfl) ?_
          refine XR.runS E0_ok 1 1 [(6, ii 2)] rfl (by kernel_rfl) ?_
          refine XR.done (by kernel_rfl) ?_
          show XQ _ _ _ _ _ _ _ _
          refine XQ.ret (by kernel_rfl) ?_
          have h := Option.some.inj h
          subst h
          exact ⟨fun i q => (by cases q), ii 2, (by kernel_rfl), rfl⟩
        | false =>
          have h := cF b4 h
          refine XQ.cond (s := (.tmp 16)) (b := false) (by kernel_rfl) (by kernel_rfl) (fun q => by cases q) (fun _ => ?_)
          refine XQ.skip (by kernel_rfl) ?_
          show XQ _ _ _ _ _ _ _ _
          refine XQ.seq E0_ok (by kernel_rfl) ?_
          refine XQ.region (by kernel_rfl) ?_
          refine XR.runS E0_ok 1 1 [(6, ii 0)] rfl (by kernel_rfl) ?_
          refine XR.done (by kernel_rfl) ?_
          show XQ _ _ _ _ _ _ _ _
          refine XQ.ret (by kernel_rfl) ?_
          have h := Option.some.inj h
          subst h
          exact ⟨fun i q => (by cases q), ii 0, (by kernel_rfl), rfl⟩
      | x0 =>
        dsimp only at h
        refine XL.conv (f73_1_ok m m b z0 y0 c ((c.length : Nat) : Int) 0 (.x0) o1_h _ ?_) (by first | with_reducible rfl | simp | rfl)
        show XQ _ _ _ _ _ _ _ _
        refine XQ.seq E0_ok (by kernel_rfl) ?_
        refine XQ.region (by kernel_rfl) ?_
        refine XR.runS E0_ok 1 1 [(4, ii (-1))] rfl (by kernel_rfl) ?_
        refine XR.done (by kernel_rfl) ?_
        show XQ _ _ _ _ _ _ _ _
        refine XQ.ret (by kernel_rfl) ?_
        refine ⟨fun i q => (by cases q), ii (-1), (by kernel_rfl), ?_⟩
        refine XR.conv (σ' := [(7, ii (-1))]) (h' := [(1, .cells [ii b] 0 3 0), (0, rc (encI .i64) c z0 y0 1)]) (c' := 2) ?_ (by kernel_rfl)
        refine XR.runS E0_ok 1 2 [(4, .bool false)] rfl (by kernel_rfl) ?_
        refine XR.done (by kernel_rfl) ?_
        show XQ _ _ _ _ _ _ _ _
        refine XQ.ret (by kernel_rfl) ?_
        refine ⟨fun i q => (by cases q), .bool false, (by kernel_rfl), ?_⟩
        refine XR.conv (σ' := [(19, .bool false)]) (h' := [(1, .cells [ii b] 0 3 0), (0, rc (encI .i64) c z0 y0 1)]) (c' := 2) ?_ (by kernel_rfl)
        refine XR.runS E0_ok 1 1 [(16, .bool false)] rfl (by kernel_rfl) ?_
        refine XR.done (by kernel_rfl) ?_
        show XQ _ _ _ _ _ _ _ _
        refine XQ.cond (s := (.tmp 16)) (b := false) (by kernel_rfl) (by kernel_rfl) (fun q => by cases q) (fun _ => ?_)
        refine XQ.skip (by kernel_rfl) ?_
        show XQ _ _ _ _ _ _ _ _
        refine XQ.seq E0_ok (by kernel_rfl) ?_
        refine XQ.region (by kernel_rfl) ?_
        refine XR.runS E0_ok 1 1 [(6, ii 0)] rfl (by kernel_rfl) ?_
        refine XR.done (by kernel_rfl) ?_
        show XQ _ _ _ _ _ _ _ _
        refine XQ.ret (by kernel_rfl) ?_
        have h := Option.some.inj h
        subst h
        exact ⟨fun i q => (by cases q), ii 0, (by kernel_rfl), rfl⟩

/-! vitola/dock.Check -/
noncomputable def f53_C53 : Code := Proofs.Tryz.f53.body.getD .skip

def f53 (m : Nat) (a : Int) (b : List Int) : Option (Int) :=
  (f73 m a (w64 (a - 1)) b).bind fun r1 =>
    some (r1)

theorem f53_ok (m : Nat) (z0 : Nat) (y0 : Nat) (a : Int) (b : List Int) (o : Int) (h : f53 m a b = some o) : KC E0 53 [ii a, s0 0 b.length] [(0, rc (encI .i64) b z0 y0 1)] 1 (fun v _ _ => v = ii o) := by
  refine KC.bodyN E0_ok (F := Proofs.Tryz.f53) (by kernel_rfl) (code := f53_C53) (by kernel_rfl) (nt := 10) (by kernel_rfl) (rs := [.tmp 4]) (by kernel_rfl) (by kernel_rfl) (σ := [(0, ii a), (1, s0 0 b.length)]) (by kernel_rfl) ?_
  unfold f53 at h
  refine XQ.seq E0_ok (by kernel_rfl) ?_
  refine XQ.region (by kernel_rfl) ?_
  refine XR.runS E0_ok 1 1 [(0, ii a), (1, s0 0 b.length)] rfl (by kernel_rfl) ?_
  refine XR.done (by kernel_rfl) ?_
  show XQ _ _ _ _ _ _ _ _
  refine XQ.seq E0_ok (by kernel_rfl) ?_
  refine XQ.region (by kernel_rfl) ?_
  refine XR.runS E0_ok 1 4 [(5, ii a), (7, ii (w64 (a - 1))), (8, s0 0 b.length)] rfl (by kernel_rfl) ?_
  obtain ⟨r1, r1_h, h⟩ := bS h
  refine XR.call E0_ok [9] rfl (K := 73) (args := [ii a, ii (w64 (a - 1)), s0 0 b.length]) (d := (some (path 12 9))) (by kernel_rfl) (KQ.call (KC.quiet E0_ok (args0 := [ii a, ii (w64 (a - 1)), s0 0 b.length]) (h0 := [(0, rc (encI .i64) b (z0 + ((rowC (encI .i64) b).length + 1)) y0 1)]) (n := 1) (V := ii r1) [0] (f73_ok m (z0 + ((rowC (encI .i64) b).length + 1)) y0 a (w64 (a - 1)) b r1 r1_h) rfl (by rfl) (by decide) rfl (by kernel_rfl) ⟨⟨_, _, rfl, rfl, .inl ⟨rfl, rowC_scal (encI_ok .i64) _⟩⟩, trivial⟩) rfl) ?_
  rintro _ _ _ ⟨rfl, rfl, rfl⟩
  refine XR.conv (σ' := [(9, ii r1)]) (h' := [(0, rc (encI .i64) b z0 y0 1)]) (c' := 1) ?_ (by kernel_rfl)
  refine XR.runS E0_ok 1 1 [(4, ii r1)] rfl (by kernel_rfl) ?_
  refine XR.done (by kernel_rfl) ?_
  show XQ _ _ _ _ _ _ _ _
  refine XQ.ret (by kernel_rfl) ?_
  have h := Option.some.inj h
  subst h
  exact ⟨fun i q => (by cases q), ii r1, (by kernel_rfl), rfl⟩

/-! vitola/dock.come -/
noncomputable def f23_C23 : Code := Proofs.Tryz.f23.body.getD .skip
noncomputable def f23_C30 : Code := Proofs.Tryz.f30.body.getD .skip
noncomputable def f23_L1 : Code := lft (lft (rgt (lft (rgt (rgt (rgt (rgt f23_C23)))))))

def f23_1 (m : Nat) : Nat → Int → List Int → Int → Int → Int → List (Option (Int × Int)) → Option (List (Option (Int × Int)))
  | 0, _, _, _, _, _, _ => none
  | fuel + 1, a, b, x20_1, x21_1, xh1_1_1, lh2_1 =>
    cond (decide (x21_1 < x20_1)) (
      cond (inRow x21_1 b.length) (
        cond (decide (0 ≤ List.getD b (Int.toNat x21_1) 0)) (
          cond (decide (0 ≤ a)) (
            cond ((andV .u64 (shV true .u64 (shV false .u64 (xorV .u64 18446744073709551615 xh1_1_1) (List.getD b (Int.toNat x21_1) 0)) (List.getD b (Int.toNat x21_1) 0)) (IntKind.wrap .u64 ((shV true .u64 1 a) - 1))) == 0) (
              cond (fitsB (lh2_1.length + 1) 16) (
                f23_1 m fuel a b x20_1 (w64 (x21_1 + 1)) xh1_1_1 (lh2_1 ++ [none])
              ) none
            ) (
              (tzS (andV .u64 (shV true .u64 (shV false .u64 (xorV .u64 18446744073709551615 xh1_1_1) (List.getD b (Int.toNat x21_1) 0)) (List.getD b (Int.toNat x21_1) 0)) (IntKind.wrap .u64 ((shV true .u64 1 a) - 1)))).bind fun r4 =>
                cond (decide (0 ≤ r4)) (
                  cond (fitsB (lh2_1.length + 1) 16) (
                    f23_1 m fuel a b x20_1 (w64 (x21_1 + 1)) (orV .u64 xh1_1_1 (shV true .u64 1 r4)) (lh2_1 ++ [some (r4, w64 (r4 - (List.getD b (Int.toNat x21_1) 0)))])
                  ) none
                ) none
            )
          ) none
        ) none
      ) none
    ) (
      some (lh2_1)
    )

theorem f23_1_ok (m : Nat) : ∀ (fuel : Nat) (a : Int) (z0 : Nat) (y0 : Nat) (b : List Int) (x20_1 : Int) (x21_1 : Int) (xh1_1_1 : Int) (lh2_1 : List (Option (Int × Int))) (o : (List (Option (Int × Int)))), f23_1 m fuel a b x20_1 x21_1 xh1_1_1 lh2_1 = some o → ∀ Q : QP, Q (.exit 0) [(8, s0 1 o.length)] [(1, rc encF o 0 54 1), (0, rc (encI .i64) b z0 y0 1)] 2 → XL E0 32 1 fuel f23_L1 [(7, pp 1 0), (8, s0 2 lh2_1.length), (19, s0 0 b.length), (20, ii x20_1), (21, ii x21_1)] [(2, rc encF lh2_1 0 54 1), (1, .cells [ii a, .int .u64 xh1_1_1] 0 76 0), (0, rc (encI .i64) b z0 y0 1)] 3 Q
  | 0, a, z0, y0, b, x20_1, x21_1, xh1_1_1, lh2_1, o, h, Q, hQ => by cases h
  | fuel + 1, a, z0, y0, b, x20_1, x21_1, xh1_1_1, lh2_1, o, h, Q, hQ => by
    unfold f23_1 at h
    refine XL.succ E0_ok ?_
    refine XQ.seq E0_ok (by kernel_rfl) ?_
    refine XQ.region (by kernel_rfl) ?_
    refine XR.runS E0_ok 1 1 [(7, pp 1 0), (8, s0 2 lh2_1.length), (19, s0 0 b.length), (20, ii x20_1), (21, ii x21_1), (22, .bool (decide (x21_1 < x20_1)))] rfl (by kernel_rfl) ?_
    refine XR.done (by kernel_rfl) ?_
    show XQ _ _ _ _ _ _ _ _
    refine XQ.seq E0_ok (by kernel_rfl) ?_
    cases b1 : (decide (x21_1 < x20_1) : Bool) with
    | true =>
      have h := cT b1 h
      refine XQ.cond (s := (.tmp 22)) (b := true) (by kernel_rfl) (by kernel_rfl) (fun _ => ?_) (fun q => by cases q)
      refine XQ.skip (by kernel_rfl) ?_
      show XQ _ _ _ _ _ _ _ _
      refine XQ.seq E0_ok (by kernel_rfl) ?_
      refine XQ.block (id := 1) (by kernel_rfl) ?_
      refine XQ.seq E0_ok (by kernel_rfl) ?_
      refine XQ.region (by kernel_rfl) ?_
      cases b2 : (inRow x21_1 b.length : Bool) with
      | false => cases (cF b2 h)
      | true =>
        have h := cT b2 h
        refine XR.rd E0_ok [7, 8, 19, 20, 21, 23] rfl (v := pp 0 ((Int.toNat x21_1) * 1)) (v_idx (s := 1) (x := (src 32 (.tmp 19))) (y := (src 32 (.tmp 21))) (b := 0) (o := 0) (len := b.length) (cap := b.length) (ik := .i64) (i := x21_1) (off := (Int.toNat x21_1) * 1) (d := (some (path 12 23))) (by kernel_rfl) (by kernel_rfl) (by kernel_rfl) b2 (by omega)) (σ' := [(7, pp 1 0), (8, s0 2 lh2_1.length), (19, s0 0 b.length), (20, ii x20_1), (21, ii x21_1), (23, pp 0 ((Int.toNat x21_1) * 1))]) (by kernel_rfl) ?_
        refine XR.rd E0_ok [7, 8, 19, 20, 21, 24] rfl (v := ii (List.getD b (Int.toNat x21_1) 0)) (v_load1 (encI_ok .i64) (x := (src 32 (.tmp 23))) (b := 0) (off := (Int.toNat x21_1) * 1) (xs := b) (fz := z0) (e := y0) (es := 1) (d := (some (path 12 24))) (by kernel_rfl) (by kernel_rfl) (by kernel_rfl) (Int.toNat x21_1) 0 0 (by first | with_reducible rfl | omega | rfl) (row_len (inRow_toNat b2) (by simp)) rfl rfl) (σ' := [(7, pp 1 0), (8, s0 2 lh2_1.length), (19, s0 0 b.length), (20, ii x20_1), (21, ii x21_1), (24, ii (List.getD b (Int.toNat x21_1) 0))]) (by kernel_rfl) ?_
        refine XR.runS E0_ok 1 1 [(7, pp 1 0), (8, s0 2 lh2_1.length), (10, ii (List.getD b (Int.toNat x21_1) 0)), (19, s0 0 b.length), (20, ii x20_1), (21, ii x21_1)] rfl (by kernel_rfl) ?_
        refine XR.done (by kernel_rfl) ?_
        show XQ _ _ _ _ _ _ _ _
        refine XQ.region (by kernel_rfl) ?_
        refine XR.runS E0_ok 1 2 [(7, pp 1 0), (19, s0 0 b.length), (20, ii x20_1), (21, ii x21_1), (25, s0 2 lh2_1.length), (26, ii (List.getD b (Int.toNat x21_1) 0))] rfl (by kernel_rfl) ?_
        refine XR.callK E0_ok [7, 19, 20, 21, 25, 27] rfl (K := 30) (args := [pp 1 0, ii (List.getD b (Int.toNat x21_1) 0)]) (d := (some (path 12 27))) (by kernel_rfl) ?_
        refine KC.bodyN E0_ok (F := Proofs.Tryz.f30) (by kernel_rfl) (code := f23_C30) (by kernel_rfl) (nt := 44) (by kernel_rfl) (rs := [.tmp 4]) (by kernel_rfl) (by kernel_rfl) (σ := [(0, pp 1 0), (1, ii (List.getD b (Int.toNat x21_1) 0))]) (by kernel_rfl) ?_
        refine XQ.seq E0_ok (by kernel_rfl) ?_
        refine XQ.region (by kernel_rfl) ?_
        refine XR.runS E0_ok 1 1 [(0, pp 1 0), (1, ii (List.getD b (Int.toNat x21_1) 0))] rfl (by kernel_rfl) ?_
        refine XR.done (by kernel_rfl) ?_
        show XQ _ _ _ _ _ _ _ _
        refine XQ.seq E0_ok (by kernel_rfl) ?_
        refine XQ.quiet E0_ok (by kernel_rfl) (by kernel_rfl) ?_
        refine XU.run E0_ok 1 6 [0, 1, 11, 12] rfl (σ' := [(0, pp 1 0), (1, ii (List.getD b (Int.toNat x21_1) 0)), (11, .int .u64 (xorV .u64 18446744073709551615 xh1_1_1)), (12, ii (List.getD b (Int.toNat x21_1) 0))]) (by kernel_rfl) ?_
        cases b3 : (decide (0 ≤ List.getD b (Int.toNat x21_1) 0) : Bool) with
        | false => cases (cF b3 h)
        | true =>
          have h := cT b3 h
          have e4 : insV (headI ((gsOf E0 44 (opsOf (lft (rgt f23_C30)))).drop 6) (trS 44 [(0, pp 1 0), (1, ii (List.getD b (Int.toNat x21_1) 0)), (11, .int .u64 (xorV .u64 18446744073709551615 xh1_1_1)), (12, ii (List.getD b (Int.toNat x21_1) 0))])) (trS 44 [(0, pp 1 0), (1, ii (List.getD b (Int.toNat x21_1) 0)), (11, .int .u64 (xorV .u64 18446744073709551615 xh1_1_1)), (12, ii (List.getD b (Int.toNat x21_1) 0))]) [(2, rc encF lh2_1 0 54 1), (1, .cells [ii a, .int .u64 xh1_1_1] 0 76 0), (0, rc (encI .i64) b z0 y0 1)] = (match (decide (0 ≤ List.getD b (Int.toNat x21_1) 0) : Bool) with | true => some (.int .u64 (shV false .u64 (xorV .u64 18446744073709551615 xh1_1_1) (List.getD b (Int.toNat x21_1) 0))) | false => none) := by kernel_rfl
          refine XU.rd E0_ok [0, 1, 13] rfl (e4.trans (by rw [b3])) (σ' := [(0, pp 1 0), (1, ii (List.getD b (Int.toNat x21_1) 0)), (13, .int .u64 (shV false .u64 (xorV .u64 18446744073709551615 xh1_1_1) (List.getD b (Int.toNat x21_1) 0)))]) (by kernel_rfl) ?_
          refine XU.run E0_ok 1 1 [0, 1, 13, 14] rfl (σ' := [(0, pp 1 0), (1, ii (List.getD b (Int.toNat x21_1) 0)), (13, .int .u64 (shV false .u64 (xorV .u64 18446744073709551615 xh1_1_1) (List.getD b (Int.toNat x21_1) 0))), (14, ii (List.getD b (Int.toNat x21_1) 0))]) (by kernel_rfl) ?_
          have e5 : insV (headI ((gsOf E0 44 (opsOf (lft (rgt f23_C30)))).drop 8) (trS 44 [(0, pp 1 0), (1, ii (List.getD b (Int.toNat x21_1) 0)), (13, .int .u64 (shV false .u64 (xorV .u64 18446744073709551615 xh1_1_1) (List.getD b (Int.toNat x21_1) 0))), (14, ii (List.getD b (Int.toNat x21_1) 0))])) (trS 44 [(0, pp 1 0), (1, ii (List.getD b (Int.toNat x21_1) 0)), (13, .int .u64 (shV false .u64 (xorV .u64 18446744073709551615 xh1_1_1) (List.getD b (Int.toNat x21_1) 0))), (14, ii (List.getD b (Int.toNat x21_1) 0))]) [(2, rc encF lh2_1 0 54 1), (1, .cells [ii a, .int .u64 xh1_1_1] 0 76 0), (0, rc (encI .i64) b z0 y0 1)] = (match (decide (0 ≤ List.getD b (Int.toNat x21_1) 0) : Bool) with | true => some (.int .u64 (shV true .u64 (shV false .u64 (xorV .u64 18446744073709551615 xh1_1_1) (List.getD b (Int.toNat x21_1) 0)) (List.getD b (Int.toNat x21_1) 0))) | false => none) := by kernel_rfl
          refine XU.rd E0_ok [0, 1, 15] rfl (e5.trans (by rw [b3])) (σ' := [(0, pp 1 0), (1, ii (List.getD b (Int.toNat x21_1) 0)), (15, .int .u64 (shV true .u64 (shV false .u64 (xorV .u64 18446744073709551615 xh1_1_1) (List.getD b (Int.toNat x21_1) 0)) (List.getD b (Int.toNat x21_1) 0)))]) (by kernel_rfl) ?_
          refine XU.run E0_ok 1 4 [0, 1, 15, 19] rfl (σ' := [(0, pp 1 0), (1, ii (List.getD b (Int.toNat x21_1) 0)), (15, .int .u64 (shV true .u64 (shV false .u64 (xorV .u64 18446744073709551615 xh1_1_1) (List.getD b (Int.toNat x21_1) 0)) (List.getD b (Int.toNat x21_1) 0))), (19, ii a)]) (by kernel_rfl) ?_
          cases b6 : (decide (0 ≤ a) : Bool) with
          | false => cases (cF b6 h)
          | true =>
            have h := cT b6 h
            have e7 : insV (headI ((gsOf E0 44 (opsOf (lft (rgt f23_C30)))).drop 13) (trS 44 [(0, pp 1 0), (1, ii (List.getD b (Int.toNat x21_1) 0)), (15, .int .u64 (shV true .u64 (shV false .u64 (xorV .u64 18446744073709551615 xh1_1_1) (List.getD b (Int.toNat x21_1) 0)) (List.getD b (Int.toNat x21_1) 0))), (19, ii a)])) (trS 44 [(0, pp 1 0), (1, ii (List.getD b (Int.toNat x21_1) 0)), (15, .int .u64 (shV true .u64 (shV false .u64 (xorV .u64 18446744073709551615 xh1_1_1) (List.getD b (Int.toNat x21_1) 0)) (List.getD b (Int.toNat x21_1) 0))), (19, ii a)]) [(2, rc encF lh2_1 0 54 1), (1, .cells [ii a, .int .u64 xh1_1_1] 0 76 0), (0, rc (encI .i64) b z0 y0 1)] = (match (decide (0 ≤ a) : Bool) with | true => some (.int .u64 (shV true .u64 1 a)) | false => none) := by kernel_rfl
            refine XU.rd E0_ok [0, 1, 15, 20] rfl (e7.trans (by rw [b6])) (σ' := [(0, pp 1 0), (1, ii (List.getD b (Int.toNat x21_1) 0)), (15, .int .u64 (shV true .u64 (shV false .u64 (xorV .u64 18446744073709551615 xh1_1_1) (List.getD b (Int.toNat x21_1) 0)) (List.getD b (Int.toNat x21_1) 0))), (20, .int .u64 (shV true .u64 1 a))]) (by kernel_rfl) ?_
            refine XU.run E0_ok 1 3 [0, 1, 5] rfl (σ' := [(0, pp 1 0), (1, ii (List.getD b (Int.toNat x21_1) 0)), (5, .int .u64 (andV .u64 (shV true .u64 (shV false .u64 (xorV .u64 18446744073709551615 xh1_1_1) (List.getD b (Int.toNat x21_1) 0)) (List.getD b (Int.toNat x21_1) 0)) (IntKind.wrap .u64 ((shV true .u64 1 a) - 1))))]) (by kernel_rfl) ?_
            refine XU.done (by kernel_rfl) ?_
            show XQ _ _ _ _ _ _ _ _
            refine XQ.seq E0_ok (by kernel_rfl) ?_
            refine XQ.seq E0_ok (by kernel_rfl) ?_
            refine XQ.region (by kernel_rfl) ?_
            refine XR.runS E0_ok 1 2 [(0, pp 1 0), (1, ii (List.getD b (Int.toNat x21_1) 0)), (5, .int .u64 (andV .u64 (shV true .u64 (shV false .u64 (xorV .u64 18446744073709551615 xh1_1_1) (List.getD b (Int.toNat x21_1) 0)) (List.getD b (Int.toNat x21_1) 0)) (IntKind.wrap .u64 ((shV true .u64 1 a) - 1)))), (24, .bool ((andV .u64 (shV true .u64 (shV false .u64 (xorV .u64 18446744073709551615 xh1_1_1) (List.getD b (Int.toNat x21_1) 0)) (List.getD b (Int.toNat x21_1) 0)) (IntKind.wrap .u64 ((shV true .u64 1 a) - 1))) == 0))] rfl (by kernel_rfl) ?_
            refine XR.done (by kernel_rfl) ?_
            show XQ _ _ _ _ _ _ _ _
            cases b8 : ((andV .u64 (shV true .u64 (shV false .u64 (xorV .u64 18446744073709551615 xh1_1_1) (List.getD b (Int.toNat x21_1) 0)) (List.getD b (Int.toNat x21_1) 0)) (IntKind.wrap .u64 ((shV true .u64 1 a) - 1))) == 0 : Bool) with
            | true =>
              have h := cT b8 h
              refine XQ.cond (s := (.tmp 24)) (b := true) (by kernel_rfl) (by kernel_rfl) (fun _ => ?_) (fun q => by cases q)
              refine XQ.seq E0_ok (by kernel_rfl) ?_
              refine XQ.region (by kernel_rfl) ?_
              refine XR.runS E0_ok 1 3 [(4, .iface 58 (.agg #[]))] rfl (by kernel_rfl) ?_
              refine XR.done (by kernel_rfl) ?_
              show XQ _ _ _ _ _ _ _ _
              refine XQ.ret (by kernel_rfl) ?_
              refine ⟨fun i q => (by cases q), .iface 58 (.agg #[]), (by kernel_rfl), ?_⟩
              refine XR.conv (σ' := [(7, pp 1 0), (19, s0 0 b.length), (20, ii x20_1), (21, ii x21_1), (25, s0 2 lh2_1.length), (27, .iface 58 (.agg #[]))]) (h' := [(2, rc encF lh2_1 0 54 1), (1, .cells [ii a, .int .u64 xh1_1_1] 0 76 0), (0, rc (encI .i64) b z0 y0 1)]) (c' := 3) ?_ (by kernel_rfl)
              refine XR.runT E0_ok 1 1 [(7, pp 1 0), (19, s0 0 b.length), (20, ii x20_1), (21, ii x21_1), (25, s0 2 lh2_1.length), (28, s0 3 1)] [(3, .cells [.iface 58 (.agg #[])] 0 54 1), (2, rc encF lh2_1 0 54 1), (1, .cells [ii a, .int .u64 xh1_1_1] 0 76 0), (0, rc (encI .i64) b z0 y0 1)] 4 rfl (by kernel_rfl) ?_
              cases b9 : (fitsB (lh2_1.length + 1) 16 : Bool) with
              | false => cases (cF b9 h)
              | true =>
                have h := cT b9 h
                refine XR.ef E0_ok [7, 19, 20, 21, 29] rfl (e_append encF_ok (bytes := 16) (e := 54) (x := (src 32 (.tmp 25))) (y := (src 32 (.tmp 28))) (b := 2) (len := lh2_1.length) (cap := lh2_1.length) (xs := lh2_1) (m := 0) (ys := [none]) (d := (some (path 12 29))) (n' := (lh2_1 ++ [none]).length) (h' := [(4, rc encF (lh2_1 ++ [none]) 0 54 1), (3, .cells [.iface 58 (.agg #[])] 0 54 1), (1, .cells [ii a, .int .u64 xh1_1_1] 0 76 0), (0, rc (encI .i64) b z0 y0 1)]) (by kernel_rfl) (by kernel_rfl) (by kernel_rfl) (by kernel_rfl) rfl (by simp) (by simp) b9 (by simp) (by kernel_rfl)) (σ' := [(7, pp 1 0), (19, s0 0 b.length), (20, ii x20_1), (21, ii x21_1), (29, s0 4 ((lh2_1 ++ [none]).length))]) (by kernel_rfl) ?_
                refine XR.runS E0_ok 1 1 [(7, pp 1 0), (8, s0 4 ((lh2_1 ++ [none]).length)), (19, s0 0 b.length), (20, ii x20_1), (21, ii x21_1)] rfl (by kernel_rfl) ?_
                refine XR.done (by kernel_rfl) ?_
                show XQ _ _ _ _ _ _ _ _
                refine XQ.region (by kernel_rfl) ?_
                refine XR.runS E0_ok 1 2 [(7, pp 1 0), (8, s0 4 ((lh2_1 ++ [none]).length)), (19, s0 0 b.length), (20, ii x20_1), (21, ii (w64 (x21_1 + 1)))] rfl (by kernel_rfl) ?_
                refine XR.done (by kernel_rfl) ?_
                show XL _ _ _ _ _ _ _ _ _
                refine XL.ren (σ' := [(7, pp 1 0), (8, s0 2 ((lh2_1 ++ [none]).length)), (19, s0 0 b.length), (20, ii x20_1), (21, ii (w64 (x21_1 + 1)))]) (h' := [(2, rc encF (lh2_1 ++ [none]) 0 54 1), (1, .cells [ii a, .int .u64 xh1_1_1] 0 76 0), (0, rc (encI .i64) b z0 y0 1)]) (c' := 3) [0, 1, 4] (by decide) rfl ⟨by kernel_rfl, by kernel_rfl, by kernel_rfl, by kernel_rfl, by kernel_rfl, trivial⟩ ⟨⟨_, _, rfl, rfl, .inl ⟨rfl, rowC_scal encF_ok _⟩⟩, ⟨_, _, rfl, rfl, .inr ⟨_, _, _, _, rfl, rfl⟩⟩, ⟨_, _, rfl, rfl, .inl ⟨rfl, rowC_scal (encI_ok .i64) _⟩⟩, trivial⟩ rfl ?_
                refine XL.conv (f23_1_ok m fuel a z0 y0 b x20_1 (w64 (x21_1 + 1)) xh1_1_1 (lh2_1 ++ [none]) o h Q hQ) (by first | with_reducible rfl | simp | rfl)
            | false =>
              have h := cF b8 h
              refine XQ.cond (s := (.tmp 24)) (b := false) (by kernel_rfl) (by kernel_rfl) (fun q => by cases q) (fun _ => ?_)
              refine XQ.skip (by kernel_rfl) ?_
              show XQ _ _ _ _ _ _ _ _
              refine XQ.seq E0_ok (by kernel_rfl) ?_
              refine XQ.region (by kernel_rfl) ?_
              refine XR.runS E0_ok 1 1 [(0, pp 1 0), (1, ii (List.getD b (Int.toNat x21_1) 0)), (27, .int .u64 (andV .u64 (shV true .u64 (shV false .u64 (xorV .u64 18446744073709551615 xh1_1_1) (List.getD b (Int.toNat x21_1) 0)) (List.getD b (Int.toNat x21_1) 0)) (IntKind.wrap .u64 ((shV true .u64 1 a) - 1))))] rfl (by kernel_rfl) ?_
              obtain ⟨r4, r4_h, h⟩ := bS h
              refine XR.call E0_ok [0, 1, 28] rfl (K := 57) (args := [.int .u64 (andV .u64 (shV true .u64 (shV false .u64 (xorV .u64 18446744073709551615 xh1_1_1) (List.getD b (Int.toNat x21_1) 0)) (List.getD b (Int.toNat x21_1) 0)) (IntKind.wrap .u64 ((shV true .u64 1 a) - 1)))]) (d := (some (path 12 28))) (by kernel_rfl) (KC.of_calls E0_ok (F := Proofs.Tryz.f57) (v := ii r4) (by kernel_rfl) rfl rfl (fun w hI => tzS_ok r4_h w hI)) ?_
              rintro _ _ _ ⟨rfl, rfl, rfl⟩
              refine XR.conv (σ' := [(0, pp 1 0), (1, ii (List.getD b (Int.toNat x21_1) 0)), (28, ii r4)]) (h' := [(2, rc encF lh2_1 0 54 1), (1, .cells [ii a, .int .u64 xh1_1_1] 0 76 0), (0, rc (encI .i64) b z0 y0 1)]) (c' := 3) ?_ (by kernel_rfl)
              refine XR.runS E0_ok 1 1 [(0, pp 1 0), (1, ii (List.getD b (Int.toNat x21_1) 0)), (6, ii r4)] rfl (by kernel_rfl) ?_
              refine XR.done (by kernel_rfl) ?_
              show XQ _ _ _ _ _ _ _ _
              refine XQ.seq E0_ok (by kernel_rfl) ?_
              refine XQ.tail E0_ok 9 (by kernel_rfl) (by kernel_rfl) ?_
              refine XS.step E0_ok 5 rfl [1, 6, 29, 32, 33] rfl (σ' := [(1, ii (List.getD b (Int.toNat x21_1) 0)), (6, ii r4), (29, pp 1 0), (32, .int .u64 xh1_1_1), (33, ii r4)]) (by kernel_rfl) ?_
              cases b10 : (decide (0 ≤ r4) : Bool) with
              | false => cases (cF b10 h)
              | true =>
                have h := cT b10 h
                have e11 : insV (headI ((gsOf E0 44 (opsOf (lft (rgt (rgt (rgt (rgt f23_C30))))))).drop 5) (trS 44 [(1, ii (List.getD b (Int.toNat x21_1) 0)), (6, ii r4), (29, pp 1 0), (32, .int .u64 xh1_1_1), (33, ii r4)])) (trS 44 [(1, ii (List.getD b (Int.toNat x21_1) 0)), (6, ii r4), (29, pp 1 0), (32, .int .u64 xh1_1_1), (33, ii r4)]) [(2, rc encF lh2_1 0 54 1), (1, .cells [ii a, .int .u64 xh1_1_1] 0 76 0), (0, rc (encI .i64) b z0 y0 1)] = (match (decide (0 ≤ r4) : Bool) with | true => some (.int .u64 (shV true .u64 1 r4)) | false => none) := by kernel_rfl
                refine XS.rd E0_ok rfl [1, 6, 29, 32, 34] rfl (e11.trans (by rw [b10])) (σ' := [(1, ii (List.getD b (Int.toNat x21_1) 0)), (6, ii r4), (29, pp 1 0), (32, .int .u64 xh1_1_1), (34, .int .u64 (shV true .u64 1 r4))]) (by kernel_rfl) ?_
                refine XS.step E0_ok 3 rfl [1, 6, 35, 37] rfl (σ' := [(1, ii (List.getD b (Int.toNat x21_1) 0)), (6, ii r4), (35, .int .u64 (orV .u64 xh1_1_1 (shV true .u64 1 r4))), (37, pp 1 1)]) (by kernel_rfl) ?_
                refine XS.done (by kernel_rfl) ?_
                refine XR.runT E0_ok 1 1 [(1, ii (List.getD b (Int.toNat x21_1) 0)), (6, ii r4)] [(2, rc encF lh2_1 0 54 1), (1, .cells [ii a, .int .u64 (orV .u64 xh1_1_1 (shV true .u64 1 r4))] 0 76 0), (0, rc (encI .i64) b z0 y0 1)] 3 rfl (by kernel_rfl) ?_
                refine XR.done (by kernel_rfl) ?_
                show XQ _ _ _ _ _ _ _ _
                refine XQ.seq E0_ok (by kernel_rfl) ?_
                refine XQ.region (by kernel_rfl) ?_
                refine XR.runS E0_ok 1 7 [(4, .iface 56 (.agg #[ii r4, ii (w64 (r4 - (List.getD b (Int.toNat x21_1) 0)))]))] rfl (by kernel_rfl) ?_
                refine XR.done (by kernel_rfl) ?_
                show XQ _ _ _ _ _ _ _ _
                refine XQ.ret (by kernel_rfl) ?_
                refine ⟨fun i q => (by cases q), .iface 56 (.agg #[ii r4, ii (w64 (r4 - (List.getD b (Int.toNat x21_1) 0)))]), (by kernel_rfl), ?_⟩
                refine XR.conv (σ' := [(7, pp 1 0), (19, s0 0 b.length), (20, ii x20_1), (21, ii x21_1), (25, s0 2 lh2_1.length), (27, .iface 56 (.agg #[ii r4, ii (w64 (r4 - (List.getD b (Int.toNat x21_1) 0)))]))]) (h' := [(2, rc encF lh2_1 0 54 1), (1, .cells [ii a, .int .u64 (orV .u64 xh1_1_1 (shV true .u64 1 r4))] 0 76 0), (0, rc (encI .i64) b z0 y0 1)]) (c' := 3) ?_ (by kernel_rfl)
                refine XR.runT E0_ok 1 1 [(7, pp 1 0), (19, s0 0 b.length), (20, ii x20_1), (21, ii x21_1), (25, s0 2 lh2_1.length), (28, s0 3 1)] [(3, .cells [.iface 56 (.agg #[ii r4, ii (w64 (r4 - (List.getD b (Int.toNat x21_1) 0)))])] 0 54 1), (2, rc encF lh2_1 0 54 1), (1, .cells [ii a, .int .u64 (orV .u64 xh1_1_1 (shV true .u64 1 r4))] 0 76 0), (0, rc (encI .i64) b z0 y0 1)] 4 rfl (by kernel_rfl) ?_
                cases b12 : (fitsB (lh2_1.length + 1) 16 : Bool) with
                | false => cases (cF b12 h)
                | true =>
                  have h := cT b12 h
                  refine XR.ef E0_ok [7, 19, 20, 21, 29] rfl (e_append encF_ok (bytes := 16) (e := 54) (x := (src 32 (.tmp 25))) (y := (src 32 (.tmp 28))) (b := 2) (len := lh2_1.length) (cap := lh2_1.length) (xs := lh2_1) (m := 0) (ys := [some (r4, w64 (r4 - (List.getD b (Int.toNat x21_1) 0)))]) (d := (some (path 12 29))) (n' := (lh2_1 ++ [some (r4, w64 (r4 - (List.getD b (Int.toNat x21_1) 0)))]).length) (h' := [(4, rc encF (lh2_1 ++ [some (r4, w64 (r4 - (List.getD b (Int.toNat x21_1) 0)))]) 0 54 1), (3, .cells [.iface 56 (.agg #[ii r4, ii (w64 (r4 - (List.getD b (Int.toNat x21_1) 0)))])] 0 54 1), (1, .cells [ii a, .int .u64 (orV .u64 xh1_1_1 (shV true .u64 1 r4))] 0 76 0), (0, rc (encI .i64) b z0 y0 1)]) (by kernel_rfl) (by kernel_rfl) (by kernel_rfl) (by kernel_rfl) rfl (by simp) (by simp) b12 (by simp) (by kernel_rfl)) (σ' := [(7, pp 1 0), (19, s0 0 b.length), (20, ii x20_1), (21, ii x21_1), (29, s0 4 ((lh2_1 ++ [some (r4, w64 (r4 - (List.getD b (Int.toNat x21_1) 0)))]).length))]) (by kernel_rfl) ?_
                  refine XR.runS E0_ok 1 1 [(7, pp 1 0), (8, s0 4 ((lh2_1 ++ [some (r4, w64 (r4 - (List.getD b (Int.toNat x21_1) 0)))]).length)), (19, s0 0 b.length), (20, ii x20_1), (21, ii x21_1)] rfl (by kernel_rfl) ?_
                  refine XR.done (by kernel_rfl) ?_
                  show XQ _ _ _ _ _ _ _ _
                  refine XQ.region (by kernel_rfl) ?_
                  refine XR.runS E0_ok 1 2 [(7, pp 1 0), (8, s0 4 ((lh2_1 ++ [some (r4, w64 (r4 - (List.getD b (Int.toNat x21_1) 0)))]).length)), (19, s0 0 b.length), (20, ii x20_1), (21, ii (w64 (x21_1 + 1)))] rfl (by kernel_rfl) ?_
                  refine XR.done (by kernel_rfl) ?_
                  show XL _ _ _ _ _ _ _ _ _
                  refine XL.ren (σ' := [(7, pp 1 0), (8, s0 2 ((lh2_1 ++ [some (r4, w64 (r4 - (List.getD b (Int.toNat x21_1) 0)))]).length)), (19, s0 0 b.length), (20, ii x20_1), (21, ii (w64 (x21_1 + 1)))]) (h' := [(2, rc encF (lh2_1 ++ [some (r4, w64 (r4 - (List.getD b (Int.toNat x21_1) 0)))]) 0 54 1), (1, .cells [ii a, .int .u64 (orV .u64 xh1_1_1 (shV true .u64 1 r4))] 0 76 0), (0, rc (encI .i64) b z0 y0 1)]) (c' := 3) [0, 1, 4] (by decide) rfl ⟨by kernel_rfl, by kernel_rfl, by kernel_rfl, by kernel_rfl, by kernel_rfl, trivial⟩ ⟨⟨_, _, rfl, rfl, .inl ⟨rfl, rowC_scal encF_ok _⟩⟩, ⟨_, _, rfl, rfl, .inr ⟨_, _, _, _, rfl, rfl⟩⟩, ⟨_, _, rfl, rfl, .inl ⟨rfl, rowC_scal (encI_ok .i64) _⟩⟩, trivial⟩ rfl ?_
                  refine XL.conv (f23_1_ok m fuel a z0 y0 b x20_1 (w64 (x21_1 + 1)) (orV .u64 xh1_1_1 (shV true .u64 1 r4)) (lh2_1 ++ [some (r4, w64 (r4 - (List.getD b (Int.toNat x21_1) 0)))]) o h Q hQ) (by first | with_reducible rfl | simp | rfl)
    | false =>
      have h := cF b1 h
      refine XQ.cond (s := (.tmp 22)) (b := false) (by kernel_rfl) (by kernel_rfl) (fun q => by cases q) (fun _ => ?_)
      refine XQ.ren (σ' := [(8, s0 1 lh2_1.length)]) (h' := [(1, rc encF lh2_1 0 54 1), (0, rc (encI .i64) b z0 y0 1)]) (c' := 2) [0, 2] (by decide) rfl ⟨by kernel_rfl, trivial⟩ ⟨⟨_, _, rfl, rfl, .inl ⟨rfl, rowC_scal encF_ok _⟩⟩, ⟨_, _, rfl, rfl, .inl ⟨rfl, rowC_scal (encI_ok .i64) _⟩⟩, trivial⟩ rfl ?_
      refine XQ.exit (i := 0) (by kernel_rfl) ?_
      cases h
      exact hQ

def f23 (m : Nat) (a : Int) (b : List Int) : Option ((List (Option (Int × Int))) × Int) :=
  (f53 m a b).bind fun r1 =>
    cond (r1 != 0) (
      some ([], r1)
    ) (
      (f23_1 m m a b ((b.length : Nat) : Int) 0 0 []).bind fun o1 =>
        some (o1, 0)
    )

theorem f23_ok (m : Nat) (z0 : Nat) (y0 : Nat) (a : Int) (b : List Int) (o : (List (Option (Int × Int))) × Int) (h : f23 m a b = some o) : KC E0 23 [ii a, s0 0 b.length] [(0, rc (encI .i64) b z0 y0 1)] 1 (fun v h' c' => v = .tuple #[s0 1 o.1.length, ii o.2] ∧ h' = [(1, rc encF o.1 0 54 1)] ++ [(0, rc (encI .i64) b z0 y0 1)] ∧ c' = 2) := by
  refine KC.bodyN E0_ok (F := Proofs.Tryz.f23) (by kernel_rfl) (code := f23_C23) (by kernel_rfl) (nt := 32) (by kernel_rfl) (rs := [.tmp 4, .tmp 5]) (by kernel_rfl) (by kernel_rfl) (σ := [(0, ii a), (1, s0 0 b.length)]) (by kernel_rfl) ?_
  unfold f23 at h
  refine XQ.seq E0_ok (by kernel_rfl) ?_
  refine XQ.region (by kernel_rfl) ?_
  refine XR.runS E0_ok 1 2 [(0, ii a), (1, s0 0 b.length)] rfl (by kernel_rfl) ?_
  refine XR.done (by kernel_rfl) ?_
  show XQ _ _ _ _ _ _ _ _
  refine XQ.seq E0_ok (by kernel_rfl) ?_
  refine XQ.seq E0_ok (by kernel_rfl) ?_
  refine XQ.region (by kernel_rfl) ?_
  refine XR.runS E0_ok 1 2 [(0, ii a), (1, s0 0 b.length), (11, ii a), (12, s0 0 b.length)] rfl (by kernel_rfl) ?_
  obtain ⟨r1, r1_h, h⟩ := bS h
  refine XR.call E0_ok [0, 1, 13] rfl (K := 53) (args := [ii a, s0 0 b.length]) (d := (some (path 12 13))) (by kernel_rfl) (KQ.call (KC.quiet E0_ok (args0 := [ii a, s0 0 b.length]) (h0 := [(0, rc (encI .i64) b (z0 + ((rowC (encI .i64) b).length + 1)) y0 1)]) (n := 1) (V := ii r1) [0] (f53_ok m (z0 + ((rowC (encI .i64) b).length + 1)) y0 a b r1 r1_h) rfl (by rfl) (by decide) rfl (by kernel_rfl) ⟨⟨_, _, rfl, rfl, .inl ⟨rfl, rowC_scal (encI_ok .i64) _⟩⟩, trivial⟩) rfl) ?_
  rintro _ _ _ ⟨rfl, rfl, rfl⟩
  refine XR.conv (σ' := [(0, ii a), (1, s0 0 b.length), (13, ii r1)]) (h' := [(0, rc (encI .i64) b z0 y0 1)]) (c' := 1) ?_ (by kernel_rfl)
  refine XR.runS E0_ok 1 1 [(0, ii a), (1, s0 0 b.length), (6, ii r1)] rfl (by kernel_rfl) ?_
  refine XR.done (by kernel_rfl) ?_
  show XQ _ _ _ _ _ _ _ _
  refine XQ.seq E0_ok (by kernel_rfl) ?_
  refine XQ.region (by kernel_rfl) ?_
  refine XR.runS E0_ok 1 2 [(0, ii a), (1, s0 0 b.length), (6, ii r1), (15, .bool (r1 != 0))] rfl (by kernel_rfl) ?_
  refine XR.done (by kernel_rfl) ?_
  show XQ _ _ _ _ _ _ _ _
  cases b1 : (r1 != 0 : Bool) with
  | true =>
    have h := cT b1 h
    refine XQ.cond (s := (.tmp 15)) (b := true) (by kernel_rfl) (by kernel_rfl) (fun _ => ?_) (fun q => by cases q)
    refine XQ.seq E0_ok (by kernel_rfl) ?_
    refine XQ.region (by kernel_rfl) ?_
    refine XR.runS E0_ok 1 3 [(4, .slice none 0 0), (5, ii r1)] rfl (by kernel_rfl) ?_
    refine XR.done (by kernel_rfl) ?_
    show XQ _ _ _ _ _ _ _ _
    refine XQ.ghost 54 1 rfl (σ' := [(4, s0 1 0), (5, ii r1)]) (h' := [(0, rc (encI .i64) b z0 y0 1)]) ⟨by kernel_rfl, by kernel_rfl, trivial⟩ ⟨⟨_, rfl, .inl rfl⟩, trivial⟩ ?_
    refine XQ.conv (σ' := [(4, s0 1 0), (5, ii r1)]) (h' := [(1, rc encF [] 0 54 1), (0, rc (encI .i64) b z0 y0 1)]) (c' := 2) ?_ (by kernel_rfl)
    refine XQ.ren (σ' := [(4, s0 1 0), (5, ii r1)]) (h' := [(1, rc encF [] 0 54 1), (0, rc (encI .i64) b z0 y0 1)]) (c' := 2) [0, 1] (by decide) rfl ⟨by kernel_rfl, by kernel_rfl, trivial⟩ ⟨⟨_, _, rfl, rfl, .inl ⟨rfl, rowC_scal encF_ok _⟩⟩, ⟨_, _, rfl, rfl, .inl ⟨rfl, rowC_scal (encI_ok .i64) _⟩⟩, trivial⟩ rfl ?_
    refine XQ.ret (by kernel_rfl) ?_
    have h := Option.some.inj h
    subst h
    exact ⟨fun i q => (by cases q), .tuple #[s0 1 0, ii r1], (by kernel_rfl), (by kernel_rfl), (by kernel_rfl), rfl⟩
  | false =>
    have h := cF b1 h
    refine XQ.cond (s := (.tmp 15)) (b := false) (by kernel_rfl) (by kernel_rfl) (fun q => by cases q) (fun _ => ?_)
    refine XQ.skip (by kernel_rfl) ?_
    show XQ _ _ _ _ _ _ _ _
    refine XQ.seq E0_ok (by kernel_rfl) ?_
    refine XQ.region (by kernel_rfl) ?_
    refine XR.runT E0_ok 1 4 [(1, s0 0 b.length), (7, pp 1 0)] [(1, .cells [ii a, .int .u64 0] 0 76 0), (0, rc (encI .i64) b z0 y0 1)] 2 rfl (by kernel_rfl) ?_
    refine XR.done (by kernel_rfl) ?_
    show XQ _ _ _ _ _ _ _ _
    refine XQ.seq E0_ok (by kernel_rfl) ?_
    refine XQ.region (by kernel_rfl) ?_
    refine XR.runS E0_ok 1 1 [(1, s0 0 b.length), (7, pp 1 0), (8, .slice none 0 0)] rfl (by kernel_rfl) ?_
    refine XR.done (by kernel_rfl) ?_
    show XQ _ _ _ _ _ _ _ _
    refine XQ.ghost 54 1 rfl (σ' := [(1, s0 0 b.length), (7, pp 1 0), (8, s0 2 0)]) (h' := [(1, .cells [ii a, .int .u64 0] 0 76 0), (0, rc (encI .i64) b z0 y0 1)]) ⟨by kernel_rfl, by kernel_rfl, by kernel_rfl, trivial⟩ ⟨⟨_, rfl, .inl rfl⟩, ⟨_, rfl, .inl rfl⟩, trivial⟩ ?_
    refine XQ.conv (σ' := [(1, s0 0 b.length), (7, pp 1 0), (8, s0 2 0)]) (h' := [(2, rc encF [] 0 54 1), (1, .cells [ii a, .int .u64 0] 0 76 0), (0, rc (encI .i64) b z0 y0 1)]) (c' := 3) ?_ (by kernel_rfl)
    refine XQ.seq E0_ok (by kernel_rfl) ?_
    refine XQ.seq E0_ok (by kernel_rfl) ?_
    refine XQ.region (by kernel_rfl) ?_
    refine XR.runS E0_ok 1 3 [(7, pp 1 0), (8, s0 2 0), (19, s0 0 b.length), (20, ii ((b.length : Nat) : Int)), (21, ii 0)] rfl (by kernel_rfl) ?_
    refine XR.done (by kernel_rfl) ?_
    show XQ _ _ _ _ _ _ _ _
    refine XQ.block (id := 0) (by kernel_rfl) ?_
    refine XQ.loop m (by kernel_rfl) ?_
    obtain ⟨o1, o1_h, h⟩ := bS h
    refine XL.ren (σ' := [(7, pp 1 0), (8, s0 2 0), (19, s0 0 b.length), (20, ii ((b.length : Nat) : Int)), (21, ii 0)]) (h' := [(2, rc encF [] 0 54 1), (1, .cells [ii a, .int .u64 0] 0 76 0), (0, rc (encI .i64) b z0 y0 1)]) (c' := 3) [0, 1, 2] (by decide) rfl ⟨by kernel_rfl, by kernel_rfl, by kernel_rfl, by kernel_rfl, by kernel_rfl, trivial⟩ ⟨⟨_, _, rfl, rfl, .inl ⟨rfl, rowC_scal encF_ok _⟩⟩, ⟨_, _, rfl, rfl, .inr ⟨_, _, _, _, rfl, rfl⟩⟩, ⟨_, _, rfl, rfl, .inl ⟨rfl, rowC_scal (encI_ok .i64) _⟩⟩, trivial⟩ rfl ?_
    refine XL.conv (f23_1_ok m m a z0 y0 b ((b.length : Nat) : Int) 0 0 [] o1 o1_h _ ?_) (by first | with_reducible rfl | simp | rfl)
    show XQ _ _ _ _ _ _ _ _
    refine XQ.seq E0_ok (by kernel_rfl) ?_
    refine XQ.region (by kernel_rfl) ?_
    refine XR.runS E0_ok 1 3 [(4, s0 1 o1.length), (5, ii 0)] rfl (by kernel_rfl) ?_
    refine XR.done (by kernel_rfl) ?_
    show XQ _ _ _ _ _ _ _ _
    refine XQ.ren (σ' := [(4, s0 1 o1.length), (5, ii 0)]) (h' := [(1, rc encF o1 0 54 1), (0, rc (encI .i64) b z0 y0 1)]) (c' := 2) [0, 1] (by decide) rfl ⟨by kernel_rfl, by kernel_rfl, trivial⟩ ⟨⟨_, _, rfl, rfl, .inl ⟨rfl, rowC_scal encF_ok _⟩⟩, ⟨_, _, rfl, rfl, .inl ⟨rfl, rowC_scal (encI_ok .i64) _⟩⟩, trivial⟩ rfl ?_
    refine XQ.ret (by kernel_rfl) ?_
    have h := Option.some.inj h
    subst h
    exact ⟨fun i q => (by cases q), .tuple #[s0 1 o1.length, ii 0], (by kernel_rfl), (by kernel_rfl), (by kernel_rfl), rfl⟩

/-! vitola/dock.Park -/
noncomputable def f6_C6 : Code := Proofs.Tryz.f6.body.getD .skip
noncomputable def f6_L1 : Code := lft (lft (rgt (lft (rgt (rgt (rgt f6_C6))))))

def f6_1 (m : Nat) : Nat → List Int → Int → Int → Int → List Int → List (Option (Int × Int)) → Option (Int × (List Int))
  | 0, _, _, _, _, _, _ => none
  | fuel + 1, b, x7_1, x20_1, x21_1, lh1_1, lh2_1 =>
    cond (decide (x21_1 < x20_1)) (
      cond (inRow x21_1 lh2_1.length) (
        cond (Option.isSome (List.getD lh2_1 (Int.toNat x21_1) none)) (
          cond (fitsB (lh1_1.length + 1) 8) (
            f6_1 m fuel b x7_1 x20_1 (w64 (x21_1 + 1)) (lh1_1 ++ [(Option.getD (List.getD lh2_1 (Int.toNat x21_1) none) (0, 0)).1]) lh2_1
          ) none
        ) (
          cond (fitsB (lh1_1.length + 1) 8) (
            f6_1 m fuel b x7_1 x20_1 (w64 (x21_1 + 1)) (lh1_1 ++ [(-1)]) lh2_1
          ) none
        )
      ) none
    ) (
      some (x7_1, lh1_1)
    )

theorem f6_1_ok (m : Nat) : ∀ (fuel : Nat) (z0 : Nat) (y0 : Nat) (b : List Int) (x7_1 : Int) (x20_1 : Int) (x21_1 : Int) (lh1_1 : List Int) (lh2_1 : List (Option (Int × Int))) (o : (Int × (List Int))), f6_1 m fuel b x7_1 x20_1 x21_1 lh1_1 lh2_1 = some o → ∀ Q : QP, Q (.exit 0) [(7, ii o.1), (8, s0 1 o.2.length)] [(1, rc (encI .i64) o.2 0 3 1), (0, rc (encI .i64) b z0 y0 1)] 2 → XL E0 43 1 fuel f6_L1 [(7, ii x7_1), (8, s0 1 lh1_1.length), (19, s0 2 lh2_1.length), (20, ii x20_1), (21, ii x21_1)] [(2, rc encF lh2_1 0 54 1), (1, rc (encI .i64) lh1_1 0 3 1), (0, rc (encI .i64) b z0 y0 1)] 3 Q
  | 0, z0, y0, b, x7_1, x20_1, x21_1, lh1_1, lh2_1, o, h, Q, hQ => by cases h
  | fuel + 1, z0, y0, b, x7_1, x20_1, x21_1, lh1_1, lh2_1, o, h, Q, hQ => by
    unfold f6_1 at h
    refine XL.succ E0_ok ?_
    refine XQ.seq E0_ok (by kernel_rfl) ?_
    refine XQ.region (by kernel_rfl) ?_
    refine XR.runS E0_ok 1 1 [(7, ii x7_1), (8, s0 1 lh1_1.length), (19, s0 2 lh2_1.length), (20, ii x20_1), (21, ii x21_1), (22, .bool (decide (x21_1 < x20_1)))] rfl (by kernel_rfl) ?_
    refine XR.done (by kernel_rfl) ?_
    show XQ _ _ _ _ _ _ _ _
    refine XQ.seq E0_ok (by kernel_rfl) ?_
    cases b1 : (decide (x21_1 < x20_1) : Bool) with
    | true =>
      have h := cT b1 h
      refine XQ.cond (s := (.tmp 22)) (b := true) (by kernel_rfl) (by kernel_rfl) (fun _ => ?_) (fun q => by cases q)
      refine XQ.skip (by kernel_rfl) ?_
      show XQ _ _ _ _ _ _ _ _
      refine XQ.seq E0_ok (by kernel_rfl) ?_
      refine XQ.block (id := 1) (by kernel_rfl) ?_
      refine XQ.seq E0_ok (by kernel_rfl) ?_
      refine XQ.region (by kernel_rfl) ?_
      cases b2 : (inRow x21_1 lh2_1.length : Bool) with
      | false => cases (cF b2 h)
      | true =>
        have h := cT b2 h
        refine XR.rd E0_ok [7, 8, 19, 20, 21, 23] rfl (v := pp 2 ((Int.toNat x21_1) * 1)) (v_idx (s := 1) (x := (src 43 (.tmp 19))) (y := (src 43 (.tmp 21))) (b := 2) (o := 0) (len := lh2_1.length) (cap := lh2_1.length) (ik := .i64) (i := x21_1) (off := (Int.toNat x21_1) * 1) (d := (some (path 12 23))) (by kernel_rfl) (by kernel_rfl) (by kernel_rfl) b2 (by omega)) (σ' := [(7, ii x7_1), (8, s0 1 lh1_1.length), (19, s0 2 lh2_1.length), (20, ii x20_1), (21, ii x21_1), (23, pp 2 ((Int.toNat x21_1) * 1))]) (by kernel_rfl) ?_
        refine XR.rd E0_ok [7, 8, 19, 20, 21, 24] rfl (v := optF (List.getD lh2_1 (Int.toNat x21_1) none)) (v_load1 encF_ok (x := (src 43 (.tmp 23))) (b := 2) (off := (Int.toNat x21_1) * 1) (xs := lh2_1) (fz := 0) (e := 54) (es := 1) (d := (some (path 12 24))) (by kernel_rfl) (by kernel_rfl) (by kernel_rfl) (Int.toNat x21_1) 0 none (by first | with_reducible rfl | omega | rfl) (row_len (inRow_toNat b2) (by simp)) rfl rfl) (σ' := [(7, ii x7_1), (8, s0 1 lh1_1.length), (19, s0 2 lh2_1.length), (20, ii x20_1), (21, ii x21_1), (24, optF (List.getD lh2_1 (Int.toNat x21_1) none))]) (by kernel_rfl) ?_
        refine XR.runS E0_ok 1 1 [(7, ii x7_1), (8, s0 1 lh1_1.length), (10, optF (List.getD lh2_1 (Int.toNat x21_1) none)), (19, s0 2 lh2_1.length), (20, ii x20_1), (21, ii x21_1)] rfl (by kernel_rfl) ?_
        refine XR.done (by kernel_rfl) ?_
        show XQ _ _ _ _ _ _ _ _
        refine XQ.seq E0_ok (by kernel_rfl) ?_
        refine XQ.region (by kernel_rfl) ?_
        refine XR.runS E0_ok 1 1 [(7, ii x7_1), (8, s0 1 lh1_1.length), (19, s0 2 lh2_1.length), (20, ii x20_1), (21, ii x21_1), (25, optF (List.getD lh2_1 (Int.toNat x21_1) none))] rfl (by kernel_rfl) ?_
        refine XR.done (by kernel_rfl) ?_
        show XQ _ _ _ _ _ _ _ _
        refine XQ.block (id := 2) (by kernel_rfl) ?_
        refine XQ.seq E0_ok (by kernel_rfl) ?_
        refine XQ.region (by kernel_rfl) ?_
        cases b3 : (Option.isSome (List.getD lh2_1 (Int.toNat x21_1) none) : Bool) with
        | true =>
          have h := cT b3 h
          refine XR.conv (σ' := [(7, ii x7_1), (8, s0 1 lh1_1.length), (19, s0 2 lh2_1.length), (20, ii x20_1), (21, ii x21_1), (25, .iface 56 (.agg #[ii ((Option.getD (List.getD lh2_1 (Int.toNat x21_1) none) (0, 0)).1), ii ((Option.getD (List.getD lh2_1 (Int.toNat x21_1) none) (0, 0)).2)]))]) (h' := [(2, rc encF lh2_1 0 54 1), (1, rc (encI .i64) lh1_1 0 3 1), (0, rc (encI .i64) b z0 y0 1)]) (c' := 3) ?_ (by first | (rw [optF_some b3]; done) | (rw [optF_some b3]; rfl))
          refine XR.runS E0_ok 1 3 [(7, ii x7_1), (8, s0 1 lh1_1.length), (19, s0 2 lh2_1.length), (20, ii x20_1), (21, ii x21_1), (25, .iface 56 (.agg #[ii ((Option.getD (List.getD lh2_1 (Int.toNat x21_1) none) (0, 0)).1), ii ((Option.getD (List.getD lh2_1 (Int.toNat x21_1) none) (0, 0)).2)])), (27, .bool true), (28, .agg #[ii ((Option.getD (List.getD lh2_1 (Int.toNat x21_1) none) (0, 0)).1), ii ((Option.getD (List.getD lh2_1 (Int.toNat x21_1) none) (0, 0)).2)])] rfl (by kernel_rfl) ?_
          refine XR.done (by kernel_rfl) ?_
          show XQ _ _ _ _ _ _ _ _
          refine XQ.cond (s := (.tmp 27)) (b := true) (by kernel_rfl) (by kernel_rfl) (fun _ => ?_) (fun q => by cases q)
          refine XQ.seq E0_ok (by kernel_rfl) ?_
          refine XQ.region (by kernel_rfl) ?_
          refine XR.runT E0_ok 1 2 [(7, ii x7_1), (8, s0 1 lh1_1.length), (11, pp 3 0), (19, s0 2 lh2_1.length), (20, ii x20_1), (21, ii x21_1)] [(3, .cells [ii ((Option.getD (List.getD lh2_1 (Int.toNat x21_1) none) (0, 0)).1), ii ((Option.getD (List.getD lh2_1 (Int.toNat x21_1) none) (0, 0)).2)] 0 56 0), (2, rc encF lh2_1 0 54 1), (1, rc (encI .i64) lh1_1 0 3 1), (0, rc (encI .i64) b z0 y0 1)] 4 rfl (by kernel_rfl) ?_
          refine XR.done (by kernel_rfl) ?_
          show XQ _ _ _ _ _ _ _ _
          refine XQ.region (by kernel_rfl) ?_
          refine XR.runT E0_ok 1 4 [(7, ii x7_1), (19, s0 2 lh2_1.length), (20, ii x20_1), (21, ii x21_1), (29, s0 1 lh1_1.length), (32, s0 4 1)] [(4, .cells [ii ((Option.getD (List.getD lh2_1 (Int.toNat x21_1) none) (0, 0)).1)] 0 3 1), (3, .cells [ii ((Option.getD (List.getD lh2_1 (Int.toNat x21_1) none) (0, 0)).1), ii ((Option.getD (List.getD lh2_1 (Int.toNat x21_1) none) (0, 0)).2)] 0 56 0), (2, rc encF lh2_1 0 54 1), (1, rc (encI .i64) lh1_1 0 3 1), (0, rc (encI .i64) b z0 y0 1)] 5 rfl (by kernel_rfl) ?_
          cases b4 : (fitsB (lh1_1.length + 1) 8 : Bool) with
          | false => cases (cF b4 h)
          | true =>
            have h := cT b4 h
            refine XR.ef E0_ok [7, 19, 20, 21, 33] rfl (e_append (encI_ok .i64) (bytes := 8) (e := 3) (x := (src 43 (.tmp 29))) (y := (src 43 (.tmp 32))) (b := 1) (len := lh1_1.length) (cap := lh1_1.length) (xs := lh1_1) (m := 0) (ys := [(Option.getD (List.getD lh2_1 (Int.toNat x21_1) none) (0, 0)).1]) (d := (some (path 12 33))) (n' := (lh1_1 ++ [(Option.getD (List.getD lh2_1 (Int.toNat x21_1) none) (0, 0)).1]).length) (h' := [(5, rc (encI .i64) (lh1_1 ++ [(Option.getD (List.getD lh2_1 (Int.toNat x21_1) none) (0, 0)).1]) 0 3 1), (4, .cells [ii ((Option.getD (List.getD lh2_1 (Int.toNat x21_1) none) (0, 0)).1)] 0 3 1), (3, .cells [ii ((Option.getD (List.getD lh2_1 (Int.toNat x21_1) none) (0, 0)).1), ii ((Option.getD (List.getD lh2_1 (Int.toNat x21_1) none) (0, 0)).2)] 0 56 0), (2, rc encF lh2_1 0 54 1), (0, rc (encI .i64) b z0 y0 1)]) (by kernel_rfl) (by kernel_rfl) (by kernel_rfl) (by kernel_rfl) rfl (by simp) (by simp) b4 (by simp) (by kernel_rfl)) (σ' := [(7, ii x7_1), (19, s0 2 lh2_1.length), (20, ii x20_1), (21, ii x21_1), (33, s0 5 ((lh1_1 ++ [(Option.getD (List.getD lh2_1 (Int.toNat x21_1) none) (0, 0)).1]).length))]) (by kernel_rfl) ?_
            refine XR.runS E0_ok 1 1 [(7, ii x7_1), (8, s0 5 ((lh1_1 ++ [(Option.getD (List.getD lh2_1 (Int.toNat x21_1) none) (0, 0)).1]).length)), (19, s0 2 lh2_1.length), (20, ii x20_1), (21, ii x21_1)] rfl (by kernel_rfl) ?_
            refine XR.done (by kernel_rfl) ?_
            show XQ _ _ _ _ _ _ _ _
            refine XQ.region (by kernel_rfl) ?_
            refine XR.runS E0_ok 1 2 [(7, ii x7_1), (8, s0 5 ((lh1_1 ++ [(Option.getD (List.getD lh2_1 (Int.toNat x21_1) none) (0, 0)).1]).length)), (19, s0 2 lh2_1.length), (20, ii x20_1), (21, ii (w64 (x21_1 + 1)))] rfl (by kernel_rfl) ?_
            refine XR.done (by kernel_rfl) ?_
            show XL _ _ _ _ _ _ _ _ _
            refine XL.ren (σ' := [(7, ii x7_1), (8, s0 1 ((lh1_1 ++ [(Option.getD (List.getD lh2_1 (Int.toNat x21_1) none) (0, 0)).1]).length)), (19, s0 2 lh2_1.length), (20, ii x20_1), (21, ii (w64 (x21_1 + 1)))]) (h' := [(2, rc encF lh2_1 0 54 1), (1, rc (encI .i64) (lh1_1 ++ [(Option.getD (List.getD lh2_1 (Int.toNat x21_1) none) (0, 0)).1]) 0 3 1), (0, rc (encI .i64) b z0 y0 1)]) (c' := 3) [0, 5, 2] (by decide) rfl ⟨by kernel_rfl, by kernel_rfl, by kernel_rfl, by kernel_rfl, by kernel_rfl, trivial⟩ ⟨⟨_, _, rfl, rfl, .inl ⟨rfl, rowC_scal encF_ok _⟩⟩, ⟨_, _, rfl, rfl, .inl ⟨rfl, rowC_scal (encI_ok .i64) _⟩⟩, ⟨_, _, rfl, rfl, .inl ⟨rfl, rowC_scal (encI_ok .i64) _⟩⟩, trivial⟩ rfl ?_
            refine XL.conv (f6_1_ok m fuel z0 y0 b x7_1 x20_1 (w64 (x21_1 + 1)) (lh1_1 ++ [(Option.getD (List.getD lh2_1 (Int.toNat x21_1) none) (0, 0)).1]) lh2_1 o h Q hQ) (by first | with_reducible rfl | simp | rfl)
        | false =>
          have h := cF b3 h
          refine XR.conv (σ' := [(7, ii x7_1), (8, s0 1 lh1_1.length), (19, s0 2 lh2_1.length), (20, ii x20_1), (21, ii x21_1), (25, .iface 58 (.agg #[]))]) (h' := [(2, rc encF lh2_1 0 54 1), (1, rc (encI .i64) lh1_1 0 3 1), (0, rc (encI .i64) b z0 y0 1)]) (c' := 3) ?_ (by first | (rw [optF_none b3]; done) | (rw [optF_none b3]; rfl))
          refine XR.runS E0_ok 1 3 [(7, ii x7_1), (8, s0 1 lh1_1.length), (19, s0 2 lh2_1.length), (20, ii x20_1), (21, ii x21_1), (25, .iface 58 (.agg #[])), (27, .bool false), (28, .agg #[ii 0, ii 0])] rfl (by kernel_rfl) ?_
          refine XR.done (by kernel_rfl) ?_
          show XQ _ _ _ _ _ _ _ _
          refine XQ.cond (s := (.tmp 27)) (b := false) (by kernel_rfl) (by kernel_rfl) (fun q => by cases q) (fun _ => ?_)
          refine XQ.seq E0_ok (by kernel_rfl) ?_
          refine XQ.region (by kernel_rfl) ?_
          refine XR.runS E0_ok 1 3 [(7, ii x7_1), (8, s0 1 lh1_1.length), (19, s0 2 lh2_1.length), (20, ii x20_1), (21, ii x21_1), (35, .bool true), (36, .agg #[])] rfl (by kernel_rfl) ?_
          refine XR.done (by kernel_rfl) ?_
          show XQ _ _ _ _ _ _ _ _
          refine XQ.cond (s := (.tmp 35)) (b := true) (by kernel_rfl) (by kernel_rfl) (fun _ => ?_) (fun q => by cases q)
          refine XQ.seq E0_ok (by kernel_rfl) ?_
          refine XQ.region (by kernel_rfl) ?_
          refine XR.runT E0_ok 1 2 [(7, ii x7_1), (8, s0 1 lh1_1.length), (19, s0 2 lh2_1.length), (20, ii x20_1), (21, ii x21_1)] [(3, .cells [] 0 58 0), (2, rc encF lh2_1 0 54 1), (1, rc (encI .i64) lh1_1 0 3 1), (0, rc (encI .i64) b z0 y0 1)] 4 rfl (by kernel_rfl) ?_
          refine XR.done (by kernel_rfl) ?_
          show XQ _ _ _ _ _ _ _ _
          refine XQ.region (by kernel_rfl) ?_
          refine XR.runT E0_ok 1 2 [(7, ii x7_1), (19, s0 2 lh2_1.length), (20, ii x20_1), (21, ii x21_1), (37, s0 1 lh1_1.length), (38, s0 4 1)] [(4, .cells [ii (-1)] 0 3 1), (3, .cells [] 0 58 0), (2, rc encF lh2_1 0 54 1), (1, rc (encI .i64) lh1_1 0 3 1), (0, rc (encI .i64) b z0 y0 1)] 5 rfl (by kernel_rfl) ?_
          cases b5 : (fitsB (lh1_1.length + 1) 8 : Bool) with
          | false => cases (cF b5 h)
          | true =>
            have h := cT b5 h
            refine XR.ef E0_ok [7, 19, 20, 21, 39] rfl (e_append (encI_ok .i64) (bytes := 8) (e := 3) (x := (src 43 (.tmp 37))) (y := (src 43 (.tmp 38))) (b := 1) (len := lh1_1.length) (cap := lh1_1.length) (xs := lh1_1) (m := 0) (ys := [(-1)]) (d := (some (path 12 39))) (n' := (lh1_1 ++ [(-1)]).length) (h' := [(5, rc (encI .i64) (lh1_1 ++ [(-1)]) 0 3 1), (4, .cells [ii (-1)] 0 3 1), (3, .cells [] 0 58 0), (2, rc encF lh2_1 0 54 1), (0, rc (encI .i64) b z0 y0 1)]) (by kernel_rfl) (by kernel_rfl) (by kernel_rfl) (by kernel_rfl) rfl (by simp) (by simp) b5 (by simp) (by kernel_rfl)) (σ' := [(7, ii x7_1), (19, s0 2 lh2_1.length), (20, ii x20_1), (21, ii x21_1), (39, s0 5 ((lh1_1 ++ [(-1)]).length))]) (by kernel_rfl) ?_
            refine XR.runS E0_ok 1 1 [(7, ii x7_1), (8, s0 5 ((lh1_1 ++ [(-1)]).length)), (19, s0 2 lh2_1.length), (20, ii x20_1), (21, ii x21_1)] rfl (by kernel_rfl) ?_
            refine XR.done (by kernel_rfl) ?_
            show XQ _ _ _ _ _ _ _ _
            refine XQ.region (by kernel_rfl) ?_
            refine XR.runS E0_ok 1 2 [(7, ii x7_1), (8, s0 5 ((lh1_1 ++ [(-1)]).length)), (19, s0 2 lh2_1.length), (20, ii x20_1), (21, ii (w64 (x21_1 + 1)))] rfl (by kernel_rfl) ?_
            refine XR.done (by kernel_rfl) ?_
            show XL _ _ _ _ _ _ _ _ _
            refine XL.ren (σ' := [(7, ii x7_1), (8, s0 1 ((lh1_1 ++ [(-1)]).length)), (19, s0 2 lh2_1.length), (20, ii x20_1), (21, ii (w64 (x21_1 + 1)))]) (h' := [(2, rc encF lh2_1 0 54 1), (1, rc (encI .i64) (lh1_1 ++ [(-1)]) 0 3 1), (0, rc (encI .i64) b z0 y0 1)]) (c' := 3) [0, 5, 2] (by decide) rfl ⟨by kernel_rfl, by kernel_rfl, by kernel_rfl, by kernel_rfl, by kernel_rfl, trivial⟩ ⟨⟨_, _, rfl, rfl, .inl ⟨rfl, rowC_scal encF_ok _⟩⟩, ⟨_, _, rfl, rfl, .inl ⟨rfl, rowC_scal (encI_ok .i64) _⟩⟩, ⟨_, _, rfl, rfl, .inl ⟨rfl, rowC_scal (encI_ok .i64) _⟩⟩, trivial⟩ rfl ?_
            refine XL.conv (f6_1_ok m fuel z0 y0 b x7_1 x20_1 (w64 (x21_1 + 1)) (lh1_1 ++ [(-1)]) lh2_1 o h Q hQ) (by first | with_reducible rfl | simp | rfl)
    | false =>
      have h := cF b1 h
      refine XQ.cond (s := (.tmp 22)) (b := false) (by kernel_rfl) (by kernel_rfl) (fun q => by cases q) (fun _ => ?_)
      refine XQ.ren (σ' := [(7, ii x7_1), (8, s0 1 lh1_1.length)]) (h' := [(1, rc (encI .i64) lh1_1 0 3 1), (0, rc (encI .i64) b z0 y0 1)]) (c' := 2) [0, 1] (by decide) rfl ⟨by kernel_rfl, by kernel_rfl, trivial⟩ ⟨⟨_, _, rfl, rfl, .inl ⟨rfl, rowC_scal (encI_ok .i64) _⟩⟩, ⟨_, _, rfl, rfl, .inl ⟨rfl, rowC_scal (encI_ok .i64) _⟩⟩, trivial⟩ rfl ?_
      refine XQ.exit (i := 0) (by kernel_rfl) ?_
      cases h
      exact hQ

def f6 (m : Nat) (a : Int) (b : List Int) : Option ((List Int) × Int) :=
  (f23 m a b).bind fun r1 =>
    (f6_1 m m b r1.2 ((r1.1.length : Nat) : Int) 0 [] r1.1).bind fun o1 =>
      some (o1.2, o1.1)

theorem f6_ok (m : Nat) (z0 : Nat) (y0 : Nat) (a : Int) (b : List Int) (o : (List Int) × Int) (h : f6 m a b = some o) : KC E0 6 [ii a, s0 0 b.length] [(0, rc (encI .i64) b z0 y0 1)] 1 (fun v h' c' => v = .tuple #[s0 1 o.1.length, ii o.2] ∧ h' = [(1, rc (encI .i64) o.1 0 3 1)] ++ [(0, rc (encI .i64) b z0 y0 1)] ∧ c' = 2) := by
  refine KC.bodyN E0_ok (F := Proofs.Tryz.f6) (by kernel_rfl) (code := f6_C6) (by kernel_rfl) (nt := 43) (by kernel_rfl) (rs := [.tmp 4, .tmp 5]) (by kernel_rfl) (by kernel_rfl) (σ := [(0, ii a), (1, s0 0 b.length)]) (by kernel_rfl) ?_
  unfold f6 at h
  refine XQ.seq E0_ok (by kernel_rfl) ?_
  refine XQ.region (by kernel_rfl) ?_
  refine XR.runS E0_ok 1 2 [(0, ii a), (1, s0 0 b.length)] rfl (by kernel_rfl) ?_
  refine XR.done (by kernel_rfl) ?_
  show XQ _ _ _ _ _ _ _ _
  refine XQ.seq E0_ok (by kernel_rfl) ?_
  refine XQ.region (by kernel_rfl) ?_
  refine XR.runS E0_ok 1 2 [(14, ii a), (15, s0 0 b.length)] rfl (by kernel_rfl) ?_
  obtain ⟨r1, r1_h, h⟩ := bS h
  refine XR.call E0_ok [16] rfl (K := 23) (args := [ii a, s0 0 b.length]) (d := (some (path 12 16))) (by kernel_rfl) (KC.liftH (n0 := 1) (m := 1) (args0 := [ii a, s0 0 b.length]) (h0 := [(0, rc (encI .i64) b (z0 + ((rowC (encI .i64) b).length + 1)) y0 1)]) (V := .tuple #[s0 1 r1.1.length, ii r1.2]) (V2 := .tuple #[s0 1 r1.1.length, ii r1.2]) (H := [(1, rc encF r1.1 0 54 1)]) (H2 := [(1, rc encF r1.1 0 54 1)]) [0] [2, 1] (f23_ok m (z0 + ((rowC (encI .i64) b).length + 1)) y0 a b r1 r1_h) (by rfl) (by decide) rfl (by kernel_rfl) ⟨⟨_, _, rfl, rfl, .inl ⟨rfl, rowC_scal (encI_ok .i64) _⟩⟩, trivial⟩ (by decide) (by decide) (by kernel_rfl) ⟨⟨_, _, rfl, rfl, .inl ⟨rfl, rowC_scal encF_ok _⟩⟩, trivial⟩ (by rfl)) ?_
  rintro _ _ _ ⟨rfl, rfl, rfl⟩
  refine XR.conv (σ' := [(16, .tuple #[s0 1 r1.1.length, ii r1.2])]) (h' := [(1, rc encF r1.1 0 54 1), (0, rc (encI .i64) b z0 y0 1)]) (c' := 2) ?_ (by kernel_rfl)
  refine XR.runS E0_ok 1 5 [(6, s0 1 r1.1.length), (7, ii r1.2)] rfl (by kernel_rfl) ?_
  refine XR.done (by kernel_rfl) ?_
  show XQ _ _ _ _ _ _ _ _
  refine XQ.seq E0_ok (by kernel_rfl) ?_
  refine XQ.region (by kernel_rfl) ?_
  refine XR.runS E0_ok 1 1 [(6, s0 1 r1.1.length), (7, ii r1.2), (8, .slice none 0 0)] rfl (by kernel_rfl) ?_
  refine XR.done (by kernel_rfl) ?_
  show XQ _ _ _ _ _ _ _ _
  refine XQ.ghost 3 1 rfl (σ' := [(6, s0 1 r1.1.length), (7, ii r1.2), (8, s0 2 0)]) (h' := [(1, rc encF r1.1 0 54 1), (0, rc (encI .i64) b z0 y0 1)]) ⟨by kernel_rfl, by kernel_rfl, by kernel_rfl, trivial⟩ ⟨⟨_, rfl, .inl rfl⟩, ⟨_, rfl, .inl rfl⟩, trivial⟩ ?_
  refine XQ.conv (σ' := [(6, s0 1 r1.1.length), (7, ii r1.2), (8, s0 2 0)]) (h' := [(2, rc (encI .i64) [] 0 3 1), (1, rc encF r1.1 0 54 1), (0, rc (encI .i64) b z0 y0 1)]) (c' := 3) ?_ (by kernel_rfl)
  refine XQ.seq E0_ok (by kernel_rfl) ?_
  refine XQ.seq E0_ok (by kernel_rfl) ?_
  refine XQ.region (by kernel_rfl) ?_
  refine XR.runS E0_ok 1 3 [(7, ii r1.2), (8, s0 2 0), (19, s0 1 r1.1.length), (20, ii ((r1.1.length : Nat) : Int)), (21, ii 0)] rfl (by kernel_rfl) ?_
  refine XR.done (by kernel_rfl) ?_
  show XQ _ _ _ _ _ _ _ _
  refine XQ.block (id := 0) (by kernel_rfl) ?_
  refine XQ.loop m (by kernel_rfl) ?_
  obtain ⟨o1, o1_h, h⟩ := bS h
  refine XL.ren (σ' := [(7, ii r1.2), (8, s0 1 0), (19, s0 2 r1.1.length), (20, ii ((r1.1.length : Nat) : Int)), (21, ii 0)]) (h' := [(2, rc encF r1.1 0 54 1), (1, rc (encI .i64) [] 0 3 1), (0, rc (encI .i64) b z0 y0 1)]) (c' := 3) [0, 2, 1] (by decide) rfl ⟨by kernel_rfl, by kernel_rfl, by kernel_rfl, by kernel_rfl, by kernel_rfl, trivial⟩ ⟨⟨_, _, rfl, rfl, .inl ⟨rfl, rowC_scal encF_ok _⟩⟩, ⟨_, _, rfl, rfl, .inl ⟨rfl, rowC_scal (encI_ok .i64) _⟩⟩, ⟨_, _, rfl, rfl, .inl ⟨rfl, rowC_scal (encI_ok .i64) _⟩⟩, trivial⟩ rfl ?_
  refine XL.conv (f6_1_ok m m z0 y0 b r1.2 ((r1.1.length : Nat) : Int) 0 [] r1.1 o1 o1_h _ ?_) (by first | with_reducible rfl | simp | rfl)
  show XQ _ _ _ _ _ _ _ _
  refine XQ.seq E0_ok (by kernel_rfl) ?_
  refine XQ.region (by kernel_rfl) ?_
  refine XR.runS E0_ok 1 4 [(4, s0 1 o1.2.length), (5, ii o1.1)] rfl (by kernel_rfl) ?_
  refine XR.done (by kernel_rfl) ?_
  show XQ _ _ _ _ _ _ _ _
  refine XQ.ren (σ' := [(4, s0 1 o1.2.length), (5, ii o1.1)]) (h' := [(1, rc (encI .i64) o1.2 0 3 1), (0, rc (encI .i64) b z0 y0 1)]) (c' := 2) [0, 1] (by decide) rfl ⟨by kernel_rfl, by kernel_rfl, trivial⟩ ⟨⟨_, _, rfl, rfl, .inl ⟨rfl, rowC_scal (encI_ok .i64) _⟩⟩, ⟨_, _, rfl, rfl, .inl ⟨rfl, rowC_scal (encI_ok .i64) _⟩⟩, trivial⟩ rfl ?_
  refine XQ.ret (by kernel_rfl) ?_
  have h := Option.some.inj h
  subst h
  exact ⟨fun i q => (by cases q), .tuple #[s0 1 o1.2.length, ii o1.1], (by kernel_rfl), (by kernel_rfl), (by kernel_rfl), rfl⟩

/-! slices.Contains[[]int,int] -/
noncomputable def f8_C8 : Code := Proofs.Tryz.f8.body.getD .skip
noncomputable def f8_C27 : Code := Proofs.Tryz.f27.body.getD .skip
noncomputable def f8_L1 : Code := lft (lft (rgt (lft (rgt f8_C27))))

inductive Of8_1 where
  | r (x4_r1 : Int)
  | x0

def f8_1 (m : Nat) : Nat → List Int → Int → Int → Int → Option Of8_1
  | 0, _, _, _, _ => none
  | fuel + 1, a, b, x7_1, x8_1 =>
    cond (decide (x8_1 < x7_1)) (
      cond (inRow x8_1 a.length) (
        cond (b == (List.getD a (Int.toNat x8_1) 0)) (
          some (.r x8_1)
        ) (
          f8_1 m fuel a b x7_1 (w64 (x8_1 + 1))
        )
      ) none
    ) (
      some (.x0)
    )

theorem f8_1_ok (m : Nat) : ∀ (fuel : Nat) (z0 : Nat) (y0 : Nat) (a : List Int) (b : Int) (x7_1 : Int) (x8_1 : Int) (o : Of8_1), f8_1 m fuel a b x7_1 x8_1 = some o → ∀ Q : QP, (match o with | .r x4_r1 => Q .ret [(4, ii x4_r1)] [(0, rc (encI .i64) a z0 y0 1)] 1 | .x0 => Q (.exit 0) [] [(0, rc (encI .i64) a z0 y0 1)] 1) → XL E0 19 1 fuel f8_L1 [(0, s0 0 a.length), (1, ii b), (7, ii x7_1), (8, ii x8_1)] [(0, rc (encI .i64) a z0 y0 1)] 1 Q
  | 0, z0, y0, a, b, x7_1, x8_1, o, h, Q, hQ => by cases h
  | fuel + 1, z0, y0, a, b, x7_1, x8_1, o, h, Q, hQ => by
    unfold f8_1 at h
    refine XL.succ E0_ok ?_
    refine XQ.seq E0_ok (by kernel_rfl) ?_
    refine XQ.region (by kernel_rfl) ?_
    refine XR.runS E0_ok 1 1 [(0, s0 0 a.length), (1, ii b), (7, ii x7_1), (8, ii x8_1), (9, .bool (decide (x8_1 < x7_1)))] rfl (by kernel_rfl) ?_
    refine XR.done (by kernel_rfl) ?_
    show XQ _ _ _ _ _ _ _ _
    refine XQ.seq E0_ok (by kernel_rfl) ?_
    cases b1 : (decide (x8_1 < x7_1) : Bool) with
    | true =>
      have h := cT b1 h
      refine XQ.cond (s := (.tmp 9)) (b := true) (by kernel_rfl) (by kernel_rfl) (fun _ => ?_) (fun q => by cases q)
      refine XQ.skip (by kernel_rfl) ?_
      show XQ _ _ _ _ _ _ _ _
      refine XQ.seq E0_ok (by kernel_rfl) ?_
      refine XQ.block (id := 1) (by kernel_rfl) ?_
      refine XQ.seq E0_ok (by kernel_rfl) ?_
      refine XQ.region (by kernel_rfl) ?_
      refine XR.runS E0_ok 1 2 [(0, s0 0 a.length), (1, ii b), (5, ii x8_1), (7, ii x7_1), (8, ii x8_1)] rfl (by kernel_rfl) ?_
      refine XR.done (by kernel_rfl) ?_
      show XQ _ _ _ _ _ _ _ _
      refine XQ.seq E0_ok (by kernel_rfl) ?_
      refine XQ.region (by kernel_rfl) ?_
      refine XR.runS E0_ok 1 3 [(0, s0 0 a.length), (1, ii b), (5, ii x8_1), (7, ii x7_1), (8, ii x8_1), (11, ii b), (12, s0 0 a.length), (13, ii x8_1)] rfl (by kernel_rfl) ?_
      cases b2 : (inRow x8_1 a.length : Bool) with
      | false => cases (cF b2 h)
      | true =>
        have h := cT b2 h
        refine XR.rd E0_ok [0, 1, 5, 7, 8, 11, 14] rfl (v := pp 0 ((Int.toNat x8_1) * 1)) (v_idx (s := 1) (x := (src 19 (.tmp 12))) (y := (src 19 (.tmp 13))) (b := 0) (o := 0) (len := a.length) (cap := a.length) (ik := .i64) (i := x8_1) (off := (Int.toNat x8_1) * 1) (d := (some (path 12 14))) (by kernel_rfl) (by kernel_rfl) (by kernel_rfl) b2 (by omega)) (σ' := [(0, s0 0 a.length), (1, ii b), (5, ii x8_1), (7, ii x7_1), (8, ii x8_1), (11, ii b), (14, pp 0 ((Int.toNat x8_1) * 1))]) (by kernel_rfl) ?_
        refine XR.rd E0_ok [0, 1, 5, 7, 8, 11, 15] rfl (v := ii (List.getD a (Int.toNat x8_1) 0)) (v_load1 (encI_ok .i64) (x := (src 19 (.tmp 14))) (b := 0) (off := (Int.toNat x8_1) * 1) (xs := a) (fz := z0) (e := y0) (es := 1) (d := (some (path 12 15))) (by kernel_rfl) (by kernel_rfl) (by kernel_rfl) (Int.toNat x8_1) 0 0 (by first | with_reducible rfl | omega | rfl) (row_len (inRow_toNat b2) (by simp)) rfl rfl) (σ' := [(0, s0 0 a.length), (1, ii b), (5, ii x8_1), (7, ii x7_1), (8, ii x8_1), (11, ii b), (15, ii (List.getD a (Int.toNat x8_1) 0))]) (by kernel_rfl) ?_
        refine XR.runS E0_ok 1 1 [(0, s0 0 a.length), (1, ii b), (5, ii x8_1), (7, ii x7_1), (8, ii x8_1), (16, .bool (b == (List.getD a (Int.toNat x8_1) 0)))] rfl (by kernel_rfl) ?_
        refine XR.done (by kernel_rfl) ?_
        show XQ _ _ _ _ _ _ _ _
        cases b3 : (b == (List.getD a (Int.toNat x8_1) 0) : Bool) with
        | true =>
          have h := cT b3 h
          refine XQ.cond (s := (.tmp 16)) (b := true) (by kernel_rfl) (by kernel_rfl) (fun _ => ?_) (fun q => by cases q)
          refine XQ.seq E0_ok (by kernel_rfl) ?_
          refine XQ.region (by kernel_rfl) ?_
          refine XR.runS E0_ok 1 2 [(4, ii x8_1)] rfl (by kernel_rfl) ?_
          refine XR.done (by kernel_rfl) ?_
          show XQ _ _ _ _ _ _ _ _
          refine XQ.ren (σ' := [(4, ii x8_1)]) (h' := [(0, rc (encI .i64) a z0 y0 1)]) (c' := 1) [0] (by decide) rfl ⟨by kernel_rfl, trivial⟩ ⟨⟨_, _, rfl, rfl, .inl ⟨rfl, rowC_scal (encI_ok .i64) _⟩⟩, trivial⟩ rfl ?_
          refine XQ.ret (by kernel_rfl) ?_
          cases h
          exact hQ
        | false =>
          have h := cF b3 h
          refine XQ.cond (s := (.tmp 16)) (b := false) (by kernel_rfl) (by kernel_rfl) (fun q => by cases q) (fun _ => ?_)
          refine XQ.skip (by kernel_rfl) ?_
          show XQ _ _ _ _ _ _ _ _
          refine XQ.region (by kernel_rfl) ?_
          refine XR.runS E0_ok 1 2 [(0, s0 0 a.length), (1, ii b), (7, ii x7_1), (8, ii (w64 (x8_1 + 1)))] rfl (by kernel_rfl) ?_
          refine XR.done (by kernel_rfl) ?_
          show XL _ _ _ _ _ _ _ _ _
          refine XL.ren (σ' := [(0, s0 0 a.length), (1, ii b), (7, ii x7_1), (8, ii (w64 (x8_1 + 1)))]) (h' := [(0, rc (encI .i64) a z0 y0 1)]) (c' := 1) [0] (by decide) rfl ⟨by kernel_rfl, by kernel_rfl, by kernel_rfl, by kernel_rfl, trivial⟩ ⟨⟨_, _, rfl, rfl, .inl ⟨rfl, rowC_scal (encI_ok .i64) _⟩⟩, trivial⟩ rfl ?_
          refine XL.conv (f8_1_ok m fuel z0 y0 a b x7_1 (w64 (x8_1 + 1)) o h Q hQ) (by first | with_reducible rfl | simp | rfl)
    | false =>
      have h := cF b1 h
      refine XQ.cond (s := (.tmp 9)) (b := false) (by kernel_rfl) (by kernel_rfl) (fun q => by cases q) (fun _ => ?_)
      refine XQ.ren (σ' := []) (h' := [(0, rc (encI .i64) a z0 y0 1)]) (c' := 1) [0] (by decide) rfl trivial ⟨⟨_, _, rfl, rfl, .inl ⟨rfl, rowC_scal (encI_ok .i64) _⟩⟩, trivial⟩ rfl ?_
      refine XQ.exit (i := 0) (by kernel_rfl) ?_
      cases h
      exact hQ

def f8 (m : Nat) (a : List Int) (b : Int) : Option (Bool) :=
  (f8_1 m m a b ((a.length : Nat) : Int) 0).bind fun o1 =>
    match o1 with
    | .r x4_r1 =>
      some (decide (x4_r1 ≥ 0))
    | .x0 =>
      some (false)

theorem f8_ok (m : Nat) (z0 : Nat) (y0 : Nat) (a : List Int) (b : Int) (o : Bool) (h : f8 m a b = some o) : KC E0 8 [s0 0 a.length, ii b] [(0, rc (encI .i64) a z0 y0 1)] 1 (fun v _ _ => v = .bool o) := by
  refine KC.bodyN E0_ok (F := Proofs.Tryz.f8) (by kernel_rfl) (code := f8_C8) (by kernel_rfl) (nt := 9) (by kernel_rfl) (rs := [.tmp 4]) (by kernel_rfl) (by kernel_rfl) (σ := [(0, s0 0 a.length), (1, ii b)]) (by kernel_rfl) ?_
  unfold f8 at h
  refine XQ.seq E0_ok (by kernel_rfl) ?_
  refine XQ.region (by kernel_rfl) ?_
  refine XR.runS E0_ok 1 1 [(0, s0 0 a.length), (1, ii b)] rfl (by kernel_rfl) ?_
  refine XR.done (by kernel_rfl) ?_
  show XQ _ _ _ _ _ _ _ _
  refine XQ.seq E0_ok (by kernel_rfl) ?_
  refine XQ.region (by kernel_rfl) ?_
  refine XR.runS E0_ok 1 2 [(5, s0 0 a.length), (6, ii b)] rfl (by kernel_rfl) ?_
  refine XR.callK E0_ok [7] rfl (K := 27) (args := [s0 0 a.length, ii b]) (d := (some (path 12 7))) (by kernel_rfl) ?_
  refine KC.bodyN E0_ok (F := Proofs.Tryz.f27) (by kernel_rfl) (code := f8_C27) (by kernel_rfl) (nt := 19) (by kernel_rfl) (rs := [.tmp 4]) (by kernel_rfl) (by kernel_rfl) (σ := [(0, s0 0 a.length), (1, ii b)]) (by kernel_rfl) ?_
  refine XQ.seq E0_ok (by kernel_rfl) ?_
  refine XQ.region (by kernel_rfl) ?_
  refine XR.runS E0_ok 1 1 [(0, s0 0 a.length), (1, ii b)] rfl (by kernel_rfl) ?_
  refine XR.done (by kernel_rfl) ?_
  show XQ _ _ _ _ _ _ _ _
  refine XQ.seq E0_ok (by kernel_rfl) ?_
  refine XQ.seq E0_ok (by kernel_rfl) ?_
  refine XQ.region (by kernel_rfl) ?_
  refine XR.runS E0_ok 1 3 [(0, s0 0 a.length), (1, ii b), (7, ii ((a.length : Nat) : Int)), (8, ii 0)] rfl (by kernel_rfl) ?_
  refine XR.done (by kernel_rfl) ?_
  show XQ _ _ _ _ _ _ _ _
  refine XQ.block (id := 0) (by kernel_rfl) ?_
  refine XQ.loop m (by kernel_rfl) ?_
  obtain ⟨o1, o1_h, h⟩ := bS h
  refine XL.ren (σ' := [(0, s0 0 a.length), (1, ii b), (7, ii ((a.length : Nat) : Int)), (8, ii 0)]) (h' := [(0, rc (encI .i64) a z0 y0 1)]) (c' := 1) [0] (by decide) rfl ⟨by kernel_rfl, by kernel_rfl, by kernel_rfl, by kernel_rfl, trivial⟩ ⟨⟨_, _, rfl, rfl, .inl ⟨rfl, rowC_scal (encI_ok .i64) _⟩⟩, trivial⟩ rfl ?_
  cases o1 with
  | r x4_r1 =>
    dsimp only at h
    refine XL.conv (f8_1_ok m m z0 y0 a b ((a.length : Nat) : Int) 0 (.r x4_r1) o1_h _ ?_) (by first | with_reducible rfl | simp | rfl)
    refine ⟨fun i q => (by cases q), ii x4_r1, (by kernel_rfl), ?_⟩
    refine XR.conv (σ' := [(7, ii x4_r1)]) (h' := [(0, rc (encI .i64) a z0 y0 1)]) (c' := 1) ?_ (by kernel_rfl)
    refine XR.runS E0_ok 1 2 [(4, .bool (decide (x4_r1 ≥ 0)))] rfl (by kernel_rfl) ?_
    refine XR.done (by kernel_rfl) ?_
    show XQ _ _ _ _ _ _ _ _
    refine XQ.ret (by kernel_rfl) ?_
    have h := Option.some.inj h
    subst h
    exact ⟨fun i q => (by cases q), .bool (decide (x4_r1 ≥ 0)), (by kernel_rfl), rfl⟩
  | x0 =>
    dsimp only at h
    refine XL.conv (f8_1_ok m m z0 y0 a b ((a.length : Nat) : Int) 0 (.x0) o1_h _ ?_) (by first | with_reducible rfl | simp | rfl)
    show XQ _ _ _ _ _ _ _ _
    refine XQ.seq E0_ok (by kernel_rfl) ?_
    refine XQ.region (by kernel_rfl) ?_
    refine XR.runS E0_ok 1 1 [(4, ii (-1))] rfl (by kernel_rfl) ?_
    refine XR.done (by kernel_rfl) ?_
    show XQ _ _ _ _ _ _ _ _
    refine XQ.ret (by kernel_rfl) ?_
    refine ⟨fun i q => (by cases q), ii (-1), (by kernel_rfl), ?_⟩
    refine XR.conv (σ' := [(7, ii (-1))]) (h' := [(0, rc (encI .i64) a z0 y0 1)]) (c' := 1) ?_ (by kernel_rfl)
    refine XR.runS E0_ok 1 2 [(4, .bool false)] rfl (by kernel_rfl) ?_
    refine XR.done (by kernel_rfl) ?_
    show XQ _ _ _ _ _ _ _ _
    refine XQ.ret (by kernel_rfl) ?_
    have h := Option.some.inj h
    subst h
    exact ⟨fun i q => (by cases q), .bool false, (by kernel_rfl), rfl⟩

/-! vitola/dock.filled -/
noncomputable def f28_C28 : Code := Proofs.Tryz.f28.body.getD .skip
noncomputable def f28_L1 : Code := lft (lft (rgt (lft (rgt (rgt (rgt f28_C28))))))

inductive Of28_1 where
  | r (x5_r1 : Int) (xh1_1_r1 : Int)
  | x0 (xh2_1_x01 : Int)

def f28_1 (m : Nat) : Nat → Int → List Int → Int → Int → Int → Option Of28_1
  | 0, _, _, _, _, _ => none
  | fuel + 1, a, b, x16_1, x17_1, xh2_1_1 =>
    cond (decide (x17_1 < x16_1)) (
      cond (inRow x17_1 b.length) (
        (f29 m (List.getD b (Int.toNat x17_1) 0) 0 (w64 (a - 1))).bind fun r4 =>
          cond (!r4) (
            some (.r 2 xh2_1_1)
          ) (
            cond (decide (0 ≤ List.getD b (Int.toNat x17_1) 0)) (
              cond ((andV .u64 (shV false .u64 xh2_1_1 (List.getD b (Int.toNat x17_1) 0)) 1) == 1) (
                some (.r 6 xh2_1_1)
              ) (
                f28_1 m fuel a b x16_1 (w64 (x17_1 + 1)) (orV .u64 xh2_1_1 (shV true .u64 1 (List.getD b (Int.toNat x17_1) 0)))
              )
            ) none
          )
      ) none
    ) (
      some (.x0 xh2_1_1)
    )

theorem f28_1_ok (m : Nat) : ∀ (fuel : Nat) (a : Int) (z0 : Nat) (y0 : Nat) (b : List Int) (x16_1 : Int) (x17_1 : Int) (xh2_1_1 : Int) (o : Of28_1), f28_1 m fuel a b x16_1 x17_1 xh2_1_1 = some o → ∀ Q : QP, (match o with | .r x5_r1 xh1_1_r1 => Q .ret [(4, pp 1 0), (5, ii x5_r1)] [(1, .cells [ii a, .int .u64 xh1_1_r1] 0 76 0), (0, rc (encI .i64) b z0 y0 1)] 2 | .x0 xh2_1_x01 => Q (.exit 0) [(4, pp 1 0), (6, pp 2 0)] [(2, .cells [ii a, .int .u64 xh2_1_x01] 0 76 0), (1, .cells [ii 0, .int .u64 0] 0 76 0), (0, rc (encI .i64) b z0 y0 1)] 3) → XL E0 44 1 fuel f28_L1 [(0, ii a), (4, pp 1 0), (6, pp 2 0), (15, s0 0 b.length), (16, ii x16_1), (17, ii x17_1)] [(2, .cells [ii a, .int .u64 xh2_1_1] 0 76 0), (1, .cells [ii 0, .int .u64 0] 0 76 0), (0, rc (encI .i64) b z0 y0 1)] 3 Q
  | 0, a, z0, y0, b, x16_1, x17_1, xh2_1_1, o, h, Q, hQ => by cases h
  | fuel + 1, a, z0, y0, b, x16_1, x17_1, xh2_1_1, o, h, Q, hQ => by
    unfold f28_1 at h
    refine XL.succ E0_ok ?_
    refine XQ.seq E0_ok (by kernel_rfl) ?_
    refine XQ.region (by kernel_rfl) ?_
    refine XR.runS E0_ok 1 1 [(0, ii a), (4, pp 1 0), (6, pp 2 0), (15, s0 0 b.length), (16, ii x16_1), (17, ii x17_1), (18, .bool (decide (x17_1 < x16_1)))] rfl (by kernel_rfl) ?_
    refine XR.done (by kernel_rfl) ?_
    show XQ _ _ _ _ _ _ _ _
    refine XQ.seq E0_ok (by kernel_rfl) ?_
    cases b1 : (decide (x17_1 < x16_1) : Bool) with
    | true =>
      have h := cT b1 h
      refine XQ.cond (s := (.tmp 18)) (b := true) (by kernel_rfl) (by kernel_rfl) (fun _ => ?_) (fun q => by cases q)
      refine XQ.skip (by kernel_rfl) ?_
      show XQ _ _ _ _ _ _ _ _
      refine XQ.seq E0_ok (by kernel_rfl) ?_
      refine XQ.block (id := 1) (by kernel_rfl) ?_
      refine XQ.seq E0_ok (by kernel_rfl) ?_
      refine XQ.region (by kernel_rfl) ?_
      cases b2 : (inRow x17_1 b.length : Bool) with
      | false => cases (cF b2 h)
      | true =>
        have h := cT b2 h
        refine XR.rd E0_ok [0, 4, 6, 15, 16, 17, 19] rfl (v := pp 0 ((Int.toNat x17_1) * 1)) (v_idx (s := 1) (x := (src 44 (.tmp 15))) (y := (src 44 (.tmp 17))) (b := 0) (o := 0) (len := b.length) (cap := b.length) (ik := .i64) (i := x17_1) (off := (Int.toNat x17_1) * 1) (d := (some (path 12 19))) (by kernel_rfl) (by kernel_rfl) (by kernel_rfl) b2 (by omega)) (σ' := [(0, ii a), (4, pp 1 0), (6, pp 2 0), (15, s0 0 b.length), (16, ii x16_1), (17, ii x17_1), (19, pp 0 ((Int.toNat x17_1) * 1))]) (by kernel_rfl) ?_
        refine XR.rd E0_ok [0, 4, 6, 15, 16, 17, 20] rfl (v := ii (List.getD b (Int.toNat x17_1) 0)) (v_load1 (encI_ok .i64) (x := (src 44 (.tmp 19))) (b := 0) (off := (Int.toNat x17_1) * 1) (xs := b) (fz := z0) (e := y0) (es := 1) (d := (some (path 12 20))) (by kernel_rfl) (by kernel_rfl) (by kernel_rfl) (Int.toNat x17_1) 0 0 (by first | with_reducible rfl | omega | rfl) (row_len (inRow_toNat b2) (by simp)) rfl rfl) (σ' := [(0, ii a), (4, pp 1 0), (6, pp 2 0), (15, s0 0 b.length), (16, ii x16_1), (17, ii x17_1), (20, ii (List.getD b (Int.toNat x17_1) 0))]) (by kernel_rfl) ?_
        refine XR.runS E0_ok 1 1 [(0, ii a), (4, pp 1 0), (6, pp 2 0), (8, ii (List.getD b (Int.toNat x17_1) 0)), (15, s0 0 b.length), (16, ii x16_1), (17, ii x17_1)] rfl (by kernel_rfl) ?_
        refine XR.done (by kernel_rfl) ?_
        show XQ _ _ _ _ _ _ _ _
        refine XQ.seq E0_ok (by kernel_rfl) ?_
        refine XQ.block (id := 2) (by kernel_rfl) ?_
        refine XQ.seq E0_ok (by kernel_rfl) ?_
        refine XQ.region (by kernel_rfl) ?_
        refine XR.runS E0_ok 1 3 [(0, ii a), (4, pp 1 0), (6, pp 2 0), (8, ii (List.getD b (Int.toNat x17_1) 0)), (15, s0 0 b.length), (16, ii x16_1), (17, ii x17_1), (22, ii (List.getD b (Int.toNat x17_1) 0)), (24, ii (w64 (a - 1)))] rfl (by kernel_rfl) ?_
        obtain ⟨r4, r4_h, h⟩ := bS h
        refine XR.call E0_ok [0, 4, 6, 8, 15, 16, 17, 25] rfl (K := 29) (args := [ii (List.getD b (Int.toNat x17_1) 0), ii 0, ii (w64 (a - 1))]) (d := (some (path 12 25))) (by kernel_rfl) (KC.of_calls E0_ok (F := Proofs.Tryz.f29) (v := .bool r4) (by kernel_rfl) rfl rfl (fun w hI => f29_ok m (List.getD b (Int.toNat x17_1) 0) 0 (w64 (a - 1)) r4 r4_h w hI)) ?_
        rintro _ _ _ ⟨rfl, rfl, rfl⟩
        refine XR.conv (σ' := [(0, ii a), (4, pp 1 0), (6, pp 2 0), (8, ii (List.getD b (Int.toNat x17_1) 0)), (15, s0 0 b.length), (16, ii x16_1), (17, ii x17_1), (25, .bool r4)]) (h' := [(2, .cells [ii a, .int .u64 xh2_1_1] 0 76 0), (1, .cells [ii 0, .int .u64 0] 0 76 0), (0, rc (encI .i64) b z0 y0 1)]) (c' := 3) ?_ (by kernel_rfl)
        refine XR.runS E0_ok 1 2 [(0, ii a), (4, pp 1 0), (6, pp 2 0), (8, ii (List.getD b (Int.toNat x17_1) 0)), (15, s0 0 b.length), (16, ii x16_1), (17, ii x17_1), (21, .bool (!r4))] rfl (by kernel_rfl) ?_
        refine XR.done (by kernel_rfl) ?_
        show XQ _ _ _ _ _ _ _ _
        cases b3 : (!r4 : Bool) with
        | true =>
          have h := cT b3 h
          refine XQ.cond (s := (.tmp 21)) (b := true) (by kernel_rfl) (by kernel_rfl) (fun _ => ?_) (fun q => by cases q)
          refine XQ.seq E0_ok (by kernel_rfl) ?_
          refine XQ.region (by kernel_rfl) ?_
          refine XR.runT E0_ok 1 3 [(4, pp 1 0), (5, ii 2)] [(2, .cells [ii a, .int .u64 xh2_1_1] 0 76 0), (1, .cells [ii a, .int .u64 xh2_1_1] 0 76 0), (0, rc (encI .i64) b z0 y0 1)] 3 rfl (by kernel_rfl) ?_
          refine XR.done (by kernel_rfl) ?_
          show XQ _ _ _ _ _ _ _ _
          refine XQ.ren (σ' := [(4, pp 1 0), (5, ii 2)]) (h' := [(1, .cells [ii a, .int .u64 xh2_1_1] 0 76 0), (0, rc (encI .i64) b z0 y0 1)]) (c' := 2) [0, 1] (by decide) rfl ⟨by kernel_rfl, by kernel_rfl, trivial⟩ ⟨⟨_, _, rfl, rfl, .inr ⟨_, _, _, _, rfl, rfl⟩⟩, ⟨_, _, rfl, rfl, .inl ⟨rfl, rowC_scal (encI_ok .i64) _⟩⟩, trivial⟩ rfl ?_
          refine XQ.ret (by kernel_rfl) ?_
          cases h
          exact hQ
        | false =>
          have h := cF b3 h
          refine XQ.cond (s := (.tmp 21)) (b := false) (by kernel_rfl) (by kernel_rfl) (fun q => by cases q) (fun _ => ?_)
          refine XQ.seq E0_ok (by kernel_rfl) ?_
          refine XQ.region (by kernel_rfl) ?_
          refine XR.runS E0_ok 1 3 [(0, ii a), (4, pp 1 0), (6, pp 2 0), (8, ii (List.getD b (Int.toNat x17_1) 0)), (15, s0 0 b.length), (16, ii x16_1), (17, ii x17_1), (30, .int .u64 xh2_1_1), (31, ii (List.getD b (Int.toNat x17_1) 0))] rfl (by kernel_rfl) ?_
          cases b4 : (decide (0 ≤ List.getD b (Int.toNat x17_1) 0) : Bool) with
          | false => cases (cF b4 h)
          | true =>
            have h := cT b4 h
            have e5 : insV (headI ((gsOf E0 44 (opsOf (lft (rgt (rgt (lft (lft (rgt (lft (lft (rgt (rgt f28_L1)))))))))))).drop 3) (trS 44 [(0, ii a), (4, pp 1 0), (6, pp 2 0), (8, ii (List.getD b (Int.toNat x17_1) 0)), (15, s0 0 b.length), (16, ii x16_1), (17, ii x17_1), (30, .int .u64 xh2_1_1), (31, ii (List.getD b (Int.toNat x17_1) 0))])) (trS 44 [(0, ii a), (4, pp 1 0), (6, pp 2 0), (8, ii (List.getD b (Int.toNat x17_1) 0)), (15, s0 0 b.length), (16, ii x16_1), (17, ii x17_1), (30, .int .u64 xh2_1_1), (31, ii (List.getD b (Int.toNat x17_1) 0))]) [(2, .cells [ii a, .int .u64 xh2_1_1] 0 76 0), (1, .cells [ii 0, .int .u64 0] 0 76 0), (0, rc (encI .i64) b z0 y0 1)] = (match (decide (0 ≤ List.getD b (Int.toNat x17_1) 0) : Bool) with | true => some (.int .u64 (shV false .u64 xh2_1_1 (List.getD b (Int.toNat x17_1) 0))) | false => none) := by kernel_rfl
            refine XR.rd E0_ok [0, 4, 6, 8, 15, 16, 17, 32] rfl (e5.trans (by rw [b4])) (σ' := [(0, ii a), (4, pp 1 0), (6, pp 2 0), (8, ii (List.getD b (Int.toNat x17_1) 0)), (15, s0 0 b.length), (16, ii x16_1), (17, ii x17_1), (32, .int .u64 (shV false .u64 xh2_1_1 (List.getD b (Int.toNat x17_1) 0)))]) (by kernel_rfl) ?_
            refine XR.runS E0_ok 1 3 [(0, ii a), (4, pp 1 0), (6, pp 2 0), (8, ii (List.getD b (Int.toNat x17_1) 0)), (15, s0 0 b.length), (16, ii x16_1), (17, ii x17_1), (28, .bool ((andV .u64 (shV false .u64 xh2_1_1 (List.getD b (Int.toNat x17_1) 0)) 1) == 1))] rfl (by kernel_rfl) ?_
            refine XR.done (by kernel_rfl) ?_
            show XQ _ _ _ _ _ _ _ _
            cases b6 : ((andV .u64 (shV false .u64 xh2_1_1 (List.getD b (Int.toNat x17_1) 0)) 1) == 1 : Bool) with
            | true =>
              have h := cT b6 h
              refine XQ.cond (s := (.tmp 28)) (b := true) (by kernel_rfl) (by kernel_rfl) (fun _ => ?_) (fun q => by cases q)
              refine XQ.seq E0_ok (by kernel_rfl) ?_
              refine XQ.region (by kernel_rfl) ?_
              refine XR.runT E0_ok 1 3 [(4, pp 1 0), (5, ii 6)] [(2, .cells [ii a, .int .u64 xh2_1_1] 0 76 0), (1, .cells [ii a, .int .u64 xh2_1_1] 0 76 0), (0, rc (encI .i64) b z0 y0 1)] 3 rfl (by kernel_rfl) ?_
              refine XR.done (by kernel_rfl) ?_
              show XQ _ _ _ _ _ _ _ _
              refine XQ.ren (σ' := [(4, pp 1 0), (5, ii 6)]) (h' := [(1, .cells [ii a, .int .u64 xh2_1_1] 0 76 0), (0, rc (encI .i64) b z0 y0 1)]) (c' := 2) [0, 1] (by decide) rfl ⟨by kernel_rfl, by kernel_rfl, trivial⟩ ⟨⟨_, _, rfl, rfl, .inr ⟨_, _, _, _, rfl, rfl⟩⟩, ⟨_, _, rfl, rfl, .inl ⟨rfl, rowC_scal (encI_ok .i64) _⟩⟩, trivial⟩ rfl ?_
              refine XQ.ret (by kernel_rfl) ?_
              cases h
              exact hQ
            | false =>
              have h := cF b6 h
              refine XQ.cond (s := (.tmp 28)) (b := false) (by kernel_rfl) (by kernel_rfl) (fun q => by cases q) (fun _ => ?_)
              refine XQ.skip (by kernel_rfl) ?_
              show XQ _ _ _ _ _ _ _ _
              refine XQ.tail E0_ok 6 (by kernel_rfl) (by kernel_rfl) ?_
              refine XS.step E0_ok 3 rfl [0, 4, 6, 15, 16, 17, 37, 38] rfl (σ' := [(0, ii a), (4, pp 1 0), (6, pp 2 0), (15, s0 0 b.length), (16, ii x16_1), (17, ii x17_1), (37, .int .u64 xh2_1_1), (38, ii (List.getD b (Int.toNat x17_1) 0))]) (by kernel_rfl) ?_
              have e7 : insV (headI ((gsOf E0 44 (opsOf (rgt (rgt (lft (lft (rgt (rgt f28_L1)))))))).drop 3) (trS 44 [(0, ii a), (4, pp 1 0), (6, pp 2 0), (15, s0 0 b.length), (16, ii x16_1), (17, ii x17_1), (37, .int .u64 xh2_1_1), (38, ii (List.getD b (Int.toNat x17_1) 0))])) (trS 44 [(0, ii a), (4, pp 1 0), (6, pp 2 0), (15, s0 0 b.length), (16, ii x16_1), (17, ii x17_1), (37, .int .u64 xh2_1_1), (38, ii (List.getD b (Int.toNat x17_1) 0))]) [(2, .cells [ii a, .int .u64 xh2_1_1] 0 76 0), (1, .cells [ii 0, .int .u64 0] 0 76 0), (0, rc (encI .i64) b z0 y0 1)] = (match (decide (0 ≤ List.getD b (Int.toNat x17_1) 0) : Bool) with | true => some (.int .u64 (shV true .u64 1 (List.getD b (Int.toNat x17_1) 0))) | false => none) := by kernel_rfl
              refine XS.rd E0_ok rfl [0, 4, 6, 15, 16, 17, 37, 39] rfl (e7.trans (by rw [b4])) (σ' := [(0, ii a), (4, pp 1 0), (6, pp 2 0), (15, s0 0 b.length), (16, ii x16_1), (17, ii x17_1), (37, .int .u64 xh2_1_1), (39, .int .u64 (shV true .u64 1 (List.getD b (Int.toNat x17_1) 0)))]) (by kernel_rfl) ?_
              refine XS.step E0_ok 2 rfl [0, 4, 6, 15, 16, 17, 40, 41] rfl (σ' := [(0, ii a), (4, pp 1 0), (6, pp 2 0), (15, s0 0 b.length), (16, ii x16_1), (17, ii x17_1), (40, .int .u64 (orV .u64 xh2_1_1 (shV true .u64 1 (List.getD b (Int.toNat x17_1) 0)))), (41, pp 2 1)]) (by kernel_rfl) ?_
              refine XS.done (by kernel_rfl) ?_
              refine XR.runT E0_ok 1 1 [(0, ii a), (4, pp 1 0), (6, pp 2 0), (15, s0 0 b.length), (16, ii x16_1), (17, ii x17_1)] [(2, .cells [ii a, .int .u64 (orV .u64 xh2_1_1 (shV true .u64 1 (List.getD b (Int.toNat x17_1) 0)))] 0 76 0), (1, .cells [ii 0, .int .u64 0] 0 76 0), (0, rc (encI .i64) b z0 y0 1)] 3 rfl (by kernel_rfl) ?_
              refine XR.done (by kernel_rfl) ?_
              show XQ _ _ _ _ _ _ _ _
              refine XQ.region (by kernel_rfl) ?_
              refine XR.runS E0_ok 1 2 [(0, ii a), (4, pp 1 0), (6, pp 2 0), (15, s0 0 b.length), (16, ii x16_1), (17, ii (w64 (x17_1 + 1)))] rfl (by kernel_rfl) ?_
              refine XR.done (by kernel_rfl) ?_
              show XL _ _ _ _ _ _ _ _ _
              refine XL.ren (σ' := [(0, ii a), (4, pp 1 0), (6, pp 2 0), (15, s0 0 b.length), (16, ii x16_1), (17, ii (w64 (x17_1 + 1)))]) (h' := [(2, .cells [ii a, .int .u64 (orV .u64 xh2_1_1 (shV true .u64 1 (List.getD b (Int.toNat x17_1) 0)))] 0 76 0), (1, .cells [ii 0, .int .u64 0] 0 76 0), (0, rc (encI .i64) b z0 y0 1)]) (c' := 3) [0, 1, 2] (by decide) rfl ⟨by kernel_rfl, by kernel_rfl, by kernel_rfl, by kernel_rfl, by kernel_rfl, by kernel_rfl, trivial⟩ ⟨⟨_, _, rfl, rfl, .inr ⟨_, _, _, _, rfl, rfl⟩⟩, ⟨_, _, rfl, rfl, .inr ⟨_, _, _, _, rfl, rfl⟩⟩, ⟨_, _, rfl, rfl, .inl ⟨rfl, rowC_scal (encI_ok .i64) _⟩⟩, trivial⟩ rfl ?_
              refine XL.conv (f28_1_ok m fuel a z0 y0 b x16_1 (w64 (x17_1 + 1)) (orV .u64 xh2_1_1 (shV true .u64 1 (List.getD b (Int.toNat x17_1) 0))) o h Q hQ) (by first | with_reducible rfl | simp | rfl)
    | false =>
      have h := cF b1 h
      refine XQ.cond (s := (.tmp 18)) (b := false) (by kernel_rfl) (by kernel_rfl) (fun q => by cases q) (fun _ => ?_)
      refine XQ.ren (σ' := [(4, pp 1 0), (6, pp 2 0)]) (h' := [(2, .cells [ii a, .int .u64 xh2_1_1] 0 76 0), (1, .cells [ii 0, .int .u64 0] 0 76 0), (0, rc (encI .i64) b z0 y0 1)]) (c' := 3) [0, 1, 2] (by decide) rfl ⟨by kernel_rfl, by kernel_rfl, trivial⟩ ⟨⟨_, _, rfl, rfl, .inr ⟨_, _, _, _, rfl, rfl⟩⟩, ⟨_, _, rfl, rfl, .inr ⟨_, _, _, _, rfl, rfl⟩⟩, ⟨_, _, rfl, rfl, .inl ⟨rfl, rowC_scal (encI_ok .i64) _⟩⟩, trivial⟩ rfl ?_
      refine XQ.exit (i := 0) (by kernel_rfl) ?_
      cases h
      exact hQ

def f28 (m : Nat) (a : Int) (b : List Int) : Option (Int × Int × Int) :=
  (f29 m a 1 8).bind fun r1 =>
    cond (!r1) (
      some (a, 0, 1)
    ) (
      (f28_1 m m a b ((b.length : Nat) : Int) 0 0).bind fun o1 =>
        match o1 with
        | .r x5_r1 xh1_1_r1 =>
          some (a, xh1_1_r1, x5_r1)
        | .x0 xh2_1_x01 =>
          some (a, xh2_1_x01, 0)
    )

theorem f28_ok (m : Nat) (z0 : Nat) (y0 : Nat) (a : Int) (b : List Int) (o : Int × Int × Int) (h : f28 m a b = some o) : KC E0 28 [ii a, s0 0 b.length] [(0, rc (encI .i64) b z0 y0 1)] 1 (fun v _ _ => v = .tuple #[.agg #[ii o.1, .int .u64 o.2.1], ii o.2.2]) := by
  refine KC.bodyN E0_ok (F := Proofs.Tryz.f28) (by kernel_rfl) (code := f28_C28) (by kernel_rfl) (nt := 44) (by kernel_rfl) (rs := [.cell 4 76, .tmp 5]) (by kernel_rfl) (by kernel_rfl) (σ := [(0, ii a), (1, s0 0 b.length)]) (by kernel_rfl) ?_
  unfold f28 at h
  refine XQ.seq E0_ok (by kernel_rfl) ?_
  refine XQ.region (by kernel_rfl) ?_
  refine XR.runT E0_ok 1 2 [(0, ii a), (1, s0 0 b.length), (4, pp 1 0)] [(1, .cells [ii 0, .int .u64 0] 0 76 0), (0, rc (encI .i64) b z0 y0 1)] 2 rfl (by kernel_rfl) ?_
  refine XR.done (by kernel_rfl) ?_
  show XQ _ _ _ _ _ _ _ _
  refine XQ.seq E0_ok (by kernel_rfl) ?_
  refine XQ.region (by kernel_rfl) ?_
  refine XR.runT E0_ok 1 4 [(0, ii a), (1, s0 0 b.length), (4, pp 1 0), (6, pp 2 0)] [(2, .cells [ii a, .int .u64 0] 0 76 0), (1, .cells [ii 0, .int .u64 0] 0 76 0), (0, rc (encI .i64) b z0 y0 1)] 3 rfl (by kernel_rfl) ?_
  refine XR.done (by kernel_rfl) ?_
  show XQ _ _ _ _ _ _ _ _
  refine XQ.seq E0_ok (by kernel_rfl) ?_
  refine XQ.seq E0_ok (by kernel_rfl) ?_
  refine XQ.region (by kernel_rfl) ?_
  refine XR.runS E0_ok 1 1 [(0, ii a), (1, s0 0 b.length), (4, pp 1 0), (6, pp 2 0), (11, ii a)] rfl (by kernel_rfl) ?_
  obtain ⟨r1, r1_h, h⟩ := bS h
  refine XR.call E0_ok [0, 1, 4, 6, 12] rfl (K := 29) (args := [ii a, ii 1, ii 8]) (d := (some (path 12 12))) (by kernel_rfl) (KC.of_calls E0_ok (F := Proofs.Tryz.f29) (v := .bool r1) (by kernel_rfl) rfl rfl (fun w hI => f29_ok m a 1 8 r1 r1_h w hI)) ?_
  rintro _ _ _ ⟨rfl, rfl, rfl⟩
  refine XR.conv (σ' := [(0, ii a), (1, s0 0 b.length), (4, pp 1 0), (6, pp 2 0), (12, .bool r1)]) (h' := [(2, .cells [ii a, .int .u64 0] 0 76 0), (1, .cells [ii 0, .int .u64 0] 0 76 0), (0, rc (encI .i64) b z0 y0 1)]) (c' := 3) ?_ (by kernel_rfl)
  refine XR.runS E0_ok 1 1 [(0, ii a), (1, s0 0 b.length), (4, pp 1 0), (6, pp 2 0), (13, .bool (!r1))] rfl (by kernel_rfl) ?_
  refine XR.done (by kernel_rfl) ?_
  show XQ _ _ _ _ _ _ _ _
  cases b1 : (!r1 : Bool) with
  | true =>
    have h := cT b1 h
    refine XQ.cond (s := (.tmp 13)) (b := true) (by kernel_rfl) (by kernel_rfl) (fun _ => ?_) (fun q => by cases q)
    refine XQ.seq E0_ok (by kernel_rfl) ?_
    refine XQ.region (by kernel_rfl) ?_
    refine XR.runT E0_ok 1 3 [(4, pp 1 0), (5, ii 1)] [(2, .cells [ii a, .int .u64 0] 0 76 0), (1, .cells [ii a, .int .u64 0] 0 76 0), (0, rc (encI .i64) b z0 y0 1)] 3 rfl (by kernel_rfl) ?_
    refine XR.done (by kernel_rfl) ?_
    show XQ _ _ _ _ _ _ _ _
    refine XQ.ret (by kernel_rfl) ?_
    have h := Option.some.inj h
    subst h
    exact ⟨fun i q => (by cases q), .tuple #[.agg #[ii a, .int .u64 0], ii 1], (by kernel_rfl), rfl⟩
  | false =>
    have h := cF b1 h
    refine XQ.cond (s := (.tmp 13)) (b := false) (by kernel_rfl) (by kernel_rfl) (fun q => by cases q) (fun _ => ?_)
    refine XQ.skip (by kernel_rfl) ?_
    show XQ _ _ _ _ _ _ _ _
    refine XQ.seq E0_ok (by kernel_rfl) ?_
    refine XQ.seq E0_ok (by kernel_rfl) ?_
    refine XQ.region (by kernel_rfl) ?_
    refine XR.runS E0_ok 1 3 [(0, ii a), (4, pp 1 0), (6, pp 2 0), (15, s0 0 b.length), (16, ii ((b.length : Nat) : Int)), (17, ii 0)] rfl (by kernel_rfl) ?_
    refine XR.done (by kernel_rfl) ?_
    show XQ _ _ _ _ _ _ _ _
    refine XQ.block (id := 0) (by kernel_rfl) ?_
    refine XQ.loop m (by kernel_rfl) ?_
    obtain ⟨o1, o1_h, h⟩ := bS h
    refine XL.ren (σ' := [(0, ii a), (4, pp 1 0), (6, pp 2 0), (15, s0 0 b.length), (16, ii ((b.length : Nat) : Int)), (17, ii 0)]) (h' := [(2, .cells [ii a, .int .u64 0] 0 76 0), (1, .cells [ii 0, .int .u64 0] 0 76 0), (0, rc (encI .i64) b z0 y0 1)]) (c' := 3) [0, 1, 2] (by decide) rfl ⟨by kernel_rfl, by kernel_rfl, by kernel_rfl, by kernel_rfl, by kernel_rfl, by kernel_rfl, trivial⟩ ⟨⟨_, _, rfl, rfl, .inr ⟨_, _, _, _, rfl, rfl⟩⟩, ⟨_, _, rfl, rfl, .inr ⟨_, _, _, _, rfl, rfl⟩⟩, ⟨_, _, rfl, rfl, .inl ⟨rfl, rowC_scal (encI_ok .i64) _⟩⟩, trivial⟩ rfl ?_
    cases o1 with
    | r x5_r1 xh1_1_r1 =>
      dsimp only at h
      refine XL.conv (f28_1_ok m m a z0 y0 b ((b.length : Nat) : Int) 0 0 (.r x5_r1 xh1_1_r1) o1_h _ ?_) (by first | with_reducible rfl | simp | rfl)
      have h := Option.some.inj h
      subst h
      exact ⟨fun i q => (by cases q), .tuple #[.agg #[ii a, .int .u64 xh1_1_r1], ii x5_r1], (by kernel_rfl), rfl⟩
    | x0 xh2_1_x01 =>
      dsimp only at h
      refine XL.conv (f28_1_ok m m a z0 y0 b ((b.length : Nat) : Int) 0 0 (.x0 xh2_1_x01) o1_h _ ?_) (by first | with_reducible rfl | simp | rfl)
      show XQ _ _ _ _ _ _ _ _
      refine XQ.seq E0_ok (by kernel_rfl) ?_
      refine XQ.region (by kernel_rfl) ?_
      refine XR.runT E0_ok 1 3 [(4, pp 1 0), (5, ii 0)] [(2, .cells [ii a, .int .u64 xh2_1_x01] 0 76 0), (1, .cells [ii a, .int .u64 xh2_1_x01] 0 76 0), (0, rc (encI .i64) b z0 y0 1)] 3 rfl (by kernel_rfl) ?_
      refine XR.done (by kernel_rfl) ?_
      show XQ _ _ _ _ _ _ _ _
      refine XQ.ret (by kernel_rfl) ?_
      have h := Option.some.inj h
      subst h
      exact ⟨fun i q => (by cases q), .tuple #[.agg #[ii a, .int .u64 xh2_1_x01], ii 0], (by kernel_rfl), rfl⟩

/-! vitola/dock.Next -/
noncomputable def f9_C9 : Code := Proofs.Tryz.f9.body.getD .skip
noncomputable def f9_C30 : Code := Proofs.Tryz.f30.body.getD .skip

def f9 (m : Nat) (a : Int) (b : List Int) (c : Int) : Option (Int × Int) :=
  (f28 m a b).bind fun r1 =>
    cond (r1.2.2 != 0) (
      some (0, r1.2.2)
    ) (
      (f29 m c 0 (w64 (a - 1))).bind fun r2 =>
        cond (!r2) (
          some (0, 2)
        ) (
          cond (decide (0 ≤ c)) (
            cond (decide (0 ≤ r1.1)) (
              cond ((andV .u64 (shV true .u64 (shV false .u64 (xorV .u64 18446744073709551615 r1.2.1) c) c) (IntKind.wrap .u64 ((shV true .u64 1 r1.1) - 1))) == 0) (
                some (0, 12)
              ) (
                (tzS (andV .u64 (shV true .u64 (shV false .u64 (xorV .u64 18446744073709551615 r1.2.1) c) c) (IntKind.wrap .u64 ((shV true .u64 1 r1.1) - 1)))).bind fun r3 =>
                  cond (decide (0 ≤ r3)) (
                    some (r3, 0)
                  ) none
              )
            ) none
          ) none
        )
    )

theorem f9_ok (m : Nat) (z0 : Nat) (y0 : Nat) (a : Int) (b : List Int) (c : Int) (o : Int × Int) (h : f9 m a b c = some o) : KC E0 9 [ii a, s0 0 b.length, ii c] [(0, rc (encI .i64) b z0 y0 1)] 1 (fun v _ _ => v = .tuple #[ii o.1, ii o.2]) := by
  refine KC.bodyN E0_ok (F := Proofs.Tryz.f9) (by kernel_rfl) (code := f9_C9) (by kernel_rfl) (nt := 37) (by kernel_rfl) (rs := [.tmp 6, .tmp 7]) (by kernel_rfl) (by kernel_rfl) (σ := [(0, ii a), (1, s0 0 b.length), (2, ii c)]) (by kernel_rfl) ?_
  unfold f9 at h
  refine XQ.seq E0_ok (by kernel_rfl) ?_
  refine XQ.region (by kernel_rfl) ?_
  refine XR.runS E0_ok 1 2 [(0, ii a), (1, s0 0 b.length), (2, ii c)] rfl (by kernel_rfl) ?_
  refine XR.done (by kernel_rfl) ?_
  show XQ _ _ _ _ _ _ _ _
  refine XQ.seq E0_ok (by kernel_rfl) ?_
  refine XQ.region (by kernel_rfl) ?_
  refine XR.runS E0_ok 1 2 [(0, ii a), (2, ii c), (13, ii a), (14, s0 0 b.length)] rfl (by kernel_rfl) ?_
  obtain ⟨r1, r1_h, h⟩ := bS h
  refine XR.call E0_ok [0, 2, 15] rfl (K := 28) (args := [ii a, s0 0 b.length]) (d := (some (path 12 15))) (by kernel_rfl) (KQ.call (KC.quiet E0_ok (args0 := [ii a, s0 0 b.length]) (h0 := [(0, rc (encI .i64) b (z0 + ((rowC (encI .i64) b).length + 1)) y0 1)]) (n := 1) (V := .tuple #[.agg #[ii r1.1, .int .u64 r1.2.1], ii r1.2.2]) [0] (f28_ok m (z0 + ((rowC (encI .i64) b).length + 1)) y0 a b r1 r1_h) rfl (by rfl) (by decide) rfl (by kernel_rfl) ⟨⟨_, _, rfl, rfl, .inl ⟨rfl, rowC_scal (encI_ok .i64) _⟩⟩, trivial⟩) rfl) ?_
  rintro _ _ _ ⟨rfl, rfl, rfl⟩
  refine XR.conv (σ' := [(0, ii a), (2, ii c), (15, .tuple #[.agg #[ii r1.1, .int .u64 r1.2.1], ii r1.2.2])]) (h' := [(0, rc (encI .i64) b z0 y0 1)]) (c' := 1) ?_ (by kernel_rfl)
  refine XR.runT E0_ok 1 6 [(0, ii a), (2, ii c), (8, pp 1 0), (9, ii r1.2.2)] [(1, .cells [ii r1.1, .int .u64 r1.2.1] 0 76 0), (0, rc (encI .i64) b z0 y0 1)] 2 rfl (by kernel_rfl) ?_
  refine XR.done (by kernel_rfl) ?_
  show XQ _ _ _ _ _ _ _ _
  refine XQ.seq E0_ok (by kernel_rfl) ?_
  refine XQ.block (id := 0) (by kernel_rfl) ?_
  refine XQ.seq E0_ok (by kernel_rfl) ?_
  refine XQ.region (by kernel_rfl) ?_
  refine XR.runS E0_ok 1 3 [(0, ii a), (2, ii c), (8, pp 1 0), (9, ii r1.2.2), (18, .bool (r1.2.2 != 0))] rfl (by kernel_rfl) ?_
  refine XR.done (by kernel_rfl) ?_
  show XQ _ _ _ _ _ _ _ _
  cases b1 : (r1.2.2 != 0 : Bool) with
  | true =>
    have h := cT b1 h
    refine XQ.cond (s := (.tmp 18)) (b := true) (by kernel_rfl) (by kernel_rfl) (fun _ => ?_) (fun q => by cases q)
    refine XQ.seq E0_ok (by kernel_rfl) ?_
    refine XQ.region (by kernel_rfl) ?_
    refine XR.runS E0_ok 1 3 [(6, ii 0), (7, ii r1.2.2)] rfl (by kernel_rfl) ?_
    refine XR.done (by kernel_rfl) ?_
    show XQ _ _ _ _ _ _ _ _
    refine XQ.ret (by kernel_rfl) ?_
    have h := Option.some.inj h
    subst h
    exact ⟨fun i q => (by cases q), .tuple #[ii 0, ii r1.2.2], (by kernel_rfl), rfl⟩
  | false =>
    have h := cF b1 h
    refine XQ.cond (s := (.tmp 18)) (b := false) (by kernel_rfl) (by kernel_rfl) (fun q => by cases q) (fun _ => ?_)
    refine XQ.seq E0_ok (by kernel_rfl) ?_
    refine XQ.region (by kernel_rfl) ?_
    refine XR.runS E0_ok 1 3 [(2, ii c), (8, pp 1 0), (23, ii c), (25, ii (w64 (a - 1)))] rfl (by kernel_rfl) ?_
    obtain ⟨r2, r2_h, h⟩ := bS h
    refine XR.call E0_ok [2, 8, 26] rfl (K := 29) (args := [ii c, ii 0, ii (w64 (a - 1))]) (d := (some (path 12 26))) (by kernel_rfl) (KC.of_calls E0_ok (F := Proofs.Tryz.f29) (v := .bool r2) (by kernel_rfl) rfl rfl (fun w hI => f29_ok m c 0 (w64 (a - 1)) r2 r2_h w hI)) ?_
    rintro _ _ _ ⟨rfl, rfl, rfl⟩
    refine XR.conv (σ' := [(2, ii c), (8, pp 1 0), (26, .bool r2)]) (h' := [(1, .cells [ii r1.1, .int .u64 r1.2.1] 0 76 0), (0, rc (encI .i64) b z0 y0 1)]) (c' := 2) ?_ (by kernel_rfl)
    refine XR.runS E0_ok 1 2 [(2, ii c), (8, pp 1 0), (22, .bool (!r2))] rfl (by kernel_rfl) ?_
    refine XR.done (by kernel_rfl) ?_
    show XQ _ _ _ _ _ _ _ _
    cases b2 : (!r2 : Bool) with
    | true =>
      have h := cT b2 h
      refine XQ.cond (s := (.tmp 22)) (b := true) (by kernel_rfl) (by kernel_rfl) (fun _ => ?_) (fun q => by cases q)
      refine XQ.seq E0_ok (by kernel_rfl) ?_
      refine XQ.region (by kernel_rfl) ?_
      refine XR.runS E0_ok 1 2 [(6, ii 0), (7, ii 2)] rfl (by kernel_rfl) ?_
      refine XR.done (by kernel_rfl) ?_
      show XQ _ _ _ _ _ _ _ _
      refine XQ.ret (by kernel_rfl) ?_
      have h := Option.some.inj h
      subst h
      exact ⟨fun i q => (by cases q), .tuple #[ii 0, ii 2], (by kernel_rfl), rfl⟩
    | false =>
      have h := cF b2 h
      refine XQ.cond (s := (.tmp 22)) (b := false) (by kernel_rfl) (by kernel_rfl) (fun q => by cases q) (fun _ => ?_)
      refine XQ.skip (by kernel_rfl) ?_
      show XQ _ _ _ _ _ _ _ _
      refine XQ.seq E0_ok (by kernel_rfl) ?_
      refine XQ.seq E0_ok (by kernel_rfl) ?_
      refine XQ.region (by kernel_rfl) ?_
      refine XR.runS E0_ok 1 1 [(8, pp 1 0), (29, ii c)] rfl (by kernel_rfl) ?_
      refine XR.callK E0_ok [30] rfl (K := 30) (args := [pp 1 0, ii c]) (d := (some (path 12 30))) (by kernel_rfl) ?_
      refine KC.bodyN E0_ok (F := Proofs.Tryz.f30) (by kernel_rfl) (code := f9_C30) (by kernel_rfl) (nt := 44) (by kernel_rfl) (rs := [.tmp 4]) (by kernel_rfl) (by kernel_rfl) (σ := [(0, pp 1 0), (1, ii c)]) (by kernel_rfl) ?_
      refine XQ.seq E0_ok (by kernel_rfl) ?_
      refine XQ.region (by kernel_rfl) ?_
      refine XR.runS E0_ok 1 1 [(0, pp 1 0), (1, ii c)] rfl (by kernel_rfl) ?_
      refine XR.done (by kernel_rfl) ?_
      show XQ _ _ _ _ _ _ _ _
      refine XQ.seq E0_ok (by kernel_rfl) ?_
      refine XQ.quiet E0_ok (by kernel_rfl) (by kernel_rfl) ?_
      refine XU.run E0_ok 1 6 [0, 1, 11, 12] rfl (σ' := [(0, pp 1 0), (1, ii c), (11, .int .u64 (xorV .u64 18446744073709551615 r1.2.1)), (12, ii c)]) (by kernel_rfl) ?_
      cases b3 : (decide (0 ≤ c) : Bool) with
      | false => cases (cF b3 h)
      | true =>
        have h := cT b3 h
        have e4 : insV (headI ((gsOf E0 44 (opsOf (lft (rgt f9_C30)))).drop 6) (trS 44 [(0, pp 1 0), (1, ii c), (11, .int .u64 (xorV .u64 18446744073709551615 r1.2.1)), (12, ii c)])) (trS 44 [(0, pp 1 0), (1, ii c), (11, .int .u64 (xorV .u64 18446744073709551615 r1.2.1)), (12, ii c)]) [(1, .cells [ii r1.1, .int .u64 r1.2.1] 0 76 0), (0, rc (encI .i64) b z0 y0 1)] = (match (decide (0 ≤ c) : Bool) with | true => some (.int .u64 (shV false .u64 (xorV .u64 18446744073709551615 r1.2.1) c)) | false => none) := by kernel_rfl
        refine XU.rd E0_ok [0, 1, 13] rfl (e4.trans (by rw [b3])) (σ' := [(0, pp 1 0), (1, ii c), (13, .int .u64 (shV false .u64 (xorV .u64 18446744073709551615 r1.2.1) c))]) (by kernel_rfl) ?_
        refine XU.run E0_ok 1 1 [0, 1, 13, 14] rfl (σ' := [(0, pp 1 0), (1, ii c), (13, .int .u64 (shV false .u64 (xorV .u64 18446744073709551615 r1.2.1) c)), (14, ii c)]) (by kernel_rfl) ?_
        have e5 : insV (headI ((gsOf E0 44 (opsOf (lft (rgt f9_C30)))).drop 8) (trS 44 [(0, pp 1 0), (1, ii c), (13, .int .u64 (shV false .u64 (xorV .u64 18446744073709551615 r1.2.1) c)), (14, ii c)])) (trS 44 [(0, pp 1 0), (1, ii c), (13, .int .u64 (shV false .u64 (xorV .u64 18446744073709551615 r1.2.1) c)), (14, ii c)]) [(1, .cells [ii r1.1, .int .u64 r1.2.1] 0 76 0), (0, rc (encI .i64) b z0 y0 1)] = (match (decide (0 ≤ c) : Bool) with | true => some (.int .u64 (shV true .u64 (shV false .u64 (xorV .u64 18446744073709551615 r1.2.1) c) c)) | false => none) := by kernel_rfl
        refine XU.rd E0_ok [0, 1, 15] rfl (e5.trans (by rw [b3])) (σ' := [(0, pp 1 0), (1, ii c), (15, .int .u64 (shV true .u64 (shV false .u64 (xorV .u64 18446744073709551615 r1.2.1) c) c))]) (by kernel_rfl) ?_
        refine XU.run E0_ok 1 4 [0, 1, 15, 19] rfl (σ' := [(0, pp 1 0), (1, ii c), (15, .int .u64 (shV true .u64 (shV false .u64 (xorV .u64 18446744073709551615 r1.2.1) c) c)), (19, ii r1.1)]) (by kernel_rfl) ?_
        cases b6 : (decide (0 ≤ r1.1) : Bool) with
        | false => cases (cF b6 h)
        | true =>
          have h := cT b6 h
          have e7 : insV (headI ((gsOf E0 44 (opsOf (lft (rgt f9_C30)))).drop 13) (trS 44 [(0, pp 1 0), (1, ii c), (15, .int .u64 (shV true .u64 (shV false .u64 (xorV .u64 18446744073709551615 r1.2.1) c) c)), (19, ii r1.1)])) (trS 44 [(0, pp 1 0), (1, ii c), (15, .int .u64 (shV true .u64 (shV false .u64 (xorV .u64 18446744073709551615 r1.2.1) c) c)), (19, ii r1.1)]) [(1, .cells [ii r1.1, .int .u64 r1.2.1] 0 76 0), (0, rc (encI .i64) b z0 y0 1)] = (match (decide (0 ≤ r1.1) : Bool) with | true => some (.int .u64 (shV true .u64 1 r1.1)) | false => none) := by kernel_rfl
          refine XU.rd E0_ok [0, 1, 15, 20] rfl (e7.trans (by rw [b6])) (σ' := [(0, pp 1 0), (1, ii c), (15, .int .u64 (shV true .u64 (shV false .u64 (xorV .u64 18446744073709551615 r1.2.1) c) c)), (20, .int .u64 (shV true .u64 1 r1.1))]) (by kernel_rfl) ?_
          refine XU.run E0_ok 1 3 [0, 1, 5] rfl (σ' := [(0, pp 1 0), (1, ii c), (5, .int .u64 (andV .u64 (shV true .u64 (shV false .u64 (xorV .u64 18446744073709551615 r1.2.1) c) c) (IntKind.wrap .u64 ((shV true .u64 1 r1.1) - 1))))]) (by kernel_rfl) ?_
          refine XU.done (by kernel_rfl) ?_
          show XQ _ _ _ _ _ _ _ _
          refine XQ.seq E0_ok (by kernel_rfl) ?_
          refine XQ.seq E0_ok (by kernel_rfl) ?_
          refine XQ.region (by kernel_rfl) ?_
          refine XR.runS E0_ok 1 2 [(0, pp 1 0), (1, ii c), (5, .int .u64 (andV .u64 (shV true .u64 (shV false .u64 (xorV .u64 18446744073709551615 r1.2.1) c) c) (IntKind.wrap .u64 ((shV true .u64 1 r1.1) - 1)))), (24, .bool ((andV .u64 (shV true .u64 (shV false .u64 (xorV .u64 18446744073709551615 r1.2.1) c) c) (IntKind.wrap .u64 ((shV true .u64 1 r1.1) - 1))) == 0))] rfl (by kernel_rfl) ?_
          refine XR.done (by kernel_rfl) ?_
          show XQ _ _ _ _ _ _ _ _
          cases b8 : ((andV .u64 (shV true .u64 (shV false .u64 (xorV .u64 18446744073709551615 r1.2.1) c) c) (IntKind.wrap .u64 ((shV true .u64 1 r1.1) - 1))) == 0 : Bool) with
          | true =>
            have h := cT b8 h
            refine XQ.cond (s := (.tmp 24)) (b := true) (by kernel_rfl) (by kernel_rfl) (fun _ => ?_) (fun q => by cases q)
            refine XQ.seq E0_ok (by kernel_rfl) ?_
            refine XQ.region (by kernel_rfl) ?_
            refine XR.runS E0_ok 1 3 [(4, .iface 58 (.agg #[]))] rfl (by kernel_rfl) ?_
            refine XR.done (by kernel_rfl) ?_
            show XQ _ _ _ _ _ _ _ _
            refine XQ.ret (by kernel_rfl) ?_
            refine ⟨fun i q => (by cases q), .iface 58 (.agg #[]), (by kernel_rfl), ?_⟩
            refine XR.conv (σ' := [(30, .iface 58 (.agg #[]))]) (h' := [(1, .cells [ii r1.1, .int .u64 r1.2.1] 0 76 0), (0, rc (encI .i64) b z0 y0 1)]) (c' := 2) ?_ (by kernel_rfl)
            refine XR.runT E0_ok 1 7 [(10, pp 2 0), (11, .bool false)] [(2, .cells [ii 0, ii 0] 0 56 0), (1, .cells [ii r1.1, .int .u64 r1.2.1] 0 76 0), (0, rc (encI .i64) b z0 y0 1)] 3 rfl (by kernel_rfl) ?_
            refine XR.done (by kernel_rfl) ?_
            show XQ _ _ _ _ _ _ _ _
            refine XQ.seq E0_ok (by kernel_rfl) ?_
            refine XQ.region (by kernel_rfl) ?_
            refine XR.runS E0_ok 1 1 [(10, pp 2 0), (34, .bool false)] rfl (by kernel_rfl) ?_
            refine XR.done (by kernel_rfl) ?_
            show XQ _ _ _ _ _ _ _ _
            refine XQ.cond (s := (.tmp 34)) (b := false) (by kernel_rfl) (by kernel_rfl) (fun q => by cases q) (fun _ => ?_)
            refine XQ.skip (by kernel_rfl) ?_
            show XQ _ _ _ _ _ _ _ _
            refine XQ.seq E0_ok (by kernel_rfl) ?_
            refine XQ.region (by kernel_rfl) ?_
            refine XR.runS E0_ok 1 2 [(6, ii 0), (7, ii 12)] rfl (by kernel_rfl) ?_
            refine XR.done (by kernel_rfl) ?_
            show XQ _ _ _ _ _ _ _ _
            refine XQ.ret (by kernel_rfl) ?_
            have h := Option.some.inj h
            subst h
            exact ⟨fun i q => (by cases q), .tuple #[ii 0, ii 12], (by kernel_rfl), rfl⟩
          | false =>
            have h := cF b8 h
            refine XQ.cond (s := (.tmp 24)) (b := false) (by kernel_rfl) (by kernel_rfl) (fun q => by cases q) (fun _ => ?_)
            refine XQ.skip (by kernel_rfl) ?_
            show XQ _ _ _ _ _ _ _ _
            refine XQ.seq E0_ok (by kernel_rfl) ?_
            refine XQ.region (by kernel_rfl) ?_
            refine XR.runS E0_ok 1 1 [(0, pp 1 0), (1, ii c), (27, .int .u64 (andV .u64 (shV true .u64 (shV false .u64 (xorV .u64 18446744073709551615 r1.2.1) c) c) (IntKind.wrap .u64 ((shV true .u64 1 r1.1) - 1))))] rfl (by kernel_rfl) ?_
            obtain ⟨r3, r3_h, h⟩ := bS h
            refine XR.call E0_ok [0, 1, 28] rfl (K := 57) (args := [.int .u64 (andV .u64 (shV true .u64 (shV false .u64 (xorV .u64 18446744073709551615 r1.2.1) c) c) (IntKind.wrap .u64 ((shV true .u64 1 r1.1) - 1)))]) (d := (some (path 12 28))) (by kernel_rfl) (KC.of_calls E0_ok (F := Proofs.Tryz.f57) (v := ii r3) (by kernel_rfl) rfl rfl (fun w hI => tzS_ok r3_h w hI)) ?_
            rintro _ _ _ ⟨rfl, rfl, rfl⟩
            refine XR.conv (σ' := [(0, pp 1 0), (1, ii c), (28, ii r3)]) (h' := [(1, .cells [ii r1.1, .int .u64 r1.2.1] 0 76 0), (0, rc (encI .i64) b z0 y0 1)]) (c' := 2) ?_ (by kernel_rfl)
            refine XR.runS E0_ok 1 1 [(0, pp 1 0), (1, ii c), (6, ii r3)] rfl (by kernel_rfl) ?_
            refine XR.done (by kernel_rfl) ?_
            show XQ _ _ _ _ _ _ _ _
            refine XQ.seq E0_ok (by kernel_rfl) ?_
            refine XQ.tail E0_ok 9 (by kernel_rfl) (by kernel_rfl) ?_
            refine XS.step E0_ok 5 rfl [1, 6, 29, 32, 33] rfl (σ' := [(1, ii c), (6, ii r3), (29, pp 1 0), (32, .int .u64 r1.2.1), (33, ii r3)]) (by kernel_rfl) ?_
            cases b9 : (decide (0 ≤ r3) : Bool) with
            | false => cases (cF b9 h)
            | true =>
              have h := cT b9 h
              have e10 : insV (headI ((gsOf E0 44 (opsOf (lft (rgt (rgt (rgt (rgt f9_C30))))))).drop 5) (trS 44 [(1, ii c), (6, ii r3), (29, pp 1 0), (32, .int .u64 r1.2.1), (33, ii r3)])) (trS 44 [(1, ii c), (6, ii r3), (29, pp 1 0), (32, .int .u64 r1.2.1), (33, ii r3)]) [(1, .cells [ii r1.1, .int .u64 r1.2.1] 0 76 0), (0, rc (encI .i64) b z0 y0 1)] = (match (decide (0 ≤ r3) : Bool) with | true => some (.int .u64 (shV true .u64 1 r3)) | false => none) := by kernel_rfl
              refine XS.rd E0_ok rfl [1, 6, 29, 32, 34] rfl (e10.trans (by rw [b9])) (σ' := [(1, ii c), (6, ii r3), (29, pp 1 0), (32, .int .u64 r1.2.1), (34, .int .u64 (shV true .u64 1 r3))]) (by kernel_rfl) ?_
              refine XS.step E0_ok 3 rfl [1, 6, 35, 37] rfl (σ' := [(1, ii c), (6, ii r3), (35, .int .u64 (orV .u64 r1.2.1 (shV true .u64 1 r3))), (37, pp 1 1)]) (by kernel_rfl) ?_
              refine XS.done (by kernel_rfl) ?_
              refine XR.runT E0_ok 1 1 [(1, ii c), (6, ii r3)] [(1, .cells [ii r1.1, .int .u64 (orV .u64 r1.2.1 (shV true .u64 1 r3))] 0 76 0), (0, rc (encI .i64) b z0 y0 1)] 2 rfl (by kernel_rfl) ?_
              refine XR.done (by kernel_rfl) ?_
              show XQ _ _ _ _ _ _ _ _
              refine XQ.seq E0_ok (by kernel_rfl) ?_
              refine XQ.region (by kernel_rfl) ?_
              refine XR.runS E0_ok 1 7 [(4, .iface 56 (.agg #[ii r3, ii (w64 (r3 - c))]))] rfl (by kernel_rfl) ?_
              refine XR.done (by kernel_rfl) ?_
              show XQ _ _ _ _ _ _ _ _
              refine XQ.ret (by kernel_rfl) ?_
              refine ⟨fun i q => (by cases q), .iface 56 (.agg #[ii r3, ii (w64 (r3 - c))]), (by kernel_rfl), ?_⟩
              refine XR.conv (σ' := [(30, .iface 56 (.agg #[ii r3, ii (w64 (r3 - c))]))]) (h' := [(1, .cells [ii r1.1, .int .u64 (orV .u64 r1.2.1 (shV true .u64 1 r3))] 0 76 0), (0, rc (encI .i64) b z0 y0 1)]) (c' := 2) ?_ (by kernel_rfl)
              refine XR.runT E0_ok 1 7 [(10, pp 2 0), (11, .bool true)] [(2, .cells [ii r3, ii (w64 (r3 - c))] 0 56 0), (1, .cells [ii r1.1, .int .u64 (orV .u64 r1.2.1 (shV true .u64 1 r3))] 0 76 0), (0, rc (encI .i64) b z0 y0 1)] 3 rfl (by kernel_rfl) ?_
              refine XR.done (by kernel_rfl) ?_
              show XQ _ _ _ _ _ _ _ _
              refine XQ.seq E0_ok (by kernel_rfl) ?_
              refine XQ.region (by kernel_rfl) ?_
              refine XR.runS E0_ok 1 1 [(10, pp 2 0), (34, .bool true)] rfl (by kernel_rfl) ?_
              refine XR.done (by kernel_rfl) ?_
              show XQ _ _ _ _ _ _ _ _
              refine XQ.cond (s := (.tmp 34)) (b := true) (by kernel_rfl) (by kernel_rfl) (fun _ => ?_) (fun q => by cases q)
              refine XQ.seq E0_ok (by kernel_rfl) ?_
              refine XQ.region (by kernel_rfl) ?_
              refine XR.runS E0_ok 1 4 [(6, ii r3), (7, ii 0)] rfl (by kernel_rfl) ?_
              refine XR.done (by kernel_rfl) ?_
              show XQ _ _ _ _ _ _ _ _
              refine XQ.ret (by kernel_rfl) ?_
              have h := Option.some.inj h
              subst h
              exact ⟨fun i q => (by cases q), .tuple #[ii r3, ii 0], (by kernel_rfl), rfl⟩

end Go.Xm
