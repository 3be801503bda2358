/- What these functions of the program compute, as functions in Lean, and the proofs that they do: vitolalaw12.ClubCan. Conditions: the library's variables hold what their texts lay. -/
import Derived.Test.YtfimbmhannndaaaDoorDd
namespace Go.Xm
open Go.RowKit
set_option linter.unusedVariables false
set_option linter.unusedSimpArgs false
set_option maxRecDepth 20000

/-! vitola/vitolalaw12.ClubCan -/
noncomputable def f3_C3 : Code := Proofs.Tryd.f3.body.getD .skip

def f3 (m : Nat) (a : List Int) (b : Int) : Option (Bool) :=
 cond (decide (((a.length : Nat) : Int) > 60)) (
  some (true)
 ) (
  (f15 m a).bind fun r1 =>
   (f16 m a).bind fun r2 =>
    (f17 m a).bind fun r3 =>
     (f18 m a).bind fun r4 =>
      cond (r1.1 == r2.1) (
       cond (r1.2 == r2.2) (
        cond (r3.1 == r4.1) (
         cond (r3.2 == r4.2) (
          (f19 m a b).bind fun r5 =>
           (f20 m a b).bind fun r6 =>
            cond (r5 == r6) (
             (f21 m a).bind fun r7 =>
              (f22 m a).bind fun r8 =>
               cond (r7 == r8) (
                some (true)
               ) (
                some (false)
               )
            ) (
             some (false)
            )
         ) (
          some (false)
         )
        ) (
         some (false)
        )
       ) (
        some (false)
       )
      ) (
       some (false)
      )
 )

theorem f3_ok (m : Nat) (z0 : Nat) (y0 : Nat) (a : List Int) (b : Int) (o : Bool) (h : f3 m a b = some o) : KC E0 3 [s0 0 a.length, ii b] [(0, rc (encI .i64) a z0 y0 1)] 1 (fun v _ _ => v = .bool o) := by
 refine KC.bodyN E0_ok (F := Proofs.Tryd.f3) (by kernel_rfl) (code := f3_C3) (by kernel_rfl) (nt := 74) (by kernel_rfl) (rs := [.tmp 4]) (by kernel_rfl) (by kernel_rfl) (σ := [(0, s0 0 a.length), (1, ii b)]) (by kernel_rfl) ?_
 unfold f3 at h
 refine XQ.seq E0_ok (by kernel_rfl) ?_
 refine XQ.region (by kernel_rfl) ?_
 refine XR.runS E0_ok 1 1 [(0, s0 0 a.length), (1, ii b)] rfl (by kernel_rfl) ?_
 refine XR.done (by kernel_rfl) ?_
 show XQ _ _ _ _ _ _ _ _
 refine XQ.seq E0_ok (by kernel_rfl) ?_
 refine XQ.seq E0_ok (by kernel_rfl) ?_
 refine XQ.region (by kernel_rfl) ?_
 refine XR.runS E0_ok 1 3 [(0, s0 0 a.length), (1, ii b), (15, .bool (decide (((a.length : Nat) : Int) > 60)))] rfl (by kernel_rfl) ?_
 refine XR.done (by kernel_rfl) ?_
 show XQ _ _ _ _ _ _ _ _
 cases b1 : (decide (((a.length : Nat) : Int) > 60) : Bool) with
 | true =>
  have h := cT b1 h
  refine XQ.cond (s := (.tmp 15)) (b := true) (by kernel_rfl) (by kernel_rfl) (fun _ => ?_) (fun q => by cases q)
  refine XQ.seq E0_ok (by kernel_rfl) ?_
  refine XQ.region (by kernel_rfl) ?_
  refine XR.call E0_ok [16] rfl (K := 14) (args := []) (d := (some (path 12 16))) (by kernel_rfl) (KC.of_calls E0_ok (F := Proofs.Tryd.f14) (v := .bool true) (by kernel_rfl) rfl rfl (works_ok)) ?_
  rintro _ _ _ ⟨rfl, rfl, rfl⟩
  refine XR.conv (σ' := [(16, .bool true)]) (h' := [(0, rc (encI .i64) a z0 y0 1)]) (c' := 1) ?_ (by kernel_rfl)
  refine XR.runS E0_ok 1 1 [(4, .bool true)] rfl (by kernel_rfl) ?_
  refine XR.done (by kernel_rfl) ?_
  show XQ _ _ _ _ _ _ _ _
  refine XQ.ret (by kernel_rfl) ?_
  have h := Option.some.inj h
  subst h
  exact ⟨fun i q => (by cases q), .bool true, (by kernel_rfl), rfl⟩
 | false =>
  have h := cF b1 h
  refine XQ.cond (s := (.tmp 15)) (b := false) (by kernel_rfl) (by kernel_rfl) (fun q => by cases q) (fun _ => ?_)
  refine XQ.skip (by kernel_rfl) ?_
  show XQ _ _ _ _ _ _ _ _
  refine XQ.seq E0_ok (by kernel_rfl) ?_
  refine XQ.region (by kernel_rfl) ?_
  refine XR.runS E0_ok 1 1 [(0, s0 0 a.length), (1, ii b), (18, s0 0 a.length)] rfl (by kernel_rfl) ?_
  obtain ⟨r1, r1_h, h⟩ := bS h
  refine XR.call E0_ok [0, 1, 19] rfl (K := 15) (args := [s0 0 a.length]) (d := (some (path 12 19))) (by kernel_rfl) (KQ.call (KC.quiet E0_ok (args0 := [s0 0 a.length]) (h0 := [(0, rc (encI .i64) a (z0 + ((rowC (encI .i64) a).length + 1)) y0 1)]) (n := 1) (V := .tuple #[.bool r1.1, ii r1.2]) [0] (f15_ok m (z0 + ((rowC (encI .i64) a).length + 1)) y0 a r1 r1_h) rfl (by rfl) (by decide) rfl (by kernel_rfl) ⟨⟨_, _, rfl, rfl, .inl ⟨rfl, rowC_scal (encI_ok .i64) _⟩⟩, trivial⟩) rfl) ?_
  rintro _ _ _ ⟨rfl, rfl, rfl⟩
  refine XR.conv (σ' := [(0, s0 0 a.length), (1, ii b), (19, .tuple #[.bool r1.1, ii r1.2])]) (h' := [(0, rc (encI .i64) a z0 y0 1)]) (c' := 1) ?_ (by kernel_rfl)
  refine XR.runS E0_ok 1 5 [(0, s0 0 a.length), (1, ii b), (5, .bool r1.1), (6, ii r1.2)] rfl (by kernel_rfl) ?_
  refine XR.done (by kernel_rfl) ?_
  show XQ _ _ _ _ _ _ _ _
  refine XQ.seq E0_ok (by kernel_rfl) ?_
  refine XQ.region (by kernel_rfl) ?_
  refine XR.runS E0_ok 1 1 [(0, s0 0 a.length), (1, ii b), (5, .bool r1.1), (6, ii r1.2), (23, s0 0 a.length)] rfl (by kernel_rfl) ?_
  obtain ⟨r2, r2_h, h⟩ := bS h
  refine XR.call E0_ok [0, 1, 5, 6, 24] rfl (K := 16) (args := [s0 0 a.length]) (d := (some (path 12 24))) (by kernel_rfl) (KQ.call (KC.quiet E0_ok (args0 := [s0 0 a.length]) (h0 := [(0, rc (encI .i64) a (z0 + ((rowC (encI .i64) a).length + 1)) y0 1)]) (n := 1) (V := .tuple #[.bool r2.1, ii r2.2]) [0] (f16_ok m (z0 + ((rowC (encI .i64) a).length + 1)) y0 a r2 r2_h) rfl (by rfl) (by decide) rfl (by kernel_rfl) ⟨⟨_, _, rfl, rfl, .inl ⟨rfl, rowC_scal (encI_ok .i64) _⟩⟩, trivial⟩) rfl) ?_
  rintro _ _ _ ⟨rfl, rfl, rfl⟩
  refine XR.conv (σ' := [(0, s0 0 a.length), (1, ii b), (5, .bool r1.1), (6, ii r1.2), (24, .tuple #[.bool r2.1, ii r2.2])]) (h' := [(0, rc (encI .i64) a z0 y0 1)]) (c' := 1) ?_ (by kernel_rfl)
  refine XR.runS E0_ok 1 5 [(0, s0 0 a.length), (1, ii b), (5, .bool r1.1), (6, ii r1.2), (7, .bool r2.1), (8, ii r2.2)] rfl (by kernel_rfl) ?_
  refine XR.done (by kernel_rfl) ?_
  show XQ _ _ _ _ _ _ _ _
  refine XQ.seq E0_ok (by kernel_rfl) ?_
  refine XQ.region (by kernel_rfl) ?_
  refine XR.runS E0_ok 1 1 [(0, s0 0 a.length), (1, ii b), (5, .bool r1.1), (6, ii r1.2), (7, .bool r2.1), (8, ii r2.2), (28, s0 0 a.length)] rfl (by kernel_rfl) ?_
  obtain ⟨r3, r3_h, h⟩ := bS h
  refine XR.call E0_ok [0, 1, 5, 6, 7, 8, 29] rfl (K := 17) (args := [s0 0 a.length]) (d := (some (path 12 29))) (by kernel_rfl) (KQ.call (KC.quiet E0_ok (args0 := [s0 0 a.length]) (h0 := [(0, rc (encI .i64) a (z0 + ((rowC (encI .i64) a).length + 1)) y0 1)]) (n := 1) (V := .tuple #[ii r3.1, ii r3.2]) [0] (f17_ok m (z0 + ((rowC (encI .i64) a).length + 1)) y0 a r3 r3_h) rfl (by rfl) (by decide) rfl (by kernel_rfl) ⟨⟨_, _, rfl, rfl, .inl ⟨rfl, rowC_scal (encI_ok .i64) _⟩⟩, trivial⟩) rfl) ?_
  rintro _ _ _ ⟨rfl, rfl, rfl⟩
  refine XR.conv (σ' := [(0, s0 0 a.length), (1, ii b), (5, .bool r1.1), (6, ii r1.2), (7, .bool r2.1), (8, ii r2.2), (29, .tuple #[ii r3.1, ii r3.2])]) (h' := [(0, rc (encI .i64) a z0 y0 1)]) (c' := 1) ?_ (by kernel_rfl)
  refine XR.runS E0_ok 1 5 [(0, s0 0 a.length), (1, ii b), (5, .bool r1.1), (6, ii r1.2), (7, .bool r2.1), (8, ii r2.2), (9, ii r3.1), (10, ii r3.2)] rfl (by kernel_rfl) ?_
  refine XR.done (by kernel_rfl) ?_
  show XQ _ _ _ _ _ _ _ _
  refine XQ.seq E0_ok (by kernel_rfl) ?_
  refine XQ.region (by kernel_rfl) ?_
  refine XR.runS E0_ok 1 1 [(0, s0 0 a.length), (1, ii b), (5, .bool r1.1), (6, ii r1.2), (7, .bool r2.1), (8, ii r2.2), (9, ii r3.1), (10, ii r3.2), (33, s0 0 a.length)] rfl (by kernel_rfl) ?_
  obtain ⟨r4, r4_h, h⟩ := bS h
  refine XR.call E0_ok [0, 1, 5, 6, 7, 8, 9, 10, 34] rfl (K := 18) (args := [s0 0 a.length]) (d := (some (path 12 34))) (by kernel_rfl) (KQ.call (KC.quiet E0_ok (args0 := [s0 0 a.length]) (h0 := [(0, rc (encI .i64) a (z0 + ((rowC (encI .i64) a).length + 1)) y0 1)]) (n := 1) (V := .tuple #[ii r4.1, ii r4.2]) [0] (f18_ok m (z0 + ((rowC (encI .i64) a).length + 1)) y0 a r4 r4_h) rfl (by rfl) (by decide) rfl (by kernel_rfl) ⟨⟨_, _, rfl, rfl, .inl ⟨rfl, rowC_scal (encI_ok .i64) _⟩⟩, trivial⟩) rfl) ?_
  rintro _ _ _ ⟨rfl, rfl, rfl⟩
  refine XR.conv (σ' := [(0, s0 0 a.length), (1, ii b), (5, .bool r1.1), (6, ii r1.2), (7, .bool r2.1), (8, ii r2.2), (9, ii r3.1), (10, ii r3.2), (34, .tuple #[ii r4.1, ii r4.2])]) (h' := [(0, rc (encI .i64) a z0 y0 1)]) (c' := 1) ?_ (by kernel_rfl)
  refine XR.runS E0_ok 1 5 [(0, s0 0 a.length), (1, ii b), (5, .bool r1.1), (6, ii r1.2), (7, .bool r2.1), (8, ii r2.2), (9, ii r3.1), (10, ii r3.2), (11, ii r4.1), (12, ii r4.2)] rfl (by kernel_rfl) ?_
  refine XR.done (by kernel_rfl) ?_
  show XQ _ _ _ _ _ _ _ _
  refine XQ.seq E0_ok (by kernel_rfl) ?_
  refine XQ.region (by kernel_rfl) ?_
  refine XR.runS E0_ok 1 4 [(0, s0 0 a.length), (1, ii b), (6, ii r1.2), (8, ii r2.2), (9, ii r3.1), (10, ii r3.2), (11, ii r4.1), (12, ii r4.2), (40, .bool (r1.1 == r2.1))] rfl (by kernel_rfl) ?_
  cases b2 : (r1.1 == r2.1 : Bool) with
  | true =>
   have h := cT b2 h
   refine XR.runS E0_ok 1 5 [(0, s0 0 a.length), (1, ii b), (9, ii r3.1), (10, ii r3.2), (11, ii r4.1), (12, ii r4.2), (45, .bool (r1.2 == r2.2))] rfl (by kernel_rfl) ?_
   cases b3 : (r1.2 == r2.2 : Bool) with
   | true =>
    have h := cT b3 h
    refine XR.runS E0_ok 1 5 [(0, s0 0 a.length), (1, ii b), (10, ii r3.2), (12, ii r4.2), (50, .bool (r3.1 == r4.1))] rfl (by kernel_rfl) ?_
    cases b4 : (r3.1 == r4.1 : Bool) with
    | true =>
     have h := cT b4 h
     refine XR.runS E0_ok 1 5 [(0, s0 0 a.length), (1, ii b), (55, .bool (r3.2 == r4.2))] rfl (by kernel_rfl) ?_
     cases b5 : (r3.2 == r4.2 : Bool) with
     | true =>
      have h := cT b5 h
      refine XR.runS E0_ok 1 2 [(0, s0 0 a.length), (1, ii b), (55, .bool true), (56, s0 0 a.length), (57, ii b)] rfl (by kernel_rfl) ?_
      obtain ⟨r5, r5_h, h⟩ := bS h
      refine XR.call E0_ok [0, 1, 55, 58] rfl (K := 19) (args := [s0 0 a.length, ii b]) (d := (some (path 12 58))) (by kernel_rfl) (KQ.call (KC.quiet E0_ok (args0 := [s0 0 a.length, ii b]) (h0 := [(0, rc (encI .i64) a (z0 + ((rowC (encI .i64) a).length + 1)) y0 1)]) (n := 1) (V := ii r5) [0] (f19_ok m (z0 + ((rowC (encI .i64) a).length + 1)) y0 a b r5 r5_h) rfl (by rfl) (by decide) rfl (by kernel_rfl) ⟨⟨_, _, rfl, rfl, .inl ⟨rfl, rowC_scal (encI_ok .i64) _⟩⟩, trivial⟩) rfl) ?_
      rintro _ _ _ ⟨rfl, rfl, rfl⟩
      refine XR.conv (σ' := [(0, s0 0 a.length), (1, ii b), (55, .bool true), (58, ii r5)]) (h' := [(0, rc (encI .i64) a z0 y0 1)]) (c' := 1) ?_ (by kernel_rfl)
      refine XR.runS E0_ok 1 2 [(0, s0 0 a.length), (55, .bool true), (58, ii r5), (59, s0 0 a.length), (60, ii b)] rfl (by kernel_rfl) ?_
      obtain ⟨r6, r6_h, h⟩ := bS h
      refine XR.call E0_ok [0, 55, 58, 61] rfl (K := 20) (args := [s0 0 a.length, ii b]) (d := (some (path 12 61))) (by kernel_rfl) (KQ.call (KC.quiet E0_ok (args0 := [s0 0 a.length, ii b]) (h0 := [(0, rc (encI .i64) a (z0 + ((rowC (encI .i64) a).length + 1)) y0 1)]) (n := 1) (V := ii r6) [0] (f20_ok m (z0 + ((rowC (encI .i64) a).length + 1)) y0 a b r6 r6_h) rfl (by rfl) (by decide) rfl (by kernel_rfl) ⟨⟨_, _, rfl, rfl, .inl ⟨rfl, rowC_scal (encI_ok .i64) _⟩⟩, trivial⟩) rfl) ?_
      rintro _ _ _ ⟨rfl, rfl, rfl⟩
      refine XR.conv (σ' := [(0, s0 0 a.length), (55, .bool true), (58, ii r5), (61, ii r6)]) (h' := [(0, rc (encI .i64) a z0 y0 1)]) (c' := 1) ?_ (by kernel_rfl)
      refine XR.runS E0_ok 1 3 [(0, s0 0 a.length), (64, .bool (r5 == r6))] rfl (by kernel_rfl) ?_
      cases b6 : (r5 == r6 : Bool) with
      | true =>
       have h := cT b6 h
       refine XR.runS E0_ok 1 1 [(0, s0 0 a.length), (64, .bool true), (65, s0 0 a.length)] rfl (by kernel_rfl) ?_
       obtain ⟨r7, r7_h, h⟩ := bS h
       refine XR.call E0_ok [0, 64, 66] rfl (K := 21) (args := [s0 0 a.length]) (d := (some (path 12 66))) (by kernel_rfl) (KQ.call (KC.quiet E0_ok (args0 := [s0 0 a.length]) (h0 := [(0, rc (encI .i64) a (z0 + ((rowC (encI .i64) a).length + 1)) y0 1)]) (n := 1) (V := ii r7) [0] (f21_ok m (z0 + ((rowC (encI .i64) a).length + 1)) y0 a r7 r7_h) rfl (by rfl) (by decide) rfl (by kernel_rfl) ⟨⟨_, _, rfl, rfl, .inl ⟨rfl, rowC_scal (encI_ok .i64) _⟩⟩, trivial⟩) rfl) ?_
       rintro _ _ _ ⟨rfl, rfl, rfl⟩
       refine XR.conv (σ' := [(0, s0 0 a.length), (64, .bool true), (66, ii r7)]) (h' := [(0, rc (encI .i64) a z0 y0 1)]) (c' := 1) ?_ (by kernel_rfl)
       refine XR.runS E0_ok 1 1 [(64, .bool true), (66, ii r7), (67, s0 0 a.length)] rfl (by kernel_rfl) ?_
       obtain ⟨r8, r8_h, h⟩ := bS h
       refine XR.call E0_ok [64, 66, 68] rfl (K := 22) (args := [s0 0 a.length]) (d := (some (path 12 68))) (by kernel_rfl) (KQ.call (KC.quiet E0_ok (args0 := [s0 0 a.length]) (h0 := [(0, rc (encI .i64) a (z0 + ((rowC (encI .i64) a).length + 1)) y0 1)]) (n := 1) (V := ii r8) [0] (f22_ok m (z0 + ((rowC (encI .i64) a).length + 1)) y0 a r8 r8_h) rfl (by rfl) (by decide) rfl (by kernel_rfl) ⟨⟨_, _, rfl, rfl, .inl ⟨rfl, rowC_scal (encI_ok .i64) _⟩⟩, trivial⟩) rfl) ?_
       rintro _ _ _ ⟨rfl, rfl, rfl⟩
       refine XR.conv (σ' := [(64, .bool true), (66, ii r7), (68, ii r8)]) (h' := [(0, rc (encI .i64) a z0 y0 1)]) (c' := 1) ?_ (by kernel_rfl)
       refine XR.runS E0_ok 1 3 [(71, .bool (r7 == r8))] rfl (by kernel_rfl) ?_
       cases b7 : (r7 == r8 : Bool) with
       | true =>
        have h := cT b7 h
        refine XR.call E0_ok [71, 72] rfl (K := 14) (args := []) (d := (some (path 12 72))) (by kernel_rfl) (KC.of_calls E0_ok (F := Proofs.Tryd.f14) (v := .bool true) (by kernel_rfl) rfl rfl (works_ok)) ?_
        rintro _ _ _ ⟨rfl, rfl, rfl⟩
        refine XR.conv (σ' := [(71, .bool true), (72, .bool true)]) (h' := [(0, rc (encI .i64) a z0 y0 1)]) (c' := 1) ?_ (by kernel_rfl)
        refine XR.runS E0_ok 1 2 [(4, .bool true)] rfl (by kernel_rfl) ?_
        refine XR.done (by kernel_rfl) ?_
        show XQ _ _ _ _ _ _ _ _
        refine XQ.ret (by kernel_rfl) ?_
        have h := Option.some.inj h
        subst h
        exact ⟨fun i q => (by cases q), .bool true, (by kernel_rfl), rfl⟩
       | false =>
        have h := cF b7 h
        refine XR.runS E0_ok 1 3 [(4, .bool false)] rfl (by kernel_rfl) ?_
        refine XR.done (by kernel_rfl) ?_
        show XQ _ _ _ _ _ _ _ _
        refine XQ.ret (by kernel_rfl) ?_
        have h := Option.some.inj h
        subst h
        exact ⟨fun i q => (by cases q), .bool false, (by kernel_rfl), rfl⟩
      | false =>
       have h := cF b6 h
       refine XR.runS E0_ok 1 10 [(4, .bool false)] rfl (by kernel_rfl) ?_
       refine XR.done (by kernel_rfl) ?_
       show XQ _ _ _ _ _ _ _ _
       refine XQ.ret (by kernel_rfl) ?_
       have h := Option.some.inj h
       subst h
       exact ⟨fun i q => (by cases q), .bool false, (by kernel_rfl), rfl⟩
     | false =>
      have h := cF b5 h
      refine XR.runS E0_ok 1 19 [(4, .bool false)] rfl (by kernel_rfl) ?_
      refine XR.done (by kernel_rfl) ?_
      show XQ _ _ _ _ _ _ _ _
      refine XQ.ret (by kernel_rfl) ?_
      have h := Option.some.inj h
      subst h
      exact ⟨fun i q => (by cases q), .bool false, (by kernel_rfl), rfl⟩
    | false =>
     have h := cF b4 h
     refine XR.runS E0_ok 1 24 [(4, .bool false)] rfl (by kernel_rfl) ?_
     refine XR.done (by kernel_rfl) ?_
     show XQ _ _ _ _ _ _ _ _
     refine XQ.ret (by kernel_rfl) ?_
     have h := Option.some.inj h
     subst h
     exact ⟨fun i q => (by cases q), .bool false, (by kernel_rfl), rfl⟩
   | false =>
    have h := cF b3 h
    refine XR.runS E0_ok 1 29 [(4, .bool false)] rfl (by kernel_rfl) ?_
    refine XR.done (by kernel_rfl) ?_
    show XQ _ _ _ _ _ _ _ _
    refine XQ.ret (by kernel_rfl) ?_
    have h := Option.some.inj h
    subst h
    exact ⟨fun i q => (by cases q), .bool false, (by kernel_rfl), rfl⟩
  | false =>
   have h := cF b2 h
   refine XR.runS E0_ok 1 34 [(4, .bool false)] rfl (by kernel_rfl) ?_
   refine XR.done (by kernel_rfl) ?_
   show XQ _ _ _ _ _ _ _ _
   refine XQ.ret (by kernel_rfl) ?_
   have h := Option.some.inj h
   subst h
   exact ⟨fun i q => (by cases q), .bool false, (by kernel_rfl), rfl⟩

end Go.Xm
