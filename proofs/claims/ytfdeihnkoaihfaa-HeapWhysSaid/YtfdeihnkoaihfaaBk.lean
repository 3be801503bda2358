/- What these functions of the program compute, as functions in Lean, and the proofs that they do: vitolaref02.Crowd, vitolaref02.Why, vitolaref02.Fewest. Conditions: none. -/
import Derived.Test.YtfdeihnkoaihfaaBe
namespace Go.Xm
open Go.RowKit
set_option linter.unusedVariables false
set_option linter.unusedSimpArgs false
set_option maxRecDepth 20000

/-! vitola/vitolaref02.Crowd -/
noncomputable def f26_C26 : Code := Proofs.Try.f26.body.getD .skip

def f26 (m : Nat) (a : List (Int × Int)) (b : Int) (c : Int) : Option (Int × Int) :=
  (f24 m a).bind fun r1 =>
    cond (r1 == 0) (
      (f63 m b 0 23).bind fun r2 =>
        cond (!r2) (
          some (0, 1)
        ) (
          (f63 m c 0 23).bind fun r3 =>
            cond ((cond (!r3) 1 r1 : Int) == 0) (
              cond ((cond (decide (b > c)) 7 (cond (!r3) 1 r1) : Int) != 0) (
                some (0, cond (decide (b > c)) 7 (cond (!r3) 1 r1))
              ) (
                (f66 m a b c).bind fun r4 =>
                  some (r4, 0)
              )
            ) (
              cond ((cond (!r3) 1 r1 : Int) != 0) (
                some (0, cond (!r3) 1 r1)
              ) (
                (f66 m a b c).bind fun r5 =>
                  some (r5, 0)
              )
            )
        )
    ) (
      cond (r1 != 0) (
        some (0, r1)
      ) (
        (f66 m a b c).bind fun r6 =>
          some (r6, 0)
      )
    )

theorem f26_ok (m : Nat) (z0 : Nat) (y0 : Nat) (a : List (Int × Int)) (b : Int) (c : Int) (o : Int × Int) (h : f26 m a b c = some o) : KC E0 26 [.slice (some ⟨0, 0, none⟩) a.length a.length, .int .i64 b, .int .i64 c] [(0, .cells (rowC encP a) z0 y0 2)] 1 (fun v _ _ => v = .tuple #[.int .i64 o.1, .int .i64 o.2]) := by
  refine KC.bodyN E0_ok (F := Proofs.Try.f26) (by kernel_rfl) (code := f26_C26) (by kernel_rfl) (nt := 37) (by kernel_rfl) (rs := [.tmp 6, .tmp 7]) (by kernel_rfl) (by kernel_rfl) (σ := [(0, .slice (some ⟨0, 0, none⟩) a.length a.length), (1, .int .i64 b), (2, .int .i64 c)]) (by kernel_rfl) ?_
  unfold f26 at h
  refine XQ.seq E0_ok (by kernel_rfl) ?_
  refine XQ.region (by kernel_rfl) ?_
  refine XR.run E0_ok 1 2 [0, 1, 2] rfl (σ' := [(0, .slice (some ⟨0, 0, none⟩) a.length a.length), (1, .int .i64 b), (2, .int .i64 c)]) (h' := [(0, .cells (rowC encP a) z0 y0 2)]) (c' := 1) (by kernel_rfl) ?_
  refine XR.done (by kernel_rfl) ?_
  show XQ _ _ _ _ _ _ _ _
  refine XQ.seq E0_ok (by kernel_rfl) ?_
  refine XQ.region (by kernel_rfl) ?_
  refine XR.run E0_ok 1 1 [0, 1, 2, 9] rfl (σ' := [(0, .slice (some ⟨0, 0, none⟩) a.length a.length), (1, .int .i64 b), (2, .int .i64 c), (9, .slice (some ⟨0, 0, none⟩) a.length a.length)]) (h' := [(0, .cells (rowC encP a) z0 y0 2)]) (c' := 1) (by kernel_rfl) ?_
  obtain ⟨r1, r1_h, h⟩ := bS h
  refine XR.call E0_ok [0, 1, 2, 10] rfl (K := 24) (args := [.slice (some ⟨0, 0, none⟩) a.length a.length]) (d := (some (path 12 10))) (by kernel_rfl) (KQ.call (KC.quiet E0_ok (args0 := [.slice (some ⟨0, 0, none⟩) a.length a.length]) (h0 := [(0, .cells (rowC encP a) (z0 + ((rowC encP a).length + 1)) y0 2)]) (n := 1) (V := .int .i64 r1) [0] (f24_ok m (z0 + ((rowC encP a).length + 1)) y0 a r1 r1_h) rfl (by rfl) (by decide) rfl (by kernel_rfl) ⟨⟨_, _, rfl, rfl, .inl ⟨rfl, rowC_scal encP_ok _⟩⟩, trivial⟩) rfl) ?_
  rintro _ _ _ ⟨rfl, rfl, rfl⟩
  refine XR.conv (σ' := [(0, .slice (some ⟨0, 0, none⟩) a.length a.length), (1, .int .i64 b), (2, .int .i64 c), (10, .int .i64 r1)]) (h' := [(0, .cells (rowC encP a) z0 y0 2)]) (c' := 1) ?_ (by kernel_rfl)
  refine XR.run E0_ok 1 1 [0, 1, 2, 8] rfl (σ' := [(0, .slice (some ⟨0, 0, none⟩) a.length a.length), (1, .int .i64 b), (2, .int .i64 c), (8, .int .i64 r1)]) (h' := [(0, .cells (rowC encP a) z0 y0 2)]) (c' := 1) (by kernel_rfl) ?_
  refine XR.done (by kernel_rfl) ?_
  show XQ _ _ _ _ _ _ _ _
  refine XQ.seq E0_ok (by kernel_rfl) ?_
  refine XQ.seq E0_ok (by kernel_rfl) ?_
  refine XQ.region (by kernel_rfl) ?_
  refine XR.run E0_ok 1 3 [0, 1, 2, 8, 13] rfl (σ' := [(0, .slice (some ⟨0, 0, none⟩) a.length a.length), (1, .int .i64 b), (2, .int .i64 c), (8, .int .i64 r1), (13, .bool (r1 == 0))]) (h' := [(0, .cells (rowC encP a) z0 y0 2)]) (c' := 1) (by kernel_rfl) ?_
  cases b1 : (r1 == 0 : Bool) with
  | true =>
    have h := cT b1 h
    refine XR.run E0_ok 1 1 [0, 1, 2, 8, 13, 14] rfl (σ' := [(0, .slice (some ⟨0, 0, none⟩) a.length a.length), (1, .int .i64 b), (2, .int .i64 c), (8, .int .i64 r1), (13, .bool true), (14, .int .i64 b)]) (h' := [(0, .cells (rowC encP a) z0 y0 2)]) (c' := 1) (by kernel_rfl) ?_
    obtain ⟨r2, r2_h, h⟩ := bS h
    refine XR.call E0_ok [0, 1, 2, 8, 13, 15] rfl (K := 63) (args := [.int .i64 b, .int .i64 0, .int .i64 23]) (d := (some (path 12 15))) (by kernel_rfl) (KC.of_calls E0_ok (F := Proofs.Try.f63) (v := .bool r2) (by kernel_rfl) rfl rfl (fun w hI => f63_ok m b 0 23 r2 r2_h w hI)) ?_
    rintro _ _ _ ⟨rfl, rfl, rfl⟩
    refine XR.conv (σ' := [(0, .slice (some ⟨0, 0, none⟩) a.length a.length), (1, .int .i64 b), (2, .int .i64 c), (8, .int .i64 r1), (13, .bool true), (15, .bool r2)]) (h' := [(0, .cells (rowC encP a) z0 y0 2)]) (c' := 1) ?_ (by kernel_rfl)
    refine XR.run E0_ok 1 2 [0, 1, 2, 8, 13, 17] rfl (σ' := [(0, .slice (some ⟨0, 0, none⟩) a.length a.length), (1, .int .i64 b), (2, .int .i64 c), (8, .int .i64 r1), (13, .bool true), (17, .bool (!r2))]) (h' := [(0, .cells (rowC encP a) z0 y0 2)]) (c' := 1) (by kernel_rfl) ?_
    cases b2 : (!r2 : Bool) with
    | true =>
      have h := cT b2 h
      refine XR.run E0_ok 1 5 [0, 1, 2, 8, 22] rfl (σ' := [(0, .slice (some ⟨0, 0, none⟩) a.length a.length), (1, .int .i64 b), (2, .int .i64 c), (8, .int .i64 r1), (22, .bool true)]) (h' := [(0, .cells (rowC encP a) z0 y0 2)]) (c' := 1) (by kernel_rfl) ?_
      refine XR.done (by kernel_rfl) ?_
      show XQ _ _ _ _ _ _ _ _
      refine XQ.cond (s := (.tmp 22)) (b := true) (by kernel_rfl) (by kernel_rfl) (fun _ => ?_) (fun q => by cases q)
      refine XQ.region (by kernel_rfl) ?_
      refine XR.run E0_ok 1 1 [0, 1, 2, 8] rfl (σ' := [(0, .slice (some ⟨0, 0, none⟩) a.length a.length), (1, .int .i64 b), (2, .int .i64 c), (8, .int .i64 1)]) (h' := [(0, .cells (rowC encP a) z0 y0 2)]) (c' := 1) (by kernel_rfl) ?_
      refine XR.done (by kernel_rfl) ?_
      show XQ _ _ _ _ _ _ _ _
      refine XQ.seq E0_ok (by kernel_rfl) ?_
      refine XQ.seq E0_ok (by kernel_rfl) ?_
      refine XQ.region (by kernel_rfl) ?_
      refine XR.run E0_ok 1 7 [0, 1, 2, 8, 29] rfl (σ' := [(0, .slice (some ⟨0, 0, none⟩) a.length a.length), (1, .int .i64 b), (2, .int .i64 c), (8, .int .i64 1), (29, .bool false)]) (h' := [(0, .cells (rowC encP a) z0 y0 2)]) (c' := 1) (by kernel_rfl) ?_
      refine XR.done (by kernel_rfl) ?_
      show XQ _ _ _ _ _ _ _ _
      refine XQ.cond (s := (.tmp 29)) (b := false) (by kernel_rfl) (by kernel_rfl) (fun q => by cases q) (fun _ => ?_)
      refine XQ.skip (by kernel_rfl) ?_
      show XQ _ _ _ _ _ _ _ _
      refine XQ.seq E0_ok (by kernel_rfl) ?_
      refine XQ.seq E0_ok (by kernel_rfl) ?_
      refine XQ.region (by kernel_rfl) ?_
      refine XR.run E0_ok 1 2 [0, 1, 2, 8, 31] rfl (σ' := [(0, .slice (some ⟨0, 0, none⟩) a.length a.length), (1, .int .i64 b), (2, .int .i64 c), (8, .int .i64 1), (31, .bool true)]) (h' := [(0, .cells (rowC encP a) z0 y0 2)]) (c' := 1) (by kernel_rfl) ?_
      refine XR.done (by kernel_rfl) ?_
      show XQ _ _ _ _ _ _ _ _
      refine XQ.cond (s := (.tmp 31)) (b := true) (by kernel_rfl) (by kernel_rfl) (fun _ => ?_) (fun q => by cases q)
      refine XQ.seq E0_ok (by kernel_rfl) ?_
      refine XQ.region (by kernel_rfl) ?_
      refine XR.run E0_ok 1 3 [6, 7] rfl (σ' := [(6, .int .i64 0), (7, .int .i64 1)]) (h' := [(0, .cells (rowC encP a) z0 y0 2)]) (c' := 1) (by kernel_rfl) ?_
      refine XR.done (by kernel_rfl) ?_
      show XQ _ _ _ _ _ _ _ _
      refine XQ.ret (by kernel_rfl) ?_
      have h := Option.some.inj h
      subst h
      exact ⟨fun i q => (by cases q), .tuple #[.int .i64 0, .int .i64 1], (by kernel_rfl), rfl⟩
    | false =>
      have h := cF b2 h
      refine XR.run E0_ok 1 1 [0, 1, 2, 8, 13, 17, 18] rfl (σ' := [(0, .slice (some ⟨0, 0, none⟩) a.length a.length), (1, .int .i64 b), (2, .int .i64 c), (8, .int .i64 r1), (13, .bool true), (17, .bool false), (18, .int .i64 c)]) (h' := [(0, .cells (rowC encP a) z0 y0 2)]) (c' := 1) (by kernel_rfl) ?_
      obtain ⟨r3, r3_h, h⟩ := bS h
      refine XR.call E0_ok [0, 1, 2, 8, 13, 17, 19] rfl (K := 63) (args := [.int .i64 c, .int .i64 0, .int .i64 23]) (d := (some (path 12 19))) (by kernel_rfl) (KC.of_calls E0_ok (F := Proofs.Try.f63) (v := .bool r3) (by kernel_rfl) rfl rfl (fun w hI => f63_ok m c 0 23 r3 r3_h w hI)) ?_
      rintro _ _ _ ⟨rfl, rfl, rfl⟩
      refine XR.conv (σ' := [(0, .slice (some ⟨0, 0, none⟩) a.length a.length), (1, .int .i64 b), (2, .int .i64 c), (8, .int .i64 r1), (13, .bool true), (17, .bool false), (19, .bool r3)]) (h' := [(0, .cells (rowC encP a) z0 y0 2)]) (c' := 1) ?_ (by kernel_rfl)
      refine XR.run E0_ok 1 3 [0, 1, 2, 8, 22] rfl (σ' := [(0, .slice (some ⟨0, 0, none⟩) a.length a.length), (1, .int .i64 b), (2, .int .i64 c), (8, .int .i64 r1), (22, .bool (!r3))]) (h' := [(0, .cells (rowC encP a) z0 y0 2)]) (c' := 1) (by kernel_rfl) ?_
      refine XR.done (by kernel_rfl) ?_
      show XQ _ _ _ _ _ _ _ _
      refine XQ.meetC (σ' := [(0, .slice (some ⟨0, 0, none⟩) a.length a.length), (1, .int .i64 b), (2, .int .i64 c), (8, .int .i64 (cond (!r3) 1 r1))]) (h' := [(0, .cells (rowC encP a) z0 y0 2)]) (c' := 1) ?_ ?_
      rotate_left
      · refine XQ.cond (s := (.tmp 22)) (b := !r3) (by kernel_rfl) (by kernel_rfl) (fun b3 => ?_) (fun b3 => ?_)
        · refine XQ.region (by kernel_rfl) ?_
          refine XR.run E0_ok 1 1 [0, 1, 2, 8] rfl (σ' := [(0, .slice (some ⟨0, 0, none⟩) a.length a.length), (1, .int .i64 b), (2, .int .i64 c), (8, .int .i64 1)]) (h' := [(0, .cells (rowC encP a) z0 y0 2)]) (c' := 1) (by kernel_rfl) ?_
          refine XR.done (by kernel_rfl) ?_
          refine ⟨rfl, ?_, ?_⟩
          · try rw [b3]
            exact ⟨by kernel_rfl, by kernel_rfl, by kernel_rfl, by kernel_rfl, trivial⟩
          · try rw [b3]
            kernel_rfl
        · refine XQ.skip (by kernel_rfl) ?_
          refine ⟨rfl, ?_, ?_⟩
          · try rw [b3]
            exact ⟨by kernel_rfl, by kernel_rfl, by kernel_rfl, by kernel_rfl, trivial⟩
          · try rw [b3]
            kernel_rfl
      show XQ _ _ _ _ _ _ _ _
      refine XQ.seq E0_ok (by kernel_rfl) ?_
      refine XQ.seq E0_ok (by kernel_rfl) ?_
      refine XQ.region (by kernel_rfl) ?_
      refine XR.run E0_ok 1 3 [0, 1, 2, 8, 25] rfl (σ' := [(0, .slice (some ⟨0, 0, none⟩) a.length a.length), (1, .int .i64 b), (2, .int .i64 c), (8, .int .i64 (cond (!r3) 1 r1)), (25, .bool ((cond (!r3) 1 r1 : Int) == 0))]) (h' := [(0, .cells (rowC encP a) z0 y0 2)]) (c' := 1) (by kernel_rfl) ?_
      cases b4 : ((cond (!r3) 1 r1 : Int) == 0 : Bool) with
      | true =>
        have h := cT b4 h
        refine XR.run E0_ok 1 4 [0, 1, 2, 8, 29] rfl (σ' := [(0, .slice (some ⟨0, 0, none⟩) a.length a.length), (1, .int .i64 b), (2, .int .i64 c), (8, .int .i64 (cond (!r3) 1 r1)), (29, .bool (decide (b > c)))]) (h' := [(0, .cells (rowC encP a) z0 y0 2)]) (c' := 1) (by kernel_rfl) ?_
        refine XR.done (by kernel_rfl) ?_
        show XQ _ _ _ _ _ _ _ _
        refine XQ.meetC (σ' := [(0, .slice (some ⟨0, 0, none⟩) a.length a.length), (1, .int .i64 b), (2, .int .i64 c), (8, .int .i64 (cond (decide (b > c)) 7 (cond (!r3) 1 r1)))]) (h' := [(0, .cells (rowC encP a) z0 y0 2)]) (c' := 1) ?_ ?_
        rotate_left
        · refine XQ.cond (s := (.tmp 29)) (b := decide (b > c)) (by kernel_rfl) (by kernel_rfl) (fun b5 => ?_) (fun b5 => ?_)
          · refine XQ.region (by kernel_rfl) ?_
            refine XR.run E0_ok 1 1 [0, 1, 2, 8] rfl (σ' := [(0, .slice (some ⟨0, 0, none⟩) a.length a.length), (1, .int .i64 b), (2, .int .i64 c), (8, .int .i64 7)]) (h' := [(0, .cells (rowC encP a) z0 y0 2)]) (c' := 1) (by kernel_rfl) ?_
            refine XR.done (by kernel_rfl) ?_
            refine ⟨rfl, ?_, ?_⟩
            · try rw [b5]
              exact ⟨by kernel_rfl, by kernel_rfl, by kernel_rfl, by kernel_rfl, trivial⟩
            · try rw [b5]
              kernel_rfl
          · refine XQ.skip (by kernel_rfl) ?_
            refine ⟨rfl, ?_, ?_⟩
            · try rw [b5]
              exact ⟨by kernel_rfl, by kernel_rfl, by kernel_rfl, by kernel_rfl, trivial⟩
            · try rw [b5]
              kernel_rfl
        show XQ _ _ _ _ _ _ _ _
        refine XQ.seq E0_ok (by kernel_rfl) ?_
        refine XQ.seq E0_ok (by kernel_rfl) ?_
        refine XQ.region (by kernel_rfl) ?_
        refine XR.run E0_ok 1 2 [0, 1, 2, 8, 31] rfl (σ' := [(0, .slice (some ⟨0, 0, none⟩) a.length a.length), (1, .int .i64 b), (2, .int .i64 c), (8, .int .i64 (cond (decide (b > c)) 7 (cond (!r3) 1 r1))), (31, .bool ((cond (decide (b > c)) 7 (cond (!r3) 1 r1) : Int) != 0))]) (h' := [(0, .cells (rowC encP a) z0 y0 2)]) (c' := 1) (by kernel_rfl) ?_
        refine XR.done (by kernel_rfl) ?_
        show XQ _ _ _ _ _ _ _ _
        cases b6 : ((cond (decide (b > c)) 7 (cond (!r3) 1 r1) : Int) != 0 : Bool) with
        | true =>
          have h := cT b6 h
          refine XQ.cond (s := (.tmp 31)) (b := true) (by kernel_rfl) (by kernel_rfl) (fun _ => ?_) (fun q => by cases q)
          refine XQ.seq E0_ok (by kernel_rfl) ?_
          refine XQ.region (by kernel_rfl) ?_
          refine XR.run E0_ok 1 3 [6, 7] rfl (σ' := [(6, .int .i64 0), (7, .int .i64 (cond (decide (b > c)) 7 (cond (!r3) 1 r1)))]) (h' := [(0, .cells (rowC encP a) z0 y0 2)]) (c' := 1) (by kernel_rfl) ?_
          refine XR.done (by kernel_rfl) ?_
          show XQ _ _ _ _ _ _ _ _
          refine XQ.ret (by kernel_rfl) ?_
          have h := Option.some.inj h
          subst h
          exact ⟨fun i q => (by cases q), .tuple #[.int .i64 0, .int .i64 (cond (decide (b > c)) 7 (cond (!r3) 1 r1))], (by kernel_rfl), rfl⟩
        | false =>
          have h := cF b6 h
          refine XQ.cond (s := (.tmp 31)) (b := false) (by kernel_rfl) (by kernel_rfl) (fun q => by cases q) (fun _ => ?_)
          refine XQ.skip (by kernel_rfl) ?_
          show XQ _ _ _ _ _ _ _ _
          refine XQ.seq E0_ok (by kernel_rfl) ?_
          refine XQ.region (by kernel_rfl) ?_
          refine XR.run E0_ok 1 3 [33, 34, 35] rfl (σ' := [(33, .slice (some ⟨0, 0, none⟩) a.length a.length), (34, .int .i64 b), (35, .int .i64 c)]) (h' := [(0, .cells (rowC encP a) z0 y0 2)]) (c' := 1) (by kernel_rfl) ?_
          obtain ⟨r4, r4_h, h⟩ := bS h
          refine XR.call E0_ok [36] rfl (K := 66) (args := [.slice (some ⟨0, 0, none⟩) a.length a.length, .int .i64 b, .int .i64 c]) (d := (some (path 12 36))) (by kernel_rfl) (KQ.call (KC.quiet E0_ok (args0 := [.slice (some ⟨0, 0, none⟩) a.length a.length, .int .i64 b, .int .i64 c]) (h0 := [(0, .cells (rowC encP a) (z0 + ((rowC encP a).length + 1)) y0 2)]) (n := 1) (V := .int .i64 r4) [0] (f66_ok m (z0 + ((rowC encP a).length + 1)) y0 a b c r4 r4_h) rfl (by rfl) (by decide) rfl (by kernel_rfl) ⟨⟨_, _, rfl, rfl, .inl ⟨rfl, rowC_scal encP_ok _⟩⟩, trivial⟩) rfl) ?_
          rintro _ _ _ ⟨rfl, rfl, rfl⟩
          refine XR.conv (σ' := [(36, .int .i64 r4)]) (h' := [(0, .cells (rowC encP a) z0 y0 2)]) (c' := 1) ?_ (by kernel_rfl)
          refine XR.run E0_ok 1 2 [6, 7] rfl (σ' := [(6, .int .i64 r4), (7, .int .i64 0)]) (h' := [(0, .cells (rowC encP a) z0 y0 2)]) (c' := 1) (by kernel_rfl) ?_
          refine XR.done (by kernel_rfl) ?_
          show XQ _ _ _ _ _ _ _ _
          refine XQ.ret (by kernel_rfl) ?_
          have h := Option.some.inj h
          subst h
          exact ⟨fun i q => (by cases q), .tuple #[.int .i64 r4, .int .i64 0], (by kernel_rfl), rfl⟩
      | false =>
        have h := cF b4 h
        refine XR.run E0_ok 1 4 [0, 1, 2, 8, 29] rfl (σ' := [(0, .slice (some ⟨0, 0, none⟩) a.length a.length), (1, .int .i64 b), (2, .int .i64 c), (8, .int .i64 (cond (!r3) 1 r1)), (29, .bool false)]) (h' := [(0, .cells (rowC encP a) z0 y0 2)]) (c' := 1) (by kernel_rfl) ?_
        refine XR.done (by kernel_rfl) ?_
        show XQ _ _ _ _ _ _ _ _
        refine XQ.cond (s := (.tmp 29)) (b := false) (by kernel_rfl) (by kernel_rfl) (fun q => by cases q) (fun _ => ?_)
        refine XQ.skip (by kernel_rfl) ?_
        show XQ _ _ _ _ _ _ _ _
        refine XQ.seq E0_ok (by kernel_rfl) ?_
        refine XQ.seq E0_ok (by kernel_rfl) ?_
        refine XQ.region (by kernel_rfl) ?_
        refine XR.run E0_ok 1 2 [0, 1, 2, 8, 31] rfl (σ' := [(0, .slice (some ⟨0, 0, none⟩) a.length a.length), (1, .int .i64 b), (2, .int .i64 c), (8, .int .i64 (cond (!r3) 1 r1)), (31, .bool ((cond (!r3) 1 r1 : Int) != 0))]) (h' := [(0, .cells (rowC encP a) z0 y0 2)]) (c' := 1) (by kernel_rfl) ?_
        refine XR.done (by kernel_rfl) ?_
        show XQ _ _ _ _ _ _ _ _
        cases b7 : ((cond (!r3) 1 r1 : Int) != 0 : Bool) with
        | true =>
          have h := cT b7 h
          refine XQ.cond (s := (.tmp 31)) (b := true) (by kernel_rfl) (by kernel_rfl) (fun _ => ?_) (fun q => by cases q)
          refine XQ.seq E0_ok (by kernel_rfl) ?_
          refine XQ.region (by kernel_rfl) ?_
          refine XR.run E0_ok 1 3 [6, 7] rfl (σ' := [(6, .int .i64 0), (7, .int .i64 (cond (!r3) 1 r1))]) (h' := [(0, .cells (rowC encP a) z0 y0 2)]) (c' := 1) (by kernel_rfl) ?_
          refine XR.done (by kernel_rfl) ?_
          show XQ _ _ _ _ _ _ _ _
          refine XQ.ret (by kernel_rfl) ?_
          have h := Option.some.inj h
          subst h
          exact ⟨fun i q => (by cases q), .tuple #[.int .i64 0, .int .i64 (cond (!r3) 1 r1)], (by kernel_rfl), rfl⟩
        | false =>
          have h := cF b7 h
          refine XQ.cond (s := (.tmp 31)) (b := false) (by kernel_rfl) (by kernel_rfl) (fun q => by cases q) (fun _ => ?_)
          refine XQ.skip (by kernel_rfl) ?_
          show XQ _ _ _ _ _ _ _ _
          refine XQ.seq E0_ok (by kernel_rfl) ?_
          refine XQ.region (by kernel_rfl) ?_
          refine XR.run E0_ok 1 3 [33, 34, 35] rfl (σ' := [(33, .slice (some ⟨0, 0, none⟩) a.length a.length), (34, .int .i64 b), (35, .int .i64 c)]) (h' := [(0, .cells (rowC encP a) z0 y0 2)]) (c' := 1) (by kernel_rfl) ?_
          obtain ⟨r5, r5_h, h⟩ := bS h
          refine XR.call E0_ok [36] rfl (K := 66) (args := [.slice (some ⟨0, 0, none⟩) a.length a.length, .int .i64 b, .int .i64 c]) (d := (some (path 12 36))) (by kernel_rfl) (KQ.call (KC.quiet E0_ok (args0 := [.slice (some ⟨0, 0, none⟩) a.length a.length, .int .i64 b, .int .i64 c]) (h0 := [(0, .cells (rowC encP a) (z0 + ((rowC encP a).length + 1)) y0 2)]) (n := 1) (V := .int .i64 r5) [0] (f66_ok m (z0 + ((rowC encP a).length + 1)) y0 a b c r5 r5_h) rfl (by rfl) (by decide) rfl (by kernel_rfl) ⟨⟨_, _, rfl, rfl, .inl ⟨rfl, rowC_scal encP_ok _⟩⟩, trivial⟩) rfl) ?_
          rintro _ _ _ ⟨rfl, rfl, rfl⟩
          refine XR.conv (σ' := [(36, .int .i64 r5)]) (h' := [(0, .cells (rowC encP a) z0 y0 2)]) (c' := 1) ?_ (by kernel_rfl)
          refine XR.run E0_ok 1 2 [6, 7] rfl (σ' := [(6, .int .i64 r5), (7, .int .i64 0)]) (h' := [(0, .cells (rowC encP a) z0 y0 2)]) (c' := 1) (by kernel_rfl) ?_
          refine XR.done (by kernel_rfl) ?_
          show XQ _ _ _ _ _ _ _ _
          refine XQ.ret (by kernel_rfl) ?_
          have h := Option.some.inj h
          subst h
          exact ⟨fun i q => (by cases q), .tuple #[.int .i64 r5, .int .i64 0], (by kernel_rfl), rfl⟩
  | false =>
    have h := cF b1 h
    refine XR.run E0_ok 1 9 [0, 1, 2, 8, 22] rfl (σ' := [(0, .slice (some ⟨0, 0, none⟩) a.length a.length), (1, .int .i64 b), (2, .int .i64 c), (8, .int .i64 r1), (22, .bool false)]) (h' := [(0, .cells (rowC encP a) z0 y0 2)]) (c' := 1) (by kernel_rfl) ?_
    refine XR.done (by kernel_rfl) ?_
    show XQ _ _ _ _ _ _ _ _
    refine XQ.cond (s := (.tmp 22)) (b := false) (by kernel_rfl) (by kernel_rfl) (fun q => by cases q) (fun _ => ?_)
    refine XQ.skip (by kernel_rfl) ?_
    show XQ _ _ _ _ _ _ _ _
    refine XQ.seq E0_ok (by kernel_rfl) ?_
    refine XQ.seq E0_ok (by kernel_rfl) ?_
    refine XQ.region (by kernel_rfl) ?_
    refine XR.run E0_ok 1 3 [0, 1, 2, 8, 25] rfl (σ' := [(0, .slice (some ⟨0, 0, none⟩) a.length a.length), (1, .int .i64 b), (2, .int .i64 c), (8, .int .i64 r1), (25, .bool (r1 == 0))]) (h' := [(0, .cells (rowC encP a) z0 y0 2)]) (c' := 1) (by kernel_rfl) ?_
    rw [b1]
    refine XR.run E0_ok 1 4 [0, 1, 2, 8, 29] rfl (σ' := [(0, .slice (some ⟨0, 0, none⟩) a.length a.length), (1, .int .i64 b), (2, .int .i64 c), (8, .int .i64 r1), (29, .bool false)]) (h' := [(0, .cells (rowC encP a) z0 y0 2)]) (c' := 1) (by kernel_rfl) ?_
    refine XR.done (by kernel_rfl) ?_
    show XQ _ _ _ _ _ _ _ _
    refine XQ.cond (s := (.tmp 29)) (b := false) (by kernel_rfl) (by kernel_rfl) (fun q => by cases q) (fun _ => ?_)
    refine XQ.skip (by kernel_rfl) ?_
    show XQ _ _ _ _ _ _ _ _
    refine XQ.seq E0_ok (by kernel_rfl) ?_
    refine XQ.seq E0_ok (by kernel_rfl) ?_
    refine XQ.region (by kernel_rfl) ?_
    refine XR.run E0_ok 1 2 [0, 1, 2, 8, 31] rfl (σ' := [(0, .slice (some ⟨0, 0, none⟩) a.length a.length), (1, .int .i64 b), (2, .int .i64 c), (8, .int .i64 r1), (31, .bool (r1 != 0))]) (h' := [(0, .cells (rowC encP a) z0 y0 2)]) (c' := 1) (by kernel_rfl) ?_
    refine XR.done (by kernel_rfl) ?_
    show XQ _ _ _ _ _ _ _ _
    cases b8 : (r1 != 0 : Bool) with
    | true =>
      have h := cT b8 h
      refine XQ.cond (s := (.tmp 31)) (b := true) (by kernel_rfl) (by kernel_rfl) (fun _ => ?_) (fun q => by cases q)
      refine XQ.seq E0_ok (by kernel_rfl) ?_
      refine XQ.region (by kernel_rfl) ?_
      refine XR.run E0_ok 1 3 [6, 7] rfl (σ' := [(6, .int .i64 0), (7, .int .i64 r1)]) (h' := [(0, .cells (rowC encP a) z0 y0 2)]) (c' := 1) (by kernel_rfl) ?_
      refine XR.done (by kernel_rfl) ?_
      show XQ _ _ _ _ _ _ _ _
      refine XQ.ret (by kernel_rfl) ?_
      have h := Option.some.inj h
      subst h
      exact ⟨fun i q => (by cases q), .tuple #[.int .i64 0, .int .i64 r1], (by kernel_rfl), rfl⟩
    | false =>
      have h := cF b8 h
      refine XQ.cond (s := (.tmp 31)) (b := false) (by kernel_rfl) (by kernel_rfl) (fun q => by cases q) (fun _ => ?_)
      refine XQ.skip (by kernel_rfl) ?_
      show XQ _ _ _ _ _ _ _ _
      refine XQ.seq E0_ok (by kernel_rfl) ?_
      refine XQ.region (by kernel_rfl) ?_
      refine XR.run E0_ok 1 3 [33, 34, 35] rfl (σ' := [(33, .slice (some ⟨0, 0, none⟩) a.length a.length), (34, .int .i64 b), (35, .int .i64 c)]) (h' := [(0, .cells (rowC encP a) z0 y0 2)]) (c' := 1) (by kernel_rfl) ?_
      obtain ⟨r6, r6_h, h⟩ := bS h
      refine XR.call E0_ok [36] rfl (K := 66) (args := [.slice (some ⟨0, 0, none⟩) a.length a.length, .int .i64 b, .int .i64 c]) (d := (some (path 12 36))) (by kernel_rfl) (KQ.call (KC.quiet E0_ok (args0 := [.slice (some ⟨0, 0, none⟩) a.length a.length, .int .i64 b, .int .i64 c]) (h0 := [(0, .cells (rowC encP a) (z0 + ((rowC encP a).length + 1)) y0 2)]) (n := 1) (V := .int .i64 r6) [0] (f66_ok m (z0 + ((rowC encP a).length + 1)) y0 a b c r6 r6_h) rfl (by rfl) (by decide) rfl (by kernel_rfl) ⟨⟨_, _, rfl, rfl, .inl ⟨rfl, rowC_scal encP_ok _⟩⟩, trivial⟩) rfl) ?_
      rintro _ _ _ ⟨rfl, rfl, rfl⟩
      refine XR.conv (σ' := [(36, .int .i64 r6)]) (h' := [(0, .cells (rowC encP a) z0 y0 2)]) (c' := 1) ?_ (by kernel_rfl)
      refine XR.run E0_ok 1 2 [6, 7] rfl (σ' := [(6, .int .i64 r6), (7, .int .i64 0)]) (h' := [(0, .cells (rowC encP a) z0 y0 2)]) (c' := 1) (by kernel_rfl) ?_
      refine XR.done (by kernel_rfl) ?_
      show XQ _ _ _ _ _ _ _ _
      refine XQ.ret (by kernel_rfl) ?_
      have h := Option.some.inj h
      subst h
      exact ⟨fun i q => (by cases q), .tuple #[.int .i64 r6, .int .i64 0], (by kernel_rfl), rfl⟩

/-! vitola/vitolaref02.Why -/
noncomputable def f28_C28 : Code := Proofs.Try.f28.body.getD .skip

def f28 (m : Nat) (a : List (Int × Int)) (b : Int) : Option (Int × Int × Int) :=
  (f59 m a b).bind fun r1 =>
    cond (r1 == 0) (
      (f60 m a b).bind fun r2 =>
        cond ((cond (r2) 13 r1 : Int) != 0) (
          some (0, 0, cond (r2) 13 r1)
        ) (
          (f69 m a b).bind fun r3 =>
            some (r3.1, r3.2.1, 0)
        )
    ) (
      cond (r1 != 0) (
        some (0, 0, r1)
      ) (
        (f69 m a b).bind fun r4 =>
          some (r4.1, r4.2.1, 0)
      )
    )

theorem f28_ok (m : Nat) (z0 : Nat) (y0 : Nat) (a : List (Int × Int)) (b : Int) (o : Int × Int × Int) (h : f28 m a b = some o) : KC E0 28 [.slice (some ⟨0, 0, none⟩) a.length a.length, .int .i64 b] [(0, .cells (rowC encP a) z0 y0 2)] 1 (fun v _ _ => v = .tuple #[.int .i64 o.1, .int .i64 o.2.1, .int .i64 o.2.2]) := by
  refine KC.bodyN E0_ok (F := Proofs.Try.f28) (by kernel_rfl) (code := f28_C28) (by kernel_rfl) (nt := 33) (by kernel_rfl) (rs := [.tmp 4, .tmp 5, .tmp 6]) (by kernel_rfl) (by kernel_rfl) (σ := [(0, .slice (some ⟨0, 0, none⟩) a.length a.length), (1, .int .i64 b)]) (by kernel_rfl) ?_
  unfold f28 at h
  refine XQ.seq E0_ok (by kernel_rfl) ?_
  refine XQ.region (by kernel_rfl) ?_
  refine XR.run E0_ok 1 3 [0, 1] rfl (σ' := [(0, .slice (some ⟨0, 0, none⟩) a.length a.length), (1, .int .i64 b)]) (h' := [(0, .cells (rowC encP a) z0 y0 2)]) (c' := 1) (by kernel_rfl) ?_
  refine XR.done (by kernel_rfl) ?_
  show XQ _ _ _ _ _ _ _ _
  refine XQ.seq E0_ok (by kernel_rfl) ?_
  refine XQ.region (by kernel_rfl) ?_
  refine XR.run E0_ok 1 2 [0, 1, 11, 12] rfl (σ' := [(0, .slice (some ⟨0, 0, none⟩) a.length a.length), (1, .int .i64 b), (11, .slice (some ⟨0, 0, none⟩) a.length a.length), (12, .int .i64 b)]) (h' := [(0, .cells (rowC encP a) z0 y0 2)]) (c' := 1) (by kernel_rfl) ?_
  obtain ⟨r1, r1_h, h⟩ := bS h
  refine XR.call E0_ok [0, 1, 13] rfl (K := 59) (args := [.slice (some ⟨0, 0, none⟩) a.length a.length, .int .i64 b]) (d := (some (path 12 13))) (by kernel_rfl) (KQ.call (KC.quiet E0_ok (args0 := [.slice (some ⟨0, 0, none⟩) a.length a.length, .int .i64 b]) (h0 := [(0, .cells (rowC encP a) (z0 + ((rowC encP a).length + 1)) y0 2)]) (n := 1) (V := .int .i64 r1) [0] (f59_ok m (z0 + ((rowC encP a).length + 1)) y0 a b r1 r1_h) rfl (by rfl) (by decide) rfl (by kernel_rfl) ⟨⟨_, _, rfl, rfl, .inl ⟨rfl, rowC_scal encP_ok _⟩⟩, trivial⟩) rfl) ?_
  rintro _ _ _ ⟨rfl, rfl, rfl⟩
  refine XR.conv (σ' := [(0, .slice (some ⟨0, 0, none⟩) a.length a.length), (1, .int .i64 b), (13, .int .i64 r1)]) (h' := [(0, .cells (rowC encP a) z0 y0 2)]) (c' := 1) ?_ (by kernel_rfl)
  refine XR.run E0_ok 1 1 [0, 1, 7] rfl (σ' := [(0, .slice (some ⟨0, 0, none⟩) a.length a.length), (1, .int .i64 b), (7, .int .i64 r1)]) (h' := [(0, .cells (rowC encP a) z0 y0 2)]) (c' := 1) (by kernel_rfl) ?_
  refine XR.done (by kernel_rfl) ?_
  show XQ _ _ _ _ _ _ _ _
  refine XQ.seq E0_ok (by kernel_rfl) ?_
  refine XQ.seq E0_ok (by kernel_rfl) ?_
  refine XQ.region (by kernel_rfl) ?_
  refine XR.run E0_ok 1 3 [0, 1, 7, 16] rfl (σ' := [(0, .slice (some ⟨0, 0, none⟩) a.length a.length), (1, .int .i64 b), (7, .int .i64 r1), (16, .bool (r1 == 0))]) (h' := [(0, .cells (rowC encP a) z0 y0 2)]) (c' := 1) (by kernel_rfl) ?_
  cases b1 : (r1 == 0 : Bool) with
  | true =>
    have h := cT b1 h
    refine XR.run E0_ok 1 2 [0, 1, 7, 16, 17, 18] rfl (σ' := [(0, .slice (some ⟨0, 0, none⟩) a.length a.length), (1, .int .i64 b), (7, .int .i64 r1), (16, .bool true), (17, .slice (some ⟨0, 0, none⟩) a.length a.length), (18, .int .i64 b)]) (h' := [(0, .cells (rowC encP a) z0 y0 2)]) (c' := 1) (by kernel_rfl) ?_
    obtain ⟨r2, r2_h, h⟩ := bS h
    refine XR.call E0_ok [0, 1, 7, 16, 19] rfl (K := 60) (args := [.slice (some ⟨0, 0, none⟩) a.length a.length, .int .i64 b]) (d := (some (path 12 19))) (by kernel_rfl) (KQ.call (KC.quiet E0_ok (args0 := [.slice (some ⟨0, 0, none⟩) a.length a.length, .int .i64 b]) (h0 := [(0, .cells (rowC encP a) (z0 + ((rowC encP a).length + 1)) y0 2)]) (n := 1) (V := .bool r2) [0] (f60_ok m (z0 + ((rowC encP a).length + 1)) y0 a b r2 r2_h) rfl (by rfl) (by decide) rfl (by kernel_rfl) ⟨⟨_, _, rfl, rfl, .inl ⟨rfl, rowC_scal encP_ok _⟩⟩, trivial⟩) rfl) ?_
    rintro _ _ _ ⟨rfl, rfl, rfl⟩
    refine XR.conv (σ' := [(0, .slice (some ⟨0, 0, none⟩) a.length a.length), (1, .int .i64 b), (7, .int .i64 r1), (16, .bool true), (19, .bool r2)]) (h' := [(0, .cells (rowC encP a) z0 y0 2)]) (c' := 1) ?_ (by kernel_rfl)
    refine XR.run E0_ok 1 1 [0, 1, 7, 20] rfl (σ' := [(0, .slice (some ⟨0, 0, none⟩) a.length a.length), (1, .int .i64 b), (7, .int .i64 r1), (20, .bool r2)]) (h' := [(0, .cells (rowC encP a) z0 y0 2)]) (c' := 1) (by kernel_rfl) ?_
    refine XR.done (by kernel_rfl) ?_
    show XQ _ _ _ _ _ _ _ _
    refine XQ.meetC (σ' := [(0, .slice (some ⟨0, 0, none⟩) a.length a.length), (1, .int .i64 b), (7, .int .i64 (cond (r2) 13 r1))]) (h' := [(0, .cells (rowC encP a) z0 y0 2)]) (c' := 1) ?_ ?_
    rotate_left
    · refine XQ.cond (s := (.tmp 20)) (b := r2) (by kernel_rfl) (by kernel_rfl) (fun b2 => ?_) (fun b2 => ?_)
      · refine XQ.region (by kernel_rfl) ?_
        refine XR.run E0_ok 1 1 [0, 1, 7] rfl (σ' := [(0, .slice (some ⟨0, 0, none⟩) a.length a.length), (1, .int .i64 b), (7, .int .i64 13)]) (h' := [(0, .cells (rowC encP a) z0 y0 2)]) (c' := 1) (by kernel_rfl) ?_
        refine XR.done (by kernel_rfl) ?_
        refine ⟨rfl, ?_, ?_⟩
        · try rw [b2]
          exact ⟨by kernel_rfl, by kernel_rfl, by kernel_rfl, trivial⟩
        · try rw [b2]
          kernel_rfl
      · refine XQ.skip (by kernel_rfl) ?_
        refine ⟨rfl, ?_, ?_⟩
        · try rw [b2]
          exact ⟨by kernel_rfl, by kernel_rfl, by kernel_rfl, trivial⟩
        · try rw [b2]
          kernel_rfl
    show XQ _ _ _ _ _ _ _ _
    refine XQ.seq E0_ok (by kernel_rfl) ?_
    refine XQ.seq E0_ok (by kernel_rfl) ?_
    refine XQ.region (by kernel_rfl) ?_
    refine XR.run E0_ok 1 2 [0, 1, 7, 22] rfl (σ' := [(0, .slice (some ⟨0, 0, none⟩) a.length a.length), (1, .int .i64 b), (7, .int .i64 (cond (r2) 13 r1)), (22, .bool ((cond (r2) 13 r1 : Int) != 0))]) (h' := [(0, .cells (rowC encP a) z0 y0 2)]) (c' := 1) (by kernel_rfl) ?_
    refine XR.done (by kernel_rfl) ?_
    show XQ _ _ _ _ _ _ _ _
    cases b3 : ((cond (r2) 13 r1 : Int) != 0 : Bool) with
    | true =>
      have h := cT b3 h
      refine XQ.cond (s := (.tmp 22)) (b := true) (by kernel_rfl) (by kernel_rfl) (fun _ => ?_) (fun q => by cases q)
      refine XQ.seq E0_ok (by kernel_rfl) ?_
      refine XQ.region (by kernel_rfl) ?_
      refine XR.run E0_ok 1 4 [4, 5, 6] rfl (σ' := [(4, .int .i64 0), (5, .int .i64 0), (6, .int .i64 (cond (r2) 13 r1))]) (h' := [(0, .cells (rowC encP a) z0 y0 2)]) (c' := 1) (by kernel_rfl) ?_
      refine XR.done (by kernel_rfl) ?_
      show XQ _ _ _ _ _ _ _ _
      refine XQ.ret (by kernel_rfl) ?_
      have h := Option.some.inj h
      subst h
      exact ⟨fun i q => (by cases q), .tuple #[.int .i64 0, .int .i64 0, .int .i64 (cond (r2) 13 r1)], (by kernel_rfl), rfl⟩
    | false =>
      have h := cF b3 h
      refine XQ.cond (s := (.tmp 22)) (b := false) (by kernel_rfl) (by kernel_rfl) (fun q => by cases q) (fun _ => ?_)
      refine XQ.skip (by kernel_rfl) ?_
      show XQ _ _ _ _ _ _ _ _
      refine XQ.seq E0_ok (by kernel_rfl) ?_
      refine XQ.region (by kernel_rfl) ?_
      refine XR.run E0_ok 1 2 [25, 26] rfl (σ' := [(25, .slice (some ⟨0, 0, none⟩) a.length a.length), (26, .int .i64 b)]) (h' := [(0, .cells (rowC encP a) z0 y0 2)]) (c' := 1) (by kernel_rfl) ?_
      obtain ⟨r3, r3_h, h⟩ := bS h
      refine XR.call E0_ok [27] rfl (K := 69) (args := [.slice (some ⟨0, 0, none⟩) a.length a.length, .int .i64 b]) (d := (some (path 12 27))) (by kernel_rfl) (KQ.call (KC.quiet E0_ok (args0 := [.slice (some ⟨0, 0, none⟩) a.length a.length, .int .i64 b]) (h0 := [(0, .cells (rowC encP a) (z0 + ((rowC encP a).length + 1)) y0 2)]) (n := 1) (V := .tuple #[.int .i64 r3.1, .int .i64 r3.2.1, .bool r3.2.2]) [0] (f69_ok m (z0 + ((rowC encP a).length + 1)) y0 a b r3 r3_h) rfl (by rfl) (by decide) rfl (by kernel_rfl) ⟨⟨_, _, rfl, rfl, .inl ⟨rfl, rowC_scal encP_ok _⟩⟩, trivial⟩) rfl) ?_
      rintro _ _ _ ⟨rfl, rfl, rfl⟩
      refine XR.conv (σ' := [(27, .tuple #[.int .i64 r3.1, .int .i64 r3.2.1, .bool r3.2.2])]) (h' := [(0, .cells (rowC encP a) z0 y0 2)]) (c' := 1) ?_ (by kernel_rfl)
      refine XR.run E0_ok 1 7 [8, 9] rfl (σ' := [(8, .int .i64 r3.1), (9, .int .i64 r3.2.1)]) (h' := [(0, .cells (rowC encP a) z0 y0 2)]) (c' := 1) (by kernel_rfl) ?_
      refine XR.done (by kernel_rfl) ?_
      show XQ _ _ _ _ _ _ _ _
      refine XQ.seq E0_ok (by kernel_rfl) ?_
      refine XQ.region (by kernel_rfl) ?_
      refine XR.run E0_ok 1 5 [4, 5, 6] rfl (σ' := [(4, .int .i64 r3.1), (5, .int .i64 r3.2.1), (6, .int .i64 0)]) (h' := [(0, .cells (rowC encP a) z0 y0 2)]) (c' := 1) (by kernel_rfl) ?_
      refine XR.done (by kernel_rfl) ?_
      show XQ _ _ _ _ _ _ _ _
      refine XQ.ret (by kernel_rfl) ?_
      have h := Option.some.inj h
      subst h
      exact ⟨fun i q => (by cases q), .tuple #[.int .i64 r3.1, .int .i64 r3.2.1, .int .i64 0], (by kernel_rfl), rfl⟩
  | false =>
    have h := cF b1 h
    refine XR.run E0_ok 1 4 [0, 1, 7, 20] rfl (σ' := [(0, .slice (some ⟨0, 0, none⟩) a.length a.length), (1, .int .i64 b), (7, .int .i64 r1), (20, .bool false)]) (h' := [(0, .cells (rowC encP a) z0 y0 2)]) (c' := 1) (by kernel_rfl) ?_
    refine XR.done (by kernel_rfl) ?_
    show XQ _ _ _ _ _ _ _ _
    refine XQ.cond (s := (.tmp 20)) (b := false) (by kernel_rfl) (by kernel_rfl) (fun q => by cases q) (fun _ => ?_)
    refine XQ.skip (by kernel_rfl) ?_
    show XQ _ _ _ _ _ _ _ _
    refine XQ.seq E0_ok (by kernel_rfl) ?_
    refine XQ.seq E0_ok (by kernel_rfl) ?_
    refine XQ.region (by kernel_rfl) ?_
    refine XR.run E0_ok 1 2 [0, 1, 7, 22] rfl (σ' := [(0, .slice (some ⟨0, 0, none⟩) a.length a.length), (1, .int .i64 b), (7, .int .i64 r1), (22, .bool (r1 != 0))]) (h' := [(0, .cells (rowC encP a) z0 y0 2)]) (c' := 1) (by kernel_rfl) ?_
    refine XR.done (by kernel_rfl) ?_
    show XQ _ _ _ _ _ _ _ _
    cases b4 : (r1 != 0 : Bool) with
    | true =>
      have h := cT b4 h
      refine XQ.cond (s := (.tmp 22)) (b := true) (by kernel_rfl) (by kernel_rfl) (fun _ => ?_) (fun q => by cases q)
      refine XQ.seq E0_ok (by kernel_rfl) ?_
      refine XQ.region (by kernel_rfl) ?_
      refine XR.run E0_ok 1 4 [4, 5, 6] rfl (σ' := [(4, .int .i64 0), (5, .int .i64 0), (6, .int .i64 r1)]) (h' := [(0, .cells (rowC encP a) z0 y0 2)]) (c' := 1) (by kernel_rfl) ?_
      refine XR.done (by kernel_rfl) ?_
      show XQ _ _ _ _ _ _ _ _
      refine XQ.ret (by kernel_rfl) ?_
      have h := Option.some.inj h
      subst h
      exact ⟨fun i q => (by cases q), .tuple #[.int .i64 0, .int .i64 0, .int .i64 r1], (by kernel_rfl), rfl⟩
    | false =>
      have h := cF b4 h
      refine XQ.cond (s := (.tmp 22)) (b := false) (by kernel_rfl) (by kernel_rfl) (fun q => by cases q) (fun _ => ?_)
      refine XQ.skip (by kernel_rfl) ?_
      show XQ _ _ _ _ _ _ _ _
      refine XQ.seq E0_ok (by kernel_rfl) ?_
      refine XQ.region (by kernel_rfl) ?_
      refine XR.run E0_ok 1 2 [25, 26] rfl (σ' := [(25, .slice (some ⟨0, 0, none⟩) a.length a.length), (26, .int .i64 b)]) (h' := [(0, .cells (rowC encP a) z0 y0 2)]) (c' := 1) (by kernel_rfl) ?_
      obtain ⟨r4, r4_h, h⟩ := bS h
      refine XR.call E0_ok [27] rfl (K := 69) (args := [.slice (some ⟨0, 0, none⟩) a.length a.length, .int .i64 b]) (d := (some (path 12 27))) (by kernel_rfl) (KQ.call (KC.quiet E0_ok (args0 := [.slice (some ⟨0, 0, none⟩) a.length a.length, .int .i64 b]) (h0 := [(0, .cells (rowC encP a) (z0 + ((rowC encP a).length + 1)) y0 2)]) (n := 1) (V := .tuple #[.int .i64 r4.1, .int .i64 r4.2.1, .bool r4.2.2]) [0] (f69_ok m (z0 + ((rowC encP a).length + 1)) y0 a b r4 r4_h) rfl (by rfl) (by decide) rfl (by kernel_rfl) ⟨⟨_, _, rfl, rfl, .inl ⟨rfl, rowC_scal encP_ok _⟩⟩, trivial⟩) rfl) ?_
      rintro _ _ _ ⟨rfl, rfl, rfl⟩
      refine XR.conv (σ' := [(27, .tuple #[.int .i64 r4.1, .int .i64 r4.2.1, .bool r4.2.2])]) (h' := [(0, .cells (rowC encP a) z0 y0 2)]) (c' := 1) ?_ (by kernel_rfl)
      refine XR.run E0_ok 1 7 [8, 9] rfl (σ' := [(8, .int .i64 r4.1), (9, .int .i64 r4.2.1)]) (h' := [(0, .cells (rowC encP a) z0 y0 2)]) (c' := 1) (by kernel_rfl) ?_
      refine XR.done (by kernel_rfl) ?_
      show XQ _ _ _ _ _ _ _ _
      refine XQ.seq E0_ok (by kernel_rfl) ?_
      refine XQ.region (by kernel_rfl) ?_
      refine XR.run E0_ok 1 5 [4, 5, 6] rfl (σ' := [(4, .int .i64 r4.1), (5, .int .i64 r4.2.1), (6, .int .i64 0)]) (h' := [(0, .cells (rowC encP a) z0 y0 2)]) (c' := 1) (by kernel_rfl) ?_
      refine XR.done (by kernel_rfl) ?_
      show XQ _ _ _ _ _ _ _ _
      refine XQ.ret (by kernel_rfl) ?_
      have h := Option.some.inj h
      subst h
      exact ⟨fun i q => (by cases q), .tuple #[.int .i64 r4.1, .int .i64 r4.2.1, .int .i64 0], (by kernel_rfl), rfl⟩

/-! vitola/vitolaref02.Fewest -/
noncomputable def f30_C30 : Code := Proofs.Try.f30.body.getD .skip
noncomputable def f30_L1 : Code := lft (lft (lft (rgt (rgt (rgt (rgt f30_C30))))))

def f30_1 (m : Nat) : Nat → List (Int × Int) → Int → Option Int
  | 0, _, _ => none
  | fuel + 1, a, x5_1 =>
    (f60 m a x5_1).bind fun r4 =>
      cond (!r4) (
        f30_1 m fuel a (w64 (x5_1 + 1))
      ) (
        some (x5_1)
      )

theorem f30_1_ok (m : Nat) : ∀ (fuel : Nat) (z0 : Nat) (y0 : Nat) (a : List (Int × Int)) (x5_1 : Int) (o : Int), f30_1 m fuel a x5_1 = some o → ∀ Q : QP, Q (.exit 0) [(5, .int .i64 o)] [(0, .cells (rowC encP a) z0 y0 2)] 1 → XL E0 18 1 fuel f30_L1 [(0, .slice (some ⟨0, 0, none⟩) a.length a.length), (5, .int .i64 x5_1)] [(0, .cells (rowC encP a) z0 y0 2)] 1 Q
  | 0, z0, y0, a, x5_1, o, h, Q, hQ => by cases h
  | fuel + 1, z0, y0, a, x5_1, o, h, Q, hQ => by
    unfold f30_1 at h
    refine XL.succ E0_ok ?_
    refine XQ.seq E0_ok (by kernel_rfl) ?_
    refine XQ.seq E0_ok (by kernel_rfl) ?_
    refine XQ.region (by kernel_rfl) ?_
    refine XR.run E0_ok 1 2 [0, 5, 11, 12] rfl (σ' := [(0, .slice (some ⟨0, 0, none⟩) a.length a.length), (5, .int .i64 x5_1), (11, .slice (some ⟨0, 0, none⟩) a.length a.length), (12, .int .i64 x5_1)]) (h' := [(0, .cells (rowC encP a) z0 y0 2)]) (c' := 1) (by kernel_rfl) ?_
    obtain ⟨r4, r4_h, h⟩ := bS h
    refine XR.call E0_ok [0, 5, 13] rfl (K := 60) (args := [.slice (some ⟨0, 0, none⟩) a.length a.length, .int .i64 x5_1]) (d := (some (path 12 13))) (by kernel_rfl) (KQ.call (KC.quiet E0_ok (args0 := [.slice (some ⟨0, 0, none⟩) a.length a.length, .int .i64 x5_1]) (h0 := [(0, .cells (rowC encP a) (z0 + ((rowC encP a).length + 1)) y0 2)]) (n := 1) (V := .bool r4) [0] (f60_ok m (z0 + ((rowC encP a).length + 1)) y0 a x5_1 r4 r4_h) rfl (by rfl) (by decide) rfl (by kernel_rfl) ⟨⟨_, _, rfl, rfl, .inl ⟨rfl, rowC_scal encP_ok _⟩⟩, trivial⟩) rfl) ?_
    rintro _ _ _ ⟨rfl, rfl, rfl⟩
    refine XR.conv (σ' := [(0, .slice (some ⟨0, 0, none⟩) a.length a.length), (5, .int .i64 x5_1), (13, .bool r4)]) (h' := [(0, .cells (rowC encP a) z0 y0 2)]) (c' := 1) ?_ (by kernel_rfl)
    refine XR.run E0_ok 1 1 [0, 5, 14] rfl (σ' := [(0, .slice (some ⟨0, 0, none⟩) a.length a.length), (5, .int .i64 x5_1), (14, .bool (!r4))]) (h' := [(0, .cells (rowC encP a) z0 y0 2)]) (c' := 1) (by kernel_rfl) ?_
    refine XR.done (by kernel_rfl) ?_
    show XQ _ _ _ _ _ _ _ _
    cases b1 : (!r4 : Bool) with
    | true =>
      have h := cT b1 h
      refine XQ.cond (s := (.tmp 14)) (b := true) (by kernel_rfl) (by kernel_rfl) (fun _ => ?_) (fun q => by cases q)
      refine XQ.skip (by kernel_rfl) ?_
      show XQ _ _ _ _ _ _ _ _
      refine XQ.block (id := 1) (by kernel_rfl) ?_
      refine XQ.region (by kernel_rfl) ?_
      refine XR.run E0_ok 1 3 [0, 5] rfl (σ' := [(0, .slice (some ⟨0, 0, none⟩) a.length a.length), (5, .int .i64 (w64 (x5_1 + 1)))]) (h' := [(0, .cells (rowC encP a) z0 y0 2)]) (c' := 1) (by kernel_rfl) ?_
      refine XR.done (by kernel_rfl) ?_
      show XL _ _ _ _ _ _ _ _ _
      refine XL.ren (σ' := [(0, .slice (some ⟨0, 0, none⟩) a.length a.length), (5, .int .i64 (w64 (x5_1 + 1)))]) (h' := [(0, .cells (rowC encP a) z0 y0 2)]) (c' := 1) [0] (by decide) rfl ⟨by kernel_rfl, by kernel_rfl, trivial⟩ ⟨⟨_, _, rfl, rfl, .inl ⟨rfl, rowC_scal encP_ok _⟩⟩, trivial⟩ rfl ?_
      refine XL.conv (f30_1_ok m fuel z0 y0 a (w64 (x5_1 + 1)) o h Q hQ) (by first | rfl | simp)
    | false =>
      have h := cF b1 h
      refine XQ.cond (s := (.tmp 14)) (b := false) (by kernel_rfl) (by kernel_rfl) (fun q => by cases q) (fun _ => ?_)
      refine XQ.ren (σ' := [(5, .int .i64 x5_1)]) (h' := [(0, .cells (rowC encP a) z0 y0 2)]) (c' := 1) [0] (by decide) rfl ⟨by kernel_rfl, trivial⟩ ⟨⟨_, _, rfl, rfl, .inl ⟨rfl, rowC_scal encP_ok _⟩⟩, trivial⟩ rfl ?_
      refine XQ.exit (i := 0) (by kernel_rfl) ?_
      cases h
      exact hQ

def f30 (m : Nat) (a : List (Int × Int)) : Option (Int × Int) :=
  (f24 m a).bind fun r1 =>
    cond (r1 != 0) (
      some (0, r1)
    ) (
      (f30_1 m m a 0).bind fun o1 =>
        some (o1, 0)
    )

theorem f30_ok (m : Nat) (z0 : Nat) (y0 : Nat) (a : List (Int × Int)) (o : Int × Int) (h : f30 m a = some o) : KC E0 30 [.slice (some ⟨0, 0, none⟩) a.length a.length] [(0, .cells (rowC encP a) z0 y0 2)] 1 (fun v _ _ => v = .tuple #[.int .i64 o.1, .int .i64 o.2]) := by
  refine KC.bodyN E0_ok (F := Proofs.Try.f30) (by kernel_rfl) (code := f30_C30) (by kernel_rfl) (nt := 18) (by kernel_rfl) (rs := [.tmp 2, .tmp 3]) (by kernel_rfl) (by kernel_rfl) (σ := [(0, .slice (some ⟨0, 0, none⟩) a.length a.length)]) (by kernel_rfl) ?_
  unfold f30 at h
  refine XQ.seq E0_ok (by kernel_rfl) ?_
  refine XQ.region (by kernel_rfl) ?_
  refine XR.run E0_ok 1 2 [0] rfl (σ' := [(0, .slice (some ⟨0, 0, none⟩) a.length a.length)]) (h' := [(0, .cells (rowC encP a) z0 y0 2)]) (c' := 1) (by kernel_rfl) ?_
  refine XR.done (by kernel_rfl) ?_
  show XQ _ _ _ _ _ _ _ _
  refine XQ.seq E0_ok (by kernel_rfl) ?_
  refine XQ.region (by kernel_rfl) ?_
  refine XR.run E0_ok 1 1 [0, 6] rfl (σ' := [(0, .slice (some ⟨0, 0, none⟩) a.length a.length), (6, .slice (some ⟨0, 0, none⟩) a.length a.length)]) (h' := [(0, .cells (rowC encP a) z0 y0 2)]) (c' := 1) (by kernel_rfl) ?_
  obtain ⟨r1, r1_h, h⟩ := bS h
  refine XR.call E0_ok [0, 7] rfl (K := 24) (args := [.slice (some ⟨0, 0, none⟩) a.length a.length]) (d := (some (path 12 7))) (by kernel_rfl) (KQ.call (KC.quiet E0_ok (args0 := [.slice (some ⟨0, 0, none⟩) a.length a.length]) (h0 := [(0, .cells (rowC encP a) (z0 + ((rowC encP a).length + 1)) y0 2)]) (n := 1) (V := .int .i64 r1) [0] (f24_ok m (z0 + ((rowC encP a).length + 1)) y0 a r1 r1_h) rfl (by rfl) (by decide) rfl (by kernel_rfl) ⟨⟨_, _, rfl, rfl, .inl ⟨rfl, rowC_scal encP_ok _⟩⟩, trivial⟩) rfl) ?_
  rintro _ _ _ ⟨rfl, rfl, rfl⟩
  refine XR.conv (σ' := [(0, .slice (some ⟨0, 0, none⟩) a.length a.length), (7, .int .i64 r1)]) (h' := [(0, .cells (rowC encP a) z0 y0 2)]) (c' := 1) ?_ (by kernel_rfl)
  refine XR.run E0_ok 1 1 [0, 4] rfl (σ' := [(0, .slice (some ⟨0, 0, none⟩) a.length a.length), (4, .int .i64 r1)]) (h' := [(0, .cells (rowC encP a) z0 y0 2)]) (c' := 1) (by kernel_rfl) ?_
  refine XR.done (by kernel_rfl) ?_
  show XQ _ _ _ _ _ _ _ _
  refine XQ.seq E0_ok (by kernel_rfl) ?_
  refine XQ.seq E0_ok (by kernel_rfl) ?_
  refine XQ.region (by kernel_rfl) ?_
  refine XR.run E0_ok 1 2 [0, 4, 9] rfl (σ' := [(0, .slice (some ⟨0, 0, none⟩) a.length a.length), (4, .int .i64 r1), (9, .bool (r1 != 0))]) (h' := [(0, .cells (rowC encP a) z0 y0 2)]) (c' := 1) (by kernel_rfl) ?_
  refine XR.done (by kernel_rfl) ?_
  show XQ _ _ _ _ _ _ _ _
  cases b1 : (r1 != 0 : Bool) with
  | true =>
    have h := cT b1 h
    refine XQ.cond (s := (.tmp 9)) (b := true) (by kernel_rfl) (by kernel_rfl) (fun _ => ?_) (fun q => by cases q)
    refine XQ.seq E0_ok (by kernel_rfl) ?_
    refine XQ.region (by kernel_rfl) ?_
    refine XR.run E0_ok 1 3 [2, 3] rfl (σ' := [(2, .int .i64 0), (3, .int .i64 r1)]) (h' := [(0, .cells (rowC encP a) z0 y0 2)]) (c' := 1) (by kernel_rfl) ?_
    refine XR.done (by kernel_rfl) ?_
    show XQ _ _ _ _ _ _ _ _
    refine XQ.ret (by kernel_rfl) ?_
    have h := Option.some.inj h
    subst h
    exact ⟨fun i q => (by cases q), .tuple #[.int .i64 0, .int .i64 r1], (by kernel_rfl), rfl⟩
  | false =>
    have h := cF b1 h
    refine XQ.cond (s := (.tmp 9)) (b := false) (by kernel_rfl) (by kernel_rfl) (fun q => by cases q) (fun _ => ?_)
    refine XQ.skip (by kernel_rfl) ?_
    show XQ _ _ _ _ _ _ _ _
    refine XQ.seq E0_ok (by kernel_rfl) ?_
    refine XQ.region (by kernel_rfl) ?_
    refine XR.run E0_ok 1 1 [0, 5] rfl (σ' := [(0, .slice (some ⟨0, 0, none⟩) a.length a.length), (5, .int .i64 0)]) (h' := [(0, .cells (rowC encP a) z0 y0 2)]) (c' := 1) (by kernel_rfl) ?_
    refine XR.done (by kernel_rfl) ?_
    show XQ _ _ _ _ _ _ _ _
    refine XQ.seq E0_ok (by kernel_rfl) ?_
    refine XQ.block (id := 0) (by kernel_rfl) ?_
    refine XQ.loop m (by kernel_rfl) ?_
    obtain ⟨o1, o1_h, h⟩ := bS h
    refine XL.ren (σ' := [(0, .slice (some ⟨0, 0, none⟩) a.length a.length), (5, .int .i64 0)]) (h' := [(0, .cells (rowC encP a) z0 y0 2)]) (c' := 1) [0] (by decide) rfl ⟨by kernel_rfl, by kernel_rfl, trivial⟩ ⟨⟨_, _, rfl, rfl, .inl ⟨rfl, rowC_scal encP_ok _⟩⟩, trivial⟩ rfl ?_
    refine XL.conv (f30_1_ok m m z0 y0 a 0 o1 o1_h _ ?_) (by first | rfl | simp)
    show XQ _ _ _ _ _ _ _ _
    refine XQ.seq E0_ok (by kernel_rfl) ?_
    refine XQ.region (by kernel_rfl) ?_
    refine XR.run E0_ok 1 3 [2, 3] rfl (σ' := [(2, .int .i64 o1), (3, .int .i64 0)]) (h' := [(0, .cells (rowC encP a) z0 y0 2)]) (c' := 1) (by kernel_rfl) ?_
    refine XR.done (by kernel_rfl) ?_
    show XQ _ _ _ _ _ _ _ _
    refine XQ.ret (by kernel_rfl) ?_
    have h := Option.some.inj h
    subst h
    exact ⟨fun i q => (by cases q), .tuple #[.int .i64 o1, .int .i64 0], (by kernel_rfl), rfl⟩

end Go.Xm
