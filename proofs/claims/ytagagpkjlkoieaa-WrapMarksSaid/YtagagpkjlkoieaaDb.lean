/- What these functions of the program compute, as functions in Lean, and the proofs that they do: wrap.First, vitolaref05.First, wrap.Chain, vitolaref05.Chain, vitolaref05.Nearer, vitolalaw05.same. Conditions: none. -/
import Derived.Test.YtagagpkjlkoieaaDa
namespace Go.Xm
open Go.RowKit
set_option linter.unusedVariables false
set_option linter.unusedSimpArgs false
set_option maxRecDepth 20000

/-! vitola/wrap.First -/
noncomputable def f43_C43 : Code := Proofs.Try.f43.body.getD .skip

def f43 (m : Nat) (a : Int) (b : Int) (c : Int) (d : Int) : Option (Int × Int) :=
  (f64 m a b).bind fun r1 =>
    cond (!r1) (
      some (0, 1)
    ) (
      cond (decide ((iMin c d) < 0)) (
        some (0, 2)
      ) (
        cond (decide ((iMax c d) ≥ a)) (
          some (0, 2)
        ) (
          cond (decide (c > d)) (
            some (0, 7)
          ) (
            (f62 m m a b c d).bind fun r2 =>
              cond (decide (r2 < 0)) (
                some (0, 12)
              ) (
                some (r2, 0)
              )
          )
        )
      )
    )

theorem f43_ok (m : Nat) (a : Int) (b : Int) (c : Int) (d : Int) (o : Int × Int) (h : f43 m a b c d = some o) (w : World) (hI : anyInv w) : Calls Proofs.Try.prog 43 #[.int .i64 a, .int .i64 b, .int .i64 c, .int .i64 d] w fun e w' => e = .returned (.tuple #[.int .i64 o.1, .int .i64 o.2]) ∧ Below w.heap.size w w' := by
  refine KC.calls (E := E0) (args := [.int .i64 a, .int .i64 b, .int .i64 c, .int .i64 d]) (v := .tuple #[.int .i64 o.1, .int .i64 o.2]) rfl rfl (KC.bodyN E0_ok (F := Proofs.Try.f43) (by kernel_rfl) (code := f43_C43) (by kernel_rfl) (nt := 40) (by kernel_rfl) (rs := [.tmp 8, .tmp 9]) (by kernel_rfl) (by kernel_rfl) (σ := [(0, .int .i64 a), (1, .int .i64 b), (2, .int .i64 c), (3, .int .i64 d)]) (by kernel_rfl) ?_) w (anyInv_size hI) hI
  unfold f43 at h
  refine XQ.seq E0_ok (by kernel_rfl) ?_
  refine XQ.region (by kernel_rfl) ?_
  refine XR.run E0_ok 1 2 [0, 1, 2, 3] rfl (σ' := [(0, .int .i64 a), (1, .int .i64 b), (2, .int .i64 c), (3, .int .i64 d)]) (h' := []) (c' := 0) (by kernel_rfl) ?_
  refine XR.done (by kernel_rfl) ?_
  show XQ _ _ _ _ _ _ _ _
  refine XQ.seq E0_ok (by kernel_rfl) ?_
  refine XQ.block (id := 0) (by kernel_rfl) ?_
  refine XQ.seq E0_ok (by kernel_rfl) ?_
  refine XQ.region (by kernel_rfl) ?_
  refine XR.run E0_ok 1 2 [0, 1, 2, 3, 12, 13] rfl (σ' := [(0, .int .i64 a), (1, .int .i64 b), (2, .int .i64 c), (3, .int .i64 d), (12, .int .i64 a), (13, .int .i64 b)]) (h' := []) (c' := 0) (by kernel_rfl) ?_
  obtain ⟨r1, r1_h, h⟩ := bS h
  refine XR.call E0_ok [0, 1, 2, 3, 14] rfl (K := 64) (args := [.int .i64 a, .int .i64 b]) (d := (some (path 12 14))) (by kernel_rfl) (KC.of_calls E0_ok (F := Proofs.Try.f64) (v := .bool r1) (by kernel_rfl) rfl rfl (fun w hI => f64_ok m a b r1 r1_h w hI)) ?_
  rintro _ _ _ ⟨rfl, rfl, rfl⟩
  refine XR.conv (σ' := [(0, .int .i64 a), (1, .int .i64 b), (2, .int .i64 c), (3, .int .i64 d), (14, .bool r1)]) (h' := []) (c' := 0) ?_ (by kernel_rfl)
  refine XR.run E0_ok 1 2 [0, 1, 2, 3, 11] rfl (σ' := [(0, .int .i64 a), (1, .int .i64 b), (2, .int .i64 c), (3, .int .i64 d), (11, .bool (!r1))]) (h' := []) (c' := 0) (by kernel_rfl) ?_
  refine XR.done (by kernel_rfl) ?_
  show XQ _ _ _ _ _ _ _ _
  cases b1 : (!r1 : Bool) with
  | true =>
    have h := cT b1 h
    refine XQ.cond (s := (.tmp 11)) (b := true) (by kernel_rfl) (by kernel_rfl) (fun _ => ?_) (fun q => by cases q)
    refine XQ.seq E0_ok (by kernel_rfl) ?_
    refine XQ.region (by kernel_rfl) ?_
    refine XR.run E0_ok 1 2 [8, 9] rfl (σ' := [(8, .int .i64 0), (9, .int .i64 1)]) (h' := []) (c' := 0) (by kernel_rfl) ?_
    refine XR.done (by kernel_rfl) ?_
    show XQ _ _ _ _ _ _ _ _
    refine XQ.ret (by kernel_rfl) ?_
    have h := Option.some.inj h
    subst h
    exact ⟨fun i q => (by cases q), .tuple #[.int .i64 0, .int .i64 1], (by kernel_rfl), rfl⟩
  | false =>
    have h := cF b1 h
    refine XQ.cond (s := (.tmp 11)) (b := false) (by kernel_rfl) (by kernel_rfl) (fun q => by cases q) (fun _ => ?_)
    refine XQ.seq E0_ok (by kernel_rfl) ?_
    refine XQ.region (by kernel_rfl) ?_
    refine XR.run E0_ok 1 5 [0, 1, 2, 3, 21] rfl (σ' := [(0, .int .i64 a), (1, .int .i64 b), (2, .int .i64 c), (3, .int .i64 d), (21, .bool (decide ((iMin c d) < 0)))]) (h' := []) (c' := 0) (by kernel_rfl) ?_
    cases b2 : (decide ((iMin c d) < 0) : Bool) with
    | true =>
      have h := cT b2 h
      refine XR.run E0_ok 1 7 [0, 1, 2, 3, 16] rfl (σ' := [(0, .int .i64 a), (1, .int .i64 b), (2, .int .i64 c), (3, .int .i64 d), (16, .bool true)]) (h' := []) (c' := 0) (by kernel_rfl) ?_
      refine XR.done (by kernel_rfl) ?_
      show XQ _ _ _ _ _ _ _ _
      refine XQ.cond (s := (.tmp 16)) (b := true) (by kernel_rfl) (by kernel_rfl) (fun _ => ?_) (fun q => by cases q)
      refine XQ.seq E0_ok (by kernel_rfl) ?_
      refine XQ.region (by kernel_rfl) ?_
      refine XR.run E0_ok 1 2 [8, 9] rfl (σ' := [(8, .int .i64 0), (9, .int .i64 2)]) (h' := []) (c' := 0) (by kernel_rfl) ?_
      refine XR.done (by kernel_rfl) ?_
      show XQ _ _ _ _ _ _ _ _
      refine XQ.ret (by kernel_rfl) ?_
      have h := Option.some.inj h
      subst h
      exact ⟨fun i q => (by cases q), .tuple #[.int .i64 0, .int .i64 2], (by kernel_rfl), rfl⟩
    | false =>
      have h := cF b2 h
      refine XR.run E0_ok 1 7 [0, 1, 2, 3, 16] rfl (σ' := [(0, .int .i64 a), (1, .int .i64 b), (2, .int .i64 c), (3, .int .i64 d), (16, .bool (decide ((iMax c d) ≥ a)))]) (h' := []) (c' := 0) (by kernel_rfl) ?_
      refine XR.done (by kernel_rfl) ?_
      show XQ _ _ _ _ _ _ _ _
      cases b3 : (decide ((iMax c d) ≥ a) : Bool) with
      | true =>
        have h := cT b3 h
        refine XQ.cond (s := (.tmp 16)) (b := true) (by kernel_rfl) (by kernel_rfl) (fun _ => ?_) (fun q => by cases q)
        refine XQ.seq E0_ok (by kernel_rfl) ?_
        refine XQ.region (by kernel_rfl) ?_
        refine XR.run E0_ok 1 2 [8, 9] rfl (σ' := [(8, .int .i64 0), (9, .int .i64 2)]) (h' := []) (c' := 0) (by kernel_rfl) ?_
        refine XR.done (by kernel_rfl) ?_
        show XQ _ _ _ _ _ _ _ _
        refine XQ.ret (by kernel_rfl) ?_
        have h := Option.some.inj h
        subst h
        exact ⟨fun i q => (by cases q), .tuple #[.int .i64 0, .int .i64 2], (by kernel_rfl), rfl⟩
      | false =>
        have h := cF b3 h
        refine XQ.cond (s := (.tmp 16)) (b := false) (by kernel_rfl) (by kernel_rfl) (fun q => by cases q) (fun _ => ?_)
        refine XQ.seq E0_ok (by kernel_rfl) ?_
        refine XQ.region (by kernel_rfl) ?_
        refine XR.run E0_ok 1 4 [0, 1, 2, 3, 28] rfl (σ' := [(0, .int .i64 a), (1, .int .i64 b), (2, .int .i64 c), (3, .int .i64 d), (28, .bool (decide (c > d)))]) (h' := []) (c' := 0) (by kernel_rfl) ?_
        refine XR.done (by kernel_rfl) ?_
        show XQ _ _ _ _ _ _ _ _
        cases b4 : (decide (c > d) : Bool) with
        | true =>
          have h := cT b4 h
          refine XQ.cond (s := (.tmp 28)) (b := true) (by kernel_rfl) (by kernel_rfl) (fun _ => ?_) (fun q => by cases q)
          refine XQ.seq E0_ok (by kernel_rfl) ?_
          refine XQ.region (by kernel_rfl) ?_
          refine XR.run E0_ok 1 2 [8, 9] rfl (σ' := [(8, .int .i64 0), (9, .int .i64 7)]) (h' := []) (c' := 0) (by kernel_rfl) ?_
          refine XR.done (by kernel_rfl) ?_
          show XQ _ _ _ _ _ _ _ _
          refine XQ.ret (by kernel_rfl) ?_
          have h := Option.some.inj h
          subst h
          exact ⟨fun i q => (by cases q), .tuple #[.int .i64 0, .int .i64 7], (by kernel_rfl), rfl⟩
        | false =>
          have h := cF b4 h
          refine XQ.cond (s := (.tmp 28)) (b := false) (by kernel_rfl) (by kernel_rfl) (fun q => by cases q) (fun _ => ?_)
          refine XQ.skip (by kernel_rfl) ?_
          show XQ _ _ _ _ _ _ _ _
          refine XQ.seq E0_ok (by kernel_rfl) ?_
          refine XQ.region (by kernel_rfl) ?_
          refine XR.run E0_ok 1 4 [32, 33, 34, 35] rfl (σ' := [(32, .int .i64 a), (33, .int .i64 b), (34, .int .i64 c), (35, .int .i64 d)]) (h' := []) (c' := 0) (by kernel_rfl) ?_
          obtain ⟨r2, r2_h, h⟩ := bS h
          refine XR.call E0_ok [36] rfl (K := 62) (args := [.int .i64 a, .int .i64 b, .int .i64 c, .int .i64 d]) (d := (some (path 12 36))) (by kernel_rfl) (KC.of_calls E0_ok (F := Proofs.Try.f62) (v := .int .i64 r2) (by kernel_rfl) rfl rfl (fun w hI => f62_ok m m a b c d r2 r2_h w hI)) ?_
          rintro _ _ _ ⟨rfl, rfl, rfl⟩
          refine XR.conv (σ' := [(36, .int .i64 r2)]) (h' := []) (c' := 0) ?_ (by kernel_rfl)
          refine XR.run E0_ok 1 1 [10] rfl (σ' := [(10, .int .i64 r2)]) (h' := []) (c' := 0) (by kernel_rfl) ?_
          refine XR.done (by kernel_rfl) ?_
          show XQ _ _ _ _ _ _ _ _
          refine XQ.seq E0_ok (by kernel_rfl) ?_
          refine XQ.seq E0_ok (by kernel_rfl) ?_
          refine XQ.region (by kernel_rfl) ?_
          refine XR.run E0_ok 1 2 [10, 38] rfl (σ' := [(10, .int .i64 r2), (38, .bool (decide (r2 < 0)))]) (h' := []) (c' := 0) (by kernel_rfl) ?_
          refine XR.done (by kernel_rfl) ?_
          show XQ _ _ _ _ _ _ _ _
          cases b5 : (decide (r2 < 0) : Bool) with
          | true =>
            have h := cT b5 h
            refine XQ.cond (s := (.tmp 38)) (b := true) (by kernel_rfl) (by kernel_rfl) (fun _ => ?_) (fun q => by cases q)
            refine XQ.seq E0_ok (by kernel_rfl) ?_
            refine XQ.region (by kernel_rfl) ?_
            refine XR.run E0_ok 1 2 [8, 9] rfl (σ' := [(8, .int .i64 0), (9, .int .i64 12)]) (h' := []) (c' := 0) (by kernel_rfl) ?_
            refine XR.done (by kernel_rfl) ?_
            show XQ _ _ _ _ _ _ _ _
            refine XQ.ret (by kernel_rfl) ?_
            have h := Option.some.inj h
            subst h
            exact ⟨fun i q => (by cases q), .tuple #[.int .i64 0, .int .i64 12], (by kernel_rfl), rfl⟩
          | false =>
            have h := cF b5 h
            refine XQ.cond (s := (.tmp 38)) (b := false) (by kernel_rfl) (by kernel_rfl) (fun q => by cases q) (fun _ => ?_)
            refine XQ.skip (by kernel_rfl) ?_
            show XQ _ _ _ _ _ _ _ _
            refine XQ.seq E0_ok (by kernel_rfl) ?_
            refine XQ.region (by kernel_rfl) ?_
            refine XR.run E0_ok 1 3 [8, 9] rfl (σ' := [(8, .int .i64 r2), (9, .int .i64 0)]) (h' := []) (c' := 0) (by kernel_rfl) ?_
            refine XR.done (by kernel_rfl) ?_
            show XQ _ _ _ _ _ _ _ _
            refine XQ.ret (by kernel_rfl) ?_
            have h := Option.some.inj h
            subst h
            exact ⟨fun i q => (by cases q), .tuple #[.int .i64 r2, .int .i64 0], (by kernel_rfl), rfl⟩

/-! vitola/vitolaref05.First -/
noncomputable def f44_C44 : Code := Proofs.Try.f44.body.getD .skip
noncomputable def f44_C60 : Code := Proofs.Try.f60.body.getD .skip
noncomputable def f44_L1 : Code := lft (lft (rgt (lft (rgt (rgt (rgt (rgt (rgt (rgt f44_C44)))))))))
noncomputable def f44_L2 : Code := lft (lft (rgt (lft (rgt (rgt (rgt (rgt (rgt (rgt f44_C44)))))))))
noncomputable def f44_L3 : Code := lft (lft (rgt (lft (rgt (rgt (rgt (rgt (rgt (rgt f44_C44)))))))))

inductive Of44_1 where
  | r (x8_r1 : Int)
  | x0

def f44_1 (m : Nat) : Nat → Int → Int → Int → Int → Int → Option Of44_1
  | 0, _, _, _, _, _ => none
  | fuel + 1, a, b, c, d, x12_1 =>
    (f67 m a b 0).bind fun r6 =>
      cond (decide (x12_1 < r6)) (
        (f61 m a b 0 x12_1).bind fun r7 =>
          cond (decide (r7 ≥ c)) (
            cond (decide (r7 ≤ d)) (
              some (.r x12_1)
            ) (
              f44_1 m fuel a b c d (w64 (x12_1 + 1))
            )
          ) (
            f44_1 m fuel a b c d (w64 (x12_1 + 1))
          )
      ) (
        some (.x0)
      )

theorem f44_1_ok (m : Nat) : ∀ (fuel : Nat) (a : Int) (b : Int) (c : Int) (d : Int) (x12_1 : Int) (o : Of44_1), f44_1 m fuel a b c d x12_1 = some o → ∀ Q : QP, (match o with | .r x8_r1 => Q .ret [(8, .int .i64 x8_r1), (9, .int .i64 0)] [] 0 | .x0 => Q (.exit 0) [] [] 0) → XL E0 58 0 fuel f44_L1 [(2, .int .i64 c), (3, .int .i64 d), (11, .pointer (some ⟨0, 0, none⟩)), (12, .int .i64 x12_1)] [(0, .cells [.int .i64 a, .int .i64 b, .int .i64 0] 0 24 0)] 1 Q
  | 0, a, b, c, d, x12_1, o, h, Q, hQ => by cases h
  | fuel + 1, a, b, c, d, x12_1, o, h, Q, hQ => by
    unfold f44_1 at h
    refine XL.succ E0_ok ?_
    refine XQ.seq E0_ok (by kernel_rfl) ?_
    refine XQ.seq E0_ok (by kernel_rfl) ?_
    refine XQ.region (by kernel_rfl) ?_
    refine XR.run E0_ok 1 2 [2, 3, 11, 12, 45, 46] rfl (σ' := [(2, .int .i64 c), (3, .int .i64 d), (11, .pointer (some ⟨0, 0, none⟩)), (12, .int .i64 x12_1), (45, .int .i64 x12_1), (46, .agg #[.int .i64 a, .int .i64 b, .int .i64 0])]) (h' := [(0, .cells [.int .i64 a, .int .i64 b, .int .i64 0] 0 24 0)]) (c' := 1) (by kernel_rfl) ?_
    obtain ⟨r6, r6_h, h⟩ := bS h
    refine XR.call E0_ok [2, 3, 11, 12, 45, 47] rfl (K := 67) (args := [.agg #[.int .i64 a, .int .i64 b, .int .i64 0]]) (d := (some (path 12 47))) (by kernel_rfl) (KC.of_calls E0_ok (F := Proofs.Try.f67) (v := .int .i64 r6) (by kernel_rfl) rfl rfl (fun w hI => f67_ok m a b 0 r6 r6_h w hI)) ?_
    rintro _ _ _ ⟨rfl, rfl, rfl⟩
    refine XR.conv (σ' := [(2, .int .i64 c), (3, .int .i64 d), (11, .pointer (some ⟨0, 0, none⟩)), (12, .int .i64 x12_1), (45, .int .i64 x12_1), (47, .int .i64 r6)]) (h' := [(0, .cells [.int .i64 a, .int .i64 b, .int .i64 0] 0 24 0)]) (c' := 1) ?_ (by kernel_rfl)
    refine XR.run E0_ok 1 1 [2, 3, 11, 12, 48] rfl (σ' := [(2, .int .i64 c), (3, .int .i64 d), (11, .pointer (some ⟨0, 0, none⟩)), (12, .int .i64 x12_1), (48, .bool (decide (x12_1 < r6)))]) (h' := [(0, .cells [.int .i64 a, .int .i64 b, .int .i64 0] 0 24 0)]) (c' := 1) (by kernel_rfl) ?_
    refine XR.done (by kernel_rfl) ?_
    show XQ _ _ _ _ _ _ _ _
    cases b1 : (decide (x12_1 < r6) : Bool) with
    | true =>
      have h := cT b1 h
      refine XQ.cond (s := (.tmp 48)) (b := true) (by kernel_rfl) (by kernel_rfl) (fun _ => ?_) (fun q => by cases q)
      refine XQ.skip (by kernel_rfl) ?_
      show XQ _ _ _ _ _ _ _ _
      refine XQ.seq E0_ok (by kernel_rfl) ?_
      refine XQ.block (id := 1) (by kernel_rfl) ?_
      refine XQ.seq E0_ok (by kernel_rfl) ?_
      refine XQ.region (by kernel_rfl) ?_
      refine XR.run E0_ok 1 2 [2, 3, 11, 12, 51, 52] rfl (σ' := [(2, .int .i64 c), (3, .int .i64 d), (11, .pointer (some ⟨0, 0, none⟩)), (12, .int .i64 x12_1), (51, .agg #[.int .i64 a, .int .i64 b, .int .i64 0]), (52, .int .i64 x12_1)]) (h' := [(0, .cells [.int .i64 a, .int .i64 b, .int .i64 0] 0 24 0)]) (c' := 1) (by kernel_rfl) ?_
      obtain ⟨r7, r7_h, h⟩ := bS h
      refine XR.call E0_ok [2, 3, 11, 12, 53] rfl (K := 61) (args := [.agg #[.int .i64 a, .int .i64 b, .int .i64 0], .int .i64 x12_1]) (d := (some (path 12 53))) (by kernel_rfl) (KC.of_calls E0_ok (F := Proofs.Try.f61) (v := .int .i64 r7) (by kernel_rfl) rfl rfl (fun w hI => f61_ok m a b 0 x12_1 r7 r7_h w hI)) ?_
      rintro _ _ _ ⟨rfl, rfl, rfl⟩
      refine XR.conv (σ' := [(2, .int .i64 c), (3, .int .i64 d), (11, .pointer (some ⟨0, 0, none⟩)), (12, .int .i64 x12_1), (53, .int .i64 r7)]) (h' := [(0, .cells [.int .i64 a, .int .i64 b, .int .i64 0] 0 24 0)]) (c' := 1) ?_ (by kernel_rfl)
      refine XR.run E0_ok 1 2 [2, 3, 11, 12, 53, 54, 55] rfl (σ' := [(2, .int .i64 c), (3, .int .i64 d), (11, .pointer (some ⟨0, 0, none⟩)), (12, .int .i64 x12_1), (53, .int .i64 r7), (54, .int .i64 c), (55, .int .i64 d)]) (h' := [(0, .cells [.int .i64 a, .int .i64 b, .int .i64 0] 0 24 0)]) (c' := 1) (by kernel_rfl) ?_
      refine XR.callK E0_ok [2, 3, 11, 12, 56] rfl (K := 60) (args := [.int .i64 r7, .int .i64 c, .int .i64 d]) (d := (some (path 12 56))) (by kernel_rfl) ?_
      refine KC.bodyN E0_ok (F := Proofs.Try.f60) (by kernel_rfl) (code := f44_C60) (by kernel_rfl) (nt := 15) (by kernel_rfl) (rs := [.tmp 6]) (by kernel_rfl) (by kernel_rfl) (σ := [(0, .int .i64 r7), (1, .int .i64 c), (2, .int .i64 d)]) (by kernel_rfl) ?_
      refine XQ.seq E0_ok (by kernel_rfl) ?_
      refine XQ.region (by kernel_rfl) ?_
      refine XR.run E0_ok 1 1 [0, 1, 2] rfl (σ' := [(0, .int .i64 r7), (1, .int .i64 c), (2, .int .i64 d)]) (h' := [(0, .cells [.int .i64 a, .int .i64 b, .int .i64 0] 0 24 0)]) (c' := 1) (by kernel_rfl) ?_
      refine XR.done (by kernel_rfl) ?_
      show XQ _ _ _ _ _ _ _ _
      refine XQ.seq E0_ok (by kernel_rfl) ?_
      refine XQ.region (by kernel_rfl) ?_
      refine XR.run E0_ok 1 4 [0, 2, 10] rfl (σ' := [(0, .int .i64 r7), (2, .int .i64 d), (10, .bool (decide (r7 ≥ c)))]) (h' := [(0, .cells [.int .i64 a, .int .i64 b, .int .i64 0] 0 24 0)]) (c' := 1) (by kernel_rfl) ?_
      cases b2 : (decide (r7 ≥ c) : Bool) with
      | true =>
        have h := cT b2 h
        refine XR.run E0_ok 1 5 [6] rfl (σ' := [(6, .bool (decide (r7 ≤ d)))]) (h' := [(0, .cells [.int .i64 a, .int .i64 b, .int .i64 0] 0 24 0)]) (c' := 1) (by kernel_rfl) ?_
        refine XR.done (by kernel_rfl) ?_
        show XQ _ _ _ _ _ _ _ _
        refine XQ.ret (by kernel_rfl) ?_
        refine ⟨fun i q => (by cases q), .bool (decide (r7 ≤ d)), (by kernel_rfl), ?_⟩
        refine XR.conv (σ' := [(2, .int .i64 c), (3, .int .i64 d), (11, .pointer (some ⟨0, 0, none⟩)), (12, .int .i64 x12_1), (56, .bool (decide (r7 ≤ d)))]) (h' := [(0, .cells [.int .i64 a, .int .i64 b, .int .i64 0] 0 24 0)]) (c' := 1) ?_ (by kernel_rfl)
        refine XR.done (by kernel_rfl) ?_
        show XQ _ _ _ _ _ _ _ _
        cases b3 : (decide (r7 ≤ d) : Bool) with
        | true =>
          have h := cT b3 h
          refine XQ.cond (s := (.tmp 56)) (b := true) (by kernel_rfl) (by kernel_rfl) (fun _ => ?_) (fun q => by cases q)
          refine XQ.seq E0_ok (by kernel_rfl) ?_
          refine XQ.region (by kernel_rfl) ?_
          refine XR.run E0_ok 1 3 [8, 9] rfl (σ' := [(8, .int .i64 x12_1), (9, .int .i64 0)]) (h' := [(0, .cells [.int .i64 a, .int .i64 b, .int .i64 0] 0 24 0)]) (c' := 1) (by kernel_rfl) ?_
          refine XR.done (by kernel_rfl) ?_
          show XQ _ _ _ _ _ _ _ _
          refine XQ.ren (σ' := [(8, .int .i64 x12_1), (9, .int .i64 0)]) (h' := []) (c' := 0) [] (by decide) rfl ⟨by kernel_rfl, by kernel_rfl, trivial⟩ trivial rfl ?_
          refine XQ.ret (by kernel_rfl) ?_
          cases h
          exact hQ
        | false =>
          have h := cF b3 h
          refine XQ.cond (s := (.tmp 56)) (b := false) (by kernel_rfl) (by kernel_rfl) (fun q => by cases q) (fun _ => ?_)
          refine XQ.skip (by kernel_rfl) ?_
          show XQ _ _ _ _ _ _ _ _
          refine XQ.region (by kernel_rfl) ?_
          refine XR.run E0_ok 1 3 [2, 3, 11, 12] rfl (σ' := [(2, .int .i64 c), (3, .int .i64 d), (11, .pointer (some ⟨0, 0, none⟩)), (12, .int .i64 (w64 (x12_1 + 1)))]) (h' := [(0, .cells [.int .i64 a, .int .i64 b, .int .i64 0] 0 24 0)]) (c' := 1) (by kernel_rfl) ?_
          refine XR.done (by kernel_rfl) ?_
          show XL _ _ _ _ _ _ _ _ _
          refine XL.ren (σ' := [(2, .int .i64 c), (3, .int .i64 d), (11, .pointer (some ⟨0, 0, none⟩)), (12, .int .i64 (w64 (x12_1 + 1)))]) (h' := [(0, .cells [.int .i64 a, .int .i64 b, .int .i64 0] 0 24 0)]) (c' := 1) [0] (by decide) rfl ⟨by kernel_rfl, by kernel_rfl, by kernel_rfl, by kernel_rfl, trivial⟩ ⟨⟨_, _, rfl, rfl, .inr ⟨_, _, _, _, rfl, rfl⟩⟩, trivial⟩ rfl ?_
          refine XL.conv (f44_1_ok m fuel a b c d (w64 (x12_1 + 1)) o h Q hQ) (by first | rfl | simp)
      | false =>
        have h := cF b2 h
        refine XR.run E0_ok 1 5 [6] rfl (σ' := [(6, .bool false)]) (h' := [(0, .cells [.int .i64 a, .int .i64 b, .int .i64 0] 0 24 0)]) (c' := 1) (by kernel_rfl) ?_
        refine XR.done (by kernel_rfl) ?_
        show XQ _ _ _ _ _ _ _ _
        refine XQ.ret (by kernel_rfl) ?_
        refine ⟨fun i q => (by cases q), .bool false, (by kernel_rfl), ?_⟩
        refine XR.conv (σ' := [(2, .int .i64 c), (3, .int .i64 d), (11, .pointer (some ⟨0, 0, none⟩)), (12, .int .i64 x12_1), (56, .bool false)]) (h' := [(0, .cells [.int .i64 a, .int .i64 b, .int .i64 0] 0 24 0)]) (c' := 1) ?_ (by kernel_rfl)
        refine XR.done (by kernel_rfl) ?_
        show XQ _ _ _ _ _ _ _ _
        refine XQ.cond (s := (.tmp 56)) (b := false) (by kernel_rfl) (by kernel_rfl) (fun q => by cases q) (fun _ => ?_)
        refine XQ.skip (by kernel_rfl) ?_
        show XQ _ _ _ _ _ _ _ _
        refine XQ.region (by kernel_rfl) ?_
        refine XR.run E0_ok 1 3 [2, 3, 11, 12] rfl (σ' := [(2, .int .i64 c), (3, .int .i64 d), (11, .pointer (some ⟨0, 0, none⟩)), (12, .int .i64 (w64 (x12_1 + 1)))]) (h' := [(0, .cells [.int .i64 a, .int .i64 b, .int .i64 0] 0 24 0)]) (c' := 1) (by kernel_rfl) ?_
        refine XR.done (by kernel_rfl) ?_
        show XL _ _ _ _ _ _ _ _ _
        refine XL.ren (σ' := [(2, .int .i64 c), (3, .int .i64 d), (11, .pointer (some ⟨0, 0, none⟩)), (12, .int .i64 (w64 (x12_1 + 1)))]) (h' := [(0, .cells [.int .i64 a, .int .i64 b, .int .i64 0] 0 24 0)]) (c' := 1) [0] (by decide) rfl ⟨by kernel_rfl, by kernel_rfl, by kernel_rfl, by kernel_rfl, trivial⟩ ⟨⟨_, _, rfl, rfl, .inr ⟨_, _, _, _, rfl, rfl⟩⟩, trivial⟩ rfl ?_
        refine XL.conv (f44_1_ok m fuel a b c d (w64 (x12_1 + 1)) o h Q hQ) (by first | rfl | simp)
    | false =>
      have h := cF b1 h
      refine XQ.cond (s := (.tmp 48)) (b := false) (by kernel_rfl) (by kernel_rfl) (fun q => by cases q) (fun _ => ?_)
      refine XQ.ren (σ' := []) (h' := []) (c' := 0) [] (by decide) rfl trivial trivial rfl ?_
      refine XQ.exit (i := 0) (by kernel_rfl) ?_
      cases h
      exact hQ

inductive Of44_2 where
  | r (x8_r2 : Int)
  | x0

def f44_2 (m : Nat) : Nat → Int → Int → Int → Int → Int → Option Of44_2
  | 0, _, _, _, _, _ => none
  | fuel + 1, a, b, c, d, x12_2 =>
    (f67 m a b 0).bind fun r12 =>
      cond (decide (x12_2 < r12)) (
        (f61 m a b 0 x12_2).bind fun r13 =>
          cond (decide (r13 ≥ c)) (
            cond (decide (r13 ≤ d)) (
              some (.r x12_2)
            ) (
              f44_2 m fuel a b c d (w64 (x12_2 + 1))
            )
          ) (
            f44_2 m fuel a b c d (w64 (x12_2 + 1))
          )
      ) (
        some (.x0)
      )

theorem f44_2_ok (m : Nat) : ∀ (fuel : Nat) (a : Int) (b : Int) (c : Int) (d : Int) (x12_2 : Int) (o : Of44_2), f44_2 m fuel a b c d x12_2 = some o → ∀ Q : QP, (match o with | .r x8_r2 => Q .ret [(8, .int .i64 x8_r2), (9, .int .i64 0)] [] 0 | .x0 => Q (.exit 0) [] [] 0) → XL E0 58 0 fuel f44_L2 [(2, .int .i64 c), (3, .int .i64 d), (11, .pointer (some ⟨0, 0, none⟩)), (12, .int .i64 x12_2)] [(0, .cells [.int .i64 a, .int .i64 b, .int .i64 0] 0 24 0)] 1 Q
  | 0, a, b, c, d, x12_2, o, h, Q, hQ => by cases h
  | fuel + 1, a, b, c, d, x12_2, o, h, Q, hQ => by
    unfold f44_2 at h
    refine XL.succ E0_ok ?_
    refine XQ.seq E0_ok (by kernel_rfl) ?_
    refine XQ.seq E0_ok (by kernel_rfl) ?_
    refine XQ.region (by kernel_rfl) ?_
    refine XR.run E0_ok 1 2 [2, 3, 11, 12, 45, 46] rfl (σ' := [(2, .int .i64 c), (3, .int .i64 d), (11, .pointer (some ⟨0, 0, none⟩)), (12, .int .i64 x12_2), (45, .int .i64 x12_2), (46, .agg #[.int .i64 a, .int .i64 b, .int .i64 0])]) (h' := [(0, .cells [.int .i64 a, .int .i64 b, .int .i64 0] 0 24 0)]) (c' := 1) (by kernel_rfl) ?_
    obtain ⟨r12, r12_h, h⟩ := bS h
    refine XR.call E0_ok [2, 3, 11, 12, 45, 47] rfl (K := 67) (args := [.agg #[.int .i64 a, .int .i64 b, .int .i64 0]]) (d := (some (path 12 47))) (by kernel_rfl) (KC.of_calls E0_ok (F := Proofs.Try.f67) (v := .int .i64 r12) (by kernel_rfl) rfl rfl (fun w hI => f67_ok m a b 0 r12 r12_h w hI)) ?_
    rintro _ _ _ ⟨rfl, rfl, rfl⟩
    refine XR.conv (σ' := [(2, .int .i64 c), (3, .int .i64 d), (11, .pointer (some ⟨0, 0, none⟩)), (12, .int .i64 x12_2), (45, .int .i64 x12_2), (47, .int .i64 r12)]) (h' := [(0, .cells [.int .i64 a, .int .i64 b, .int .i64 0] 0 24 0)]) (c' := 1) ?_ (by kernel_rfl)
    refine XR.run E0_ok 1 1 [2, 3, 11, 12, 48] rfl (σ' := [(2, .int .i64 c), (3, .int .i64 d), (11, .pointer (some ⟨0, 0, none⟩)), (12, .int .i64 x12_2), (48, .bool (decide (x12_2 < r12)))]) (h' := [(0, .cells [.int .i64 a, .int .i64 b, .int .i64 0] 0 24 0)]) (c' := 1) (by kernel_rfl) ?_
    refine XR.done (by kernel_rfl) ?_
    show XQ _ _ _ _ _ _ _ _
    cases b1 : (decide (x12_2 < r12) : Bool) with
    | true =>
      have h := cT b1 h
      refine XQ.cond (s := (.tmp 48)) (b := true) (by kernel_rfl) (by kernel_rfl) (fun _ => ?_) (fun q => by cases q)
      refine XQ.skip (by kernel_rfl) ?_
      show XQ _ _ _ _ _ _ _ _
      refine XQ.seq E0_ok (by kernel_rfl) ?_
      refine XQ.block (id := 1) (by kernel_rfl) ?_
      refine XQ.seq E0_ok (by kernel_rfl) ?_
      refine XQ.region (by kernel_rfl) ?_
      refine XR.run E0_ok 1 2 [2, 3, 11, 12, 51, 52] rfl (σ' := [(2, .int .i64 c), (3, .int .i64 d), (11, .pointer (some ⟨0, 0, none⟩)), (12, .int .i64 x12_2), (51, .agg #[.int .i64 a, .int .i64 b, .int .i64 0]), (52, .int .i64 x12_2)]) (h' := [(0, .cells [.int .i64 a, .int .i64 b, .int .i64 0] 0 24 0)]) (c' := 1) (by kernel_rfl) ?_
      obtain ⟨r13, r13_h, h⟩ := bS h
      refine XR.call E0_ok [2, 3, 11, 12, 53] rfl (K := 61) (args := [.agg #[.int .i64 a, .int .i64 b, .int .i64 0], .int .i64 x12_2]) (d := (some (path 12 53))) (by kernel_rfl) (KC.of_calls E0_ok (F := Proofs.Try.f61) (v := .int .i64 r13) (by kernel_rfl) rfl rfl (fun w hI => f61_ok m a b 0 x12_2 r13 r13_h w hI)) ?_
      rintro _ _ _ ⟨rfl, rfl, rfl⟩
      refine XR.conv (σ' := [(2, .int .i64 c), (3, .int .i64 d), (11, .pointer (some ⟨0, 0, none⟩)), (12, .int .i64 x12_2), (53, .int .i64 r13)]) (h' := [(0, .cells [.int .i64 a, .int .i64 b, .int .i64 0] 0 24 0)]) (c' := 1) ?_ (by kernel_rfl)
      refine XR.run E0_ok 1 2 [2, 3, 11, 12, 53, 54, 55] rfl (σ' := [(2, .int .i64 c), (3, .int .i64 d), (11, .pointer (some ⟨0, 0, none⟩)), (12, .int .i64 x12_2), (53, .int .i64 r13), (54, .int .i64 c), (55, .int .i64 d)]) (h' := [(0, .cells [.int .i64 a, .int .i64 b, .int .i64 0] 0 24 0)]) (c' := 1) (by kernel_rfl) ?_
      refine XR.callK E0_ok [2, 3, 11, 12, 56] rfl (K := 60) (args := [.int .i64 r13, .int .i64 c, .int .i64 d]) (d := (some (path 12 56))) (by kernel_rfl) ?_
      refine KC.bodyN E0_ok (F := Proofs.Try.f60) (by kernel_rfl) (code := f44_C60) (by kernel_rfl) (nt := 15) (by kernel_rfl) (rs := [.tmp 6]) (by kernel_rfl) (by kernel_rfl) (σ := [(0, .int .i64 r13), (1, .int .i64 c), (2, .int .i64 d)]) (by kernel_rfl) ?_
      refine XQ.seq E0_ok (by kernel_rfl) ?_
      refine XQ.region (by kernel_rfl) ?_
      refine XR.run E0_ok 1 1 [0, 1, 2] rfl (σ' := [(0, .int .i64 r13), (1, .int .i64 c), (2, .int .i64 d)]) (h' := [(0, .cells [.int .i64 a, .int .i64 b, .int .i64 0] 0 24 0)]) (c' := 1) (by kernel_rfl) ?_
      refine XR.done (by kernel_rfl) ?_
      show XQ _ _ _ _ _ _ _ _
      refine XQ.seq E0_ok (by kernel_rfl) ?_
      refine XQ.region (by kernel_rfl) ?_
      refine XR.run E0_ok 1 4 [0, 2, 10] rfl (σ' := [(0, .int .i64 r13), (2, .int .i64 d), (10, .bool (decide (r13 ≥ c)))]) (h' := [(0, .cells [.int .i64 a, .int .i64 b, .int .i64 0] 0 24 0)]) (c' := 1) (by kernel_rfl) ?_
      cases b2 : (decide (r13 ≥ c) : Bool) with
      | true =>
        have h := cT b2 h
        refine XR.run E0_ok 1 5 [6] rfl (σ' := [(6, .bool (decide (r13 ≤ d)))]) (h' := [(0, .cells [.int .i64 a, .int .i64 b, .int .i64 0] 0 24 0)]) (c' := 1) (by kernel_rfl) ?_
        refine XR.done (by kernel_rfl) ?_
        show XQ _ _ _ _ _ _ _ _
        refine XQ.ret (by kernel_rfl) ?_
        refine ⟨fun i q => (by cases q), .bool (decide (r13 ≤ d)), (by kernel_rfl), ?_⟩
        refine XR.conv (σ' := [(2, .int .i64 c), (3, .int .i64 d), (11, .pointer (some ⟨0, 0, none⟩)), (12, .int .i64 x12_2), (56, .bool (decide (r13 ≤ d)))]) (h' := [(0, .cells [.int .i64 a, .int .i64 b, .int .i64 0] 0 24 0)]) (c' := 1) ?_ (by kernel_rfl)
        refine XR.done (by kernel_rfl) ?_
        show XQ _ _ _ _ _ _ _ _
        cases b3 : (decide (r13 ≤ d) : Bool) with
        | true =>
          have h := cT b3 h
          refine XQ.cond (s := (.tmp 56)) (b := true) (by kernel_rfl) (by kernel_rfl) (fun _ => ?_) (fun q => by cases q)
          refine XQ.seq E0_ok (by kernel_rfl) ?_
          refine XQ.region (by kernel_rfl) ?_
          refine XR.run E0_ok 1 3 [8, 9] rfl (σ' := [(8, .int .i64 x12_2), (9, .int .i64 0)]) (h' := [(0, .cells [.int .i64 a, .int .i64 b, .int .i64 0] 0 24 0)]) (c' := 1) (by kernel_rfl) ?_
          refine XR.done (by kernel_rfl) ?_
          show XQ _ _ _ _ _ _ _ _
          refine XQ.ren (σ' := [(8, .int .i64 x12_2), (9, .int .i64 0)]) (h' := []) (c' := 0) [] (by decide) rfl ⟨by kernel_rfl, by kernel_rfl, trivial⟩ trivial rfl ?_
          refine XQ.ret (by kernel_rfl) ?_
          cases h
          exact hQ
        | false =>
          have h := cF b3 h
          refine XQ.cond (s := (.tmp 56)) (b := false) (by kernel_rfl) (by kernel_rfl) (fun q => by cases q) (fun _ => ?_)
          refine XQ.skip (by kernel_rfl) ?_
          show XQ _ _ _ _ _ _ _ _
          refine XQ.region (by kernel_rfl) ?_
          refine XR.run E0_ok 1 3 [2, 3, 11, 12] rfl (σ' := [(2, .int .i64 c), (3, .int .i64 d), (11, .pointer (some ⟨0, 0, none⟩)), (12, .int .i64 (w64 (x12_2 + 1)))]) (h' := [(0, .cells [.int .i64 a, .int .i64 b, .int .i64 0] 0 24 0)]) (c' := 1) (by kernel_rfl) ?_
          refine XR.done (by kernel_rfl) ?_
          show XL _ _ _ _ _ _ _ _ _
          refine XL.ren (σ' := [(2, .int .i64 c), (3, .int .i64 d), (11, .pointer (some ⟨0, 0, none⟩)), (12, .int .i64 (w64 (x12_2 + 1)))]) (h' := [(0, .cells [.int .i64 a, .int .i64 b, .int .i64 0] 0 24 0)]) (c' := 1) [0] (by decide) rfl ⟨by kernel_rfl, by kernel_rfl, by kernel_rfl, by kernel_rfl, trivial⟩ ⟨⟨_, _, rfl, rfl, .inr ⟨_, _, _, _, rfl, rfl⟩⟩, trivial⟩ rfl ?_
          refine XL.conv (f44_2_ok m fuel a b c d (w64 (x12_2 + 1)) o h Q hQ) (by first | rfl | simp)
      | false =>
        have h := cF b2 h
        refine XR.run E0_ok 1 5 [6] rfl (σ' := [(6, .bool false)]) (h' := [(0, .cells [.int .i64 a, .int .i64 b, .int .i64 0] 0 24 0)]) (c' := 1) (by kernel_rfl) ?_
        refine XR.done (by kernel_rfl) ?_
        show XQ _ _ _ _ _ _ _ _
        refine XQ.ret (by kernel_rfl) ?_
        refine ⟨fun i q => (by cases q), .bool false, (by kernel_rfl), ?_⟩
        refine XR.conv (σ' := [(2, .int .i64 c), (3, .int .i64 d), (11, .pointer (some ⟨0, 0, none⟩)), (12, .int .i64 x12_2), (56, .bool false)]) (h' := [(0, .cells [.int .i64 a, .int .i64 b, .int .i64 0] 0 24 0)]) (c' := 1) ?_ (by kernel_rfl)
        refine XR.done (by kernel_rfl) ?_
        show XQ _ _ _ _ _ _ _ _
        refine XQ.cond (s := (.tmp 56)) (b := false) (by kernel_rfl) (by kernel_rfl) (fun q => by cases q) (fun _ => ?_)
        refine XQ.skip (by kernel_rfl) ?_
        show XQ _ _ _ _ _ _ _ _
        refine XQ.region (by kernel_rfl) ?_
        refine XR.run E0_ok 1 3 [2, 3, 11, 12] rfl (σ' := [(2, .int .i64 c), (3, .int .i64 d), (11, .pointer (some ⟨0, 0, none⟩)), (12, .int .i64 (w64 (x12_2 + 1)))]) (h' := [(0, .cells [.int .i64 a, .int .i64 b, .int .i64 0] 0 24 0)]) (c' := 1) (by kernel_rfl) ?_
        refine XR.done (by kernel_rfl) ?_
        show XL _ _ _ _ _ _ _ _ _
        refine XL.ren (σ' := [(2, .int .i64 c), (3, .int .i64 d), (11, .pointer (some ⟨0, 0, none⟩)), (12, .int .i64 (w64 (x12_2 + 1)))]) (h' := [(0, .cells [.int .i64 a, .int .i64 b, .int .i64 0] 0 24 0)]) (c' := 1) [0] (by decide) rfl ⟨by kernel_rfl, by kernel_rfl, by kernel_rfl, by kernel_rfl, trivial⟩ ⟨⟨_, _, rfl, rfl, .inr ⟨_, _, _, _, rfl, rfl⟩⟩, trivial⟩ rfl ?_
        refine XL.conv (f44_2_ok m fuel a b c d (w64 (x12_2 + 1)) o h Q hQ) (by first | rfl | simp)
    | false =>
      have h := cF b1 h
      refine XQ.cond (s := (.tmp 48)) (b := false) (by kernel_rfl) (by kernel_rfl) (fun q => by cases q) (fun _ => ?_)
      refine XQ.ren (σ' := []) (h' := []) (c' := 0) [] (by decide) rfl trivial trivial rfl ?_
      refine XQ.exit (i := 0) (by kernel_rfl) ?_
      cases h
      exact hQ

inductive Of44_3 where
  | r (x8_r3 : Int)
  | x0

def f44_3 (m : Nat) : Nat → Int → Int → Int → Int → Int → Option Of44_3
  | 0, _, _, _, _, _ => none
  | fuel + 1, a, b, c, d, x12_3 =>
    (f67 m a b 0).bind fun r18 =>
      cond (decide (x12_3 < r18)) (
        (f61 m a b 0 x12_3).bind fun r19 =>
          cond (decide (r19 ≥ c)) (
            cond (decide (r19 ≤ d)) (
              some (.r x12_3)
            ) (
              f44_3 m fuel a b c d (w64 (x12_3 + 1))
            )
          ) (
            f44_3 m fuel a b c d (w64 (x12_3 + 1))
          )
      ) (
        some (.x0)
      )

theorem f44_3_ok (m : Nat) : ∀ (fuel : Nat) (a : Int) (b : Int) (c : Int) (d : Int) (x12_3 : Int) (o : Of44_3), f44_3 m fuel a b c d x12_3 = some o → ∀ Q : QP, (match o with | .r x8_r3 => Q .ret [(8, .int .i64 x8_r3), (9, .int .i64 0)] [] 0 | .x0 => Q (.exit 0) [] [] 0) → XL E0 58 0 fuel f44_L3 [(2, .int .i64 c), (3, .int .i64 d), (11, .pointer (some ⟨0, 0, none⟩)), (12, .int .i64 x12_3)] [(0, .cells [.int .i64 a, .int .i64 b, .int .i64 0] 0 24 0)] 1 Q
  | 0, a, b, c, d, x12_3, o, h, Q, hQ => by cases h
  | fuel + 1, a, b, c, d, x12_3, o, h, Q, hQ => by
    unfold f44_3 at h
    refine XL.succ E0_ok ?_
    refine XQ.seq E0_ok (by kernel_rfl) ?_
    refine XQ.seq E0_ok (by kernel_rfl) ?_
    refine XQ.region (by kernel_rfl) ?_
    refine XR.run E0_ok 1 2 [2, 3, 11, 12, 45, 46] rfl (σ' := [(2, .int .i64 c), (3, .int .i64 d), (11, .pointer (some ⟨0, 0, none⟩)), (12, .int .i64 x12_3), (45, .int .i64 x12_3), (46, .agg #[.int .i64 a, .int .i64 b, .int .i64 0])]) (h' := [(0, .cells [.int .i64 a, .int .i64 b, .int .i64 0] 0 24 0)]) (c' := 1) (by kernel_rfl) ?_
    obtain ⟨r18, r18_h, h⟩ := bS h
    refine XR.call E0_ok [2, 3, 11, 12, 45, 47] rfl (K := 67) (args := [.agg #[.int .i64 a, .int .i64 b, .int .i64 0]]) (d := (some (path 12 47))) (by kernel_rfl) (KC.of_calls E0_ok (F := Proofs.Try.f67) (v := .int .i64 r18) (by kernel_rfl) rfl rfl (fun w hI => f67_ok m a b 0 r18 r18_h w hI)) ?_
    rintro _ _ _ ⟨rfl, rfl, rfl⟩
    refine XR.conv (σ' := [(2, .int .i64 c), (3, .int .i64 d), (11, .pointer (some ⟨0, 0, none⟩)), (12, .int .i64 x12_3), (45, .int .i64 x12_3), (47, .int .i64 r18)]) (h' := [(0, .cells [.int .i64 a, .int .i64 b, .int .i64 0] 0 24 0)]) (c' := 1) ?_ (by kernel_rfl)
    refine XR.run E0_ok 1 1 [2, 3, 11, 12, 48] rfl (σ' := [(2, .int .i64 c), (3, .int .i64 d), (11, .pointer (some ⟨0, 0, none⟩)), (12, .int .i64 x12_3), (48, .bool (decide (x12_3 < r18)))]) (h' := [(0, .cells [.int .i64 a, .int .i64 b, .int .i64 0] 0 24 0)]) (c' := 1) (by kernel_rfl) ?_
    refine XR.done (by kernel_rfl) ?_
    show XQ _ _ _ _ _ _ _ _
    cases b1 : (decide (x12_3 < r18) : Bool) with
    | true =>
      have h := cT b1 h
      refine XQ.cond (s := (.tmp 48)) (b := true) (by kernel_rfl) (by kernel_rfl) (fun _ => ?_) (fun q => by cases q)
      refine XQ.skip (by kernel_rfl) ?_
      show XQ _ _ _ _ _ _ _ _
      refine XQ.seq E0_ok (by kernel_rfl) ?_
      refine XQ.block (id := 1) (by kernel_rfl) ?_
      refine XQ.seq E0_ok (by kernel_rfl) ?_
      refine XQ.region (by kernel_rfl) ?_
      refine XR.run E0_ok 1 2 [2, 3, 11, 12, 51, 52] rfl (σ' := [(2, .int .i64 c), (3, .int .i64 d), (11, .pointer (some ⟨0, 0, none⟩)), (12, .int .i64 x12_3), (51, .agg #[.int .i64 a, .int .i64 b, .int .i64 0]), (52, .int .i64 x12_3)]) (h' := [(0, .cells [.int .i64 a, .int .i64 b, .int .i64 0] 0 24 0)]) (c' := 1) (by kernel_rfl) ?_
      obtain ⟨r19, r19_h, h⟩ := bS h
      refine XR.call E0_ok [2, 3, 11, 12, 53] rfl (K := 61) (args := [.agg #[.int .i64 a, .int .i64 b, .int .i64 0], .int .i64 x12_3]) (d := (some (path 12 53))) (by kernel_rfl) (KC.of_calls E0_ok (F := Proofs.Try.f61) (v := .int .i64 r19) (by kernel_rfl) rfl rfl (fun w hI => f61_ok m a b 0 x12_3 r19 r19_h w hI)) ?_
      rintro _ _ _ ⟨rfl, rfl, rfl⟩
      refine XR.conv (σ' := [(2, .int .i64 c), (3, .int .i64 d), (11, .pointer (some ⟨0, 0, none⟩)), (12, .int .i64 x12_3), (53, .int .i64 r19)]) (h' := [(0, .cells [.int .i64 a, .int .i64 b, .int .i64 0] 0 24 0)]) (c' := 1) ?_ (by kernel_rfl)
      refine XR.run E0_ok 1 2 [2, 3, 11, 12, 53, 54, 55] rfl (σ' := [(2, .int .i64 c), (3, .int .i64 d), (11, .pointer (some ⟨0, 0, none⟩)), (12, .int .i64 x12_3), (53, .int .i64 r19), (54, .int .i64 c), (55, .int .i64 d)]) (h' := [(0, .cells [.int .i64 a, .int .i64 b, .int .i64 0] 0 24 0)]) (c' := 1) (by kernel_rfl) ?_
      refine XR.callK E0_ok [2, 3, 11, 12, 56] rfl (K := 60) (args := [.int .i64 r19, .int .i64 c, .int .i64 d]) (d := (some (path 12 56))) (by kernel_rfl) ?_
      refine KC.bodyN E0_ok (F := Proofs.Try.f60) (by kernel_rfl) (code := f44_C60) (by kernel_rfl) (nt := 15) (by kernel_rfl) (rs := [.tmp 6]) (by kernel_rfl) (by kernel_rfl) (σ := [(0, .int .i64 r19), (1, .int .i64 c), (2, .int .i64 d)]) (by kernel_rfl) ?_
      refine XQ.seq E0_ok (by kernel_rfl) ?_
      refine XQ.region (by kernel_rfl) ?_
      refine XR.run E0_ok 1 1 [0, 1, 2] rfl (σ' := [(0, .int .i64 r19), (1, .int .i64 c), (2, .int .i64 d)]) (h' := [(0, .cells [.int .i64 a, .int .i64 b, .int .i64 0] 0 24 0)]) (c' := 1) (by kernel_rfl) ?_
      refine XR.done (by kernel_rfl) ?_
      show XQ _ _ _ _ _ _ _ _
      refine XQ.seq E0_ok (by kernel_rfl) ?_
      refine XQ.region (by kernel_rfl) ?_
      refine XR.run E0_ok 1 4 [0, 2, 10] rfl (σ' := [(0, .int .i64 r19), (2, .int .i64 d), (10, .bool (decide (r19 ≥ c)))]) (h' := [(0, .cells [.int .i64 a, .int .i64 b, .int .i64 0] 0 24 0)]) (c' := 1) (by kernel_rfl) ?_
      cases b2 : (decide (r19 ≥ c) : Bool) with
      | true =>
        have h := cT b2 h
        refine XR.run E0_ok 1 5 [6] rfl (σ' := [(6, .bool (decide (r19 ≤ d)))]) (h' := [(0, .cells [.int .i64 a, .int .i64 b, .int .i64 0] 0 24 0)]) (c' := 1) (by kernel_rfl) ?_
        refine XR.done (by kernel_rfl) ?_
        show XQ _ _ _ _ _ _ _ _
        refine XQ.ret (by kernel_rfl) ?_
        refine ⟨fun i q => (by cases q), .bool (decide (r19 ≤ d)), (by kernel_rfl), ?_⟩
        refine XR.conv (σ' := [(2, .int .i64 c), (3, .int .i64 d), (11, .pointer (some ⟨0, 0, none⟩)), (12, .int .i64 x12_3), (56, .bool (decide (r19 ≤ d)))]) (h' := [(0, .cells [.int .i64 a, .int .i64 b, .int .i64 0] 0 24 0)]) (c' := 1) ?_ (by kernel_rfl)
        refine XR.done (by kernel_rfl) ?_
        show XQ _ _ _ _ _ _ _ _
        cases b3 : (decide (r19 ≤ d) : Bool) with
        | true =>
          have h := cT b3 h
          refine XQ.cond (s := (.tmp 56)) (b := true) (by kernel_rfl) (by kernel_rfl) (fun _ => ?_) (fun q => by cases q)
          refine XQ.seq E0_ok (by kernel_rfl) ?_
          refine XQ.region (by kernel_rfl) ?_
          refine XR.run E0_ok 1 3 [8, 9] rfl (σ' := [(8, .int .i64 x12_3), (9, .int .i64 0)]) (h' := [(0, .cells [.int .i64 a, .int .i64 b, .int .i64 0] 0 24 0)]) (c' := 1) (by kernel_rfl) ?_
          refine XR.done (by kernel_rfl) ?_
          show XQ _ _ _ _ _ _ _ _
          refine XQ.ren (σ' := [(8, .int .i64 x12_3), (9, .int .i64 0)]) (h' := []) (c' := 0) [] (by decide) rfl ⟨by kernel_rfl, by kernel_rfl, trivial⟩ trivial rfl ?_
          refine XQ.ret (by kernel_rfl) ?_
          cases h
          exact hQ
        | false =>
          have h := cF b3 h
          refine XQ.cond (s := (.tmp 56)) (b := false) (by kernel_rfl) (by kernel_rfl) (fun q => by cases q) (fun _ => ?_)
          refine XQ.skip (by kernel_rfl) ?_
          show XQ _ _ _ _ _ _ _ _
          refine XQ.region (by kernel_rfl) ?_
          refine XR.run E0_ok 1 3 [2, 3, 11, 12] rfl (σ' := [(2, .int .i64 c), (3, .int .i64 d), (11, .pointer (some ⟨0, 0, none⟩)), (12, .int .i64 (w64 (x12_3 + 1)))]) (h' := [(0, .cells [.int .i64 a, .int .i64 b, .int .i64 0] 0 24 0)]) (c' := 1) (by kernel_rfl) ?_
          refine XR.done (by kernel_rfl) ?_
          show XL _ _ _ _ _ _ _ _ _
          refine XL.ren (σ' := [(2, .int .i64 c), (3, .int .i64 d), (11, .pointer (some ⟨0, 0, none⟩)), (12, .int .i64 (w64 (x12_3 + 1)))]) (h' := [(0, .cells [.int .i64 a, .int .i64 b, .int .i64 0] 0 24 0)]) (c' := 1) [0] (by decide) rfl ⟨by kernel_rfl, by kernel_rfl, by kernel_rfl, by kernel_rfl, trivial⟩ ⟨⟨_, _, rfl, rfl, .inr ⟨_, _, _, _, rfl, rfl⟩⟩, trivial⟩ rfl ?_
          refine XL.conv (f44_3_ok m fuel a b c d (w64 (x12_3 + 1)) o h Q hQ) (by first | rfl | simp)
      | false =>
        have h := cF b2 h
        refine XR.run E0_ok 1 5 [6] rfl (σ' := [(6, .bool false)]) (h' := [(0, .cells [.int .i64 a, .int .i64 b, .int .i64 0] 0 24 0)]) (c' := 1) (by kernel_rfl) ?_
        refine XR.done (by kernel_rfl) ?_
        show XQ _ _ _ _ _ _ _ _
        refine XQ.ret (by kernel_rfl) ?_
        refine ⟨fun i q => (by cases q), .bool false, (by kernel_rfl), ?_⟩
        refine XR.conv (σ' := [(2, .int .i64 c), (3, .int .i64 d), (11, .pointer (some ⟨0, 0, none⟩)), (12, .int .i64 x12_3), (56, .bool false)]) (h' := [(0, .cells [.int .i64 a, .int .i64 b, .int .i64 0] 0 24 0)]) (c' := 1) ?_ (by kernel_rfl)
        refine XR.done (by kernel_rfl) ?_
        show XQ _ _ _ _ _ _ _ _
        refine XQ.cond (s := (.tmp 56)) (b := false) (by kernel_rfl) (by kernel_rfl) (fun q => by cases q) (fun _ => ?_)
        refine XQ.skip (by kernel_rfl) ?_
        show XQ _ _ _ _ _ _ _ _
        refine XQ.region (by kernel_rfl) ?_
        refine XR.run E0_ok 1 3 [2, 3, 11, 12] rfl (σ' := [(2, .int .i64 c), (3, .int .i64 d), (11, .pointer (some ⟨0, 0, none⟩)), (12, .int .i64 (w64 (x12_3 + 1)))]) (h' := [(0, .cells [.int .i64 a, .int .i64 b, .int .i64 0] 0 24 0)]) (c' := 1) (by kernel_rfl) ?_
        refine XR.done (by kernel_rfl) ?_
        show XL _ _ _ _ _ _ _ _ _
        refine XL.ren (σ' := [(2, .int .i64 c), (3, .int .i64 d), (11, .pointer (some ⟨0, 0, none⟩)), (12, .int .i64 (w64 (x12_3 + 1)))]) (h' := [(0, .cells [.int .i64 a, .int .i64 b, .int .i64 0] 0 24 0)]) (c' := 1) [0] (by decide) rfl ⟨by kernel_rfl, by kernel_rfl, by kernel_rfl, by kernel_rfl, trivial⟩ ⟨⟨_, _, rfl, rfl, .inr ⟨_, _, _, _, rfl, rfl⟩⟩, trivial⟩ rfl ?_
        refine XL.conv (f44_3_ok m fuel a b c d (w64 (x12_3 + 1)) o h Q hQ) (by first | rfl | simp)
    | false =>
      have h := cF b1 h
      refine XQ.cond (s := (.tmp 48)) (b := false) (by kernel_rfl) (by kernel_rfl) (fun q => by cases q) (fun _ => ?_)
      refine XQ.ren (σ' := []) (h' := []) (c' := 0) [] (by decide) rfl trivial trivial rfl ?_
      refine XQ.exit (i := 0) (by kernel_rfl) ?_
      cases h
      exact hQ

def f44 (m : Nat) (a : Int) (b : Int) (c : Int) (d : Int) : Option (Int × Int) :=
  (f66 m a b).bind fun r1 =>
    cond (r1 == 0) (
      cond (decide (c ≥ 0)) (
        cond (!(decide (c ≤ (w64 (a - 1))))) (
          some (0, 2)
        ) (
          cond (decide (d ≥ 0)) (
            cond ((cond (!(decide (d ≤ (w64 (a - 1))))) 2 r1 : Int) == 0) (
              cond ((cond (decide (c > d)) 7 (cond (!(decide (d ≤ (w64 (a - 1))))) 2 r1) : Int) != 0) (
                some (0, cond (decide (c > d)) 7 (cond (!(decide (d ≤ (w64 (a - 1))))) 2 r1))
              ) (
                (f44_1 m m a b c d 0).bind fun o1 =>
                  match o1 with
                  | .r x8_r1 =>
                    some (x8_r1, 0)
                  | .x0 =>
                    some (0, 12)
              )
            ) (
              cond ((cond (!(decide (d ≤ (w64 (a - 1))))) 2 r1 : Int) != 0) (
                some (0, cond (!(decide (d ≤ (w64 (a - 1))))) 2 r1)
              ) (
                (f44_2 m m a b c d 0).bind fun o2 =>
                  match o2 with
                  | .r x8_r2 =>
                    some (x8_r2, 0)
                  | .x0 =>
                    some (0, 12)
              )
            )
          ) (
            some (0, 2)
          )
        )
      ) (
        some (0, 2)
      )
    ) (
      cond (r1 != 0) (
        some (0, r1)
      ) (
        (f44_3 m m a b c d 0).bind fun o3 =>
          match o3 with
          | .r x8_r3 =>
            some (x8_r3, 0)
          | .x0 =>
            some (0, 12)
      )
    )

theorem f44_ok (m : Nat) (a : Int) (b : Int) (c : Int) (d : Int) (o : Int × Int) (h : f44 m a b c d = some o) (w : World) (hI : anyInv w) : Calls Proofs.Try.prog 44 #[.int .i64 a, .int .i64 b, .int .i64 c, .int .i64 d] w fun e w' => e = .returned (.tuple #[.int .i64 o.1, .int .i64 o.2]) ∧ Below w.heap.size w w' := by
  refine KC.calls (E := E0) (args := [.int .i64 a, .int .i64 b, .int .i64 c, .int .i64 d]) (v := .tuple #[.int .i64 o.1, .int .i64 o.2]) rfl rfl (KC.bodyN E0_ok (F := Proofs.Try.f44) (by kernel_rfl) (code := f44_C44) (by kernel_rfl) (nt := 58) (by kernel_rfl) (rs := [.tmp 8, .tmp 9]) (by kernel_rfl) (by kernel_rfl) (σ := [(0, .int .i64 a), (1, .int .i64 b), (2, .int .i64 c), (3, .int .i64 d)]) (by kernel_rfl) ?_) w (anyInv_size hI) hI
  unfold f44 at h
  refine XQ.seq E0_ok (by kernel_rfl) ?_
  refine XQ.region (by kernel_rfl) ?_
  refine XR.run E0_ok 1 2 [0, 1, 2, 3] rfl (σ' := [(0, .int .i64 a), (1, .int .i64 b), (2, .int .i64 c), (3, .int .i64 d)]) (h' := []) (c' := 0) (by kernel_rfl) ?_
  refine XR.done (by kernel_rfl) ?_
  show XQ _ _ _ _ _ _ _ _
  refine XQ.seq E0_ok (by kernel_rfl) ?_
  refine XQ.region (by kernel_rfl) ?_
  refine XR.run E0_ok 1 2 [0, 1, 2, 3, 13, 14] rfl (σ' := [(0, .int .i64 a), (1, .int .i64 b), (2, .int .i64 c), (3, .int .i64 d), (13, .int .i64 a), (14, .int .i64 b)]) (h' := []) (c' := 0) (by kernel_rfl) ?_
  obtain ⟨r1, r1_h, h⟩ := bS h
  refine XR.call E0_ok [0, 1, 2, 3, 15] rfl (K := 66) (args := [.int .i64 a, .int .i64 b]) (d := (some (path 12 15))) (by kernel_rfl) (KC.of_calls E0_ok (F := Proofs.Try.f66) (v := .int .i64 r1) (by kernel_rfl) rfl rfl (fun w hI => f66_ok m a b r1 r1_h w hI)) ?_
  rintro _ _ _ ⟨rfl, rfl, rfl⟩
  refine XR.conv (σ' := [(0, .int .i64 a), (1, .int .i64 b), (2, .int .i64 c), (3, .int .i64 d), (15, .int .i64 r1)]) (h' := []) (c' := 0) ?_ (by kernel_rfl)
  refine XR.run E0_ok 1 1 [0, 1, 2, 3, 10] rfl (σ' := [(0, .int .i64 a), (1, .int .i64 b), (2, .int .i64 c), (3, .int .i64 d), (10, .int .i64 r1)]) (h' := []) (c' := 0) (by kernel_rfl) ?_
  refine XR.done (by kernel_rfl) ?_
  show XQ _ _ _ _ _ _ _ _
  refine XQ.seq E0_ok (by kernel_rfl) ?_
  refine XQ.seq E0_ok (by kernel_rfl) ?_
  refine XQ.region (by kernel_rfl) ?_
  refine XR.run E0_ok 1 3 [0, 1, 2, 3, 10, 18] rfl (σ' := [(0, .int .i64 a), (1, .int .i64 b), (2, .int .i64 c), (3, .int .i64 d), (10, .int .i64 r1), (18, .bool (r1 == 0))]) (h' := []) (c' := 0) (by kernel_rfl) ?_
  cases b1 : (r1 == 0 : Bool) with
  | true =>
    have h := cT b1 h
    refine XR.run E0_ok 1 3 [0, 1, 2, 3, 10, 18, 19, 21] rfl (σ' := [(0, .int .i64 a), (1, .int .i64 b), (2, .int .i64 c), (3, .int .i64 d), (10, .int .i64 r1), (18, .bool true), (19, .int .i64 c), (21, .int .i64 (w64 (a - 1)))]) (h' := []) (c' := 0) (by kernel_rfl) ?_
    refine XR.callK E0_ok [0, 1, 2, 3, 10, 18, 22] rfl (K := 60) (args := [.int .i64 c, .int .i64 0, .int .i64 (w64 (a - 1))]) (d := (some (path 12 22))) (by kernel_rfl) ?_
    refine KC.bodyN E0_ok (F := Proofs.Try.f60) (by kernel_rfl) (code := f44_C60) (by kernel_rfl) (nt := 15) (by kernel_rfl) (rs := [.tmp 6]) (by kernel_rfl) (by kernel_rfl) (σ := [(0, .int .i64 c), (1, .int .i64 0), (2, .int .i64 (w64 (a - 1)))]) (by kernel_rfl) ?_
    refine XQ.seq E0_ok (by kernel_rfl) ?_
    refine XQ.region (by kernel_rfl) ?_
    refine XR.run E0_ok 1 1 [0, 1, 2] rfl (σ' := [(0, .int .i64 c), (1, .int .i64 0), (2, .int .i64 (w64 (a - 1)))]) (h' := []) (c' := 0) (by kernel_rfl) ?_
    refine XR.done (by kernel_rfl) ?_
    show XQ _ _ _ _ _ _ _ _
    refine XQ.seq E0_ok (by kernel_rfl) ?_
    refine XQ.region (by kernel_rfl) ?_
    refine XR.run E0_ok 1 4 [0, 2, 10] rfl (σ' := [(0, .int .i64 c), (2, .int .i64 (w64 (a - 1))), (10, .bool (decide (c ≥ 0)))]) (h' := []) (c' := 0) (by kernel_rfl) ?_
    cases b2 : (decide (c ≥ 0) : Bool) with
    | true =>
      have h := cT b2 h
      refine XR.run E0_ok 1 5 [6] rfl (σ' := [(6, .bool (decide (c ≤ (w64 (a - 1)))))]) (h' := []) (c' := 0) (by kernel_rfl) ?_
      refine XR.done (by kernel_rfl) ?_
      show XQ _ _ _ _ _ _ _ _
      refine XQ.ret (by kernel_rfl) ?_
      refine ⟨fun i q => (by cases q), .bool (decide (c ≤ (w64 (a - 1)))), (by kernel_rfl), ?_⟩
      refine XR.conv (σ' := [(0, .int .i64 a), (1, .int .i64 b), (2, .int .i64 c), (3, .int .i64 d), (10, .int .i64 r1), (18, .bool true), (22, .bool (decide (c ≤ (w64 (a - 1)))))]) (h' := []) (c' := 0) ?_ (by kernel_rfl)
      refine XR.run E0_ok 1 2 [0, 1, 2, 3, 10, 18, 24] rfl (σ' := [(0, .int .i64 a), (1, .int .i64 b), (2, .int .i64 c), (3, .int .i64 d), (10, .int .i64 r1), (18, .bool true), (24, .bool (!(decide (c ≤ (w64 (a - 1))))))]) (h' := []) (c' := 0) (by kernel_rfl) ?_
      cases b3 : (!(decide (c ≤ (w64 (a - 1)))) : Bool) with
      | true =>
        have h := cT b3 h
        refine XR.run E0_ok 1 7 [0, 1, 2, 3, 10, 31] rfl (σ' := [(0, .int .i64 a), (1, .int .i64 b), (2, .int .i64 c), (3, .int .i64 d), (10, .int .i64 r1), (31, .bool true)]) (h' := []) (c' := 0) (by kernel_rfl) ?_
        refine XR.done (by kernel_rfl) ?_
        show XQ _ _ _ _ _ _ _ _
        refine XQ.cond (s := (.tmp 31)) (b := true) (by kernel_rfl) (by kernel_rfl) (fun _ => ?_) (fun q => by cases q)
        refine XQ.region (by kernel_rfl) ?_
        refine XR.run E0_ok 1 1 [0, 1, 2, 3, 10] rfl (σ' := [(0, .int .i64 a), (1, .int .i64 b), (2, .int .i64 c), (3, .int .i64 d), (10, .int .i64 2)]) (h' := []) (c' := 0) (by kernel_rfl) ?_
        refine XR.done (by kernel_rfl) ?_
        show XQ _ _ _ _ _ _ _ _
        refine XQ.seq E0_ok (by kernel_rfl) ?_
        refine XQ.seq E0_ok (by kernel_rfl) ?_
        refine XQ.region (by kernel_rfl) ?_
        refine XR.run E0_ok 1 7 [0, 1, 2, 3, 10, 38] rfl (σ' := [(0, .int .i64 a), (1, .int .i64 b), (2, .int .i64 c), (3, .int .i64 d), (10, .int .i64 2), (38, .bool false)]) (h' := []) (c' := 0) (by kernel_rfl) ?_
        refine XR.done (by kernel_rfl) ?_
        show XQ _ _ _ _ _ _ _ _
        refine XQ.cond (s := (.tmp 38)) (b := false) (by kernel_rfl) (by kernel_rfl) (fun q => by cases q) (fun _ => ?_)
        refine XQ.skip (by kernel_rfl) ?_
        show XQ _ _ _ _ _ _ _ _
        refine XQ.seq E0_ok (by kernel_rfl) ?_
        refine XQ.seq E0_ok (by kernel_rfl) ?_
        refine XQ.region (by kernel_rfl) ?_
        refine XR.run E0_ok 1 2 [0, 1, 2, 3, 10, 40] rfl (σ' := [(0, .int .i64 a), (1, .int .i64 b), (2, .int .i64 c), (3, .int .i64 d), (10, .int .i64 2), (40, .bool true)]) (h' := []) (c' := 0) (by kernel_rfl) ?_
        refine XR.done (by kernel_rfl) ?_
        show XQ _ _ _ _ _ _ _ _
        refine XQ.cond (s := (.tmp 40)) (b := true) (by kernel_rfl) (by kernel_rfl) (fun _ => ?_) (fun q => by cases q)
        refine XQ.seq E0_ok (by kernel_rfl) ?_
        refine XQ.region (by kernel_rfl) ?_
        refine XR.run E0_ok 1 3 [8, 9] rfl (σ' := [(8, .int .i64 0), (9, .int .i64 2)]) (h' := []) (c' := 0) (by kernel_rfl) ?_
        refine XR.done (by kernel_rfl) ?_
        show XQ _ _ _ _ _ _ _ _
        refine XQ.ret (by kernel_rfl) ?_
        have h := Option.some.inj h
        subst h
        exact ⟨fun i q => (by cases q), .tuple #[.int .i64 0, .int .i64 2], (by kernel_rfl), rfl⟩
      | false =>
        have h := cF b3 h
        refine XR.run E0_ok 1 3 [0, 1, 2, 3, 10, 18, 24, 25, 27] rfl (σ' := [(0, .int .i64 a), (1, .int .i64 b), (2, .int .i64 c), (3, .int .i64 d), (10, .int .i64 r1), (18, .bool true), (24, .bool false), (25, .int .i64 d), (27, .int .i64 (w64 (a - 1)))]) (h' := []) (c' := 0) (by kernel_rfl) ?_
        refine XR.callK E0_ok [0, 1, 2, 3, 10, 18, 24, 28] rfl (K := 60) (args := [.int .i64 d, .int .i64 0, .int .i64 (w64 (a - 1))]) (d := (some (path 12 28))) (by kernel_rfl) ?_
        refine KC.bodyN E0_ok (F := Proofs.Try.f60) (by kernel_rfl) (code := f44_C60) (by kernel_rfl) (nt := 15) (by kernel_rfl) (rs := [.tmp 6]) (by kernel_rfl) (by kernel_rfl) (σ := [(0, .int .i64 d), (1, .int .i64 0), (2, .int .i64 (w64 (a - 1)))]) (by kernel_rfl) ?_
        refine XQ.seq E0_ok (by kernel_rfl) ?_
        refine XQ.region (by kernel_rfl) ?_
        refine XR.run E0_ok 1 1 [0, 1, 2] rfl (σ' := [(0, .int .i64 d), (1, .int .i64 0), (2, .int .i64 (w64 (a - 1)))]) (h' := []) (c' := 0) (by kernel_rfl) ?_
        refine XR.done (by kernel_rfl) ?_
        show XQ _ _ _ _ _ _ _ _
        refine XQ.seq E0_ok (by kernel_rfl) ?_
        refine XQ.region (by kernel_rfl) ?_
        refine XR.run E0_ok 1 4 [0, 2, 10] rfl (σ' := [(0, .int .i64 d), (2, .int .i64 (w64 (a - 1))), (10, .bool (decide (d ≥ 0)))]) (h' := []) (c' := 0) (by kernel_rfl) ?_
        cases b4 : (decide (d ≥ 0) : Bool) with
        | true =>
          have h := cT b4 h
          refine XR.run E0_ok 1 5 [6] rfl (σ' := [(6, .bool (decide (d ≤ (w64 (a - 1)))))]) (h' := []) (c' := 0) (by kernel_rfl) ?_
          refine XR.done (by kernel_rfl) ?_
          show XQ _ _ _ _ _ _ _ _
          refine XQ.ret (by kernel_rfl) ?_
          refine ⟨fun i q => (by cases q), .bool (decide (d ≤ (w64 (a - 1)))), (by kernel_rfl), ?_⟩
          refine XR.conv (σ' := [(0, .int .i64 a), (1, .int .i64 b), (2, .int .i64 c), (3, .int .i64 d), (10, .int .i64 r1), (18, .bool true), (24, .bool false), (28, .bool (decide (d ≤ (w64 (a - 1)))))]) (h' := []) (c' := 0) ?_ (by kernel_rfl)
          refine XR.run E0_ok 1 3 [0, 1, 2, 3, 10, 31] rfl (σ' := [(0, .int .i64 a), (1, .int .i64 b), (2, .int .i64 c), (3, .int .i64 d), (10, .int .i64 r1), (31, .bool (!(decide (d ≤ (w64 (a - 1))))))]) (h' := []) (c' := 0) (by kernel_rfl) ?_
          refine XR.done (by kernel_rfl) ?_
          show XQ _ _ _ _ _ _ _ _
          refine XQ.meetC (σ' := [(0, .int .i64 a), (1, .int .i64 b), (2, .int .i64 c), (3, .int .i64 d), (10, .int .i64 (cond (!(decide (d ≤ (w64 (a - 1))))) 2 r1))]) (h' := []) (c' := 0) ?_ ?_
          rotate_left
          · refine XQ.cond (s := (.tmp 31)) (b := !(decide (d ≤ (w64 (a - 1))))) (by kernel_rfl) (by kernel_rfl) (fun b5 => ?_) (fun b5 => ?_)
            · refine XQ.region (by kernel_rfl) ?_
              refine XR.run E0_ok 1 1 [0, 1, 2, 3, 10] rfl (σ' := [(0, .int .i64 a), (1, .int .i64 b), (2, .int .i64 c), (3, .int .i64 d), (10, .int .i64 2)]) (h' := []) (c' := 0) (by kernel_rfl) ?_
              refine XR.done (by kernel_rfl) ?_
              refine ⟨rfl, ?_, ?_⟩
              · try rw [b5]
                exact ⟨by kernel_rfl, by kernel_rfl, by kernel_rfl, by kernel_rfl, by kernel_rfl, trivial⟩
              · try rw [b5]
                kernel_rfl
            · refine XQ.skip (by kernel_rfl) ?_
              refine ⟨rfl, ?_, ?_⟩
              · try rw [b5]
                exact ⟨by kernel_rfl, by kernel_rfl, by kernel_rfl, by kernel_rfl, by kernel_rfl, trivial⟩
              · try rw [b5]
                kernel_rfl
          show XQ _ _ _ _ _ _ _ _
          refine XQ.seq E0_ok (by kernel_rfl) ?_
          refine XQ.seq E0_ok (by kernel_rfl) ?_
          refine XQ.region (by kernel_rfl) ?_
          refine XR.run E0_ok 1 3 [0, 1, 2, 3, 10, 34] rfl (σ' := [(0, .int .i64 a), (1, .int .i64 b), (2, .int .i64 c), (3, .int .i64 d), (10, .int .i64 (cond (!(decide (d ≤ (w64 (a - 1))))) 2 r1)), (34, .bool ((cond (!(decide (d ≤ (w64 (a - 1))))) 2 r1 : Int) == 0))]) (h' := []) (c' := 0) (by kernel_rfl) ?_
          cases b6 : ((cond (!(decide (d ≤ (w64 (a - 1))))) 2 r1 : Int) == 0 : Bool) with
          | true =>
            have h := cT b6 h
            refine XR.run E0_ok 1 4 [0, 1, 2, 3, 10, 38] rfl (σ' := [(0, .int .i64 a), (1, .int .i64 b), (2, .int .i64 c), (3, .int .i64 d), (10, .int .i64 (cond (!(decide (d ≤ (w64 (a - 1))))) 2 r1)), (38, .bool (decide (c > d)))]) (h' := []) (c' := 0) (by kernel_rfl) ?_
            refine XR.done (by kernel_rfl) ?_
            show XQ _ _ _ _ _ _ _ _
            refine XQ.meetC (σ' := [(0, .int .i64 a), (1, .int .i64 b), (2, .int .i64 c), (3, .int .i64 d), (10, .int .i64 (cond (decide (c > d)) 7 (cond (!(decide (d ≤ (w64 (a - 1))))) 2 r1)))]) (h' := []) (c' := 0) ?_ ?_
            rotate_left
            · refine XQ.cond (s := (.tmp 38)) (b := decide (c > d)) (by kernel_rfl) (by kernel_rfl) (fun b7 => ?_) (fun b7 => ?_)
              · refine XQ.region (by kernel_rfl) ?_
                refine XR.run E0_ok 1 1 [0, 1, 2, 3, 10] rfl (σ' := [(0, .int .i64 a), (1, .int .i64 b), (2, .int .i64 c), (3, .int .i64 d), (10, .int .i64 7)]) (h' := []) (c' := 0) (by kernel_rfl) ?_
                refine XR.done (by kernel_rfl) ?_
                refine ⟨rfl, ?_, ?_⟩
                · try rw [b7]
                  exact ⟨by kernel_rfl, by kernel_rfl, by kernel_rfl, by kernel_rfl, by kernel_rfl, trivial⟩
                · try rw [b7]
                  kernel_rfl
              · refine XQ.skip (by kernel_rfl) ?_
                refine ⟨rfl, ?_, ?_⟩
                · try rw [b7]
                  exact ⟨by kernel_rfl, by kernel_rfl, by kernel_rfl, by kernel_rfl, by kernel_rfl, trivial⟩
                · try rw [b7]
                  kernel_rfl
            show XQ _ _ _ _ _ _ _ _
            refine XQ.seq E0_ok (by kernel_rfl) ?_
            refine XQ.seq E0_ok (by kernel_rfl) ?_
            refine XQ.region (by kernel_rfl) ?_
            refine XR.run E0_ok 1 2 [0, 1, 2, 3, 10, 40] rfl (σ' := [(0, .int .i64 a), (1, .int .i64 b), (2, .int .i64 c), (3, .int .i64 d), (10, .int .i64 (cond (decide (c > d)) 7 (cond (!(decide (d ≤ (w64 (a - 1))))) 2 r1))), (40, .bool ((cond (decide (c > d)) 7 (cond (!(decide (d ≤ (w64 (a - 1))))) 2 r1) : Int) != 0))]) (h' := []) (c' := 0) (by kernel_rfl) ?_
            refine XR.done (by kernel_rfl) ?_
            show XQ _ _ _ _ _ _ _ _
            cases b8 : ((cond (decide (c > d)) 7 (cond (!(decide (d ≤ (w64 (a - 1))))) 2 r1) : Int) != 0 : Bool) with
            | true =>
              have h := cT b8 h
              refine XQ.cond (s := (.tmp 40)) (b := true) (by kernel_rfl) (by kernel_rfl) (fun _ => ?_) (fun q => by cases q)
              refine XQ.seq E0_ok (by kernel_rfl) ?_
              refine XQ.region (by kernel_rfl) ?_
              refine XR.run E0_ok 1 3 [8, 9] rfl (σ' := [(8, .int .i64 0), (9, .int .i64 (cond (decide (c > d)) 7 (cond (!(decide (d ≤ (w64 (a - 1))))) 2 r1)))]) (h' := []) (c' := 0) (by kernel_rfl) ?_
              refine XR.done (by kernel_rfl) ?_
              show XQ _ _ _ _ _ _ _ _
              refine XQ.ret (by kernel_rfl) ?_
              have h := Option.some.inj h
              subst h
              exact ⟨fun i q => (by cases q), .tuple #[.int .i64 0, .int .i64 (cond (decide (c > d)) 7 (cond (!(decide (d ≤ (w64 (a - 1))))) 2 r1))], (by kernel_rfl), rfl⟩
            | false =>
              have h := cF b8 h
              refine XQ.cond (s := (.tmp 40)) (b := false) (by kernel_rfl) (by kernel_rfl) (fun q => by cases q) (fun _ => ?_)
              refine XQ.skip (by kernel_rfl) ?_
              show XQ _ _ _ _ _ _ _ _
              refine XQ.seq E0_ok (by kernel_rfl) ?_
              refine XQ.region (by kernel_rfl) ?_
              refine XR.run E0_ok 1 5 [2, 3, 11] rfl (σ' := [(2, .int .i64 c), (3, .int .i64 d), (11, .pointer (some ⟨0, 0, none⟩))]) (h' := [(0, .cells [.int .i64 a, .int .i64 b, .int .i64 0] 0 24 0)]) (c' := 1) (by kernel_rfl) ?_
              refine XR.done (by kernel_rfl) ?_
              show XQ _ _ _ _ _ _ _ _
              refine XQ.seq E0_ok (by kernel_rfl) ?_
              refine XQ.seq E0_ok (by kernel_rfl) ?_
              refine XQ.region (by kernel_rfl) ?_
              refine XR.run E0_ok 1 1 [2, 3, 11, 12] rfl (σ' := [(2, .int .i64 c), (3, .int .i64 d), (11, .pointer (some ⟨0, 0, none⟩)), (12, .int .i64 0)]) (h' := [(0, .cells [.int .i64 a, .int .i64 b, .int .i64 0] 0 24 0)]) (c' := 1) (by kernel_rfl) ?_
              refine XR.done (by kernel_rfl) ?_
              show XQ _ _ _ _ _ _ _ _
              refine XQ.block (id := 0) (by kernel_rfl) ?_
              refine XQ.loop m (by kernel_rfl) ?_
              obtain ⟨o1, o1_h, h⟩ := bS h
              refine XL.ren (σ' := [(2, .int .i64 c), (3, .int .i64 d), (11, .pointer (some ⟨0, 0, none⟩)), (12, .int .i64 0)]) (h' := [(0, .cells [.int .i64 a, .int .i64 b, .int .i64 0] 0 24 0)]) (c' := 1) [0] (by decide) rfl ⟨by kernel_rfl, by kernel_rfl, by kernel_rfl, by kernel_rfl, trivial⟩ ⟨⟨_, _, rfl, rfl, .inr ⟨_, _, _, _, rfl, rfl⟩⟩, trivial⟩ rfl ?_
              cases o1 with
              | r x8_r1 =>
                dsimp only at h
                refine XL.conv (f44_1_ok m m a b c d 0 (.r x8_r1) o1_h _ ?_) (by first | rfl | simp)
                have h := Option.some.inj h
                subst h
                exact ⟨fun i q => (by cases q), .tuple #[.int .i64 x8_r1, .int .i64 0], (by kernel_rfl), rfl⟩
              | x0 =>
                dsimp only at h
                refine XL.conv (f44_1_ok m m a b c d 0 (.x0) o1_h _ ?_) (by first | rfl | simp)
                show XQ _ _ _ _ _ _ _ _
                refine XQ.seq E0_ok (by kernel_rfl) ?_
                refine XQ.region (by kernel_rfl) ?_
                refine XR.run E0_ok 1 2 [8, 9] rfl (σ' := [(8, .int .i64 0), (9, .int .i64 12)]) (h' := []) (c' := 0) (by kernel_rfl) ?_
                refine XR.done (by kernel_rfl) ?_
                show XQ _ _ _ _ _ _ _ _
                refine XQ.ret (by kernel_rfl) ?_
                have h := Option.some.inj h
                subst h
                exact ⟨fun i q => (by cases q), .tuple #[.int .i64 0, .int .i64 12], (by kernel_rfl), rfl⟩
          | false =>
            have h := cF b6 h
            refine XR.run E0_ok 1 4 [0, 1, 2, 3, 10, 38] rfl (σ' := [(0, .int .i64 a), (1, .int .i64 b), (2, .int .i64 c), (3, .int .i64 d), (10, .int .i64 (cond (!(decide (d ≤ (w64 (a - 1))))) 2 r1)), (38, .bool false)]) (h' := []) (c' := 0) (by kernel_rfl) ?_
            refine XR.done (by kernel_rfl) ?_
            show XQ _ _ _ _ _ _ _ _
            refine XQ.cond (s := (.tmp 38)) (b := false) (by kernel_rfl) (by kernel_rfl) (fun q => by cases q) (fun _ => ?_)
            refine XQ.skip (by kernel_rfl) ?_
            show XQ _ _ _ _ _ _ _ _
            refine XQ.seq E0_ok (by kernel_rfl) ?_
            refine XQ.seq E0_ok (by kernel_rfl) ?_
            refine XQ.region (by kernel_rfl) ?_
            refine XR.run E0_ok 1 2 [0, 1, 2, 3, 10, 40] rfl (σ' := [(0, .int .i64 a), (1, .int .i64 b), (2, .int .i64 c), (3, .int .i64 d), (10, .int .i64 (cond (!(decide (d ≤ (w64 (a - 1))))) 2 r1)), (40, .bool ((cond (!(decide (d ≤ (w64 (a - 1))))) 2 r1 : Int) != 0))]) (h' := []) (c' := 0) (by kernel_rfl) ?_
            refine XR.done (by kernel_rfl) ?_
            show XQ _ _ _ _ _ _ _ _
            cases b10 : ((cond (!(decide (d ≤ (w64 (a - 1))))) 2 r1 : Int) != 0 : Bool) with
            | true =>
              have h := cT b10 h
              refine XQ.cond (s := (.tmp 40)) (b := true) (by kernel_rfl) (by kernel_rfl) (fun _ => ?_) (fun q => by cases q)
              refine XQ.seq E0_ok (by kernel_rfl) ?_
              refine XQ.region (by kernel_rfl) ?_
              refine XR.run E0_ok 1 3 [8, 9] rfl (σ' := [(8, .int .i64 0), (9, .int .i64 (cond (!(decide (d ≤ (w64 (a - 1))))) 2 r1))]) (h' := []) (c' := 0) (by kernel_rfl) ?_
              refine XR.done (by kernel_rfl) ?_
              show XQ _ _ _ _ _ _ _ _
              refine XQ.ret (by kernel_rfl) ?_
              have h := Option.some.inj h
              subst h
              exact ⟨fun i q => (by cases q), .tuple #[.int .i64 0, .int .i64 (cond (!(decide (d ≤ (w64 (a - 1))))) 2 r1)], (by kernel_rfl), rfl⟩
            | false =>
              have h := cF b10 h
              refine XQ.cond (s := (.tmp 40)) (b := false) (by kernel_rfl) (by kernel_rfl) (fun q => by cases q) (fun _ => ?_)
              refine XQ.skip (by kernel_rfl) ?_
              show XQ _ _ _ _ _ _ _ _
              refine XQ.seq E0_ok (by kernel_rfl) ?_
              refine XQ.region (by kernel_rfl) ?_
              refine XR.run E0_ok 1 5 [2, 3, 11] rfl (σ' := [(2, .int .i64 c), (3, .int .i64 d), (11, .pointer (some ⟨0, 0, none⟩))]) (h' := [(0, .cells [.int .i64 a, .int .i64 b, .int .i64 0] 0 24 0)]) (c' := 1) (by kernel_rfl) ?_
              refine XR.done (by kernel_rfl) ?_
              show XQ _ _ _ _ _ _ _ _
              refine XQ.seq E0_ok (by kernel_rfl) ?_
              refine XQ.seq E0_ok (by kernel_rfl) ?_
              refine XQ.region (by kernel_rfl) ?_
              refine XR.run E0_ok 1 1 [2, 3, 11, 12] rfl (σ' := [(2, .int .i64 c), (3, .int .i64 d), (11, .pointer (some ⟨0, 0, none⟩)), (12, .int .i64 0)]) (h' := [(0, .cells [.int .i64 a, .int .i64 b, .int .i64 0] 0 24 0)]) (c' := 1) (by kernel_rfl) ?_
              refine XR.done (by kernel_rfl) ?_
              show XQ _ _ _ _ _ _ _ _
              refine XQ.block (id := 0) (by kernel_rfl) ?_
              refine XQ.loop m (by kernel_rfl) ?_
              obtain ⟨o2, o2_h, h⟩ := bS h
              refine XL.ren (σ' := [(2, .int .i64 c), (3, .int .i64 d), (11, .pointer (some ⟨0, 0, none⟩)), (12, .int .i64 0)]) (h' := [(0, .cells [.int .i64 a, .int .i64 b, .int .i64 0] 0 24 0)]) (c' := 1) [0] (by decide) rfl ⟨by kernel_rfl, by kernel_rfl, by kernel_rfl, by kernel_rfl, trivial⟩ ⟨⟨_, _, rfl, rfl, .inr ⟨_, _, _, _, rfl, rfl⟩⟩, trivial⟩ rfl ?_
              cases o2 with
              | r x8_r2 =>
                dsimp only at h
                refine XL.conv (f44_2_ok m m a b c d 0 (.r x8_r2) o2_h _ ?_) (by first | rfl | simp)
                have h := Option.some.inj h
                subst h
                exact ⟨fun i q => (by cases q), .tuple #[.int .i64 x8_r2, .int .i64 0], (by kernel_rfl), rfl⟩
              | x0 =>
                dsimp only at h
                refine XL.conv (f44_2_ok m m a b c d 0 (.x0) o2_h _ ?_) (by first | rfl | simp)
                show XQ _ _ _ _ _ _ _ _
                refine XQ.seq E0_ok (by kernel_rfl) ?_
                refine XQ.region (by kernel_rfl) ?_
                refine XR.run E0_ok 1 2 [8, 9] rfl (σ' := [(8, .int .i64 0), (9, .int .i64 12)]) (h' := []) (c' := 0) (by kernel_rfl) ?_
                refine XR.done (by kernel_rfl) ?_
                show XQ _ _ _ _ _ _ _ _
                refine XQ.ret (by kernel_rfl) ?_
                have h := Option.some.inj h
                subst h
                exact ⟨fun i q => (by cases q), .tuple #[.int .i64 0, .int .i64 12], (by kernel_rfl), rfl⟩
        | false =>
          have h := cF b4 h
          refine XR.run E0_ok 1 5 [6] rfl (σ' := [(6, .bool false)]) (h' := []) (c' := 0) (by kernel_rfl) ?_
          refine XR.done (by kernel_rfl) ?_
          show XQ _ _ _ _ _ _ _ _
          refine XQ.ret (by kernel_rfl) ?_
          refine ⟨fun i q => (by cases q), .bool false, (by kernel_rfl), ?_⟩
          refine XR.conv (σ' := [(0, .int .i64 a), (1, .int .i64 b), (2, .int .i64 c), (3, .int .i64 d), (10, .int .i64 r1), (18, .bool true), (24, .bool false), (28, .bool false)]) (h' := []) (c' := 0) ?_ (by kernel_rfl)
          refine XR.run E0_ok 1 3 [0, 1, 2, 3, 10, 31] rfl (σ' := [(0, .int .i64 a), (1, .int .i64 b), (2, .int .i64 c), (3, .int .i64 d), (10, .int .i64 r1), (31, .bool true)]) (h' := []) (c' := 0) (by kernel_rfl) ?_
          refine XR.done (by kernel_rfl) ?_
          show XQ _ _ _ _ _ _ _ _
          refine XQ.cond (s := (.tmp 31)) (b := true) (by kernel_rfl) (by kernel_rfl) (fun _ => ?_) (fun q => by cases q)
          refine XQ.region (by kernel_rfl) ?_
          refine XR.run E0_ok 1 1 [0, 1, 2, 3, 10] rfl (σ' := [(0, .int .i64 a), (1, .int .i64 b), (2, .int .i64 c), (3, .int .i64 d), (10, .int .i64 2)]) (h' := []) (c' := 0) (by kernel_rfl) ?_
          refine XR.done (by kernel_rfl) ?_
          show XQ _ _ _ _ _ _ _ _
          refine XQ.seq E0_ok (by kernel_rfl) ?_
          refine XQ.seq E0_ok (by kernel_rfl) ?_
          refine XQ.region (by kernel_rfl) ?_
          refine XR.run E0_ok 1 7 [0, 1, 2, 3, 10, 38] rfl (σ' := [(0, .int .i64 a), (1, .int .i64 b), (2, .int .i64 c), (3, .int .i64 d), (10, .int .i64 2), (38, .bool false)]) (h' := []) (c' := 0) (by kernel_rfl) ?_
          refine XR.done (by kernel_rfl) ?_
          show XQ _ _ _ _ _ _ _ _
          refine XQ.cond (s := (.tmp 38)) (b := false) (by kernel_rfl) (by kernel_rfl) (fun q => by cases q) (fun _ => ?_)
          refine XQ.skip (by kernel_rfl) ?_
          show XQ _ _ _ _ _ _ _ _
          refine XQ.seq E0_ok (by kernel_rfl) ?_
          refine XQ.seq E0_ok (by kernel_rfl) ?_
          refine XQ.region (by kernel_rfl) ?_
          refine XR.run E0_ok 1 2 [0, 1, 2, 3, 10, 40] rfl (σ' := [(0, .int .i64 a), (1, .int .i64 b), (2, .int .i64 c), (3, .int .i64 d), (10, .int .i64 2), (40, .bool true)]) (h' := []) (c' := 0) (by kernel_rfl) ?_
          refine XR.done (by kernel_rfl) ?_
          show XQ _ _ _ _ _ _ _ _
          refine XQ.cond (s := (.tmp 40)) (b := true) (by kernel_rfl) (by kernel_rfl) (fun _ => ?_) (fun q => by cases q)
          refine XQ.seq E0_ok (by kernel_rfl) ?_
          refine XQ.region (by kernel_rfl) ?_
          refine XR.run E0_ok 1 3 [8, 9] rfl (σ' := [(8, .int .i64 0), (9, .int .i64 2)]) (h' := []) (c' := 0) (by kernel_rfl) ?_
          refine XR.done (by kernel_rfl) ?_
          show XQ _ _ _ _ _ _ _ _
          refine XQ.ret (by kernel_rfl) ?_
          have h := Option.some.inj h
          subst h
          exact ⟨fun i q => (by cases q), .tuple #[.int .i64 0, .int .i64 2], (by kernel_rfl), rfl⟩
    | false =>
      have h := cF b2 h
      refine XR.run E0_ok 1 5 [6] rfl (σ' := [(6, .bool false)]) (h' := []) (c' := 0) (by kernel_rfl) ?_
      refine XR.done (by kernel_rfl) ?_
      show XQ _ _ _ _ _ _ _ _
      refine XQ.ret (by kernel_rfl) ?_
      refine ⟨fun i q => (by cases q), .bool false, (by kernel_rfl), ?_⟩
      refine XR.conv (σ' := [(0, .int .i64 a), (1, .int .i64 b), (2, .int .i64 c), (3, .int .i64 d), (10, .int .i64 r1), (18, .bool true), (22, .bool false)]) (h' := []) (c' := 0) ?_ (by kernel_rfl)
      refine XR.run E0_ok 1 9 [0, 1, 2, 3, 10, 31] rfl (σ' := [(0, .int .i64 a), (1, .int .i64 b), (2, .int .i64 c), (3, .int .i64 d), (10, .int .i64 r1), (31, .bool true)]) (h' := []) (c' := 0) (by kernel_rfl) ?_
      refine XR.done (by kernel_rfl) ?_
      show XQ _ _ _ _ _ _ _ _
      refine XQ.cond (s := (.tmp 31)) (b := true) (by kernel_rfl) (by kernel_rfl) (fun _ => ?_) (fun q => by cases q)
      refine XQ.region (by kernel_rfl) ?_
      refine XR.run E0_ok 1 1 [0, 1, 2, 3, 10] rfl (σ' := [(0, .int .i64 a), (1, .int .i64 b), (2, .int .i64 c), (3, .int .i64 d), (10, .int .i64 2)]) (h' := []) (c' := 0) (by kernel_rfl) ?_
      refine XR.done (by kernel_rfl) ?_
      show XQ _ _ _ _ _ _ _ _
      refine XQ.seq E0_ok (by kernel_rfl) ?_
      refine XQ.seq E0_ok (by kernel_rfl) ?_
      refine XQ.region (by kernel_rfl) ?_
      refine XR.run E0_ok 1 7 [0, 1, 2, 3, 10, 38] rfl (σ' := [(0, .int .i64 a), (1, .int .i64 b), (2, .int .i64 c), (3, .int .i64 d), (10, .int .i64 2), (38, .bool false)]) (h' := []) (c' := 0) (by kernel_rfl) ?_
      refine XR.done (by kernel_rfl) ?_
      show XQ _ _ _ _ _ _ _ _
      refine XQ.cond (s := (.tmp 38)) (b := false) (by kernel_rfl) (by kernel_rfl) (fun q => by cases q) (fun _ => ?_)
      refine XQ.skip (by kernel_rfl) ?_
      show XQ _ _ _ _ _ _ _ _
      refine XQ.seq E0_ok (by kernel_rfl) ?_
      refine XQ.seq E0_ok (by kernel_rfl) ?_
      refine XQ.region (by kernel_rfl) ?_
      refine XR.run E0_ok 1 2 [0, 1, 2, 3, 10, 40] rfl (σ' := [(0, .int .i64 a), (1, .int .i64 b), (2, .int .i64 c), (3, .int .i64 d), (10, .int .i64 2), (40, .bool true)]) (h' := []) (c' := 0) (by kernel_rfl) ?_
      refine XR.done (by kernel_rfl) ?_
      show XQ _ _ _ _ _ _ _ _
      refine XQ.cond (s := (.tmp 40)) (b := true) (by kernel_rfl) (by kernel_rfl) (fun _ => ?_) (fun q => by cases q)
      refine XQ.seq E0_ok (by kernel_rfl) ?_
      refine XQ.region (by kernel_rfl) ?_
      refine XR.run E0_ok 1 3 [8, 9] rfl (σ' := [(8, .int .i64 0), (9, .int .i64 2)]) (h' := []) (c' := 0) (by kernel_rfl) ?_
      refine XR.done (by kernel_rfl) ?_
      show XQ _ _ _ _ _ _ _ _
      refine XQ.ret (by kernel_rfl) ?_
      have h := Option.some.inj h
      subst h
      exact ⟨fun i q => (by cases q), .tuple #[.int .i64 0, .int .i64 2], (by kernel_rfl), rfl⟩
  | false =>
    have h := cF b1 h
    refine XR.run E0_ok 1 13 [0, 1, 2, 3, 10, 31] rfl (σ' := [(0, .int .i64 a), (1, .int .i64 b), (2, .int .i64 c), (3, .int .i64 d), (10, .int .i64 r1), (31, .bool false)]) (h' := []) (c' := 0) (by kernel_rfl) ?_
    refine XR.done (by kernel_rfl) ?_
    show XQ _ _ _ _ _ _ _ _
    refine XQ.cond (s := (.tmp 31)) (b := false) (by kernel_rfl) (by kernel_rfl) (fun q => by cases q) (fun _ => ?_)
    refine XQ.skip (by kernel_rfl) ?_
    show XQ _ _ _ _ _ _ _ _
    refine XQ.seq E0_ok (by kernel_rfl) ?_
    refine XQ.seq E0_ok (by kernel_rfl) ?_
    refine XQ.region (by kernel_rfl) ?_
    refine XR.run E0_ok 1 3 [0, 1, 2, 3, 10, 34] rfl (σ' := [(0, .int .i64 a), (1, .int .i64 b), (2, .int .i64 c), (3, .int .i64 d), (10, .int .i64 r1), (34, .bool (r1 == 0))]) (h' := []) (c' := 0) (by kernel_rfl) ?_
    rw [b1]
    refine XR.run E0_ok 1 4 [0, 1, 2, 3, 10, 38] rfl (σ' := [(0, .int .i64 a), (1, .int .i64 b), (2, .int .i64 c), (3, .int .i64 d), (10, .int .i64 r1), (38, .bool false)]) (h' := []) (c' := 0) (by kernel_rfl) ?_
    refine XR.done (by kernel_rfl) ?_
    show XQ _ _ _ _ _ _ _ _
    refine XQ.cond (s := (.tmp 38)) (b := false) (by kernel_rfl) (by kernel_rfl) (fun q => by cases q) (fun _ => ?_)
    refine XQ.skip (by kernel_rfl) ?_
    show XQ _ _ _ _ _ _ _ _
    refine XQ.seq E0_ok (by kernel_rfl) ?_
    refine XQ.seq E0_ok (by kernel_rfl) ?_
    refine XQ.region (by kernel_rfl) ?_
    refine XR.run E0_ok 1 2 [0, 1, 2, 3, 10, 40] rfl (σ' := [(0, .int .i64 a), (1, .int .i64 b), (2, .int .i64 c), (3, .int .i64 d), (10, .int .i64 r1), (40, .bool (r1 != 0))]) (h' := []) (c' := 0) (by kernel_rfl) ?_
    refine XR.done (by kernel_rfl) ?_
    show XQ _ _ _ _ _ _ _ _
    cases b12 : (r1 != 0 : Bool) with
    | true =>
      have h := cT b12 h
      refine XQ.cond (s := (.tmp 40)) (b := true) (by kernel_rfl) (by kernel_rfl) (fun _ => ?_) (fun q => by cases q)
      refine XQ.seq E0_ok (by kernel_rfl) ?_
      refine XQ.region (by kernel_rfl) ?_
      refine XR.run E0_ok 1 3 [8, 9] rfl (σ' := [(8, .int .i64 0), (9, .int .i64 r1)]) (h' := []) (c' := 0) (by kernel_rfl) ?_
      refine XR.done (by kernel_rfl) ?_
      show XQ _ _ _ _ _ _ _ _
      refine XQ.ret (by kernel_rfl) ?_
      have h := Option.some.inj h
      subst h
      exact ⟨fun i q => (by cases q), .tuple #[.int .i64 0, .int .i64 r1], (by kernel_rfl), rfl⟩
    | false =>
      have h := cF b12 h
      refine XQ.cond (s := (.tmp 40)) (b := false) (by kernel_rfl) (by kernel_rfl) (fun q => by cases q) (fun _ => ?_)
      refine XQ.skip (by kernel_rfl) ?_
      show XQ _ _ _ _ _ _ _ _
      refine XQ.seq E0_ok (by kernel_rfl) ?_
      refine XQ.region (by kernel_rfl) ?_
      refine XR.run E0_ok 1 5 [2, 3, 11] rfl (σ' := [(2, .int .i64 c), (3, .int .i64 d), (11, .pointer (some ⟨0, 0, none⟩))]) (h' := [(0, .cells [.int .i64 a, .int .i64 b, .int .i64 0] 0 24 0)]) (c' := 1) (by kernel_rfl) ?_
      refine XR.done (by kernel_rfl) ?_
      show XQ _ _ _ _ _ _ _ _
      refine XQ.seq E0_ok (by kernel_rfl) ?_
      refine XQ.seq E0_ok (by kernel_rfl) ?_
      refine XQ.region (by kernel_rfl) ?_
      refine XR.run E0_ok 1 1 [2, 3, 11, 12] rfl (σ' := [(2, .int .i64 c), (3, .int .i64 d), (11, .pointer (some ⟨0, 0, none⟩)), (12, .int .i64 0)]) (h' := [(0, .cells [.int .i64 a, .int .i64 b, .int .i64 0] 0 24 0)]) (c' := 1) (by kernel_rfl) ?_
      refine XR.done (by kernel_rfl) ?_
      show XQ _ _ _ _ _ _ _ _
      refine XQ.block (id := 0) (by kernel_rfl) ?_
      refine XQ.loop m (by kernel_rfl) ?_
      obtain ⟨o3, o3_h, h⟩ := bS h
      refine XL.ren (σ' := [(2, .int .i64 c), (3, .int .i64 d), (11, .pointer (some ⟨0, 0, none⟩)), (12, .int .i64 0)]) (h' := [(0, .cells [.int .i64 a, .int .i64 b, .int .i64 0] 0 24 0)]) (c' := 1) [0] (by decide) rfl ⟨by kernel_rfl, by kernel_rfl, by kernel_rfl, by kernel_rfl, trivial⟩ ⟨⟨_, _, rfl, rfl, .inr ⟨_, _, _, _, rfl, rfl⟩⟩, trivial⟩ rfl ?_
      cases o3 with
      | r x8_r3 =>
        dsimp only at h
        refine XL.conv (f44_3_ok m m a b c d 0 (.r x8_r3) o3_h _ ?_) (by first | rfl | simp)
        have h := Option.some.inj h
        subst h
        exact ⟨fun i q => (by cases q), .tuple #[.int .i64 x8_r3, .int .i64 0], (by kernel_rfl), rfl⟩
      | x0 =>
        dsimp only at h
        refine XL.conv (f44_3_ok m m a b c d 0 (.x0) o3_h _ ?_) (by first | rfl | simp)
        show XQ _ _ _ _ _ _ _ _
        refine XQ.seq E0_ok (by kernel_rfl) ?_
        refine XQ.region (by kernel_rfl) ?_
        refine XR.run E0_ok 1 2 [8, 9] rfl (σ' := [(8, .int .i64 0), (9, .int .i64 12)]) (h' := []) (c' := 0) (by kernel_rfl) ?_
        refine XR.done (by kernel_rfl) ?_
        show XQ _ _ _ _ _ _ _ _
        refine XQ.ret (by kernel_rfl) ?_
        have h := Option.some.inj h
        subst h
        exact ⟨fun i q => (by cases q), .tuple #[.int .i64 0, .int .i64 12], (by kernel_rfl), rfl⟩

/-! vitola/wrap.Chain -/
noncomputable def f41_C41 : Code := Proofs.Try.f41.body.getD .skip
noncomputable def f41_L1 : Code := lft (lft (lft (rgt (rgt (rgt f41_C41)))))

def f41_1 (m : Nat) : Nat → Int → Int → List Int → Option (List Int)
  | 0, _, _, _ => none
  | fuel + 1, x0_1, x1_1, lh0_1 =>
    cond (decide (x1_1 > 0)) (
      cond (x1_1 != 0) (
        cond (fitsB (lh0_1.length + 1) 8) (
          f41_1 m fuel x1_1 (Int.tmod x0_1 x1_1) (lh0_1 ++ [w64 (Int.tdiv x0_1 x1_1)])
        ) none
      ) none
    ) (
      some (lh0_1)
    )

theorem f41_1_ok (m : Nat) : ∀ (fuel : Nat) (x0_1 : Int) (x1_1 : Int) (lh0_1 : List Int) (o : (List Int)), f41_1 m fuel x0_1 x1_1 lh0_1 = some o → ∀ Q : QP, Q (.exit 0) [(6, .slice (some ⟨0, 0, none⟩) o.length o.length)] [(0, .cells (rowC (encI .i64) o) 0 3 1)] 1 → XL E0 24 0 fuel f41_L1 [(0, .int .i64 x0_1), (1, .int .i64 x1_1), (6, .slice (some ⟨0, 0, none⟩) lh0_1.length lh0_1.length)] [(0, .cells (rowC (encI .i64) lh0_1) 0 3 1)] 1 Q
  | 0, x0_1, x1_1, lh0_1, o, h, Q, hQ => by cases h
  | fuel + 1, x0_1, x1_1, lh0_1, o, h, Q, hQ => by
    unfold f41_1 at h
    refine XL.succ E0_ok ?_
    refine XQ.seq E0_ok (by kernel_rfl) ?_
    refine XQ.seq E0_ok (by kernel_rfl) ?_
    refine XQ.region (by kernel_rfl) ?_
    refine XR.run E0_ok 1 2 [0, 1, 6, 12] rfl (σ' := [(0, .int .i64 x0_1), (1, .int .i64 x1_1), (6, .slice (some ⟨0, 0, none⟩) lh0_1.length lh0_1.length), (12, .bool (decide (x1_1 > 0)))]) (h' := [(0, .cells (rowC (encI .i64) lh0_1) 0 3 1)]) (c' := 1) (by kernel_rfl) ?_
    refine XR.done (by kernel_rfl) ?_
    show XQ _ _ _ _ _ _ _ _
    cases b1 : (decide (x1_1 > 0) : Bool) with
    | true =>
      have h := cT b1 h
      refine XQ.cond (s := (.tmp 12)) (b := true) (by kernel_rfl) (by kernel_rfl) (fun _ => ?_) (fun q => by cases q)
      refine XQ.skip (by kernel_rfl) ?_
      show XQ _ _ _ _ _ _ _ _
      refine XQ.block (id := 1) (by kernel_rfl) ?_
      refine XQ.seq E0_ok (by kernel_rfl) ?_
      refine XQ.region (by kernel_rfl) ?_
      refine XR.run E0_ok 1 3 [0, 1, 13, 14, 15] rfl (σ' := [(0, .int .i64 x0_1), (1, .int .i64 x1_1), (13, .slice (some ⟨0, 0, none⟩) lh0_1.length lh0_1.length), (14, .int .i64 x0_1), (15, .int .i64 x1_1)]) (h' := [(0, .cells (rowC (encI .i64) lh0_1) 0 3 1)]) (c' := 1) (by kernel_rfl) ?_
      cases b2 : (x1_1 != 0 : Bool) with
      | false => cases (cF b2 h)
      | true =>
        have h := cT b2 h
        have e3 : insV (headI ((gsOf E0 24 (opsOf (lft (lft (rgt f41_L1))))).drop 3) (trS 24 [(0, .int .i64 x0_1), (1, .int .i64 x1_1), (13, .slice (some ⟨0, 0, none⟩) lh0_1.length lh0_1.length), (14, .int .i64 x0_1), (15, .int .i64 x1_1)])) (trS 24 [(0, .int .i64 x0_1), (1, .int .i64 x1_1), (13, .slice (some ⟨0, 0, none⟩) lh0_1.length lh0_1.length), (14, .int .i64 x0_1), (15, .int .i64 x1_1)]) [(0, .cells (rowC (encI .i64) lh0_1) 0 3 1)] = (match (x1_1 != 0 : Bool) with | true => some (.int .i64 (w64 (Int.tdiv x0_1 x1_1))) | false => none) := by kernel_rfl
        refine XR.rd E0_ok [0, 1, 13, 16] rfl (e3.trans (by rw [b2])) (σ' := [(0, .int .i64 x0_1), (1, .int .i64 x1_1), (13, .slice (some ⟨0, 0, none⟩) lh0_1.length lh0_1.length), (16, .int .i64 (w64 (Int.tdiv x0_1 x1_1)))]) (by kernel_rfl) ?_
        refine XR.run E0_ok 1 1 [0, 1, 13, 17] rfl (σ' := [(0, .int .i64 x0_1), (1, .int .i64 x1_1), (13, .slice (some ⟨0, 0, none⟩) lh0_1.length lh0_1.length), (17, .slice (some ⟨1, 0, none⟩) 1 1)]) (h' := [(1, .cells [.int .i64 (w64 (Int.tdiv x0_1 x1_1))] 0 3 1), (0, .cells (rowC (encI .i64) lh0_1) 0 3 1)]) (c' := 2) (by kernel_rfl) ?_
        cases b4 : (fitsB (lh0_1.length + 1) 8 : Bool) with
        | false => cases (cF b4 h)
        | true =>
          have h := cT b4 h
          refine XR.ef E0_ok [0, 1, 18] rfl (e_append (encI_ok .i64) (bytes := 8) (e := 3) (x := (src 24 (.tmp 13))) (y := (src 24 (.tmp 17))) (b := 0) (len := lh0_1.length) (cap := lh0_1.length) (xs := lh0_1) (m := 0) (ys := [w64 (Int.tdiv x0_1 x1_1)]) (d := (some (path 12 18))) (n' := (lh0_1 ++ [w64 (Int.tdiv x0_1 x1_1)]).length) (h' := [(2, .cells (rowC (encI .i64) (lh0_1 ++ [w64 (Int.tdiv x0_1 x1_1)])) 0 3 1), (1, .cells [.int .i64 (w64 (Int.tdiv x0_1 x1_1))] 0 3 1)]) (by kernel_rfl) (by kernel_rfl) (by kernel_rfl) (by kernel_rfl) rfl (by simp) (by simp) b4 (by simp) (by kernel_rfl)) (σ' := [(0, .int .i64 x0_1), (1, .int .i64 x1_1), (18, .slice (some ⟨2, 0, none⟩) ((lh0_1 ++ [w64 (Int.tdiv x0_1 x1_1)]).length) ((lh0_1 ++ [w64 (Int.tdiv x0_1 x1_1)]).length))]) (by kernel_rfl) ?_
          refine XR.run E0_ok 1 1 [0, 1, 6] rfl (σ' := [(0, .int .i64 x0_1), (1, .int .i64 x1_1), (6, .slice (some ⟨2, 0, none⟩) ((lh0_1 ++ [w64 (Int.tdiv x0_1 x1_1)]).length) ((lh0_1 ++ [w64 (Int.tdiv x0_1 x1_1)]).length))]) (h' := [(2, .cells (rowC (encI .i64) (lh0_1 ++ [w64 (Int.tdiv x0_1 x1_1)])) 0 3 1), (1, .cells [.int .i64 (w64 (Int.tdiv x0_1 x1_1))] 0 3 1)]) (c' := 3) (by kernel_rfl) ?_
          refine XR.done (by kernel_rfl) ?_
          show XQ _ _ _ _ _ _ _ _
          refine XQ.quiet E0_ok (by kernel_rfl) (by kernel_rfl) ?_
          refine XU.run E0_ok 1 3 [6, 19, 20, 21] rfl (σ' := [(6, .slice (some ⟨2, 0, none⟩) ((lh0_1 ++ [w64 (Int.tdiv x0_1 x1_1)]).length) ((lh0_1 ++ [w64 (Int.tdiv x0_1 x1_1)]).length)), (19, .int .i64 x1_1), (20, .int .i64 x0_1), (21, .int .i64 x1_1)]) (by kernel_rfl) ?_
          have e5 : insV (headI ((gsOf E0 24 (opsOf (rgt (lft (rgt f41_L1))))).drop 3) (trS 24 [(6, .slice (some ⟨2, 0, none⟩) ((lh0_1 ++ [w64 (Int.tdiv x0_1 x1_1)]).length) ((lh0_1 ++ [w64 (Int.tdiv x0_1 x1_1)]).length)), (19, .int .i64 x1_1), (20, .int .i64 x0_1), (21, .int .i64 x1_1)])) (trS 24 [(6, .slice (some ⟨2, 0, none⟩) ((lh0_1 ++ [w64 (Int.tdiv x0_1 x1_1)]).length) ((lh0_1 ++ [w64 (Int.tdiv x0_1 x1_1)]).length)), (19, .int .i64 x1_1), (20, .int .i64 x0_1), (21, .int .i64 x1_1)]) [(2, .cells (rowC (encI .i64) (lh0_1 ++ [w64 (Int.tdiv x0_1 x1_1)])) 0 3 1), (1, .cells [.int .i64 (w64 (Int.tdiv x0_1 x1_1))] 0 3 1)] = (match (x1_1 != 0 : Bool) with | true => some (.int .i64 (Int.tmod x0_1 x1_1)) | false => none) := by kernel_rfl
          refine XU.rd E0_ok [6, 19, 22] rfl (e5.trans (by rw [b2])) (σ' := [(6, .slice (some ⟨2, 0, none⟩) ((lh0_1 ++ [w64 (Int.tdiv x0_1 x1_1)]).length) ((lh0_1 ++ [w64 (Int.tdiv x0_1 x1_1)]).length)), (19, .int .i64 x1_1), (22, .int .i64 (Int.tmod x0_1 x1_1))]) (by kernel_rfl) ?_
          refine XU.run E0_ok 1 2 [0, 1, 6] rfl (σ' := [(0, .int .i64 x1_1), (1, .int .i64 (Int.tmod x0_1 x1_1)), (6, .slice (some ⟨2, 0, none⟩) ((lh0_1 ++ [w64 (Int.tdiv x0_1 x1_1)]).length) ((lh0_1 ++ [w64 (Int.tdiv x0_1 x1_1)]).length))]) (by kernel_rfl) ?_
          refine XU.done (by kernel_rfl) ?_
          show XL _ _ _ _ _ _ _ _ _
          refine XL.ren (σ' := [(0, .int .i64 x1_1), (1, .int .i64 (Int.tmod x0_1 x1_1)), (6, .slice (some ⟨0, 0, none⟩) ((lh0_1 ++ [w64 (Int.tdiv x0_1 x1_1)]).length) ((lh0_1 ++ [w64 (Int.tdiv x0_1 x1_1)]).length))]) (h' := [(0, .cells (rowC (encI .i64) (lh0_1 ++ [w64 (Int.tdiv x0_1 x1_1)])) 0 3 1)]) (c' := 1) [2] (by decide) rfl ⟨by kernel_rfl, by kernel_rfl, by kernel_rfl, trivial⟩ ⟨⟨_, _, rfl, rfl, .inl ⟨rfl, rowC_scal (encI_ok .i64) _⟩⟩, trivial⟩ rfl ?_
          refine XL.conv (f41_1_ok m fuel x1_1 (Int.tmod x0_1 x1_1) (lh0_1 ++ [w64 (Int.tdiv x0_1 x1_1)]) o h Q hQ) (by first | rfl | simp)
    | false =>
      have h := cF b1 h
      refine XQ.cond (s := (.tmp 12)) (b := false) (by kernel_rfl) (by kernel_rfl) (fun q => by cases q) (fun _ => ?_)
      refine XQ.ren (σ' := [(6, .slice (some ⟨0, 0, none⟩) lh0_1.length lh0_1.length)]) (h' := [(0, .cells (rowC (encI .i64) lh0_1) 0 3 1)]) (c' := 1) [0] (by decide) rfl ⟨by kernel_rfl, trivial⟩ ⟨⟨_, _, rfl, rfl, .inl ⟨rfl, rowC_scal (encI_ok .i64) _⟩⟩, trivial⟩ rfl ?_
      refine XQ.exit (i := 0) (by kernel_rfl) ?_
      cases h
      exact hQ

def f41 (m : Nat) (a : Int) (b : Int) : Option ((List Int) × Int) :=
  (f64 m a b).bind fun r1 =>
    cond (!r1) (
      some ([], 1)
    ) (
      (f41_1 m m a b []).bind fun o1 =>
        some (o1, 0)
    )

theorem f41_ok (m : Nat) (a : Int) (b : Int) (o : (List Int) × Int) (h : f41 m a b = some o) : KC E0 41 [.int .i64 a, .int .i64 b] [] 0 (fun v h' c' => v = .tuple #[.slice (some ⟨0, 0, none⟩) o.1.length o.1.length, .int .i64 o.2] ∧ h' = [(0, .cells (rowC (encI .i64) o.1) 0 3 1)] ∧ c' = 1) := by
  refine KC.bodyN E0_ok (F := Proofs.Try.f41) (by kernel_rfl) (code := f41_C41) (by kernel_rfl) (nt := 24) (by kernel_rfl) (rs := [.tmp 4, .tmp 5]) (by kernel_rfl) (by kernel_rfl) (σ := [(0, .int .i64 a), (1, .int .i64 b)]) (by kernel_rfl) ?_
  unfold f41 at h
  refine XQ.seq E0_ok (by kernel_rfl) ?_
  refine XQ.region (by kernel_rfl) ?_
  refine XR.run E0_ok 1 2 [0, 1] rfl (σ' := [(0, .int .i64 a), (1, .int .i64 b)]) (h' := []) (c' := 0) (by kernel_rfl) ?_
  refine XR.done (by kernel_rfl) ?_
  show XQ _ _ _ _ _ _ _ _
  refine XQ.seq E0_ok (by kernel_rfl) ?_
  refine XQ.seq E0_ok (by kernel_rfl) ?_
  refine XQ.region (by kernel_rfl) ?_
  refine XR.run E0_ok 1 2 [0, 1, 7, 8] rfl (σ' := [(0, .int .i64 a), (1, .int .i64 b), (7, .int .i64 a), (8, .int .i64 b)]) (h' := []) (c' := 0) (by kernel_rfl) ?_
  obtain ⟨r1, r1_h, h⟩ := bS h
  refine XR.call E0_ok [0, 1, 9] rfl (K := 64) (args := [.int .i64 a, .int .i64 b]) (d := (some (path 12 9))) (by kernel_rfl) (KC.of_calls E0_ok (F := Proofs.Try.f64) (v := .bool r1) (by kernel_rfl) rfl rfl (fun w hI => f64_ok m a b r1 r1_h w hI)) ?_
  rintro _ _ _ ⟨rfl, rfl, rfl⟩
  refine XR.conv (σ' := [(0, .int .i64 a), (1, .int .i64 b), (9, .bool r1)]) (h' := []) (c' := 0) ?_ (by kernel_rfl)
  refine XR.run E0_ok 1 1 [0, 1, 10] rfl (σ' := [(0, .int .i64 a), (1, .int .i64 b), (10, .bool (!r1))]) (h' := []) (c' := 0) (by kernel_rfl) ?_
  refine XR.done (by kernel_rfl) ?_
  show XQ _ _ _ _ _ _ _ _
  cases b1 : (!r1 : Bool) with
  | true =>
    have h := cT b1 h
    refine XQ.cond (s := (.tmp 10)) (b := true) (by kernel_rfl) (by kernel_rfl) (fun _ => ?_) (fun q => by cases q)
    refine XQ.seq E0_ok (by kernel_rfl) ?_
    refine XQ.region (by kernel_rfl) ?_
    refine XR.run E0_ok 1 2 [4, 5] rfl (σ' := [(4, .slice none 0 0), (5, .int .i64 1)]) (h' := []) (c' := 0) (by kernel_rfl) ?_
    refine XR.done (by kernel_rfl) ?_
    show XQ _ _ _ _ _ _ _ _
    refine XQ.ghost 3 1 rfl (σ' := [(4, .slice (some ⟨0, 0, none⟩) 0 0), (5, .int .i64 1)]) (h' := []) ⟨by kernel_rfl, by kernel_rfl, trivial⟩ trivial ?_
    refine XQ.conv (σ' := [(4, .slice (some ⟨0, 0, none⟩) 0 0), (5, .int .i64 1)]) (h' := [(0, .cells (rowC (encI .i64) []) 0 3 1)]) (c' := 1) ?_ (by kernel_rfl)
    refine XQ.ren (σ' := [(4, .slice (some ⟨0, 0, none⟩) 0 0), (5, .int .i64 1)]) (h' := [(0, .cells (rowC (encI .i64) []) 0 3 1)]) (c' := 1) [0] (by decide) rfl ⟨by kernel_rfl, by kernel_rfl, trivial⟩ ⟨⟨_, _, rfl, rfl, .inl ⟨rfl, rowC_scal (encI_ok .i64) _⟩⟩, trivial⟩ rfl ?_
    refine XQ.ret (by kernel_rfl) ?_
    have h := Option.some.inj h
    subst h
    exact ⟨fun i q => (by cases q), .tuple #[.slice (some ⟨0, 0, none⟩) 0 0, .int .i64 1], (by kernel_rfl), (by kernel_rfl), (by kernel_rfl), rfl⟩
  | false =>
    have h := cF b1 h
    refine XQ.cond (s := (.tmp 10)) (b := false) (by kernel_rfl) (by kernel_rfl) (fun q => by cases q) (fun _ => ?_)
    refine XQ.skip (by kernel_rfl) ?_
    show XQ _ _ _ _ _ _ _ _
    refine XQ.seq E0_ok (by kernel_rfl) ?_
    refine XQ.region (by kernel_rfl) ?_
    refine XR.run E0_ok 1 1 [0, 1, 6] rfl (σ' := [(0, .int .i64 a), (1, .int .i64 b), (6, .slice none 0 0)]) (h' := []) (c' := 0) (by kernel_rfl) ?_
    refine XR.done (by kernel_rfl) ?_
    show XQ _ _ _ _ _ _ _ _
    refine XQ.ghost 3 1 rfl (σ' := [(0, .int .i64 a), (1, .int .i64 b), (6, .slice (some ⟨0, 0, none⟩) 0 0)]) (h' := []) ⟨by kernel_rfl, by kernel_rfl, by kernel_rfl, trivial⟩ trivial ?_
    refine XQ.conv (σ' := [(0, .int .i64 a), (1, .int .i64 b), (6, .slice (some ⟨0, 0, none⟩) 0 0)]) (h' := [(0, .cells (rowC (encI .i64) []) 0 3 1)]) (c' := 1) ?_ (by kernel_rfl)
    refine XQ.seq E0_ok (by kernel_rfl) ?_
    refine XQ.block (id := 0) (by kernel_rfl) ?_
    refine XQ.loop m (by kernel_rfl) ?_
    obtain ⟨o1, o1_h, h⟩ := bS h
    refine XL.ren (σ' := [(0, .int .i64 a), (1, .int .i64 b), (6, .slice (some ⟨0, 0, none⟩) 0 0)]) (h' := [(0, .cells (rowC (encI .i64) []) 0 3 1)]) (c' := 1) [0] (by decide) rfl ⟨by kernel_rfl, by kernel_rfl, by kernel_rfl, trivial⟩ ⟨⟨_, _, rfl, rfl, .inl ⟨rfl, rowC_scal (encI_ok .i64) _⟩⟩, trivial⟩ rfl ?_
    refine XL.conv (f41_1_ok m m a b [] o1 o1_h _ ?_) (by first | rfl | simp)
    show XQ _ _ _ _ _ _ _ _
    refine XQ.seq E0_ok (by kernel_rfl) ?_
    refine XQ.region (by kernel_rfl) ?_
    refine XR.run E0_ok 1 3 [4, 5] rfl (σ' := [(4, .slice (some ⟨0, 0, none⟩) o1.length o1.length), (5, .int .i64 0)]) (h' := [(0, .cells (rowC (encI .i64) o1) 0 3 1)]) (c' := 1) (by kernel_rfl) ?_
    refine XR.done (by kernel_rfl) ?_
    show XQ _ _ _ _ _ _ _ _
    refine XQ.ren (σ' := [(4, .slice (some ⟨0, 0, none⟩) o1.length o1.length), (5, .int .i64 0)]) (h' := [(0, .cells (rowC (encI .i64) o1) 0 3 1)]) (c' := 1) [0] (by decide) rfl ⟨by kernel_rfl, by kernel_rfl, trivial⟩ ⟨⟨_, _, rfl, rfl, .inl ⟨rfl, rowC_scal (encI_ok .i64) _⟩⟩, trivial⟩ rfl ?_
    refine XQ.ret (by kernel_rfl) ?_
    have h := Option.some.inj h
    subst h
    exact ⟨fun i q => (by cases q), .tuple #[.slice (some ⟨0, 0, none⟩) o1.length o1.length, .int .i64 0], (by kernel_rfl), (by kernel_rfl), (by kernel_rfl), rfl⟩

/-! vitola/vitolaref05.Chain -/
noncomputable def f42_C42 : Code := Proofs.Try.f42.body.getD .skip
noncomputable def f42_L1 : Code := lft (lft (rgt (lft (rgt (rgt (rgt (rgt f42_C42)))))))

def f42_1 (m : Nat) : Nat → Int → Int → List Int → Option (List Int)
  | 0, _, _, _ => none
  | fuel + 1, x8_1, x9_1, lh0_1 =>
    cond (decide (x9_1 > 0)) (
      cond (x9_1 != 0) (
        cond (fitsB (lh0_1.length + 1) 8) (
          f42_1 m fuel x9_1 (Int.tmod x8_1 x9_1) (lh0_1 ++ [w64 (Int.tdiv x8_1 x9_1)])
        ) none
      ) none
    ) (
      some (lh0_1)
    )

theorem f42_1_ok (m : Nat) : ∀ (fuel : Nat) (x8_1 : Int) (x9_1 : Int) (lh0_1 : List Int) (o : (List Int)), f42_1 m fuel x8_1 x9_1 lh0_1 = some o → ∀ Q : QP, Q (.exit 0) [(7, .slice (some ⟨0, 0, none⟩) o.length o.length)] [(0, .cells (rowC (encI .i64) o) 0 3 1)] 1 → XL E0 31 0 fuel f42_L1 [(7, .slice (some ⟨0, 0, none⟩) lh0_1.length lh0_1.length), (8, .int .i64 x8_1), (9, .int .i64 x9_1)] [(0, .cells (rowC (encI .i64) lh0_1) 0 3 1)] 1 Q
  | 0, x8_1, x9_1, lh0_1, o, h, Q, hQ => by cases h
  | fuel + 1, x8_1, x9_1, lh0_1, o, h, Q, hQ => by
    unfold f42_1 at h
    refine XL.succ E0_ok ?_
    refine XQ.seq E0_ok (by kernel_rfl) ?_
    refine XQ.seq E0_ok (by kernel_rfl) ?_
    refine XQ.region (by kernel_rfl) ?_
    refine XR.run E0_ok 1 2 [7, 8, 9, 19] rfl (σ' := [(7, .slice (some ⟨0, 0, none⟩) lh0_1.length lh0_1.length), (8, .int .i64 x8_1), (9, .int .i64 x9_1), (19, .bool (decide (x9_1 > 0)))]) (h' := [(0, .cells (rowC (encI .i64) lh0_1) 0 3 1)]) (c' := 1) (by kernel_rfl) ?_
    refine XR.done (by kernel_rfl) ?_
    show XQ _ _ _ _ _ _ _ _
    cases b1 : (decide (x9_1 > 0) : Bool) with
    | true =>
      have h := cT b1 h
      refine XQ.cond (s := (.tmp 19)) (b := true) (by kernel_rfl) (by kernel_rfl) (fun _ => ?_) (fun q => by cases q)
      refine XQ.skip (by kernel_rfl) ?_
      show XQ _ _ _ _ _ _ _ _
      refine XQ.seq E0_ok (by kernel_rfl) ?_
      refine XQ.block (id := 1) (by kernel_rfl) ?_
      refine XQ.region (by kernel_rfl) ?_
      refine XR.run E0_ok 1 3 [8, 9, 24, 25, 26] rfl (σ' := [(8, .int .i64 x8_1), (9, .int .i64 x9_1), (24, .slice (some ⟨0, 0, none⟩) lh0_1.length lh0_1.length), (25, .int .i64 x8_1), (26, .int .i64 x9_1)]) (h' := [(0, .cells (rowC (encI .i64) lh0_1) 0 3 1)]) (c' := 1) (by kernel_rfl) ?_
      cases b2 : (x9_1 != 0 : Bool) with
      | false => cases (cF b2 h)
      | true =>
        have h := cT b2 h
        have e3 : insV (headI ((gsOf E0 31 (opsOf (lft (lft (rgt f42_L1))))).drop 3) (trS 31 [(8, .int .i64 x8_1), (9, .int .i64 x9_1), (24, .slice (some ⟨0, 0, none⟩) lh0_1.length lh0_1.length), (25, .int .i64 x8_1), (26, .int .i64 x9_1)])) (trS 31 [(8, .int .i64 x8_1), (9, .int .i64 x9_1), (24, .slice (some ⟨0, 0, none⟩) lh0_1.length lh0_1.length), (25, .int .i64 x8_1), (26, .int .i64 x9_1)]) [(0, .cells (rowC (encI .i64) lh0_1) 0 3 1)] = (match (x9_1 != 0 : Bool) with | true => some (.int .i64 (w64 (Int.tdiv x8_1 x9_1))) | false => none) := by kernel_rfl
        refine XR.rd E0_ok [8, 9, 24, 27] rfl (e3.trans (by rw [b2])) (σ' := [(8, .int .i64 x8_1), (9, .int .i64 x9_1), (24, .slice (some ⟨0, 0, none⟩) lh0_1.length lh0_1.length), (27, .int .i64 (w64 (Int.tdiv x8_1 x9_1)))]) (by kernel_rfl) ?_
        refine XR.run E0_ok 1 1 [8, 9, 24, 28] rfl (σ' := [(8, .int .i64 x8_1), (9, .int .i64 x9_1), (24, .slice (some ⟨0, 0, none⟩) lh0_1.length lh0_1.length), (28, .slice (some ⟨1, 0, none⟩) 1 1)]) (h' := [(1, .cells [.int .i64 (w64 (Int.tdiv x8_1 x9_1))] 0 3 1), (0, .cells (rowC (encI .i64) lh0_1) 0 3 1)]) (c' := 2) (by kernel_rfl) ?_
        cases b4 : (fitsB (lh0_1.length + 1) 8 : Bool) with
        | false => cases (cF b4 h)
        | true =>
          have h := cT b4 h
          refine XR.ef E0_ok [8, 9, 29] rfl (e_append (encI_ok .i64) (bytes := 8) (e := 3) (x := (src 31 (.tmp 24))) (y := (src 31 (.tmp 28))) (b := 0) (len := lh0_1.length) (cap := lh0_1.length) (xs := lh0_1) (m := 0) (ys := [w64 (Int.tdiv x8_1 x9_1)]) (d := (some (path 12 29))) (n' := (lh0_1 ++ [w64 (Int.tdiv x8_1 x9_1)]).length) (h' := [(2, .cells (rowC (encI .i64) (lh0_1 ++ [w64 (Int.tdiv x8_1 x9_1)])) 0 3 1), (1, .cells [.int .i64 (w64 (Int.tdiv x8_1 x9_1))] 0 3 1)]) (by kernel_rfl) (by kernel_rfl) (by kernel_rfl) (by kernel_rfl) rfl (by simp) (by simp) b4 (by simp) (by kernel_rfl)) (σ' := [(8, .int .i64 x8_1), (9, .int .i64 x9_1), (29, .slice (some ⟨2, 0, none⟩) ((lh0_1 ++ [w64 (Int.tdiv x8_1 x9_1)]).length) ((lh0_1 ++ [w64 (Int.tdiv x8_1 x9_1)]).length))]) (by kernel_rfl) ?_
          refine XR.run E0_ok 1 1 [7, 8, 9] rfl (σ' := [(7, .slice (some ⟨2, 0, none⟩) ((lh0_1 ++ [w64 (Int.tdiv x8_1 x9_1)]).length) ((lh0_1 ++ [w64 (Int.tdiv x8_1 x9_1)]).length)), (8, .int .i64 x8_1), (9, .int .i64 x9_1)]) (h' := [(2, .cells (rowC (encI .i64) (lh0_1 ++ [w64 (Int.tdiv x8_1 x9_1)])) 0 3 1), (1, .cells [.int .i64 (w64 (Int.tdiv x8_1 x9_1))] 0 3 1)]) (c' := 3) (by kernel_rfl) ?_
          refine XR.done (by kernel_rfl) ?_
          show XQ _ _ _ _ _ _ _ _
          refine XQ.quiet E0_ok (by kernel_rfl) (by kernel_rfl) ?_
          refine XU.run E0_ok 1 3 [7, 20, 21, 22] rfl (σ' := [(7, .slice (some ⟨2, 0, none⟩) ((lh0_1 ++ [w64 (Int.tdiv x8_1 x9_1)]).length) ((lh0_1 ++ [w64 (Int.tdiv x8_1 x9_1)]).length)), (20, .int .i64 x9_1), (21, .int .i64 x8_1), (22, .int .i64 x9_1)]) (by kernel_rfl) ?_
          have e5 : insV (headI ((gsOf E0 31 (opsOf (rgt (rgt f42_L1)))).drop 3) (trS 31 [(7, .slice (some ⟨2, 0, none⟩) ((lh0_1 ++ [w64 (Int.tdiv x8_1 x9_1)]).length) ((lh0_1 ++ [w64 (Int.tdiv x8_1 x9_1)]).length)), (20, .int .i64 x9_1), (21, .int .i64 x8_1), (22, .int .i64 x9_1)])) (trS 31 [(7, .slice (some ⟨2, 0, none⟩) ((lh0_1 ++ [w64 (Int.tdiv x8_1 x9_1)]).length) ((lh0_1 ++ [w64 (Int.tdiv x8_1 x9_1)]).length)), (20, .int .i64 x9_1), (21, .int .i64 x8_1), (22, .int .i64 x9_1)]) [(2, .cells (rowC (encI .i64) (lh0_1 ++ [w64 (Int.tdiv x8_1 x9_1)])) 0 3 1), (1, .cells [.int .i64 (w64 (Int.tdiv x8_1 x9_1))] 0 3 1)] = (match (x9_1 != 0 : Bool) with | true => some (.int .i64 (Int.tmod x8_1 x9_1)) | false => none) := by kernel_rfl
          refine XU.rd E0_ok [7, 20, 23] rfl (e5.trans (by rw [b2])) (σ' := [(7, .slice (some ⟨2, 0, none⟩) ((lh0_1 ++ [w64 (Int.tdiv x8_1 x9_1)]).length) ((lh0_1 ++ [w64 (Int.tdiv x8_1 x9_1)]).length)), (20, .int .i64 x9_1), (23, .int .i64 (Int.tmod x8_1 x9_1))]) (by kernel_rfl) ?_
          refine XU.run E0_ok 1 2 [7, 8, 9] rfl (σ' := [(7, .slice (some ⟨2, 0, none⟩) ((lh0_1 ++ [w64 (Int.tdiv x8_1 x9_1)]).length) ((lh0_1 ++ [w64 (Int.tdiv x8_1 x9_1)]).length)), (8, .int .i64 x9_1), (9, .int .i64 (Int.tmod x8_1 x9_1))]) (by kernel_rfl) ?_
          refine XU.done (by kernel_rfl) ?_
          show XL _ _ _ _ _ _ _ _ _
          refine XL.ren (σ' := [(7, .slice (some ⟨0, 0, none⟩) ((lh0_1 ++ [w64 (Int.tdiv x8_1 x9_1)]).length) ((lh0_1 ++ [w64 (Int.tdiv x8_1 x9_1)]).length)), (8, .int .i64 x9_1), (9, .int .i64 (Int.tmod x8_1 x9_1))]) (h' := [(0, .cells (rowC (encI .i64) (lh0_1 ++ [w64 (Int.tdiv x8_1 x9_1)])) 0 3 1)]) (c' := 1) [2] (by decide) rfl ⟨by kernel_rfl, by kernel_rfl, by kernel_rfl, trivial⟩ ⟨⟨_, _, rfl, rfl, .inl ⟨rfl, rowC_scal (encI_ok .i64) _⟩⟩, trivial⟩ rfl ?_
          refine XL.conv (f42_1_ok m fuel x9_1 (Int.tmod x8_1 x9_1) (lh0_1 ++ [w64 (Int.tdiv x8_1 x9_1)]) o h Q hQ) (by first | rfl | simp)
    | false =>
      have h := cF b1 h
      refine XQ.cond (s := (.tmp 19)) (b := false) (by kernel_rfl) (by kernel_rfl) (fun q => by cases q) (fun _ => ?_)
      refine XQ.ren (σ' := [(7, .slice (some ⟨0, 0, none⟩) lh0_1.length lh0_1.length)]) (h' := [(0, .cells (rowC (encI .i64) lh0_1) 0 3 1)]) (c' := 1) [0] (by decide) rfl ⟨by kernel_rfl, trivial⟩ ⟨⟨_, _, rfl, rfl, .inl ⟨rfl, rowC_scal (encI_ok .i64) _⟩⟩, trivial⟩ rfl ?_
      refine XQ.exit (i := 0) (by kernel_rfl) ?_
      cases h
      exact hQ

def f42 (m : Nat) (a : Int) (b : Int) : Option ((List Int) × Int) :=
  (f66 m a b).bind fun r1 =>
    cond (r1 != 0) (
      some ([], r1)
    ) (
      (f42_1 m m a b []).bind fun o1 =>
        some (o1, 0)
    )

theorem f42_ok (m : Nat) (a : Int) (b : Int) (o : (List Int) × Int) (h : f42 m a b = some o) : KC E0 42 [.int .i64 a, .int .i64 b] [] 0 (fun v h' c' => v = .tuple #[.slice (some ⟨0, 0, none⟩) o.1.length o.1.length, .int .i64 o.2] ∧ h' = [(0, .cells (rowC (encI .i64) o.1) 0 3 1)] ∧ c' = 1) := by
  refine KC.bodyN E0_ok (F := Proofs.Try.f42) (by kernel_rfl) (code := f42_C42) (by kernel_rfl) (nt := 31) (by kernel_rfl) (rs := [.tmp 4, .tmp 5]) (by kernel_rfl) (by kernel_rfl) (σ := [(0, .int .i64 a), (1, .int .i64 b)]) (by kernel_rfl) ?_
  unfold f42 at h
  refine XQ.seq E0_ok (by kernel_rfl) ?_
  refine XQ.region (by kernel_rfl) ?_
  refine XR.run E0_ok 1 2 [0, 1] rfl (σ' := [(0, .int .i64 a), (1, .int .i64 b)]) (h' := []) (c' := 0) (by kernel_rfl) ?_
  refine XR.done (by kernel_rfl) ?_
  show XQ _ _ _ _ _ _ _ _
  refine XQ.seq E0_ok (by kernel_rfl) ?_
  refine XQ.region (by kernel_rfl) ?_
  refine XR.run E0_ok 1 2 [0, 1, 10, 11] rfl (σ' := [(0, .int .i64 a), (1, .int .i64 b), (10, .int .i64 a), (11, .int .i64 b)]) (h' := []) (c' := 0) (by kernel_rfl) ?_
  obtain ⟨r1, r1_h, h⟩ := bS h
  refine XR.call E0_ok [0, 1, 12] rfl (K := 66) (args := [.int .i64 a, .int .i64 b]) (d := (some (path 12 12))) (by kernel_rfl) (KC.of_calls E0_ok (F := Proofs.Try.f66) (v := .int .i64 r1) (by kernel_rfl) rfl rfl (fun w hI => f66_ok m a b r1 r1_h w hI)) ?_
  rintro _ _ _ ⟨rfl, rfl, rfl⟩
  refine XR.conv (σ' := [(0, .int .i64 a), (1, .int .i64 b), (12, .int .i64 r1)]) (h' := []) (c' := 0) ?_ (by kernel_rfl)
  refine XR.run E0_ok 1 1 [0, 1, 6] rfl (σ' := [(0, .int .i64 a), (1, .int .i64 b), (6, .int .i64 r1)]) (h' := []) (c' := 0) (by kernel_rfl) ?_
  refine XR.done (by kernel_rfl) ?_
  show XQ _ _ _ _ _ _ _ _
  refine XQ.seq E0_ok (by kernel_rfl) ?_
  refine XQ.seq E0_ok (by kernel_rfl) ?_
  refine XQ.region (by kernel_rfl) ?_
  refine XR.run E0_ok 1 2 [0, 1, 6, 14] rfl (σ' := [(0, .int .i64 a), (1, .int .i64 b), (6, .int .i64 r1), (14, .bool (r1 != 0))]) (h' := []) (c' := 0) (by kernel_rfl) ?_
  refine XR.done (by kernel_rfl) ?_
  show XQ _ _ _ _ _ _ _ _
  cases b1 : (r1 != 0 : Bool) with
  | true =>
    have h := cT b1 h
    refine XQ.cond (s := (.tmp 14)) (b := true) (by kernel_rfl) (by kernel_rfl) (fun _ => ?_) (fun q => by cases q)
    refine XQ.seq E0_ok (by kernel_rfl) ?_
    refine XQ.region (by kernel_rfl) ?_
    refine XR.run E0_ok 1 3 [4, 5] rfl (σ' := [(4, .slice none 0 0), (5, .int .i64 r1)]) (h' := []) (c' := 0) (by kernel_rfl) ?_
    refine XR.done (by kernel_rfl) ?_
    show XQ _ _ _ _ _ _ _ _
    refine XQ.ghost 3 1 rfl (σ' := [(4, .slice (some ⟨0, 0, none⟩) 0 0), (5, .int .i64 r1)]) (h' := []) ⟨by kernel_rfl, by kernel_rfl, trivial⟩ trivial ?_
    refine XQ.conv (σ' := [(4, .slice (some ⟨0, 0, none⟩) 0 0), (5, .int .i64 r1)]) (h' := [(0, .cells (rowC (encI .i64) []) 0 3 1)]) (c' := 1) ?_ (by kernel_rfl)
    refine XQ.ren (σ' := [(4, .slice (some ⟨0, 0, none⟩) 0 0), (5, .int .i64 r1)]) (h' := [(0, .cells (rowC (encI .i64) []) 0 3 1)]) (c' := 1) [0] (by decide) rfl ⟨by kernel_rfl, by kernel_rfl, trivial⟩ ⟨⟨_, _, rfl, rfl, .inl ⟨rfl, rowC_scal (encI_ok .i64) _⟩⟩, trivial⟩ rfl ?_
    refine XQ.ret (by kernel_rfl) ?_
    have h := Option.some.inj h
    subst h
    exact ⟨fun i q => (by cases q), .tuple #[.slice (some ⟨0, 0, none⟩) 0 0, .int .i64 r1], (by kernel_rfl), (by kernel_rfl), (by kernel_rfl), rfl⟩
  | false =>
    have h := cF b1 h
    refine XQ.cond (s := (.tmp 14)) (b := false) (by kernel_rfl) (by kernel_rfl) (fun q => by cases q) (fun _ => ?_)
    refine XQ.skip (by kernel_rfl) ?_
    show XQ _ _ _ _ _ _ _ _
    refine XQ.seq E0_ok (by kernel_rfl) ?_
    refine XQ.region (by kernel_rfl) ?_
    refine XR.run E0_ok 1 1 [0, 1, 7] rfl (σ' := [(0, .int .i64 a), (1, .int .i64 b), (7, .slice none 0 0)]) (h' := []) (c' := 0) (by kernel_rfl) ?_
    refine XR.done (by kernel_rfl) ?_
    show XQ _ _ _ _ _ _ _ _
    refine XQ.ghost 3 1 rfl (σ' := [(0, .int .i64 a), (1, .int .i64 b), (7, .slice (some ⟨0, 0, none⟩) 0 0)]) (h' := []) ⟨by kernel_rfl, by kernel_rfl, by kernel_rfl, trivial⟩ trivial ?_
    refine XQ.conv (σ' := [(0, .int .i64 a), (1, .int .i64 b), (7, .slice (some ⟨0, 0, none⟩) 0 0)]) (h' := [(0, .cells (rowC (encI .i64) []) 0 3 1)]) (c' := 1) ?_ (by kernel_rfl)
    refine XQ.seq E0_ok (by kernel_rfl) ?_
    refine XQ.seq E0_ok (by kernel_rfl) ?_
    refine XQ.region (by kernel_rfl) ?_
    refine XR.run E0_ok 1 4 [7, 8, 9] rfl (σ' := [(7, .slice (some ⟨0, 0, none⟩) 0 0), (8, .int .i64 a), (9, .int .i64 b)]) (h' := [(0, .cells (rowC (encI .i64) []) 0 3 1)]) (c' := 1) (by kernel_rfl) ?_
    refine XR.done (by kernel_rfl) ?_
    show XQ _ _ _ _ _ _ _ _
    refine XQ.block (id := 0) (by kernel_rfl) ?_
    refine XQ.loop m (by kernel_rfl) ?_
    obtain ⟨o1, o1_h, h⟩ := bS h
    refine XL.ren (σ' := [(7, .slice (some ⟨0, 0, none⟩) 0 0), (8, .int .i64 a), (9, .int .i64 b)]) (h' := [(0, .cells (rowC (encI .i64) []) 0 3 1)]) (c' := 1) [0] (by decide) rfl ⟨by kernel_rfl, by kernel_rfl, by kernel_rfl, trivial⟩ ⟨⟨_, _, rfl, rfl, .inl ⟨rfl, rowC_scal (encI_ok .i64) _⟩⟩, trivial⟩ rfl ?_
    refine XL.conv (f42_1_ok m m a b [] o1 o1_h _ ?_) (by first | rfl | simp)
    show XQ _ _ _ _ _ _ _ _
    refine XQ.seq E0_ok (by kernel_rfl) ?_
    refine XQ.region (by kernel_rfl) ?_
    refine XR.run E0_ok 1 3 [4, 5] rfl (σ' := [(4, .slice (some ⟨0, 0, none⟩) o1.length o1.length), (5, .int .i64 0)]) (h' := [(0, .cells (rowC (encI .i64) o1) 0 3 1)]) (c' := 1) (by kernel_rfl) ?_
    refine XR.done (by kernel_rfl) ?_
    show XQ _ _ _ _ _ _ _ _
    refine XQ.ren (σ' := [(4, .slice (some ⟨0, 0, none⟩) o1.length o1.length), (5, .int .i64 0)]) (h' := [(0, .cells (rowC (encI .i64) o1) 0 3 1)]) (c' := 1) [0] (by decide) rfl ⟨by kernel_rfl, by kernel_rfl, trivial⟩ ⟨⟨_, _, rfl, rfl, .inl ⟨rfl, rowC_scal (encI_ok .i64) _⟩⟩, trivial⟩ rfl ?_
    refine XQ.ret (by kernel_rfl) ?_
    have h := Option.some.inj h
    subst h
    exact ⟨fun i q => (by cases q), .tuple #[.slice (some ⟨0, 0, none⟩) o1.length o1.length, .int .i64 0], (by kernel_rfl), (by kernel_rfl), (by kernel_rfl), rfl⟩

/-! vitola/vitolaref05.Nearer -/
noncomputable def f40_C40 : Code := Proofs.Try.f40.body.getD .skip
noncomputable def f40_L1 : Code := lft (lft (rgt (lft (rgt (rgt (rgt (rgt (rgt (rgt f40_C40)))))))))

def f40_1 (m : Nat) : Nat → Int → Int → Int → Int → List Int → Option (List Int)
  | 0, _, _, _, _, _ => none
  | fuel + 1, a, b, x9_1, x10_1, lh1_1 =>
    (f67 m a b 0).bind fun r8 =>
      cond (decide (x10_1 ≤ r8)) (
        (f61 m a b 0 x10_1).bind fun r9 =>
          (f61 m a b 0 x10_1).bind fun r10 =>
            cond (decide ((iMin r9 (w64 (a - r10))) < x9_1)) (
              cond (fitsB (lh1_1.length + 1) 8) (
                f40_1 m fuel a b (iMin r9 (w64 (a - r10))) (w64 (x10_1 + 1)) (lh1_1 ++ [x10_1])
              ) none
            ) (
              f40_1 m fuel a b x9_1 (w64 (x10_1 + 1)) lh1_1
            )
      ) (
        some (lh1_1)
      )

theorem f40_1_ok (m : Nat) : ∀ (fuel : Nat) (a : Int) (b : Int) (x9_1 : Int) (x10_1 : Int) (lh1_1 : List Int) (o : (List Int)), f40_1 m fuel a b x9_1 x10_1 lh1_1 = some o → ∀ Q : QP, Q (.exit 0) [(8, .slice (some ⟨0, 0, none⟩) o.length o.length)] [(0, .cells (rowC (encI .i64) o) 0 3 1)] 1 → XL E0 46 0 fuel f40_L1 [(0, .int .i64 a), (7, .pointer (some ⟨0, 0, none⟩)), (8, .slice (some ⟨1, 0, none⟩) lh1_1.length lh1_1.length), (9, .int .i64 x9_1), (10, .int .i64 x10_1)] [(1, .cells (rowC (encI .i64) lh1_1) 0 3 1), (0, .cells [.int .i64 a, .int .i64 b, .int .i64 0] 0 24 0)] 2 Q
  | 0, a, b, x9_1, x10_1, lh1_1, o, h, Q, hQ => by cases h
  | fuel + 1, a, b, x9_1, x10_1, lh1_1, o, h, Q, hQ => by
    unfold f40_1 at h
    refine XL.succ E0_ok ?_
    refine XQ.seq E0_ok (by kernel_rfl) ?_
    refine XQ.seq E0_ok (by kernel_rfl) ?_
    refine XQ.region (by kernel_rfl) ?_
    refine XR.run E0_ok 1 2 [0, 7, 8, 9, 10, 22, 23] rfl (σ' := [(0, .int .i64 a), (7, .pointer (some ⟨0, 0, none⟩)), (8, .slice (some ⟨1, 0, none⟩) lh1_1.length lh1_1.length), (9, .int .i64 x9_1), (10, .int .i64 x10_1), (22, .int .i64 x10_1), (23, .agg #[.int .i64 a, .int .i64 b, .int .i64 0])]) (h' := [(1, .cells (rowC (encI .i64) lh1_1) 0 3 1), (0, .cells [.int .i64 a, .int .i64 b, .int .i64 0] 0 24 0)]) (c' := 2) (by kernel_rfl) ?_
    obtain ⟨r8, r8_h, h⟩ := bS h
    refine XR.call E0_ok [0, 7, 8, 9, 10, 22, 24] rfl (K := 67) (args := [.agg #[.int .i64 a, .int .i64 b, .int .i64 0]]) (d := (some (path 12 24))) (by kernel_rfl) (KC.of_calls E0_ok (F := Proofs.Try.f67) (v := .int .i64 r8) (by kernel_rfl) rfl rfl (fun w hI => f67_ok m a b 0 r8 r8_h w hI)) ?_
    rintro _ _ _ ⟨rfl, rfl, rfl⟩
    refine XR.conv (σ' := [(0, .int .i64 a), (7, .pointer (some ⟨0, 0, none⟩)), (8, .slice (some ⟨1, 0, none⟩) lh1_1.length lh1_1.length), (9, .int .i64 x9_1), (10, .int .i64 x10_1), (22, .int .i64 x10_1), (24, .int .i64 r8)]) (h' := [(1, .cells (rowC (encI .i64) lh1_1) 0 3 1), (0, .cells [.int .i64 a, .int .i64 b, .int .i64 0] 0 24 0)]) (c' := 2) ?_ (by kernel_rfl)
    refine XR.run E0_ok 1 1 [0, 7, 8, 9, 10, 25] rfl (σ' := [(0, .int .i64 a), (7, .pointer (some ⟨0, 0, none⟩)), (8, .slice (some ⟨1, 0, none⟩) lh1_1.length lh1_1.length), (9, .int .i64 x9_1), (10, .int .i64 x10_1), (25, .bool (decide (x10_1 ≤ r8)))]) (h' := [(1, .cells (rowC (encI .i64) lh1_1) 0 3 1), (0, .cells [.int .i64 a, .int .i64 b, .int .i64 0] 0 24 0)]) (c' := 2) (by kernel_rfl) ?_
    refine XR.done (by kernel_rfl) ?_
    show XQ _ _ _ _ _ _ _ _
    cases b1 : (decide (x10_1 ≤ r8) : Bool) with
    | true =>
      have h := cT b1 h
      refine XQ.cond (s := (.tmp 25)) (b := true) (by kernel_rfl) (by kernel_rfl) (fun _ => ?_) (fun q => by cases q)
      refine XQ.skip (by kernel_rfl) ?_
      show XQ _ _ _ _ _ _ _ _
      refine XQ.seq E0_ok (by kernel_rfl) ?_
      refine XQ.block (id := 1) (by kernel_rfl) ?_
      refine XQ.seq E0_ok (by kernel_rfl) ?_
      refine XQ.quiet E0_ok (by kernel_rfl) (by kernel_rfl) ?_
      refine XU.run E0_ok 1 2 [0, 7, 8, 9, 10, 28, 29] rfl (σ' := [(0, .int .i64 a), (7, .pointer (some ⟨0, 0, none⟩)), (8, .slice (some ⟨1, 0, none⟩) lh1_1.length lh1_1.length), (9, .int .i64 x9_1), (10, .int .i64 x10_1), (28, .agg #[.int .i64 a, .int .i64 b, .int .i64 0]), (29, .int .i64 x10_1)]) (by kernel_rfl) ?_
      obtain ⟨r9, r9_h, h⟩ := bS h
      refine XU.call E0_ok [0, 7, 8, 9, 10, 30] rfl (K := 61) (F := Proofs.Try.f61) (args := [.agg #[.int .i64 a, .int .i64 b, .int .i64 0], .int .i64 x10_1]) (d := (some (path 12 30))) (v := .int .i64 r9) (by kernel_rfl) (by kernel_rfl) rfl rfl (fun w hI => f61_ok m a b 0 x10_1 r9 r9_h w hI) (σ' := [(0, .int .i64 a), (7, .pointer (some ⟨0, 0, none⟩)), (8, .slice (some ⟨1, 0, none⟩) lh1_1.length lh1_1.length), (9, .int .i64 x9_1), (10, .int .i64 x10_1), (30, .int .i64 r9)]) (by kernel_rfl) ?_
      refine XU.run E0_ok 1 3 [0, 7, 8, 9, 10, 30, 31, 32, 33] rfl (σ' := [(0, .int .i64 a), (7, .pointer (some ⟨0, 0, none⟩)), (8, .slice (some ⟨1, 0, none⟩) lh1_1.length lh1_1.length), (9, .int .i64 x9_1), (10, .int .i64 x10_1), (30, .int .i64 r9), (31, .int .i64 a), (32, .agg #[.int .i64 a, .int .i64 b, .int .i64 0]), (33, .int .i64 x10_1)]) (by kernel_rfl) ?_
      obtain ⟨r10, r10_h, h⟩ := bS h
      refine XU.call E0_ok [0, 7, 8, 9, 10, 30, 31, 34] rfl (K := 61) (F := Proofs.Try.f61) (args := [.agg #[.int .i64 a, .int .i64 b, .int .i64 0], .int .i64 x10_1]) (d := (some (path 12 34))) (v := .int .i64 r10) (by kernel_rfl) (by kernel_rfl) rfl rfl (fun w hI => f61_ok m a b 0 x10_1 r10 r10_h w hI) (σ' := [(0, .int .i64 a), (7, .pointer (some ⟨0, 0, none⟩)), (8, .slice (some ⟨1, 0, none⟩) lh1_1.length lh1_1.length), (9, .int .i64 x9_1), (10, .int .i64 x10_1), (30, .int .i64 r9), (31, .int .i64 a), (34, .int .i64 r10)]) (by kernel_rfl) ?_
      refine XU.run E0_ok 1 3 [0, 7, 8, 9, 10, 11] rfl (σ' := [(0, .int .i64 a), (7, .pointer (some ⟨0, 0, none⟩)), (8, .slice (some ⟨1, 0, none⟩) lh1_1.length lh1_1.length), (9, .int .i64 x9_1), (10, .int .i64 x10_1), (11, .int .i64 (iMin r9 (w64 (a - r10))))]) (by kernel_rfl) ?_
      refine XU.done (by kernel_rfl) ?_
      show XQ _ _ _ _ _ _ _ _
      refine XQ.seq E0_ok (by kernel_rfl) ?_
      refine XQ.region (by kernel_rfl) ?_
      refine XR.run E0_ok 1 3 [0, 7, 8, 9, 10, 11, 39] rfl (σ' := [(0, .int .i64 a), (7, .pointer (some ⟨0, 0, none⟩)), (8, .slice (some ⟨1, 0, none⟩) lh1_1.length lh1_1.length), (9, .int .i64 x9_1), (10, .int .i64 x10_1), (11, .int .i64 (iMin r9 (w64 (a - r10)))), (39, .bool (decide ((iMin r9 (w64 (a - r10))) < x9_1)))]) (h' := [(1, .cells (rowC (encI .i64) lh1_1) 0 3 1), (0, .cells [.int .i64 a, .int .i64 b, .int .i64 0] 0 24 0)]) (c' := 2) (by kernel_rfl) ?_
      refine XR.done (by kernel_rfl) ?_
      show XQ _ _ _ _ _ _ _ _
      cases b2 : (decide ((iMin r9 (w64 (a - r10))) < x9_1) : Bool) with
      | true =>
        have h := cT b2 h
        refine XQ.cond (s := (.tmp 39)) (b := true) (by kernel_rfl) (by kernel_rfl) (fun _ => ?_) (fun q => by cases q)
        refine XQ.seq E0_ok (by kernel_rfl) ?_
        refine XQ.region (by kernel_rfl) ?_
        refine XR.run E0_ok 1 3 [0, 7, 10, 11, 40, 42] rfl (σ' := [(0, .int .i64 a), (7, .pointer (some ⟨0, 0, none⟩)), (10, .int .i64 x10_1), (11, .int .i64 (iMin r9 (w64 (a - r10)))), (40, .slice (some ⟨1, 0, none⟩) lh1_1.length lh1_1.length), (42, .slice (some ⟨2, 0, none⟩) 1 1)]) (h' := [(2, .cells [.int .i64 x10_1] 0 3 1), (1, .cells (rowC (encI .i64) lh1_1) 0 3 1), (0, .cells [.int .i64 a, .int .i64 b, .int .i64 0] 0 24 0)]) (c' := 3) (by kernel_rfl) ?_
        cases b3 : (fitsB (lh1_1.length + 1) 8 : Bool) with
        | false => cases (cF b3 h)
        | true =>
          have h := cT b3 h
          refine XR.ef E0_ok [0, 7, 10, 11, 43] rfl (e_append (encI_ok .i64) (bytes := 8) (e := 3) (x := (src 46 (.tmp 40))) (y := (src 46 (.tmp 42))) (b := 1) (len := lh1_1.length) (cap := lh1_1.length) (xs := lh1_1) (m := 0) (ys := [x10_1]) (d := (some (path 12 43))) (n' := (lh1_1 ++ [x10_1]).length) (h' := [(3, .cells (rowC (encI .i64) (lh1_1 ++ [x10_1])) 0 3 1), (2, .cells [.int .i64 x10_1] 0 3 1), (0, .cells [.int .i64 a, .int .i64 b, .int .i64 0] 0 24 0)]) (by kernel_rfl) (by kernel_rfl) (by kernel_rfl) (by kernel_rfl) rfl (by simp) (by simp) b3 (by simp) (by kernel_rfl)) (σ' := [(0, .int .i64 a), (7, .pointer (some ⟨0, 0, none⟩)), (10, .int .i64 x10_1), (11, .int .i64 (iMin r9 (w64 (a - r10)))), (43, .slice (some ⟨3, 0, none⟩) ((lh1_1 ++ [x10_1]).length) ((lh1_1 ++ [x10_1]).length))]) (by kernel_rfl) ?_
          refine XR.run E0_ok 1 1 [0, 7, 8, 10, 11] rfl (σ' := [(0, .int .i64 a), (7, .pointer (some ⟨0, 0, none⟩)), (8, .slice (some ⟨3, 0, none⟩) ((lh1_1 ++ [x10_1]).length) ((lh1_1 ++ [x10_1]).length)), (10, .int .i64 x10_1), (11, .int .i64 (iMin r9 (w64 (a - r10))))]) (h' := [(3, .cells (rowC (encI .i64) (lh1_1 ++ [x10_1])) 0 3 1), (2, .cells [.int .i64 x10_1] 0 3 1), (0, .cells [.int .i64 a, .int .i64 b, .int .i64 0] 0 24 0)]) (c' := 4) (by kernel_rfl) ?_
          refine XR.done (by kernel_rfl) ?_
          show XQ _ _ _ _ _ _ _ _
          refine XQ.region (by kernel_rfl) ?_
          refine XR.run E0_ok 1 2 [0, 7, 8, 9, 10] rfl (σ' := [(0, .int .i64 a), (7, .pointer (some ⟨0, 0, none⟩)), (8, .slice (some ⟨3, 0, none⟩) ((lh1_1 ++ [x10_1]).length) ((lh1_1 ++ [x10_1]).length)), (9, .int .i64 (iMin r9 (w64 (a - r10)))), (10, .int .i64 x10_1)]) (h' := [(3, .cells (rowC (encI .i64) (lh1_1 ++ [x10_1])) 0 3 1), (2, .cells [.int .i64 x10_1] 0 3 1), (0, .cells [.int .i64 a, .int .i64 b, .int .i64 0] 0 24 0)]) (c' := 4) (by kernel_rfl) ?_
          refine XR.done (by kernel_rfl) ?_
          show XQ _ _ _ _ _ _ _ _
          refine XQ.region (by kernel_rfl) ?_
          refine XR.run E0_ok 1 3 [0, 7, 8, 9, 10] rfl (σ' := [(0, .int .i64 a), (7, .pointer (some ⟨0, 0, none⟩)), (8, .slice (some ⟨3, 0, none⟩) ((lh1_1 ++ [x10_1]).length) ((lh1_1 ++ [x10_1]).length)), (9, .int .i64 (iMin r9 (w64 (a - r10)))), (10, .int .i64 (w64 (x10_1 + 1)))]) (h' := [(3, .cells (rowC (encI .i64) (lh1_1 ++ [x10_1])) 0 3 1), (2, .cells [.int .i64 x10_1] 0 3 1), (0, .cells [.int .i64 a, .int .i64 b, .int .i64 0] 0 24 0)]) (c' := 4) (by kernel_rfl) ?_
          refine XR.done (by kernel_rfl) ?_
          show XL _ _ _ _ _ _ _ _ _
          refine XL.ren (σ' := [(0, .int .i64 a), (7, .pointer (some ⟨0, 0, none⟩)), (8, .slice (some ⟨1, 0, none⟩) ((lh1_1 ++ [x10_1]).length) ((lh1_1 ++ [x10_1]).length)), (9, .int .i64 (iMin r9 (w64 (a - r10)))), (10, .int .i64 (w64 (x10_1 + 1)))]) (h' := [(1, .cells (rowC (encI .i64) (lh1_1 ++ [x10_1])) 0 3 1), (0, .cells [.int .i64 a, .int .i64 b, .int .i64 0] 0 24 0)]) (c' := 2) [0, 3] (by decide) rfl ⟨by kernel_rfl, by kernel_rfl, by kernel_rfl, by kernel_rfl, by kernel_rfl, trivial⟩ ⟨⟨_, _, rfl, rfl, .inl ⟨rfl, rowC_scal (encI_ok .i64) _⟩⟩, ⟨_, _, rfl, rfl, .inr ⟨_, _, _, _, rfl, rfl⟩⟩, trivial⟩ rfl ?_
          refine XL.conv (f40_1_ok m fuel a b (iMin r9 (w64 (a - r10))) (w64 (x10_1 + 1)) (lh1_1 ++ [x10_1]) o h Q hQ) (by first | rfl | simp)
      | false =>
        have h := cF b2 h
        refine XQ.cond (s := (.tmp 39)) (b := false) (by kernel_rfl) (by kernel_rfl) (fun q => by cases q) (fun _ => ?_)
        refine XQ.skip (by kernel_rfl) ?_
        show XQ _ _ _ _ _ _ _ _
        refine XQ.region (by kernel_rfl) ?_
        refine XR.run E0_ok 1 3 [0, 7, 8, 9, 10] rfl (σ' := [(0, .int .i64 a), (7, .pointer (some ⟨0, 0, none⟩)), (8, .slice (some ⟨1, 0, none⟩) lh1_1.length lh1_1.length), (9, .int .i64 x9_1), (10, .int .i64 (w64 (x10_1 + 1)))]) (h' := [(1, .cells (rowC (encI .i64) lh1_1) 0 3 1), (0, .cells [.int .i64 a, .int .i64 b, .int .i64 0] 0 24 0)]) (c' := 2) (by kernel_rfl) ?_
        refine XR.done (by kernel_rfl) ?_
        show XL _ _ _ _ _ _ _ _ _
        refine XL.ren (σ' := [(0, .int .i64 a), (7, .pointer (some ⟨0, 0, none⟩)), (8, .slice (some ⟨1, 0, none⟩) lh1_1.length lh1_1.length), (9, .int .i64 x9_1), (10, .int .i64 (w64 (x10_1 + 1)))]) (h' := [(1, .cells (rowC (encI .i64) lh1_1) 0 3 1), (0, .cells [.int .i64 a, .int .i64 b, .int .i64 0] 0 24 0)]) (c' := 2) [0, 1] (by decide) rfl ⟨by kernel_rfl, by kernel_rfl, by kernel_rfl, by kernel_rfl, by kernel_rfl, trivial⟩ ⟨⟨_, _, rfl, rfl, .inl ⟨rfl, rowC_scal (encI_ok .i64) _⟩⟩, ⟨_, _, rfl, rfl, .inr ⟨_, _, _, _, rfl, rfl⟩⟩, trivial⟩ rfl ?_
        refine XL.conv (f40_1_ok m fuel a b x9_1 (w64 (x10_1 + 1)) lh1_1 o h Q hQ) (by first | rfl | simp)
    | false =>
      have h := cF b1 h
      refine XQ.cond (s := (.tmp 25)) (b := false) (by kernel_rfl) (by kernel_rfl) (fun q => by cases q) (fun _ => ?_)
      refine XQ.ren (σ' := [(8, .slice (some ⟨0, 0, none⟩) lh1_1.length lh1_1.length)]) (h' := [(0, .cells (rowC (encI .i64) lh1_1) 0 3 1)]) (c' := 1) [1] (by decide) rfl ⟨by kernel_rfl, trivial⟩ ⟨⟨_, _, rfl, rfl, .inl ⟨rfl, rowC_scal (encI_ok .i64) _⟩⟩, trivial⟩ rfl ?_
      refine XQ.exit (i := 0) (by kernel_rfl) ?_
      cases h
      exact hQ

def f40 (m : Nat) (a : Int) (b : Int) : Option ((List Int) × Int) :=
  (f66 m a b).bind fun r1 =>
    cond (r1 != 0) (
      some ([], r1)
    ) (
      (f40_1 m m a b a 1 []).bind fun o1 =>
        some (o1, 0)
    )

theorem f40_ok (m : Nat) (a : Int) (b : Int) (o : (List Int) × Int) (h : f40 m a b = some o) : KC E0 40 [.int .i64 a, .int .i64 b] [] 0 (fun v h' c' => v = .tuple #[.slice (some ⟨0, 0, none⟩) o.1.length o.1.length, .int .i64 o.2] ∧ h' = [(0, .cells (rowC (encI .i64) o.1) 0 3 1)] ∧ c' = 1) := by
  refine KC.bodyN E0_ok (F := Proofs.Try.f40) (by kernel_rfl) (code := f40_C40) (by kernel_rfl) (nt := 46) (by kernel_rfl) (rs := [.tmp 4, .tmp 5]) (by kernel_rfl) (by kernel_rfl) (σ := [(0, .int .i64 a), (1, .int .i64 b)]) (by kernel_rfl) ?_
  unfold f40 at h
  refine XQ.seq E0_ok (by kernel_rfl) ?_
  refine XQ.region (by kernel_rfl) ?_
  refine XR.run E0_ok 1 2 [0, 1] rfl (σ' := [(0, .int .i64 a), (1, .int .i64 b)]) (h' := []) (c' := 0) (by kernel_rfl) ?_
  refine XR.done (by kernel_rfl) ?_
  show XQ _ _ _ _ _ _ _ _
  refine XQ.seq E0_ok (by kernel_rfl) ?_
  refine XQ.region (by kernel_rfl) ?_
  refine XR.run E0_ok 1 2 [0, 1, 12, 13] rfl (σ' := [(0, .int .i64 a), (1, .int .i64 b), (12, .int .i64 a), (13, .int .i64 b)]) (h' := []) (c' := 0) (by kernel_rfl) ?_
  obtain ⟨r1, r1_h, h⟩ := bS h
  refine XR.call E0_ok [0, 1, 14] rfl (K := 66) (args := [.int .i64 a, .int .i64 b]) (d := (some (path 12 14))) (by kernel_rfl) (KC.of_calls E0_ok (F := Proofs.Try.f66) (v := .int .i64 r1) (by kernel_rfl) rfl rfl (fun w hI => f66_ok m a b r1 r1_h w hI)) ?_
  rintro _ _ _ ⟨rfl, rfl, rfl⟩
  refine XR.conv (σ' := [(0, .int .i64 a), (1, .int .i64 b), (14, .int .i64 r1)]) (h' := []) (c' := 0) ?_ (by kernel_rfl)
  refine XR.run E0_ok 1 1 [0, 1, 6] rfl (σ' := [(0, .int .i64 a), (1, .int .i64 b), (6, .int .i64 r1)]) (h' := []) (c' := 0) (by kernel_rfl) ?_
  refine XR.done (by kernel_rfl) ?_
  show XQ _ _ _ _ _ _ _ _
  refine XQ.seq E0_ok (by kernel_rfl) ?_
  refine XQ.seq E0_ok (by kernel_rfl) ?_
  refine XQ.region (by kernel_rfl) ?_
  refine XR.run E0_ok 1 2 [0, 1, 6, 16] rfl (σ' := [(0, .int .i64 a), (1, .int .i64 b), (6, .int .i64 r1), (16, .bool (r1 != 0))]) (h' := []) (c' := 0) (by kernel_rfl) ?_
  refine XR.done (by kernel_rfl) ?_
  show XQ _ _ _ _ _ _ _ _
  cases b1 : (r1 != 0 : Bool) with
  | true =>
    have h := cT b1 h
    refine XQ.cond (s := (.tmp 16)) (b := true) (by kernel_rfl) (by kernel_rfl) (fun _ => ?_) (fun q => by cases q)
    refine XQ.seq E0_ok (by kernel_rfl) ?_
    refine XQ.region (by kernel_rfl) ?_
    refine XR.run E0_ok 1 3 [4, 5] rfl (σ' := [(4, .slice none 0 0), (5, .int .i64 r1)]) (h' := []) (c' := 0) (by kernel_rfl) ?_
    refine XR.done (by kernel_rfl) ?_
    show XQ _ _ _ _ _ _ _ _
    refine XQ.ghost 3 1 rfl (σ' := [(4, .slice (some ⟨0, 0, none⟩) 0 0), (5, .int .i64 r1)]) (h' := []) ⟨by kernel_rfl, by kernel_rfl, trivial⟩ trivial ?_
    refine XQ.conv (σ' := [(4, .slice (some ⟨0, 0, none⟩) 0 0), (5, .int .i64 r1)]) (h' := [(0, .cells (rowC (encI .i64) []) 0 3 1)]) (c' := 1) ?_ (by kernel_rfl)
    refine XQ.ren (σ' := [(4, .slice (some ⟨0, 0, none⟩) 0 0), (5, .int .i64 r1)]) (h' := [(0, .cells (rowC (encI .i64) []) 0 3 1)]) (c' := 1) [0] (by decide) rfl ⟨by kernel_rfl, by kernel_rfl, trivial⟩ ⟨⟨_, _, rfl, rfl, .inl ⟨rfl, rowC_scal (encI_ok .i64) _⟩⟩, trivial⟩ rfl ?_
    refine XQ.ret (by kernel_rfl) ?_
    have h := Option.some.inj h
    subst h
    exact ⟨fun i q => (by cases q), .tuple #[.slice (some ⟨0, 0, none⟩) 0 0, .int .i64 r1], (by kernel_rfl), (by kernel_rfl), (by kernel_rfl), rfl⟩
  | false =>
    have h := cF b1 h
    refine XQ.cond (s := (.tmp 16)) (b := false) (by kernel_rfl) (by kernel_rfl) (fun q => by cases q) (fun _ => ?_)
    refine XQ.skip (by kernel_rfl) ?_
    show XQ _ _ _ _ _ _ _ _
    refine XQ.seq E0_ok (by kernel_rfl) ?_
    refine XQ.region (by kernel_rfl) ?_
    refine XR.run E0_ok 1 5 [0, 7] rfl (σ' := [(0, .int .i64 a), (7, .pointer (some ⟨0, 0, none⟩))]) (h' := [(0, .cells [.int .i64 a, .int .i64 b, .int .i64 0] 0 24 0)]) (c' := 1) (by kernel_rfl) ?_
    refine XR.done (by kernel_rfl) ?_
    show XQ _ _ _ _ _ _ _ _
    refine XQ.seq E0_ok (by kernel_rfl) ?_
    refine XQ.region (by kernel_rfl) ?_
    refine XR.run E0_ok 1 1 [0, 7, 8] rfl (σ' := [(0, .int .i64 a), (7, .pointer (some ⟨0, 0, none⟩)), (8, .slice none 0 0)]) (h' := [(0, .cells [.int .i64 a, .int .i64 b, .int .i64 0] 0 24 0)]) (c' := 1) (by kernel_rfl) ?_
    refine XR.done (by kernel_rfl) ?_
    show XQ _ _ _ _ _ _ _ _
    refine XQ.ghost 3 1 rfl (σ' := [(0, .int .i64 a), (7, .pointer (some ⟨0, 0, none⟩)), (8, .slice (some ⟨1, 0, none⟩) 0 0)]) (h' := [(0, .cells [.int .i64 a, .int .i64 b, .int .i64 0] 0 24 0)]) ⟨by kernel_rfl, by kernel_rfl, by kernel_rfl, trivial⟩ ⟨⟨_, rfl, .inl rfl⟩, trivial⟩ ?_
    refine XQ.conv (σ' := [(0, .int .i64 a), (7, .pointer (some ⟨0, 0, none⟩)), (8, .slice (some ⟨1, 0, none⟩) 0 0)]) (h' := [(1, .cells (rowC (encI .i64) []) 0 3 1), (0, .cells [.int .i64 a, .int .i64 b, .int .i64 0] 0 24 0)]) (c' := 2) ?_ (by kernel_rfl)
    refine XQ.seq E0_ok (by kernel_rfl) ?_
    refine XQ.region (by kernel_rfl) ?_
    refine XR.run E0_ok 1 2 [0, 7, 8, 9] rfl (σ' := [(0, .int .i64 a), (7, .pointer (some ⟨0, 0, none⟩)), (8, .slice (some ⟨1, 0, none⟩) 0 0), (9, .int .i64 a)]) (h' := [(1, .cells (rowC (encI .i64) []) 0 3 1), (0, .cells [.int .i64 a, .int .i64 b, .int .i64 0] 0 24 0)]) (c' := 2) (by kernel_rfl) ?_
    refine XR.done (by kernel_rfl) ?_
    show XQ _ _ _ _ _ _ _ _
    refine XQ.seq E0_ok (by kernel_rfl) ?_
    refine XQ.seq E0_ok (by kernel_rfl) ?_
    refine XQ.region (by kernel_rfl) ?_
    refine XR.run E0_ok 1 1 [0, 7, 8, 9, 10] rfl (σ' := [(0, .int .i64 a), (7, .pointer (some ⟨0, 0, none⟩)), (8, .slice (some ⟨1, 0, none⟩) 0 0), (9, .int .i64 a), (10, .int .i64 1)]) (h' := [(1, .cells (rowC (encI .i64) []) 0 3 1), (0, .cells [.int .i64 a, .int .i64 b, .int .i64 0] 0 24 0)]) (c' := 2) (by kernel_rfl) ?_
    refine XR.done (by kernel_rfl) ?_
    show XQ _ _ _ _ _ _ _ _
    refine XQ.block (id := 0) (by kernel_rfl) ?_
    refine XQ.loop m (by kernel_rfl) ?_
    obtain ⟨o1, o1_h, h⟩ := bS h
    refine XL.ren (σ' := [(0, .int .i64 a), (7, .pointer (some ⟨0, 0, none⟩)), (8, .slice (some ⟨1, 0, none⟩) 0 0), (9, .int .i64 a), (10, .int .i64 1)]) (h' := [(1, .cells (rowC (encI .i64) []) 0 3 1), (0, .cells [.int .i64 a, .int .i64 b, .int .i64 0] 0 24 0)]) (c' := 2) [0, 1] (by decide) rfl ⟨by kernel_rfl, by kernel_rfl, by kernel_rfl, by kernel_rfl, by kernel_rfl, trivial⟩ ⟨⟨_, _, rfl, rfl, .inl ⟨rfl, rowC_scal (encI_ok .i64) _⟩⟩, ⟨_, _, rfl, rfl, .inr ⟨_, _, _, _, rfl, rfl⟩⟩, trivial⟩ rfl ?_
    refine XL.conv (f40_1_ok m m a b a 1 [] o1 o1_h _ ?_) (by first | rfl | simp)
    show XQ _ _ _ _ _ _ _ _
    refine XQ.seq E0_ok (by kernel_rfl) ?_
    refine XQ.region (by kernel_rfl) ?_
    refine XR.run E0_ok 1 3 [4, 5] rfl (σ' := [(4, .slice (some ⟨0, 0, none⟩) o1.length o1.length), (5, .int .i64 0)]) (h' := [(0, .cells (rowC (encI .i64) o1) 0 3 1)]) (c' := 1) (by kernel_rfl) ?_
    refine XR.done (by kernel_rfl) ?_
    show XQ _ _ _ _ _ _ _ _
    refine XQ.ren (σ' := [(4, .slice (some ⟨0, 0, none⟩) o1.length o1.length), (5, .int .i64 0)]) (h' := [(0, .cells (rowC (encI .i64) o1) 0 3 1)]) (c' := 1) [0] (by decide) rfl ⟨by kernel_rfl, by kernel_rfl, trivial⟩ ⟨⟨_, _, rfl, rfl, .inl ⟨rfl, rowC_scal (encI_ok .i64) _⟩⟩, trivial⟩ rfl ?_
    refine XQ.ret (by kernel_rfl) ?_
    have h := Option.some.inj h
    subst h
    exact ⟨fun i q => (by cases q), .tuple #[.slice (some ⟨0, 0, none⟩) o1.length o1.length, .int .i64 0], (by kernel_rfl), (by kernel_rfl), (by kernel_rfl), rfl⟩

/-! vitola/vitolalaw05.same -/
noncomputable def f35_C35 : Code := Proofs.Try.f35.body.getD .skip
noncomputable def f35_L1 : Code := lft (lft (rgt (lft (rgt (rgt f35_C35)))))

inductive Of35_1 where
  | r
  | x0

def f35_1 (m : Nat) : Nat → List Int → List Int → Int → Option Of35_1
  | 0, _, _, _ => none
  | fuel + 1, a, b, x5_1 =>
    cond (decide (x5_1 < ((a.length : Nat) : Int))) (
      cond (inRow x5_1 a.length) (
        cond (inRow x5_1 b.length) (
          cond ((List.getD a (Int.toNat x5_1) 0) != (List.getD b (Int.toNat x5_1) 0)) (
            some (.r)
          ) (
            f35_1 m fuel a b (w64 (x5_1 + 1))
          )
        ) none
      ) none
    ) (
      some (.x0)
    )

theorem f35_1_ok (m : Nat) : ∀ (fuel : Nat) (z0 : Nat) (a : List Int) (z1 : Nat) (b : List Int) (x5_1 : Int) (o : Of35_1), f35_1 m fuel a b x5_1 = some o → ∀ Q : QP, (match o with | .r => Q .ret [(4, .bool false)] [(1, .cells (rowC (encI .i64) b) z1 3 1), (0, .cells (rowC (encI .i64) a) z0 3 1)] 2 | .x0 => Q (.exit 0) [] [(1, .cells (rowC (encI .i64) b) z1 3 1), (0, .cells (rowC (encI .i64) a) z0 3 1)] 2) → XL E0 26 2 fuel f35_L1 [(0, .slice (some ⟨0, 0, none⟩) a.length a.length), (1, .slice (some ⟨1, 0, none⟩) b.length b.length), (5, .int .i64 x5_1)] [(1, .cells (rowC (encI .i64) b) z1 3 1), (0, .cells (rowC (encI .i64) a) z0 3 1)] 2 Q
  | 0, z0, a, z1, b, x5_1, o, h, Q, hQ => by cases h
  | fuel + 1, z0, a, z1, b, x5_1, o, h, Q, hQ => by
    unfold f35_1 at h
    refine XL.succ E0_ok ?_
    refine XQ.seq E0_ok (by kernel_rfl) ?_
    refine XQ.seq E0_ok (by kernel_rfl) ?_
    refine XQ.region (by kernel_rfl) ?_
    refine XR.run E0_ok 1 4 [0, 1, 5, 14] rfl (σ' := [(0, .slice (some ⟨0, 0, none⟩) a.length a.length), (1, .slice (some ⟨1, 0, none⟩) b.length b.length), (5, .int .i64 x5_1), (14, .bool (decide (x5_1 < ((a.length : Nat) : Int))))]) (h' := [(1, .cells (rowC (encI .i64) b) z1 3 1), (0, .cells (rowC (encI .i64) a) z0 3 1)]) (c' := 2) (by kernel_rfl) ?_
    refine XR.done (by kernel_rfl) ?_
    show XQ _ _ _ _ _ _ _ _
    cases b1 : (decide (x5_1 < ((a.length : Nat) : Int)) : Bool) with
    | true =>
      have h := cT b1 h
      refine XQ.cond (s := (.tmp 14)) (b := true) (by kernel_rfl) (by kernel_rfl) (fun _ => ?_) (fun q => by cases q)
      refine XQ.skip (by kernel_rfl) ?_
      show XQ _ _ _ _ _ _ _ _
      refine XQ.seq E0_ok (by kernel_rfl) ?_
      refine XQ.block (id := 1) (by kernel_rfl) ?_
      refine XQ.seq E0_ok (by kernel_rfl) ?_
      refine XQ.quiet E0_ok (by kernel_rfl) (by kernel_rfl) ?_
      refine XU.run E0_ok 1 2 [0, 1, 5, 17, 18] rfl (σ' := [(0, .slice (some ⟨0, 0, none⟩) a.length a.length), (1, .slice (some ⟨1, 0, none⟩) b.length b.length), (5, .int .i64 x5_1), (17, .slice (some ⟨0, 0, none⟩) a.length a.length), (18, .int .i64 x5_1)]) (by kernel_rfl) ?_
      cases b2 : (inRow x5_1 a.length : Bool) with
      | false => cases (cF b2 h)
      | true =>
        have h := cT b2 h
        refine XU.rd E0_ok [0, 1, 5, 19] rfl (v := .pointer (some ⟨0, (Int.toNat x5_1) * 1, none⟩)) (v_idx (s := 1) (x := (src 26 (.tmp 17))) (y := (src 26 (.tmp 18))) (b := 0) (o := 0) (len := a.length) (cap := a.length) (ik := .i64) (i := x5_1) (off := (Int.toNat x5_1) * 1) (d := (some (path 12 19))) (by kernel_rfl) (by kernel_rfl) (by kernel_rfl) b2 (by omega)) (σ' := [(0, .slice (some ⟨0, 0, none⟩) a.length a.length), (1, .slice (some ⟨1, 0, none⟩) b.length b.length), (5, .int .i64 x5_1), (19, .pointer (some ⟨0, (Int.toNat x5_1) * 1, none⟩))]) (by kernel_rfl) ?_
        refine XU.rd E0_ok [0, 1, 5, 20] rfl (v := .int .i64 (List.getD a (Int.toNat x5_1) 0)) (v_load1 (encI_ok .i64) (x := (src 26 (.tmp 19))) (b := 0) (off := (Int.toNat x5_1) * 1) (xs := a) (fz := z0) (e := 3) (es := 1) (d := (some (path 12 20))) (by kernel_rfl) (by kernel_rfl) (by kernel_rfl) (Int.toNat x5_1) 0 0 (by first | rfl | omega) (row_len (inRow_toNat b2) (by simp)) rfl rfl) (σ' := [(0, .slice (some ⟨0, 0, none⟩) a.length a.length), (1, .slice (some ⟨1, 0, none⟩) b.length b.length), (5, .int .i64 x5_1), (20, .int .i64 (List.getD a (Int.toNat x5_1) 0))]) (by kernel_rfl) ?_
        refine XU.run E0_ok 1 2 [0, 1, 5, 20, 21, 22] rfl (σ' := [(0, .slice (some ⟨0, 0, none⟩) a.length a.length), (1, .slice (some ⟨1, 0, none⟩) b.length b.length), (5, .int .i64 x5_1), (20, .int .i64 (List.getD a (Int.toNat x5_1) 0)), (21, .slice (some ⟨1, 0, none⟩) b.length b.length), (22, .int .i64 x5_1)]) (by kernel_rfl) ?_
        cases b3 : (inRow x5_1 b.length : Bool) with
        | false => cases (cF b3 h)
        | true =>
          have h := cT b3 h
          refine XU.rd E0_ok [0, 1, 5, 20, 23] rfl (v := .pointer (some ⟨1, (Int.toNat x5_1) * 1, none⟩)) (v_idx (s := 1) (x := (src 26 (.tmp 21))) (y := (src 26 (.tmp 22))) (b := 1) (o := 0) (len := b.length) (cap := b.length) (ik := .i64) (i := x5_1) (off := (Int.toNat x5_1) * 1) (d := (some (path 12 23))) (by kernel_rfl) (by kernel_rfl) (by kernel_rfl) b3 (by omega)) (σ' := [(0, .slice (some ⟨0, 0, none⟩) a.length a.length), (1, .slice (some ⟨1, 0, none⟩) b.length b.length), (5, .int .i64 x5_1), (20, .int .i64 (List.getD a (Int.toNat x5_1) 0)), (23, .pointer (some ⟨1, (Int.toNat x5_1) * 1, none⟩))]) (by kernel_rfl) ?_
          refine XU.rd E0_ok [0, 1, 5, 20, 24] rfl (v := .int .i64 (List.getD b (Int.toNat x5_1) 0)) (v_load1 (encI_ok .i64) (x := (src 26 (.tmp 23))) (b := 1) (off := (Int.toNat x5_1) * 1) (xs := b) (fz := z1) (e := 3) (es := 1) (d := (some (path 12 24))) (by kernel_rfl) (by kernel_rfl) (by kernel_rfl) (Int.toNat x5_1) 0 0 (by first | rfl | omega) (row_len (inRow_toNat b3) (by simp)) rfl rfl) (σ' := [(0, .slice (some ⟨0, 0, none⟩) a.length a.length), (1, .slice (some ⟨1, 0, none⟩) b.length b.length), (5, .int .i64 x5_1), (20, .int .i64 (List.getD a (Int.toNat x5_1) 0)), (24, .int .i64 (List.getD b (Int.toNat x5_1) 0))]) (by kernel_rfl) ?_
          refine XU.run E0_ok 1 1 [0, 1, 5, 25] rfl (σ' := [(0, .slice (some ⟨0, 0, none⟩) a.length a.length), (1, .slice (some ⟨1, 0, none⟩) b.length b.length), (5, .int .i64 x5_1), (25, .bool ((List.getD a (Int.toNat x5_1) 0) != (List.getD b (Int.toNat x5_1) 0)))]) (by kernel_rfl) ?_
          refine XU.done (by kernel_rfl) ?_
          show XQ _ _ _ _ _ _ _ _
          cases b4 : ((List.getD a (Int.toNat x5_1) 0) != (List.getD b (Int.toNat x5_1) 0) : Bool) with
          | true =>
            have h := cT b4 h
            refine XQ.cond (s := (.tmp 25)) (b := true) (by kernel_rfl) (by kernel_rfl) (fun _ => ?_) (fun q => by cases q)
            refine XQ.seq E0_ok (by kernel_rfl) ?_
            refine XQ.region (by kernel_rfl) ?_
            refine XR.run E0_ok 1 1 [4] rfl (σ' := [(4, .bool false)]) (h' := [(1, .cells (rowC (encI .i64) b) z1 3 1), (0, .cells (rowC (encI .i64) a) z0 3 1)]) (c' := 2) (by kernel_rfl) ?_
            refine XR.done (by kernel_rfl) ?_
            show XQ _ _ _ _ _ _ _ _
            refine XQ.ren (σ' := [(4, .bool false)]) (h' := [(1, .cells (rowC (encI .i64) b) z1 3 1), (0, .cells (rowC (encI .i64) a) z0 3 1)]) (c' := 2) [0, 1] (by decide) rfl ⟨by kernel_rfl, trivial⟩ ⟨⟨_, _, rfl, rfl, .inl ⟨rfl, rowC_scal (encI_ok .i64) _⟩⟩, ⟨_, _, rfl, rfl, .inl ⟨rfl, rowC_scal (encI_ok .i64) _⟩⟩, trivial⟩ rfl ?_
            refine XQ.ret (by kernel_rfl) ?_
            cases h
            exact hQ
          | false =>
            have h := cF b4 h
            refine XQ.cond (s := (.tmp 25)) (b := false) (by kernel_rfl) (by kernel_rfl) (fun q => by cases q) (fun _ => ?_)
            refine XQ.skip (by kernel_rfl) ?_
            show XQ _ _ _ _ _ _ _ _
            refine XQ.region (by kernel_rfl) ?_
            refine XR.run E0_ok 1 3 [0, 1, 5] rfl (σ' := [(0, .slice (some ⟨0, 0, none⟩) a.length a.length), (1, .slice (some ⟨1, 0, none⟩) b.length b.length), (5, .int .i64 (w64 (x5_1 + 1)))]) (h' := [(1, .cells (rowC (encI .i64) b) z1 3 1), (0, .cells (rowC (encI .i64) a) z0 3 1)]) (c' := 2) (by kernel_rfl) ?_
            refine XR.done (by kernel_rfl) ?_
            show XL _ _ _ _ _ _ _ _ _
            refine XL.ren (σ' := [(0, .slice (some ⟨0, 0, none⟩) a.length a.length), (1, .slice (some ⟨1, 0, none⟩) b.length b.length), (5, .int .i64 (w64 (x5_1 + 1)))]) (h' := [(1, .cells (rowC (encI .i64) b) z1 3 1), (0, .cells (rowC (encI .i64) a) z0 3 1)]) (c' := 2) [0, 1] (by decide) rfl ⟨by kernel_rfl, by kernel_rfl, by kernel_rfl, trivial⟩ ⟨⟨_, _, rfl, rfl, .inl ⟨rfl, rowC_scal (encI_ok .i64) _⟩⟩, ⟨_, _, rfl, rfl, .inl ⟨rfl, rowC_scal (encI_ok .i64) _⟩⟩, trivial⟩ rfl ?_
            refine XL.conv (f35_1_ok m fuel z0 a z1 b (w64 (x5_1 + 1)) o h Q hQ) (by first | rfl | simp)
    | false =>
      have h := cF b1 h
      refine XQ.cond (s := (.tmp 14)) (b := false) (by kernel_rfl) (by kernel_rfl) (fun q => by cases q) (fun _ => ?_)
      refine XQ.ren (σ' := []) (h' := [(1, .cells (rowC (encI .i64) b) z1 3 1), (0, .cells (rowC (encI .i64) a) z0 3 1)]) (c' := 2) [0, 1] (by decide) rfl trivial ⟨⟨_, _, rfl, rfl, .inl ⟨rfl, rowC_scal (encI_ok .i64) _⟩⟩, ⟨_, _, rfl, rfl, .inl ⟨rfl, rowC_scal (encI_ok .i64) _⟩⟩, trivial⟩ rfl ?_
      refine XQ.exit (i := 0) (by kernel_rfl) ?_
      cases h
      exact hQ

def f35 (m : Nat) (a : List Int) (b : List Int) : Option (Bool) :=
  cond (((a.length : Nat) : Int) != ((b.length : Nat) : Int)) (
    some (false)
  ) (
    (f35_1 m m a b 0).bind fun o1 =>
      match o1 with
      | .r =>
        some (false)
      | .x0 =>
        some (true)
  )

theorem f35_ok (m : Nat) (z0 : Nat) (z1 : Nat) (a : List Int) (b : List Int) (o : Bool) (h : f35 m a b = some o) : KC E0 35 [.slice (some ⟨0, 0, none⟩) a.length a.length, .slice (some ⟨1, 0, none⟩) b.length b.length] [(1, .cells (rowC (encI .i64) b) z1 3 1), (0, .cells (rowC (encI .i64) a) z0 3 1)] 2 (fun v _ _ => v = .bool o) := by
  refine KC.bodyN E0_ok (F := Proofs.Try.f35) (by kernel_rfl) (code := f35_C35) (by kernel_rfl) (nt := 26) (by kernel_rfl) (rs := [.tmp 4]) (by kernel_rfl) (by kernel_rfl) (σ := [(0, .slice (some ⟨0, 0, none⟩) a.length a.length), (1, .slice (some ⟨1, 0, none⟩) b.length b.length)]) (by kernel_rfl) ?_
  unfold f35 at h
  refine XQ.seq E0_ok (by kernel_rfl) ?_
  refine XQ.region (by kernel_rfl) ?_
  refine XR.run E0_ok 1 1 [0, 1] rfl (σ' := [(0, .slice (some ⟨0, 0, none⟩) a.length a.length), (1, .slice (some ⟨1, 0, none⟩) b.length b.length)]) (h' := [(1, .cells (rowC (encI .i64) b) z1 3 1), (0, .cells (rowC (encI .i64) a) z0 3 1)]) (c' := 2) (by kernel_rfl) ?_
  refine XR.done (by kernel_rfl) ?_
  show XQ _ _ _ _ _ _ _ _
  refine XQ.seq E0_ok (by kernel_rfl) ?_
  refine XQ.seq E0_ok (by kernel_rfl) ?_
  refine XQ.region (by kernel_rfl) ?_
  refine XR.run E0_ok 1 5 [0, 1, 10] rfl (σ' := [(0, .slice (some ⟨0, 0, none⟩) a.length a.length), (1, .slice (some ⟨1, 0, none⟩) b.length b.length), (10, .bool (((a.length : Nat) : Int) != ((b.length : Nat) : Int)))]) (h' := [(1, .cells (rowC (encI .i64) b) z1 3 1), (0, .cells (rowC (encI .i64) a) z0 3 1)]) (c' := 2) (by kernel_rfl) ?_
  refine XR.done (by kernel_rfl) ?_
  show XQ _ _ _ _ _ _ _ _
  cases b1 : (((a.length : Nat) : Int) != ((b.length : Nat) : Int) : Bool) with
  | true =>
    have h := cT b1 h
    refine XQ.cond (s := (.tmp 10)) (b := true) (by kernel_rfl) (by kernel_rfl) (fun _ => ?_) (fun q => by cases q)
    refine XQ.seq E0_ok (by kernel_rfl) ?_
    refine XQ.region (by kernel_rfl) ?_
    refine XR.run E0_ok 1 1 [4] rfl (σ' := [(4, .bool false)]) (h' := [(1, .cells (rowC (encI .i64) b) z1 3 1), (0, .cells (rowC (encI .i64) a) z0 3 1)]) (c' := 2) (by kernel_rfl) ?_
    refine XR.done (by kernel_rfl) ?_
    show XQ _ _ _ _ _ _ _ _
    refine XQ.ret (by kernel_rfl) ?_
    have h := Option.some.inj h
    subst h
    exact ⟨fun i q => (by cases q), .bool false, (by kernel_rfl), rfl⟩
  | false =>
    have h := cF b1 h
    refine XQ.cond (s := (.tmp 10)) (b := false) (by kernel_rfl) (by kernel_rfl) (fun q => by cases q) (fun _ => ?_)
    refine XQ.skip (by kernel_rfl) ?_
    show XQ _ _ _ _ _ _ _ _
    refine XQ.seq E0_ok (by kernel_rfl) ?_
    refine XQ.seq E0_ok (by kernel_rfl) ?_
    refine XQ.region (by kernel_rfl) ?_
    refine XR.run E0_ok 1 1 [0, 1, 5] rfl (σ' := [(0, .slice (some ⟨0, 0, none⟩) a.length a.length), (1, .slice (some ⟨1, 0, none⟩) b.length b.length), (5, .int .i64 0)]) (h' := [(1, .cells (rowC (encI .i64) b) z1 3 1), (0, .cells (rowC (encI .i64) a) z0 3 1)]) (c' := 2) (by kernel_rfl) ?_
    refine XR.done (by kernel_rfl) ?_
    show XQ _ _ _ _ _ _ _ _
    refine XQ.block (id := 0) (by kernel_rfl) ?_
    refine XQ.loop m (by kernel_rfl) ?_
    obtain ⟨o1, o1_h, h⟩ := bS h
    refine XL.ren (σ' := [(0, .slice (some ⟨0, 0, none⟩) a.length a.length), (1, .slice (some ⟨1, 0, none⟩) b.length b.length), (5, .int .i64 0)]) (h' := [(1, .cells (rowC (encI .i64) b) z1 3 1), (0, .cells (rowC (encI .i64) a) z0 3 1)]) (c' := 2) [0, 1] (by decide) rfl ⟨by kernel_rfl, by kernel_rfl, by kernel_rfl, trivial⟩ ⟨⟨_, _, rfl, rfl, .inl ⟨rfl, rowC_scal (encI_ok .i64) _⟩⟩, ⟨_, _, rfl, rfl, .inl ⟨rfl, rowC_scal (encI_ok .i64) _⟩⟩, trivial⟩ rfl ?_
    cases o1 with
    | r =>
      dsimp only at h
      refine XL.conv (f35_1_ok m m z0 a z1 b 0 (.r) o1_h _ ?_) (by first | rfl | simp)
      have h := Option.some.inj h
      subst h
      exact ⟨fun i q => (by cases q), .bool false, (by kernel_rfl), rfl⟩
    | x0 =>
      dsimp only at h
      refine XL.conv (f35_1_ok m m z0 a z1 b 0 (.x0) o1_h _ ?_) (by first | rfl | simp)
      show XQ _ _ _ _ _ _ _ _
      refine XQ.seq E0_ok (by kernel_rfl) ?_
      refine XQ.region (by kernel_rfl) ?_
      refine XR.run E0_ok 1 1 [4] rfl (σ' := [(4, .bool true)]) (h' := [(1, .cells (rowC (encI .i64) b) z1 3 1), (0, .cells (rowC (encI .i64) a) z0 3 1)]) (c' := 2) (by kernel_rfl) ?_
      refine XR.done (by kernel_rfl) ?_
      show XQ _ _ _ _ _ _ _ _
      refine XQ.ret (by kernel_rfl) ?_
      have h := Option.some.inj h
      subst h
      exact ⟨fun i q => (by cases q), .bool true, (by kernel_rfl), rfl⟩

end Go.Xm
