/- What these functions of the program compute, as functions in Lean, and the proofs that they do: band.Place, vitolaref08.Place. Conditions: the library's variable MaxLen holds some int. -/
import Derived.Test.YtdijjdkaojbolaaDl
namespace Go.Xm
open Go.RowKit
set_option linter.unusedVariables false
set_option linter.unusedSimpArgs false

/-! vitola/band.Place -/
noncomputable def f23_C23 : Code := Proofs.Try.f23.body.getD .skip
noncomputable def f23_C52 : Code := Proofs.Try.f52.body.getD .skip
noncomputable def f23_C47 : Code := Proofs.Try.f47.body.getD .skip

def f23 (m : Nat) (a : Int) (b : Int) (c : Int) : Option (Int × Int) :=
  cond (decide ((1 : Int) ≤ a)) (
    cond (!(decide (a ≤ 16))) (
      some (0, 1)
    ) (
      cond (decide ((0 : Int) ≤ b)) (
        cond (!(decide (b ≤ a))) (
          some (0, 1)
        ) (
          cond (decide ((0 : Int) ≤ c)) (
            cond (!(decide (c ≤ (w64 (b - 1))))) (
              some (0, 2)
            ) (
              cond (b != 0) (
                some (w64 ((w64 (Int.tdiv (w64 ((w64 ((w64 ((w64 (c + 1)) * a)) + b)) - 1)) b)) - 1), 0)
              ) none
            )
          ) (
            some (0, 2)
          )
        )
      ) (
        some (0, 1)
      )
    )
  ) (
    some (0, 1)
  )

theorem f23_ok (m : Nat) (a : Int) (b : Int) (c : Int) (o : Int × Int) (h : f23 m a b c = some o) (w : World) (hI : maxInv w) : Calls Proofs.Try.prog 23 #[.int .i64 a, .int .i64 b, .int .i64 c] w fun e w' => e = .returned (.tuple #[.int .i64 o.1, .int .i64 o.2]) ∧ Below w.heap.size w w' := by
  refine KC.calls (E := E0) (args := [.int .i64 a, .int .i64 b, .int .i64 c]) (v := .tuple #[.int .i64 o.1, .int .i64 o.2]) rfl rfl (KC.bodyN E0_ok (F := Proofs.Try.f23) (by kernel_rfl) (code := f23_C23) (by kernel_rfl) (nt := 32) (by kernel_rfl) (rs := [.tmp 6, .tmp 7]) (by kernel_rfl) (by kernel_rfl) (σ := [(0, .int .i64 a), (1, .int .i64 b), (2, .int .i64 c)]) (by kernel_rfl) ?_) w (maxInv_size hI) hI
  unfold f23 at h
  refine XQ.seq E0_ok (by kernel_rfl) ?_
  refine XQ.region (by kernel_rfl) ?_
  refine XR.run E0_ok 1 2 [0, 1, 2] rfl (σ' := [(0, .int .i64 a), (1, .int .i64 b), (2, .int .i64 c)]) (h' := []) (c' := 0) (by kernel_rfl) ?_
  refine XR.done (by kernel_rfl) ?_
  show XQ _ _ _ _ _ _ _ _
  refine XQ.seq E0_ok (by kernel_rfl) ?_
  refine XQ.region (by kernel_rfl) ?_
  refine XR.run E0_ok 1 2 [0, 1, 2, 9, 10] rfl (σ' := [(0, .int .i64 a), (1, .int .i64 b), (2, .int .i64 c), (9, .int .i64 a), (10, .int .i64 b)]) (h' := []) (c' := 0) (by kernel_rfl) ?_
  refine XR.callK E0_ok [0, 1, 2, 11] rfl (K := 52) (args := [.int .i64 a, .int .i64 b]) (d := (some (path 12 11))) (by kernel_rfl) ?_
  refine KC.bodyN E0_ok (F := Proofs.Try.f52) (by kernel_rfl) (code := f23_C52) (by kernel_rfl) (nt := 14) (by kernel_rfl) (rs := [.tmp 4]) (by kernel_rfl) (by kernel_rfl) (σ := [(0, .int .i64 a), (1, .int .i64 b)]) (by kernel_rfl) ?_
  refine XQ.seq E0_ok (by kernel_rfl) ?_
  refine XQ.region (by kernel_rfl) ?_
  refine XR.run E0_ok 1 1 [0, 1] rfl (σ' := [(0, .int .i64 a), (1, .int .i64 b)]) (h' := []) (c' := 0) (by kernel_rfl) ?_
  refine XR.done (by kernel_rfl) ?_
  show XQ _ _ _ _ _ _ _ _
  refine XQ.seq E0_ok (by kernel_rfl) ?_
  refine XQ.seq E0_ok (by kernel_rfl) ?_
  refine XQ.region (by kernel_rfl) ?_
  refine XR.run E0_ok 1 1 [0, 1, 5] rfl (σ' := [(0, .int .i64 a), (1, .int .i64 b), (5, .int .i64 a)]) (h' := []) (c' := 0) (by kernel_rfl) ?_
  refine XR.callK E0_ok [0, 1, 6] rfl (K := 47) (args := [.int .i64 a, .int .i64 1, .int .i64 16]) (d := (some (path 12 6))) (by kernel_rfl) ?_
  refine KC.bodyN E0_ok (F := Proofs.Try.f47) (by kernel_rfl) (code := f23_C47) (by kernel_rfl) (nt := 15) (by kernel_rfl) (rs := [.tmp 6]) (by kernel_rfl) (by kernel_rfl) (σ := [(0, .int .i64 a), (1, .int .i64 1), (2, .int .i64 16)]) (by kernel_rfl) ?_
  refine XQ.seq E0_ok (by kernel_rfl) ?_
  refine XQ.region (by kernel_rfl) ?_
  refine XR.run E0_ok 1 1 [0, 1, 2] rfl (σ' := [(0, .int .i64 a), (1, .int .i64 1), (2, .int .i64 16)]) (h' := []) (c' := 0) (by kernel_rfl) ?_
  refine XR.done (by kernel_rfl) ?_
  show XQ _ _ _ _ _ _ _ _
  refine XQ.seq E0_ok (by kernel_rfl) ?_
  refine XQ.region (by kernel_rfl) ?_
  refine XR.run E0_ok 1 4 [0, 2, 10] rfl (σ' := [(0, .int .i64 a), (2, .int .i64 16), (10, .bool (decide ((1 : Int) ≤ a)))]) (h' := []) (c' := 0) (by kernel_rfl) ?_
  cases b1 : (decide ((1 : Int) ≤ a) : Bool) with
  | true =>
    have h := cT b1 h
    refine XR.run E0_ok 1 5 [6] rfl (σ' := [(6, .bool (decide (a ≤ 16)))]) (h' := []) (c' := 0) (by kernel_rfl) ?_
    refine XR.done (by kernel_rfl) ?_
    show XQ _ _ _ _ _ _ _ _
    refine XQ.ret (by kernel_rfl) ?_
    refine ⟨fun i q => (by cases q), .bool (decide (a ≤ 16)), (by kernel_rfl), ?_⟩
    refine XR.conv (σ' := [(0, .int .i64 a), (1, .int .i64 b), (6, .bool (decide (a ≤ 16)))]) (h' := []) (c' := 0) ?_ (by kernel_rfl)
    refine XR.run E0_ok 1 2 [0, 1, 8] rfl (σ' := [(0, .int .i64 a), (1, .int .i64 b), (8, .bool (!(decide (a ≤ 16))))]) (h' := []) (c' := 0) (by kernel_rfl) ?_
    cases b2 : (!(decide (a ≤ 16)) : Bool) with
    | true =>
      have h := cT b2 h
      refine XR.run E0_ok 1 5 [13] rfl (σ' := [(13, .bool true)]) (h' := []) (c' := 0) (by kernel_rfl) ?_
      refine XR.done (by kernel_rfl) ?_
      show XQ _ _ _ _ _ _ _ _
      refine XQ.cond (s := (.tmp 13)) (b := true) (by kernel_rfl) (by kernel_rfl) (fun _ => ?_) (fun q => by cases q)
      refine XQ.seq E0_ok (by kernel_rfl) ?_
      refine XQ.region (by kernel_rfl) ?_
      refine XR.run E0_ok 1 1 [4] rfl (σ' := [(4, .int .i64 1)]) (h' := []) (c' := 0) (by kernel_rfl) ?_
      refine XR.done (by kernel_rfl) ?_
      show XQ _ _ _ _ _ _ _ _
      refine XQ.ret (by kernel_rfl) ?_
      refine ⟨fun i q => (by cases q), .int .i64 1, (by kernel_rfl), ?_⟩
      refine XR.conv (σ' := [(0, .int .i64 a), (1, .int .i64 b), (2, .int .i64 c), (11, .int .i64 1)]) (h' := []) (c' := 0) ?_ (by kernel_rfl)
      refine XR.run E0_ok 1 1 [0, 1, 2, 8] rfl (σ' := [(0, .int .i64 a), (1, .int .i64 b), (2, .int .i64 c), (8, .int .i64 1)]) (h' := []) (c' := 0) (by kernel_rfl) ?_
      refine XR.done (by kernel_rfl) ?_
      show XQ _ _ _ _ _ _ _ _
      refine XQ.seq E0_ok (by kernel_rfl) ?_
      refine XQ.block (id := 0) (by kernel_rfl) ?_
      refine XQ.seq E0_ok (by kernel_rfl) ?_
      refine XQ.region (by kernel_rfl) ?_
      refine XR.run E0_ok 1 3 [0, 1, 2, 8, 12] rfl (σ' := [(0, .int .i64 a), (1, .int .i64 b), (2, .int .i64 c), (8, .int .i64 1), (12, .bool true)]) (h' := []) (c' := 0) (by kernel_rfl) ?_
      refine XR.done (by kernel_rfl) ?_
      show XQ _ _ _ _ _ _ _ _
      refine XQ.cond (s := (.tmp 12)) (b := true) (by kernel_rfl) (by kernel_rfl) (fun _ => ?_) (fun q => by cases q)
      refine XQ.seq E0_ok (by kernel_rfl) ?_
      refine XQ.region (by kernel_rfl) ?_
      refine XR.run E0_ok 1 3 [6, 7] rfl (σ' := [(6, .int .i64 0), (7, .int .i64 1)]) (h' := []) (c' := 0) (by kernel_rfl) ?_
      refine XR.done (by kernel_rfl) ?_
      show XQ _ _ _ _ _ _ _ _
      refine XQ.ret (by kernel_rfl) ?_
      have h := Option.some.inj h
      subst h
      exact ⟨fun i q => (by cases q), .tuple #[.int .i64 0, .int .i64 1], (by kernel_rfl), rfl⟩
    | false =>
      have h := cF b2 h
      refine XR.run E0_ok 1 2 [8, 9, 10] rfl (σ' := [(8, .bool false), (9, .int .i64 b), (10, .int .i64 a)]) (h' := []) (c' := 0) (by kernel_rfl) ?_
      refine XR.callK E0_ok [8, 11] rfl (K := 47) (args := [.int .i64 b, .int .i64 0, .int .i64 a]) (d := (some (path 12 11))) (by kernel_rfl) ?_
      refine KC.bodyN E0_ok (F := Proofs.Try.f47) (by kernel_rfl) (code := f23_C47) (by kernel_rfl) (nt := 15) (by kernel_rfl) (rs := [.tmp 6]) (by kernel_rfl) (by kernel_rfl) (σ := [(0, .int .i64 b), (1, .int .i64 0), (2, .int .i64 a)]) (by kernel_rfl) ?_
      refine XQ.seq E0_ok (by kernel_rfl) ?_
      refine XQ.region (by kernel_rfl) ?_
      refine XR.run E0_ok 1 1 [0, 1, 2] rfl (σ' := [(0, .int .i64 b), (1, .int .i64 0), (2, .int .i64 a)]) (h' := []) (c' := 0) (by kernel_rfl) ?_
      refine XR.done (by kernel_rfl) ?_
      show XQ _ _ _ _ _ _ _ _
      refine XQ.seq E0_ok (by kernel_rfl) ?_
      refine XQ.region (by kernel_rfl) ?_
      refine XR.run E0_ok 1 4 [0, 2, 10] rfl (σ' := [(0, .int .i64 b), (2, .int .i64 a), (10, .bool (decide ((0 : Int) ≤ b)))]) (h' := []) (c' := 0) (by kernel_rfl) ?_
      cases b3 : (decide ((0 : Int) ≤ b) : Bool) with
      | true =>
        have h := cT b3 h
        refine XR.run E0_ok 1 5 [6] rfl (σ' := [(6, .bool (decide (b ≤ a)))]) (h' := []) (c' := 0) (by kernel_rfl) ?_
        refine XR.done (by kernel_rfl) ?_
        show XQ _ _ _ _ _ _ _ _
        refine XQ.ret (by kernel_rfl) ?_
        refine ⟨fun i q => (by cases q), .bool (decide (b ≤ a)), (by kernel_rfl), ?_⟩
        refine XR.conv (σ' := [(8, .bool false), (11, .bool (decide (b ≤ a)))]) (h' := []) (c' := 0) ?_ (by kernel_rfl)
        refine XR.run E0_ok 1 2 [13] rfl (σ' := [(13, .bool (!(decide (b ≤ a))))]) (h' := []) (c' := 0) (by kernel_rfl) ?_
        refine XR.done (by kernel_rfl) ?_
        show XQ _ _ _ _ _ _ _ _
        cases b4 : (!(decide (b ≤ a)) : Bool) with
        | true =>
          have h := cT b4 h
          refine XQ.cond (s := (.tmp 13)) (b := true) (by kernel_rfl) (by kernel_rfl) (fun _ => ?_) (fun q => by cases q)
          refine XQ.seq E0_ok (by kernel_rfl) ?_
          refine XQ.region (by kernel_rfl) ?_
          refine XR.run E0_ok 1 1 [4] rfl (σ' := [(4, .int .i64 1)]) (h' := []) (c' := 0) (by kernel_rfl) ?_
          refine XR.done (by kernel_rfl) ?_
          show XQ _ _ _ _ _ _ _ _
          refine XQ.ret (by kernel_rfl) ?_
          refine ⟨fun i q => (by cases q), .int .i64 1, (by kernel_rfl), ?_⟩
          refine XR.conv (σ' := [(0, .int .i64 a), (1, .int .i64 b), (2, .int .i64 c), (11, .int .i64 1)]) (h' := []) (c' := 0) ?_ (by kernel_rfl)
          refine XR.run E0_ok 1 1 [0, 1, 2, 8] rfl (σ' := [(0, .int .i64 a), (1, .int .i64 b), (2, .int .i64 c), (8, .int .i64 1)]) (h' := []) (c' := 0) (by kernel_rfl) ?_
          refine XR.done (by kernel_rfl) ?_
          show XQ _ _ _ _ _ _ _ _
          refine XQ.seq E0_ok (by kernel_rfl) ?_
          refine XQ.block (id := 0) (by kernel_rfl) ?_
          refine XQ.seq E0_ok (by kernel_rfl) ?_
          refine XQ.region (by kernel_rfl) ?_
          refine XR.run E0_ok 1 3 [0, 1, 2, 8, 12] rfl (σ' := [(0, .int .i64 a), (1, .int .i64 b), (2, .int .i64 c), (8, .int .i64 1), (12, .bool true)]) (h' := []) (c' := 0) (by kernel_rfl) ?_
          refine XR.done (by kernel_rfl) ?_
          show XQ _ _ _ _ _ _ _ _
          refine XQ.cond (s := (.tmp 12)) (b := true) (by kernel_rfl) (by kernel_rfl) (fun _ => ?_) (fun q => by cases q)
          refine XQ.seq E0_ok (by kernel_rfl) ?_
          refine XQ.region (by kernel_rfl) ?_
          refine XR.run E0_ok 1 3 [6, 7] rfl (σ' := [(6, .int .i64 0), (7, .int .i64 1)]) (h' := []) (c' := 0) (by kernel_rfl) ?_
          refine XR.done (by kernel_rfl) ?_
          show XQ _ _ _ _ _ _ _ _
          refine XQ.ret (by kernel_rfl) ?_
          have h := Option.some.inj h
          subst h
          exact ⟨fun i q => (by cases q), .tuple #[.int .i64 0, .int .i64 1], (by kernel_rfl), rfl⟩
        | false =>
          have h := cF b4 h
          refine XQ.cond (s := (.tmp 13)) (b := false) (by kernel_rfl) (by kernel_rfl) (fun q => by cases q) (fun _ => ?_)
          refine XQ.skip (by kernel_rfl) ?_
          show XQ _ _ _ _ _ _ _ _
          refine XQ.seq E0_ok (by kernel_rfl) ?_
          refine XQ.region (by kernel_rfl) ?_
          refine XR.run E0_ok 1 1 [4] rfl (σ' := [(4, .int .i64 0)]) (h' := []) (c' := 0) (by kernel_rfl) ?_
          refine XR.done (by kernel_rfl) ?_
          show XQ _ _ _ _ _ _ _ _
          refine XQ.ret (by kernel_rfl) ?_
          refine ⟨fun i q => (by cases q), .int .i64 0, (by kernel_rfl), ?_⟩
          refine XR.conv (σ' := [(0, .int .i64 a), (1, .int .i64 b), (2, .int .i64 c), (11, .int .i64 0)]) (h' := []) (c' := 0) ?_ (by kernel_rfl)
          refine XR.run E0_ok 1 1 [0, 1, 2, 8] rfl (σ' := [(0, .int .i64 a), (1, .int .i64 b), (2, .int .i64 c), (8, .int .i64 0)]) (h' := []) (c' := 0) (by kernel_rfl) ?_
          refine XR.done (by kernel_rfl) ?_
          show XQ _ _ _ _ _ _ _ _
          refine XQ.seq E0_ok (by kernel_rfl) ?_
          refine XQ.block (id := 0) (by kernel_rfl) ?_
          refine XQ.seq E0_ok (by kernel_rfl) ?_
          refine XQ.region (by kernel_rfl) ?_
          refine XR.run E0_ok 1 3 [0, 1, 2, 8, 12] rfl (σ' := [(0, .int .i64 a), (1, .int .i64 b), (2, .int .i64 c), (8, .int .i64 0), (12, .bool false)]) (h' := []) (c' := 0) (by kernel_rfl) ?_
          refine XR.done (by kernel_rfl) ?_
          show XQ _ _ _ _ _ _ _ _
          refine XQ.cond (s := (.tmp 12)) (b := false) (by kernel_rfl) (by kernel_rfl) (fun q => by cases q) (fun _ => ?_)
          refine XQ.seq E0_ok (by kernel_rfl) ?_
          refine XQ.region (by kernel_rfl) ?_
          refine XR.run E0_ok 1 3 [0, 1, 2, 17, 19] rfl (σ' := [(0, .int .i64 a), (1, .int .i64 b), (2, .int .i64 c), (17, .int .i64 c), (19, .int .i64 (w64 (b - 1)))]) (h' := []) (c' := 0) (by kernel_rfl) ?_
          refine XR.callK E0_ok [0, 1, 2, 20] rfl (K := 47) (args := [.int .i64 c, .int .i64 0, .int .i64 (w64 (b - 1))]) (d := (some (path 12 20))) (by kernel_rfl) ?_
          refine KC.bodyN E0_ok (F := Proofs.Try.f47) (by kernel_rfl) (code := f23_C47) (by kernel_rfl) (nt := 15) (by kernel_rfl) (rs := [.tmp 6]) (by kernel_rfl) (by kernel_rfl) (σ := [(0, .int .i64 c), (1, .int .i64 0), (2, .int .i64 (w64 (b - 1)))]) (by kernel_rfl) ?_
          refine XQ.seq E0_ok (by kernel_rfl) ?_
          refine XQ.region (by kernel_rfl) ?_
          refine XR.run E0_ok 1 1 [0, 1, 2] rfl (σ' := [(0, .int .i64 c), (1, .int .i64 0), (2, .int .i64 (w64 (b - 1)))]) (h' := []) (c' := 0) (by kernel_rfl) ?_
          refine XR.done (by kernel_rfl) ?_
          show XQ _ _ _ _ _ _ _ _
          refine XQ.seq E0_ok (by kernel_rfl) ?_
          refine XQ.region (by kernel_rfl) ?_
          refine XR.run E0_ok 1 4 [0, 2, 10] rfl (σ' := [(0, .int .i64 c), (2, .int .i64 (w64 (b - 1))), (10, .bool (decide ((0 : Int) ≤ c)))]) (h' := []) (c' := 0) (by kernel_rfl) ?_
          cases b5 : (decide ((0 : Int) ≤ c) : Bool) with
          | true =>
            have h := cT b5 h
            refine XR.run E0_ok 1 5 [6] rfl (σ' := [(6, .bool (decide (c ≤ (w64 (b - 1)))))]) (h' := []) (c' := 0) (by kernel_rfl) ?_
            refine XR.done (by kernel_rfl) ?_
            show XQ _ _ _ _ _ _ _ _
            refine XQ.ret (by kernel_rfl) ?_
            refine ⟨fun i q => (by cases q), .bool (decide (c ≤ (w64 (b - 1)))), (by kernel_rfl), ?_⟩
            refine XR.conv (σ' := [(0, .int .i64 a), (1, .int .i64 b), (2, .int .i64 c), (20, .bool (decide (c ≤ (w64 (b - 1)))))]) (h' := []) (c' := 0) ?_ (by kernel_rfl)
            refine XR.run E0_ok 1 2 [0, 1, 2, 16] rfl (σ' := [(0, .int .i64 a), (1, .int .i64 b), (2, .int .i64 c), (16, .bool (!(decide (c ≤ (w64 (b - 1))))))]) (h' := []) (c' := 0) (by kernel_rfl) ?_
            refine XR.done (by kernel_rfl) ?_
            show XQ _ _ _ _ _ _ _ _
            cases b6 : (!(decide (c ≤ (w64 (b - 1)))) : Bool) with
            | true =>
              have h := cT b6 h
              refine XQ.cond (s := (.tmp 16)) (b := true) (by kernel_rfl) (by kernel_rfl) (fun _ => ?_) (fun q => by cases q)
              refine XQ.seq E0_ok (by kernel_rfl) ?_
              refine XQ.region (by kernel_rfl) ?_
              refine XR.run E0_ok 1 2 [6, 7] rfl (σ' := [(6, .int .i64 0), (7, .int .i64 2)]) (h' := []) (c' := 0) (by kernel_rfl) ?_
              refine XR.done (by kernel_rfl) ?_
              show XQ _ _ _ _ _ _ _ _
              refine XQ.ret (by kernel_rfl) ?_
              have h := Option.some.inj h
              subst h
              exact ⟨fun i q => (by cases q), .tuple #[.int .i64 0, .int .i64 2], (by kernel_rfl), rfl⟩
            | false =>
              have h := cF b6 h
              refine XQ.cond (s := (.tmp 16)) (b := false) (by kernel_rfl) (by kernel_rfl) (fun q => by cases q) (fun _ => ?_)
              refine XQ.skip (by kernel_rfl) ?_
              show XQ _ _ _ _ _ _ _ _
              refine XQ.seq E0_ok (by kernel_rfl) ?_
              refine XQ.region (by kernel_rfl) ?_
              refine XR.run E0_ok 1 8 [28, 29] rfl (σ' := [(28, .int .i64 (w64 ((w64 ((w64 ((w64 (c + 1)) * a)) + b)) - 1))), (29, .int .i64 b)]) (h' := []) (c' := 0) (by kernel_rfl) ?_
              cases b7 : (b != 0 : Bool) with
              | false => cases (cF b7 h)
              | true =>
                have h := cT b7 h
                have e8 : insV (headI ((gsOf E0 32 (opsOf (lft (rgt (rgt (rgt f23_C23)))))).drop 8) (trS 32 [(28, .int .i64 (w64 ((w64 ((w64 ((w64 (c + 1)) * a)) + b)) - 1))), (29, .int .i64 b)])) (trS 32 [(28, .int .i64 (w64 ((w64 ((w64 ((w64 (c + 1)) * a)) + b)) - 1))), (29, .int .i64 b)]) [] = (match (b != 0 : Bool) with | true => some (.int .i64 (w64 (Int.tdiv (w64 ((w64 ((w64 ((w64 (c + 1)) * a)) + b)) - 1)) b))) | false => none) := by kernel_rfl
                refine XR.rd E0_ok [30] rfl (e8.trans (by rw [b7])) (σ' := [(30, .int .i64 (w64 (Int.tdiv (w64 ((w64 ((w64 ((w64 (c + 1)) * a)) + b)) - 1)) b)))]) (by kernel_rfl) ?_
                refine XR.run E0_ok 1 3 [6, 7] rfl (σ' := [(6, .int .i64 (w64 ((w64 (Int.tdiv (w64 ((w64 ((w64 ((w64 (c + 1)) * a)) + b)) - 1)) b)) - 1))), (7, .int .i64 0)]) (h' := []) (c' := 0) (by kernel_rfl) ?_
                refine XR.done (by kernel_rfl) ?_
                show XQ _ _ _ _ _ _ _ _
                refine XQ.ret (by kernel_rfl) ?_
                have h := Option.some.inj h
                subst h
                exact ⟨fun i q => (by cases q), .tuple #[.int .i64 (w64 ((w64 (Int.tdiv (w64 ((w64 ((w64 ((w64 (c + 1)) * a)) + b)) - 1)) b)) - 1)), .int .i64 0], (by kernel_rfl), rfl⟩
          | false =>
            have h := cF b5 h
            refine XR.run E0_ok 1 5 [6] rfl (σ' := [(6, .bool false)]) (h' := []) (c' := 0) (by kernel_rfl) ?_
            refine XR.done (by kernel_rfl) ?_
            show XQ _ _ _ _ _ _ _ _
            refine XQ.ret (by kernel_rfl) ?_
            refine ⟨fun i q => (by cases q), .bool false, (by kernel_rfl), ?_⟩
            refine XR.conv (σ' := [(0, .int .i64 a), (1, .int .i64 b), (2, .int .i64 c), (20, .bool false)]) (h' := []) (c' := 0) ?_ (by kernel_rfl)
            refine XR.run E0_ok 1 2 [0, 1, 2, 16] rfl (σ' := [(0, .int .i64 a), (1, .int .i64 b), (2, .int .i64 c), (16, .bool true)]) (h' := []) (c' := 0) (by kernel_rfl) ?_
            refine XR.done (by kernel_rfl) ?_
            show XQ _ _ _ _ _ _ _ _
            refine XQ.cond (s := (.tmp 16)) (b := true) (by kernel_rfl) (by kernel_rfl) (fun _ => ?_) (fun q => by cases q)
            refine XQ.seq E0_ok (by kernel_rfl) ?_
            refine XQ.region (by kernel_rfl) ?_
            refine XR.run E0_ok 1 2 [6, 7] rfl (σ' := [(6, .int .i64 0), (7, .int .i64 2)]) (h' := []) (c' := 0) (by kernel_rfl) ?_
            refine XR.done (by kernel_rfl) ?_
            show XQ _ _ _ _ _ _ _ _
            refine XQ.ret (by kernel_rfl) ?_
            have h := Option.some.inj h
            subst h
            exact ⟨fun i q => (by cases q), .tuple #[.int .i64 0, .int .i64 2], (by kernel_rfl), rfl⟩
      | false =>
        have h := cF b3 h
        refine XR.run E0_ok 1 5 [6] rfl (σ' := [(6, .bool false)]) (h' := []) (c' := 0) (by kernel_rfl) ?_
        refine XR.done (by kernel_rfl) ?_
        show XQ _ _ _ _ _ _ _ _
        refine XQ.ret (by kernel_rfl) ?_
        refine ⟨fun i q => (by cases q), .bool false, (by kernel_rfl), ?_⟩
        refine XR.conv (σ' := [(8, .bool false), (11, .bool false)]) (h' := []) (c' := 0) ?_ (by kernel_rfl)
        refine XR.run E0_ok 1 2 [13] rfl (σ' := [(13, .bool true)]) (h' := []) (c' := 0) (by kernel_rfl) ?_
        refine XR.done (by kernel_rfl) ?_
        show XQ _ _ _ _ _ _ _ _
        refine XQ.cond (s := (.tmp 13)) (b := true) (by kernel_rfl) (by kernel_rfl) (fun _ => ?_) (fun q => by cases q)
        refine XQ.seq E0_ok (by kernel_rfl) ?_
        refine XQ.region (by kernel_rfl) ?_
        refine XR.run E0_ok 1 1 [4] rfl (σ' := [(4, .int .i64 1)]) (h' := []) (c' := 0) (by kernel_rfl) ?_
        refine XR.done (by kernel_rfl) ?_
        show XQ _ _ _ _ _ _ _ _
        refine XQ.ret (by kernel_rfl) ?_
        refine ⟨fun i q => (by cases q), .int .i64 1, (by kernel_rfl), ?_⟩
        refine XR.conv (σ' := [(0, .int .i64 a), (1, .int .i64 b), (2, .int .i64 c), (11, .int .i64 1)]) (h' := []) (c' := 0) ?_ (by kernel_rfl)
        refine XR.run E0_ok 1 1 [0, 1, 2, 8] rfl (σ' := [(0, .int .i64 a), (1, .int .i64 b), (2, .int .i64 c), (8, .int .i64 1)]) (h' := []) (c' := 0) (by kernel_rfl) ?_
        refine XR.done (by kernel_rfl) ?_
        show XQ _ _ _ _ _ _ _ _
        refine XQ.seq E0_ok (by kernel_rfl) ?_
        refine XQ.block (id := 0) (by kernel_rfl) ?_
        refine XQ.seq E0_ok (by kernel_rfl) ?_
        refine XQ.region (by kernel_rfl) ?_
        refine XR.run E0_ok 1 3 [0, 1, 2, 8, 12] rfl (σ' := [(0, .int .i64 a), (1, .int .i64 b), (2, .int .i64 c), (8, .int .i64 1), (12, .bool true)]) (h' := []) (c' := 0) (by kernel_rfl) ?_
        refine XR.done (by kernel_rfl) ?_
        show XQ _ _ _ _ _ _ _ _
        refine XQ.cond (s := (.tmp 12)) (b := true) (by kernel_rfl) (by kernel_rfl) (fun _ => ?_) (fun q => by cases q)
        refine XQ.seq E0_ok (by kernel_rfl) ?_
        refine XQ.region (by kernel_rfl) ?_
        refine XR.run E0_ok 1 3 [6, 7] rfl (σ' := [(6, .int .i64 0), (7, .int .i64 1)]) (h' := []) (c' := 0) (by kernel_rfl) ?_
        refine XR.done (by kernel_rfl) ?_
        show XQ _ _ _ _ _ _ _ _
        refine XQ.ret (by kernel_rfl) ?_
        have h := Option.some.inj h
        subst h
        exact ⟨fun i q => (by cases q), .tuple #[.int .i64 0, .int .i64 1], (by kernel_rfl), rfl⟩
  | false =>
    have h := cF b1 h
    refine XR.run E0_ok 1 5 [6] rfl (σ' := [(6, .bool false)]) (h' := []) (c' := 0) (by kernel_rfl) ?_
    refine XR.done (by kernel_rfl) ?_
    show XQ _ _ _ _ _ _ _ _
    refine XQ.ret (by kernel_rfl) ?_
    refine ⟨fun i q => (by cases q), .bool false, (by kernel_rfl), ?_⟩
    refine XR.conv (σ' := [(0, .int .i64 a), (1, .int .i64 b), (6, .bool false)]) (h' := []) (c' := 0) ?_ (by kernel_rfl)
    refine XR.run E0_ok 1 7 [13] rfl (σ' := [(13, .bool true)]) (h' := []) (c' := 0) (by kernel_rfl) ?_
    refine XR.done (by kernel_rfl) ?_
    show XQ _ _ _ _ _ _ _ _
    refine XQ.cond (s := (.tmp 13)) (b := true) (by kernel_rfl) (by kernel_rfl) (fun _ => ?_) (fun q => by cases q)
    refine XQ.seq E0_ok (by kernel_rfl) ?_
    refine XQ.region (by kernel_rfl) ?_
    refine XR.run E0_ok 1 1 [4] rfl (σ' := [(4, .int .i64 1)]) (h' := []) (c' := 0) (by kernel_rfl) ?_
    refine XR.done (by kernel_rfl) ?_
    show XQ _ _ _ _ _ _ _ _
    refine XQ.ret (by kernel_rfl) ?_
    refine ⟨fun i q => (by cases q), .int .i64 1, (by kernel_rfl), ?_⟩
    refine XR.conv (σ' := [(0, .int .i64 a), (1, .int .i64 b), (2, .int .i64 c), (11, .int .i64 1)]) (h' := []) (c' := 0) ?_ (by kernel_rfl)
    refine XR.run E0_ok 1 1 [0, 1, 2, 8] rfl (σ' := [(0, .int .i64 a), (1, .int .i64 b), (2, .int .i64 c), (8, .int .i64 1)]) (h' := []) (c' := 0) (by kernel_rfl) ?_
    refine XR.done (by kernel_rfl) ?_
    show XQ _ _ _ _ _ _ _ _
    refine XQ.seq E0_ok (by kernel_rfl) ?_
    refine XQ.block (id := 0) (by kernel_rfl) ?_
    refine XQ.seq E0_ok (by kernel_rfl) ?_
    refine XQ.region (by kernel_rfl) ?_
    refine XR.run E0_ok 1 3 [0, 1, 2, 8, 12] rfl (σ' := [(0, .int .i64 a), (1, .int .i64 b), (2, .int .i64 c), (8, .int .i64 1), (12, .bool true)]) (h' := []) (c' := 0) (by kernel_rfl) ?_
    refine XR.done (by kernel_rfl) ?_
    show XQ _ _ _ _ _ _ _ _
    refine XQ.cond (s := (.tmp 12)) (b := true) (by kernel_rfl) (by kernel_rfl) (fun _ => ?_) (fun q => by cases q)
    refine XQ.seq E0_ok (by kernel_rfl) ?_
    refine XQ.region (by kernel_rfl) ?_
    refine XR.run E0_ok 1 3 [6, 7] rfl (σ' := [(6, .int .i64 0), (7, .int .i64 1)]) (h' := []) (c' := 0) (by kernel_rfl) ?_
    refine XR.done (by kernel_rfl) ?_
    show XQ _ _ _ _ _ _ _ _
    refine XQ.ret (by kernel_rfl) ?_
    have h := Option.some.inj h
    subst h
    exact ⟨fun i q => (by cases q), .tuple #[.int .i64 0, .int .i64 1], (by kernel_rfl), rfl⟩

/-! vitola/vitolaref08.Place -/
noncomputable def f24_C24 : Code := Proofs.Try.f24.body.getD .skip
noncomputable def f24_C55 : Code := Proofs.Try.f55.body.getD .skip
noncomputable def f24_C50 : Code := Proofs.Try.f50.body.getD .skip
noncomputable def f24_L1 : Code := lft (lft (lft (rgt (rgt (rgt (rgt (rgt (rgt f24_C24))))))))

def f24_1 (m : Nat) : Nat → Int → ByteArray → Int → Option Int
  | 0, _, _, _ => none
  | fuel + 1, x2_1, s9_1, x10_1 =>
    cond (inRow x10_1 s9_1.size) (
      cond ((byteAt s9_1 x10_1) != 98) (
        f24_1 m fuel (cond ((byteAt s9_1 x10_1) == 98) (w64 (x2_1 - 1)) x2_1) s9_1 (w64 (x10_1 + 1))
      ) (
        cond (decide (x2_1 > 0)) (
          f24_1 m fuel (cond ((byteAt s9_1 x10_1) == 98) (w64 (x2_1 - 1)) x2_1) s9_1 (w64 (x10_1 + 1))
        ) (
          some (x10_1)
        )
      )
    ) none

theorem f24_1_ok (m : Nat) : ∀ (fuel : Nat) (x2_1 : Int) (s9_1 : ByteArray) (x10_1 : Int) (o : Int), f24_1 m fuel x2_1 s9_1 x10_1 = some o → ∀ Q : QP, Q (.exit 0) [(10, .int .i64 o)] [] 0 → XL E0 46 0 fuel f24_L1 [(2, .int .i64 x2_1), (9, .string s9_1), (10, .int .i64 x10_1)] [] 0 Q
  | 0, x2_1, s9_1, x10_1, o, h, Q, hQ => by cases h
  | fuel + 1, x2_1, s9_1, x10_1, o, h, Q, hQ => by
    unfold f24_1 at h
    refine XL.succ E0_ok ?_
    refine XQ.seq E0_ok (by kernel_rfl) ?_
    refine XQ.seq E0_ok (by kernel_rfl) ?_
    refine XQ.region (by kernel_rfl) ?_
    refine XR.run E0_ok 1 2 [2, 9, 10, 29, 30] rfl (σ' := [(2, .int .i64 x2_1), (9, .string s9_1), (10, .int .i64 x10_1), (29, .string s9_1), (30, .int .i64 x10_1)]) (h' := []) (c' := 0) (by kernel_rfl) ?_
    cases b1 : (inRow x10_1 s9_1.size : Bool) with
    | false => cases (cF b1 h)
    | true =>
      have h := cT b1 h
      have e2 : insV (headI ((gsOf E0 46 (opsOf (lft (lft f24_L1)))).drop 2) (trS 46 [(2, .int .i64 x2_1), (9, .string s9_1), (10, .int .i64 x10_1), (29, .string s9_1), (30, .int .i64 x10_1)])) (trS 46 [(2, .int .i64 x2_1), (9, .string s9_1), (10, .int .i64 x10_1), (29, .string s9_1), (30, .int .i64 x10_1)]) [] = (match (inRow x10_1 s9_1.size : Bool) with | true => some (.int .u8 (byteAt s9_1 x10_1)) | false => none) := by kernel_rfl
      refine XR.rd E0_ok [2, 9, 10, 31] rfl (e2.trans (by rw [b1])) (σ' := [(2, .int .i64 x2_1), (9, .string s9_1), (10, .int .i64 x10_1), (31, .int .u8 (byteAt s9_1 x10_1))]) (by kernel_rfl) ?_
      refine XR.run E0_ok 1 2 [2, 9, 10, 33] rfl (σ' := [(2, .int .i64 x2_1), (9, .string s9_1), (10, .int .i64 x10_1), (33, .bool ((byteAt s9_1 x10_1) != 98))]) (h' := []) (c' := 0) (by kernel_rfl) ?_
      cases b3 : ((byteAt s9_1 x10_1) != 98 : Bool) with
      | true =>
        have h := cT b3 h
        refine XR.run E0_ok 1 3 [2, 9, 10, 36] rfl (σ' := [(2, .int .i64 x2_1), (9, .string s9_1), (10, .int .i64 x10_1), (36, .bool true)]) (h' := []) (c' := 0) (by kernel_rfl) ?_
        refine XR.done (by kernel_rfl) ?_
        show XQ _ _ _ _ _ _ _ _
        refine XQ.cond (s := (.tmp 36)) (b := true) (by kernel_rfl) (by kernel_rfl) (fun _ => ?_) (fun q => by cases q)
        refine XQ.skip (by kernel_rfl) ?_
        show XQ _ _ _ _ _ _ _ _
        refine XQ.block (id := 1) (by kernel_rfl) ?_
        refine XQ.seq E0_ok (by kernel_rfl) ?_
        refine XQ.seq E0_ok (by kernel_rfl) ?_
        refine XQ.region (by kernel_rfl) ?_
        refine XR.run E0_ok 1 2 [2, 9, 10, 37, 38] rfl (σ' := [(2, .int .i64 x2_1), (9, .string s9_1), (10, .int .i64 x10_1), (37, .string s9_1), (38, .int .i64 x10_1)]) (h' := []) (c' := 0) (by kernel_rfl) ?_
        have e4 : insV (headI ((gsOf E0 46 (opsOf (lft (lft (lft (rgt f24_L1)))))).drop 2) (trS 46 [(2, .int .i64 x2_1), (9, .string s9_1), (10, .int .i64 x10_1), (37, .string s9_1), (38, .int .i64 x10_1)])) (trS 46 [(2, .int .i64 x2_1), (9, .string s9_1), (10, .int .i64 x10_1), (37, .string s9_1), (38, .int .i64 x10_1)]) [] = (match (inRow x10_1 s9_1.size : Bool) with | true => some (.int .u8 (byteAt s9_1 x10_1)) | false => none) := by kernel_rfl
        refine XR.rd E0_ok [2, 9, 10, 39] rfl (e4.trans (by rw [b1])) (σ' := [(2, .int .i64 x2_1), (9, .string s9_1), (10, .int .i64 x10_1), (39, .int .u8 (byteAt s9_1 x10_1))]) (by kernel_rfl) ?_
        refine XR.run E0_ok 1 1 [2, 9, 10, 40] rfl (σ' := [(2, .int .i64 x2_1), (9, .string s9_1), (10, .int .i64 x10_1), (40, .bool ((byteAt s9_1 x10_1) == 98))]) (h' := []) (c' := 0) (by kernel_rfl) ?_
        refine XR.done (by kernel_rfl) ?_
        show XQ _ _ _ _ _ _ _ _
        refine XQ.meetC (σ' := [(2, .int .i64 (cond ((byteAt s9_1 x10_1) == 98) (w64 (x2_1 - 1)) x2_1)), (9, .string s9_1), (10, .int .i64 x10_1)]) (h' := []) (c' := 0) ?_ ?_
        rotate_left
        · refine XQ.cond (s := (.tmp 40)) (b := (byteAt s9_1 x10_1) == 98) (by kernel_rfl) (by kernel_rfl) (fun b5 => ?_) (fun b5 => ?_)
          · refine XQ.region (by kernel_rfl) ?_
            refine XR.run E0_ok 1 3 [2, 9, 10] rfl (σ' := [(2, .int .i64 (w64 (x2_1 - 1))), (9, .string s9_1), (10, .int .i64 x10_1)]) (h' := []) (c' := 0) (by kernel_rfl) ?_
            refine XR.done (by kernel_rfl) ?_
            refine ⟨rfl, ?_, ?_⟩
            · try rw [b5]
              exact ⟨by kernel_rfl, by kernel_rfl, by kernel_rfl, trivial⟩
            · try rw [b5]
              kernel_rfl
          · refine XQ.skip (by kernel_rfl) ?_
            refine ⟨rfl, ?_, ?_⟩
            · try rw [b5]
              exact ⟨by kernel_rfl, by kernel_rfl, by kernel_rfl, trivial⟩
            · try rw [b5]
              kernel_rfl
        show XQ _ _ _ _ _ _ _ _
        refine XQ.region (by kernel_rfl) ?_
        refine XR.run E0_ok 1 3 [2, 9, 10] rfl (σ' := [(2, .int .i64 (cond ((byteAt s9_1 x10_1) == 98) (w64 (x2_1 - 1)) x2_1)), (9, .string s9_1), (10, .int .i64 (w64 (x10_1 + 1)))]) (h' := []) (c' := 0) (by kernel_rfl) ?_
        refine XR.done (by kernel_rfl) ?_
        show XL _ _ _ _ _ _ _ _ _
        refine XL.ren (σ' := [(2, .int .i64 (cond ((byteAt s9_1 x10_1) == 98) (w64 (x2_1 - 1)) x2_1)), (9, .string s9_1), (10, .int .i64 (w64 (x10_1 + 1)))]) (h' := []) (c' := 0) [] (by decide) rfl ⟨by kernel_rfl, by kernel_rfl, by kernel_rfl, trivial⟩ trivial rfl ?_
        refine XL.conv (f24_1_ok m fuel (cond ((byteAt s9_1 x10_1) == 98) (w64 (x2_1 - 1)) x2_1) s9_1 (w64 (x10_1 + 1)) o h Q hQ) (by first | rfl | simp)
      | false =>
        have h := cF b3 h
        refine XR.run E0_ok 1 3 [2, 9, 10, 36] rfl (σ' := [(2, .int .i64 x2_1), (9, .string s9_1), (10, .int .i64 x10_1), (36, .bool (decide (x2_1 > 0)))]) (h' := []) (c' := 0) (by kernel_rfl) ?_
        refine XR.done (by kernel_rfl) ?_
        show XQ _ _ _ _ _ _ _ _
        cases b6 : (decide (x2_1 > 0) : Bool) with
        | true =>
          have h := cT b6 h
          refine XQ.cond (s := (.tmp 36)) (b := true) (by kernel_rfl) (by kernel_rfl) (fun _ => ?_) (fun q => by cases q)
          refine XQ.skip (by kernel_rfl) ?_
          show XQ _ _ _ _ _ _ _ _
          refine XQ.block (id := 1) (by kernel_rfl) ?_
          refine XQ.seq E0_ok (by kernel_rfl) ?_
          refine XQ.seq E0_ok (by kernel_rfl) ?_
          refine XQ.region (by kernel_rfl) ?_
          refine XR.run E0_ok 1 2 [2, 9, 10, 37, 38] rfl (σ' := [(2, .int .i64 x2_1), (9, .string s9_1), (10, .int .i64 x10_1), (37, .string s9_1), (38, .int .i64 x10_1)]) (h' := []) (c' := 0) (by kernel_rfl) ?_
          have e7 : insV (headI ((gsOf E0 46 (opsOf (lft (lft (lft (rgt f24_L1)))))).drop 2) (trS 46 [(2, .int .i64 x2_1), (9, .string s9_1), (10, .int .i64 x10_1), (37, .string s9_1), (38, .int .i64 x10_1)])) (trS 46 [(2, .int .i64 x2_1), (9, .string s9_1), (10, .int .i64 x10_1), (37, .string s9_1), (38, .int .i64 x10_1)]) [] = (match (inRow x10_1 s9_1.size : Bool) with | true => some (.int .u8 (byteAt s9_1 x10_1)) | false => none) := by kernel_rfl
          refine XR.rd E0_ok [2, 9, 10, 39] rfl (e7.trans (by rw [b1])) (σ' := [(2, .int .i64 x2_1), (9, .string s9_1), (10, .int .i64 x10_1), (39, .int .u8 (byteAt s9_1 x10_1))]) (by kernel_rfl) ?_
          refine XR.run E0_ok 1 1 [2, 9, 10, 40] rfl (σ' := [(2, .int .i64 x2_1), (9, .string s9_1), (10, .int .i64 x10_1), (40, .bool ((byteAt s9_1 x10_1) == 98))]) (h' := []) (c' := 0) (by kernel_rfl) ?_
          refine XR.done (by kernel_rfl) ?_
          show XQ _ _ _ _ _ _ _ _
          refine XQ.meetC (σ' := [(2, .int .i64 (cond ((byteAt s9_1 x10_1) == 98) (w64 (x2_1 - 1)) x2_1)), (9, .string s9_1), (10, .int .i64 x10_1)]) (h' := []) (c' := 0) ?_ ?_
          rotate_left
          · refine XQ.cond (s := (.tmp 40)) (b := (byteAt s9_1 x10_1) == 98) (by kernel_rfl) (by kernel_rfl) (fun b8 => ?_) (fun b8 => ?_)
            · refine XQ.region (by kernel_rfl) ?_
              refine XR.run E0_ok 1 3 [2, 9, 10] rfl (σ' := [(2, .int .i64 (w64 (x2_1 - 1))), (9, .string s9_1), (10, .int .i64 x10_1)]) (h' := []) (c' := 0) (by kernel_rfl) ?_
              refine XR.done (by kernel_rfl) ?_
              refine ⟨rfl, ?_, ?_⟩
              · try rw [b8]
                exact ⟨by kernel_rfl, by kernel_rfl, by kernel_rfl, trivial⟩
              · try rw [b8]
                kernel_rfl
            · refine XQ.skip (by kernel_rfl) ?_
              refine ⟨rfl, ?_, ?_⟩
              · try rw [b8]
                exact ⟨by kernel_rfl, by kernel_rfl, by kernel_rfl, trivial⟩
              · try rw [b8]
                kernel_rfl
          show XQ _ _ _ _ _ _ _ _
          refine XQ.region (by kernel_rfl) ?_
          refine XR.run E0_ok 1 3 [2, 9, 10] rfl (σ' := [(2, .int .i64 (cond ((byteAt s9_1 x10_1) == 98) (w64 (x2_1 - 1)) x2_1)), (9, .string s9_1), (10, .int .i64 (w64 (x10_1 + 1)))]) (h' := []) (c' := 0) (by kernel_rfl) ?_
          refine XR.done (by kernel_rfl) ?_
          show XL _ _ _ _ _ _ _ _ _
          refine XL.ren (σ' := [(2, .int .i64 (cond ((byteAt s9_1 x10_1) == 98) (w64 (x2_1 - 1)) x2_1)), (9, .string s9_1), (10, .int .i64 (w64 (x10_1 + 1)))]) (h' := []) (c' := 0) [] (by decide) rfl ⟨by kernel_rfl, by kernel_rfl, by kernel_rfl, trivial⟩ trivial rfl ?_
          refine XL.conv (f24_1_ok m fuel (cond ((byteAt s9_1 x10_1) == 98) (w64 (x2_1 - 1)) x2_1) s9_1 (w64 (x10_1 + 1)) o h Q hQ) (by first | rfl | simp)
        | false =>
          have h := cF b6 h
          refine XQ.cond (s := (.tmp 36)) (b := false) (by kernel_rfl) (by kernel_rfl) (fun q => by cases q) (fun _ => ?_)
          refine XQ.ren (σ' := [(10, .int .i64 x10_1)]) (h' := []) (c' := 0) [] (by decide) rfl ⟨by kernel_rfl, trivial⟩ trivial rfl ?_
          refine XQ.exit (i := 0) (by kernel_rfl) ?_
          cases h
          exact hQ

def f24 (m : Nat) (a : Int) (b : Int) (c : Int) : Option (Int × Int) :=
  cond (decide (a ≥ 1)) (
    cond (!(decide (a ≤ 16))) (
      some (0, 1)
    ) (
      cond (decide (b ≥ 0)) (
        cond (!(decide (b ≤ a))) (
          some (0, 1)
        ) (
          cond (decide (c ≥ 0)) (
            cond ((cond (!(decide (c ≤ (w64 (b - 1))))) 2 0 : Int) != 0) (
              some (0, cond (!(decide (c ≤ (w64 (b - 1))))) 2 0)
            ) (
              (f56 m a b).bind fun r1 =>
                (f24_1 m m c r1 0).bind fun o1 =>
                  some (o1, 0)
            )
          ) (
            some (0, 2)
          )
        )
      ) (
        some (0, 1)
      )
    )
  ) (
    some (0, 1)
  )

theorem f24_ok (m : Nat) (a : Int) (b : Int) (c : Int) (o : Int × Int) (h : f24 m a b c = some o) (w : World) (hI : maxInv w) : Calls Proofs.Try.prog 24 #[.int .i64 a, .int .i64 b, .int .i64 c] w fun e w' => e = .returned (.tuple #[.int .i64 o.1, .int .i64 o.2]) ∧ Below w.heap.size w w' := by
  refine KC.calls (E := E0) (args := [.int .i64 a, .int .i64 b, .int .i64 c]) (v := .tuple #[.int .i64 o.1, .int .i64 o.2]) rfl rfl (KC.bodyN E0_ok (F := Proofs.Try.f24) (by kernel_rfl) (code := f24_C24) (by kernel_rfl) (nt := 46) (by kernel_rfl) (rs := [.tmp 6, .tmp 7]) (by kernel_rfl) (by kernel_rfl) (σ := [(0, .int .i64 a), (1, .int .i64 b), (2, .int .i64 c)]) (by kernel_rfl) ?_) w (maxInv_size hI) hI
  unfold f24 at h
  refine XQ.seq E0_ok (by kernel_rfl) ?_
  refine XQ.region (by kernel_rfl) ?_
  refine XR.run E0_ok 1 2 [0, 1, 2] rfl (σ' := [(0, .int .i64 a), (1, .int .i64 b), (2, .int .i64 c)]) (h' := []) (c' := 0) (by kernel_rfl) ?_
  refine XR.done (by kernel_rfl) ?_
  show XQ _ _ _ _ _ _ _ _
  refine XQ.seq E0_ok (by kernel_rfl) ?_
  refine XQ.region (by kernel_rfl) ?_
  refine XR.run E0_ok 1 2 [0, 1, 2, 11, 12] rfl (σ' := [(0, .int .i64 a), (1, .int .i64 b), (2, .int .i64 c), (11, .int .i64 a), (12, .int .i64 b)]) (h' := []) (c' := 0) (by kernel_rfl) ?_
  refine XR.callK E0_ok [0, 1, 2, 13] rfl (K := 55) (args := [.int .i64 a, .int .i64 b]) (d := (some (path 12 13))) (by kernel_rfl) ?_
  refine KC.bodyN E0_ok (F := Proofs.Try.f55) (by kernel_rfl) (code := f24_C55) (by kernel_rfl) (nt := 14) (by kernel_rfl) (rs := [.tmp 4]) (by kernel_rfl) (by kernel_rfl) (σ := [(0, .int .i64 a), (1, .int .i64 b)]) (by kernel_rfl) ?_
  refine XQ.seq E0_ok (by kernel_rfl) ?_
  refine XQ.region (by kernel_rfl) ?_
  refine XR.run E0_ok 1 1 [0, 1] rfl (σ' := [(0, .int .i64 a), (1, .int .i64 b)]) (h' := []) (c' := 0) (by kernel_rfl) ?_
  refine XR.done (by kernel_rfl) ?_
  show XQ _ _ _ _ _ _ _ _
  refine XQ.seq E0_ok (by kernel_rfl) ?_
  refine XQ.seq E0_ok (by kernel_rfl) ?_
  refine XQ.region (by kernel_rfl) ?_
  refine XR.run E0_ok 1 1 [0, 1, 5] rfl (σ' := [(0, .int .i64 a), (1, .int .i64 b), (5, .int .i64 a)]) (h' := []) (c' := 0) (by kernel_rfl) ?_
  refine XR.callK E0_ok [0, 1, 6] rfl (K := 50) (args := [.int .i64 a, .int .i64 1, .int .i64 16]) (d := (some (path 12 6))) (by kernel_rfl) ?_
  refine KC.bodyN E0_ok (F := Proofs.Try.f50) (by kernel_rfl) (code := f24_C50) (by kernel_rfl) (nt := 15) (by kernel_rfl) (rs := [.tmp 6]) (by kernel_rfl) (by kernel_rfl) (σ := [(0, .int .i64 a), (1, .int .i64 1), (2, .int .i64 16)]) (by kernel_rfl) ?_
  refine XQ.seq E0_ok (by kernel_rfl) ?_
  refine XQ.region (by kernel_rfl) ?_
  refine XR.run E0_ok 1 1 [0, 1, 2] rfl (σ' := [(0, .int .i64 a), (1, .int .i64 1), (2, .int .i64 16)]) (h' := []) (c' := 0) (by kernel_rfl) ?_
  refine XR.done (by kernel_rfl) ?_
  show XQ _ _ _ _ _ _ _ _
  refine XQ.seq E0_ok (by kernel_rfl) ?_
  refine XQ.region (by kernel_rfl) ?_
  refine XR.run E0_ok 1 4 [0, 2, 10] rfl (σ' := [(0, .int .i64 a), (2, .int .i64 16), (10, .bool (decide (a ≥ 1)))]) (h' := []) (c' := 0) (by kernel_rfl) ?_
  cases b1 : (decide (a ≥ 1) : Bool) with
  | true =>
    have h := cT b1 h
    refine XR.run E0_ok 1 5 [6] rfl (σ' := [(6, .bool (decide (a ≤ 16)))]) (h' := []) (c' := 0) (by kernel_rfl) ?_
    refine XR.done (by kernel_rfl) ?_
    show XQ _ _ _ _ _ _ _ _
    refine XQ.ret (by kernel_rfl) ?_
    refine ⟨fun i q => (by cases q), .bool (decide (a ≤ 16)), (by kernel_rfl), ?_⟩
    refine XR.conv (σ' := [(0, .int .i64 a), (1, .int .i64 b), (6, .bool (decide (a ≤ 16)))]) (h' := []) (c' := 0) ?_ (by kernel_rfl)
    refine XR.run E0_ok 1 2 [0, 1, 8] rfl (σ' := [(0, .int .i64 a), (1, .int .i64 b), (8, .bool (!(decide (a ≤ 16))))]) (h' := []) (c' := 0) (by kernel_rfl) ?_
    cases b2 : (!(decide (a ≤ 16)) : Bool) with
    | true =>
      have h := cT b2 h
      refine XR.run E0_ok 1 5 [13] rfl (σ' := [(13, .bool true)]) (h' := []) (c' := 0) (by kernel_rfl) ?_
      refine XR.done (by kernel_rfl) ?_
      show XQ _ _ _ _ _ _ _ _
      refine XQ.cond (s := (.tmp 13)) (b := true) (by kernel_rfl) (by kernel_rfl) (fun _ => ?_) (fun q => by cases q)
      refine XQ.seq E0_ok (by kernel_rfl) ?_
      refine XQ.region (by kernel_rfl) ?_
      refine XR.run E0_ok 1 1 [4] rfl (σ' := [(4, .int .i64 1)]) (h' := []) (c' := 0) (by kernel_rfl) ?_
      refine XR.done (by kernel_rfl) ?_
      show XQ _ _ _ _ _ _ _ _
      refine XQ.ret (by kernel_rfl) ?_
      refine ⟨fun i q => (by cases q), .int .i64 1, (by kernel_rfl), ?_⟩
      refine XR.conv (σ' := [(0, .int .i64 a), (1, .int .i64 b), (2, .int .i64 c), (13, .int .i64 1)]) (h' := []) (c' := 0) ?_ (by kernel_rfl)
      refine XR.run E0_ok 1 1 [0, 1, 2, 8] rfl (σ' := [(0, .int .i64 a), (1, .int .i64 b), (2, .int .i64 c), (8, .int .i64 1)]) (h' := []) (c' := 0) (by kernel_rfl) ?_
      refine XR.done (by kernel_rfl) ?_
      show XQ _ _ _ _ _ _ _ _
      refine XQ.seq E0_ok (by kernel_rfl) ?_
      refine XQ.seq E0_ok (by kernel_rfl) ?_
      refine XQ.region (by kernel_rfl) ?_
      refine XR.run E0_ok 1 9 [0, 1, 2, 8, 22] rfl (σ' := [(0, .int .i64 a), (1, .int .i64 b), (2, .int .i64 c), (8, .int .i64 1), (22, .bool false)]) (h' := []) (c' := 0) (by kernel_rfl) ?_
      refine XR.done (by kernel_rfl) ?_
      show XQ _ _ _ _ _ _ _ _
      refine XQ.cond (s := (.tmp 22)) (b := false) (by kernel_rfl) (by kernel_rfl) (fun q => by cases q) (fun _ => ?_)
      refine XQ.skip (by kernel_rfl) ?_
      show XQ _ _ _ _ _ _ _ _
      refine XQ.seq E0_ok (by kernel_rfl) ?_
      refine XQ.seq E0_ok (by kernel_rfl) ?_
      refine XQ.region (by kernel_rfl) ?_
      refine XR.run E0_ok 1 2 [0, 1, 2, 8, 24] rfl (σ' := [(0, .int .i64 a), (1, .int .i64 b), (2, .int .i64 c), (8, .int .i64 1), (24, .bool true)]) (h' := []) (c' := 0) (by kernel_rfl) ?_
      refine XR.done (by kernel_rfl) ?_
      show XQ _ _ _ _ _ _ _ _
      refine XQ.cond (s := (.tmp 24)) (b := true) (by kernel_rfl) (by kernel_rfl) (fun _ => ?_) (fun q => by cases q)
      refine XQ.seq E0_ok (by kernel_rfl) ?_
      refine XQ.region (by kernel_rfl) ?_
      refine XR.run E0_ok 1 3 [6, 7] rfl (σ' := [(6, .int .i64 0), (7, .int .i64 1)]) (h' := []) (c' := 0) (by kernel_rfl) ?_
      refine XR.done (by kernel_rfl) ?_
      show XQ _ _ _ _ _ _ _ _
      refine XQ.ret (by kernel_rfl) ?_
      have h := Option.some.inj h
      subst h
      exact ⟨fun i q => (by cases q), .tuple #[.int .i64 0, .int .i64 1], (by kernel_rfl), rfl⟩
    | false =>
      have h := cF b2 h
      refine XR.run E0_ok 1 2 [8, 9, 10] rfl (σ' := [(8, .bool false), (9, .int .i64 b), (10, .int .i64 a)]) (h' := []) (c' := 0) (by kernel_rfl) ?_
      refine XR.callK E0_ok [8, 11] rfl (K := 50) (args := [.int .i64 b, .int .i64 0, .int .i64 a]) (d := (some (path 12 11))) (by kernel_rfl) ?_
      refine KC.bodyN E0_ok (F := Proofs.Try.f50) (by kernel_rfl) (code := f24_C50) (by kernel_rfl) (nt := 15) (by kernel_rfl) (rs := [.tmp 6]) (by kernel_rfl) (by kernel_rfl) (σ := [(0, .int .i64 b), (1, .int .i64 0), (2, .int .i64 a)]) (by kernel_rfl) ?_
      refine XQ.seq E0_ok (by kernel_rfl) ?_
      refine XQ.region (by kernel_rfl) ?_
      refine XR.run E0_ok 1 1 [0, 1, 2] rfl (σ' := [(0, .int .i64 b), (1, .int .i64 0), (2, .int .i64 a)]) (h' := []) (c' := 0) (by kernel_rfl) ?_
      refine XR.done (by kernel_rfl) ?_
      show XQ _ _ _ _ _ _ _ _
      refine XQ.seq E0_ok (by kernel_rfl) ?_
      refine XQ.region (by kernel_rfl) ?_
      refine XR.run E0_ok 1 4 [0, 2, 10] rfl (σ' := [(0, .int .i64 b), (2, .int .i64 a), (10, .bool (decide (b ≥ 0)))]) (h' := []) (c' := 0) (by kernel_rfl) ?_
      cases b3 : (decide (b ≥ 0) : Bool) with
      | true =>
        have h := cT b3 h
        refine XR.run E0_ok 1 5 [6] rfl (σ' := [(6, .bool (decide (b ≤ a)))]) (h' := []) (c' := 0) (by kernel_rfl) ?_
        refine XR.done (by kernel_rfl) ?_
        show XQ _ _ _ _ _ _ _ _
        refine XQ.ret (by kernel_rfl) ?_
        refine ⟨fun i q => (by cases q), .bool (decide (b ≤ a)), (by kernel_rfl), ?_⟩
        refine XR.conv (σ' := [(8, .bool false), (11, .bool (decide (b ≤ a)))]) (h' := []) (c' := 0) ?_ (by kernel_rfl)
        refine XR.run E0_ok 1 2 [13] rfl (σ' := [(13, .bool (!(decide (b ≤ a))))]) (h' := []) (c' := 0) (by kernel_rfl) ?_
        refine XR.done (by kernel_rfl) ?_
        show XQ _ _ _ _ _ _ _ _
        cases b4 : (!(decide (b ≤ a)) : Bool) with
        | true =>
          have h := cT b4 h
          refine XQ.cond (s := (.tmp 13)) (b := true) (by kernel_rfl) (by kernel_rfl) (fun _ => ?_) (fun q => by cases q)
          refine XQ.seq E0_ok (by kernel_rfl) ?_
          refine XQ.region (by kernel_rfl) ?_
          refine XR.run E0_ok 1 1 [4] rfl (σ' := [(4, .int .i64 1)]) (h' := []) (c' := 0) (by kernel_rfl) ?_
          refine XR.done (by kernel_rfl) ?_
          show XQ _ _ _ _ _ _ _ _
          refine XQ.ret (by kernel_rfl) ?_
          refine ⟨fun i q => (by cases q), .int .i64 1, (by kernel_rfl), ?_⟩
          refine XR.conv (σ' := [(0, .int .i64 a), (1, .int .i64 b), (2, .int .i64 c), (13, .int .i64 1)]) (h' := []) (c' := 0) ?_ (by kernel_rfl)
          refine XR.run E0_ok 1 1 [0, 1, 2, 8] rfl (σ' := [(0, .int .i64 a), (1, .int .i64 b), (2, .int .i64 c), (8, .int .i64 1)]) (h' := []) (c' := 0) (by kernel_rfl) ?_
          refine XR.done (by kernel_rfl) ?_
          show XQ _ _ _ _ _ _ _ _
          refine XQ.seq E0_ok (by kernel_rfl) ?_
          refine XQ.seq E0_ok (by kernel_rfl) ?_
          refine XQ.region (by kernel_rfl) ?_
          refine XR.run E0_ok 1 9 [0, 1, 2, 8, 22] rfl (σ' := [(0, .int .i64 a), (1, .int .i64 b), (2, .int .i64 c), (8, .int .i64 1), (22, .bool false)]) (h' := []) (c' := 0) (by kernel_rfl) ?_
          refine XR.done (by kernel_rfl) ?_
          show XQ _ _ _ _ _ _ _ _
          refine XQ.cond (s := (.tmp 22)) (b := false) (by kernel_rfl) (by kernel_rfl) (fun q => by cases q) (fun _ => ?_)
          refine XQ.skip (by kernel_rfl) ?_
          show XQ _ _ _ _ _ _ _ _
          refine XQ.seq E0_ok (by kernel_rfl) ?_
          refine XQ.seq E0_ok (by kernel_rfl) ?_
          refine XQ.region (by kernel_rfl) ?_
          refine XR.run E0_ok 1 2 [0, 1, 2, 8, 24] rfl (σ' := [(0, .int .i64 a), (1, .int .i64 b), (2, .int .i64 c), (8, .int .i64 1), (24, .bool true)]) (h' := []) (c' := 0) (by kernel_rfl) ?_
          refine XR.done (by kernel_rfl) ?_
          show XQ _ _ _ _ _ _ _ _
          refine XQ.cond (s := (.tmp 24)) (b := true) (by kernel_rfl) (by kernel_rfl) (fun _ => ?_) (fun q => by cases q)
          refine XQ.seq E0_ok (by kernel_rfl) ?_
          refine XQ.region (by kernel_rfl) ?_
          refine XR.run E0_ok 1 3 [6, 7] rfl (σ' := [(6, .int .i64 0), (7, .int .i64 1)]) (h' := []) (c' := 0) (by kernel_rfl) ?_
          refine XR.done (by kernel_rfl) ?_
          show XQ _ _ _ _ _ _ _ _
          refine XQ.ret (by kernel_rfl) ?_
          have h := Option.some.inj h
          subst h
          exact ⟨fun i q => (by cases q), .tuple #[.int .i64 0, .int .i64 1], (by kernel_rfl), rfl⟩
        | false =>
          have h := cF b4 h
          refine XQ.cond (s := (.tmp 13)) (b := false) (by kernel_rfl) (by kernel_rfl) (fun q => by cases q) (fun _ => ?_)
          refine XQ.skip (by kernel_rfl) ?_
          show XQ _ _ _ _ _ _ _ _
          refine XQ.seq E0_ok (by kernel_rfl) ?_
          refine XQ.region (by kernel_rfl) ?_
          refine XR.run E0_ok 1 1 [4] rfl (σ' := [(4, .int .i64 0)]) (h' := []) (c' := 0) (by kernel_rfl) ?_
          refine XR.done (by kernel_rfl) ?_
          show XQ _ _ _ _ _ _ _ _
          refine XQ.ret (by kernel_rfl) ?_
          refine ⟨fun i q => (by cases q), .int .i64 0, (by kernel_rfl), ?_⟩
          refine XR.conv (σ' := [(0, .int .i64 a), (1, .int .i64 b), (2, .int .i64 c), (13, .int .i64 0)]) (h' := []) (c' := 0) ?_ (by kernel_rfl)
          refine XR.run E0_ok 1 1 [0, 1, 2, 8] rfl (σ' := [(0, .int .i64 a), (1, .int .i64 b), (2, .int .i64 c), (8, .int .i64 0)]) (h' := []) (c' := 0) (by kernel_rfl) ?_
          refine XR.done (by kernel_rfl) ?_
          show XQ _ _ _ _ _ _ _ _
          refine XQ.seq E0_ok (by kernel_rfl) ?_
          refine XQ.seq E0_ok (by kernel_rfl) ?_
          refine XQ.region (by kernel_rfl) ?_
          refine XR.run E0_ok 1 6 [0, 1, 2, 8, 16, 17, 19] rfl (σ' := [(0, .int .i64 a), (1, .int .i64 b), (2, .int .i64 c), (8, .int .i64 0), (16, .bool true), (17, .int .i64 c), (19, .int .i64 (w64 (b - 1)))]) (h' := []) (c' := 0) (by kernel_rfl) ?_
          refine XR.callK E0_ok [0, 1, 2, 8, 16, 20] rfl (K := 50) (args := [.int .i64 c, .int .i64 0, .int .i64 (w64 (b - 1))]) (d := (some (path 12 20))) (by kernel_rfl) ?_
          refine KC.bodyN E0_ok (F := Proofs.Try.f50) (by kernel_rfl) (code := f24_C50) (by kernel_rfl) (nt := 15) (by kernel_rfl) (rs := [.tmp 6]) (by kernel_rfl) (by kernel_rfl) (σ := [(0, .int .i64 c), (1, .int .i64 0), (2, .int .i64 (w64 (b - 1)))]) (by kernel_rfl) ?_
          refine XQ.seq E0_ok (by kernel_rfl) ?_
          refine XQ.region (by kernel_rfl) ?_
          refine XR.run E0_ok 1 1 [0, 1, 2] rfl (σ' := [(0, .int .i64 c), (1, .int .i64 0), (2, .int .i64 (w64 (b - 1)))]) (h' := []) (c' := 0) (by kernel_rfl) ?_
          refine XR.done (by kernel_rfl) ?_
          show XQ _ _ _ _ _ _ _ _
          refine XQ.seq E0_ok (by kernel_rfl) ?_
          refine XQ.region (by kernel_rfl) ?_
          refine XR.run E0_ok 1 4 [0, 2, 10] rfl (σ' := [(0, .int .i64 c), (2, .int .i64 (w64 (b - 1))), (10, .bool (decide (c ≥ 0)))]) (h' := []) (c' := 0) (by kernel_rfl) ?_
          cases b5 : (decide (c ≥ 0) : Bool) with
          | true =>
            have h := cT b5 h
            refine XR.run E0_ok 1 5 [6] rfl (σ' := [(6, .bool (decide (c ≤ (w64 (b - 1)))))]) (h' := []) (c' := 0) (by kernel_rfl) ?_
            refine XR.done (by kernel_rfl) ?_
            show XQ _ _ _ _ _ _ _ _
            refine XQ.ret (by kernel_rfl) ?_
            refine ⟨fun i q => (by cases q), .bool (decide (c ≤ (w64 (b - 1)))), (by kernel_rfl), ?_⟩
            refine XR.conv (σ' := [(0, .int .i64 a), (1, .int .i64 b), (2, .int .i64 c), (8, .int .i64 0), (16, .bool true), (20, .bool (decide (c ≤ (w64 (b - 1)))))]) (h' := []) (c' := 0) ?_ (by kernel_rfl)
            refine XR.run E0_ok 1 2 [0, 1, 2, 8, 22] rfl (σ' := [(0, .int .i64 a), (1, .int .i64 b), (2, .int .i64 c), (8, .int .i64 0), (22, .bool (!(decide (c ≤ (w64 (b - 1))))))]) (h' := []) (c' := 0) (by kernel_rfl) ?_
            refine XR.done (by kernel_rfl) ?_
            show XQ _ _ _ _ _ _ _ _
            refine XQ.meetC (σ' := [(0, .int .i64 a), (1, .int .i64 b), (2, .int .i64 c), (8, .int .i64 (cond (!(decide (c ≤ (w64 (b - 1))))) 2 0))]) (h' := []) (c' := 0) ?_ ?_
            rotate_left
            · refine XQ.cond (s := (.tmp 22)) (b := !(decide (c ≤ (w64 (b - 1))))) (by kernel_rfl) (by kernel_rfl) (fun b6 => ?_) (fun b6 => ?_)
              · refine XQ.region (by kernel_rfl) ?_
                refine XR.run E0_ok 1 1 [0, 1, 2, 8] rfl (σ' := [(0, .int .i64 a), (1, .int .i64 b), (2, .int .i64 c), (8, .int .i64 2)]) (h' := []) (c' := 0) (by kernel_rfl) ?_
                refine XR.done (by kernel_rfl) ?_
                refine ⟨rfl, ?_, ?_⟩
                · try rw [b6]
                  exact ⟨by kernel_rfl, by kernel_rfl, by kernel_rfl, by kernel_rfl, trivial⟩
                · try rw [b6]
                  kernel_rfl
              · refine XQ.skip (by kernel_rfl) ?_
                refine ⟨rfl, ?_, ?_⟩
                · try rw [b6]
                  exact ⟨by kernel_rfl, by kernel_rfl, by kernel_rfl, by kernel_rfl, trivial⟩
                · try rw [b6]
                  kernel_rfl
            show XQ _ _ _ _ _ _ _ _
            refine XQ.seq E0_ok (by kernel_rfl) ?_
            refine XQ.seq E0_ok (by kernel_rfl) ?_
            refine XQ.region (by kernel_rfl) ?_
            refine XR.run E0_ok 1 2 [0, 1, 2, 8, 24] rfl (σ' := [(0, .int .i64 a), (1, .int .i64 b), (2, .int .i64 c), (8, .int .i64 (cond (!(decide (c ≤ (w64 (b - 1))))) 2 0)), (24, .bool ((cond (!(decide (c ≤ (w64 (b - 1))))) 2 0 : Int) != 0))]) (h' := []) (c' := 0) (by kernel_rfl) ?_
            refine XR.done (by kernel_rfl) ?_
            show XQ _ _ _ _ _ _ _ _
            cases b7 : ((cond (!(decide (c ≤ (w64 (b - 1))))) 2 0 : Int) != 0 : Bool) with
            | true =>
              have h := cT b7 h
              refine XQ.cond (s := (.tmp 24)) (b := true) (by kernel_rfl) (by kernel_rfl) (fun _ => ?_) (fun q => by cases q)
              refine XQ.seq E0_ok (by kernel_rfl) ?_
              refine XQ.region (by kernel_rfl) ?_
              refine XR.run E0_ok 1 3 [6, 7] rfl (σ' := [(6, .int .i64 0), (7, .int .i64 (cond (!(decide (c ≤ (w64 (b - 1))))) 2 0))]) (h' := []) (c' := 0) (by kernel_rfl) ?_
              refine XR.done (by kernel_rfl) ?_
              show XQ _ _ _ _ _ _ _ _
              refine XQ.ret (by kernel_rfl) ?_
              have h := Option.some.inj h
              subst h
              exact ⟨fun i q => (by cases q), .tuple #[.int .i64 0, .int .i64 (cond (!(decide (c ≤ (w64 (b - 1))))) 2 0)], (by kernel_rfl), rfl⟩
            | false =>
              have h := cF b7 h
              refine XQ.cond (s := (.tmp 24)) (b := false) (by kernel_rfl) (by kernel_rfl) (fun q => by cases q) (fun _ => ?_)
              refine XQ.skip (by kernel_rfl) ?_
              show XQ _ _ _ _ _ _ _ _
              refine XQ.seq E0_ok (by kernel_rfl) ?_
              refine XQ.region (by kernel_rfl) ?_
              refine XR.run E0_ok 1 2 [2, 26, 27] rfl (σ' := [(2, .int .i64 c), (26, .int .i64 a), (27, .int .i64 b)]) (h' := []) (c' := 0) (by kernel_rfl) ?_
              obtain ⟨r1, r1_h, h⟩ := bS h
              refine XR.call E0_ok [2, 28] rfl (K := 56) (args := [.int .i64 a, .int .i64 b]) (d := (some (path 12 28))) (by kernel_rfl) (KC.of_calls E0_ok (F := Proofs.Try.f56) (v := .string r1) (by kernel_rfl) rfl rfl (fun w hI => f56_ok m a b r1 r1_h w hI)) ?_
              rintro _ _ _ ⟨rfl, rfl, rfl⟩
              refine XR.conv (σ' := [(2, .int .i64 c), (28, .string r1)]) (h' := []) (c' := 0) ?_ (by kernel_rfl)
              refine XR.run E0_ok 1 1 [2, 9] rfl (σ' := [(2, .int .i64 c), (9, .string r1)]) (h' := []) (c' := 0) (by kernel_rfl) ?_
              refine XR.done (by kernel_rfl) ?_
              show XQ _ _ _ _ _ _ _ _
              refine XQ.seq E0_ok (by kernel_rfl) ?_
              refine XQ.region (by kernel_rfl) ?_
              refine XR.run E0_ok 1 1 [2, 9, 10] rfl (σ' := [(2, .int .i64 c), (9, .string r1), (10, .int .i64 0)]) (h' := []) (c' := 0) (by kernel_rfl) ?_
              refine XR.done (by kernel_rfl) ?_
              show XQ _ _ _ _ _ _ _ _
              refine XQ.seq E0_ok (by kernel_rfl) ?_
              refine XQ.block (id := 0) (by kernel_rfl) ?_
              refine XQ.loop m (by kernel_rfl) ?_
              obtain ⟨o1, o1_h, h⟩ := bS h
              refine XL.ren (σ' := [(2, .int .i64 c), (9, .string r1), (10, .int .i64 0)]) (h' := []) (c' := 0) [] (by decide) rfl ⟨by kernel_rfl, by kernel_rfl, by kernel_rfl, trivial⟩ trivial rfl ?_
              refine XL.conv (f24_1_ok m m c r1 0 o1 o1_h _ ?_) (by first | rfl | simp)
              show XQ _ _ _ _ _ _ _ _
              refine XQ.seq E0_ok (by kernel_rfl) ?_
              refine XQ.region (by kernel_rfl) ?_
              refine XR.run E0_ok 1 3 [6, 7] rfl (σ' := [(6, .int .i64 o1), (7, .int .i64 0)]) (h' := []) (c' := 0) (by kernel_rfl) ?_
              refine XR.done (by kernel_rfl) ?_
              show XQ _ _ _ _ _ _ _ _
              refine XQ.ret (by kernel_rfl) ?_
              have h := Option.some.inj h
              subst h
              exact ⟨fun i q => (by cases q), .tuple #[.int .i64 o1, .int .i64 0], (by kernel_rfl), rfl⟩
          | false =>
            have h := cF b5 h
            refine XR.run E0_ok 1 5 [6] rfl (σ' := [(6, .bool false)]) (h' := []) (c' := 0) (by kernel_rfl) ?_
            refine XR.done (by kernel_rfl) ?_
            show XQ _ _ _ _ _ _ _ _
            refine XQ.ret (by kernel_rfl) ?_
            refine ⟨fun i q => (by cases q), .bool false, (by kernel_rfl), ?_⟩
            refine XR.conv (σ' := [(0, .int .i64 a), (1, .int .i64 b), (2, .int .i64 c), (8, .int .i64 0), (16, .bool true), (20, .bool false)]) (h' := []) (c' := 0) ?_ (by kernel_rfl)
            refine XR.run E0_ok 1 2 [0, 1, 2, 8, 22] rfl (σ' := [(0, .int .i64 a), (1, .int .i64 b), (2, .int .i64 c), (8, .int .i64 0), (22, .bool true)]) (h' := []) (c' := 0) (by kernel_rfl) ?_
            refine XR.done (by kernel_rfl) ?_
            show XQ _ _ _ _ _ _ _ _
            refine XQ.cond (s := (.tmp 22)) (b := true) (by kernel_rfl) (by kernel_rfl) (fun _ => ?_) (fun q => by cases q)
            refine XQ.region (by kernel_rfl) ?_
            refine XR.run E0_ok 1 1 [0, 1, 2, 8] rfl (σ' := [(0, .int .i64 a), (1, .int .i64 b), (2, .int .i64 c), (8, .int .i64 2)]) (h' := []) (c' := 0) (by kernel_rfl) ?_
            refine XR.done (by kernel_rfl) ?_
            show XQ _ _ _ _ _ _ _ _
            refine XQ.seq E0_ok (by kernel_rfl) ?_
            refine XQ.seq E0_ok (by kernel_rfl) ?_
            refine XQ.region (by kernel_rfl) ?_
            refine XR.run E0_ok 1 2 [0, 1, 2, 8, 24] rfl (σ' := [(0, .int .i64 a), (1, .int .i64 b), (2, .int .i64 c), (8, .int .i64 2), (24, .bool true)]) (h' := []) (c' := 0) (by kernel_rfl) ?_
            refine XR.done (by kernel_rfl) ?_
            show XQ _ _ _ _ _ _ _ _
            refine XQ.cond (s := (.tmp 24)) (b := true) (by kernel_rfl) (by kernel_rfl) (fun _ => ?_) (fun q => by cases q)
            refine XQ.seq E0_ok (by kernel_rfl) ?_
            refine XQ.region (by kernel_rfl) ?_
            refine XR.run E0_ok 1 3 [6, 7] rfl (σ' := [(6, .int .i64 0), (7, .int .i64 2)]) (h' := []) (c' := 0) (by kernel_rfl) ?_
            refine XR.done (by kernel_rfl) ?_
            show XQ _ _ _ _ _ _ _ _
            refine XQ.ret (by kernel_rfl) ?_
            have h := Option.some.inj h
            subst h
            exact ⟨fun i q => (by cases q), .tuple #[.int .i64 0, .int .i64 2], (by kernel_rfl), rfl⟩
      | false =>
        have h := cF b3 h
        refine XR.run E0_ok 1 5 [6] rfl (σ' := [(6, .bool false)]) (h' := []) (c' := 0) (by kernel_rfl) ?_
        refine XR.done (by kernel_rfl) ?_
        show XQ _ _ _ _ _ _ _ _
        refine XQ.ret (by kernel_rfl) ?_
        refine ⟨fun i q => (by cases q), .bool false, (by kernel_rfl), ?_⟩
        refine XR.conv (σ' := [(8, .bool false), (11, .bool false)]) (h' := []) (c' := 0) ?_ (by kernel_rfl)
        refine XR.run E0_ok 1 2 [13] rfl (σ' := [(13, .bool true)]) (h' := []) (c' := 0) (by kernel_rfl) ?_
        refine XR.done (by kernel_rfl) ?_
        show XQ _ _ _ _ _ _ _ _
        refine XQ.cond (s := (.tmp 13)) (b := true) (by kernel_rfl) (by kernel_rfl) (fun _ => ?_) (fun q => by cases q)
        refine XQ.seq E0_ok (by kernel_rfl) ?_
        refine XQ.region (by kernel_rfl) ?_
        refine XR.run E0_ok 1 1 [4] rfl (σ' := [(4, .int .i64 1)]) (h' := []) (c' := 0) (by kernel_rfl) ?_
        refine XR.done (by kernel_rfl) ?_
        show XQ _ _ _ _ _ _ _ _
        refine XQ.ret (by kernel_rfl) ?_
        refine ⟨fun i q => (by cases q), .int .i64 1, (by kernel_rfl), ?_⟩
        refine XR.conv (σ' := [(0, .int .i64 a), (1, .int .i64 b), (2, .int .i64 c), (13, .int .i64 1)]) (h' := []) (c' := 0) ?_ (by kernel_rfl)
        refine XR.run E0_ok 1 1 [0, 1, 2, 8] rfl (σ' := [(0, .int .i64 a), (1, .int .i64 b), (2, .int .i64 c), (8, .int .i64 1)]) (h' := []) (c' := 0) (by kernel_rfl) ?_
        refine XR.done (by kernel_rfl) ?_
        show XQ _ _ _ _ _ _ _ _
        refine XQ.seq E0_ok (by kernel_rfl) ?_
        refine XQ.seq E0_ok (by kernel_rfl) ?_
        refine XQ.region (by kernel_rfl) ?_
        refine XR.run E0_ok 1 9 [0, 1, 2, 8, 22] rfl (σ' := [(0, .int .i64 a), (1, .int .i64 b), (2, .int .i64 c), (8, .int .i64 1), (22, .bool false)]) (h' := []) (c' := 0) (by kernel_rfl) ?_
        refine XR.done (by kernel_rfl) ?_
        show XQ _ _ _ _ _ _ _ _
        refine XQ.cond (s := (.tmp 22)) (b := false) (by kernel_rfl) (by kernel_rfl) (fun q => by cases q) (fun _ => ?_)
        refine XQ.skip (by kernel_rfl) ?_
        show XQ _ _ _ _ _ _ _ _
        refine XQ.seq E0_ok (by kernel_rfl) ?_
        refine XQ.seq E0_ok (by kernel_rfl) ?_
        refine XQ.region (by kernel_rfl) ?_
        refine XR.run E0_ok 1 2 [0, 1, 2, 8, 24] rfl (σ' := [(0, .int .i64 a), (1, .int .i64 b), (2, .int .i64 c), (8, .int .i64 1), (24, .bool true)]) (h' := []) (c' := 0) (by kernel_rfl) ?_
        refine XR.done (by kernel_rfl) ?_
        show XQ _ _ _ _ _ _ _ _
        refine XQ.cond (s := (.tmp 24)) (b := true) (by kernel_rfl) (by kernel_rfl) (fun _ => ?_) (fun q => by cases q)
        refine XQ.seq E0_ok (by kernel_rfl) ?_
        refine XQ.region (by kernel_rfl) ?_
        refine XR.run E0_ok 1 3 [6, 7] rfl (σ' := [(6, .int .i64 0), (7, .int .i64 1)]) (h' := []) (c' := 0) (by kernel_rfl) ?_
        refine XR.done (by kernel_rfl) ?_
        show XQ _ _ _ _ _ _ _ _
        refine XQ.ret (by kernel_rfl) ?_
        have h := Option.some.inj h
        subst h
        exact ⟨fun i q => (by cases q), .tuple #[.int .i64 0, .int .i64 1], (by kernel_rfl), rfl⟩
  | false =>
    have h := cF b1 h
    refine XR.run E0_ok 1 5 [6] rfl (σ' := [(6, .bool false)]) (h' := []) (c' := 0) (by kernel_rfl) ?_
    refine XR.done (by kernel_rfl) ?_
    show XQ _ _ _ _ _ _ _ _
    refine XQ.ret (by kernel_rfl) ?_
    refine ⟨fun i q => (by cases q), .bool false, (by kernel_rfl), ?_⟩
    refine XR.conv (σ' := [(0, .int .i64 a), (1, .int .i64 b), (6, .bool false)]) (h' := []) (c' := 0) ?_ (by kernel_rfl)
    refine XR.run E0_ok 1 7 [13] rfl (σ' := [(13, .bool true)]) (h' := []) (c' := 0) (by kernel_rfl) ?_
    refine XR.done (by kernel_rfl) ?_
    show XQ _ _ _ _ _ _ _ _
    refine XQ.cond (s := (.tmp 13)) (b := true) (by kernel_rfl) (by kernel_rfl) (fun _ => ?_) (fun q => by cases q)
    refine XQ.seq E0_ok (by kernel_rfl) ?_
    refine XQ.region (by kernel_rfl) ?_
    refine XR.run E0_ok 1 1 [4] rfl (σ' := [(4, .int .i64 1)]) (h' := []) (c' := 0) (by kernel_rfl) ?_
    refine XR.done (by kernel_rfl) ?_
    show XQ _ _ _ _ _ _ _ _
    refine XQ.ret (by kernel_rfl) ?_
    refine ⟨fun i q => (by cases q), .int .i64 1, (by kernel_rfl), ?_⟩
    refine XR.conv (σ' := [(0, .int .i64 a), (1, .int .i64 b), (2, .int .i64 c), (13, .int .i64 1)]) (h' := []) (c' := 0) ?_ (by kernel_rfl)
    refine XR.run E0_ok 1 1 [0, 1, 2, 8] rfl (σ' := [(0, .int .i64 a), (1, .int .i64 b), (2, .int .i64 c), (8, .int .i64 1)]) (h' := []) (c' := 0) (by kernel_rfl) ?_
    refine XR.done (by kernel_rfl) ?_
    show XQ _ _ _ _ _ _ _ _
    refine XQ.seq E0_ok (by kernel_rfl) ?_
    refine XQ.seq E0_ok (by kernel_rfl) ?_
    refine XQ.region (by kernel_rfl) ?_
    refine XR.run E0_ok 1 9 [0, 1, 2, 8, 22] rfl (σ' := [(0, .int .i64 a), (1, .int .i64 b), (2, .int .i64 c), (8, .int .i64 1), (22, .bool false)]) (h' := []) (c' := 0) (by kernel_rfl) ?_
    refine XR.done (by kernel_rfl) ?_
    show XQ _ _ _ _ _ _ _ _
    refine XQ.cond (s := (.tmp 22)) (b := false) (by kernel_rfl) (by kernel_rfl) (fun q => by cases q) (fun _ => ?_)
    refine XQ.skip (by kernel_rfl) ?_
    show XQ _ _ _ _ _ _ _ _
    refine XQ.seq E0_ok (by kernel_rfl) ?_
    refine XQ.seq E0_ok (by kernel_rfl) ?_
    refine XQ.region (by kernel_rfl) ?_
    refine XR.run E0_ok 1 2 [0, 1, 2, 8, 24] rfl (σ' := [(0, .int .i64 a), (1, .int .i64 b), (2, .int .i64 c), (8, .int .i64 1), (24, .bool true)]) (h' := []) (c' := 0) (by kernel_rfl) ?_
    refine XR.done (by kernel_rfl) ?_
    show XQ _ _ _ _ _ _ _ _
    refine XQ.cond (s := (.tmp 24)) (b := true) (by kernel_rfl) (by kernel_rfl) (fun _ => ?_) (fun q => by cases q)
    refine XQ.seq E0_ok (by kernel_rfl) ?_
    refine XQ.region (by kernel_rfl) ?_
    refine XR.run E0_ok 1 3 [6, 7] rfl (σ' := [(6, .int .i64 0), (7, .int .i64 1)]) (h' := []) (c' := 0) (by kernel_rfl) ?_
    refine XR.done (by kernel_rfl) ?_
    show XQ _ _ _ _ _ _ _ _
    refine XQ.ret (by kernel_rfl) ?_
    have h := Option.some.inj h
    subst h
    exact ⟨fun i q => (by cases q), .tuple #[.int .i64 0, .int .i64 1], (by kernel_rfl), rfl⟩

end Go.Xm
