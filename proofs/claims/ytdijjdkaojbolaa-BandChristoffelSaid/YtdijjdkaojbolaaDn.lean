/- What these functions of the program compute, as functions in Lean, and the proofs that they do: band.Split, vitolaref08.Split. Conditions: the library's variable MaxLen holds some int. -/
import Derived.Test.YtdijjdkaojbolaaDm
namespace Go.Xm
open Go.RowKit
set_option linter.unusedVariables false
set_option linter.unusedSimpArgs false

/-! vitola/band.Split -/
noncomputable def f25_C25 : Code := Proofs.Try.f25.body.getD .skip
noncomputable def f25_C52 : Code := Proofs.Try.f52.body.getD .skip
noncomputable def f25_C47 : Code := Proofs.Try.f47.body.getD .skip
noncomputable def f25_L1 : Code := lft (lft (lft (rgt (rgt (rgt f25_C25)))))

def f25_1 (m : Nat) : Nat → Int → Int → Int → Int → Int → Option (Int × Int)
  | 0, _, _, _, _, _ => none
  | fuel + 1, a, x7_1, x8_1, x9_1, x10_1 =>
    cond (x8_1 != 0) (
      f25_1 m fuel a x8_1 (w64 (x7_1 - (w64 ((w64 (Int.tdiv x7_1 x8_1)) * x8_1)))) x10_1 (w64 (x9_1 - (w64 ((w64 (Int.tdiv x7_1 x8_1)) * x10_1))))
    ) (
      some (x7_1, x9_1)
    )

theorem f25_1_ok (m : Nat) : ∀ (fuel : Nat) (a : Int) (x7_1 : Int) (x8_1 : Int) (x9_1 : Int) (x10_1 : Int) (o : (Int × Int)), f25_1 m fuel a x7_1 x8_1 x9_1 x10_1 = some o → ∀ Q : QP, Q (.exit 0) [(0, .int .i64 a), (7, .int .i64 o.1), (9, .int .i64 o.2)] [] 0 → XL E0 50 0 fuel f25_L1 [(0, .int .i64 a), (7, .int .i64 x7_1), (8, .int .i64 x8_1), (9, .int .i64 x9_1), (10, .int .i64 x10_1)] [] 0 Q
  | 0, a, x7_1, x8_1, x9_1, x10_1, o, h, Q, hQ => by cases h
  | fuel + 1, a, x7_1, x8_1, x9_1, x10_1, o, h, Q, hQ => by
    unfold f25_1 at h
    refine XL.succ E0_ok ?_
    refine XQ.seq E0_ok (by kernel_rfl) ?_
    refine XQ.seq E0_ok (by kernel_rfl) ?_
    refine XQ.region (by kernel_rfl) ?_
    refine XR.run E0_ok 1 2 [0, 7, 8, 9, 10, 21] rfl (σ' := [(0, .int .i64 a), (7, .int .i64 x7_1), (8, .int .i64 x8_1), (9, .int .i64 x9_1), (10, .int .i64 x10_1), (21, .bool (x8_1 != 0))]) (h' := []) (c' := 0) (by kernel_rfl) ?_
    refine XR.done (by kernel_rfl) ?_
    show XQ _ _ _ _ _ _ _ _
    cases b1 : (x8_1 != 0 : Bool) with
    | true =>
      have h := cT b1 h
      refine XQ.cond (s := (.tmp 21)) (b := true) (by kernel_rfl) (by kernel_rfl) (fun _ => ?_) (fun q => by cases q)
      refine XQ.skip (by kernel_rfl) ?_
      show XQ _ _ _ _ _ _ _ _
      refine XQ.block (id := 1) (by kernel_rfl) ?_
      refine XQ.seq E0_ok (by kernel_rfl) ?_
      refine XQ.region (by kernel_rfl) ?_
      refine XR.run E0_ok 1 2 [0, 7, 8, 9, 10, 22, 23] rfl (σ' := [(0, .int .i64 a), (7, .int .i64 x7_1), (8, .int .i64 x8_1), (9, .int .i64 x9_1), (10, .int .i64 x10_1), (22, .int .i64 x7_1), (23, .int .i64 x8_1)]) (h' := []) (c' := 0) (by kernel_rfl) ?_
      have e2 : insV (headI ((gsOf E0 50 (opsOf (lft (lft (rgt f25_L1))))).drop 2) (trS 50 [(0, .int .i64 a), (7, .int .i64 x7_1), (8, .int .i64 x8_1), (9, .int .i64 x9_1), (10, .int .i64 x10_1), (22, .int .i64 x7_1), (23, .int .i64 x8_1)])) (trS 50 [(0, .int .i64 a), (7, .int .i64 x7_1), (8, .int .i64 x8_1), (9, .int .i64 x9_1), (10, .int .i64 x10_1), (22, .int .i64 x7_1), (23, .int .i64 x8_1)]) [] = (match (x8_1 != 0 : Bool) with | true => some (.int .i64 (w64 (Int.tdiv x7_1 x8_1))) | false => none) := by kernel_rfl
      refine XR.rd E0_ok [0, 7, 8, 9, 10, 24] rfl (e2.trans (by rw [b1])) (σ' := [(0, .int .i64 a), (7, .int .i64 x7_1), (8, .int .i64 x8_1), (9, .int .i64 x9_1), (10, .int .i64 x10_1), (24, .int .i64 (w64 (Int.tdiv x7_1 x8_1)))]) (by kernel_rfl) ?_
      refine XR.run E0_ok 1 1 [0, 7, 8, 9, 10, 11] rfl (σ' := [(0, .int .i64 a), (7, .int .i64 x7_1), (8, .int .i64 x8_1), (9, .int .i64 x9_1), (10, .int .i64 x10_1), (11, .int .i64 (w64 (Int.tdiv x7_1 x8_1)))]) (h' := []) (c' := 0) (by kernel_rfl) ?_
      refine XR.done (by kernel_rfl) ?_
      show XQ _ _ _ _ _ _ _ _
      refine XQ.region (by kernel_rfl) ?_
      refine XR.run E0_ok 1 16 [0, 7, 8, 9, 10] rfl (σ' := [(0, .int .i64 a), (7, .int .i64 x8_1), (8, .int .i64 (w64 (x7_1 - (w64 ((w64 (Int.tdiv x7_1 x8_1)) * x8_1))))), (9, .int .i64 x10_1), (10, .int .i64 (w64 (x9_1 - (w64 ((w64 (Int.tdiv x7_1 x8_1)) * x10_1)))))]) (h' := []) (c' := 0) (by kernel_rfl) ?_
      refine XR.done (by kernel_rfl) ?_
      show XL _ _ _ _ _ _ _ _ _
      refine XL.ren (σ' := [(0, .int .i64 a), (7, .int .i64 x8_1), (8, .int .i64 (w64 (x7_1 - (w64 ((w64 (Int.tdiv x7_1 x8_1)) * x8_1))))), (9, .int .i64 x10_1), (10, .int .i64 (w64 (x9_1 - (w64 ((w64 (Int.tdiv x7_1 x8_1)) * x10_1)))))]) (h' := []) (c' := 0) [] (by decide) rfl ⟨by kernel_rfl, by kernel_rfl, by kernel_rfl, by kernel_rfl, by kernel_rfl, trivial⟩ trivial rfl ?_
      refine XL.conv (f25_1_ok m fuel a x8_1 (w64 (x7_1 - (w64 ((w64 (Int.tdiv x7_1 x8_1)) * x8_1)))) x10_1 (w64 (x9_1 - (w64 ((w64 (Int.tdiv x7_1 x8_1)) * x10_1)))) o h Q hQ) (by first | rfl | simp)
    | false =>
      have h := cF b1 h
      refine XQ.cond (s := (.tmp 21)) (b := false) (by kernel_rfl) (by kernel_rfl) (fun q => by cases q) (fun _ => ?_)
      refine XQ.ren (σ' := [(0, .int .i64 a), (7, .int .i64 x7_1), (9, .int .i64 x9_1)]) (h' := []) (c' := 0) [] (by decide) rfl ⟨by kernel_rfl, by kernel_rfl, by kernel_rfl, trivial⟩ trivial rfl ?_
      refine XQ.exit (i := 0) (by kernel_rfl) ?_
      cases h
      exact hQ

def f25 (m : Nat) (a : Int) (b : Int) : Option (Int × Int) :=
  cond (decide ((1 : Int) ≤ a)) (
    cond (!(decide (a ≤ 16))) (
      some (0, 1)
    ) (
      cond (decide ((0 : Int) ≤ b)) (
        cond (!(decide (b ≤ a))) (
          some (0, 1)
        ) (
          (f25_1 m m a a b 0 1).bind fun o1 =>
            cond (o1.1 != 1) (
              some (0, 12)
            ) (
              cond (a == 1) (
                some (0, 12)
              ) (
                cond (a != 0) (
                  some (Int.tmod (w64 ((Int.tmod o1.2 a) + a)) a, 0)
                ) none
              )
            )
        )
      ) (
        some (0, 1)
      )
    )
  ) (
    some (0, 1)
  )

theorem f25_ok (m : Nat) (a : Int) (b : Int) (o : Int × Int) (h : f25 m a b = some o) (w : World) (hI : maxInv w) : Calls Proofs.Try.prog 25 #[.int .i64 a, .int .i64 b] w fun e w' => e = .returned (.tuple #[.int .i64 o.1, .int .i64 o.2]) ∧ Below w.heap.size w w' := by
  refine KC.calls (E := E0) (args := [.int .i64 a, .int .i64 b]) (v := .tuple #[.int .i64 o.1, .int .i64 o.2]) rfl rfl (KC.bodyN E0_ok (F := Proofs.Try.f25) (by kernel_rfl) (code := f25_C25) (by kernel_rfl) (nt := 50) (by kernel_rfl) (rs := [.tmp 4, .tmp 5]) (by kernel_rfl) (by kernel_rfl) (σ := [(0, .int .i64 a), (1, .int .i64 b)]) (by kernel_rfl) ?_) w (maxInv_size hI) hI
  unfold f25 at h
  refine XQ.seq E0_ok (by kernel_rfl) ?_
  refine XQ.region (by kernel_rfl) ?_
  refine XR.run E0_ok 1 2 [0, 1] rfl (σ' := [(0, .int .i64 a), (1, .int .i64 b)]) (h' := []) (c' := 0) (by kernel_rfl) ?_
  refine XR.done (by kernel_rfl) ?_
  show XQ _ _ _ _ _ _ _ _
  refine XQ.seq E0_ok (by kernel_rfl) ?_
  refine XQ.seq E0_ok (by kernel_rfl) ?_
  refine XQ.region (by kernel_rfl) ?_
  refine XR.run E0_ok 1 2 [0, 1, 12, 13] rfl (σ' := [(0, .int .i64 a), (1, .int .i64 b), (12, .int .i64 a), (13, .int .i64 b)]) (h' := []) (c' := 0) (by kernel_rfl) ?_
  refine XR.callK E0_ok [0, 1, 14] rfl (K := 52) (args := [.int .i64 a, .int .i64 b]) (d := (some (path 12 14))) (by kernel_rfl) ?_
  refine KC.bodyN E0_ok (F := Proofs.Try.f52) (by kernel_rfl) (code := f25_C52) (by kernel_rfl) (nt := 14) (by kernel_rfl) (rs := [.tmp 4]) (by kernel_rfl) (by kernel_rfl) (σ := [(0, .int .i64 a), (1, .int .i64 b)]) (by kernel_rfl) ?_
  refine XQ.seq E0_ok (by kernel_rfl) ?_
  refine XQ.region (by kernel_rfl) ?_
  refine XR.run E0_ok 1 1 [0, 1] rfl (σ' := [(0, .int .i64 a), (1, .int .i64 b)]) (h' := []) (c' := 0) (by kernel_rfl) ?_
  refine XR.done (by kernel_rfl) ?_
  show XQ _ _ _ _ _ _ _ _
  refine XQ.seq E0_ok (by kernel_rfl) ?_
  refine XQ.seq E0_ok (by kernel_rfl) ?_
  refine XQ.region (by kernel_rfl) ?_
  refine XR.run E0_ok 1 1 [0, 1, 5] rfl (σ' := [(0, .int .i64 a), (1, .int .i64 b), (5, .int .i64 a)]) (h' := []) (c' := 0) (by kernel_rfl) ?_
  refine XR.callK E0_ok [0, 1, 6] rfl (K := 47) (args := [.int .i64 a, .int .i64 1, .int .i64 16]) (d := (some (path 12 6))) (by kernel_rfl) ?_
  refine KC.bodyN E0_ok (F := Proofs.Try.f47) (by kernel_rfl) (code := f25_C47) (by kernel_rfl) (nt := 15) (by kernel_rfl) (rs := [.tmp 6]) (by kernel_rfl) (by kernel_rfl) (σ := [(0, .int .i64 a), (1, .int .i64 1), (2, .int .i64 16)]) (by kernel_rfl) ?_
  refine XQ.seq E0_ok (by kernel_rfl) ?_
  refine XQ.region (by kernel_rfl) ?_
  refine XR.run E0_ok 1 1 [0, 1, 2] rfl (σ' := [(0, .int .i64 a), (1, .int .i64 1), (2, .int .i64 16)]) (h' := []) (c' := 0) (by kernel_rfl) ?_
  refine XR.done (by kernel_rfl) ?_
  show XQ _ _ _ _ _ _ _ _
  refine XQ.seq E0_ok (by kernel_rfl) ?_
  refine XQ.region (by kernel_rfl) ?_
  refine XR.run E0_ok 1 4 [0, 2, 10] rfl (σ' := [(0, .int .i64 a), (2, .int .i64 16), (10, .bool (decide ((1 : Int) ≤ a)))]) (h' := []) (c' := 0) (by kernel_rfl) ?_
  cases b1 : (decide ((1 : Int) ≤ a) : Bool) with
  | true =>
    have h := cT b1 h
    refine XR.run E0_ok 1 5 [6] rfl (σ' := [(6, .bool (decide (a ≤ 16)))]) (h' := []) (c' := 0) (by kernel_rfl) ?_
    refine XR.done (by kernel_rfl) ?_
    show XQ _ _ _ _ _ _ _ _
    refine XQ.ret (by kernel_rfl) ?_
    refine ⟨fun i q => (by cases q), .bool (decide (a ≤ 16)), (by kernel_rfl), ?_⟩
    refine XR.conv (σ' := [(0, .int .i64 a), (1, .int .i64 b), (6, .bool (decide (a ≤ 16)))]) (h' := []) (c' := 0) ?_ (by kernel_rfl)
    refine XR.run E0_ok 1 2 [0, 1, 8] rfl (σ' := [(0, .int .i64 a), (1, .int .i64 b), (8, .bool (!(decide (a ≤ 16))))]) (h' := []) (c' := 0) (by kernel_rfl) ?_
    cases b2 : (!(decide (a ≤ 16)) : Bool) with
    | true =>
      have h := cT b2 h
      refine XR.run E0_ok 1 5 [13] rfl (σ' := [(13, .bool true)]) (h' := []) (c' := 0) (by kernel_rfl) ?_
      refine XR.done (by kernel_rfl) ?_
      show XQ _ _ _ _ _ _ _ _
      refine XQ.cond (s := (.tmp 13)) (b := true) (by kernel_rfl) (by kernel_rfl) (fun _ => ?_) (fun q => by cases q)
      refine XQ.seq E0_ok (by kernel_rfl) ?_
      refine XQ.region (by kernel_rfl) ?_
      refine XR.run E0_ok 1 1 [4] rfl (σ' := [(4, .int .i64 1)]) (h' := []) (c' := 0) (by kernel_rfl) ?_
      refine XR.done (by kernel_rfl) ?_
      show XQ _ _ _ _ _ _ _ _
      refine XQ.ret (by kernel_rfl) ?_
      refine ⟨fun i q => (by cases q), .int .i64 1, (by kernel_rfl), ?_⟩
      refine XR.conv (σ' := [(0, .int .i64 a), (1, .int .i64 b), (14, .int .i64 1)]) (h' := []) (c' := 0) ?_ (by kernel_rfl)
      refine XR.run E0_ok 1 1 [0, 1, 6] rfl (σ' := [(0, .int .i64 a), (1, .int .i64 b), (6, .int .i64 1)]) (h' := []) (c' := 0) (by kernel_rfl) ?_
      refine XR.done (by kernel_rfl) ?_
      show XQ _ _ _ _ _ _ _ _
      refine XQ.seq E0_ok (by kernel_rfl) ?_
      refine XQ.region (by kernel_rfl) ?_
      refine XR.run E0_ok 1 2 [0, 1, 6, 16] rfl (σ' := [(0, .int .i64 a), (1, .int .i64 b), (6, .int .i64 1), (16, .bool true)]) (h' := []) (c' := 0) (by kernel_rfl) ?_
      refine XR.done (by kernel_rfl) ?_
      show XQ _ _ _ _ _ _ _ _
      refine XQ.cond (s := (.tmp 16)) (b := true) (by kernel_rfl) (by kernel_rfl) (fun _ => ?_) (fun q => by cases q)
      refine XQ.seq E0_ok (by kernel_rfl) ?_
      refine XQ.region (by kernel_rfl) ?_
      refine XR.run E0_ok 1 3 [4, 5] rfl (σ' := [(4, .int .i64 0), (5, .int .i64 1)]) (h' := []) (c' := 0) (by kernel_rfl) ?_
      refine XR.done (by kernel_rfl) ?_
      show XQ _ _ _ _ _ _ _ _
      refine XQ.ret (by kernel_rfl) ?_
      have h := Option.some.inj h
      subst h
      exact ⟨fun i q => (by cases q), .tuple #[.int .i64 0, .int .i64 1], (by kernel_rfl), rfl⟩
    | false =>
      have h := cF b2 h
      refine XR.run E0_ok 1 2 [8, 9, 10] rfl (σ' := [(8, .bool false), (9, .int .i64 b), (10, .int .i64 a)]) (h' := []) (c' := 0) (by kernel_rfl) ?_
      refine XR.callK E0_ok [8, 11] rfl (K := 47) (args := [.int .i64 b, .int .i64 0, .int .i64 a]) (d := (some (path 12 11))) (by kernel_rfl) ?_
      refine KC.bodyN E0_ok (F := Proofs.Try.f47) (by kernel_rfl) (code := f25_C47) (by kernel_rfl) (nt := 15) (by kernel_rfl) (rs := [.tmp 6]) (by kernel_rfl) (by kernel_rfl) (σ := [(0, .int .i64 b), (1, .int .i64 0), (2, .int .i64 a)]) (by kernel_rfl) ?_
      refine XQ.seq E0_ok (by kernel_rfl) ?_
      refine XQ.region (by kernel_rfl) ?_
      refine XR.run E0_ok 1 1 [0, 1, 2] rfl (σ' := [(0, .int .i64 b), (1, .int .i64 0), (2, .int .i64 a)]) (h' := []) (c' := 0) (by kernel_rfl) ?_
      refine XR.done (by kernel_rfl) ?_
      show XQ _ _ _ _ _ _ _ _
      refine XQ.seq E0_ok (by kernel_rfl) ?_
      refine XQ.region (by kernel_rfl) ?_
      refine XR.run E0_ok 1 4 [0, 2, 10] rfl (σ' := [(0, .int .i64 b), (2, .int .i64 a), (10, .bool (decide ((0 : Int) ≤ b)))]) (h' := []) (c' := 0) (by kernel_rfl) ?_
      cases b3 : (decide ((0 : Int) ≤ b) : Bool) with
      | true =>
        have h := cT b3 h
        refine XR.run E0_ok 1 5 [6] rfl (σ' := [(6, .bool (decide (b ≤ a)))]) (h' := []) (c' := 0) (by kernel_rfl) ?_
        refine XR.done (by kernel_rfl) ?_
        show XQ _ _ _ _ _ _ _ _
        refine XQ.ret (by kernel_rfl) ?_
        refine ⟨fun i q => (by cases q), .bool (decide (b ≤ a)), (by kernel_rfl), ?_⟩
        refine XR.conv (σ' := [(8, .bool false), (11, .bool (decide (b ≤ a)))]) (h' := []) (c' := 0) ?_ (by kernel_rfl)
        refine XR.run E0_ok 1 2 [13] rfl (σ' := [(13, .bool (!(decide (b ≤ a))))]) (h' := []) (c' := 0) (by kernel_rfl) ?_
        refine XR.done (by kernel_rfl) ?_
        show XQ _ _ _ _ _ _ _ _
        cases b4 : (!(decide (b ≤ a)) : Bool) with
        | true =>
          have h := cT b4 h
          refine XQ.cond (s := (.tmp 13)) (b := true) (by kernel_rfl) (by kernel_rfl) (fun _ => ?_) (fun q => by cases q)
          refine XQ.seq E0_ok (by kernel_rfl) ?_
          refine XQ.region (by kernel_rfl) ?_
          refine XR.run E0_ok 1 1 [4] rfl (σ' := [(4, .int .i64 1)]) (h' := []) (c' := 0) (by kernel_rfl) ?_
          refine XR.done (by kernel_rfl) ?_
          show XQ _ _ _ _ _ _ _ _
          refine XQ.ret (by kernel_rfl) ?_
          refine ⟨fun i q => (by cases q), .int .i64 1, (by kernel_rfl), ?_⟩
          refine XR.conv (σ' := [(0, .int .i64 a), (1, .int .i64 b), (14, .int .i64 1)]) (h' := []) (c' := 0) ?_ (by kernel_rfl)
          refine XR.run E0_ok 1 1 [0, 1, 6] rfl (σ' := [(0, .int .i64 a), (1, .int .i64 b), (6, .int .i64 1)]) (h' := []) (c' := 0) (by kernel_rfl) ?_
          refine XR.done (by kernel_rfl) ?_
          show XQ _ _ _ _ _ _ _ _
          refine XQ.seq E0_ok (by kernel_rfl) ?_
          refine XQ.region (by kernel_rfl) ?_
          refine XR.run E0_ok 1 2 [0, 1, 6, 16] rfl (σ' := [(0, .int .i64 a), (1, .int .i64 b), (6, .int .i64 1), (16, .bool true)]) (h' := []) (c' := 0) (by kernel_rfl) ?_
          refine XR.done (by kernel_rfl) ?_
          show XQ _ _ _ _ _ _ _ _
          refine XQ.cond (s := (.tmp 16)) (b := true) (by kernel_rfl) (by kernel_rfl) (fun _ => ?_) (fun q => by cases q)
          refine XQ.seq E0_ok (by kernel_rfl) ?_
          refine XQ.region (by kernel_rfl) ?_
          refine XR.run E0_ok 1 3 [4, 5] rfl (σ' := [(4, .int .i64 0), (5, .int .i64 1)]) (h' := []) (c' := 0) (by kernel_rfl) ?_
          refine XR.done (by kernel_rfl) ?_
          show XQ _ _ _ _ _ _ _ _
          refine XQ.ret (by kernel_rfl) ?_
          have h := Option.some.inj h
          subst h
          exact ⟨fun i q => (by cases q), .tuple #[.int .i64 0, .int .i64 1], (by kernel_rfl), rfl⟩
        | false =>
          have h := cF b4 h
          refine XQ.cond (s := (.tmp 13)) (b := false) (by kernel_rfl) (by kernel_rfl) (fun q => by cases q) (fun _ => ?_)
          refine XQ.skip (by kernel_rfl) ?_
          show XQ _ _ _ _ _ _ _ _
          refine XQ.seq E0_ok (by kernel_rfl) ?_
          refine XQ.region (by kernel_rfl) ?_
          refine XR.run E0_ok 1 1 [4] rfl (σ' := [(4, .int .i64 0)]) (h' := []) (c' := 0) (by kernel_rfl) ?_
          refine XR.done (by kernel_rfl) ?_
          show XQ _ _ _ _ _ _ _ _
          refine XQ.ret (by kernel_rfl) ?_
          refine ⟨fun i q => (by cases q), .int .i64 0, (by kernel_rfl), ?_⟩
          refine XR.conv (σ' := [(0, .int .i64 a), (1, .int .i64 b), (14, .int .i64 0)]) (h' := []) (c' := 0) ?_ (by kernel_rfl)
          refine XR.run E0_ok 1 1 [0, 1, 6] rfl (σ' := [(0, .int .i64 a), (1, .int .i64 b), (6, .int .i64 0)]) (h' := []) (c' := 0) (by kernel_rfl) ?_
          refine XR.done (by kernel_rfl) ?_
          show XQ _ _ _ _ _ _ _ _
          refine XQ.seq E0_ok (by kernel_rfl) ?_
          refine XQ.region (by kernel_rfl) ?_
          refine XR.run E0_ok 1 2 [0, 1, 6, 16] rfl (σ' := [(0, .int .i64 a), (1, .int .i64 b), (6, .int .i64 0), (16, .bool false)]) (h' := []) (c' := 0) (by kernel_rfl) ?_
          refine XR.done (by kernel_rfl) ?_
          show XQ _ _ _ _ _ _ _ _
          refine XQ.cond (s := (.tmp 16)) (b := false) (by kernel_rfl) (by kernel_rfl) (fun q => by cases q) (fun _ => ?_)
          refine XQ.skip (by kernel_rfl) ?_
          show XQ _ _ _ _ _ _ _ _
          refine XQ.seq E0_ok (by kernel_rfl) ?_
          refine XQ.region (by kernel_rfl) ?_
          refine XR.run E0_ok 1 6 [0, 7, 8, 9, 10] rfl (σ' := [(0, .int .i64 a), (7, .int .i64 a), (8, .int .i64 b), (9, .int .i64 0), (10, .int .i64 1)]) (h' := []) (c' := 0) (by kernel_rfl) ?_
          refine XR.done (by kernel_rfl) ?_
          show XQ _ _ _ _ _ _ _ _
          refine XQ.seq E0_ok (by kernel_rfl) ?_
          refine XQ.block (id := 0) (by kernel_rfl) ?_
          refine XQ.loop m (by kernel_rfl) ?_
          obtain ⟨o1, o1_h, h⟩ := bS h
          refine XL.ren (σ' := [(0, .int .i64 a), (7, .int .i64 a), (8, .int .i64 b), (9, .int .i64 0), (10, .int .i64 1)]) (h' := []) (c' := 0) [] (by decide) rfl ⟨by kernel_rfl, by kernel_rfl, by kernel_rfl, by kernel_rfl, by kernel_rfl, trivial⟩ trivial rfl ?_
          refine XL.conv (f25_1_ok m m a a b 0 1 o1 o1_h _ ?_) (by first | rfl | simp)
          show XQ _ _ _ _ _ _ _ _
          refine XQ.seq E0_ok (by kernel_rfl) ?_
          refine XQ.seq E0_ok (by kernel_rfl) ?_
          refine XQ.region (by kernel_rfl) ?_
          refine XR.run E0_ok 1 3 [0, 9, 39] rfl (σ' := [(0, .int .i64 a), (9, .int .i64 o1.2), (39, .bool (o1.1 != 1))]) (h' := []) (c' := 0) (by kernel_rfl) ?_
          cases b6 : (o1.1 != 1 : Bool) with
          | true =>
            have h := cT b6 h
            refine XR.run E0_ok 1 3 [0, 9, 42] rfl (σ' := [(0, .int .i64 a), (9, .int .i64 o1.2), (42, .bool true)]) (h' := []) (c' := 0) (by kernel_rfl) ?_
            refine XR.done (by kernel_rfl) ?_
            show XQ _ _ _ _ _ _ _ _
            refine XQ.cond (s := (.tmp 42)) (b := true) (by kernel_rfl) (by kernel_rfl) (fun _ => ?_) (fun q => by cases q)
            refine XQ.seq E0_ok (by kernel_rfl) ?_
            refine XQ.region (by kernel_rfl) ?_
            refine XR.run E0_ok 1 2 [4, 5] rfl (σ' := [(4, .int .i64 0), (5, .int .i64 12)]) (h' := []) (c' := 0) (by kernel_rfl) ?_
            refine XR.done (by kernel_rfl) ?_
            show XQ _ _ _ _ _ _ _ _
            refine XQ.ret (by kernel_rfl) ?_
            have h := Option.some.inj h
            subst h
            exact ⟨fun i q => (by cases q), .tuple #[.int .i64 0, .int .i64 12], (by kernel_rfl), rfl⟩
          | false =>
            have h := cF b6 h
            refine XR.run E0_ok 1 3 [0, 9, 42] rfl (σ' := [(0, .int .i64 a), (9, .int .i64 o1.2), (42, .bool (a == 1))]) (h' := []) (c' := 0) (by kernel_rfl) ?_
            refine XR.done (by kernel_rfl) ?_
            show XQ _ _ _ _ _ _ _ _
            cases b7 : (a == 1 : Bool) with
            | true =>
              have h := cT b7 h
              refine XQ.cond (s := (.tmp 42)) (b := true) (by kernel_rfl) (by kernel_rfl) (fun _ => ?_) (fun q => by cases q)
              refine XQ.seq E0_ok (by kernel_rfl) ?_
              refine XQ.region (by kernel_rfl) ?_
              refine XR.run E0_ok 1 2 [4, 5] rfl (σ' := [(4, .int .i64 0), (5, .int .i64 12)]) (h' := []) (c' := 0) (by kernel_rfl) ?_
              refine XR.done (by kernel_rfl) ?_
              show XQ _ _ _ _ _ _ _ _
              refine XQ.ret (by kernel_rfl) ?_
              have h := Option.some.inj h
              subst h
              exact ⟨fun i q => (by cases q), .tuple #[.int .i64 0, .int .i64 12], (by kernel_rfl), rfl⟩
            | false =>
              have h := cF b7 h
              refine XQ.cond (s := (.tmp 42)) (b := false) (by kernel_rfl) (by kernel_rfl) (fun q => by cases q) (fun _ => ?_)
              refine XQ.skip (by kernel_rfl) ?_
              show XQ _ _ _ _ _ _ _ _
              refine XQ.seq E0_ok (by kernel_rfl) ?_
              refine XQ.region (by kernel_rfl) ?_
              refine XR.run E0_ok 1 2 [0, 43, 44] rfl (σ' := [(0, .int .i64 a), (43, .int .i64 o1.2), (44, .int .i64 a)]) (h' := []) (c' := 0) (by kernel_rfl) ?_
              cases b8 : (a != 0 : Bool) with
              | false => cases (cF b8 h)
              | true =>
                have h := cT b8 h
                have e9 : insV (headI ((gsOf E0 50 (opsOf (lft (rgt (rgt (rgt (rgt (rgt f25_C25)))))))).drop 2) (trS 50 [(0, .int .i64 a), (43, .int .i64 o1.2), (44, .int .i64 a)])) (trS 50 [(0, .int .i64 a), (43, .int .i64 o1.2), (44, .int .i64 a)]) [] = (match (a != 0 : Bool) with | true => some (.int .i64 (Int.tmod o1.2 a)) | false => none) := by kernel_rfl
                refine XR.rd E0_ok [0, 45] rfl (e9.trans (by rw [b8])) (σ' := [(0, .int .i64 a), (45, .int .i64 (Int.tmod o1.2 a))]) (by kernel_rfl) ?_
                refine XR.run E0_ok 1 3 [47, 48] rfl (σ' := [(47, .int .i64 (w64 ((Int.tmod o1.2 a) + a))), (48, .int .i64 a)]) (h' := []) (c' := 0) (by kernel_rfl) ?_
                have e10 : insV (headI ((gsOf E0 50 (opsOf (lft (rgt (rgt (rgt (rgt (rgt f25_C25)))))))).drop 6) (trS 50 [(47, .int .i64 (w64 ((Int.tmod o1.2 a) + a))), (48, .int .i64 a)])) (trS 50 [(47, .int .i64 (w64 ((Int.tmod o1.2 a) + a))), (48, .int .i64 a)]) [] = (match (a != 0 : Bool) with | true => some (.int .i64 (Int.tmod (w64 ((Int.tmod o1.2 a) + a)) a)) | false => none) := by kernel_rfl
                refine XR.rd E0_ok [49] rfl (e10.trans (by rw [b8])) (σ' := [(49, .int .i64 (Int.tmod (w64 ((Int.tmod o1.2 a) + a)) a))]) (by kernel_rfl) ?_
                refine XR.run E0_ok 1 2 [4, 5] rfl (σ' := [(4, .int .i64 (Int.tmod (w64 ((Int.tmod o1.2 a) + a)) a)), (5, .int .i64 0)]) (h' := []) (c' := 0) (by kernel_rfl) ?_
                refine XR.done (by kernel_rfl) ?_
                show XQ _ _ _ _ _ _ _ _
                refine XQ.ret (by kernel_rfl) ?_
                have h := Option.some.inj h
                subst h
                exact ⟨fun i q => (by cases q), .tuple #[.int .i64 (Int.tmod (w64 ((Int.tmod o1.2 a) + a)) a), .int .i64 0], (by kernel_rfl), rfl⟩
      | false =>
        have h := cF b3 h
        refine XR.run E0_ok 1 5 [6] rfl (σ' := [(6, .bool false)]) (h' := []) (c' := 0) (by kernel_rfl) ?_
        refine XR.done (by kernel_rfl) ?_
        show XQ _ _ _ _ _ _ _ _
        refine XQ.ret (by kernel_rfl) ?_
        refine ⟨fun i q => (by cases q), .bool false, (by kernel_rfl), ?_⟩
        refine XR.conv (σ' := [(8, .bool false), (11, .bool false)]) (h' := []) (c' := 0) ?_ (by kernel_rfl)
        refine XR.run E0_ok 1 2 [13] rfl (σ' := [(13, .bool true)]) (h' := []) (c' := 0) (by kernel_rfl) ?_
        refine XR.done (by kernel_rfl) ?_
        show XQ _ _ _ _ _ _ _ _
        refine XQ.cond (s := (.tmp 13)) (b := true) (by kernel_rfl) (by kernel_rfl) (fun _ => ?_) (fun q => by cases q)
        refine XQ.seq E0_ok (by kernel_rfl) ?_
        refine XQ.region (by kernel_rfl) ?_
        refine XR.run E0_ok 1 1 [4] rfl (σ' := [(4, .int .i64 1)]) (h' := []) (c' := 0) (by kernel_rfl) ?_
        refine XR.done (by kernel_rfl) ?_
        show XQ _ _ _ _ _ _ _ _
        refine XQ.ret (by kernel_rfl) ?_
        refine ⟨fun i q => (by cases q), .int .i64 1, (by kernel_rfl), ?_⟩
        refine XR.conv (σ' := [(0, .int .i64 a), (1, .int .i64 b), (14, .int .i64 1)]) (h' := []) (c' := 0) ?_ (by kernel_rfl)
        refine XR.run E0_ok 1 1 [0, 1, 6] rfl (σ' := [(0, .int .i64 a), (1, .int .i64 b), (6, .int .i64 1)]) (h' := []) (c' := 0) (by kernel_rfl) ?_
        refine XR.done (by kernel_rfl) ?_
        show XQ _ _ _ _ _ _ _ _
        refine XQ.seq E0_ok (by kernel_rfl) ?_
        refine XQ.region (by kernel_rfl) ?_
        refine XR.run E0_ok 1 2 [0, 1, 6, 16] rfl (σ' := [(0, .int .i64 a), (1, .int .i64 b), (6, .int .i64 1), (16, .bool true)]) (h' := []) (c' := 0) (by kernel_rfl) ?_
        refine XR.done (by kernel_rfl) ?_
        show XQ _ _ _ _ _ _ _ _
        refine XQ.cond (s := (.tmp 16)) (b := true) (by kernel_rfl) (by kernel_rfl) (fun _ => ?_) (fun q => by cases q)
        refine XQ.seq E0_ok (by kernel_rfl) ?_
        refine XQ.region (by kernel_rfl) ?_
        refine XR.run E0_ok 1 3 [4, 5] rfl (σ' := [(4, .int .i64 0), (5, .int .i64 1)]) (h' := []) (c' := 0) (by kernel_rfl) ?_
        refine XR.done (by kernel_rfl) ?_
        show XQ _ _ _ _ _ _ _ _
        refine XQ.ret (by kernel_rfl) ?_
        have h := Option.some.inj h
        subst h
        exact ⟨fun i q => (by cases q), .tuple #[.int .i64 0, .int .i64 1], (by kernel_rfl), rfl⟩
  | false =>
    have h := cF b1 h
    refine XR.run E0_ok 1 5 [6] rfl (σ' := [(6, .bool false)]) (h' := []) (c' := 0) (by kernel_rfl) ?_
    refine XR.done (by kernel_rfl) ?_
    show XQ _ _ _ _ _ _ _ _
    refine XQ.ret (by kernel_rfl) ?_
    refine ⟨fun i q => (by cases q), .bool false, (by kernel_rfl), ?_⟩
    refine XR.conv (σ' := [(0, .int .i64 a), (1, .int .i64 b), (6, .bool false)]) (h' := []) (c' := 0) ?_ (by kernel_rfl)
    refine XR.run E0_ok 1 7 [13] rfl (σ' := [(13, .bool true)]) (h' := []) (c' := 0) (by kernel_rfl) ?_
    refine XR.done (by kernel_rfl) ?_
    show XQ _ _ _ _ _ _ _ _
    refine XQ.cond (s := (.tmp 13)) (b := true) (by kernel_rfl) (by kernel_rfl) (fun _ => ?_) (fun q => by cases q)
    refine XQ.seq E0_ok (by kernel_rfl) ?_
    refine XQ.region (by kernel_rfl) ?_
    refine XR.run E0_ok 1 1 [4] rfl (σ' := [(4, .int .i64 1)]) (h' := []) (c' := 0) (by kernel_rfl) ?_
    refine XR.done (by kernel_rfl) ?_
    show XQ _ _ _ _ _ _ _ _
    refine XQ.ret (by kernel_rfl) ?_
    refine ⟨fun i q => (by cases q), .int .i64 1, (by kernel_rfl), ?_⟩
    refine XR.conv (σ' := [(0, .int .i64 a), (1, .int .i64 b), (14, .int .i64 1)]) (h' := []) (c' := 0) ?_ (by kernel_rfl)
    refine XR.run E0_ok 1 1 [0, 1, 6] rfl (σ' := [(0, .int .i64 a), (1, .int .i64 b), (6, .int .i64 1)]) (h' := []) (c' := 0) (by kernel_rfl) ?_
    refine XR.done (by kernel_rfl) ?_
    show XQ _ _ _ _ _ _ _ _
    refine XQ.seq E0_ok (by kernel_rfl) ?_
    refine XQ.region (by kernel_rfl) ?_
    refine XR.run E0_ok 1 2 [0, 1, 6, 16] rfl (σ' := [(0, .int .i64 a), (1, .int .i64 b), (6, .int .i64 1), (16, .bool true)]) (h' := []) (c' := 0) (by kernel_rfl) ?_
    refine XR.done (by kernel_rfl) ?_
    show XQ _ _ _ _ _ _ _ _
    refine XQ.cond (s := (.tmp 16)) (b := true) (by kernel_rfl) (by kernel_rfl) (fun _ => ?_) (fun q => by cases q)
    refine XQ.seq E0_ok (by kernel_rfl) ?_
    refine XQ.region (by kernel_rfl) ?_
    refine XR.run E0_ok 1 3 [4, 5] rfl (σ' := [(4, .int .i64 0), (5, .int .i64 1)]) (h' := []) (c' := 0) (by kernel_rfl) ?_
    refine XR.done (by kernel_rfl) ?_
    show XQ _ _ _ _ _ _ _ _
    refine XQ.ret (by kernel_rfl) ?_
    have h := Option.some.inj h
    subst h
    exact ⟨fun i q => (by cases q), .tuple #[.int .i64 0, .int .i64 1], (by kernel_rfl), rfl⟩

/-! vitola/vitolaref08.Split -/
noncomputable def f26_C26 : Code := Proofs.Try.f26.body.getD .skip
noncomputable def f26_C55 : Code := Proofs.Try.f55.body.getD .skip
noncomputable def f26_C50 : Code := Proofs.Try.f50.body.getD .skip
noncomputable def f26_L1 : Code := lft (lft (rgt (lft (rgt (rgt (rgt f26_C26))))))

inductive Of26_1 where
  | r (x4_r1 : Int)
  | x0

def f26_1 (m : Nat) : Nat → Int → Int → Int → Option Of26_1
  | 0, _, _, _ => none
  | fuel + 1, a, b, x7_1 =>
    cond (decide (x7_1 < a)) (
      cond (a != 0) (
        cond ((Int.tmod (w64 (x7_1 * b)) a) == 1) (
          some (.r x7_1)
        ) (
          f26_1 m fuel a b (w64 (x7_1 + 1))
        )
      ) none
    ) (
      some (.x0)
    )

theorem f26_1_ok (m : Nat) : ∀ (fuel : Nat) (a : Int) (b : Int) (x7_1 : Int) (o : Of26_1), f26_1 m fuel a b x7_1 = some o → ∀ Q : QP, (match o with | .r x4_r1 => Q .ret [(4, .int .i64 x4_r1), (5, .int .i64 0)] [] 0 | .x0 => Q (.exit 0) [] [] 0) → XL E0 26 0 fuel f26_L1 [(0, .int .i64 a), (1, .int .i64 b), (7, .int .i64 x7_1)] [] 0 Q
  | 0, a, b, x7_1, o, h, Q, hQ => by cases h
  | fuel + 1, a, b, x7_1, o, h, Q, hQ => by
    unfold f26_1 at h
    refine XL.succ E0_ok ?_
    refine XQ.seq E0_ok (by kernel_rfl) ?_
    refine XQ.seq E0_ok (by kernel_rfl) ?_
    refine XQ.region (by kernel_rfl) ?_
    refine XR.run E0_ok 1 3 [0, 1, 7, 16] rfl (σ' := [(0, .int .i64 a), (1, .int .i64 b), (7, .int .i64 x7_1), (16, .bool (decide (x7_1 < a)))]) (h' := []) (c' := 0) (by kernel_rfl) ?_
    refine XR.done (by kernel_rfl) ?_
    show XQ _ _ _ _ _ _ _ _
    cases b1 : (decide (x7_1 < a) : Bool) with
    | true =>
      have h := cT b1 h
      refine XQ.cond (s := (.tmp 16)) (b := true) (by kernel_rfl) (by kernel_rfl) (fun _ => ?_) (fun q => by cases q)
      refine XQ.skip (by kernel_rfl) ?_
      show XQ _ _ _ _ _ _ _ _
      refine XQ.seq E0_ok (by kernel_rfl) ?_
      refine XQ.block (id := 1) (by kernel_rfl) ?_
      refine XQ.seq E0_ok (by kernel_rfl) ?_
      refine XQ.region (by kernel_rfl) ?_
      refine XR.run E0_ok 1 4 [0, 1, 7, 21, 22] rfl (σ' := [(0, .int .i64 a), (1, .int .i64 b), (7, .int .i64 x7_1), (21, .int .i64 (w64 (x7_1 * b))), (22, .int .i64 a)]) (h' := []) (c' := 0) (by kernel_rfl) ?_
      cases b2 : (a != 0 : Bool) with
      | false => cases (cF b2 h)
      | true =>
        have h := cT b2 h
        have e3 : insV (headI ((gsOf E0 26 (opsOf (lft (lft (lft (rgt f26_L1)))))).drop 4) (trS 26 [(0, .int .i64 a), (1, .int .i64 b), (7, .int .i64 x7_1), (21, .int .i64 (w64 (x7_1 * b))), (22, .int .i64 a)])) (trS 26 [(0, .int .i64 a), (1, .int .i64 b), (7, .int .i64 x7_1), (21, .int .i64 (w64 (x7_1 * b))), (22, .int .i64 a)]) [] = (match (a != 0 : Bool) with | true => some (.int .i64 (Int.tmod (w64 (x7_1 * b)) a)) | false => none) := by kernel_rfl
        refine XR.rd E0_ok [0, 1, 7, 23] rfl (e3.trans (by rw [b2])) (σ' := [(0, .int .i64 a), (1, .int .i64 b), (7, .int .i64 x7_1), (23, .int .i64 (Int.tmod (w64 (x7_1 * b)) a))]) (by kernel_rfl) ?_
        refine XR.run E0_ok 1 1 [0, 1, 7, 24] rfl (σ' := [(0, .int .i64 a), (1, .int .i64 b), (7, .int .i64 x7_1), (24, .bool ((Int.tmod (w64 (x7_1 * b)) a) == 1))]) (h' := []) (c' := 0) (by kernel_rfl) ?_
        refine XR.done (by kernel_rfl) ?_
        show XQ _ _ _ _ _ _ _ _
        cases b4 : ((Int.tmod (w64 (x7_1 * b)) a) == 1 : Bool) with
        | true =>
          have h := cT b4 h
          refine XQ.cond (s := (.tmp 24)) (b := true) (by kernel_rfl) (by kernel_rfl) (fun _ => ?_) (fun q => by cases q)
          refine XQ.seq E0_ok (by kernel_rfl) ?_
          refine XQ.region (by kernel_rfl) ?_
          refine XR.run E0_ok 1 3 [4, 5] rfl (σ' := [(4, .int .i64 x7_1), (5, .int .i64 0)]) (h' := []) (c' := 0) (by kernel_rfl) ?_
          refine XR.done (by kernel_rfl) ?_
          show XQ _ _ _ _ _ _ _ _
          refine XQ.ren (σ' := [(4, .int .i64 x7_1), (5, .int .i64 0)]) (h' := []) (c' := 0) [] (by decide) rfl ⟨by kernel_rfl, by kernel_rfl, trivial⟩ trivial rfl ?_
          refine XQ.ret (by kernel_rfl) ?_
          cases h
          exact hQ
        | false =>
          have h := cF b4 h
          refine XQ.cond (s := (.tmp 24)) (b := false) (by kernel_rfl) (by kernel_rfl) (fun q => by cases q) (fun _ => ?_)
          refine XQ.skip (by kernel_rfl) ?_
          show XQ _ _ _ _ _ _ _ _
          refine XQ.region (by kernel_rfl) ?_
          refine XR.run E0_ok 1 3 [0, 1, 7] rfl (σ' := [(0, .int .i64 a), (1, .int .i64 b), (7, .int .i64 (w64 (x7_1 + 1)))]) (h' := []) (c' := 0) (by kernel_rfl) ?_
          refine XR.done (by kernel_rfl) ?_
          show XL _ _ _ _ _ _ _ _ _
          refine XL.ren (σ' := [(0, .int .i64 a), (1, .int .i64 b), (7, .int .i64 (w64 (x7_1 + 1)))]) (h' := []) (c' := 0) [] (by decide) rfl ⟨by kernel_rfl, by kernel_rfl, by kernel_rfl, trivial⟩ trivial rfl ?_
          refine XL.conv (f26_1_ok m fuel a b (w64 (x7_1 + 1)) o h Q hQ) (by first | rfl | simp)
    | false =>
      have h := cF b1 h
      refine XQ.cond (s := (.tmp 16)) (b := false) (by kernel_rfl) (by kernel_rfl) (fun q => by cases q) (fun _ => ?_)
      refine XQ.ren (σ' := []) (h' := []) (c' := 0) [] (by decide) rfl trivial trivial rfl ?_
      refine XQ.exit (i := 0) (by kernel_rfl) ?_
      cases h
      exact hQ

def f26 (m : Nat) (a : Int) (b : Int) : Option (Int × Int) :=
  cond (decide (a ≥ 1)) (
    cond (!(decide (a ≤ 16))) (
      some (0, 1)
    ) (
      cond (decide (b ≥ 0)) (
        cond (!(decide (b ≤ a))) (
          some (0, 1)
        ) (
          (f26_1 m m a b 1).bind fun o1 =>
            match o1 with
            | .r x4_r1 =>
              some (x4_r1, 0)
            | .x0 =>
              some (0, 12)
        )
      ) (
        some (0, 1)
      )
    )
  ) (
    some (0, 1)
  )

theorem f26_ok (m : Nat) (a : Int) (b : Int) (o : Int × Int) (h : f26 m a b = some o) (w : World) (hI : maxInv w) : Calls Proofs.Try.prog 26 #[.int .i64 a, .int .i64 b] w fun e w' => e = .returned (.tuple #[.int .i64 o.1, .int .i64 o.2]) ∧ Below w.heap.size w w' := by
  refine KC.calls (E := E0) (args := [.int .i64 a, .int .i64 b]) (v := .tuple #[.int .i64 o.1, .int .i64 o.2]) rfl rfl (KC.bodyN E0_ok (F := Proofs.Try.f26) (by kernel_rfl) (code := f26_C26) (by kernel_rfl) (nt := 26) (by kernel_rfl) (rs := [.tmp 4, .tmp 5]) (by kernel_rfl) (by kernel_rfl) (σ := [(0, .int .i64 a), (1, .int .i64 b)]) (by kernel_rfl) ?_) w (maxInv_size hI) hI
  unfold f26 at h
  refine XQ.seq E0_ok (by kernel_rfl) ?_
  refine XQ.region (by kernel_rfl) ?_
  refine XR.run E0_ok 1 2 [0, 1] rfl (σ' := [(0, .int .i64 a), (1, .int .i64 b)]) (h' := []) (c' := 0) (by kernel_rfl) ?_
  refine XR.done (by kernel_rfl) ?_
  show XQ _ _ _ _ _ _ _ _
  refine XQ.seq E0_ok (by kernel_rfl) ?_
  refine XQ.region (by kernel_rfl) ?_
  refine XR.run E0_ok 1 2 [0, 1, 8, 9] rfl (σ' := [(0, .int .i64 a), (1, .int .i64 b), (8, .int .i64 a), (9, .int .i64 b)]) (h' := []) (c' := 0) (by kernel_rfl) ?_
  refine XR.callK E0_ok [0, 1, 10] rfl (K := 55) (args := [.int .i64 a, .int .i64 b]) (d := (some (path 12 10))) (by kernel_rfl) ?_
  refine KC.bodyN E0_ok (F := Proofs.Try.f55) (by kernel_rfl) (code := f26_C55) (by kernel_rfl) (nt := 14) (by kernel_rfl) (rs := [.tmp 4]) (by kernel_rfl) (by kernel_rfl) (σ := [(0, .int .i64 a), (1, .int .i64 b)]) (by kernel_rfl) ?_
  refine XQ.seq E0_ok (by kernel_rfl) ?_
  refine XQ.region (by kernel_rfl) ?_
  refine XR.run E0_ok 1 1 [0, 1] rfl (σ' := [(0, .int .i64 a), (1, .int .i64 b)]) (h' := []) (c' := 0) (by kernel_rfl) ?_
  refine XR.done (by kernel_rfl) ?_
  show XQ _ _ _ _ _ _ _ _
  refine XQ.seq E0_ok (by kernel_rfl) ?_
  refine XQ.seq E0_ok (by kernel_rfl) ?_
  refine XQ.region (by kernel_rfl) ?_
  refine XR.run E0_ok 1 1 [0, 1, 5] rfl (σ' := [(0, .int .i64 a), (1, .int .i64 b), (5, .int .i64 a)]) (h' := []) (c' := 0) (by kernel_rfl) ?_
  refine XR.callK E0_ok [0, 1, 6] rfl (K := 50) (args := [.int .i64 a, .int .i64 1, .int .i64 16]) (d := (some (path 12 6))) (by kernel_rfl) ?_
  refine KC.bodyN E0_ok (F := Proofs.Try.f50) (by kernel_rfl) (code := f26_C50) (by kernel_rfl) (nt := 15) (by kernel_rfl) (rs := [.tmp 6]) (by kernel_rfl) (by kernel_rfl) (σ := [(0, .int .i64 a), (1, .int .i64 1), (2, .int .i64 16)]) (by kernel_rfl) ?_
  refine XQ.seq E0_ok (by kernel_rfl) ?_
  refine XQ.region (by kernel_rfl) ?_
  refine XR.run E0_ok 1 1 [0, 1, 2] rfl (σ' := [(0, .int .i64 a), (1, .int .i64 1), (2, .int .i64 16)]) (h' := []) (c' := 0) (by kernel_rfl) ?_
  refine XR.done (by kernel_rfl) ?_
  show XQ _ _ _ _ _ _ _ _
  refine XQ.seq E0_ok (by kernel_rfl) ?_
  refine XQ.region (by kernel_rfl) ?_
  refine XR.run E0_ok 1 4 [0, 2, 10] rfl (σ' := [(0, .int .i64 a), (2, .int .i64 16), (10, .bool (decide (a ≥ 1)))]) (h' := []) (c' := 0) (by kernel_rfl) ?_
  cases b1 : (decide (a ≥ 1) : Bool) with
  | true =>
    have h := cT b1 h
    refine XR.run E0_ok 1 5 [6] rfl (σ' := [(6, .bool (decide (a ≤ 16)))]) (h' := []) (c' := 0) (by kernel_rfl) ?_
    refine XR.done (by kernel_rfl) ?_
    show XQ _ _ _ _ _ _ _ _
    refine XQ.ret (by kernel_rfl) ?_
    refine ⟨fun i q => (by cases q), .bool (decide (a ≤ 16)), (by kernel_rfl), ?_⟩
    refine XR.conv (σ' := [(0, .int .i64 a), (1, .int .i64 b), (6, .bool (decide (a ≤ 16)))]) (h' := []) (c' := 0) ?_ (by kernel_rfl)
    refine XR.run E0_ok 1 2 [0, 1, 8] rfl (σ' := [(0, .int .i64 a), (1, .int .i64 b), (8, .bool (!(decide (a ≤ 16))))]) (h' := []) (c' := 0) (by kernel_rfl) ?_
    cases b2 : (!(decide (a ≤ 16)) : Bool) with
    | true =>
      have h := cT b2 h
      refine XR.run E0_ok 1 5 [13] rfl (σ' := [(13, .bool true)]) (h' := []) (c' := 0) (by kernel_rfl) ?_
      refine XR.done (by kernel_rfl) ?_
      show XQ _ _ _ _ _ _ _ _
      refine XQ.cond (s := (.tmp 13)) (b := true) (by kernel_rfl) (by kernel_rfl) (fun _ => ?_) (fun q => by cases q)
      refine XQ.seq E0_ok (by kernel_rfl) ?_
      refine XQ.region (by kernel_rfl) ?_
      refine XR.run E0_ok 1 1 [4] rfl (σ' := [(4, .int .i64 1)]) (h' := []) (c' := 0) (by kernel_rfl) ?_
      refine XR.done (by kernel_rfl) ?_
      show XQ _ _ _ _ _ _ _ _
      refine XQ.ret (by kernel_rfl) ?_
      refine ⟨fun i q => (by cases q), .int .i64 1, (by kernel_rfl), ?_⟩
      refine XR.conv (σ' := [(0, .int .i64 a), (1, .int .i64 b), (10, .int .i64 1)]) (h' := []) (c' := 0) ?_ (by kernel_rfl)
      refine XR.run E0_ok 1 1 [0, 1, 6] rfl (σ' := [(0, .int .i64 a), (1, .int .i64 b), (6, .int .i64 1)]) (h' := []) (c' := 0) (by kernel_rfl) ?_
      refine XR.done (by kernel_rfl) ?_
      show XQ _ _ _ _ _ _ _ _
      refine XQ.seq E0_ok (by kernel_rfl) ?_
      refine XQ.seq E0_ok (by kernel_rfl) ?_
      refine XQ.region (by kernel_rfl) ?_
      refine XR.run E0_ok 1 2 [0, 1, 6, 12] rfl (σ' := [(0, .int .i64 a), (1, .int .i64 b), (6, .int .i64 1), (12, .bool true)]) (h' := []) (c' := 0) (by kernel_rfl) ?_
      refine XR.done (by kernel_rfl) ?_
      show XQ _ _ _ _ _ _ _ _
      refine XQ.cond (s := (.tmp 12)) (b := true) (by kernel_rfl) (by kernel_rfl) (fun _ => ?_) (fun q => by cases q)
      refine XQ.seq E0_ok (by kernel_rfl) ?_
      refine XQ.region (by kernel_rfl) ?_
      refine XR.run E0_ok 1 3 [4, 5] rfl (σ' := [(4, .int .i64 0), (5, .int .i64 1)]) (h' := []) (c' := 0) (by kernel_rfl) ?_
      refine XR.done (by kernel_rfl) ?_
      show XQ _ _ _ _ _ _ _ _
      refine XQ.ret (by kernel_rfl) ?_
      have h := Option.some.inj h
      subst h
      exact ⟨fun i q => (by cases q), .tuple #[.int .i64 0, .int .i64 1], (by kernel_rfl), rfl⟩
    | false =>
      have h := cF b2 h
      refine XR.run E0_ok 1 2 [8, 9, 10] rfl (σ' := [(8, .bool false), (9, .int .i64 b), (10, .int .i64 a)]) (h' := []) (c' := 0) (by kernel_rfl) ?_
      refine XR.callK E0_ok [8, 11] rfl (K := 50) (args := [.int .i64 b, .int .i64 0, .int .i64 a]) (d := (some (path 12 11))) (by kernel_rfl) ?_
      refine KC.bodyN E0_ok (F := Proofs.Try.f50) (by kernel_rfl) (code := f26_C50) (by kernel_rfl) (nt := 15) (by kernel_rfl) (rs := [.tmp 6]) (by kernel_rfl) (by kernel_rfl) (σ := [(0, .int .i64 b), (1, .int .i64 0), (2, .int .i64 a)]) (by kernel_rfl) ?_
      refine XQ.seq E0_ok (by kernel_rfl) ?_
      refine XQ.region (by kernel_rfl) ?_
      refine XR.run E0_ok 1 1 [0, 1, 2] rfl (σ' := [(0, .int .i64 b), (1, .int .i64 0), (2, .int .i64 a)]) (h' := []) (c' := 0) (by kernel_rfl) ?_
      refine XR.done (by kernel_rfl) ?_
      show XQ _ _ _ _ _ _ _ _
      refine XQ.seq E0_ok (by kernel_rfl) ?_
      refine XQ.region (by kernel_rfl) ?_
      refine XR.run E0_ok 1 4 [0, 2, 10] rfl (σ' := [(0, .int .i64 b), (2, .int .i64 a), (10, .bool (decide (b ≥ 0)))]) (h' := []) (c' := 0) (by kernel_rfl) ?_
      cases b3 : (decide (b ≥ 0) : Bool) with
      | true =>
        have h := cT b3 h
        refine XR.run E0_ok 1 5 [6] rfl (σ' := [(6, .bool (decide (b ≤ a)))]) (h' := []) (c' := 0) (by kernel_rfl) ?_
        refine XR.done (by kernel_rfl) ?_
        show XQ _ _ _ _ _ _ _ _
        refine XQ.ret (by kernel_rfl) ?_
        refine ⟨fun i q => (by cases q), .bool (decide (b ≤ a)), (by kernel_rfl), ?_⟩
        refine XR.conv (σ' := [(8, .bool false), (11, .bool (decide (b ≤ a)))]) (h' := []) (c' := 0) ?_ (by kernel_rfl)
        refine XR.run E0_ok 1 2 [13] rfl (σ' := [(13, .bool (!(decide (b ≤ a))))]) (h' := []) (c' := 0) (by kernel_rfl) ?_
        refine XR.done (by kernel_rfl) ?_
        show XQ _ _ _ _ _ _ _ _
        cases b4 : (!(decide (b ≤ a)) : Bool) with
        | true =>
          have h := cT b4 h
          refine XQ.cond (s := (.tmp 13)) (b := true) (by kernel_rfl) (by kernel_rfl) (fun _ => ?_) (fun q => by cases q)
          refine XQ.seq E0_ok (by kernel_rfl) ?_
          refine XQ.region (by kernel_rfl) ?_
          refine XR.run E0_ok 1 1 [4] rfl (σ' := [(4, .int .i64 1)]) (h' := []) (c' := 0) (by kernel_rfl) ?_
          refine XR.done (by kernel_rfl) ?_
          show XQ _ _ _ _ _ _ _ _
          refine XQ.ret (by kernel_rfl) ?_
          refine ⟨fun i q => (by cases q), .int .i64 1, (by kernel_rfl), ?_⟩
          refine XR.conv (σ' := [(0, .int .i64 a), (1, .int .i64 b), (10, .int .i64 1)]) (h' := []) (c' := 0) ?_ (by kernel_rfl)
          refine XR.run E0_ok 1 1 [0, 1, 6] rfl (σ' := [(0, .int .i64 a), (1, .int .i64 b), (6, .int .i64 1)]) (h' := []) (c' := 0) (by kernel_rfl) ?_
          refine XR.done (by kernel_rfl) ?_
          show XQ _ _ _ _ _ _ _ _
          refine XQ.seq E0_ok (by kernel_rfl) ?_
          refine XQ.seq E0_ok (by kernel_rfl) ?_
          refine XQ.region (by kernel_rfl) ?_
          refine XR.run E0_ok 1 2 [0, 1, 6, 12] rfl (σ' := [(0, .int .i64 a), (1, .int .i64 b), (6, .int .i64 1), (12, .bool true)]) (h' := []) (c' := 0) (by kernel_rfl) ?_
          refine XR.done (by kernel_rfl) ?_
          show XQ _ _ _ _ _ _ _ _
          refine XQ.cond (s := (.tmp 12)) (b := true) (by kernel_rfl) (by kernel_rfl) (fun _ => ?_) (fun q => by cases q)
          refine XQ.seq E0_ok (by kernel_rfl) ?_
          refine XQ.region (by kernel_rfl) ?_
          refine XR.run E0_ok 1 3 [4, 5] rfl (σ' := [(4, .int .i64 0), (5, .int .i64 1)]) (h' := []) (c' := 0) (by kernel_rfl) ?_
          refine XR.done (by kernel_rfl) ?_
          show XQ _ _ _ _ _ _ _ _
          refine XQ.ret (by kernel_rfl) ?_
          have h := Option.some.inj h
          subst h
          exact ⟨fun i q => (by cases q), .tuple #[.int .i64 0, .int .i64 1], (by kernel_rfl), rfl⟩
        | false =>
          have h := cF b4 h
          refine XQ.cond (s := (.tmp 13)) (b := false) (by kernel_rfl) (by kernel_rfl) (fun q => by cases q) (fun _ => ?_)
          refine XQ.skip (by kernel_rfl) ?_
          show XQ _ _ _ _ _ _ _ _
          refine XQ.seq E0_ok (by kernel_rfl) ?_
          refine XQ.region (by kernel_rfl) ?_
          refine XR.run E0_ok 1 1 [4] rfl (σ' := [(4, .int .i64 0)]) (h' := []) (c' := 0) (by kernel_rfl) ?_
          refine XR.done (by kernel_rfl) ?_
          show XQ _ _ _ _ _ _ _ _
          refine XQ.ret (by kernel_rfl) ?_
          refine ⟨fun i q => (by cases q), .int .i64 0, (by kernel_rfl), ?_⟩
          refine XR.conv (σ' := [(0, .int .i64 a), (1, .int .i64 b), (10, .int .i64 0)]) (h' := []) (c' := 0) ?_ (by kernel_rfl)
          refine XR.run E0_ok 1 1 [0, 1, 6] rfl (σ' := [(0, .int .i64 a), (1, .int .i64 b), (6, .int .i64 0)]) (h' := []) (c' := 0) (by kernel_rfl) ?_
          refine XR.done (by kernel_rfl) ?_
          show XQ _ _ _ _ _ _ _ _
          refine XQ.seq E0_ok (by kernel_rfl) ?_
          refine XQ.seq E0_ok (by kernel_rfl) ?_
          refine XQ.region (by kernel_rfl) ?_
          refine XR.run E0_ok 1 2 [0, 1, 6, 12] rfl (σ' := [(0, .int .i64 a), (1, .int .i64 b), (6, .int .i64 0), (12, .bool false)]) (h' := []) (c' := 0) (by kernel_rfl) ?_
          refine XR.done (by kernel_rfl) ?_
          show XQ _ _ _ _ _ _ _ _
          refine XQ.cond (s := (.tmp 12)) (b := false) (by kernel_rfl) (by kernel_rfl) (fun q => by cases q) (fun _ => ?_)
          refine XQ.skip (by kernel_rfl) ?_
          show XQ _ _ _ _ _ _ _ _
          refine XQ.seq E0_ok (by kernel_rfl) ?_
          refine XQ.seq E0_ok (by kernel_rfl) ?_
          refine XQ.region (by kernel_rfl) ?_
          refine XR.run E0_ok 1 1 [0, 1, 7] rfl (σ' := [(0, .int .i64 a), (1, .int .i64 b), (7, .int .i64 1)]) (h' := []) (c' := 0) (by kernel_rfl) ?_
          refine XR.done (by kernel_rfl) ?_
          show XQ _ _ _ _ _ _ _ _
          refine XQ.block (id := 0) (by kernel_rfl) ?_
          refine XQ.loop m (by kernel_rfl) ?_
          obtain ⟨o1, o1_h, h⟩ := bS h
          refine XL.ren (σ' := [(0, .int .i64 a), (1, .int .i64 b), (7, .int .i64 1)]) (h' := []) (c' := 0) [] (by decide) rfl ⟨by kernel_rfl, by kernel_rfl, by kernel_rfl, trivial⟩ trivial rfl ?_
          cases o1 with
          | r x4_r1 =>
            dsimp only at h
            refine XL.conv (f26_1_ok m m a b 1 (.r x4_r1) o1_h _ ?_) (by first | rfl | simp)
            have h := Option.some.inj h
            subst h
            exact ⟨fun i q => (by cases q), .tuple #[.int .i64 x4_r1, .int .i64 0], (by kernel_rfl), rfl⟩
          | x0 =>
            dsimp only at h
            refine XL.conv (f26_1_ok m m a b 1 (.x0) o1_h _ ?_) (by first | rfl | simp)
            show XQ _ _ _ _ _ _ _ _
            refine XQ.seq E0_ok (by kernel_rfl) ?_
            refine XQ.region (by kernel_rfl) ?_
            refine XR.run E0_ok 1 2 [4, 5] rfl (σ' := [(4, .int .i64 0), (5, .int .i64 12)]) (h' := []) (c' := 0) (by kernel_rfl) ?_
            refine XR.done (by kernel_rfl) ?_
            show XQ _ _ _ _ _ _ _ _
            refine XQ.ret (by kernel_rfl) ?_
            have h := Option.some.inj h
            subst h
            exact ⟨fun i q => (by cases q), .tuple #[.int .i64 0, .int .i64 12], (by kernel_rfl), rfl⟩
      | false =>
        have h := cF b3 h
        refine XR.run E0_ok 1 5 [6] rfl (σ' := [(6, .bool false)]) (h' := []) (c' := 0) (by kernel_rfl) ?_
        refine XR.done (by kernel_rfl) ?_
        show XQ _ _ _ _ _ _ _ _
        refine XQ.ret (by kernel_rfl) ?_
        refine ⟨fun i q => (by cases q), .bool false, (by kernel_rfl), ?_⟩
        refine XR.conv (σ' := [(8, .bool false), (11, .bool false)]) (h' := []) (c' := 0) ?_ (by kernel_rfl)
        refine XR.run E0_ok 1 2 [13] rfl (σ' := [(13, .bool true)]) (h' := []) (c' := 0) (by kernel_rfl) ?_
        refine XR.done (by kernel_rfl) ?_
        show XQ _ _ _ _ _ _ _ _
        refine XQ.cond (s := (.tmp 13)) (b := true) (by kernel_rfl) (by kernel_rfl) (fun _ => ?_) (fun q => by cases q)
        refine XQ.seq E0_ok (by kernel_rfl) ?_
        refine XQ.region (by kernel_rfl) ?_
        refine XR.run E0_ok 1 1 [4] rfl (σ' := [(4, .int .i64 1)]) (h' := []) (c' := 0) (by kernel_rfl) ?_
        refine XR.done (by kernel_rfl) ?_
        show XQ _ _ _ _ _ _ _ _
        refine XQ.ret (by kernel_rfl) ?_
        refine ⟨fun i q => (by cases q), .int .i64 1, (by kernel_rfl), ?_⟩
        refine XR.conv (σ' := [(0, .int .i64 a), (1, .int .i64 b), (10, .int .i64 1)]) (h' := []) (c' := 0) ?_ (by kernel_rfl)
        refine XR.run E0_ok 1 1 [0, 1, 6] rfl (σ' := [(0, .int .i64 a), (1, .int .i64 b), (6, .int .i64 1)]) (h' := []) (c' := 0) (by kernel_rfl) ?_
        refine XR.done (by kernel_rfl) ?_
        show XQ _ _ _ _ _ _ _ _
        refine XQ.seq E0_ok (by kernel_rfl) ?_
        refine XQ.seq E0_ok (by kernel_rfl) ?_
        refine XQ.region (by kernel_rfl) ?_
        refine XR.run E0_ok 1 2 [0, 1, 6, 12] rfl (σ' := [(0, .int .i64 a), (1, .int .i64 b), (6, .int .i64 1), (12, .bool true)]) (h' := []) (c' := 0) (by kernel_rfl) ?_
        refine XR.done (by kernel_rfl) ?_
        show XQ _ _ _ _ _ _ _ _
        refine XQ.cond (s := (.tmp 12)) (b := true) (by kernel_rfl) (by kernel_rfl) (fun _ => ?_) (fun q => by cases q)
        refine XQ.seq E0_ok (by kernel_rfl) ?_
        refine XQ.region (by kernel_rfl) ?_
        refine XR.run E0_ok 1 3 [4, 5] rfl (σ' := [(4, .int .i64 0), (5, .int .i64 1)]) (h' := []) (c' := 0) (by kernel_rfl) ?_
        refine XR.done (by kernel_rfl) ?_
        show XQ _ _ _ _ _ _ _ _
        refine XQ.ret (by kernel_rfl) ?_
        have h := Option.some.inj h
        subst h
        exact ⟨fun i q => (by cases q), .tuple #[.int .i64 0, .int .i64 1], (by kernel_rfl), rfl⟩
  | false =>
    have h := cF b1 h
    refine XR.run E0_ok 1 5 [6] rfl (σ' := [(6, .bool false)]) (h' := []) (c' := 0) (by kernel_rfl) ?_
    refine XR.done (by kernel_rfl) ?_
    show XQ _ _ _ _ _ _ _ _
    refine XQ.ret (by kernel_rfl) ?_
    refine ⟨fun i q => (by cases q), .bool false, (by kernel_rfl), ?_⟩
    refine XR.conv (σ' := [(0, .int .i64 a), (1, .int .i64 b), (6, .bool false)]) (h' := []) (c' := 0) ?_ (by kernel_rfl)
    refine XR.run E0_ok 1 7 [13] rfl (σ' := [(13, .bool true)]) (h' := []) (c' := 0) (by kernel_rfl) ?_
    refine XR.done (by kernel_rfl) ?_
    show XQ _ _ _ _ _ _ _ _
    refine XQ.cond (s := (.tmp 13)) (b := true) (by kernel_rfl) (by kernel_rfl) (fun _ => ?_) (fun q => by cases q)
    refine XQ.seq E0_ok (by kernel_rfl) ?_
    refine XQ.region (by kernel_rfl) ?_
    refine XR.run E0_ok 1 1 [4] rfl (σ' := [(4, .int .i64 1)]) (h' := []) (c' := 0) (by kernel_rfl) ?_
    refine XR.done (by kernel_rfl) ?_
    show XQ _ _ _ _ _ _ _ _
    refine XQ.ret (by kernel_rfl) ?_
    refine ⟨fun i q => (by cases q), .int .i64 1, (by kernel_rfl), ?_⟩
    refine XR.conv (σ' := [(0, .int .i64 a), (1, .int .i64 b), (10, .int .i64 1)]) (h' := []) (c' := 0) ?_ (by kernel_rfl)
    refine XR.run E0_ok 1 1 [0, 1, 6] rfl (σ' := [(0, .int .i64 a), (1, .int .i64 b), (6, .int .i64 1)]) (h' := []) (c' := 0) (by kernel_rfl) ?_
    refine XR.done (by kernel_rfl) ?_
    show XQ _ _ _ _ _ _ _ _
    refine XQ.seq E0_ok (by kernel_rfl) ?_
    refine XQ.seq E0_ok (by kernel_rfl) ?_
    refine XQ.region (by kernel_rfl) ?_
    refine XR.run E0_ok 1 2 [0, 1, 6, 12] rfl (σ' := [(0, .int .i64 a), (1, .int .i64 b), (6, .int .i64 1), (12, .bool true)]) (h' := []) (c' := 0) (by kernel_rfl) ?_
    refine XR.done (by kernel_rfl) ?_
    show XQ _ _ _ _ _ _ _ _
    refine XQ.cond (s := (.tmp 12)) (b := true) (by kernel_rfl) (by kernel_rfl) (fun _ => ?_) (fun q => by cases q)
    refine XQ.seq E0_ok (by kernel_rfl) ?_
    refine XQ.region (by kernel_rfl) ?_
    refine XR.run E0_ok 1 3 [4, 5] rfl (σ' := [(4, .int .i64 0), (5, .int .i64 1)]) (h' := []) (c' := 0) (by kernel_rfl) ?_
    refine XR.done (by kernel_rfl) ?_
    show XQ _ _ _ _ _ _ _ _
    refine XQ.ret (by kernel_rfl) ?_
    have h := Option.some.inj h
    subst h
    exact ⟨fun i q => (by cases q), .tuple #[.int .i64 0, .int .i64 1], (by kernel_rfl), rfl⟩

end Go.Xm
