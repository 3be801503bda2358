/- What these functions of the program compute, as functions in Lean, and the proofs that they do: vitolalaw08.spelled, vitolalaw08.divisor, bits.OnesCount16, vitolalaw08.spread, vitolalaw08.even, vitolalaw08.straight. Conditions: the library's variable MaxLen holds some int. -/
import Derived.Test.YtdijjdkaojbolaaDa
namespace Go.Xm
open Go.RowKit
set_option linter.unusedVariables false
set_option linter.unusedSimpArgs false

/-! vitola/vitolalaw08.spelled -/
noncomputable def f37_C37 : Code := Proofs.Try.f37.body.getD .skip
noncomputable def f37_L1 : Code := lft (lft (rgt (lft (rgt (rgt f37_C37)))))

def f37_1 (m : Nat) : Nat → Int → ByteArray → Int → Option ByteArray
  | 0, _, _, _ => none
  | fuel + 1, b, s5_1, x6_1 =>
    cond (decide (x6_1 ≥ 0)) (
      cond (decide (0 ≤ x6_1)) (
        cond (cutOk (andV .u16 (shV false .u16 b x6_1) 1) ((bs [97, 98]).size : Int) (bs [97, 98]).size) (
          cond (cutOk 0 1 (cutT (bs [97, 98]) (andV .u16 (shV false .u16 b x6_1) 1) ((bs [97, 98]).size : Int)).size) (
            cond (Nat.ble (s5_1.size + (cutT (cutT (bs [97, 98]) (andV .u16 (shV false .u16 b x6_1) 1) ((bs [97, 98]).size : Int)) 0 1).size) 9223372036854775807) (
              f37_1 m fuel b (catS s5_1 (cutT (cutT (bs [97, 98]) (andV .u16 (shV false .u16 b x6_1) 1) ((bs [97, 98]).size : Int)) 0 1)) (w64 (x6_1 - 1))
            ) none
          ) none
        ) none
      ) none
    ) (
      some (s5_1)
    )

theorem f37_1_ok (m : Nat) : ∀ (fuel : Nat) (b : Int) (s5_1 : ByteArray) (x6_1 : Int) (o : ByteArray), f37_1 m fuel b s5_1 x6_1 = some o → ∀ Q : QP, Q (.exit 0) [(5, .string o)] [] 0 → XL E0 22 0 fuel f37_L1 [(1, .int .u16 b), (5, .string s5_1), (6, .int .i64 x6_1)] [] 0 Q
  | 0, b, s5_1, x6_1, o, h, Q, hQ => by cases h
  | fuel + 1, b, s5_1, x6_1, o, h, Q, hQ => by
    unfold f37_1 at h
    refine XL.succ E0_ok ?_
    refine XQ.seq E0_ok (by kernel_rfl) ?_
    refine XQ.seq E0_ok (by kernel_rfl) ?_
    refine XQ.region (by kernel_rfl) ?_
    refine XR.run E0_ok 1 2 [1, 5, 6, 10] rfl (σ' := [(1, .int .u16 b), (5, .string s5_1), (6, .int .i64 x6_1), (10, .bool (decide (x6_1 ≥ 0)))]) (h' := []) (c' := 0) (by kernel_rfl) ?_
    refine XR.done (by kernel_rfl) ?_
    show XQ _ _ _ _ _ _ _ _
    cases b1 : (decide (x6_1 ≥ 0) : Bool) with
    | true =>
      have h := cT b1 h
      refine XQ.cond (s := (.tmp 10)) (b := true) (by kernel_rfl) (by kernel_rfl) (fun _ => ?_) (fun q => by cases q)
      refine XQ.skip (by kernel_rfl) ?_
      show XQ _ _ _ _ _ _ _ _
      refine XQ.seq E0_ok (by kernel_rfl) ?_
      refine XQ.block (id := 1) (by kernel_rfl) ?_
      refine XQ.region (by kernel_rfl) ?_
      refine XR.run E0_ok 1 3 [1, 6, 13, 14, 15] rfl (σ' := [(1, .int .u16 b), (6, .int .i64 x6_1), (13, .string s5_1), (14, .int .u16 b), (15, .int .i64 x6_1)]) (h' := []) (c' := 0) (by kernel_rfl) ?_
      cases b2 : (decide (0 ≤ x6_1) : Bool) with
      | false => cases (cF b2 h)
      | true =>
        have h := cT b2 h
        have e3 : insV (headI ((gsOf E0 22 (opsOf (lft (lft (rgt f37_L1))))).drop 3) (trS 22 [(1, .int .u16 b), (6, .int .i64 x6_1), (13, .string s5_1), (14, .int .u16 b), (15, .int .i64 x6_1)])) (trS 22 [(1, .int .u16 b), (6, .int .i64 x6_1), (13, .string s5_1), (14, .int .u16 b), (15, .int .i64 x6_1)]) [] = (match (decide (0 ≤ x6_1) : Bool) with | true => some (.int .u16 (shV false .u16 b x6_1)) | false => none) := by kernel_rfl
        refine XR.rd E0_ok [1, 6, 13, 16] rfl (e3.trans (by rw [b2])) (σ' := [(1, .int .u16 b), (6, .int .i64 x6_1), (13, .string s5_1), (16, .int .u16 (shV false .u16 b x6_1))]) (by kernel_rfl) ?_
        refine XR.run E0_ok 1 1 [1, 6, 13, 17] rfl (σ' := [(1, .int .u16 b), (6, .int .i64 x6_1), (13, .string s5_1), (17, .int .u16 (andV .u16 (shV false .u16 b x6_1) 1))]) (h' := []) (c' := 0) (by kernel_rfl) ?_
        cases b4 : (cutOk (andV .u16 (shV false .u16 b x6_1) 1) ((bs [97, 98]).size : Int) (bs [97, 98]).size : Bool) with
        | false => cases (cF b4 h)
        | true =>
          have h := cT b4 h
          have e5 : insV (headI ((gsOf E0 22 (opsOf (lft (lft (rgt f37_L1))))).drop 5) (trS 22 [(1, .int .u16 b), (6, .int .i64 x6_1), (13, .string s5_1), (17, .int .u16 (andV .u16 (shV false .u16 b x6_1) 1))])) (trS 22 [(1, .int .u16 b), (6, .int .i64 x6_1), (13, .string s5_1), (17, .int .u16 (andV .u16 (shV false .u16 b x6_1) 1))]) [] = (match (cutOk (andV .u16 (shV false .u16 b x6_1) 1) ((bs [97, 98]).size : Int) (bs [97, 98]).size : Bool) with | true => some (.string (cutT (bs [97, 98]) (andV .u16 (shV false .u16 b x6_1) 1) ((bs [97, 98]).size : Int))) | false => none) := by kernel_rfl
          refine XR.rd E0_ok [1, 6, 13, 18] rfl (e5.trans (by rw [b4])) (σ' := [(1, .int .u16 b), (6, .int .i64 x6_1), (13, .string s5_1), (18, .string (cutT (bs [97, 98]) (andV .u16 (shV false .u16 b x6_1) 1) ((bs [97, 98]).size : Int)))]) (by kernel_rfl) ?_
          cases b6 : (cutOk 0 1 (cutT (bs [97, 98]) (andV .u16 (shV false .u16 b x6_1) 1) ((bs [97, 98]).size : Int)).size : Bool) with
          | false => cases (cF b6 h)
          | true =>
            have h := cT b6 h
            have e7 : insV (headI ((gsOf E0 22 (opsOf (lft (lft (rgt f37_L1))))).drop 6) (trS 22 [(1, .int .u16 b), (6, .int .i64 x6_1), (13, .string s5_1), (18, .string (cutT (bs [97, 98]) (andV .u16 (shV false .u16 b x6_1) 1) ((bs [97, 98]).size : Int)))])) (trS 22 [(1, .int .u16 b), (6, .int .i64 x6_1), (13, .string s5_1), (18, .string (cutT (bs [97, 98]) (andV .u16 (shV false .u16 b x6_1) 1) ((bs [97, 98]).size : Int)))]) [] = (match (cutOk 0 1 (cutT (bs [97, 98]) (andV .u16 (shV false .u16 b x6_1) 1) ((bs [97, 98]).size : Int)).size : Bool) with | true => some (.string (cutT (cutT (bs [97, 98]) (andV .u16 (shV false .u16 b x6_1) 1) ((bs [97, 98]).size : Int)) 0 1)) | false => none) := by kernel_rfl
            refine XR.rd E0_ok [1, 6, 13, 19] rfl (e7.trans (by rw [b6])) (σ' := [(1, .int .u16 b), (6, .int .i64 x6_1), (13, .string s5_1), (19, .string (cutT (cutT (bs [97, 98]) (andV .u16 (shV false .u16 b x6_1) 1) ((bs [97, 98]).size : Int)) 0 1))]) (by kernel_rfl) ?_
            cases b8 : (Nat.ble (s5_1.size + (cutT (cutT (bs [97, 98]) (andV .u16 (shV false .u16 b x6_1) 1) ((bs [97, 98]).size : Int)) 0 1).size) 9223372036854775807 : Bool) with
            | false => cases (cF b8 h)
            | true =>
              have h := cT b8 h
              have e9 : insV (headI ((gsOf E0 22 (opsOf (lft (lft (rgt f37_L1))))).drop 7) (trS 22 [(1, .int .u16 b), (6, .int .i64 x6_1), (13, .string s5_1), (19, .string (cutT (cutT (bs [97, 98]) (andV .u16 (shV false .u16 b x6_1) 1) ((bs [97, 98]).size : Int)) 0 1))])) (trS 22 [(1, .int .u16 b), (6, .int .i64 x6_1), (13, .string s5_1), (19, .string (cutT (cutT (bs [97, 98]) (andV .u16 (shV false .u16 b x6_1) 1) ((bs [97, 98]).size : Int)) 0 1))]) [] = (match (Nat.ble (s5_1.size + (cutT (cutT (bs [97, 98]) (andV .u16 (shV false .u16 b x6_1) 1) ((bs [97, 98]).size : Int)) 0 1).size) 9223372036854775807 : Bool) with | true => some (.string (catS s5_1 (cutT (cutT (bs [97, 98]) (andV .u16 (shV false .u16 b x6_1) 1) ((bs [97, 98]).size : Int)) 0 1))) | false => none) := by kernel_rfl
              refine XR.rd E0_ok [1, 6, 20] rfl (e9.trans (by rw [b8])) (σ' := [(1, .int .u16 b), (6, .int .i64 x6_1), (20, .string (catS s5_1 (cutT (cutT (bs [97, 98]) (andV .u16 (shV false .u16 b x6_1) 1) ((bs [97, 98]).size : Int)) 0 1)))]) (by kernel_rfl) ?_
              refine XR.run E0_ok 1 1 [1, 5, 6] rfl (σ' := [(1, .int .u16 b), (5, .string (catS s5_1 (cutT (cutT (bs [97, 98]) (andV .u16 (shV false .u16 b x6_1) 1) ((bs [97, 98]).size : Int)) 0 1))), (6, .int .i64 x6_1)]) (h' := []) (c' := 0) (by kernel_rfl) ?_
              refine XR.done (by kernel_rfl) ?_
              show XQ _ _ _ _ _ _ _ _
              refine XQ.region (by kernel_rfl) ?_
              refine XR.run E0_ok 1 3 [1, 5, 6] rfl (σ' := [(1, .int .u16 b), (5, .string (catS s5_1 (cutT (cutT (bs [97, 98]) (andV .u16 (shV false .u16 b x6_1) 1) ((bs [97, 98]).size : Int)) 0 1))), (6, .int .i64 (w64 (x6_1 - 1)))]) (h' := []) (c' := 0) (by kernel_rfl) ?_
              refine XR.done (by kernel_rfl) ?_
              show XL _ _ _ _ _ _ _ _ _
              refine XL.ren (σ' := [(1, .int .u16 b), (5, .string (catS s5_1 (cutT (cutT (bs [97, 98]) (andV .u16 (shV false .u16 b x6_1) 1) ((bs [97, 98]).size : Int)) 0 1))), (6, .int .i64 (w64 (x6_1 - 1)))]) (h' := []) (c' := 0) [] (by decide) rfl ⟨by kernel_rfl, by kernel_rfl, by kernel_rfl, trivial⟩ trivial rfl ?_
              refine XL.conv (f37_1_ok m fuel b (catS s5_1 (cutT (cutT (bs [97, 98]) (andV .u16 (shV false .u16 b x6_1) 1) ((bs [97, 98]).size : Int)) 0 1)) (w64 (x6_1 - 1)) o h Q hQ) (by first | rfl | simp)
    | false =>
      have h := cF b1 h
      refine XQ.cond (s := (.tmp 10)) (b := false) (by kernel_rfl) (by kernel_rfl) (fun q => by cases q) (fun _ => ?_)
      refine XQ.ren (σ' := [(5, .string s5_1)]) (h' := []) (c' := 0) [] (by decide) rfl ⟨by kernel_rfl, trivial⟩ trivial rfl ?_
      refine XQ.exit (i := 0) (by kernel_rfl) ?_
      cases h
      exact hQ

def f37 (m : Nat) (a : Int) (b : Int) : Option (ByteArray) :=
  (f37_1 m m b (bs []) (w64 (a - 1))).bind fun o1 =>
    some (o1)

theorem f37_ok (m : Nat) (a : Int) (b : Int) (o : ByteArray) (h : f37 m a b = some o) (w : World) (hI : maxInv w) : Calls Proofs.Try.prog 37 #[.int .i64 a, .int .u16 b] w fun e w' => e = .returned (.string o) ∧ Below w.heap.size w w' := by
  refine KC.calls (E := E0) (args := [.int .i64 a, .int .u16 b]) (v := .string o) rfl rfl (KC.bodyN E0_ok (F := Proofs.Try.f37) (by kernel_rfl) (code := f37_C37) (by kernel_rfl) (nt := 22) (by kernel_rfl) (rs := [.tmp 4]) (by kernel_rfl) (by kernel_rfl) (σ := [(0, .int .i64 a), (1, .int .u16 b)]) (by kernel_rfl) ?_) w (maxInv_size hI) hI
  unfold f37 at h
  refine XQ.seq E0_ok (by kernel_rfl) ?_
  refine XQ.region (by kernel_rfl) ?_
  refine XR.run E0_ok 1 1 [0, 1] rfl (σ' := [(0, .int .i64 a), (1, .int .u16 b)]) (h' := []) (c' := 0) (by kernel_rfl) ?_
  refine XR.done (by kernel_rfl) ?_
  show XQ _ _ _ _ _ _ _ _
  refine XQ.seq E0_ok (by kernel_rfl) ?_
  refine XQ.region (by kernel_rfl) ?_
  refine XR.run E0_ok 1 1 [0, 1, 5] rfl (σ' := [(0, .int .i64 a), (1, .int .u16 b), (5, .string (bs []))]) (h' := []) (c' := 0) (by kernel_rfl) ?_
  refine XR.done (by kernel_rfl) ?_
  show XQ _ _ _ _ _ _ _ _
  refine XQ.seq E0_ok (by kernel_rfl) ?_
  refine XQ.seq E0_ok (by kernel_rfl) ?_
  refine XQ.region (by kernel_rfl) ?_
  refine XR.run E0_ok 1 3 [1, 5, 6] rfl (σ' := [(1, .int .u16 b), (5, .string (bs [])), (6, .int .i64 (w64 (a - 1)))]) (h' := []) (c' := 0) (by kernel_rfl) ?_
  refine XR.done (by kernel_rfl) ?_
  show XQ _ _ _ _ _ _ _ _
  refine XQ.block (id := 0) (by kernel_rfl) ?_
  refine XQ.loop m (by kernel_rfl) ?_
  obtain ⟨o1, o1_h, h⟩ := bS h
  refine XL.ren (σ' := [(1, .int .u16 b), (5, .string (bs [])), (6, .int .i64 (w64 (a - 1)))]) (h' := []) (c' := 0) [] (by decide) rfl ⟨by kernel_rfl, by kernel_rfl, by kernel_rfl, trivial⟩ trivial rfl ?_
  refine XL.conv (f37_1_ok m m b (bs []) (w64 (a - 1)) o1 o1_h _ ?_) (by first | rfl | simp)
  show XQ _ _ _ _ _ _ _ _
  refine XQ.seq E0_ok (by kernel_rfl) ?_
  refine XQ.region (by kernel_rfl) ?_
  refine XR.run E0_ok 1 2 [4] rfl (σ' := [(4, .string o1)]) (h' := []) (c' := 0) (by kernel_rfl) ?_
  refine XR.done (by kernel_rfl) ?_
  show XQ _ _ _ _ _ _ _ _
  refine XQ.ret (by kernel_rfl) ?_
  have h := Option.some.inj h
  subst h
  exact ⟨fun i q => (by cases q), .string o1, (by kernel_rfl), rfl⟩

/-! vitola/vitolalaw08.divisor -/
noncomputable def f41_C41 : Code := Proofs.Try.f41.body.getD .skip
noncomputable def f41_L1 : Code := lft (lft (lft (rgt f41_C41)))

def f41_1 (m : Nat) : Nat → Int → Int → Option Int
  | 0, _, _ => none
  | fuel + 1, x0_1, x1_1 =>
    cond (decide (x1_1 > 0)) (
      cond (x1_1 != 0) (
        f41_1 m fuel x1_1 (Int.tmod x0_1 x1_1)
      ) none
    ) (
      some (x0_1)
    )

theorem f41_1_ok (m : Nat) : ∀ (fuel : Nat) (x0_1 : Int) (x1_1 : Int) (o : Int), f41_1 m fuel x0_1 x1_1 = some o → ∀ Q : QP, Q (.exit 0) [(0, .int .i64 o)] [] 0 → XL E0 12 0 fuel f41_L1 [(0, .int .i64 x0_1), (1, .int .i64 x1_1)] [] 0 Q
  | 0, x0_1, x1_1, o, h, Q, hQ => by cases h
  | fuel + 1, x0_1, x1_1, o, h, Q, hQ => by
    unfold f41_1 at h
    refine XL.succ E0_ok ?_
    refine XQ.seq E0_ok (by kernel_rfl) ?_
    refine XQ.seq E0_ok (by kernel_rfl) ?_
    refine XQ.region (by kernel_rfl) ?_
    refine XR.run E0_ok 1 2 [0, 1, 6] rfl (σ' := [(0, .int .i64 x0_1), (1, .int .i64 x1_1), (6, .bool (decide (x1_1 > 0)))]) (h' := []) (c' := 0) (by kernel_rfl) ?_
    refine XR.done (by kernel_rfl) ?_
    show XQ _ _ _ _ _ _ _ _
    cases b1 : (decide (x1_1 > 0) : Bool) with
    | true =>
      have h := cT b1 h
      refine XQ.cond (s := (.tmp 6)) (b := true) (by kernel_rfl) (by kernel_rfl) (fun _ => ?_) (fun q => by cases q)
      refine XQ.skip (by kernel_rfl) ?_
      show XQ _ _ _ _ _ _ _ _
      refine XQ.block (id := 1) (by kernel_rfl) ?_
      refine XQ.quiet E0_ok (by kernel_rfl) (by kernel_rfl) ?_
      refine XU.run E0_ok 1 3 [7, 8, 9] rfl (σ' := [(7, .int .i64 x1_1), (8, .int .i64 x0_1), (9, .int .i64 x1_1)]) (by kernel_rfl) ?_
      cases b2 : (x1_1 != 0 : Bool) with
      | false => cases (cF b2 h)
      | true =>
        have h := cT b2 h
        have e3 : insV (headI ((gsOf E0 12 (opsOf (lft (rgt f41_L1)))).drop 3) (trS 12 [(7, .int .i64 x1_1), (8, .int .i64 x0_1), (9, .int .i64 x1_1)])) (trS 12 [(7, .int .i64 x1_1), (8, .int .i64 x0_1), (9, .int .i64 x1_1)]) [] = (match (x1_1 != 0 : Bool) with | true => some (.int .i64 (Int.tmod x0_1 x1_1)) | false => none) := by kernel_rfl
        refine XU.rd E0_ok [7, 10] rfl (e3.trans (by rw [b2])) (σ' := [(7, .int .i64 x1_1), (10, .int .i64 (Int.tmod x0_1 x1_1))]) (by kernel_rfl) ?_
        refine XU.run E0_ok 1 2 [0, 1] rfl (σ' := [(0, .int .i64 x1_1), (1, .int .i64 (Int.tmod x0_1 x1_1))]) (by kernel_rfl) ?_
        refine XU.done (by kernel_rfl) ?_
        show XL _ _ _ _ _ _ _ _ _
        refine XL.ren (σ' := [(0, .int .i64 x1_1), (1, .int .i64 (Int.tmod x0_1 x1_1))]) (h' := []) (c' := 0) [] (by decide) rfl ⟨by kernel_rfl, by kernel_rfl, trivial⟩ trivial rfl ?_
        refine XL.conv (f41_1_ok m fuel x1_1 (Int.tmod x0_1 x1_1) o h Q hQ) (by first | rfl | simp)
    | false =>
      have h := cF b1 h
      refine XQ.cond (s := (.tmp 6)) (b := false) (by kernel_rfl) (by kernel_rfl) (fun q => by cases q) (fun _ => ?_)
      refine XQ.ren (σ' := [(0, .int .i64 x0_1)]) (h' := []) (c' := 0) [] (by decide) rfl ⟨by kernel_rfl, trivial⟩ trivial rfl ?_
      refine XQ.exit (i := 0) (by kernel_rfl) ?_
      cases h
      exact hQ

def f41 (m : Nat) (a : Int) (b : Int) : Option (Int) :=
  (f41_1 m m a b).bind fun o1 =>
    some (o1)

theorem f41_ok (m : Nat) (a : Int) (b : Int) (o : Int) (h : f41 m a b = some o) (w : World) (hI : maxInv w) : Calls Proofs.Try.prog 41 #[.int .i64 a, .int .i64 b] w fun e w' => e = .returned (.int .i64 o) ∧ Below w.heap.size w w' := by
  refine KC.calls (E := E0) (args := [.int .i64 a, .int .i64 b]) (v := .int .i64 o) rfl rfl (KC.bodyN E0_ok (F := Proofs.Try.f41) (by kernel_rfl) (code := f41_C41) (by kernel_rfl) (nt := 12) (by kernel_rfl) (rs := [.tmp 4]) (by kernel_rfl) (by kernel_rfl) (σ := [(0, .int .i64 a), (1, .int .i64 b)]) (by kernel_rfl) ?_) w (maxInv_size hI) hI
  unfold f41 at h
  refine XQ.seq E0_ok (by kernel_rfl) ?_
  refine XQ.region (by kernel_rfl) ?_
  refine XR.run E0_ok 1 1 [0, 1] rfl (σ' := [(0, .int .i64 a), (1, .int .i64 b)]) (h' := []) (c' := 0) (by kernel_rfl) ?_
  refine XR.done (by kernel_rfl) ?_
  show XQ _ _ _ _ _ _ _ _
  refine XQ.seq E0_ok (by kernel_rfl) ?_
  refine XQ.block (id := 0) (by kernel_rfl) ?_
  refine XQ.loop m (by kernel_rfl) ?_
  obtain ⟨o1, o1_h, h⟩ := bS h
  refine XL.ren (σ' := [(0, .int .i64 a), (1, .int .i64 b)]) (h' := []) (c' := 0) [] (by decide) rfl ⟨by kernel_rfl, by kernel_rfl, trivial⟩ trivial rfl ?_
  refine XL.conv (f41_1_ok m m a b o1 o1_h _ ?_) (by first | rfl | simp)
  show XQ _ _ _ _ _ _ _ _
  refine XQ.seq E0_ok (by kernel_rfl) ?_
  refine XQ.region (by kernel_rfl) ?_
  refine XR.run E0_ok 1 2 [4] rfl (σ' := [(4, .int .i64 o1)]) (h' := []) (c' := 0) (by kernel_rfl) ?_
  refine XR.done (by kernel_rfl) ?_
  show XQ _ _ _ _ _ _ _ _
  refine XQ.ret (by kernel_rfl) ?_
  have h := Option.some.inj h
  subst h
  exact ⟨fun i q => (by cases q), .int .i64 o1, (by kernel_rfl), rfl⟩

/-! math/bits.OnesCount16 -/
noncomputable def f43_C43 : Code := Proofs.Try.f43.body.getD .skip

def f43 (m : Nat) (a : Int) : Option (Int) :=
  cond (inRow (shV false .u16 a 8) (bs [0, 1, 1, 2, 1, 2, 2, 3, 1, 2, 2, 3, 2, 3, 3, 4, 1, 2, 2, 3, 2, 3, 3, 4, 2, 3, 3, 4, 3, 4, 4, 5, 1, 2, 2, 3, 2, 3, 3, 4, 2, 3, 3, 4, 3, 4, 4, 5, 2, 3, 3, 4, 3, 4, 4, 5, 3, 4, 4, 5, 4, 5, 5, 6, 1, 2, 2, 3, 2, 3, 3, 4, 2, 3, 3, 4, 3, 4, 4, 5, 2, 3, 3, 4, 3, 4, 4, 5, 3, 4, 4, 5, 4, 5, 5, 6, 2, 3, 3, 4, 3, 4, 4, 5, 3, 4, 4, 5, 4, 5, 5, 6, 3, 4, 4, 5, 4, 5, 5, 6, 4, 5, 5, 6, 5, 6, 6, 7, 1, 2, 2, 3, 2, 3, 3, 4, 2, 3, 3, 4, 3, 4, 4, 5, 2, 3, 3, 4, 3, 4, 4, 5, 3, 4, 4, 5, 4, 5, 5, 6, 2, 3, 3, 4, 3, 4, 4, 5, 3, 4, 4, 5, 4, 5, 5, 6, 3, 4, 4, 5, 4, 5, 5, 6, 4, 5, 5, 6, 5, 6, 6, 7, 2, 3, 3, 4, 3, 4, 4, 5, 3, 4, 4, 5, 4, 5, 5, 6, 3, 4, 4, 5, 4, 5, 5, 6, 4, 5, 5, 6, 5, 6, 6, 7, 3, 4, 4, 5, 4, 5, 5, 6, 4, 5, 5, 6, 5, 6, 6, 7, 4, 5, 5, 6, 5, 6, 6, 7, 5, 6, 6, 7, 6, 7, 7, 8]).size) (
    cond (inRow (andV .u16 a 255) (bs [0, 1, 1, 2, 1, 2, 2, 3, 1, 2, 2, 3, 2, 3, 3, 4, 1, 2, 2, 3, 2, 3, 3, 4, 2, 3, 3, 4, 3, 4, 4, 5, 1, 2, 2, 3, 2, 3, 3, 4, 2, 3, 3, 4, 3, 4, 4, 5, 2, 3, 3, 4, 3, 4, 4, 5, 3, 4, 4, 5, 4, 5, 5, 6, 1, 2, 2, 3, 2, 3, 3, 4, 2, 3, 3, 4, 3, 4, 4, 5, 2, 3, 3, 4, 3, 4, 4, 5, 3, 4, 4, 5, 4, 5, 5, 6, 2, 3, 3, 4, 3, 4, 4, 5, 3, 4, 4, 5, 4, 5, 5, 6, 3, 4, 4, 5, 4, 5, 5, 6, 4, 5, 5, 6, 5, 6, 6, 7, 1, 2, 2, 3, 2, 3, 3, 4, 2, 3, 3, 4, 3, 4, 4, 5, 2, 3, 3, 4, 3, 4, 4, 5, 3, 4, 4, 5, 4, 5, 5, 6, 2, 3, 3, 4, 3, 4, 4, 5, 3, 4, 4, 5, 4, 5, 5, 6, 3, 4, 4, 5, 4, 5, 5, 6, 4, 5, 5, 6, 5, 6, 6, 7, 2, 3, 3, 4, 3, 4, 4, 5, 3, 4, 4, 5, 4, 5, 5, 6, 3, 4, 4, 5, 4, 5, 5, 6, 4, 5, 5, 6, 5, 6, 6, 7, 3, 4, 4, 5, 4, 5, 5, 6, 4, 5, 5, 6, 5, 6, 6, 7, 4, 5, 5, 6, 5, 6, 6, 7, 5, 6, 6, 7, 6, 7, 7, 8]).size) (
      some (w64 (IntKind.wrap .u8 ((byteAt (bs [0, 1, 1, 2, 1, 2, 2, 3, 1, 2, 2, 3, 2, 3, 3, 4, 1, 2, 2, 3, 2, 3, 3, 4, 2, 3, 3, 4, 3, 4, 4, 5, 1, 2, 2, 3, 2, 3, 3, 4, 2, 3, 3, 4, 3, 4, 4, 5, 2, 3, 3, 4, 3, 4, 4, 5, 3, 4, 4, 5, 4, 5, 5, 6, 1, 2, 2, 3, 2, 3, 3, 4, 2, 3, 3, 4, 3, 4, 4, 5, 2, 3, 3, 4, 3, 4, 4, 5, 3, 4, 4, 5, 4, 5, 5, 6, 2, 3, 3, 4, 3, 4, 4, 5, 3, 4, 4, 5, 4, 5, 5, 6, 3, 4, 4, 5, 4, 5, 5, 6, 4, 5, 5, 6, 5, 6, 6, 7, 1, 2, 2, 3, 2, 3, 3, 4, 2, 3, 3, 4, 3, 4, 4, 5, 2, 3, 3, 4, 3, 4, 4, 5, 3, 4, 4, 5, 4, 5, 5, 6, 2, 3, 3, 4, 3, 4, 4, 5, 3, 4, 4, 5, 4, 5, 5, 6, 3, 4, 4, 5, 4, 5, 5, 6, 4, 5, 5, 6, 5, 6, 6, 7, 2, 3, 3, 4, 3, 4, 4, 5, 3, 4, 4, 5, 4, 5, 5, 6, 3, 4, 4, 5, 4, 5, 5, 6, 4, 5, 5, 6, 5, 6, 6, 7, 3, 4, 4, 5, 4, 5, 5, 6, 4, 5, 5, 6, 5, 6, 6, 7, 4, 5, 5, 6, 5, 6, 6, 7, 5, 6, 6, 7, 6, 7, 7, 8]) (shV false .u16 a 8)) + (byteAt (bs [0, 1, 1, 2, 1, 2, 2, 3, 1, 2, 2, 3, 2, 3, 3, 4, 1, 2, 2, 3, 2, 3, 3, 4, 2, 3, 3, 4, 3, 4, 4, 5, 1, 2, 2, 3, 2, 3, 3, 4, 2, 3, 3, 4, 3, 4, 4, 5, 2, 3, 3, 4, 3, 4, 4, 5, 3, 4, 4, 5, 4, 5, 5, 6, 1, 2, 2, 3, 2, 3, 3, 4, 2, 3, 3, 4, 3, 4, 4, 5, 2, 3, 3, 4, 3, 4, 4, 5, 3, 4, 4, 5, 4, 5, 5, 6, 2, 3, 3, 4, 3, 4, 4, 5, 3, 4, 4, 5, 4, 5, 5, 6, 3, 4, 4, 5, 4, 5, 5, 6, 4, 5, 5, 6, 5, 6, 6, 7, 1, 2, 2, 3, 2, 3, 3, 4, 2, 3, 3, 4, 3, 4, 4, 5, 2, 3, 3, 4, 3, 4, 4, 5, 3, 4, 4, 5, 4, 5, 5, 6, 2, 3, 3, 4, 3, 4, 4, 5, 3, 4, 4, 5, 4, 5, 5, 6, 3, 4, 4, 5, 4, 5, 5, 6, 4, 5, 5, 6, 5, 6, 6, 7, 2, 3, 3, 4, 3, 4, 4, 5, 3, 4, 4, 5, 4, 5, 5, 6, 3, 4, 4, 5, 4, 5, 5, 6, 4, 5, 5, 6, 5, 6, 6, 7, 3, 4, 4, 5, 4, 5, 5, 6, 4, 5, 5, 6, 5, 6, 6, 7, 4, 5, 5, 6, 5, 6, 6, 7, 5, 6, 6, 7, 6, 7, 7, 8]) (andV .u16 a 255)))))
    ) none
  ) none

theorem f43_ok (m : Nat) (a : Int) (o : Int) (h : f43 m a = some o) (w : World) (hI : maxInv w) : Calls Proofs.Try.prog 43 #[.int .u16 a] w fun e w' => e = .returned (.int .i64 o) ∧ Below w.heap.size w w' := by
  refine KC.calls (E := E0) (args := [.int .u16 a]) (v := .int .i64 o) rfl rfl (KC.bodyN E0_ok (F := Proofs.Try.f43) (by kernel_rfl) (code := f43_C43) (by kernel_rfl) (nt := 11) (by kernel_rfl) (rs := [.tmp 2]) (by kernel_rfl) (by kernel_rfl) (σ := [(0, .int .u16 a)]) (by kernel_rfl) ?_) w (maxInv_size hI) hI
  unfold f43 at h
  refine XQ.seq E0_ok (by kernel_rfl) ?_
  refine XQ.region (by kernel_rfl) ?_
  refine XR.run E0_ok 1 1 [0] rfl (σ' := [(0, .int .u16 a)]) (h' := []) (c' := 0) (by kernel_rfl) ?_
  refine XR.done (by kernel_rfl) ?_
  show XQ _ _ _ _ _ _ _ _
  refine XQ.seq E0_ok (by kernel_rfl) ?_
  refine XQ.quiet E0_ok (by kernel_rfl) (by kernel_rfl) ?_
  refine XU.run E0_ok 1 2 [0, 4] rfl (σ' := [(0, .int .u16 a), (4, .int .u16 (shV false .u16 a 8))]) (by kernel_rfl) ?_
  cases b1 : (inRow (shV false .u16 a 8) (bs [0, 1, 1, 2, 1, 2, 2, 3, 1, 2, 2, 3, 2, 3, 3, 4, 1, 2, 2, 3, 2, 3, 3, 4, 2, 3, 3, 4, 3, 4, 4, 5, 1, 2, 2, 3, 2, 3, 3, 4, 2, 3, 3, 4, 3, 4, 4, 5, 2, 3, 3, 4, 3, 4, 4, 5, 3, 4, 4, 5, 4, 5, 5, 6, 1, 2, 2, 3, 2, 3, 3, 4, 2, 3, 3, 4, 3, 4, 4, 5, 2, 3, 3, 4, 3, 4, 4, 5, 3, 4, 4, 5, 4, 5, 5, 6, 2, 3, 3, 4, 3, 4, 4, 5, 3, 4, 4, 5, 4, 5, 5, 6, 3, 4, 4, 5, 4, 5, 5, 6, 4, 5, 5, 6, 5, 6, 6, 7, 1, 2, 2, 3, 2, 3, 3, 4, 2, 3, 3, 4, 3, 4, 4, 5, 2, 3, 3, 4, 3, 4, 4, 5, 3, 4, 4, 5, 4, 5, 5, 6, 2, 3, 3, 4, 3, 4, 4, 5, 3, 4, 4, 5, 4, 5, 5, 6, 3, 4, 4, 5, 4, 5, 5, 6, 4, 5, 5, 6, 5, 6, 6, 7, 2, 3, 3, 4, 3, 4, 4, 5, 3, 4, 4, 5, 4, 5, 5, 6, 3, 4, 4, 5, 4, 5, 5, 6, 4, 5, 5, 6, 5, 6, 6, 7, 3, 4, 4, 5, 4, 5, 5, 6, 4, 5, 5, 6, 5, 6, 6, 7, 4, 5, 5, 6, 5, 6, 6, 7, 5, 6, 6, 7, 6, 7, 7, 8]).size : Bool) with
  | false => cases (cF b1 h)
  | true =>
    have h := cT b1 h
    have e2 : insV (headI ((gsOf E0 11 (opsOf (lft (rgt f43_C43)))).drop 2) (trS 11 [(0, .int .u16 a), (4, .int .u16 (shV false .u16 a 8))])) (trS 11 [(0, .int .u16 a), (4, .int .u16 (shV false .u16 a 8))]) [] = (match (inRow (shV false .u16 a 8) (bs [0, 1, 1, 2, 1, 2, 2, 3, 1, 2, 2, 3, 2, 3, 3, 4, 1, 2, 2, 3, 2, 3, 3, 4, 2, 3, 3, 4, 3, 4, 4, 5, 1, 2, 2, 3, 2, 3, 3, 4, 2, 3, 3, 4, 3, 4, 4, 5, 2, 3, 3, 4, 3, 4, 4, 5, 3, 4, 4, 5, 4, 5, 5, 6, 1, 2, 2, 3, 2, 3, 3, 4, 2, 3, 3, 4, 3, 4, 4, 5, 2, 3, 3, 4, 3, 4, 4, 5, 3, 4, 4, 5, 4, 5, 5, 6, 2, 3, 3, 4, 3, 4, 4, 5, 3, 4, 4, 5, 4, 5, 5, 6, 3, 4, 4, 5, 4, 5, 5, 6, 4, 5, 5, 6, 5, 6, 6, 7, 1, 2, 2, 3, 2, 3, 3, 4, 2, 3, 3, 4, 3, 4, 4, 5, 2, 3, 3, 4, 3, 4, 4, 5, 3, 4, 4, 5, 4, 5, 5, 6, 2, 3, 3, 4, 3, 4, 4, 5, 3, 4, 4, 5, 4, 5, 5, 6, 3, 4, 4, 5, 4, 5, 5, 6, 4, 5, 5, 6, 5, 6, 6, 7, 2, 3, 3, 4, 3, 4, 4, 5, 3, 4, 4, 5, 4, 5, 5, 6, 3, 4, 4, 5, 4, 5, 5, 6, 4, 5, 5, 6, 5, 6, 6, 7, 3, 4, 4, 5, 4, 5, 5, 6, 4, 5, 5, 6, 5, 6, 6, 7, 4, 5, 5, 6, 5, 6, 6, 7, 5, 6, 6, 7, 6, 7, 7, 8]).size : Bool) with | true => some (.int .u8 (byteAt (bs [0, 1, 1, 2, 1, 2, 2, 3, 1, 2, 2, 3, 2, 3, 3, 4, 1, 2, 2, 3, 2, 3, 3, 4, 2, 3, 3, 4, 3, 4, 4, 5, 1, 2, 2, 3, 2, 3, 3, 4, 2, 3, 3, 4, 3, 4, 4, 5, 2, 3, 3, 4, 3, 4, 4, 5, 3, 4, 4, 5, 4, 5, 5, 6, 1, 2, 2, 3, 2, 3, 3, 4, 2, 3, 3, 4, 3, 4, 4, 5, 2, 3, 3, 4, 3, 4, 4, 5, 3, 4, 4, 5, 4, 5, 5, 6, 2, 3, 3, 4, 3, 4, 4, 5, 3, 4, 4, 5, 4, 5, 5, 6, 3, 4, 4, 5, 4, 5, 5, 6, 4, 5, 5, 6, 5, 6, 6, 7, 1, 2, 2, 3, 2, 3, 3, 4, 2, 3, 3, 4, 3, 4, 4, 5, 2, 3, 3, 4, 3, 4, 4, 5, 3, 4, 4, 5, 4, 5, 5, 6, 2, 3, 3, 4, 3, 4, 4, 5, 3, 4, 4, 5, 4, 5, 5, 6, 3, 4, 4, 5, 4, 5, 5, 6, 4, 5, 5, 6, 5, 6, 6, 7, 2, 3, 3, 4, 3, 4, 4, 5, 3, 4, 4, 5, 4, 5, 5, 6, 3, 4, 4, 5, 4, 5, 5, 6, 4, 5, 5, 6, 5, 6, 6, 7, 3, 4, 4, 5, 4, 5, 5, 6, 4, 5, 5, 6, 5, 6, 6, 7, 4, 5, 5, 6, 5, 6, 6, 7, 5, 6, 6, 7, 6, 7, 7, 8]) (shV false .u16 a 8))) | false => none) := by kernel_rfl
    refine XU.rd E0_ok [0, 5] rfl (e2.trans (by rw [b1])) (σ' := [(0, .int .u16 a), (5, .int .u8 (byteAt (bs [0, 1, 1, 2, 1, 2, 2, 3, 1, 2, 2, 3, 2, 3, 3, 4, 1, 2, 2, 3, 2, 3, 3, 4, 2, 3, 3, 4, 3, 4, 4, 5, 1, 2, 2, 3, 2, 3, 3, 4, 2, 3, 3, 4, 3, 4, 4, 5, 2, 3, 3, 4, 3, 4, 4, 5, 3, 4, 4, 5, 4, 5, 5, 6, 1, 2, 2, 3, 2, 3, 3, 4, 2, 3, 3, 4, 3, 4, 4, 5, 2, 3, 3, 4, 3, 4, 4, 5, 3, 4, 4, 5, 4, 5, 5, 6, 2, 3, 3, 4, 3, 4, 4, 5, 3, 4, 4, 5, 4, 5, 5, 6, 3, 4, 4, 5, 4, 5, 5, 6, 4, 5, 5, 6, 5, 6, 6, 7, 1, 2, 2, 3, 2, 3, 3, 4, 2, 3, 3, 4, 3, 4, 4, 5, 2, 3, 3, 4, 3, 4, 4, 5, 3, 4, 4, 5, 4, 5, 5, 6, 2, 3, 3, 4, 3, 4, 4, 5, 3, 4, 4, 5, 4, 5, 5, 6, 3, 4, 4, 5, 4, 5, 5, 6, 4, 5, 5, 6, 5, 6, 6, 7, 2, 3, 3, 4, 3, 4, 4, 5, 3, 4, 4, 5, 4, 5, 5, 6, 3, 4, 4, 5, 4, 5, 5, 6, 4, 5, 5, 6, 5, 6, 6, 7, 3, 4, 4, 5, 4, 5, 5, 6, 4, 5, 5, 6, 5, 6, 6, 7, 4, 5, 5, 6, 5, 6, 6, 7, 5, 6, 6, 7, 6, 7, 7, 8]) (shV false .u16 a 8)))]) (by kernel_rfl) ?_
    refine XU.run E0_ok 1 2 [5, 7] rfl (σ' := [(5, .int .u8 (byteAt (bs [0, 1, 1, 2, 1, 2, 2, 3, 1, 2, 2, 3, 2, 3, 3, 4, 1, 2, 2, 3, 2, 3, 3, 4, 2, 3, 3, 4, 3, 4, 4, 5, 1, 2, 2, 3, 2, 3, 3, 4, 2, 3, 3, 4, 3, 4, 4, 5, 2, 3, 3, 4, 3, 4, 4, 5, 3, 4, 4, 5, 4, 5, 5, 6, 1, 2, 2, 3, 2, 3, 3, 4, 2, 3, 3, 4, 3, 4, 4, 5, 2, 3, 3, 4, 3, 4, 4, 5, 3, 4, 4, 5, 4, 5, 5, 6, 2, 3, 3, 4, 3, 4, 4, 5, 3, 4, 4, 5, 4, 5, 5, 6, 3, 4, 4, 5, 4, 5, 5, 6, 4, 5, 5, 6, 5, 6, 6, 7, 1, 2, 2, 3, 2, 3, 3, 4, 2, 3, 3, 4, 3, 4, 4, 5, 2, 3, 3, 4, 3, 4, 4, 5, 3, 4, 4, 5, 4, 5, 5, 6, 2, 3, 3, 4, 3, 4, 4, 5, 3, 4, 4, 5, 4, 5, 5, 6, 3, 4, 4, 5, 4, 5, 5, 6, 4, 5, 5, 6, 5, 6, 6, 7, 2, 3, 3, 4, 3, 4, 4, 5, 3, 4, 4, 5, 4, 5, 5, 6, 3, 4, 4, 5, 4, 5, 5, 6, 4, 5, 5, 6, 5, 6, 6, 7, 3, 4, 4, 5, 4, 5, 5, 6, 4, 5, 5, 6, 5, 6, 6, 7, 4, 5, 5, 6, 5, 6, 6, 7, 5, 6, 6, 7, 6, 7, 7, 8]) (shV false .u16 a 8))), (7, .int .u16 (andV .u16 a 255))]) (by kernel_rfl) ?_
    cases b3 : (inRow (andV .u16 a 255) (bs [0, 1, 1, 2, 1, 2, 2, 3, 1, 2, 2, 3, 2, 3, 3, 4, 1, 2, 2, 3, 2, 3, 3, 4, 2, 3, 3, 4, 3, 4, 4, 5, 1, 2, 2, 3, 2, 3, 3, 4, 2, 3, 3, 4, 3, 4, 4, 5, 2, 3, 3, 4, 3, 4, 4, 5, 3, 4, 4, 5, 4, 5, 5, 6, 1, 2, 2, 3, 2, 3, 3, 4, 2, 3, 3, 4, 3, 4, 4, 5, 2, 3, 3, 4, 3, 4, 4, 5, 3, 4, 4, 5, 4, 5, 5, 6, 2, 3, 3, 4, 3, 4, 4, 5, 3, 4, 4, 5, 4, 5, 5, 6, 3, 4, 4, 5, 4, 5, 5, 6, 4, 5, 5, 6, 5, 6, 6, 7, 1, 2, 2, 3, 2, 3, 3, 4, 2, 3, 3, 4, 3, 4, 4, 5, 2, 3, 3, 4, 3, 4, 4, 5, 3, 4, 4, 5, 4, 5, 5, 6, 2, 3, 3, 4, 3, 4, 4, 5, 3, 4, 4, 5, 4, 5, 5, 6, 3, 4, 4, 5, 4, 5, 5, 6, 4, 5, 5, 6, 5, 6, 6, 7, 2, 3, 3, 4, 3, 4, 4, 5, 3, 4, 4, 5, 4, 5, 5, 6, 3, 4, 4, 5, 4, 5, 5, 6, 4, 5, 5, 6, 5, 6, 6, 7, 3, 4, 4, 5, 4, 5, 5, 6, 4, 5, 5, 6, 5, 6, 6, 7, 4, 5, 5, 6, 5, 6, 6, 7, 5, 6, 6, 7, 6, 7, 7, 8]).size : Bool) with
    | false => cases (cF b3 h)
    | true =>
      have h := cT b3 h
      have e4 : insV (headI ((gsOf E0 11 (opsOf (lft (rgt f43_C43)))).drop 5) (trS 11 [(5, .int .u8 (byteAt (bs [0, 1, 1, 2, 1, 2, 2, 3, 1, 2, 2, 3, 2, 3, 3, 4, 1, 2, 2, 3, 2, 3, 3, 4, 2, 3, 3, 4, 3, 4, 4, 5, 1, 2, 2, 3, 2, 3, 3, 4, 2, 3, 3, 4, 3, 4, 4, 5, 2, 3, 3, 4, 3, 4, 4, 5, 3, 4, 4, 5, 4, 5, 5, 6, 1, 2, 2, 3, 2, 3, 3, 4, 2, 3, 3, 4, 3, 4, 4, 5, 2, 3, 3, 4, 3, 4, 4, 5, 3, 4, 4, 5, 4, 5, 5, 6, 2, 3, 3, 4, 3, 4, 4, 5, 3, 4, 4, 5, 4, 5, 5, 6, 3, 4, 4, 5, 4, 5, 5, 6, 4, 5, 5, 6, 5, 6, 6, 7, 1, 2, 2, 3, 2, 3, 3, 4, 2, 3, 3, 4, 3, 4, 4, 5, 2, 3, 3, 4, 3, 4, 4, 5, 3, 4, 4, 5, 4, 5, 5, 6, 2, 3, 3, 4, 3, 4, 4, 5, 3, 4, 4, 5, 4, 5, 5, 6, 3, 4, 4, 5, 4, 5, 5, 6, 4, 5, 5, 6, 5, 6, 6, 7, 2, 3, 3, 4, 3, 4, 4, 5, 3, 4, 4, 5, 4, 5, 5, 6, 3, 4, 4, 5, 4, 5, 5, 6, 4, 5, 5, 6, 5, 6, 6, 7, 3, 4, 4, 5, 4, 5, 5, 6, 4, 5, 5, 6, 5, 6, 6, 7, 4, 5, 5, 6, 5, 6, 6, 7, 5, 6, 6, 7, 6, 7, 7, 8]) (shV false .u16 a 8))), (7, .int .u16 (andV .u16 a 255))])) (trS 11 [(5, .int .u8 (byteAt (bs [0, 1, 1, 2, 1, 2, 2, 3, 1, 2, 2, 3, 2, 3, 3, 4, 1, 2, 2, 3, 2, 3, 3, 4, 2, 3, 3, 4, 3, 4, 4, 5, 1, 2, 2, 3, 2, 3, 3, 4, 2, 3, 3, 4, 3, 4, 4, 5, 2, 3, 3, 4, 3, 4, 4, 5, 3, 4, 4, 5, 4, 5, 5, 6, 1, 2, 2, 3, 2, 3, 3, 4, 2, 3, 3, 4, 3, 4, 4, 5, 2, 3, 3, 4, 3, 4, 4, 5, 3, 4, 4, 5, 4, 5, 5, 6, 2, 3, 3, 4, 3, 4, 4, 5, 3, 4, 4, 5, 4, 5, 5, 6, 3, 4, 4, 5, 4, 5, 5, 6, 4, 5, 5, 6, 5, 6, 6, 7, 1, 2, 2, 3, 2, 3, 3, 4, 2, 3, 3, 4, 3, 4, 4, 5, 2, 3, 3, 4, 3, 4, 4, 5, 3, 4, 4, 5, 4, 5, 5, 6, 2, 3, 3, 4, 3, 4, 4, 5, 3, 4, 4, 5, 4, 5, 5, 6, 3, 4, 4, 5, 4, 5, 5, 6, 4, 5, 5, 6, 5, 6, 6, 7, 2, 3, 3, 4, 3, 4, 4, 5, 3, 4, 4, 5, 4, 5, 5, 6, 3, 4, 4, 5, 4, 5, 5, 6, 4, 5, 5, 6, 5, 6, 6, 7, 3, 4, 4, 5, 4, 5, 5, 6, 4, 5, 5, 6, 5, 6, 6, 7, 4, 5, 5, 6, 5, 6, 6, 7, 5, 6, 6, 7, 6, 7, 7, 8]) (shV false .u16 a 8))), (7, .int .u16 (andV .u16 a 255))]) [] = (match (inRow (andV .u16 a 255) (bs [0, 1, 1, 2, 1, 2, 2, 3, 1, 2, 2, 3, 2, 3, 3, 4, 1, 2, 2, 3, 2, 3, 3, 4, 2, 3, 3, 4, 3, 4, 4, 5, 1, 2, 2, 3, 2, 3, 3, 4, 2, 3, 3, 4, 3, 4, 4, 5, 2, 3, 3, 4, 3, 4, 4, 5, 3, 4, 4, 5, 4, 5, 5, 6, 1, 2, 2, 3, 2, 3, 3, 4, 2, 3, 3, 4, 3, 4, 4, 5, 2, 3, 3, 4, 3, 4, 4, 5, 3, 4, 4, 5, 4, 5, 5, 6, 2, 3, 3, 4, 3, 4, 4, 5, 3, 4, 4, 5, 4, 5, 5, 6, 3, 4, 4, 5, 4, 5, 5, 6, 4, 5, 5, 6, 5, 6, 6, 7, 1, 2, 2, 3, 2, 3, 3, 4, 2, 3, 3, 4, 3, 4, 4, 5, 2, 3, 3, 4, 3, 4, 4, 5, 3, 4, 4, 5, 4, 5, 5, 6, 2, 3, 3, 4, 3, 4, 4, 5, 3, 4, 4, 5, 4, 5, 5, 6, 3, 4, 4, 5, 4, 5, 5, 6, 4, 5, 5, 6, 5, 6, 6, 7, 2, 3, 3, 4, 3, 4, 4, 5, 3, 4, 4, 5, 4, 5, 5, 6, 3, 4, 4, 5, 4, 5, 5, 6, 4, 5, 5, 6, 5, 6, 6, 7, 3, 4, 4, 5, 4, 5, 5, 6, 4, 5, 5, 6, 5, 6, 6, 7, 4, 5, 5, 6, 5, 6, 6, 7, 5, 6, 6, 7, 6, 7, 7, 8]).size : Bool) with | true => some (.int .u8 (byteAt (bs [0, 1, 1, 2, 1, 2, 2, 3, 1, 2, 2, 3, 2, 3, 3, 4, 1, 2, 2, 3, 2, 3, 3, 4, 2, 3, 3, 4, 3, 4, 4, 5, 1, 2, 2, 3, 2, 3, 3, 4, 2, 3, 3, 4, 3, 4, 4, 5, 2, 3, 3, 4, 3, 4, 4, 5, 3, 4, 4, 5, 4, 5, 5, 6, 1, 2, 2, 3, 2, 3, 3, 4, 2, 3, 3, 4, 3, 4, 4, 5, 2, 3, 3, 4, 3, 4, 4, 5, 3, 4, 4, 5, 4, 5, 5, 6, 2, 3, 3, 4, 3, 4, 4, 5, 3, 4, 4, 5, 4, 5, 5, 6, 3, 4, 4, 5, 4, 5, 5, 6, 4, 5, 5, 6, 5, 6, 6, 7, 1, 2, 2, 3, 2, 3, 3, 4, 2, 3, 3, 4, 3, 4, 4, 5, 2, 3, 3, 4, 3, 4, 4, 5, 3, 4, 4, 5, 4, 5, 5, 6, 2, 3, 3, 4, 3, 4, 4, 5, 3, 4, 4, 5, 4, 5, 5, 6, 3, 4, 4, 5, 4, 5, 5, 6, 4, 5, 5, 6, 5, 6, 6, 7, 2, 3, 3, 4, 3, 4, 4, 5, 3, 4, 4, 5, 4, 5, 5, 6, 3, 4, 4, 5, 4, 5, 5, 6, 4, 5, 5, 6, 5, 6, 6, 7, 3, 4, 4, 5, 4, 5, 5, 6, 4, 5, 5, 6, 5, 6, 6, 7, 4, 5, 5, 6, 5, 6, 6, 7, 5, 6, 6, 7, 6, 7, 7, 8]) (andV .u16 a 255))) | false => none) := by kernel_rfl
      refine XU.rd E0_ok [5, 8] rfl (e4.trans (by rw [b3])) (σ' := [(5, .int .u8 (byteAt (bs [0, 1, 1, 2, 1, 2, 2, 3, 1, 2, 2, 3, 2, 3, 3, 4, 1, 2, 2, 3, 2, 3, 3, 4, 2, 3, 3, 4, 3, 4, 4, 5, 1, 2, 2, 3, 2, 3, 3, 4, 2, 3, 3, 4, 3, 4, 4, 5, 2, 3, 3, 4, 3, 4, 4, 5, 3, 4, 4, 5, 4, 5, 5, 6, 1, 2, 2, 3, 2, 3, 3, 4, 2, 3, 3, 4, 3, 4, 4, 5, 2, 3, 3, 4, 3, 4, 4, 5, 3, 4, 4, 5, 4, 5, 5, 6, 2, 3, 3, 4, 3, 4, 4, 5, 3, 4, 4, 5, 4, 5, 5, 6, 3, 4, 4, 5, 4, 5, 5, 6, 4, 5, 5, 6, 5, 6, 6, 7, 1, 2, 2, 3, 2, 3, 3, 4, 2, 3, 3, 4, 3, 4, 4, 5, 2, 3, 3, 4, 3, 4, 4, 5, 3, 4, 4, 5, 4, 5, 5, 6, 2, 3, 3, 4, 3, 4, 4, 5, 3, 4, 4, 5, 4, 5, 5, 6, 3, 4, 4, 5, 4, 5, 5, 6, 4, 5, 5, 6, 5, 6, 6, 7, 2, 3, 3, 4, 3, 4, 4, 5, 3, 4, 4, 5, 4, 5, 5, 6, 3, 4, 4, 5, 4, 5, 5, 6, 4, 5, 5, 6, 5, 6, 6, 7, 3, 4, 4, 5, 4, 5, 5, 6, 4, 5, 5, 6, 5, 6, 6, 7, 4, 5, 5, 6, 5, 6, 6, 7, 5, 6, 6, 7, 6, 7, 7, 8]) (shV false .u16 a 8))), (8, .int .u8 (byteAt (bs [0, 1, 1, 2, 1, 2, 2, 3, 1, 2, 2, 3, 2, 3, 3, 4, 1, 2, 2, 3, 2, 3, 3, 4, 2, 3, 3, 4, 3, 4, 4, 5, 1, 2, 2, 3, 2, 3, 3, 4, 2, 3, 3, 4, 3, 4, 4, 5, 2, 3, 3, 4, 3, 4, 4, 5, 3, 4, 4, 5, 4, 5, 5, 6, 1, 2, 2, 3, 2, 3, 3, 4, 2, 3, 3, 4, 3, 4, 4, 5, 2, 3, 3, 4, 3, 4, 4, 5, 3, 4, 4, 5, 4, 5, 5, 6, 2, 3, 3, 4, 3, 4, 4, 5, 3, 4, 4, 5, 4, 5, 5, 6, 3, 4, 4, 5, 4, 5, 5, 6, 4, 5, 5, 6, 5, 6, 6, 7, 1, 2, 2, 3, 2, 3, 3, 4, 2, 3, 3, 4, 3, 4, 4, 5, 2, 3, 3, 4, 3, 4, 4, 5, 3, 4, 4, 5, 4, 5, 5, 6, 2, 3, 3, 4, 3, 4, 4, 5, 3, 4, 4, 5, 4, 5, 5, 6, 3, 4, 4, 5, 4, 5, 5, 6, 4, 5, 5, 6, 5, 6, 6, 7, 2, 3, 3, 4, 3, 4, 4, 5, 3, 4, 4, 5, 4, 5, 5, 6, 3, 4, 4, 5, 4, 5, 5, 6, 4, 5, 5, 6, 5, 6, 6, 7, 3, 4, 4, 5, 4, 5, 5, 6, 4, 5, 5, 6, 5, 6, 6, 7, 4, 5, 5, 6, 5, 6, 6, 7, 5, 6, 6, 7, 6, 7, 7, 8]) (andV .u16 a 255)))]) (by kernel_rfl) ?_
      refine XU.run E0_ok 1 3 [2] rfl (σ' := [(2, .int .i64 (w64 (IntKind.wrap .u8 ((byteAt (bs [0, 1, 1, 2, 1, 2, 2, 3, 1, 2, 2, 3, 2, 3, 3, 4, 1, 2, 2, 3, 2, 3, 3, 4, 2, 3, 3, 4, 3, 4, 4, 5, 1, 2, 2, 3, 2, 3, 3, 4, 2, 3, 3, 4, 3, 4, 4, 5, 2, 3, 3, 4, 3, 4, 4, 5, 3, 4, 4, 5, 4, 5, 5, 6, 1, 2, 2, 3, 2, 3, 3, 4, 2, 3, 3, 4, 3, 4, 4, 5, 2, 3, 3, 4, 3, 4, 4, 5, 3, 4, 4, 5, 4, 5, 5, 6, 2, 3, 3, 4, 3, 4, 4, 5, 3, 4, 4, 5, 4, 5, 5, 6, 3, 4, 4, 5, 4, 5, 5, 6, 4, 5, 5, 6, 5, 6, 6, 7, 1, 2, 2, 3, 2, 3, 3, 4, 2, 3, 3, 4, 3, 4, 4, 5, 2, 3, 3, 4, 3, 4, 4, 5, 3, 4, 4, 5, 4, 5, 5, 6, 2, 3, 3, 4, 3, 4, 4, 5, 3, 4, 4, 5, 4, 5, 5, 6, 3, 4, 4, 5, 4, 5, 5, 6, 4, 5, 5, 6, 5, 6, 6, 7, 2, 3, 3, 4, 3, 4, 4, 5, 3, 4, 4, 5, 4, 5, 5, 6, 3, 4, 4, 5, 4, 5, 5, 6, 4, 5, 5, 6, 5, 6, 6, 7, 3, 4, 4, 5, 4, 5, 5, 6, 4, 5, 5, 6, 5, 6, 6, 7, 4, 5, 5, 6, 5, 6, 6, 7, 5, 6, 6, 7, 6, 7, 7, 8]) (shV false .u16 a 8)) + (byteAt (bs [0, 1, 1, 2, 1, 2, 2, 3, 1, 2, 2, 3, 2, 3, 3, 4, 1, 2, 2, 3, 2, 3, 3, 4, 2, 3, 3, 4, 3, 4, 4, 5, 1, 2, 2, 3, 2, 3, 3, 4, 2, 3, 3, 4, 3, 4, 4, 5, 2, 3, 3, 4, 3, 4, 4, 5, 3, 4, 4, 5, 4, 5, 5, 6, 1, 2, 2, 3, 2, 3, 3, 4, 2, 3, 3, 4, 3, 4, 4, 5, 2, 3, 3, 4, 3, 4, 4, 5, 3, 4, 4, 5, 4, 5, 5, 6, 2, 3, 3, 4, 3, 4, 4, 5, 3, 4, 4, 5, 4, 5, 5, 6, 3, 4, 4, 5, 4, 5, 5, 6, 4, 5, 5, 6, 5, 6, 6, 7, 1, 2, 2, 3, 2, 3, 3, 4, 2, 3, 3, 4, 3, 4, 4, 5, 2, 3, 3, 4, 3, 4, 4, 5, 3, 4, 4, 5, 4, 5, 5, 6, 2, 3, 3, 4, 3, 4, 4, 5, 3, 4, 4, 5, 4, 5, 5, 6, 3, 4, 4, 5, 4, 5, 5, 6, 4, 5, 5, 6, 5, 6, 6, 7, 2, 3, 3, 4, 3, 4, 4, 5, 3, 4, 4, 5, 4, 5, 5, 6, 3, 4, 4, 5, 4, 5, 5, 6, 4, 5, 5, 6, 5, 6, 6, 7, 3, 4, 4, 5, 4, 5, 5, 6, 4, 5, 5, 6, 5, 6, 6, 7, 4, 5, 5, 6, 5, 6, 6, 7, 5, 6, 6, 7, 6, 7, 7, 8]) (andV .u16 a 255))))))]) (by kernel_rfl) ?_
      refine XU.done (by kernel_rfl) ?_
      show XQ _ _ _ _ _ _ _ _
      refine XQ.ret (by kernel_rfl) ?_
      have h := Option.some.inj h
      subst h
      exact ⟨fun i q => (by cases q), .int .i64 (w64 (IntKind.wrap .u8 ((byteAt (bs [0, 1, 1, 2, 1, 2, 2, 3, 1, 2, 2, 3, 2, 3, 3, 4, 1, 2, 2, 3, 2, 3, 3, 4, 2, 3, 3, 4, 3, 4, 4, 5, 1, 2, 2, 3, 2, 3, 3, 4, 2, 3, 3, 4, 3, 4, 4, 5, 2, 3, 3, 4, 3, 4, 4, 5, 3, 4, 4, 5, 4, 5, 5, 6, 1, 2, 2, 3, 2, 3, 3, 4, 2, 3, 3, 4, 3, 4, 4, 5, 2, 3, 3, 4, 3, 4, 4, 5, 3, 4, 4, 5, 4, 5, 5, 6, 2, 3, 3, 4, 3, 4, 4, 5, 3, 4, 4, 5, 4, 5, 5, 6, 3, 4, 4, 5, 4, 5, 5, 6, 4, 5, 5, 6, 5, 6, 6, 7, 1, 2, 2, 3, 2, 3, 3, 4, 2, 3, 3, 4, 3, 4, 4, 5, 2, 3, 3, 4, 3, 4, 4, 5, 3, 4, 4, 5, 4, 5, 5, 6, 2, 3, 3, 4, 3, 4, 4, 5, 3, 4, 4, 5, 4, 5, 5, 6, 3, 4, 4, 5, 4, 5, 5, 6, 4, 5, 5, 6, 5, 6, 6, 7, 2, 3, 3, 4, 3, 4, 4, 5, 3, 4, 4, 5, 4, 5, 5, 6, 3, 4, 4, 5, 4, 5, 5, 6, 4, 5, 5, 6, 5, 6, 6, 7, 3, 4, 4, 5, 4, 5, 5, 6, 4, 5, 5, 6, 5, 6, 6, 7, 4, 5, 5, 6, 5, 6, 6, 7, 5, 6, 6, 7, 6, 7, 7, 8]) (shV false .u16 a 8)) + (byteAt (bs [0, 1, 1, 2, 1, 2, 2, 3, 1, 2, 2, 3, 2, 3, 3, 4, 1, 2, 2, 3, 2, 3, 3, 4, 2, 3, 3, 4, 3, 4, 4, 5, 1, 2, 2, 3, 2, 3, 3, 4, 2, 3, 3, 4, 3, 4, 4, 5, 2, 3, 3, 4, 3, 4, 4, 5, 3, 4, 4, 5, 4, 5, 5, 6, 1, 2, 2, 3, 2, 3, 3, 4, 2, 3, 3, 4, 3, 4, 4, 5, 2, 3, 3, 4, 3, 4, 4, 5, 3, 4, 4, 5, 4, 5, 5, 6, 2, 3, 3, 4, 3, 4, 4, 5, 3, 4, 4, 5, 4, 5, 5, 6, 3, 4, 4, 5, 4, 5, 5, 6, 4, 5, 5, 6, 5, 6, 6, 7, 1, 2, 2, 3, 2, 3, 3, 4, 2, 3, 3, 4, 3, 4, 4, 5, 2, 3, 3, 4, 3, 4, 4, 5, 3, 4, 4, 5, 4, 5, 5, 6, 2, 3, 3, 4, 3, 4, 4, 5, 3, 4, 4, 5, 4, 5, 5, 6, 3, 4, 4, 5, 4, 5, 5, 6, 4, 5, 5, 6, 5, 6, 6, 7, 2, 3, 3, 4, 3, 4, 4, 5, 3, 4, 4, 5, 4, 5, 5, 6, 3, 4, 4, 5, 4, 5, 5, 6, 4, 5, 5, 6, 5, 6, 6, 7, 3, 4, 4, 5, 4, 5, 5, 6, 4, 5, 5, 6, 5, 6, 6, 7, 4, 5, 5, 6, 5, 6, 6, 7, 5, 6, 6, 7, 6, 7, 7, 8]) (andV .u16 a 255))))), (by kernel_rfl), rfl⟩

/-! vitola/vitolalaw08.spread -/
noncomputable def f64_C64 : Code := Proofs.Try.f64.body.getD .skip
noncomputable def f64_L1 : Code := lft (lft (rgt (lft (rgt (rgt (rgt f64_C64))))))

def f64_1 (m : Nat) : Nat → Int → Int → Int → Int → ByteArray → Int → Option (Int × Int)
  | 0, _, _, _, _, _, _ => none
  | fuel + 1, b, c, x7_1, x8_1, s9_1, x18_1 =>
    cond (decide (x18_1 < c)) (
      cond (cutOk x18_1 (w64 (x18_1 + b)) s9_1.size) (
        f64_1 m fuel b c (iMin x7_1 (Lib.countByte (cutT s9_1 x18_1 (w64 (x18_1 + b))).data.toList 98)) (iMax x8_1 (Lib.countByte (cutT s9_1 x18_1 (w64 (x18_1 + b))).data.toList 98)) s9_1 (w64 (x18_1 + 1))
      ) none
    ) (
      some (x7_1, x8_1)
    )

theorem f64_1_ok (m : Nat) : ∀ (fuel : Nat) (b : Int) (c : Int) (x7_1 : Int) (x8_1 : Int) (s9_1 : ByteArray) (x18_1 : Int) (o : (Int × Int)), f64_1 m fuel b c x7_1 x8_1 s9_1 x18_1 = some o → ∀ Q : QP, Q (.exit 0) [(7, .int .i64 o.1), (8, .int .i64 o.2)] [] 0 → XL E0 38 0 fuel f64_L1 [(1, .int .i64 b), (7, .int .i64 x7_1), (8, .int .i64 x8_1), (9, .string s9_1), (17, .int .i64 c), (18, .int .i64 x18_1)] [] 0 Q
  | 0, b, c, x7_1, x8_1, s9_1, x18_1, o, h, Q, hQ => by cases h
  | fuel + 1, b, c, x7_1, x8_1, s9_1, x18_1, o, h, Q, hQ => by
    unfold f64_1 at h
    refine XL.succ E0_ok ?_
    refine XQ.seq E0_ok (by kernel_rfl) ?_
    refine XQ.region (by kernel_rfl) ?_
    refine XR.run E0_ok 1 1 [1, 7, 8, 9, 17, 18, 19] rfl (σ' := [(1, .int .i64 b), (7, .int .i64 x7_1), (8, .int .i64 x8_1), (9, .string s9_1), (17, .int .i64 c), (18, .int .i64 x18_1), (19, .bool (decide (x18_1 < c)))]) (h' := []) (c' := 0) (by kernel_rfl) ?_
    refine XR.done (by kernel_rfl) ?_
    show XQ _ _ _ _ _ _ _ _
    refine XQ.seq E0_ok (by kernel_rfl) ?_
    cases b1 : (decide (x18_1 < c) : Bool) with
    | true =>
      have h := cT b1 h
      refine XQ.cond (s := (.tmp 19)) (b := true) (by kernel_rfl) (by kernel_rfl) (fun _ => ?_) (fun q => by cases q)
      refine XQ.skip (by kernel_rfl) ?_
      show XQ _ _ _ _ _ _ _ _
      refine XQ.seq E0_ok (by kernel_rfl) ?_
      refine XQ.block (id := 1) (by kernel_rfl) ?_
      refine XQ.seq E0_ok (by kernel_rfl) ?_
      refine XQ.region (by kernel_rfl) ?_
      refine XR.run E0_ok 1 2 [1, 7, 8, 9, 10, 17, 18] rfl (σ' := [(1, .int .i64 b), (7, .int .i64 x7_1), (8, .int .i64 x8_1), (9, .string s9_1), (10, .int .i64 x18_1), (17, .int .i64 c), (18, .int .i64 x18_1)]) (h' := []) (c' := 0) (by kernel_rfl) ?_
      refine XR.done (by kernel_rfl) ?_
      show XQ _ _ _ _ _ _ _ _
      refine XQ.seq E0_ok (by kernel_rfl) ?_
      refine XQ.region (by kernel_rfl) ?_
      refine XR.run E0_ok 1 5 [1, 7, 8, 9, 17, 18, 21, 22, 25] rfl (σ' := [(1, .int .i64 b), (7, .int .i64 x7_1), (8, .int .i64 x8_1), (9, .string s9_1), (17, .int .i64 c), (18, .int .i64 x18_1), (21, .string s9_1), (22, .int .i64 x18_1), (25, .int .i64 (w64 (x18_1 + b)))]) (h' := []) (c' := 0) (by kernel_rfl) ?_
      cases b2 : (cutOk x18_1 (w64 (x18_1 + b)) s9_1.size : Bool) with
      | false => cases (cF b2 h)
      | true =>
        have h := cT b2 h
        have e3 : insV (headI ((gsOf E0 38 (opsOf (lft (rgt (lft (lft (rgt (rgt f64_L1)))))))).drop 5) (trS 38 [(1, .int .i64 b), (7, .int .i64 x7_1), (8, .int .i64 x8_1), (9, .string s9_1), (17, .int .i64 c), (18, .int .i64 x18_1), (21, .string s9_1), (22, .int .i64 x18_1), (25, .int .i64 (w64 (x18_1 + b)))])) (trS 38 [(1, .int .i64 b), (7, .int .i64 x7_1), (8, .int .i64 x8_1), (9, .string s9_1), (17, .int .i64 c), (18, .int .i64 x18_1), (21, .string s9_1), (22, .int .i64 x18_1), (25, .int .i64 (w64 (x18_1 + b)))]) [] = (match (cutOk x18_1 (w64 (x18_1 + b)) s9_1.size : Bool) with | true => some (.string (cutT s9_1 x18_1 (w64 (x18_1 + b)))) | false => none) := by kernel_rfl
        refine XR.rd E0_ok [1, 7, 8, 9, 17, 18, 26] rfl (e3.trans (by rw [b2])) (σ' := [(1, .int .i64 b), (7, .int .i64 x7_1), (8, .int .i64 x8_1), (9, .string s9_1), (17, .int .i64 c), (18, .int .i64 x18_1), (26, .string (cutT s9_1 x18_1 (w64 (x18_1 + b))))]) (by kernel_rfl) ?_
        refine XR.call E0_ok [1, 7, 8, 9, 17, 18, 27] rfl (K := 38) (args := [.string (cutT s9_1 x18_1 (w64 (x18_1 + b))), .string (bs [98])]) (d := (some (path 12 27))) (by kernel_rfl) (KC.of_calls E0_ok (F := Proofs.Try.f38) (v := .int .i64 (Lib.countByte (cutT s9_1 x18_1 (w64 (x18_1 + b))).data.toList 98)) (by kernel_rfl) rfl rfl (((strPrim_ok 38 pCount rfl).2 [.string (cutT s9_1 x18_1 (w64 (x18_1 + b))), .string (bs [98])] (.int .i64 (Lib.countByte (cutT s9_1 x18_1 (w64 (x18_1 + b))).data.toList 98)) rfl).2.2)) ?_
        rintro _ _ _ ⟨rfl, rfl, rfl⟩
        refine XR.conv (σ' := [(1, .int .i64 b), (7, .int .i64 x7_1), (8, .int .i64 x8_1), (9, .string s9_1), (17, .int .i64 c), (18, .int .i64 x18_1), (27, .int .i64 (Lib.countByte (cutT s9_1 x18_1 (w64 (x18_1 + b))).data.toList 98))]) (h' := []) (c' := 0) ?_ (by kernel_rfl)
        refine XR.run E0_ok 1 1 [1, 7, 8, 9, 11, 17, 18] rfl (σ' := [(1, .int .i64 b), (7, .int .i64 x7_1), (8, .int .i64 x8_1), (9, .string s9_1), (11, .int .i64 (Lib.countByte (cutT s9_1 x18_1 (w64 (x18_1 + b))).data.toList 98)), (17, .int .i64 c), (18, .int .i64 x18_1)]) (h' := []) (c' := 0) (by kernel_rfl) ?_
        refine XR.done (by kernel_rfl) ?_
        show XQ _ _ _ _ _ _ _ _
        refine XQ.region (by kernel_rfl) ?_
        refine XR.run E0_ok 1 8 [1, 7, 8, 9, 17, 18] rfl (σ' := [(1, .int .i64 b), (7, .int .i64 (iMin x7_1 (Lib.countByte (cutT s9_1 x18_1 (w64 (x18_1 + b))).data.toList 98))), (8, .int .i64 (iMax x8_1 (Lib.countByte (cutT s9_1 x18_1 (w64 (x18_1 + b))).data.toList 98))), (9, .string s9_1), (17, .int .i64 c), (18, .int .i64 x18_1)]) (h' := []) (c' := 0) (by kernel_rfl) ?_
        refine XR.done (by kernel_rfl) ?_
        show XQ _ _ _ _ _ _ _ _
        refine XQ.region (by kernel_rfl) ?_
        refine XR.run E0_ok 1 2 [1, 7, 8, 9, 17, 18] rfl (σ' := [(1, .int .i64 b), (7, .int .i64 (iMin x7_1 (Lib.countByte (cutT s9_1 x18_1 (w64 (x18_1 + b))).data.toList 98))), (8, .int .i64 (iMax x8_1 (Lib.countByte (cutT s9_1 x18_1 (w64 (x18_1 + b))).data.toList 98))), (9, .string s9_1), (17, .int .i64 c), (18, .int .i64 (w64 (x18_1 + 1)))]) (h' := []) (c' := 0) (by kernel_rfl) ?_
        refine XR.done (by kernel_rfl) ?_
        show XL _ _ _ _ _ _ _ _ _
        refine XL.ren (σ' := [(1, .int .i64 b), (7, .int .i64 (iMin x7_1 (Lib.countByte (cutT s9_1 x18_1 (w64 (x18_1 + b))).data.toList 98))), (8, .int .i64 (iMax x8_1 (Lib.countByte (cutT s9_1 x18_1 (w64 (x18_1 + b))).data.toList 98))), (9, .string s9_1), (17, .int .i64 c), (18, .int .i64 (w64 (x18_1 + 1)))]) (h' := []) (c' := 0) [] (by decide) rfl ⟨by kernel_rfl, by kernel_rfl, by kernel_rfl, by kernel_rfl, by kernel_rfl, by kernel_rfl, trivial⟩ trivial rfl ?_
        refine XL.conv (f64_1_ok m fuel b c (iMin x7_1 (Lib.countByte (cutT s9_1 x18_1 (w64 (x18_1 + b))).data.toList 98)) (iMax x8_1 (Lib.countByte (cutT s9_1 x18_1 (w64 (x18_1 + b))).data.toList 98)) s9_1 (w64 (x18_1 + 1)) o h Q hQ) (by first | rfl | simp)
    | false =>
      have h := cF b1 h
      refine XQ.cond (s := (.tmp 19)) (b := false) (by kernel_rfl) (by kernel_rfl) (fun q => by cases q) (fun _ => ?_)
      refine XQ.ren (σ' := [(7, .int .i64 x7_1), (8, .int .i64 x8_1)]) (h' := []) (c' := 0) [] (by decide) rfl ⟨by kernel_rfl, by kernel_rfl, trivial⟩ trivial rfl ?_
      refine XQ.exit (i := 0) (by kernel_rfl) ?_
      cases h
      exact hQ

def f64 (m : Nat) (a : ByteArray) (b : Int) (c : Int) : Option (Int) :=
  cond (Nat.ble (a.size + a.size) 9223372036854775807) (
    (f64_1 m m b c ((a.size : Nat) : Int) 0 (catS a a) 0).bind fun o1 =>
      some (w64 (o1.2 - o1.1))
  ) none

theorem f64_ok (m : Nat) (a : ByteArray) (b : Int) (c : Int) (o : Int) (h : f64 m a b c = some o) (w : World) (hI : maxInv w) : Calls Proofs.Try.prog 64 #[.string a, .int .i64 b, .int .i64 c] w fun e w' => e = .returned (.int .i64 o) ∧ Below w.heap.size w w' := by
  refine KC.calls (E := E0) (args := [.string a, .int .i64 b, .int .i64 c]) (v := .int .i64 o) rfl rfl (KC.bodyN E0_ok (F := Proofs.Try.f64) (by kernel_rfl) (code := f64_C64) (by kernel_rfl) (nt := 38) (by kernel_rfl) (rs := [.tmp 6]) (by kernel_rfl) (by kernel_rfl) (σ := [(0, .string a), (1, .int .i64 b), (2, .int .i64 c)]) (by kernel_rfl) ?_) w (maxInv_size hI) hI
  unfold f64 at h
  refine XQ.seq E0_ok (by kernel_rfl) ?_
  refine XQ.region (by kernel_rfl) ?_
  refine XR.run E0_ok 1 1 [0, 1, 2] rfl (σ' := [(0, .string a), (1, .int .i64 b), (2, .int .i64 c)]) (h' := []) (c' := 0) (by kernel_rfl) ?_
  refine XR.done (by kernel_rfl) ?_
  show XQ _ _ _ _ _ _ _ _
  refine XQ.seq E0_ok (by kernel_rfl) ?_
  refine XQ.region (by kernel_rfl) ?_
  refine XR.run E0_ok 1 4 [0, 1, 2, 7, 8] rfl (σ' := [(0, .string a), (1, .int .i64 b), (2, .int .i64 c), (7, .int .i64 ((a.size : Nat) : Int)), (8, .int .i64 0)]) (h' := []) (c' := 0) (by kernel_rfl) ?_
  refine XR.done (by kernel_rfl) ?_
  show XQ _ _ _ _ _ _ _ _
  refine XQ.seq E0_ok (by kernel_rfl) ?_
  refine XQ.region (by kernel_rfl) ?_
  refine XR.run E0_ok 1 2 [1, 2, 7, 8, 14, 15] rfl (σ' := [(1, .int .i64 b), (2, .int .i64 c), (7, .int .i64 ((a.size : Nat) : Int)), (8, .int .i64 0), (14, .string a), (15, .string a)]) (h' := []) (c' := 0) (by kernel_rfl) ?_
  cases b1 : (Nat.ble (a.size + a.size) 9223372036854775807 : Bool) with
  | false => cases (cF b1 h)
  | true =>
    have h := cT b1 h
    have e2 : insV (headI ((gsOf E0 38 (opsOf (lft (rgt (rgt f64_C64))))).drop 2) (trS 38 [(1, .int .i64 b), (2, .int .i64 c), (7, .int .i64 ((a.size : Nat) : Int)), (8, .int .i64 0), (14, .string a), (15, .string a)])) (trS 38 [(1, .int .i64 b), (2, .int .i64 c), (7, .int .i64 ((a.size : Nat) : Int)), (8, .int .i64 0), (14, .string a), (15, .string a)]) [] = (match (Nat.ble (a.size + a.size) 9223372036854775807 : Bool) with | true => some (.string (catS a a)) | false => none) := by kernel_rfl
    refine XR.rd E0_ok [1, 2, 7, 8, 16] rfl (e2.trans (by rw [b1])) (σ' := [(1, .int .i64 b), (2, .int .i64 c), (7, .int .i64 ((a.size : Nat) : Int)), (8, .int .i64 0), (16, .string (catS a a))]) (by kernel_rfl) ?_
    refine XR.run E0_ok 1 1 [1, 2, 7, 8, 9] rfl (σ' := [(1, .int .i64 b), (2, .int .i64 c), (7, .int .i64 ((a.size : Nat) : Int)), (8, .int .i64 0), (9, .string (catS a a))]) (h' := []) (c' := 0) (by kernel_rfl) ?_
    refine XR.done (by kernel_rfl) ?_
    show XQ _ _ _ _ _ _ _ _
    refine XQ.seq E0_ok (by kernel_rfl) ?_
    refine XQ.seq E0_ok (by kernel_rfl) ?_
    refine XQ.region (by kernel_rfl) ?_
    refine XR.run E0_ok 1 2 [1, 7, 8, 9, 17, 18] rfl (σ' := [(1, .int .i64 b), (7, .int .i64 ((a.size : Nat) : Int)), (8, .int .i64 0), (9, .string (catS a a)), (17, .int .i64 c), (18, .int .i64 0)]) (h' := []) (c' := 0) (by kernel_rfl) ?_
    refine XR.done (by kernel_rfl) ?_
    show XQ _ _ _ _ _ _ _ _
    refine XQ.block (id := 0) (by kernel_rfl) ?_
    refine XQ.loop m (by kernel_rfl) ?_
    obtain ⟨o1, o1_h, h⟩ := bS h
    refine XL.ren (σ' := [(1, .int .i64 b), (7, .int .i64 ((a.size : Nat) : Int)), (8, .int .i64 0), (9, .string (catS a a)), (17, .int .i64 c), (18, .int .i64 0)]) (h' := []) (c' := 0) [] (by decide) rfl ⟨by kernel_rfl, by kernel_rfl, by kernel_rfl, by kernel_rfl, by kernel_rfl, by kernel_rfl, trivial⟩ trivial rfl ?_
    refine XL.conv (f64_1_ok m m b c ((a.size : Nat) : Int) 0 (catS a a) 0 o1 o1_h _ ?_) (by first | rfl | simp)
    show XQ _ _ _ _ _ _ _ _
    refine XQ.seq E0_ok (by kernel_rfl) ?_
    refine XQ.region (by kernel_rfl) ?_
    refine XR.run E0_ok 1 4 [6] rfl (σ' := [(6, .int .i64 (w64 (o1.2 - o1.1)))]) (h' := []) (c' := 0) (by kernel_rfl) ?_
    refine XR.done (by kernel_rfl) ?_
    show XQ _ _ _ _ _ _ _ _
    refine XQ.ret (by kernel_rfl) ?_
    have h := Option.some.inj h
    subst h
    exact ⟨fun i q => (by cases q), .int .i64 (w64 (o1.2 - o1.1)), (by kernel_rfl), rfl⟩

/-! vitola/vitolalaw08.even -/
noncomputable def f39_C39 : Code := Proofs.Try.f39.body.getD .skip
noncomputable def f39_L1 : Code := lft (lft (rgt (lft (rgt f39_C39))))

inductive Of39_1 where
  | r
  | x0

def f39_1 (m : Nat) : Nat → ByteArray → Int → Option Of39_1
  | 0, _, _ => none
  | fuel + 1, a, x3_1 =>
    cond (decide (x3_1 < ((a.size : Nat) : Int))) (
      (f64 m a x3_1 ((a.size : Nat) : Int)).bind fun r3 =>
        cond (decide (r3 > 1)) (
          some (.r)
        ) (
          f39_1 m fuel a (w64 (x3_1 + 1))
        )
    ) (
      some (.x0)
    )

theorem f39_1_ok (m : Nat) : ∀ (fuel : Nat) (a : ByteArray) (x3_1 : Int) (o : Of39_1), f39_1 m fuel a x3_1 = some o → ∀ Q : QP, (match o with | .r => Q .ret [(2, .bool false)] [] 0 | .x0 => Q (.exit 0) [] [] 0) → XL E0 16 0 fuel f39_L1 [(0, .string a), (3, .int .i64 x3_1)] [] 0 Q
  | 0, a, x3_1, o, h, Q, hQ => by cases h
  | fuel + 1, a, x3_1, o, h, Q, hQ => by
    unfold f39_1 at h
    refine XL.succ E0_ok ?_
    refine XQ.seq E0_ok (by kernel_rfl) ?_
    refine XQ.seq E0_ok (by kernel_rfl) ?_
    refine XQ.region (by kernel_rfl) ?_
    refine XR.run E0_ok 1 4 [0, 3, 7] rfl (σ' := [(0, .string a), (3, .int .i64 x3_1), (7, .bool (decide (x3_1 < ((a.size : Nat) : Int))))]) (h' := []) (c' := 0) (by kernel_rfl) ?_
    refine XR.done (by kernel_rfl) ?_
    show XQ _ _ _ _ _ _ _ _
    cases b1 : (decide (x3_1 < ((a.size : Nat) : Int)) : Bool) with
    | true =>
      have h := cT b1 h
      refine XQ.cond (s := (.tmp 7)) (b := true) (by kernel_rfl) (by kernel_rfl) (fun _ => ?_) (fun q => by cases q)
      refine XQ.skip (by kernel_rfl) ?_
      show XQ _ _ _ _ _ _ _ _
      refine XQ.seq E0_ok (by kernel_rfl) ?_
      refine XQ.block (id := 1) (by kernel_rfl) ?_
      refine XQ.seq E0_ok (by kernel_rfl) ?_
      refine XQ.region (by kernel_rfl) ?_
      refine XR.run E0_ok 1 4 [0, 3, 10, 11, 13] rfl (σ' := [(0, .string a), (3, .int .i64 x3_1), (10, .string a), (11, .int .i64 x3_1), (13, .int .i64 ((a.size : Nat) : Int))]) (h' := []) (c' := 0) (by kernel_rfl) ?_
      obtain ⟨r3, r3_h, h⟩ := bS h
      refine XR.call E0_ok [0, 3, 14] rfl (K := 64) (args := [.string a, .int .i64 x3_1, .int .i64 ((a.size : Nat) : Int)]) (d := (some (path 12 14))) (by kernel_rfl) (KC.of_calls E0_ok (F := Proofs.Try.f64) (v := .int .i64 r3) (by kernel_rfl) rfl rfl (fun w hI => f64_ok m a x3_1 ((a.size : Nat) : Int) r3 r3_h w hI)) ?_
      rintro _ _ _ ⟨rfl, rfl, rfl⟩
      refine XR.conv (σ' := [(0, .string a), (3, .int .i64 x3_1), (14, .int .i64 r3)]) (h' := []) (c' := 0) ?_ (by kernel_rfl)
      refine XR.run E0_ok 1 1 [0, 3, 15] rfl (σ' := [(0, .string a), (3, .int .i64 x3_1), (15, .bool (decide (r3 > 1)))]) (h' := []) (c' := 0) (by kernel_rfl) ?_
      refine XR.done (by kernel_rfl) ?_
      show XQ _ _ _ _ _ _ _ _
      cases b2 : (decide (r3 > 1) : Bool) with
      | true =>
        have h := cT b2 h
        refine XQ.cond (s := (.tmp 15)) (b := true) (by kernel_rfl) (by kernel_rfl) (fun _ => ?_) (fun q => by cases q)
        refine XQ.seq E0_ok (by kernel_rfl) ?_
        refine XQ.region (by kernel_rfl) ?_
        refine XR.run E0_ok 1 1 [2] rfl (σ' := [(2, .bool false)]) (h' := []) (c' := 0) (by kernel_rfl) ?_
        refine XR.done (by kernel_rfl) ?_
        show XQ _ _ _ _ _ _ _ _
        refine XQ.ren (σ' := [(2, .bool false)]) (h' := []) (c' := 0) [] (by decide) rfl ⟨by kernel_rfl, trivial⟩ trivial rfl ?_
        refine XQ.ret (by kernel_rfl) ?_
        cases h
        exact hQ
      | false =>
        have h := cF b2 h
        refine XQ.cond (s := (.tmp 15)) (b := false) (by kernel_rfl) (by kernel_rfl) (fun q => by cases q) (fun _ => ?_)
        refine XQ.skip (by kernel_rfl) ?_
        show XQ _ _ _ _ _ _ _ _
        refine XQ.region (by kernel_rfl) ?_
        refine XR.run E0_ok 1 3 [0, 3] rfl (σ' := [(0, .string a), (3, .int .i64 (w64 (x3_1 + 1)))]) (h' := []) (c' := 0) (by kernel_rfl) ?_
        refine XR.done (by kernel_rfl) ?_
        show XL _ _ _ _ _ _ _ _ _
        refine XL.ren (σ' := [(0, .string a), (3, .int .i64 (w64 (x3_1 + 1)))]) (h' := []) (c' := 0) [] (by decide) rfl ⟨by kernel_rfl, by kernel_rfl, trivial⟩ trivial rfl ?_
        refine XL.conv (f39_1_ok m fuel a (w64 (x3_1 + 1)) o h Q hQ) (by first | rfl | simp)
    | false =>
      have h := cF b1 h
      refine XQ.cond (s := (.tmp 7)) (b := false) (by kernel_rfl) (by kernel_rfl) (fun q => by cases q) (fun _ => ?_)
      refine XQ.ren (σ' := []) (h' := []) (c' := 0) [] (by decide) rfl trivial trivial rfl ?_
      refine XQ.exit (i := 0) (by kernel_rfl) ?_
      cases h
      exact hQ

def f39 (m : Nat) (a : ByteArray) : Option (Bool) :=
  (f39_1 m m a 1).bind fun o1 =>
    match o1 with
    | .r =>
      some (false)
    | .x0 =>
      some (true)

theorem f39_ok (m : Nat) (a : ByteArray) (o : Bool) (h : f39 m a = some o) (w : World) (hI : maxInv w) : Calls Proofs.Try.prog 39 #[.string a] w fun e w' => e = .returned (.bool o) ∧ Below w.heap.size w w' := by
  refine KC.calls (E := E0) (args := [.string a]) (v := .bool o) rfl rfl (KC.bodyN E0_ok (F := Proofs.Try.f39) (by kernel_rfl) (code := f39_C39) (by kernel_rfl) (nt := 16) (by kernel_rfl) (rs := [.tmp 2]) (by kernel_rfl) (by kernel_rfl) (σ := [(0, .string a)]) (by kernel_rfl) ?_) w (maxInv_size hI) hI
  unfold f39 at h
  refine XQ.seq E0_ok (by kernel_rfl) ?_
  refine XQ.region (by kernel_rfl) ?_
  refine XR.run E0_ok 1 1 [0] rfl (σ' := [(0, .string a)]) (h' := []) (c' := 0) (by kernel_rfl) ?_
  refine XR.done (by kernel_rfl) ?_
  show XQ _ _ _ _ _ _ _ _
  refine XQ.seq E0_ok (by kernel_rfl) ?_
  refine XQ.seq E0_ok (by kernel_rfl) ?_
  refine XQ.region (by kernel_rfl) ?_
  refine XR.run E0_ok 1 1 [0, 3] rfl (σ' := [(0, .string a), (3, .int .i64 1)]) (h' := []) (c' := 0) (by kernel_rfl) ?_
  refine XR.done (by kernel_rfl) ?_
  show XQ _ _ _ _ _ _ _ _
  refine XQ.block (id := 0) (by kernel_rfl) ?_
  refine XQ.loop m (by kernel_rfl) ?_
  obtain ⟨o1, o1_h, h⟩ := bS h
  refine XL.ren (σ' := [(0, .string a), (3, .int .i64 1)]) (h' := []) (c' := 0) [] (by decide) rfl ⟨by kernel_rfl, by kernel_rfl, trivial⟩ trivial rfl ?_
  cases o1 with
  | r =>
    dsimp only at h
    refine XL.conv (f39_1_ok m m a 1 (.r) o1_h _ ?_) (by first | rfl | simp)
    have h := Option.some.inj h
    subst h
    exact ⟨fun i q => (by cases q), .bool false, (by kernel_rfl), rfl⟩
  | x0 =>
    dsimp only at h
    refine XL.conv (f39_1_ok m m a 1 (.x0) o1_h _ ?_) (by first | rfl | simp)
    show XQ _ _ _ _ _ _ _ _
    refine XQ.seq E0_ok (by kernel_rfl) ?_
    refine XQ.region (by kernel_rfl) ?_
    refine XR.run E0_ok 1 1 [2] rfl (σ' := [(2, .bool true)]) (h' := []) (c' := 0) (by kernel_rfl) ?_
    refine XR.done (by kernel_rfl) ?_
    show XQ _ _ _ _ _ _ _ _
    refine XQ.ret (by kernel_rfl) ?_
    have h := Option.some.inj h
    subst h
    exact ⟨fun i q => (by cases q), .bool true, (by kernel_rfl), rfl⟩

/-! vitola/vitolalaw08.straight -/
noncomputable def f42_C42 : Code := Proofs.Try.f42.body.getD .skip
noncomputable def f42_L1 : Code := lft (lft (rgt (lft (rgt f42_C42))))

inductive Of42_1 where
  | r
  | x0

def f42_1 (m : Nat) : Nat → ByteArray → Int → Option Of42_1
  | 0, _, _ => none
  | fuel + 1, a, x3_1 =>
    cond (decide (x3_1 < ((a.size : Nat) : Int))) (
      (f64 m a x3_1 (w64 ((w64 (((a.size : Nat) : Int) - x3_1)) + 1))).bind fun r3 =>
        cond (decide (r3 > 1)) (
          some (.r)
        ) (
          f42_1 m fuel a (w64 (x3_1 + 1))
        )
    ) (
      some (.x0)
    )

theorem f42_1_ok (m : Nat) : ∀ (fuel : Nat) (a : ByteArray) (x3_1 : Int) (o : Of42_1), f42_1 m fuel a x3_1 = some o → ∀ Q : QP, (match o with | .r => Q .ret [(2, .bool false)] [] 0 | .x0 => Q (.exit 0) [] [] 0) → XL E0 19 0 fuel f42_L1 [(0, .string a), (3, .int .i64 x3_1)] [] 0 Q
  | 0, a, x3_1, o, h, Q, hQ => by cases h
  | fuel + 1, a, x3_1, o, h, Q, hQ => by
    unfold f42_1 at h
    refine XL.succ E0_ok ?_
    refine XQ.seq E0_ok (by kernel_rfl) ?_
    refine XQ.seq E0_ok (by kernel_rfl) ?_
    refine XQ.region (by kernel_rfl) ?_
    refine XR.run E0_ok 1 4 [0, 3, 7] rfl (σ' := [(0, .string a), (3, .int .i64 x3_1), (7, .bool (decide (x3_1 < ((a.size : Nat) : Int))))]) (h' := []) (c' := 0) (by kernel_rfl) ?_
    refine XR.done (by kernel_rfl) ?_
    show XQ _ _ _ _ _ _ _ _
    cases b1 : (decide (x3_1 < ((a.size : Nat) : Int)) : Bool) with
    | true =>
      have h := cT b1 h
      refine XQ.cond (s := (.tmp 7)) (b := true) (by kernel_rfl) (by kernel_rfl) (fun _ => ?_) (fun q => by cases q)
      refine XQ.skip (by kernel_rfl) ?_
      show XQ _ _ _ _ _ _ _ _
      refine XQ.seq E0_ok (by kernel_rfl) ?_
      refine XQ.block (id := 1) (by kernel_rfl) ?_
      refine XQ.seq E0_ok (by kernel_rfl) ?_
      refine XQ.region (by kernel_rfl) ?_
      refine XR.run E0_ok 1 7 [0, 3, 10, 11, 16] rfl (σ' := [(0, .string a), (3, .int .i64 x3_1), (10, .string a), (11, .int .i64 x3_1), (16, .int .i64 (w64 ((w64 (((a.size : Nat) : Int) - x3_1)) + 1)))]) (h' := []) (c' := 0) (by kernel_rfl) ?_
      obtain ⟨r3, r3_h, h⟩ := bS h
      refine XR.call E0_ok [0, 3, 17] rfl (K := 64) (args := [.string a, .int .i64 x3_1, .int .i64 (w64 ((w64 (((a.size : Nat) : Int) - x3_1)) + 1))]) (d := (some (path 12 17))) (by kernel_rfl) (KC.of_calls E0_ok (F := Proofs.Try.f64) (v := .int .i64 r3) (by kernel_rfl) rfl rfl (fun w hI => f64_ok m a x3_1 (w64 ((w64 (((a.size : Nat) : Int) - x3_1)) + 1)) r3 r3_h w hI)) ?_
      rintro _ _ _ ⟨rfl, rfl, rfl⟩
      refine XR.conv (σ' := [(0, .string a), (3, .int .i64 x3_1), (17, .int .i64 r3)]) (h' := []) (c' := 0) ?_ (by kernel_rfl)
      refine XR.run E0_ok 1 1 [0, 3, 18] rfl (σ' := [(0, .string a), (3, .int .i64 x3_1), (18, .bool (decide (r3 > 1)))]) (h' := []) (c' := 0) (by kernel_rfl) ?_
      refine XR.done (by kernel_rfl) ?_
      show XQ _ _ _ _ _ _ _ _
      cases b2 : (decide (r3 > 1) : Bool) with
      | true =>
        have h := cT b2 h
        refine XQ.cond (s := (.tmp 18)) (b := true) (by kernel_rfl) (by kernel_rfl) (fun _ => ?_) (fun q => by cases q)
        refine XQ.seq E0_ok (by kernel_rfl) ?_
        refine XQ.region (by kernel_rfl) ?_
        refine XR.run E0_ok 1 1 [2] rfl (σ' := [(2, .bool false)]) (h' := []) (c' := 0) (by kernel_rfl) ?_
        refine XR.done (by kernel_rfl) ?_
        show XQ _ _ _ _ _ _ _ _
        refine XQ.ren (σ' := [(2, .bool false)]) (h' := []) (c' := 0) [] (by decide) rfl ⟨by kernel_rfl, trivial⟩ trivial rfl ?_
        refine XQ.ret (by kernel_rfl) ?_
        cases h
        exact hQ
      | false =>
        have h := cF b2 h
        refine XQ.cond (s := (.tmp 18)) (b := false) (by kernel_rfl) (by kernel_rfl) (fun q => by cases q) (fun _ => ?_)
        refine XQ.skip (by kernel_rfl) ?_
        show XQ _ _ _ _ _ _ _ _
        refine XQ.region (by kernel_rfl) ?_
        refine XR.run E0_ok 1 3 [0, 3] rfl (σ' := [(0, .string a), (3, .int .i64 (w64 (x3_1 + 1)))]) (h' := []) (c' := 0) (by kernel_rfl) ?_
        refine XR.done (by kernel_rfl) ?_
        show XL _ _ _ _ _ _ _ _ _
        refine XL.ren (σ' := [(0, .string a), (3, .int .i64 (w64 (x3_1 + 1)))]) (h' := []) (c' := 0) [] (by decide) rfl ⟨by kernel_rfl, by kernel_rfl, trivial⟩ trivial rfl ?_
        refine XL.conv (f42_1_ok m fuel a (w64 (x3_1 + 1)) o h Q hQ) (by first | rfl | simp)
    | false =>
      have h := cF b1 h
      refine XQ.cond (s := (.tmp 7)) (b := false) (by kernel_rfl) (by kernel_rfl) (fun q => by cases q) (fun _ => ?_)
      refine XQ.ren (σ' := []) (h' := []) (c' := 0) [] (by decide) rfl trivial trivial rfl ?_
      refine XQ.exit (i := 0) (by kernel_rfl) ?_
      cases h
      exact hQ

def f42 (m : Nat) (a : ByteArray) : Option (Bool) :=
  (f42_1 m m a 1).bind fun o1 =>
    match o1 with
    | .r =>
      some (false)
    | .x0 =>
      some (true)

theorem f42_ok (m : Nat) (a : ByteArray) (o : Bool) (h : f42 m a = some o) (w : World) (hI : maxInv w) : Calls Proofs.Try.prog 42 #[.string a] w fun e w' => e = .returned (.bool o) ∧ Below w.heap.size w w' := by
  refine KC.calls (E := E0) (args := [.string a]) (v := .bool o) rfl rfl (KC.bodyN E0_ok (F := Proofs.Try.f42) (by kernel_rfl) (code := f42_C42) (by kernel_rfl) (nt := 19) (by kernel_rfl) (rs := [.tmp 2]) (by kernel_rfl) (by kernel_rfl) (σ := [(0, .string a)]) (by kernel_rfl) ?_) w (maxInv_size hI) hI
  unfold f42 at h
  refine XQ.seq E0_ok (by kernel_rfl) ?_
  refine XQ.region (by kernel_rfl) ?_
  refine XR.run E0_ok 1 1 [0] rfl (σ' := [(0, .string a)]) (h' := []) (c' := 0) (by kernel_rfl) ?_
  refine XR.done (by kernel_rfl) ?_
  show XQ _ _ _ _ _ _ _ _
  refine XQ.seq E0_ok (by kernel_rfl) ?_
  refine XQ.seq E0_ok (by kernel_rfl) ?_
  refine XQ.region (by kernel_rfl) ?_
  refine XR.run E0_ok 1 1 [0, 3] rfl (σ' := [(0, .string a), (3, .int .i64 1)]) (h' := []) (c' := 0) (by kernel_rfl) ?_
  refine XR.done (by kernel_rfl) ?_
  show XQ _ _ _ _ _ _ _ _
  refine XQ.block (id := 0) (by kernel_rfl) ?_
  refine XQ.loop m (by kernel_rfl) ?_
  obtain ⟨o1, o1_h, h⟩ := bS h
  refine XL.ren (σ' := [(0, .string a), (3, .int .i64 1)]) (h' := []) (c' := 0) [] (by decide) rfl ⟨by kernel_rfl, by kernel_rfl, trivial⟩ trivial rfl ?_
  cases o1 with
  | r =>
    dsimp only at h
    refine XL.conv (f42_1_ok m m a 1 (.r) o1_h _ ?_) (by first | rfl | simp)
    have h := Option.some.inj h
    subst h
    exact ⟨fun i q => (by cases q), .bool false, (by kernel_rfl), rfl⟩
  | x0 =>
    dsimp only at h
    refine XL.conv (f42_1_ok m m a 1 (.x0) o1_h _ ?_) (by first | rfl | simp)
    show XQ _ _ _ _ _ _ _ _
    refine XQ.seq E0_ok (by kernel_rfl) ?_
    refine XQ.region (by kernel_rfl) ?_
    refine XR.run E0_ok 1 1 [2] rfl (σ' := [(2, .bool true)]) (h' := []) (c' := 0) (by kernel_rfl) ?_
    refine XR.done (by kernel_rfl) ?_
    show XQ _ _ _ _ _ _ _ _
    refine XQ.ret (by kernel_rfl) ?_
    have h := Option.some.inj h
    subst h
    exact ⟨fun i q => (by cases q), .bool true, (by kernel_rfl), rfl⟩

end Go.Xm
