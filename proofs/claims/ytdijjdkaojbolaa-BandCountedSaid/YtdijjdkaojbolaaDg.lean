/- What these functions of the program compute, as functions in Lean, and the proofs that they do: band.coprime, vitolaref08.divisor, band.Count, vitolaref08.Count, vitolalaw08.BandStraight. Conditions: the library's variable MaxLen holds some int. -/
import Derived.Test.YtdijjdkaojbolaaDf
namespace Go.Xm
open Go.RowKit
set_option linter.unusedVariables false
set_option linter.unusedSimpArgs false

/-! vitola/band.coprime -/
noncomputable def f60_C60 : Code := Proofs.Try.f60.body.getD .skip
noncomputable def f60_L1 : Code := lft (lft (rgt (lft (rgt (rgt f60_C60)))))
noncomputable def f60_L2 : Code := lft (lft (rgt (lft (lft (rgt f60_L1)))))

def f60_2 (m : Nat) : Nat → Int → Int → Int → Option (Int × Int)
  | 0, _, _, _ => none
  | fuel + 1, x4_1, x0_2, x3_2 =>
    cond (x4_1 != 0) (
      cond ((Int.tmod x0_2 x4_1) == 0) (
        f60_2 m fuel x4_1 (w64 (Int.tdiv x0_2 x4_1)) x3_2
      ) (
        some (x0_2, x3_2)
      )
    ) none

theorem f60_2_ok (m : Nat) : ∀ (fuel : Nat) (x4_1 : Int) (x0_2 : Int) (x3_2 : Int) (o : (Int × Int)), f60_2 m fuel x4_1 x0_2 x3_2 = some o → ∀ Q : QP, Q (.exit 2) [(0, .int .i64 o.1), (3, .int .i64 o.2), (4, .int .i64 x4_1)] [] 0 → XL E0 27 0 fuel f60_L2 [(0, .int .i64 x0_2), (3, .int .i64 x3_2), (4, .int .i64 x4_1)] [] 0 Q
  | 0, x4_1, x0_2, x3_2, o, h, Q, hQ => by cases h
  | fuel + 1, x4_1, x0_2, x3_2, o, h, Q, hQ => by
    unfold f60_2 at h
    refine XL.succ E0_ok ?_
    refine XQ.seq E0_ok (by kernel_rfl) ?_
    refine XQ.seq E0_ok (by kernel_rfl) ?_
    refine XQ.region (by kernel_rfl) ?_
    refine XR.run E0_ok 1 2 [0, 3, 4, 19, 20] rfl (σ' := [(0, .int .i64 x0_2), (3, .int .i64 x3_2), (4, .int .i64 x4_1), (19, .int .i64 x0_2), (20, .int .i64 x4_1)]) (h' := []) (c' := 0) (by kernel_rfl) ?_
    cases b1 : (x4_1 != 0 : Bool) with
    | false => cases (cF b1 h)
    | true =>
      have h := cT b1 h
      have e2 : insV (headI ((gsOf E0 27 (opsOf (lft (lft f60_L2)))).drop 2) (trS 27 [(0, .int .i64 x0_2), (3, .int .i64 x3_2), (4, .int .i64 x4_1), (19, .int .i64 x0_2), (20, .int .i64 x4_1)])) (trS 27 [(0, .int .i64 x0_2), (3, .int .i64 x3_2), (4, .int .i64 x4_1), (19, .int .i64 x0_2), (20, .int .i64 x4_1)]) [] = (match (x4_1 != 0 : Bool) with | true => some (.int .i64 (Int.tmod x0_2 x4_1)) | false => none) := by kernel_rfl
      refine XR.rd E0_ok [0, 3, 4, 21] rfl (e2.trans (by rw [b1])) (σ' := [(0, .int .i64 x0_2), (3, .int .i64 x3_2), (4, .int .i64 x4_1), (21, .int .i64 (Int.tmod x0_2 x4_1))]) (by kernel_rfl) ?_
      refine XR.run E0_ok 1 1 [0, 3, 4, 22] rfl (σ' := [(0, .int .i64 x0_2), (3, .int .i64 x3_2), (4, .int .i64 x4_1), (22, .bool ((Int.tmod x0_2 x4_1) == 0))]) (h' := []) (c' := 0) (by kernel_rfl) ?_
      refine XR.done (by kernel_rfl) ?_
      show XQ _ _ _ _ _ _ _ _
      cases b3 : ((Int.tmod x0_2 x4_1) == 0 : Bool) with
      | true =>
        have h := cT b3 h
        refine XQ.cond (s := (.tmp 22)) (b := true) (by kernel_rfl) (by kernel_rfl) (fun _ => ?_) (fun q => by cases q)
        refine XQ.skip (by kernel_rfl) ?_
        show XQ _ _ _ _ _ _ _ _
        refine XQ.block (id := 3) (by kernel_rfl) ?_
        refine XQ.region (by kernel_rfl) ?_
        refine XR.run E0_ok 1 2 [3, 4, 23, 24] rfl (σ' := [(3, .int .i64 x3_2), (4, .int .i64 x4_1), (23, .int .i64 x0_2), (24, .int .i64 x4_1)]) (h' := []) (c' := 0) (by kernel_rfl) ?_
        have e4 : insV (headI ((gsOf E0 27 (opsOf (lft (rgt f60_L2)))).drop 2) (trS 27 [(3, .int .i64 x3_2), (4, .int .i64 x4_1), (23, .int .i64 x0_2), (24, .int .i64 x4_1)])) (trS 27 [(3, .int .i64 x3_2), (4, .int .i64 x4_1), (23, .int .i64 x0_2), (24, .int .i64 x4_1)]) [] = (match (x4_1 != 0 : Bool) with | true => some (.int .i64 (w64 (Int.tdiv x0_2 x4_1))) | false => none) := by kernel_rfl
        refine XR.rd E0_ok [3, 4, 25] rfl (e4.trans (by rw [b1])) (σ' := [(3, .int .i64 x3_2), (4, .int .i64 x4_1), (25, .int .i64 (w64 (Int.tdiv x0_2 x4_1)))]) (by kernel_rfl) ?_
        refine XR.run E0_ok 1 1 [0, 3, 4] rfl (σ' := [(0, .int .i64 (w64 (Int.tdiv x0_2 x4_1))), (3, .int .i64 x3_2), (4, .int .i64 x4_1)]) (h' := []) (c' := 0) (by kernel_rfl) ?_
        refine XR.done (by kernel_rfl) ?_
        show XL _ _ _ _ _ _ _ _ _
        refine XL.ren (σ' := [(0, .int .i64 (w64 (Int.tdiv x0_2 x4_1))), (3, .int .i64 x3_2), (4, .int .i64 x4_1)]) (h' := []) (c' := 0) [] (by decide) rfl ⟨by kernel_rfl, by kernel_rfl, by kernel_rfl, trivial⟩ trivial rfl ?_
        refine XL.conv (f60_2_ok m fuel x4_1 (w64 (Int.tdiv x0_2 x4_1)) x3_2 o h Q hQ) (by first | rfl | simp)
      | false =>
        have h := cF b3 h
        refine XQ.cond (s := (.tmp 22)) (b := false) (by kernel_rfl) (by kernel_rfl) (fun q => by cases q) (fun _ => ?_)
        refine XQ.ren (σ' := [(0, .int .i64 x0_2), (3, .int .i64 x3_2), (4, .int .i64 x4_1)]) (h' := []) (c' := 0) [] (by decide) rfl ⟨by kernel_rfl, by kernel_rfl, by kernel_rfl, trivial⟩ trivial rfl ?_
        refine XQ.exit (i := 2) (by kernel_rfl) ?_
        cases h
        exact hQ

def f60_1 (m : Nat) : Nat → Int → Int → Int → Option Int
  | 0, _, _, _ => none
  | fuel + 1, x0_1, x3_1, x4_1 =>
    cond (decide (x0_1 > 1)) (
      cond (x4_1 != 0) (
        (f60_2 m m x4_1 x0_1 (cond ((Int.tmod x0_1 x4_1) == 0) (w64 (x3_1 - (w64 (Int.tdiv x3_1 x4_1)))) x3_1)).bind fun o2 =>
          f60_1 m fuel o2.1 o2.2 (w64 (x4_1 + 1))
      ) none
    ) (
      some (x3_1)
    )

theorem f60_1_ok (m : Nat) : ∀ (fuel : Nat) (x0_1 : Int) (x3_1 : Int) (x4_1 : Int) (o : Int), f60_1 m fuel x0_1 x3_1 x4_1 = some o → ∀ Q : QP, Q (.exit 0) [(3, .int .i64 o)] [] 0 → XL E0 27 0 fuel f60_L1 [(0, .int .i64 x0_1), (3, .int .i64 x3_1), (4, .int .i64 x4_1)] [] 0 Q
  | 0, x0_1, x3_1, x4_1, o, h, Q, hQ => by cases h
  | fuel + 1, x0_1, x3_1, x4_1, o, h, Q, hQ => by
    unfold f60_1 at h
    refine XL.succ E0_ok ?_
    refine XQ.seq E0_ok (by kernel_rfl) ?_
    refine XQ.seq E0_ok (by kernel_rfl) ?_
    refine XQ.region (by kernel_rfl) ?_
    refine XR.run E0_ok 1 2 [0, 3, 4, 7] rfl (σ' := [(0, .int .i64 x0_1), (3, .int .i64 x3_1), (4, .int .i64 x4_1), (7, .bool (decide (x0_1 > 1)))]) (h' := []) (c' := 0) (by kernel_rfl) ?_
    refine XR.done (by kernel_rfl) ?_
    show XQ _ _ _ _ _ _ _ _
    cases b1 : (decide (x0_1 > 1) : Bool) with
    | true =>
      have h := cT b1 h
      refine XQ.cond (s := (.tmp 7)) (b := true) (by kernel_rfl) (by kernel_rfl) (fun _ => ?_) (fun q => by cases q)
      refine XQ.skip (by kernel_rfl) ?_
      show XQ _ _ _ _ _ _ _ _
      refine XQ.seq E0_ok (by kernel_rfl) ?_
      refine XQ.block (id := 1) (by kernel_rfl) ?_
      refine XQ.seq E0_ok (by kernel_rfl) ?_
      refine XQ.seq E0_ok (by kernel_rfl) ?_
      refine XQ.region (by kernel_rfl) ?_
      refine XR.run E0_ok 1 2 [0, 3, 4, 10, 11] rfl (σ' := [(0, .int .i64 x0_1), (3, .int .i64 x3_1), (4, .int .i64 x4_1), (10, .int .i64 x0_1), (11, .int .i64 x4_1)]) (h' := []) (c' := 0) (by kernel_rfl) ?_
      cases b2 : (x4_1 != 0 : Bool) with
      | false => cases (cF b2 h)
      | true =>
        have h := cT b2 h
        have e3 : insV (headI ((gsOf E0 27 (opsOf (lft (lft (lft (lft (rgt f60_L1))))))).drop 2) (trS 27 [(0, .int .i64 x0_1), (3, .int .i64 x3_1), (4, .int .i64 x4_1), (10, .int .i64 x0_1), (11, .int .i64 x4_1)])) (trS 27 [(0, .int .i64 x0_1), (3, .int .i64 x3_1), (4, .int .i64 x4_1), (10, .int .i64 x0_1), (11, .int .i64 x4_1)]) [] = (match (x4_1 != 0 : Bool) with | true => some (.int .i64 (Int.tmod x0_1 x4_1)) | false => none) := by kernel_rfl
        refine XR.rd E0_ok [0, 3, 4, 12] rfl (e3.trans (by rw [b2])) (σ' := [(0, .int .i64 x0_1), (3, .int .i64 x3_1), (4, .int .i64 x4_1), (12, .int .i64 (Int.tmod x0_1 x4_1))]) (by kernel_rfl) ?_
        refine XR.run E0_ok 1 1 [0, 3, 4, 13] rfl (σ' := [(0, .int .i64 x0_1), (3, .int .i64 x3_1), (4, .int .i64 x4_1), (13, .bool ((Int.tmod x0_1 x4_1) == 0))]) (h' := []) (c' := 0) (by kernel_rfl) ?_
        refine XR.done (by kernel_rfl) ?_
        show XQ _ _ _ _ _ _ _ _
        refine XQ.meetC (σ' := [(0, .int .i64 x0_1), (3, .int .i64 (cond ((Int.tmod x0_1 x4_1) == 0) (w64 (x3_1 - (w64 (Int.tdiv x3_1 x4_1)))) x3_1)), (4, .int .i64 x4_1)]) (h' := []) (c' := 0) ?_ ?_
        rotate_left
        · refine XQ.cond (s := (.tmp 13)) (b := (Int.tmod x0_1 x4_1) == 0) (by kernel_rfl) (by kernel_rfl) (fun b4 => ?_) (fun b4 => ?_)
          · refine XQ.region (by kernel_rfl) ?_
            refine XR.run E0_ok 1 3 [0, 4, 14, 15, 16] rfl (σ' := [(0, .int .i64 x0_1), (4, .int .i64 x4_1), (14, .int .i64 x3_1), (15, .int .i64 x3_1), (16, .int .i64 x4_1)]) (h' := []) (c' := 0) (by kernel_rfl) ?_
            have e4 : insV (headI ((gsOf E0 27 (opsOf (lft (rgt (lft (lft (lft (rgt f60_L1)))))))).drop 3) (trS 27 [(0, .int .i64 x0_1), (4, .int .i64 x4_1), (14, .int .i64 x3_1), (15, .int .i64 x3_1), (16, .int .i64 x4_1)])) (trS 27 [(0, .int .i64 x0_1), (4, .int .i64 x4_1), (14, .int .i64 x3_1), (15, .int .i64 x3_1), (16, .int .i64 x4_1)]) [] = (match (x4_1 != 0 : Bool) with | true => some (.int .i64 (w64 (Int.tdiv x3_1 x4_1))) | false => none) := by kernel_rfl
            refine XR.rd E0_ok [0, 4, 14, 17] rfl (e4.trans (by rw [b2])) (σ' := [(0, .int .i64 x0_1), (4, .int .i64 x4_1), (14, .int .i64 x3_1), (17, .int .i64 (w64 (Int.tdiv x3_1 x4_1)))]) (by kernel_rfl) ?_
            refine XR.run E0_ok 1 2 [0, 3, 4] rfl (σ' := [(0, .int .i64 x0_1), (3, .int .i64 (w64 (x3_1 - (w64 (Int.tdiv x3_1 x4_1))))), (4, .int .i64 x4_1)]) (h' := []) (c' := 0) (by kernel_rfl) ?_
            refine XR.done (by kernel_rfl) ?_
            refine ⟨rfl, ?_, ?_⟩
            · try rw [b4]
              exact ⟨by kernel_rfl, by kernel_rfl, by kernel_rfl, trivial⟩
            · try rw [b4]
              kernel_rfl
          · refine XQ.skip (by kernel_rfl) ?_
            refine ⟨rfl, ?_, ?_⟩
            · try rw [b4]
              exact ⟨by kernel_rfl, by kernel_rfl, by kernel_rfl, trivial⟩
            · try rw [b4]
              kernel_rfl
        show XQ _ _ _ _ _ _ _ _
        refine XQ.block (id := 2) (by kernel_rfl) ?_
        refine XQ.loop m (by kernel_rfl) ?_
        obtain ⟨o2, o2_h, h⟩ := bS h
        refine XL.ren (σ' := [(0, .int .i64 x0_1), (3, .int .i64 (cond ((Int.tmod x0_1 x4_1) == 0) (w64 (x3_1 - (w64 (Int.tdiv x3_1 x4_1)))) x3_1)), (4, .int .i64 x4_1)]) (h' := []) (c' := 0) [] (by decide) rfl ⟨by kernel_rfl, by kernel_rfl, by kernel_rfl, trivial⟩ trivial rfl ?_
        refine XL.conv (f60_2_ok m m x4_1 x0_1 (cond ((Int.tmod x0_1 x4_1) == 0) (w64 (x3_1 - (w64 (Int.tdiv x3_1 x4_1)))) x3_1) o2 o2_h _ ?_) (by first | rfl | simp)
        show XQ _ _ _ _ _ _ _ _
        refine XQ.region (by kernel_rfl) ?_
        refine XR.run E0_ok 1 3 [0, 3, 4] rfl (σ' := [(0, .int .i64 o2.1), (3, .int .i64 o2.2), (4, .int .i64 (w64 (x4_1 + 1)))]) (h' := []) (c' := 0) (by kernel_rfl) ?_
        refine XR.done (by kernel_rfl) ?_
        show XL _ _ _ _ _ _ _ _ _
        refine XL.ren (σ' := [(0, .int .i64 o2.1), (3, .int .i64 o2.2), (4, .int .i64 (w64 (x4_1 + 1)))]) (h' := []) (c' := 0) [] (by decide) rfl ⟨by kernel_rfl, by kernel_rfl, by kernel_rfl, trivial⟩ trivial rfl ?_
        refine XL.conv (f60_1_ok m fuel o2.1 o2.2 (w64 (x4_1 + 1)) o h Q hQ) (by first | rfl | simp)
    | false =>
      have h := cF b1 h
      refine XQ.cond (s := (.tmp 7)) (b := false) (by kernel_rfl) (by kernel_rfl) (fun q => by cases q) (fun _ => ?_)
      refine XQ.ren (σ' := [(3, .int .i64 x3_1)]) (h' := []) (c' := 0) [] (by decide) rfl ⟨by kernel_rfl, trivial⟩ trivial rfl ?_
      refine XQ.exit (i := 0) (by kernel_rfl) ?_
      cases h
      exact hQ

def f60 (m : Nat) (a : Int) : Option (Int) :=
  (f60_1 m m a a 2).bind fun o1 =>
    some (o1)

theorem f60_ok (m : Nat) (a : Int) (o : Int) (h : f60 m a = some o) (w : World) (hI : maxInv w) : Calls Proofs.Try.prog 60 #[.int .i64 a] w fun e w' => e = .returned (.int .i64 o) ∧ Below w.heap.size w w' := by
  refine KC.calls (E := E0) (args := [.int .i64 a]) (v := .int .i64 o) rfl rfl (KC.bodyN E0_ok (F := Proofs.Try.f60) (by kernel_rfl) (code := f60_C60) (by kernel_rfl) (nt := 27) (by kernel_rfl) (rs := [.tmp 2]) (by kernel_rfl) (by kernel_rfl) (σ := [(0, .int .i64 a)]) (by kernel_rfl) ?_) w (maxInv_size hI) hI
  unfold f60 at h
  refine XQ.seq E0_ok (by kernel_rfl) ?_
  refine XQ.region (by kernel_rfl) ?_
  refine XR.run E0_ok 1 1 [0] rfl (σ' := [(0, .int .i64 a)]) (h' := []) (c' := 0) (by kernel_rfl) ?_
  refine XR.done (by kernel_rfl) ?_
  show XQ _ _ _ _ _ _ _ _
  refine XQ.seq E0_ok (by kernel_rfl) ?_
  refine XQ.region (by kernel_rfl) ?_
  refine XR.run E0_ok 1 2 [0, 3] rfl (σ' := [(0, .int .i64 a), (3, .int .i64 a)]) (h' := []) (c' := 0) (by kernel_rfl) ?_
  refine XR.done (by kernel_rfl) ?_
  show XQ _ _ _ _ _ _ _ _
  refine XQ.seq E0_ok (by kernel_rfl) ?_
  refine XQ.seq E0_ok (by kernel_rfl) ?_
  refine XQ.region (by kernel_rfl) ?_
  refine XR.run E0_ok 1 1 [0, 3, 4] rfl (σ' := [(0, .int .i64 a), (3, .int .i64 a), (4, .int .i64 2)]) (h' := []) (c' := 0) (by kernel_rfl) ?_
  refine XR.done (by kernel_rfl) ?_
  show XQ _ _ _ _ _ _ _ _
  refine XQ.block (id := 0) (by kernel_rfl) ?_
  refine XQ.loop m (by kernel_rfl) ?_
  obtain ⟨o1, o1_h, h⟩ := bS h
  refine XL.ren (σ' := [(0, .int .i64 a), (3, .int .i64 a), (4, .int .i64 2)]) (h' := []) (c' := 0) [] (by decide) rfl ⟨by kernel_rfl, by kernel_rfl, by kernel_rfl, trivial⟩ trivial rfl ?_
  refine XL.conv (f60_1_ok m m a a 2 o1 o1_h _ ?_) (by first | rfl | simp)
  show XQ _ _ _ _ _ _ _ _
  refine XQ.seq E0_ok (by kernel_rfl) ?_
  refine XQ.region (by kernel_rfl) ?_
  refine XR.run E0_ok 1 2 [2] rfl (σ' := [(2, .int .i64 o1)]) (h' := []) (c' := 0) (by kernel_rfl) ?_
  refine XR.done (by kernel_rfl) ?_
  show XQ _ _ _ _ _ _ _ _
  refine XQ.ret (by kernel_rfl) ?_
  have h := Option.some.inj h
  subst h
  exact ⟨fun i q => (by cases q), .int .i64 o1, (by kernel_rfl), rfl⟩

/-! vitola/vitolaref08.divisor -/
noncomputable def f61_C61 : Code := Proofs.Try.f61.body.getD .skip
noncomputable def f61_L1 : Code := lft (lft (lft (rgt (rgt f61_C61))))

def f61_1 (m : Nat) : Nat → Int → Int → Int → Option Int
  | 0, _, _, _ => none
  | fuel + 1, a, b, x5_1 =>
    cond (x5_1 != 0) (
      cond ((Int.tmod a x5_1) != 0) (
        f61_1 m fuel a b (w64 (x5_1 - 1))
      ) (
        cond ((Int.tmod b x5_1) != 0) (
          f61_1 m fuel a b (w64 (x5_1 - 1))
        ) (
          some (x5_1)
        )
      )
    ) none

theorem f61_1_ok (m : Nat) : ∀ (fuel : Nat) (a : Int) (b : Int) (x5_1 : Int) (o : Int), f61_1 m fuel a b x5_1 = some o → ∀ Q : QP, Q (.exit 0) [(5, .int .i64 o)] [] 0 → XL E0 20 0 fuel f61_L1 [(0, .int .i64 a), (1, .int .i64 b), (5, .int .i64 x5_1)] [] 0 Q
  | 0, a, b, x5_1, o, h, Q, hQ => by cases h
  | fuel + 1, a, b, x5_1, o, h, Q, hQ => by
    unfold f61_1 at h
    refine XL.succ E0_ok ?_
    refine XQ.seq E0_ok (by kernel_rfl) ?_
    refine XQ.seq E0_ok (by kernel_rfl) ?_
    refine XQ.region (by kernel_rfl) ?_
    refine XR.run E0_ok 1 2 [0, 1, 5, 7, 8] rfl (σ' := [(0, .int .i64 a), (1, .int .i64 b), (5, .int .i64 x5_1), (7, .int .i64 a), (8, .int .i64 x5_1)]) (h' := []) (c' := 0) (by kernel_rfl) ?_
    cases b1 : (x5_1 != 0 : Bool) with
    | false => cases (cF b1 h)
    | true =>
      have h := cT b1 h
      have e2 : insV (headI ((gsOf E0 20 (opsOf (lft (lft f61_L1)))).drop 2) (trS 20 [(0, .int .i64 a), (1, .int .i64 b), (5, .int .i64 x5_1), (7, .int .i64 a), (8, .int .i64 x5_1)])) (trS 20 [(0, .int .i64 a), (1, .int .i64 b), (5, .int .i64 x5_1), (7, .int .i64 a), (8, .int .i64 x5_1)]) [] = (match (x5_1 != 0 : Bool) with | true => some (.int .i64 (Int.tmod a x5_1)) | false => none) := by kernel_rfl
      refine XR.rd E0_ok [0, 1, 5, 9] rfl (e2.trans (by rw [b1])) (σ' := [(0, .int .i64 a), (1, .int .i64 b), (5, .int .i64 x5_1), (9, .int .i64 (Int.tmod a x5_1))]) (by kernel_rfl) ?_
      refine XR.run E0_ok 1 2 [0, 1, 5, 11] rfl (σ' := [(0, .int .i64 a), (1, .int .i64 b), (5, .int .i64 x5_1), (11, .bool ((Int.tmod a x5_1) != 0))]) (h' := []) (c' := 0) (by kernel_rfl) ?_
      cases b3 : ((Int.tmod a x5_1) != 0 : Bool) with
      | true =>
        have h := cT b3 h
        refine XR.run E0_ok 1 5 [0, 1, 5, 16] rfl (σ' := [(0, .int .i64 a), (1, .int .i64 b), (5, .int .i64 x5_1), (16, .bool true)]) (h' := []) (c' := 0) (by kernel_rfl) ?_
        refine XR.done (by kernel_rfl) ?_
        show XQ _ _ _ _ _ _ _ _
        refine XQ.cond (s := (.tmp 16)) (b := true) (by kernel_rfl) (by kernel_rfl) (fun _ => ?_) (fun q => by cases q)
        refine XQ.skip (by kernel_rfl) ?_
        show XQ _ _ _ _ _ _ _ _
        refine XQ.block (id := 1) (by kernel_rfl) ?_
        refine XQ.region (by kernel_rfl) ?_
        refine XR.run E0_ok 1 3 [0, 1, 5] rfl (σ' := [(0, .int .i64 a), (1, .int .i64 b), (5, .int .i64 (w64 (x5_1 - 1)))]) (h' := []) (c' := 0) (by kernel_rfl) ?_
        refine XR.done (by kernel_rfl) ?_
        show XL _ _ _ _ _ _ _ _ _
        refine XL.ren (σ' := [(0, .int .i64 a), (1, .int .i64 b), (5, .int .i64 (w64 (x5_1 - 1)))]) (h' := []) (c' := 0) [] (by decide) rfl ⟨by kernel_rfl, by kernel_rfl, by kernel_rfl, trivial⟩ trivial rfl ?_
        refine XL.conv (f61_1_ok m fuel a b (w64 (x5_1 - 1)) o h Q hQ) (by first | rfl | simp)
      | false =>
        have h := cF b3 h
        refine XR.run E0_ok 1 2 [0, 1, 5, 11, 12, 13] rfl (σ' := [(0, .int .i64 a), (1, .int .i64 b), (5, .int .i64 x5_1), (11, .bool false), (12, .int .i64 b), (13, .int .i64 x5_1)]) (h' := []) (c' := 0) (by kernel_rfl) ?_
        have e4 : insV (headI ((gsOf E0 20 (opsOf (lft (lft f61_L1)))).drop 7) (trS 20 [(0, .int .i64 a), (1, .int .i64 b), (5, .int .i64 x5_1), (11, .bool false), (12, .int .i64 b), (13, .int .i64 x5_1)])) (trS 20 [(0, .int .i64 a), (1, .int .i64 b), (5, .int .i64 x5_1), (11, .bool false), (12, .int .i64 b), (13, .int .i64 x5_1)]) [] = (match (x5_1 != 0 : Bool) with | true => some (.int .i64 (Int.tmod b x5_1)) | false => none) := by kernel_rfl
        refine XR.rd E0_ok [0, 1, 5, 11, 14] rfl (e4.trans (by rw [b1])) (σ' := [(0, .int .i64 a), (1, .int .i64 b), (5, .int .i64 x5_1), (11, .bool false), (14, .int .i64 (Int.tmod b x5_1))]) (by kernel_rfl) ?_
        refine XR.run E0_ok 1 2 [0, 1, 5, 16] rfl (σ' := [(0, .int .i64 a), (1, .int .i64 b), (5, .int .i64 x5_1), (16, .bool ((Int.tmod b x5_1) != 0))]) (h' := []) (c' := 0) (by kernel_rfl) ?_
        refine XR.done (by kernel_rfl) ?_
        show XQ _ _ _ _ _ _ _ _
        cases b5 : ((Int.tmod b x5_1) != 0 : Bool) with
        | true =>
          have h := cT b5 h
          refine XQ.cond (s := (.tmp 16)) (b := true) (by kernel_rfl) (by kernel_rfl) (fun _ => ?_) (fun q => by cases q)
          refine XQ.skip (by kernel_rfl) ?_
          show XQ _ _ _ _ _ _ _ _
          refine XQ.block (id := 1) (by kernel_rfl) ?_
          refine XQ.region (by kernel_rfl) ?_
          refine XR.run E0_ok 1 3 [0, 1, 5] rfl (σ' := [(0, .int .i64 a), (1, .int .i64 b), (5, .int .i64 (w64 (x5_1 - 1)))]) (h' := []) (c' := 0) (by kernel_rfl) ?_
          refine XR.done (by kernel_rfl) ?_
          show XL _ _ _ _ _ _ _ _ _
          refine XL.ren (σ' := [(0, .int .i64 a), (1, .int .i64 b), (5, .int .i64 (w64 (x5_1 - 1)))]) (h' := []) (c' := 0) [] (by decide) rfl ⟨by kernel_rfl, by kernel_rfl, by kernel_rfl, trivial⟩ trivial rfl ?_
          refine XL.conv (f61_1_ok m fuel a b (w64 (x5_1 - 1)) o h Q hQ) (by first | rfl | simp)
        | false =>
          have h := cF b5 h
          refine XQ.cond (s := (.tmp 16)) (b := false) (by kernel_rfl) (by kernel_rfl) (fun q => by cases q) (fun _ => ?_)
          refine XQ.ren (σ' := [(5, .int .i64 x5_1)]) (h' := []) (c' := 0) [] (by decide) rfl ⟨by kernel_rfl, trivial⟩ trivial rfl ?_
          refine XQ.exit (i := 0) (by kernel_rfl) ?_
          cases h
          exact hQ

def f61 (m : Nat) (a : Int) (b : Int) : Option (Int) :=
  (f61_1 m m a b a).bind fun o1 =>
    some (o1)

theorem f61_ok (m : Nat) (a : Int) (b : Int) (o : Int) (h : f61 m a b = some o) (w : World) (hI : maxInv w) : Calls Proofs.Try.prog 61 #[.int .i64 a, .int .i64 b] w fun e w' => e = .returned (.int .i64 o) ∧ Below w.heap.size w w' := by
  refine KC.calls (E := E0) (args := [.int .i64 a, .int .i64 b]) (v := .int .i64 o) rfl rfl (KC.bodyN E0_ok (F := Proofs.Try.f61) (by kernel_rfl) (code := f61_C61) (by kernel_rfl) (nt := 20) (by kernel_rfl) (rs := [.tmp 4]) (by kernel_rfl) (by kernel_rfl) (σ := [(0, .int .i64 a), (1, .int .i64 b)]) (by kernel_rfl) ?_) w (maxInv_size hI) hI
  unfold f61 at h
  refine XQ.seq E0_ok (by kernel_rfl) ?_
  refine XQ.region (by kernel_rfl) ?_
  refine XR.run E0_ok 1 1 [0, 1] rfl (σ' := [(0, .int .i64 a), (1, .int .i64 b)]) (h' := []) (c' := 0) (by kernel_rfl) ?_
  refine XR.done (by kernel_rfl) ?_
  show XQ _ _ _ _ _ _ _ _
  refine XQ.seq E0_ok (by kernel_rfl) ?_
  refine XQ.region (by kernel_rfl) ?_
  refine XR.run E0_ok 1 2 [0, 1, 5] rfl (σ' := [(0, .int .i64 a), (1, .int .i64 b), (5, .int .i64 a)]) (h' := []) (c' := 0) (by kernel_rfl) ?_
  refine XR.done (by kernel_rfl) ?_
  show XQ _ _ _ _ _ _ _ _
  refine XQ.seq E0_ok (by kernel_rfl) ?_
  refine XQ.block (id := 0) (by kernel_rfl) ?_
  refine XQ.loop m (by kernel_rfl) ?_
  obtain ⟨o1, o1_h, h⟩ := bS h
  refine XL.ren (σ' := [(0, .int .i64 a), (1, .int .i64 b), (5, .int .i64 a)]) (h' := []) (c' := 0) [] (by decide) rfl ⟨by kernel_rfl, by kernel_rfl, by kernel_rfl, trivial⟩ trivial rfl ?_
  refine XL.conv (f61_1_ok m m a b a o1 o1_h _ ?_) (by first | rfl | simp)
  show XQ _ _ _ _ _ _ _ _
  refine XQ.seq E0_ok (by kernel_rfl) ?_
  refine XQ.region (by kernel_rfl) ?_
  refine XR.run E0_ok 1 2 [4] rfl (σ' := [(4, .int .i64 o1)]) (h' := []) (c' := 0) (by kernel_rfl) ?_
  refine XR.done (by kernel_rfl) ?_
  show XQ _ _ _ _ _ _ _ _
  refine XQ.ret (by kernel_rfl) ?_
  have h := Option.some.inj h
  subst h
  exact ⟨fun i q => (by cases q), .int .i64 o1, (by kernel_rfl), rfl⟩

/-! vitola/band.Count -/
noncomputable def f35_C35 : Code := Proofs.Try.f35.body.getD .skip
noncomputable def f35_C47 : Code := Proofs.Try.f47.body.getD .skip
noncomputable def f35_L1 : Code := lft (lft (rgt (lft (rgt (rgt (rgt f35_C35))))))

def f35_1 (m : Nat) : Nat → Int → Int → Int → Option Int
  | 0, _, _, _ => none
  | fuel + 1, a, x4_1, x10_1 =>
    cond (decide (x10_1 < a)) (
      (f60 m (w64 (x10_1 + 1))).bind fun r3 =>
        f35_1 m fuel a (w64 (x4_1 + (w64 ((w64 (a - x10_1)) * r3)))) (w64 (x10_1 + 1))
    ) (
      some (x4_1)
    )

theorem f35_1_ok (m : Nat) : ∀ (fuel : Nat) (a : Int) (x4_1 : Int) (x10_1 : Int) (o : Int), f35_1 m fuel a x4_1 x10_1 = some o → ∀ Q : QP, Q (.exit 0) [(4, .int .i64 o)] [] 0 → XL E0 24 0 fuel f35_L1 [(0, .int .i64 a), (4, .int .i64 x4_1), (9, .int .i64 a), (10, .int .i64 x10_1)] [] 0 Q
  | 0, a, x4_1, x10_1, o, h, Q, hQ => by cases h
  | fuel + 1, a, x4_1, x10_1, o, h, Q, hQ => by
    unfold f35_1 at h
    refine XL.succ E0_ok ?_
    refine XQ.seq E0_ok (by kernel_rfl) ?_
    refine XQ.region (by kernel_rfl) ?_
    refine XR.run E0_ok 1 1 [0, 4, 9, 10, 11] rfl (σ' := [(0, .int .i64 a), (4, .int .i64 x4_1), (9, .int .i64 a), (10, .int .i64 x10_1), (11, .bool (decide (x10_1 < a)))]) (h' := []) (c' := 0) (by kernel_rfl) ?_
    refine XR.done (by kernel_rfl) ?_
    show XQ _ _ _ _ _ _ _ _
    refine XQ.seq E0_ok (by kernel_rfl) ?_
    cases b1 : (decide (x10_1 < a) : Bool) with
    | true =>
      have h := cT b1 h
      refine XQ.cond (s := (.tmp 11)) (b := true) (by kernel_rfl) (by kernel_rfl) (fun _ => ?_) (fun q => by cases q)
      refine XQ.skip (by kernel_rfl) ?_
      show XQ _ _ _ _ _ _ _ _
      refine XQ.seq E0_ok (by kernel_rfl) ?_
      refine XQ.block (id := 1) (by kernel_rfl) ?_
      refine XQ.seq E0_ok (by kernel_rfl) ?_
      refine XQ.region (by kernel_rfl) ?_
      refine XR.run E0_ok 1 2 [0, 4, 5, 9, 10] rfl (σ' := [(0, .int .i64 a), (4, .int .i64 x4_1), (5, .int .i64 x10_1), (9, .int .i64 a), (10, .int .i64 x10_1)]) (h' := []) (c' := 0) (by kernel_rfl) ?_
      refine XR.done (by kernel_rfl) ?_
      show XQ _ _ _ _ _ _ _ _
      refine XQ.region (by kernel_rfl) ?_
      refine XR.run E0_ok 1 6 [0, 9, 10, 13, 16, 18] rfl (σ' := [(0, .int .i64 a), (9, .int .i64 a), (10, .int .i64 x10_1), (13, .int .i64 x4_1), (16, .int .i64 (w64 (a - x10_1))), (18, .int .i64 (w64 (x10_1 + 1)))]) (h' := []) (c' := 0) (by kernel_rfl) ?_
      obtain ⟨r3, r3_h, h⟩ := bS h
      refine XR.call E0_ok [0, 9, 10, 13, 16, 19] rfl (K := 60) (args := [.int .i64 (w64 (x10_1 + 1))]) (d := (some (path 12 19))) (by kernel_rfl) (KC.of_calls E0_ok (F := Proofs.Try.f60) (v := .int .i64 r3) (by kernel_rfl) rfl rfl (fun w hI => f60_ok m (w64 (x10_1 + 1)) r3 r3_h w hI)) ?_
      rintro _ _ _ ⟨rfl, rfl, rfl⟩
      refine XR.conv (σ' := [(0, .int .i64 a), (9, .int .i64 a), (10, .int .i64 x10_1), (13, .int .i64 x4_1), (16, .int .i64 (w64 (a - x10_1))), (19, .int .i64 r3)]) (h' := []) (c' := 0) ?_ (by kernel_rfl)
      refine XR.run E0_ok 1 3 [0, 4, 9, 10] rfl (σ' := [(0, .int .i64 a), (4, .int .i64 (w64 (x4_1 + (w64 ((w64 (a - x10_1)) * r3))))), (9, .int .i64 a), (10, .int .i64 x10_1)]) (h' := []) (c' := 0) (by kernel_rfl) ?_
      refine XR.done (by kernel_rfl) ?_
      show XQ _ _ _ _ _ _ _ _
      refine XQ.region (by kernel_rfl) ?_
      refine XR.run E0_ok 1 2 [0, 4, 9, 10] rfl (σ' := [(0, .int .i64 a), (4, .int .i64 (w64 (x4_1 + (w64 ((w64 (a - x10_1)) * r3))))), (9, .int .i64 a), (10, .int .i64 (w64 (x10_1 + 1)))]) (h' := []) (c' := 0) (by kernel_rfl) ?_
      refine XR.done (by kernel_rfl) ?_
      show XL _ _ _ _ _ _ _ _ _
      refine XL.ren (σ' := [(0, .int .i64 a), (4, .int .i64 (w64 (x4_1 + (w64 ((w64 (a - x10_1)) * r3))))), (9, .int .i64 a), (10, .int .i64 (w64 (x10_1 + 1)))]) (h' := []) (c' := 0) [] (by decide) rfl ⟨by kernel_rfl, by kernel_rfl, by kernel_rfl, by kernel_rfl, trivial⟩ trivial rfl ?_
      refine XL.conv (f35_1_ok m fuel a (w64 (x4_1 + (w64 ((w64 (a - x10_1)) * r3)))) (w64 (x10_1 + 1)) o h Q hQ) (by first | rfl | simp)
    | false =>
      have h := cF b1 h
      refine XQ.cond (s := (.tmp 11)) (b := false) (by kernel_rfl) (by kernel_rfl) (fun q => by cases q) (fun _ => ?_)
      refine XQ.ren (σ' := [(4, .int .i64 x4_1)]) (h' := []) (c' := 0) [] (by decide) rfl ⟨by kernel_rfl, trivial⟩ trivial rfl ?_
      refine XQ.exit (i := 0) (by kernel_rfl) ?_
      cases h
      exact hQ

def f35 (m : Nat) (a : Int) : Option (Int × Int) :=
  cond (decide ((1 : Int) ≤ a)) (
    cond (!(decide (a ≤ 16))) (
      some (0, 1)
    ) (
      (f35_1 m m a 1 0).bind fun o1 =>
        some (o1, 0)
    )
  ) (
    some (0, 1)
  )

theorem f35_ok (m : Nat) (a : Int) (o : Int × Int) (h : f35 m a = some o) (w : World) (hI : maxInv w) : Calls Proofs.Try.prog 35 #[.int .i64 a] w fun e w' => e = .returned (.tuple #[.int .i64 o.1, .int .i64 o.2]) ∧ Below w.heap.size w w' := by
  refine KC.calls (E := E0) (args := [.int .i64 a]) (v := .tuple #[.int .i64 o.1, .int .i64 o.2]) rfl rfl (KC.bodyN E0_ok (F := Proofs.Try.f35) (by kernel_rfl) (code := f35_C35) (by kernel_rfl) (nt := 24) (by kernel_rfl) (rs := [.tmp 2, .tmp 3]) (by kernel_rfl) (by kernel_rfl) (σ := [(0, .int .i64 a)]) (by kernel_rfl) ?_) w (maxInv_size hI) hI
  unfold f35 at h
  refine XQ.seq E0_ok (by kernel_rfl) ?_
  refine XQ.region (by kernel_rfl) ?_
  refine XR.run E0_ok 1 2 [0] rfl (σ' := [(0, .int .i64 a)]) (h' := []) (c' := 0) (by kernel_rfl) ?_
  refine XR.done (by kernel_rfl) ?_
  show XQ _ _ _ _ _ _ _ _
  refine XQ.seq E0_ok (by kernel_rfl) ?_
  refine XQ.seq E0_ok (by kernel_rfl) ?_
  refine XQ.region (by kernel_rfl) ?_
  refine XR.run E0_ok 1 1 [0, 6] rfl (σ' := [(0, .int .i64 a), (6, .int .i64 a)]) (h' := []) (c' := 0) (by kernel_rfl) ?_
  refine XR.callK E0_ok [0, 7] rfl (K := 47) (args := [.int .i64 a, .int .i64 1, .int .i64 16]) (d := (some (path 12 7))) (by kernel_rfl) ?_
  refine KC.bodyN E0_ok (F := Proofs.Try.f47) (by kernel_rfl) (code := f35_C47) (by kernel_rfl) (nt := 15) (by kernel_rfl) (rs := [.tmp 6]) (by kernel_rfl) (by kernel_rfl) (σ := [(0, .int .i64 a), (1, .int .i64 1), (2, .int .i64 16)]) (by kernel_rfl) ?_
  refine XQ.seq E0_ok (by kernel_rfl) ?_
  refine XQ.region (by kernel_rfl) ?_
  refine XR.run E0_ok 1 1 [0, 1, 2] rfl (σ' := [(0, .int .i64 a), (1, .int .i64 1), (2, .int .i64 16)]) (h' := []) (c' := 0) (by kernel_rfl) ?_
  refine XR.done (by kernel_rfl) ?_
  show XQ _ _ _ _ _ _ _ _
  refine XQ.seq E0_ok (by kernel_rfl) ?_
  refine XQ.region (by kernel_rfl) ?_
  refine XR.run E0_ok 1 4 [0, 2, 10] rfl (σ' := [(0, .int .i64 a), (2, .int .i64 16), (10, .bool (decide ((1 : Int) ≤ a)))]) (h' := []) (c' := 0) (by kernel_rfl) ?_
  cases b1 : (decide ((1 : Int) ≤ a) : Bool) with
  | true =>
    have h := cT b1 h
    refine XR.run E0_ok 1 5 [6] rfl (σ' := [(6, .bool (decide (a ≤ 16)))]) (h' := []) (c' := 0) (by kernel_rfl) ?_
    refine XR.done (by kernel_rfl) ?_
    show XQ _ _ _ _ _ _ _ _
    refine XQ.ret (by kernel_rfl) ?_
    refine ⟨fun i q => (by cases q), .bool (decide (a ≤ 16)), (by kernel_rfl), ?_⟩
    refine XR.conv (σ' := [(0, .int .i64 a), (7, .bool (decide (a ≤ 16)))]) (h' := []) (c' := 0) ?_ (by kernel_rfl)
    refine XR.run E0_ok 1 1 [0, 8] rfl (σ' := [(0, .int .i64 a), (8, .bool (!(decide (a ≤ 16))))]) (h' := []) (c' := 0) (by kernel_rfl) ?_
    refine XR.done (by kernel_rfl) ?_
    show XQ _ _ _ _ _ _ _ _
    cases b2 : (!(decide (a ≤ 16)) : Bool) with
    | true =>
      have h := cT b2 h
      refine XQ.cond (s := (.tmp 8)) (b := true) (by kernel_rfl) (by kernel_rfl) (fun _ => ?_) (fun q => by cases q)
      refine XQ.seq E0_ok (by kernel_rfl) ?_
      refine XQ.region (by kernel_rfl) ?_
      refine XR.run E0_ok 1 2 [2, 3] rfl (σ' := [(2, .int .i64 0), (3, .int .i64 1)]) (h' := []) (c' := 0) (by kernel_rfl) ?_
      refine XR.done (by kernel_rfl) ?_
      show XQ _ _ _ _ _ _ _ _
      refine XQ.ret (by kernel_rfl) ?_
      have h := Option.some.inj h
      subst h
      exact ⟨fun i q => (by cases q), .tuple #[.int .i64 0, .int .i64 1], (by kernel_rfl), rfl⟩
    | false =>
      have h := cF b2 h
      refine XQ.cond (s := (.tmp 8)) (b := false) (by kernel_rfl) (by kernel_rfl) (fun q => by cases q) (fun _ => ?_)
      refine XQ.skip (by kernel_rfl) ?_
      show XQ _ _ _ _ _ _ _ _
      refine XQ.seq E0_ok (by kernel_rfl) ?_
      refine XQ.region (by kernel_rfl) ?_
      refine XR.run E0_ok 1 1 [0, 4] rfl (σ' := [(0, .int .i64 a), (4, .int .i64 1)]) (h' := []) (c' := 0) (by kernel_rfl) ?_
      refine XR.done (by kernel_rfl) ?_
      show XQ _ _ _ _ _ _ _ _
      refine XQ.seq E0_ok (by kernel_rfl) ?_
      refine XQ.seq E0_ok (by kernel_rfl) ?_
      refine XQ.region (by kernel_rfl) ?_
      refine XR.run E0_ok 1 2 [0, 4, 9, 10] rfl (σ' := [(0, .int .i64 a), (4, .int .i64 1), (9, .int .i64 a), (10, .int .i64 0)]) (h' := []) (c' := 0) (by kernel_rfl) ?_
      refine XR.done (by kernel_rfl) ?_
      show XQ _ _ _ _ _ _ _ _
      refine XQ.block (id := 0) (by kernel_rfl) ?_
      refine XQ.loop m (by kernel_rfl) ?_
      obtain ⟨o1, o1_h, h⟩ := bS h
      refine XL.ren (σ' := [(0, .int .i64 a), (4, .int .i64 1), (9, .int .i64 a), (10, .int .i64 0)]) (h' := []) (c' := 0) [] (by decide) rfl ⟨by kernel_rfl, by kernel_rfl, by kernel_rfl, by kernel_rfl, trivial⟩ trivial rfl ?_
      refine XL.conv (f35_1_ok m m a 1 0 o1 o1_h _ ?_) (by first | rfl | simp)
      show XQ _ _ _ _ _ _ _ _
      refine XQ.seq E0_ok (by kernel_rfl) ?_
      refine XQ.region (by kernel_rfl) ?_
      refine XR.run E0_ok 1 3 [2, 3] rfl (σ' := [(2, .int .i64 o1), (3, .int .i64 0)]) (h' := []) (c' := 0) (by kernel_rfl) ?_
      refine XR.done (by kernel_rfl) ?_
      show XQ _ _ _ _ _ _ _ _
      refine XQ.ret (by kernel_rfl) ?_
      have h := Option.some.inj h
      subst h
      exact ⟨fun i q => (by cases q), .tuple #[.int .i64 o1, .int .i64 0], (by kernel_rfl), rfl⟩
  | false =>
    have h := cF b1 h
    refine XR.run E0_ok 1 5 [6] rfl (σ' := [(6, .bool false)]) (h' := []) (c' := 0) (by kernel_rfl) ?_
    refine XR.done (by kernel_rfl) ?_
    show XQ _ _ _ _ _ _ _ _
    refine XQ.ret (by kernel_rfl) ?_
    refine ⟨fun i q => (by cases q), .bool false, (by kernel_rfl), ?_⟩
    refine XR.conv (σ' := [(0, .int .i64 a), (7, .bool false)]) (h' := []) (c' := 0) ?_ (by kernel_rfl)
    refine XR.run E0_ok 1 1 [0, 8] rfl (σ' := [(0, .int .i64 a), (8, .bool true)]) (h' := []) (c' := 0) (by kernel_rfl) ?_
    refine XR.done (by kernel_rfl) ?_
    show XQ _ _ _ _ _ _ _ _
    refine XQ.cond (s := (.tmp 8)) (b := true) (by kernel_rfl) (by kernel_rfl) (fun _ => ?_) (fun q => by cases q)
    refine XQ.seq E0_ok (by kernel_rfl) ?_
    refine XQ.region (by kernel_rfl) ?_
    refine XR.run E0_ok 1 2 [2, 3] rfl (σ' := [(2, .int .i64 0), (3, .int .i64 1)]) (h' := []) (c' := 0) (by kernel_rfl) ?_
    refine XR.done (by kernel_rfl) ?_
    show XQ _ _ _ _ _ _ _ _
    refine XQ.ret (by kernel_rfl) ?_
    have h := Option.some.inj h
    subst h
    exact ⟨fun i q => (by cases q), .tuple #[.int .i64 0, .int .i64 1], (by kernel_rfl), rfl⟩

/-! vitola/vitolaref08.Count -/
noncomputable def f36_C36 : Code := Proofs.Try.f36.body.getD .skip
noncomputable def f36_C50 : Code := Proofs.Try.f50.body.getD .skip
noncomputable def f36_L1 : Code := lft (lft (rgt (lft (rgt (rgt (rgt f36_C36))))))
noncomputable def f36_L2 : Code := lft (lft (rgt (lft (lft (rgt f36_L1)))))

def f36_2 (m : Nat) : Nat → Int → Int → Int → Int → Option Int
  | 0, _, _, _, _ => none
  | fuel + 1, a, x5_1, x4_2, x6_2 =>
    cond (decide (x6_2 ≤ x5_1)) (
      (f61 m x6_2 x5_1).bind fun r9 =>
        f36_2 m fuel a x5_1 (cond (r9 == 1) (w64 (x4_2 + (w64 ((w64 (a - x5_1)) + 1)))) x4_2) (w64 (x6_2 + 1))
    ) (
      some (x4_2)
    )

theorem f36_2_ok (m : Nat) : ∀ (fuel : Nat) (a : Int) (x5_1 : Int) (x4_2 : Int) (x6_2 : Int) (o : Int), f36_2 m fuel a x5_1 x4_2 x6_2 = some o → ∀ Q : QP, Q (.exit 2) [(0, .int .i64 a), (4, .int .i64 o), (5, .int .i64 x5_1)] [] 0 → XL E0 31 0 fuel f36_L2 [(0, .int .i64 a), (4, .int .i64 x4_2), (5, .int .i64 x5_1), (6, .int .i64 x6_2)] [] 0 Q
  | 0, a, x5_1, x4_2, x6_2, o, h, Q, hQ => by cases h
  | fuel + 1, a, x5_1, x4_2, x6_2, o, h, Q, hQ => by
    unfold f36_2 at h
    refine XL.succ E0_ok ?_
    refine XQ.seq E0_ok (by kernel_rfl) ?_
    refine XQ.seq E0_ok (by kernel_rfl) ?_
    refine XQ.region (by kernel_rfl) ?_
    refine XR.run E0_ok 1 3 [0, 4, 5, 6, 17] rfl (σ' := [(0, .int .i64 a), (4, .int .i64 x4_2), (5, .int .i64 x5_1), (6, .int .i64 x6_2), (17, .bool (decide (x6_2 ≤ x5_1)))]) (h' := []) (c' := 0) (by kernel_rfl) ?_
    refine XR.done (by kernel_rfl) ?_
    show XQ _ _ _ _ _ _ _ _
    cases b1 : (decide (x6_2 ≤ x5_1) : Bool) with
    | true =>
      have h := cT b1 h
      refine XQ.cond (s := (.tmp 17)) (b := true) (by kernel_rfl) (by kernel_rfl) (fun _ => ?_) (fun q => by cases q)
      refine XQ.skip (by kernel_rfl) ?_
      show XQ _ _ _ _ _ _ _ _
      refine XQ.seq E0_ok (by kernel_rfl) ?_
      refine XQ.block (id := 3) (by kernel_rfl) ?_
      refine XQ.seq E0_ok (by kernel_rfl) ?_
      refine XQ.region (by kernel_rfl) ?_
      refine XR.run E0_ok 1 2 [0, 4, 5, 6, 20, 21] rfl (σ' := [(0, .int .i64 a), (4, .int .i64 x4_2), (5, .int .i64 x5_1), (6, .int .i64 x6_2), (20, .int .i64 x6_2), (21, .int .i64 x5_1)]) (h' := []) (c' := 0) (by kernel_rfl) ?_
      obtain ⟨r9, r9_h, h⟩ := bS h
      refine XR.call E0_ok [0, 4, 5, 6, 22] rfl (K := 61) (args := [.int .i64 x6_2, .int .i64 x5_1]) (d := (some (path 12 22))) (by kernel_rfl) (KC.of_calls E0_ok (F := Proofs.Try.f61) (v := .int .i64 r9) (by kernel_rfl) rfl rfl (fun w hI => f61_ok m x6_2 x5_1 r9 r9_h w hI)) ?_
      rintro _ _ _ ⟨rfl, rfl, rfl⟩
      refine XR.conv (σ' := [(0, .int .i64 a), (4, .int .i64 x4_2), (5, .int .i64 x5_1), (6, .int .i64 x6_2), (22, .int .i64 r9)]) (h' := []) (c' := 0) ?_ (by kernel_rfl)
      refine XR.run E0_ok 1 1 [0, 4, 5, 6, 23] rfl (σ' := [(0, .int .i64 a), (4, .int .i64 x4_2), (5, .int .i64 x5_1), (6, .int .i64 x6_2), (23, .bool (r9 == 1))]) (h' := []) (c' := 0) (by kernel_rfl) ?_
      refine XR.done (by kernel_rfl) ?_
      show XQ _ _ _ _ _ _ _ _
      refine XQ.meetC (σ' := [(0, .int .i64 a), (4, .int .i64 (cond (r9 == 1) (w64 (x4_2 + (w64 ((w64 (a - x5_1)) + 1)))) x4_2)), (5, .int .i64 x5_1), (6, .int .i64 x6_2)]) (h' := []) (c' := 0) ?_ ?_
      rotate_left
      · refine XQ.cond (s := (.tmp 23)) (b := r9 == 1) (by kernel_rfl) (by kernel_rfl) (fun b2 => ?_) (fun b2 => ?_)
        · refine XQ.region (by kernel_rfl) ?_
          refine XR.run E0_ok 1 7 [0, 4, 5, 6] rfl (σ' := [(0, .int .i64 a), (4, .int .i64 (w64 (x4_2 + (w64 ((w64 (a - x5_1)) + 1))))), (5, .int .i64 x5_1), (6, .int .i64 x6_2)]) (h' := []) (c' := 0) (by kernel_rfl) ?_
          refine XR.done (by kernel_rfl) ?_
          refine ⟨rfl, ?_, ?_⟩
          · try rw [b2]
            exact ⟨by kernel_rfl, by kernel_rfl, by kernel_rfl, by kernel_rfl, trivial⟩
          · try rw [b2]
            kernel_rfl
        · refine XQ.skip (by kernel_rfl) ?_
          refine ⟨rfl, ?_, ?_⟩
          · try rw [b2]
            exact ⟨by kernel_rfl, by kernel_rfl, by kernel_rfl, by kernel_rfl, trivial⟩
          · try rw [b2]
            kernel_rfl
      show XQ _ _ _ _ _ _ _ _
      refine XQ.region (by kernel_rfl) ?_
      refine XR.run E0_ok 1 3 [0, 4, 5, 6] rfl (σ' := [(0, .int .i64 a), (4, .int .i64 (cond (r9 == 1) (w64 (x4_2 + (w64 ((w64 (a - x5_1)) + 1)))) x4_2)), (5, .int .i64 x5_1), (6, .int .i64 (w64 (x6_2 + 1)))]) (h' := []) (c' := 0) (by kernel_rfl) ?_
      refine XR.done (by kernel_rfl) ?_
      show XL _ _ _ _ _ _ _ _ _
      refine XL.ren (σ' := [(0, .int .i64 a), (4, .int .i64 (cond (r9 == 1) (w64 (x4_2 + (w64 ((w64 (a - x5_1)) + 1)))) x4_2)), (5, .int .i64 x5_1), (6, .int .i64 (w64 (x6_2 + 1)))]) (h' := []) (c' := 0) [] (by decide) rfl ⟨by kernel_rfl, by kernel_rfl, by kernel_rfl, by kernel_rfl, trivial⟩ trivial rfl ?_
      refine XL.conv (f36_2_ok m fuel a x5_1 (cond (r9 == 1) (w64 (x4_2 + (w64 ((w64 (a - x5_1)) + 1)))) x4_2) (w64 (x6_2 + 1)) o h Q hQ) (by first | rfl | simp)
    | false =>
      have h := cF b1 h
      refine XQ.cond (s := (.tmp 17)) (b := false) (by kernel_rfl) (by kernel_rfl) (fun q => by cases q) (fun _ => ?_)
      refine XQ.ren (σ' := [(0, .int .i64 a), (4, .int .i64 x4_2), (5, .int .i64 x5_1)]) (h' := []) (c' := 0) [] (by decide) rfl ⟨by kernel_rfl, by kernel_rfl, by kernel_rfl, trivial⟩ trivial rfl ?_
      refine XQ.exit (i := 2) (by kernel_rfl) ?_
      cases h
      exact hQ

def f36_1 (m : Nat) : Nat → Int → Int → Int → Option Int
  | 0, _, _, _ => none
  | fuel + 1, a, x4_1, x5_1 =>
    cond (decide (x5_1 ≤ a)) (
      (f36_2 m m a x5_1 x4_1 1).bind fun o2 =>
        f36_1 m fuel a o2 (w64 (x5_1 + 1))
    ) (
      some (x4_1)
    )

theorem f36_1_ok (m : Nat) : ∀ (fuel : Nat) (a : Int) (x4_1 : Int) (x5_1 : Int) (o : Int), f36_1 m fuel a x4_1 x5_1 = some o → ∀ Q : QP, Q (.exit 0) [(4, .int .i64 o)] [] 0 → XL E0 31 0 fuel f36_L1 [(0, .int .i64 a), (4, .int .i64 x4_1), (5, .int .i64 x5_1)] [] 0 Q
  | 0, a, x4_1, x5_1, o, h, Q, hQ => by cases h
  | fuel + 1, a, x4_1, x5_1, o, h, Q, hQ => by
    unfold f36_1 at h
    refine XL.succ E0_ok ?_
    refine XQ.seq E0_ok (by kernel_rfl) ?_
    refine XQ.seq E0_ok (by kernel_rfl) ?_
    refine XQ.region (by kernel_rfl) ?_
    refine XR.run E0_ok 1 3 [0, 4, 5, 12] rfl (σ' := [(0, .int .i64 a), (4, .int .i64 x4_1), (5, .int .i64 x5_1), (12, .bool (decide (x5_1 ≤ a)))]) (h' := []) (c' := 0) (by kernel_rfl) ?_
    refine XR.done (by kernel_rfl) ?_
    show XQ _ _ _ _ _ _ _ _
    cases b1 : (decide (x5_1 ≤ a) : Bool) with
    | true =>
      have h := cT b1 h
      refine XQ.cond (s := (.tmp 12)) (b := true) (by kernel_rfl) (by kernel_rfl) (fun _ => ?_) (fun q => by cases q)
      refine XQ.skip (by kernel_rfl) ?_
      show XQ _ _ _ _ _ _ _ _
      refine XQ.seq E0_ok (by kernel_rfl) ?_
      refine XQ.block (id := 1) (by kernel_rfl) ?_
      refine XQ.seq E0_ok (by kernel_rfl) ?_
      refine XQ.region (by kernel_rfl) ?_
      refine XR.run E0_ok 1 1 [0, 4, 5, 6] rfl (σ' := [(0, .int .i64 a), (4, .int .i64 x4_1), (5, .int .i64 x5_1), (6, .int .i64 1)]) (h' := []) (c' := 0) (by kernel_rfl) ?_
      refine XR.done (by kernel_rfl) ?_
      show XQ _ _ _ _ _ _ _ _
      refine XQ.block (id := 2) (by kernel_rfl) ?_
      refine XQ.loop m (by kernel_rfl) ?_
      obtain ⟨o2, o2_h, h⟩ := bS h
      refine XL.ren (σ' := [(0, .int .i64 a), (4, .int .i64 x4_1), (5, .int .i64 x5_1), (6, .int .i64 1)]) (h' := []) (c' := 0) [] (by decide) rfl ⟨by kernel_rfl, by kernel_rfl, by kernel_rfl, by kernel_rfl, trivial⟩ trivial rfl ?_
      refine XL.conv (f36_2_ok m m a x5_1 x4_1 1 o2 o2_h _ ?_) (by first | rfl | simp)
      show XQ _ _ _ _ _ _ _ _
      refine XQ.region (by kernel_rfl) ?_
      refine XR.run E0_ok 1 3 [0, 4, 5] rfl (σ' := [(0, .int .i64 a), (4, .int .i64 o2), (5, .int .i64 (w64 (x5_1 + 1)))]) (h' := []) (c' := 0) (by kernel_rfl) ?_
      refine XR.done (by kernel_rfl) ?_
      show XL _ _ _ _ _ _ _ _ _
      refine XL.ren (σ' := [(0, .int .i64 a), (4, .int .i64 o2), (5, .int .i64 (w64 (x5_1 + 1)))]) (h' := []) (c' := 0) [] (by decide) rfl ⟨by kernel_rfl, by kernel_rfl, by kernel_rfl, trivial⟩ trivial rfl ?_
      refine XL.conv (f36_1_ok m fuel a o2 (w64 (x5_1 + 1)) o h Q hQ) (by first | rfl | simp)
    | false =>
      have h := cF b1 h
      refine XQ.cond (s := (.tmp 12)) (b := false) (by kernel_rfl) (by kernel_rfl) (fun q => by cases q) (fun _ => ?_)
      refine XQ.ren (σ' := [(4, .int .i64 x4_1)]) (h' := []) (c' := 0) [] (by decide) rfl ⟨by kernel_rfl, trivial⟩ trivial rfl ?_
      refine XQ.exit (i := 0) (by kernel_rfl) ?_
      cases h
      exact hQ

def f36 (m : Nat) (a : Int) : Option (Int × Int) :=
  cond (decide (a ≥ 1)) (
    cond (!(decide (a ≤ 16))) (
      some (0, 1)
    ) (
      (f36_1 m m a 1 1).bind fun o1 =>
        some (o1, 0)
    )
  ) (
    some (0, 1)
  )

theorem f36_ok (m : Nat) (a : Int) (o : Int × Int) (h : f36 m a = some o) (w : World) (hI : maxInv w) : Calls Proofs.Try.prog 36 #[.int .i64 a] w fun e w' => e = .returned (.tuple #[.int .i64 o.1, .int .i64 o.2]) ∧ Below w.heap.size w w' := by
  refine KC.calls (E := E0) (args := [.int .i64 a]) (v := .tuple #[.int .i64 o.1, .int .i64 o.2]) rfl rfl (KC.bodyN E0_ok (F := Proofs.Try.f36) (by kernel_rfl) (code := f36_C36) (by kernel_rfl) (nt := 31) (by kernel_rfl) (rs := [.tmp 2, .tmp 3]) (by kernel_rfl) (by kernel_rfl) (σ := [(0, .int .i64 a)]) (by kernel_rfl) ?_) w (maxInv_size hI) hI
  unfold f36 at h
  refine XQ.seq E0_ok (by kernel_rfl) ?_
  refine XQ.region (by kernel_rfl) ?_
  refine XR.run E0_ok 1 2 [0] rfl (σ' := [(0, .int .i64 a)]) (h' := []) (c' := 0) (by kernel_rfl) ?_
  refine XR.done (by kernel_rfl) ?_
  show XQ _ _ _ _ _ _ _ _
  refine XQ.seq E0_ok (by kernel_rfl) ?_
  refine XQ.seq E0_ok (by kernel_rfl) ?_
  refine XQ.region (by kernel_rfl) ?_
  refine XR.run E0_ok 1 1 [0, 7] rfl (σ' := [(0, .int .i64 a), (7, .int .i64 a)]) (h' := []) (c' := 0) (by kernel_rfl) ?_
  refine XR.callK E0_ok [0, 8] rfl (K := 50) (args := [.int .i64 a, .int .i64 1, .int .i64 16]) (d := (some (path 12 8))) (by kernel_rfl) ?_
  refine KC.bodyN E0_ok (F := Proofs.Try.f50) (by kernel_rfl) (code := f36_C50) (by kernel_rfl) (nt := 15) (by kernel_rfl) (rs := [.tmp 6]) (by kernel_rfl) (by kernel_rfl) (σ := [(0, .int .i64 a), (1, .int .i64 1), (2, .int .i64 16)]) (by kernel_rfl) ?_
  refine XQ.seq E0_ok (by kernel_rfl) ?_
  refine XQ.region (by kernel_rfl) ?_
  refine XR.run E0_ok 1 1 [0, 1, 2] rfl (σ' := [(0, .int .i64 a), (1, .int .i64 1), (2, .int .i64 16)]) (h' := []) (c' := 0) (by kernel_rfl) ?_
  refine XR.done (by kernel_rfl) ?_
  show XQ _ _ _ _ _ _ _ _
  refine XQ.seq E0_ok (by kernel_rfl) ?_
  refine XQ.region (by kernel_rfl) ?_
  refine XR.run E0_ok 1 4 [0, 2, 10] rfl (σ' := [(0, .int .i64 a), (2, .int .i64 16), (10, .bool (decide (a ≥ 1)))]) (h' := []) (c' := 0) (by kernel_rfl) ?_
  cases b1 : (decide (a ≥ 1) : Bool) with
  | true =>
    have h := cT b1 h
    refine XR.run E0_ok 1 5 [6] rfl (σ' := [(6, .bool (decide (a ≤ 16)))]) (h' := []) (c' := 0) (by kernel_rfl) ?_
    refine XR.done (by kernel_rfl) ?_
    show XQ _ _ _ _ _ _ _ _
    refine XQ.ret (by kernel_rfl) ?_
    refine ⟨fun i q => (by cases q), .bool (decide (a ≤ 16)), (by kernel_rfl), ?_⟩
    refine XR.conv (σ' := [(0, .int .i64 a), (8, .bool (decide (a ≤ 16)))]) (h' := []) (c' := 0) ?_ (by kernel_rfl)
    refine XR.run E0_ok 1 1 [0, 9] rfl (σ' := [(0, .int .i64 a), (9, .bool (!(decide (a ≤ 16))))]) (h' := []) (c' := 0) (by kernel_rfl) ?_
    refine XR.done (by kernel_rfl) ?_
    show XQ _ _ _ _ _ _ _ _
    cases b2 : (!(decide (a ≤ 16)) : Bool) with
    | true =>
      have h := cT b2 h
      refine XQ.cond (s := (.tmp 9)) (b := true) (by kernel_rfl) (by kernel_rfl) (fun _ => ?_) (fun q => by cases q)
      refine XQ.seq E0_ok (by kernel_rfl) ?_
      refine XQ.region (by kernel_rfl) ?_
      refine XR.run E0_ok 1 2 [2, 3] rfl (σ' := [(2, .int .i64 0), (3, .int .i64 1)]) (h' := []) (c' := 0) (by kernel_rfl) ?_
      refine XR.done (by kernel_rfl) ?_
      show XQ _ _ _ _ _ _ _ _
      refine XQ.ret (by kernel_rfl) ?_
      have h := Option.some.inj h
      subst h
      exact ⟨fun i q => (by cases q), .tuple #[.int .i64 0, .int .i64 1], (by kernel_rfl), rfl⟩
    | false =>
      have h := cF b2 h
      refine XQ.cond (s := (.tmp 9)) (b := false) (by kernel_rfl) (by kernel_rfl) (fun q => by cases q) (fun _ => ?_)
      refine XQ.skip (by kernel_rfl) ?_
      show XQ _ _ _ _ _ _ _ _
      refine XQ.seq E0_ok (by kernel_rfl) ?_
      refine XQ.region (by kernel_rfl) ?_
      refine XR.run E0_ok 1 1 [0, 4] rfl (σ' := [(0, .int .i64 a), (4, .int .i64 1)]) (h' := []) (c' := 0) (by kernel_rfl) ?_
      refine XR.done (by kernel_rfl) ?_
      show XQ _ _ _ _ _ _ _ _
      refine XQ.seq E0_ok (by kernel_rfl) ?_
      refine XQ.seq E0_ok (by kernel_rfl) ?_
      refine XQ.region (by kernel_rfl) ?_
      refine XR.run E0_ok 1 1 [0, 4, 5] rfl (σ' := [(0, .int .i64 a), (4, .int .i64 1), (5, .int .i64 1)]) (h' := []) (c' := 0) (by kernel_rfl) ?_
      refine XR.done (by kernel_rfl) ?_
      show XQ _ _ _ _ _ _ _ _
      refine XQ.block (id := 0) (by kernel_rfl) ?_
      refine XQ.loop m (by kernel_rfl) ?_
      obtain ⟨o1, o1_h, h⟩ := bS h
      refine XL.ren (σ' := [(0, .int .i64 a), (4, .int .i64 1), (5, .int .i64 1)]) (h' := []) (c' := 0) [] (by decide) rfl ⟨by kernel_rfl, by kernel_rfl, by kernel_rfl, trivial⟩ trivial rfl ?_
      refine XL.conv (f36_1_ok m m a 1 1 o1 o1_h _ ?_) (by first | rfl | simp)
      show XQ _ _ _ _ _ _ _ _
      refine XQ.seq E0_ok (by kernel_rfl) ?_
      refine XQ.region (by kernel_rfl) ?_
      refine XR.run E0_ok 1 3 [2, 3] rfl (σ' := [(2, .int .i64 o1), (3, .int .i64 0)]) (h' := []) (c' := 0) (by kernel_rfl) ?_
      refine XR.done (by kernel_rfl) ?_
      show XQ _ _ _ _ _ _ _ _
      refine XQ.ret (by kernel_rfl) ?_
      have h := Option.some.inj h
      subst h
      exact ⟨fun i q => (by cases q), .tuple #[.int .i64 o1, .int .i64 0], (by kernel_rfl), rfl⟩
  | false =>
    have h := cF b1 h
    refine XR.run E0_ok 1 5 [6] rfl (σ' := [(6, .bool false)]) (h' := []) (c' := 0) (by kernel_rfl) ?_
    refine XR.done (by kernel_rfl) ?_
    show XQ _ _ _ _ _ _ _ _
    refine XQ.ret (by kernel_rfl) ?_
    refine ⟨fun i q => (by cases q), .bool false, (by kernel_rfl), ?_⟩
    refine XR.conv (σ' := [(0, .int .i64 a), (8, .bool false)]) (h' := []) (c' := 0) ?_ (by kernel_rfl)
    refine XR.run E0_ok 1 1 [0, 9] rfl (σ' := [(0, .int .i64 a), (9, .bool true)]) (h' := []) (c' := 0) (by kernel_rfl) ?_
    refine XR.done (by kernel_rfl) ?_
    show XQ _ _ _ _ _ _ _ _
    refine XQ.cond (s := (.tmp 9)) (b := true) (by kernel_rfl) (by kernel_rfl) (fun _ => ?_) (fun q => by cases q)
    refine XQ.seq E0_ok (by kernel_rfl) ?_
    refine XQ.region (by kernel_rfl) ?_
    refine XR.run E0_ok 1 2 [2, 3] rfl (σ' := [(2, .int .i64 0), (3, .int .i64 1)]) (h' := []) (c' := 0) (by kernel_rfl) ?_
    refine XR.done (by kernel_rfl) ?_
    show XQ _ _ _ _ _ _ _ _
    refine XQ.ret (by kernel_rfl) ?_
    have h := Option.some.inj h
    subst h
    exact ⟨fun i q => (by cases q), .tuple #[.int .i64 0, .int .i64 1], (by kernel_rfl), rfl⟩

/-! vitola/vitolalaw08.BandStraight -/
noncomputable def f6_C6 : Code := Proofs.Try.f6.body.getD .skip

def f6 (m : Nat) (a : ByteArray) (b : Int) : Option (Bool) :=
  cond (decide (((a.size : Nat) : Int) > 60)) (
    some (true)
  ) (
    (f33 m a).bind fun r1 =>
      (f34 m a).bind fun r2 =>
        (f35 m b).bind fun r3 =>
          (f36 m b).bind fun r4 =>
            cond (r1.1 == r2.1) (
              cond (r1.2 == r2.2) (
                cond (r3.1 == r4.1) (
                  cond (r3.2 == r4.2) (
                    some (true)
                  ) (
                    some (false)
                  )
                ) (
                  some (false)
                )
              ) (
                some (false)
              )
            ) (
              some (false)
            )
  )

theorem f6_ok (m : Nat) (a : ByteArray) (b : Int) (o : Bool) (h : f6 m a b = some o) (w : World) (hI : maxInv w) : Calls Proofs.Try.prog 6 #[.string a, .int .i64 b] w fun e w' => e = .returned (.bool o) ∧ Below w.heap.size w w' := by
  refine KC.calls (E := E0) (args := [.string a, .int .i64 b]) (v := .bool o) rfl rfl (KC.bodyN E0_ok (F := Proofs.Try.f6) (by kernel_rfl) (code := f6_C6) (by kernel_rfl) (nt := 58) (by kernel_rfl) (rs := [.tmp 4]) (by kernel_rfl) (by kernel_rfl) (σ := [(0, .string a), (1, .int .i64 b)]) (by kernel_rfl) ?_) w (maxInv_size hI) hI
  unfold f6 at h
  refine XQ.seq E0_ok (by kernel_rfl) ?_
  refine XQ.region (by kernel_rfl) ?_
  refine XR.run E0_ok 1 1 [0, 1] rfl (σ' := [(0, .string a), (1, .int .i64 b)]) (h' := []) (c' := 0) (by kernel_rfl) ?_
  refine XR.done (by kernel_rfl) ?_
  show XQ _ _ _ _ _ _ _ _
  refine XQ.seq E0_ok (by kernel_rfl) ?_
  refine XQ.seq E0_ok (by kernel_rfl) ?_
  refine XQ.region (by kernel_rfl) ?_
  refine XR.run E0_ok 1 3 [0, 1, 15] rfl (σ' := [(0, .string a), (1, .int .i64 b), (15, .bool (decide (((a.size : Nat) : Int) > 60)))]) (h' := []) (c' := 0) (by kernel_rfl) ?_
  refine XR.done (by kernel_rfl) ?_
  show XQ _ _ _ _ _ _ _ _
  cases b1 : (decide (((a.size : Nat) : Int) > 60) : Bool) with
  | true =>
    have h := cT b1 h
    refine XQ.cond (s := (.tmp 15)) (b := true) (by kernel_rfl) (by kernel_rfl) (fun _ => ?_) (fun q => by cases q)
    refine XQ.seq E0_ok (by kernel_rfl) ?_
    refine XQ.region (by kernel_rfl) ?_
    refine XR.call E0_ok [16] rfl (K := 12) (args := []) (d := (some (path 12 16))) (by kernel_rfl) (KC.of_calls E0_ok (F := Proofs.Try.f12) (v := .bool true) (by kernel_rfl) rfl rfl (works_ok)) ?_
    rintro _ _ _ ⟨rfl, rfl, rfl⟩
    refine XR.conv (σ' := [(16, .bool true)]) (h' := []) (c' := 0) ?_ (by kernel_rfl)
    refine XR.run E0_ok 1 1 [4] rfl (σ' := [(4, .bool true)]) (h' := []) (c' := 0) (by kernel_rfl) ?_
    refine XR.done (by kernel_rfl) ?_
    show XQ _ _ _ _ _ _ _ _
    refine XQ.ret (by kernel_rfl) ?_
    have h := Option.some.inj h
    subst h
    exact ⟨fun i q => (by cases q), .bool true, (by kernel_rfl), rfl⟩
  | false =>
    have h := cF b1 h
    refine XQ.cond (s := (.tmp 15)) (b := false) (by kernel_rfl) (by kernel_rfl) (fun q => by cases q) (fun _ => ?_)
    refine XQ.skip (by kernel_rfl) ?_
    show XQ _ _ _ _ _ _ _ _
    refine XQ.seq E0_ok (by kernel_rfl) ?_
    refine XQ.region (by kernel_rfl) ?_
    refine XR.run E0_ok 1 1 [0, 1, 18] rfl (σ' := [(0, .string a), (1, .int .i64 b), (18, .string a)]) (h' := []) (c' := 0) (by kernel_rfl) ?_
    obtain ⟨r1, r1_h, h⟩ := bS h
    refine XR.call E0_ok [0, 1, 19] rfl (K := 33) (args := [.string a]) (d := (some (path 12 19))) (by kernel_rfl) (KC.of_calls E0_ok (F := Proofs.Try.f33) (v := .tuple #[.bool r1.1, .int .i64 r1.2]) (by kernel_rfl) rfl rfl (fun w hI => f33_ok m a r1 r1_h w hI)) ?_
    rintro _ _ _ ⟨rfl, rfl, rfl⟩
    refine XR.conv (σ' := [(0, .string a), (1, .int .i64 b), (19, .tuple #[.bool r1.1, .int .i64 r1.2])]) (h' := []) (c' := 0) ?_ (by kernel_rfl)
    refine XR.run E0_ok 1 5 [0, 1, 5, 6] rfl (σ' := [(0, .string a), (1, .int .i64 b), (5, .bool r1.1), (6, .int .i64 r1.2)]) (h' := []) (c' := 0) (by kernel_rfl) ?_
    refine XR.done (by kernel_rfl) ?_
    show XQ _ _ _ _ _ _ _ _
    refine XQ.seq E0_ok (by kernel_rfl) ?_
    refine XQ.region (by kernel_rfl) ?_
    refine XR.run E0_ok 1 1 [1, 5, 6, 23] rfl (σ' := [(1, .int .i64 b), (5, .bool r1.1), (6, .int .i64 r1.2), (23, .string a)]) (h' := []) (c' := 0) (by kernel_rfl) ?_
    obtain ⟨r2, r2_h, h⟩ := bS h
    refine XR.call E0_ok [1, 5, 6, 24] rfl (K := 34) (args := [.string a]) (d := (some (path 12 24))) (by kernel_rfl) (KC.of_calls E0_ok (F := Proofs.Try.f34) (v := .tuple #[.bool r2.1, .int .i64 r2.2]) (by kernel_rfl) rfl rfl (fun w hI => f34_ok m a r2 r2_h w hI)) ?_
    rintro _ _ _ ⟨rfl, rfl, rfl⟩
    refine XR.conv (σ' := [(1, .int .i64 b), (5, .bool r1.1), (6, .int .i64 r1.2), (24, .tuple #[.bool r2.1, .int .i64 r2.2])]) (h' := []) (c' := 0) ?_ (by kernel_rfl)
    refine XR.run E0_ok 1 5 [1, 5, 6, 7, 8] rfl (σ' := [(1, .int .i64 b), (5, .bool r1.1), (6, .int .i64 r1.2), (7, .bool r2.1), (8, .int .i64 r2.2)]) (h' := []) (c' := 0) (by kernel_rfl) ?_
    refine XR.done (by kernel_rfl) ?_
    show XQ _ _ _ _ _ _ _ _
    refine XQ.seq E0_ok (by kernel_rfl) ?_
    refine XQ.region (by kernel_rfl) ?_
    refine XR.run E0_ok 1 1 [1, 5, 6, 7, 8, 28] rfl (σ' := [(1, .int .i64 b), (5, .bool r1.1), (6, .int .i64 r1.2), (7, .bool r2.1), (8, .int .i64 r2.2), (28, .int .i64 b)]) (h' := []) (c' := 0) (by kernel_rfl) ?_
    obtain ⟨r3, r3_h, h⟩ := bS h
    refine XR.call E0_ok [1, 5, 6, 7, 8, 29] rfl (K := 35) (args := [.int .i64 b]) (d := (some (path 12 29))) (by kernel_rfl) (KC.of_calls E0_ok (F := Proofs.Try.f35) (v := .tuple #[.int .i64 r3.1, .int .i64 r3.2]) (by kernel_rfl) rfl rfl (fun w hI => f35_ok m b r3 r3_h w hI)) ?_
    rintro _ _ _ ⟨rfl, rfl, rfl⟩
    refine XR.conv (σ' := [(1, .int .i64 b), (5, .bool r1.1), (6, .int .i64 r1.2), (7, .bool r2.1), (8, .int .i64 r2.2), (29, .tuple #[.int .i64 r3.1, .int .i64 r3.2])]) (h' := []) (c' := 0) ?_ (by kernel_rfl)
    refine XR.run E0_ok 1 5 [1, 5, 6, 7, 8, 9, 10] rfl (σ' := [(1, .int .i64 b), (5, .bool r1.1), (6, .int .i64 r1.2), (7, .bool r2.1), (8, .int .i64 r2.2), (9, .int .i64 r3.1), (10, .int .i64 r3.2)]) (h' := []) (c' := 0) (by kernel_rfl) ?_
    refine XR.done (by kernel_rfl) ?_
    show XQ _ _ _ _ _ _ _ _
    refine XQ.seq E0_ok (by kernel_rfl) ?_
    refine XQ.region (by kernel_rfl) ?_
    refine XR.run E0_ok 1 1 [5, 6, 7, 8, 9, 10, 33] rfl (σ' := [(5, .bool r1.1), (6, .int .i64 r1.2), (7, .bool r2.1), (8, .int .i64 r2.2), (9, .int .i64 r3.1), (10, .int .i64 r3.2), (33, .int .i64 b)]) (h' := []) (c' := 0) (by kernel_rfl) ?_
    obtain ⟨r4, r4_h, h⟩ := bS h
    refine XR.call E0_ok [5, 6, 7, 8, 9, 10, 34] rfl (K := 36) (args := [.int .i64 b]) (d := (some (path 12 34))) (by kernel_rfl) (KC.of_calls E0_ok (F := Proofs.Try.f36) (v := .tuple #[.int .i64 r4.1, .int .i64 r4.2]) (by kernel_rfl) rfl rfl (fun w hI => f36_ok m b r4 r4_h w hI)) ?_
    rintro _ _ _ ⟨rfl, rfl, rfl⟩
    refine XR.conv (σ' := [(5, .bool r1.1), (6, .int .i64 r1.2), (7, .bool r2.1), (8, .int .i64 r2.2), (9, .int .i64 r3.1), (10, .int .i64 r3.2), (34, .tuple #[.int .i64 r4.1, .int .i64 r4.2])]) (h' := []) (c' := 0) ?_ (by kernel_rfl)
    refine XR.run E0_ok 1 5 [5, 6, 7, 8, 9, 10, 11, 12] rfl (σ' := [(5, .bool r1.1), (6, .int .i64 r1.2), (7, .bool r2.1), (8, .int .i64 r2.2), (9, .int .i64 r3.1), (10, .int .i64 r3.2), (11, .int .i64 r4.1), (12, .int .i64 r4.2)]) (h' := []) (c' := 0) (by kernel_rfl) ?_
    refine XR.done (by kernel_rfl) ?_
    show XQ _ _ _ _ _ _ _ _
    refine XQ.seq E0_ok (by kernel_rfl) ?_
    refine XQ.region (by kernel_rfl) ?_
    refine XR.run E0_ok 1 4 [6, 8, 9, 10, 11, 12, 40] rfl (σ' := [(6, .int .i64 r1.2), (8, .int .i64 r2.2), (9, .int .i64 r3.1), (10, .int .i64 r3.2), (11, .int .i64 r4.1), (12, .int .i64 r4.2), (40, .bool (r1.1 == r2.1))]) (h' := []) (c' := 0) (by kernel_rfl) ?_
    cases b2 : (r1.1 == r2.1 : Bool) with
    | true =>
      have h := cT b2 h
      refine XR.run E0_ok 1 5 [9, 10, 11, 12, 45] rfl (σ' := [(9, .int .i64 r3.1), (10, .int .i64 r3.2), (11, .int .i64 r4.1), (12, .int .i64 r4.2), (45, .bool (r1.2 == r2.2))]) (h' := []) (c' := 0) (by kernel_rfl) ?_
      cases b3 : (r1.2 == r2.2 : Bool) with
      | true =>
        have h := cT b3 h
        refine XR.run E0_ok 1 5 [10, 12, 50] rfl (σ' := [(10, .int .i64 r3.2), (12, .int .i64 r4.2), (50, .bool (r3.1 == r4.1))]) (h' := []) (c' := 0) (by kernel_rfl) ?_
        cases b4 : (r3.1 == r4.1 : Bool) with
        | true =>
          have h := cT b4 h
          refine XR.run E0_ok 1 5 [55] rfl (σ' := [(55, .bool (r3.2 == r4.2))]) (h' := []) (c' := 0) (by kernel_rfl) ?_
          cases b5 : (r3.2 == r4.2 : Bool) with
          | true =>
            have h := cT b5 h
            refine XR.call E0_ok [55, 56] rfl (K := 12) (args := []) (d := (some (path 12 56))) (by kernel_rfl) (KC.of_calls E0_ok (F := Proofs.Try.f12) (v := .bool true) (by kernel_rfl) rfl rfl (works_ok)) ?_
            rintro _ _ _ ⟨rfl, rfl, rfl⟩
            refine XR.conv (σ' := [(55, .bool true), (56, .bool true)]) (h' := []) (c' := 0) ?_ (by kernel_rfl)
            refine XR.run E0_ok 1 2 [4] rfl (σ' := [(4, .bool true)]) (h' := []) (c' := 0) (by kernel_rfl) ?_
            refine XR.done (by kernel_rfl) ?_
            show XQ _ _ _ _ _ _ _ _
            refine XQ.ret (by kernel_rfl) ?_
            have h := Option.some.inj h
            subst h
            exact ⟨fun i q => (by cases q), .bool true, (by kernel_rfl), rfl⟩
          | false =>
            have h := cF b5 h
            refine XR.run E0_ok 1 3 [4] rfl (σ' := [(4, .bool false)]) (h' := []) (c' := 0) (by kernel_rfl) ?_
            refine XR.done (by kernel_rfl) ?_
            show XQ _ _ _ _ _ _ _ _
            refine XQ.ret (by kernel_rfl) ?_
            have h := Option.some.inj h
            subst h
            exact ⟨fun i q => (by cases q), .bool false, (by kernel_rfl), rfl⟩
        | false =>
          have h := cF b4 h
          refine XR.run E0_ok 1 8 [4] rfl (σ' := [(4, .bool false)]) (h' := []) (c' := 0) (by kernel_rfl) ?_
          refine XR.done (by kernel_rfl) ?_
          show XQ _ _ _ _ _ _ _ _
          refine XQ.ret (by kernel_rfl) ?_
          have h := Option.some.inj h
          subst h
          exact ⟨fun i q => (by cases q), .bool false, (by kernel_rfl), rfl⟩
      | false =>
        have h := cF b3 h
        refine XR.run E0_ok 1 13 [4] rfl (σ' := [(4, .bool false)]) (h' := []) (c' := 0) (by kernel_rfl) ?_
        refine XR.done (by kernel_rfl) ?_
        show XQ _ _ _ _ _ _ _ _
        refine XQ.ret (by kernel_rfl) ?_
        have h := Option.some.inj h
        subst h
        exact ⟨fun i q => (by cases q), .bool false, (by kernel_rfl), rfl⟩
    | false =>
      have h := cF b2 h
      refine XR.run E0_ok 1 18 [4] rfl (σ' := [(4, .bool false)]) (h' := []) (c' := 0) (by kernel_rfl) ?_
      refine XR.done (by kernel_rfl) ?_
      show XQ _ _ _ _ _ _ _ _
      refine XQ.ret (by kernel_rfl) ?_
      have h := Option.some.inj h
      subst h
      exact ⟨fun i q => (by cases q), .bool false, (by kernel_rfl), rfl⟩

end Go.Xm
