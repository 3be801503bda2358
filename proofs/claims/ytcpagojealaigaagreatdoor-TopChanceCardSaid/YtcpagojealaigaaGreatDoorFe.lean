/- What these functions of the program compute, as functions in Lean, and the proofs that they do: duty.Check, duty.common, wrap.common, duty.within, duty.total, duty.CheckParts, duty.Sum, wrap.Check, wrap.Wrapper).mark, wrap.Mark, wrap.round, wrap.Chain, wrap.first, wrap.First, duty.Cents, duty.Reduced, duty.Greedy. Conditions: the library's variables hold what their texts lay. -/
import Derived.Test.YtcpagojealaigaaGreatDoorFd
import Derived.Test.YtcpagojealaigaaGreatDoorFw
import Derived.Test.YtcpagojealaigaaGreatDoorNg
import Derived.Test.YtcpagojealaigaaGreatDoorNh
import Derived.Test.YtcpagojealaigaaGreatDoorNi
import Derived.Test.YtcpagojealaigaaGreatDoorNf
import Derived.Test.YtcpagojealaigaaGreatDoorNj
import Derived.Test.YtcpagojealaigaaGreatDoorNe
namespace Go.Xm
open Go.RowKit
set_option linter.unusedVariables false
set_option linter.unusedSimpArgs false
set_option maxRecDepth 20000

/-! vitola/duty.Check -/
noncomputable def f6_C6 : Code := Proofs.Tryz.f6.body.getD .skip

def f6 (m : Nat) (a_Above : Int) (a_Below : Int) : Option (Int) :=
  cond (decide (a_Above < 1)) (
    some (1)
  ) (
    cond (decide (a_Above ≥ a_Below)) (
      some (1)
    ) (
      cond (decide (a_Below > 30)) (
        some (1)
      ) (
        some (0)
      )
    )
  )

theorem f6_ok (m : Nat) (a_Above : Int) (a_Below : Int) (o : Int) (h : f6 m a_Above a_Below = some o) (w : World) (hI : seatInv w) : Calls Proofs.Tryz.prog 6 #[.agg #[ii a_Above, ii a_Below]] w fun e w' => e = .returned (ii o) ∧ Below w.heap.size w w' := by
  refine KC.calls (E := Ep) (args := [.agg #[ii a_Above, ii a_Below]]) (v := ii o) rfl rfl (KC.bodyN Ep_ok (F := Proofs.Tryz.f6) (by kernel_rfl) (code := f6_C6) (by kernel_rfl) (nt := 18) (by kernel_rfl) (rs := [.tmp 2]) (by kernel_rfl) (by kernel_rfl) (σ := [(0, .agg #[ii a_Above, ii a_Below])]) (by kernel_rfl) ?_) w (seatInv_size hI) hI
  unfold f6 at h
  refine XQ.seq Ep_ok (by kernel_rfl) ?_
  refine XQ.region (by kernel_rfl) ?_
  refine XR.runT Ep_ok 1 2 [(1, pp 0 0)] [(0, .cells [ii a_Above, ii a_Below] 0 23 0)] 1 rfl (by kernel_rfl) ?_
  refine XR.done (by kernel_rfl) ?_
  show XQ _ _ _ _ _ _ _ _
  refine XQ.seq Ep_ok (by kernel_rfl) ?_
  refine XQ.seq Ep_ok (by kernel_rfl) ?_
  refine XQ.region (by kernel_rfl) ?_
  refine XR.runS Ep_ok 1 4 [(1, pp 0 0), (6, .bool (decide (a_Above < 1)))] rfl (by kernel_rfl) ?_
  cases b1 : (decide (a_Above < 1) : Bool) with
  | true =>
    have h := cT b1 h
    refine XR.runS Ep_ok 1 11 [(17, .bool true)] rfl (by kernel_rfl) ?_
    refine XR.done (by kernel_rfl) ?_
    show XQ _ _ _ _ _ _ _ _
    refine XQ.cond (s := (.tmp 17)) (b := true) (by kernel_rfl) (by kernel_rfl) (fun _ => ?_) (fun q => by cases q)
    refine XQ.seq Ep_ok (by kernel_rfl) ?_
    refine XQ.region (by kernel_rfl) ?_
    refine XR.runS Ep_ok 1 1 [(2, ii 1)] rfl (by kernel_rfl) ?_
    refine XR.done (by kernel_rfl) ?_
    show XQ _ _ _ _ _ _ _ _
    refine XQ.ret (by kernel_rfl) ?_
    have h := Option.some.inj h
    subst h
    exact ⟨fun i q => (by cases q), ii 1, (by kernel_rfl), rfl⟩
  | false =>
    have h := cF b1 h
    refine XR.runS Ep_ok 1 7 [(1, pp 0 0), (13, .bool (decide (a_Above ≥ a_Below)))] rfl (by kernel_rfl) ?_
    cases b2 : (decide (a_Above ≥ a_Below) : Bool) with
    | true =>
      have h := cT b2 h
      refine XR.runS Ep_ok 1 4 [(17, .bool true)] rfl (by kernel_rfl) ?_
      refine XR.done (by kernel_rfl) ?_
      show XQ _ _ _ _ _ _ _ _
      refine XQ.cond (s := (.tmp 17)) (b := true) (by kernel_rfl) (by kernel_rfl) (fun _ => ?_) (fun q => by cases q)
      refine XQ.seq Ep_ok (by kernel_rfl) ?_
      refine XQ.region (by kernel_rfl) ?_
      refine XR.runS Ep_ok 1 1 [(2, ii 1)] rfl (by kernel_rfl) ?_
      refine XR.done (by kernel_rfl) ?_
      show XQ _ _ _ _ _ _ _ _
      refine XQ.ret (by kernel_rfl) ?_
      have h := Option.some.inj h
      subst h
      exact ⟨fun i q => (by cases q), ii 1, (by kernel_rfl), rfl⟩
    | false =>
      have h := cF b2 h
      refine XR.runS Ep_ok 1 4 [(17, .bool (decide (a_Below > 30)))] rfl (by kernel_rfl) ?_
      refine XR.done (by kernel_rfl) ?_
      show XQ _ _ _ _ _ _ _ _
      cases b3 : (decide (a_Below > 30) : Bool) with
      | true =>
        have h := cT b3 h
        refine XQ.cond (s := (.tmp 17)) (b := true) (by kernel_rfl) (by kernel_rfl) (fun _ => ?_) (fun q => by cases q)
        refine XQ.seq Ep_ok (by kernel_rfl) ?_
        refine XQ.region (by kernel_rfl) ?_
        refine XR.runS Ep_ok 1 1 [(2, ii 1)] rfl (by kernel_rfl) ?_
        refine XR.done (by kernel_rfl) ?_
        show XQ _ _ _ _ _ _ _ _
        refine XQ.ret (by kernel_rfl) ?_
        have h := Option.some.inj h
        subst h
        exact ⟨fun i q => (by cases q), ii 1, (by kernel_rfl), rfl⟩
      | false =>
        have h := cF b3 h
        refine XQ.cond (s := (.tmp 17)) (b := false) (by kernel_rfl) (by kernel_rfl) (fun q => by cases q) (fun _ => ?_)
        refine XQ.skip (by kernel_rfl) ?_
        show XQ _ _ _ _ _ _ _ _
        refine XQ.seq Ep_ok (by kernel_rfl) ?_
        refine XQ.region (by kernel_rfl) ?_
        refine XR.runS Ep_ok 1 1 [(2, ii 0)] rfl (by kernel_rfl) ?_
        refine XR.done (by kernel_rfl) ?_
        show XQ _ _ _ _ _ _ _ _
        refine XQ.ret (by kernel_rfl) ?_
        have h := Option.some.inj h
        subst h
        exact ⟨fun i q => (by cases q), ii 0, (by kernel_rfl), rfl⟩

/-! vitola/duty.common -/
noncomputable def f31_C31 : Code := Proofs.Tryz.f31.body.getD .skip

def f31 (m : Nat) : Nat → Int → Int → Option (Int)
  | 0, _, _ => none
  | fuel + 1, a, b =>
    cond (b == 0) (
      some (a)
    ) (
      cond (b != 0) (
        (f31 m fuel b (Int.tmod a b)).bind fun r1 =>
          some (r1)
      ) none
    )

theorem f31_ok (m : Nat) : ∀ (fuel : Nat) (a : Int) (b : Int) (o : Int), f31 m fuel a b = some o → ∀ (w : World), seatInv w → Calls Proofs.Tryz.prog 31 #[ii a, ii b] w fun e w' => e = .returned (ii o) ∧ Below w.heap.size w w'
  | 0, a, b, o, h, w, hI => by cases h
  | fuel + 1, a, b, o, h, w, hI => by
    refine KC.calls (E := Ep) (args := [ii a, ii b]) (v := ii o) rfl rfl (KC.bodyN Ep_ok (F := Proofs.Tryz.f31) (by kernel_rfl) (code := f31_C31) (by kernel_rfl) (nt := 13) (by kernel_rfl) (rs := [.tmp 4]) (by kernel_rfl) (by kernel_rfl) (σ := [(0, ii a), (1, ii b)]) (by kernel_rfl) ?_) w (seatInv_size hI) hI
    unfold f31 at h
    refine XQ.seq Ep_ok (by kernel_rfl) ?_
    refine XQ.region (by kernel_rfl) ?_
    refine XR.runS Ep_ok 1 1 [(0, ii a), (1, ii b)] rfl (by kernel_rfl) ?_
    refine XR.done (by kernel_rfl) ?_
    show XQ _ _ _ _ _ _ _ _
    refine XQ.seq Ep_ok (by kernel_rfl) ?_
    refine XQ.seq Ep_ok (by kernel_rfl) ?_
    refine XQ.region (by kernel_rfl) ?_
    refine XR.runS Ep_ok 1 2 [(0, ii a), (1, ii b), (6, .bool (b == 0))] rfl (by kernel_rfl) ?_
    refine XR.done (by kernel_rfl) ?_
    show XQ _ _ _ _ _ _ _ _
    cases b1 : (b == 0 : Bool) with
    | true =>
      have h := cT b1 h
      refine XQ.cond (s := (.tmp 6)) (b := true) (by kernel_rfl) (by kernel_rfl) (fun _ => ?_) (fun q => by cases q)
      refine XQ.seq Ep_ok (by kernel_rfl) ?_
      refine XQ.region (by kernel_rfl) ?_
      refine XR.runS Ep_ok 1 2 [(4, ii a)] rfl (by kernel_rfl) ?_
      refine XR.done (by kernel_rfl) ?_
      show XQ _ _ _ _ _ _ _ _
      refine XQ.ret (by kernel_rfl) ?_
      have h := Option.some.inj h
      subst h
      exact ⟨fun i q => (by cases q), ii a, (by kernel_rfl), rfl⟩
    | false =>
      have h := cF b1 h
      refine XQ.cond (s := (.tmp 6)) (b := false) (by kernel_rfl) (by kernel_rfl) (fun q => by cases q) (fun _ => ?_)
      refine XQ.skip (by kernel_rfl) ?_
      show XQ _ _ _ _ _ _ _ _
      refine XQ.seq Ep_ok (by kernel_rfl) ?_
      refine XQ.region (by kernel_rfl) ?_
      refine XR.runS Ep_ok 1 3 [(8, ii b), (9, ii a), (10, ii b)] rfl (by kernel_rfl) ?_
      cases b2 : (b != 0 : Bool) with
      | false => cases (cF b2 h)
      | true =>
        have h := cT b2 h
        have e3 : insV (headI ((gsOf Ep 13 (opsOf (lft (rgt (rgt f31_C31))))).drop 3) (trS 13 [(8, ii b), (9, ii a), (10, ii b)])) (trS 13 [(8, ii b), (9, ii a), (10, ii b)]) [] = (match (b != 0 : Bool) with | true => some (ii (Int.tmod a b)) | false => none) := by kernel_rfl
        refine XR.rd Ep_ok [8, 11] rfl (e3.trans (by rw [b2])) (σ' := [(8, ii b), (11, ii (Int.tmod a b))]) (by kernel_rfl) ?_
        obtain ⟨r1, r1_h, h⟩ := bS h
        refine XR.call Ep_ok [12] rfl (K := 31) (args := [ii b, ii (Int.tmod a b)]) (d := (some (path 12 12))) (by kernel_rfl) (KC.of_calls Ep_ok (F := Proofs.Tryz.f31) (v := ii r1) (by kernel_rfl) rfl rfl (fun w hI => f31_ok m fuel b (Int.tmod a b) r1 r1_h w hI)) ?_
        rintro _ _ _ ⟨rfl, rfl, rfl⟩
        refine XR.conv (σ' := [(12, ii r1)]) (h' := []) (c' := 0) ?_ (by kernel_rfl)
        refine XR.runS Ep_ok 1 1 [(4, ii r1)] rfl (by kernel_rfl) ?_
        refine XR.done (by kernel_rfl) ?_
        show XQ _ _ _ _ _ _ _ _
        refine XQ.ret (by kernel_rfl) ?_
        have h := Option.some.inj h
        subst h
        exact ⟨fun i q => (by cases q), ii r1, (by kernel_rfl), rfl⟩

/-! vitola/wrap.common -/
noncomputable def f38_C38 : Code := Proofs.Tryz.f38.body.getD .skip
noncomputable def f38_L1 : Code := lft (lft (lft (rgt f38_C38)))

def f38_1 (m : Nat) : Nat → Int → Int → Option Int
  | 0, _, _ => none
  | fuel + 1, x0_1, x1_1 =>
    cond (decide (x1_1 > 0)) (
      cond (x1_1 != 0) (
        f38_1 m fuel x1_1 (Int.tmod x0_1 x1_1)
      ) none
    ) (
      some (x0_1)
    )

theorem f38_1_ok (m : Nat) : ∀ (fuel : Nat) (x0_1 : Int) (x1_1 : Int) (o : Int), f38_1 m fuel x0_1 x1_1 = some o → ∀ Q : QP, Q (.exit 0) [(0, ii o)] [] 0 → XL Ep 12 0 fuel f38_L1 [(0, ii x0_1), (1, ii x1_1)] [] 0 Q
  | 0, x0_1, x1_1, o, h, Q, hQ => by cases h
  | fuel + 1, x0_1, x1_1, o, h, Q, hQ => by
    unfold f38_1 at h
    refine XL.succ Ep_ok ?_
    refine XQ.seq Ep_ok (by kernel_rfl) ?_
    refine XQ.seq Ep_ok (by kernel_rfl) ?_
    refine XQ.region (by kernel_rfl) ?_
    refine XR.runS Ep_ok 1 2 [(0, ii x0_1), (1, ii x1_1), (6, .bool (decide (x1_1 > 0)))] rfl (by kernel_rfl) ?_
    refine XR.done (by kernel_rfl) ?_
    show XQ _ _ _ _ _ _ _ _
    cases b1 : (decide (x1_1 > 0) : Bool) with
    | true =>
      have h := cT b1 h
      refine XQ.cond (s := (.tmp 6)) (b := true) (by kernel_rfl) (by kernel_rfl) (fun _ => ?_) (fun q => by cases q)
      refine XQ.skip (by kernel_rfl) ?_
      show XQ _ _ _ _ _ _ _ _
      refine XQ.block (id := 1) (by kernel_rfl) ?_
      refine XQ.quiet Ep_ok (by kernel_rfl) (by kernel_rfl) ?_
      refine XU.run Ep_ok 1 3 [7, 8, 9] rfl (σ' := [(7, ii x1_1), (8, ii x0_1), (9, ii x1_1)]) (by kernel_rfl) ?_
      cases b2 : (x1_1 != 0 : Bool) with
      | false => cases (cF b2 h)
      | true =>
        have h := cT b2 h
        have e3 : insV (headI ((gsOf Ep 12 (opsOf (lft (rgt f38_L1)))).drop 3) (trS 12 [(7, ii x1_1), (8, ii x0_1), (9, ii x1_1)])) (trS 12 [(7, ii x1_1), (8, ii x0_1), (9, ii x1_1)]) [] = (match (x1_1 != 0 : Bool) with | true => some (ii (Int.tmod x0_1 x1_1)) | false => none) := by kernel_rfl
        refine XU.rd Ep_ok [7, 10] rfl (e3.trans (by rw [b2])) (σ' := [(7, ii x1_1), (10, ii (Int.tmod x0_1 x1_1))]) (by kernel_rfl) ?_
        refine XU.run Ep_ok 1 2 [0, 1] rfl (σ' := [(0, ii x1_1), (1, ii (Int.tmod x0_1 x1_1))]) (by kernel_rfl) ?_
        refine XU.done (by kernel_rfl) ?_
        show XL _ _ _ _ _ _ _ _ _
        refine XL.ren (σ' := [(0, ii x1_1), (1, ii (Int.tmod x0_1 x1_1))]) (h' := []) (c' := 0) [] (by decide) rfl ⟨by kernel_rfl, by kernel_rfl, trivial⟩ trivial rfl ?_
        refine XL.conv (f38_1_ok m fuel x1_1 (Int.tmod x0_1 x1_1) o h Q hQ) (by first | with_reducible rfl | simp | rfl)
    | false =>
      have h := cF b1 h
      refine XQ.cond (s := (.tmp 6)) (b := false) (by kernel_rfl) (by kernel_rfl) (fun q => by cases q) (fun _ => ?_)
      refine XQ.ren (σ' := [(0, ii x0_1)]) (h' := []) (c' := 0) [] (by decide) rfl ⟨by kernel_rfl, trivial⟩ trivial rfl ?_
      refine XQ.exit (i := 0) (by kernel_rfl) ?_
      cases h
      exact hQ

def f38 (m : Nat) (a : Int) (b : Int) : Option (Int) :=
  (f38_1 m m a b).bind fun o1 =>
    some (o1)

theorem f38_ok (m : Nat) (a : Int) (b : Int) (o : Int) (h : f38 m a b = some o) (w : World) (hI : seatInv w) : Calls Proofs.Tryz.prog 38 #[ii a, ii b] w fun e w' => e = .returned (ii o) ∧ Below w.heap.size w w' := by
  refine KC.calls (E := Ep) (args := [ii a, ii b]) (v := ii o) rfl rfl (KC.bodyN Ep_ok (F := Proofs.Tryz.f38) (by kernel_rfl) (code := f38_C38) (by kernel_rfl) (nt := 12) (by kernel_rfl) (rs := [.tmp 4]) (by kernel_rfl) (by kernel_rfl) (σ := [(0, ii a), (1, ii b)]) (by kernel_rfl) ?_) w (seatInv_size hI) hI
  unfold f38 at h
  refine XQ.seq Ep_ok (by kernel_rfl) ?_
  refine XQ.region (by kernel_rfl) ?_
  refine XR.runS Ep_ok 1 1 [(0, ii a), (1, ii b)] rfl (by kernel_rfl) ?_
  refine XR.done (by kernel_rfl) ?_
  show XQ _ _ _ _ _ _ _ _
  refine XQ.seq Ep_ok (by kernel_rfl) ?_
  refine XQ.block (id := 0) (by kernel_rfl) ?_
  refine XQ.loop m (by kernel_rfl) ?_
  obtain ⟨o1, o1_h, h⟩ := bS h
  refine XL.ren (σ' := [(0, ii a), (1, ii b)]) (h' := []) (c' := 0) [] (by decide) rfl ⟨by kernel_rfl, by kernel_rfl, trivial⟩ trivial rfl ?_
  refine XL.conv (f38_1_ok m m a b o1 o1_h _ ?_) (by first | with_reducible rfl | simp | rfl)
  show XQ _ _ _ _ _ _ _ _
  refine XQ.seq Ep_ok (by kernel_rfl) ?_
  refine XQ.region (by kernel_rfl) ?_
  refine XR.runS Ep_ok 1 2 [(4, ii o1)] rfl (by kernel_rfl) ?_
  refine XR.done (by kernel_rfl) ?_
  show XQ _ _ _ _ _ _ _ _
  refine XQ.ret (by kernel_rfl) ?_
  have h := Option.some.inj h
  subst h
  exact ⟨fun i q => (by cases q), ii o1, (by kernel_rfl), rfl⟩

/-! vitola/duty.within -/
noncomputable def f29_C29 : Code := Proofs.Tryz.f29.body.getD .skip

def f29 (m : Nat) (a : Int) (b : Int) (c : Int) : Option (Bool) :=
  cond (decide (b ≤ a)) (
    some (decide (a ≤ c))
  ) (
    some (false)
  )

theorem f29_ok (m : Nat) (a : Int) (b : Int) (c : Int) (o : Bool) (h : f29 m a b c = some o) (w : World) (hI : seatInv w) : Calls Proofs.Tryz.prog 29 #[ii a, ii b, ii c] w fun e w' => e = .returned (.bool o) ∧ Below w.heap.size w w' := by
  refine KC.calls (E := Ep) (args := [ii a, ii b, ii c]) (v := .bool o) rfl rfl (KC.bodyN Ep_ok (F := Proofs.Tryz.f29) (by kernel_rfl) (code := f29_C29) (by kernel_rfl) (nt := 15) (by kernel_rfl) (rs := [.tmp 6]) (by kernel_rfl) (by kernel_rfl) (σ := [(0, ii a), (1, ii b), (2, ii c)]) (by kernel_rfl) ?_) w (seatInv_size hI) hI
  unfold f29 at h
  refine XQ.seq Ep_ok (by kernel_rfl) ?_
  refine XQ.region (by kernel_rfl) ?_
  refine XR.runS Ep_ok 1 1 [(0, ii a), (1, ii b), (2, ii c)] rfl (by kernel_rfl) ?_
  refine XR.done (by kernel_rfl) ?_
  show XQ _ _ _ _ _ _ _ _
  refine XQ.seq Ep_ok (by kernel_rfl) ?_
  refine XQ.region (by kernel_rfl) ?_
  refine XR.runS Ep_ok 1 4 [(0, ii a), (2, ii c), (10, .bool (decide (b ≤ a)))] rfl (by kernel_rfl) ?_
  cases b1 : (decide (b ≤ a) : Bool) with
  | true =>
    have h := cT b1 h
    refine XR.runS Ep_ok 1 5 [(6, .bool (decide (a ≤ c)))] rfl (by kernel_rfl) ?_
    refine XR.done (by kernel_rfl) ?_
    show XQ _ _ _ _ _ _ _ _
    refine XQ.ret (by kernel_rfl) ?_
    have h := Option.some.inj h
    subst h
    exact ⟨fun i q => (by cases q), .bool (decide (a ≤ c)), (by kernel_rfl), rfl⟩
  | false =>
    have h := cF b1 h
    refine XR.runS Ep_ok 1 5 [(6, .bool false)] rfl (by kernel_rfl) ?_
    refine XR.done (by kernel_rfl) ?_
    show XQ _ _ _ _ _ _ _ _
    refine XQ.ret (by kernel_rfl) ?_
    have h := Option.some.inj h
    subst h
    exact ⟨fun i q => (by cases q), .bool false, (by kernel_rfl), rfl⟩

/-! vitola/duty.total -/
noncomputable def f30_C30 : Code := Proofs.Tryz.f30.body.getD .skip
noncomputable def f30_L1 : Code := lft (lft (rgt (lft (rgt (rgt f30_C30)))))
noncomputable def f30_L2 : Code := lft (lft (rgt (lft (rgt (rgt (rgt f30_C30))))))

def f30_1 (m : Nat) : Nat → List Int → Int → Int → Int → Option Int
  | 0, _, _, _, _ => none
  | fuel + 1, a, x3_1, x9_1, x10_1 =>
    cond (decide (x10_1 < x9_1)) (
      cond (inRow x10_1 a.length) (
        f30_1 m fuel a (w64 (x3_1 * (List.getD a (Int.toNat x10_1) 0))) x9_1 (w64 (x10_1 + 1))
      ) none
    ) (
      some (x3_1)
    )

theorem f30_1_ok (m : Nat) : ∀ (fuel : Nat) (z0 : Nat) (y0 : Nat) (a : List Int) (x3_1 : Int) (x9_1 : Int) (x10_1 : Int) (o : Int), f30_1 m fuel a x3_1 x9_1 x10_1 = some o → ∀ Q : QP, Q (.exit 0) [(0, s0 0 a.length), (2, ii 0), (3, ii o)] [(0, rc (encI .i64) a z0 y0 1)] 1 → XL Ep 32 1 fuel f30_L1 [(0, s0 0 a.length), (2, ii 0), (3, ii x3_1), (8, s0 0 a.length), (9, ii x9_1), (10, ii x10_1)] [(0, rc (encI .i64) a z0 y0 1)] 1 Q
  | 0, z0, y0, a, x3_1, x9_1, x10_1, o, h, Q, hQ => by cases h
  | fuel + 1, z0, y0, a, x3_1, x9_1, x10_1, o, h, Q, hQ => by
    unfold f30_1 at h
    refine XL.succ Ep_ok ?_
    refine XQ.seq Ep_ok (by kernel_rfl) ?_
    refine XQ.region (by kernel_rfl) ?_
    refine XR.runS Ep_ok 1 1 [(0, s0 0 a.length), (2, ii 0), (3, ii x3_1), (8, s0 0 a.length), (9, ii x9_1), (10, ii x10_1), (11, .bool (decide (x10_1 < x9_1)))] rfl (by kernel_rfl) ?_
    refine XR.done (by kernel_rfl) ?_
    show XQ _ _ _ _ _ _ _ _
    refine XQ.seq Ep_ok (by kernel_rfl) ?_
    cases b1 : (decide (x10_1 < x9_1) : Bool) with
    | true =>
      have h := cT b1 h
      refine XQ.cond (s := (.tmp 11)) (b := true) (by kernel_rfl) (by kernel_rfl) (fun _ => ?_) (fun q => by cases q)
      refine XQ.skip (by kernel_rfl) ?_
      show XQ _ _ _ _ _ _ _ _
      refine XQ.seq Ep_ok (by kernel_rfl) ?_
      refine XQ.block (id := 1) (by kernel_rfl) ?_
      refine XQ.seq Ep_ok (by kernel_rfl) ?_
      refine XQ.region (by kernel_rfl) ?_
      cases b2 : (inRow x10_1 a.length : Bool) with
      | false => cases (cF b2 h)
      | true =>
        have h := cT b2 h
        refine XR.rd Ep_ok [0, 2, 3, 8, 9, 10, 12] rfl (v := pp 0 ((Int.toNat x10_1) * 1)) (v_idx (s := 1) (x := (src 32 (.tmp 8))) (y := (src 32 (.tmp 10))) (b := 0) (o := 0) (len := a.length) (cap := a.length) (ik := .i64) (i := x10_1) (off := (Int.toNat x10_1) * 1) (d := (some (path 12 12))) (by kernel_rfl) (by kernel_rfl) (by kernel_rfl) b2 (by omega)) (σ' := [(0, s0 0 a.length), (2, ii 0), (3, ii x3_1), (8, s0 0 a.length), (9, ii x9_1), (10, ii x10_1), (12, pp 0 ((Int.toNat x10_1) * 1))]) (by kernel_rfl) ?_
        refine XR.rd Ep_ok [0, 2, 3, 8, 9, 10, 13] rfl (v := ii (List.getD a (Int.toNat x10_1) 0)) (v_load1 (encI_ok .i64) (x := (src 32 (.tmp 12))) (b := 0) (off := (Int.toNat x10_1) * 1) (xs := a) (fz := z0) (e := y0) (es := 1) (d := (some (path 12 13))) (by kernel_rfl) (by kernel_rfl) (by kernel_rfl) (Int.toNat x10_1) 0 0 (by first | with_reducible rfl | omega | rfl) (row_len (inRow_toNat b2) (by simp)) rfl rfl) (σ' := [(0, s0 0 a.length), (2, ii 0), (3, ii x3_1), (8, s0 0 a.length), (9, ii x9_1), (10, ii x10_1), (13, ii (List.getD a (Int.toNat x10_1) 0))]) (by kernel_rfl) ?_
        refine XR.runS Ep_ok 1 1 [(0, s0 0 a.length), (2, ii 0), (3, ii x3_1), (5, ii (List.getD a (Int.toNat x10_1) 0)), (8, s0 0 a.length), (9, ii x9_1), (10, ii x10_1)] rfl (by kernel_rfl) ?_
        refine XR.done (by kernel_rfl) ?_
        show XQ _ _ _ _ _ _ _ _
        refine XQ.region (by kernel_rfl) ?_
        refine XR.runS Ep_ok 1 4 [(0, s0 0 a.length), (2, ii 0), (3, ii (w64 (x3_1 * (List.getD a (Int.toNat x10_1) 0)))), (8, s0 0 a.length), (9, ii x9_1), (10, ii x10_1)] rfl (by kernel_rfl) ?_
        refine XR.done (by kernel_rfl) ?_
        show XQ _ _ _ _ _ _ _ _
        refine XQ.region (by kernel_rfl) ?_
        refine XR.runS Ep_ok 1 2 [(0, s0 0 a.length), (2, ii 0), (3, ii (w64 (x3_1 * (List.getD a (Int.toNat x10_1) 0)))), (8, s0 0 a.length), (9, ii x9_1), (10, ii (w64 (x10_1 + 1)))] rfl (by kernel_rfl) ?_
        refine XR.done (by kernel_rfl) ?_
        show XL _ _ _ _ _ _ _ _ _
        refine XL.ren (σ' := [(0, s0 0 a.length), (2, ii 0), (3, ii (w64 (x3_1 * (List.getD a (Int.toNat x10_1) 0)))), (8, s0 0 a.length), (9, ii x9_1), (10, ii (w64 (x10_1 + 1)))]) (h' := [(0, rc (encI .i64) a z0 y0 1)]) (c' := 1) [0] (by decide) rfl ⟨by kernel_rfl, by kernel_rfl, by kernel_rfl, by kernel_rfl, by kernel_rfl, by kernel_rfl, trivial⟩ ⟨⟨_, _, rfl, rfl, .inl ⟨rfl, rowC_scal (encI_ok .i64) _⟩⟩, trivial⟩ rfl ?_
        refine XL.conv (f30_1_ok m fuel z0 y0 a (w64 (x3_1 * (List.getD a (Int.toNat x10_1) 0))) x9_1 (w64 (x10_1 + 1)) o h Q hQ) (by first | with_reducible rfl | simp | rfl)
    | false =>
      have h := cF b1 h
      refine XQ.cond (s := (.tmp 11)) (b := false) (by kernel_rfl) (by kernel_rfl) (fun q => by cases q) (fun _ => ?_)
      refine XQ.ren (σ' := [(0, s0 0 a.length), (2, ii 0), (3, ii x3_1)]) (h' := [(0, rc (encI .i64) a z0 y0 1)]) (c' := 1) [0] (by decide) rfl ⟨by kernel_rfl, by kernel_rfl, by kernel_rfl, trivial⟩ ⟨⟨_, _, rfl, rfl, .inl ⟨rfl, rowC_scal (encI_ok .i64) _⟩⟩, trivial⟩ rfl ?_
      refine XQ.exit (i := 0) (by kernel_rfl) ?_
      cases h
      exact hQ

def f30_2 (m : Nat) : Nat → List Int → Int → Int → Int → Int → Option Int
  | 0, _, _, _, _, _ => none
  | fuel + 1, a, o1, x2_2, x19_2, x20_2 =>
    cond (decide (x20_2 < x19_2)) (
      cond (inRow x20_2 a.length) (
        cond ((List.getD a (Int.toNat x20_2) 0) != 0) (
          f30_2 m fuel a o1 (w64 (x2_2 + (w64 (Int.tdiv o1 (List.getD a (Int.toNat x20_2) 0))))) x19_2 (w64 (x20_2 + 1))
        ) none
      ) none
    ) (
      some (x2_2)
    )

theorem f30_2_ok (m : Nat) : ∀ (fuel : Nat) (z0 : Nat) (y0 : Nat) (a : List Int) (o1 : Int) (x2_2 : Int) (x19_2 : Int) (x20_2 : Int) (o : Int), f30_2 m fuel a o1 x2_2 x19_2 x20_2 = some o → ∀ Q : QP, Q (.exit 2) [(2, ii o), (3, ii o1)] [(0, rc (encI .i64) a z0 y0 1)] 1 → XL Ep 32 1 fuel f30_L2 [(2, ii x2_2), (3, ii o1), (18, s0 0 a.length), (19, ii x19_2), (20, ii x20_2)] [(0, rc (encI .i64) a z0 y0 1)] 1 Q
  | 0, z0, y0, a, o1, x2_2, x19_2, x20_2, o, h, Q, hQ => by cases h
  | fuel + 1, z0, y0, a, o1, x2_2, x19_2, x20_2, o, h, Q, hQ => by
    unfold f30_2 at h
    refine XL.succ Ep_ok ?_
    refine XQ.seq Ep_ok (by kernel_rfl) ?_
    refine XQ.region (by kernel_rfl) ?_
    refine XR.runS Ep_ok 1 1 [(2, ii x2_2), (3, ii o1), (18, s0 0 a.length), (19, ii x19_2), (20, ii x20_2), (21, .bool (decide (x20_2 < x19_2)))] rfl (by kernel_rfl) ?_
    refine XR.done (by kernel_rfl) ?_
    show XQ _ _ _ _ _ _ _ _
    refine XQ.seq Ep_ok (by kernel_rfl) ?_
    cases b1 : (decide (x20_2 < x19_2) : Bool) with
    | true =>
      have h := cT b1 h
      refine XQ.cond (s := (.tmp 21)) (b := true) (by kernel_rfl) (by kernel_rfl) (fun _ => ?_) (fun q => by cases q)
      refine XQ.skip (by kernel_rfl) ?_
      show XQ _ _ _ _ _ _ _ _
      refine XQ.seq Ep_ok (by kernel_rfl) ?_
      refine XQ.block (id := 3) (by kernel_rfl) ?_
      refine XQ.seq Ep_ok (by kernel_rfl) ?_
      refine XQ.region (by kernel_rfl) ?_
      cases b2 : (inRow x20_2 a.length : Bool) with
      | false => cases (cF b2 h)
      | true =>
        have h := cT b2 h
        refine XR.rd Ep_ok [2, 3, 18, 19, 20, 22] rfl (v := pp 0 ((Int.toNat x20_2) * 1)) (v_idx (s := 1) (x := (src 32 (.tmp 18))) (y := (src 32 (.tmp 20))) (b := 0) (o := 0) (len := a.length) (cap := a.length) (ik := .i64) (i := x20_2) (off := (Int.toNat x20_2) * 1) (d := (some (path 12 22))) (by kernel_rfl) (by kernel_rfl) (by kernel_rfl) b2 (by omega)) (σ' := [(2, ii x2_2), (3, ii o1), (18, s0 0 a.length), (19, ii x19_2), (20, ii x20_2), (22, pp 0 ((Int.toNat x20_2) * 1))]) (by kernel_rfl) ?_
        refine XR.rd Ep_ok [2, 3, 18, 19, 20, 23] rfl (v := ii (List.getD a (Int.toNat x20_2) 0)) (v_load1 (encI_ok .i64) (x := (src 32 (.tmp 22))) (b := 0) (off := (Int.toNat x20_2) * 1) (xs := a) (fz := z0) (e := y0) (es := 1) (d := (some (path 12 23))) (by kernel_rfl) (by kernel_rfl) (by kernel_rfl) (Int.toNat x20_2) 0 0 (by first | with_reducible rfl | omega | rfl) (row_len (inRow_toNat b2) (by simp)) rfl rfl) (σ' := [(2, ii x2_2), (3, ii o1), (18, s0 0 a.length), (19, ii x19_2), (20, ii x20_2), (23, ii (List.getD a (Int.toNat x20_2) 0))]) (by kernel_rfl) ?_
        refine XR.runS Ep_ok 1 1 [(2, ii x2_2), (3, ii o1), (7, ii (List.getD a (Int.toNat x20_2) 0)), (18, s0 0 a.length), (19, ii x19_2), (20, ii x20_2)] rfl (by kernel_rfl) ?_
        refine XR.done (by kernel_rfl) ?_
        show XQ _ _ _ _ _ _ _ _
        refine XQ.region (by kernel_rfl) ?_
        refine XR.runS Ep_ok 1 3 [(3, ii o1), (18, s0 0 a.length), (19, ii x19_2), (20, ii x20_2), (24, ii x2_2), (25, ii o1), (26, ii (List.getD a (Int.toNat x20_2) 0))] rfl (by kernel_rfl) ?_
        cases b3 : ((List.getD a (Int.toNat x20_2) 0) != 0 : Bool) with
        | false => cases (cF b3 h)
        | true =>
          have h := cT b3 h
          have e4 : insV (headI ((gsOf Ep 32 (opsOf (rgt (lft (lft (rgt (rgt f30_L2))))))).drop 3) (trS 32 [(3, ii o1), (18, s0 0 a.length), (19, ii x19_2), (20, ii x20_2), (24, ii x2_2), (25, ii o1), (26, ii (List.getD a (Int.toNat x20_2) 0))])) (trS 32 [(3, ii o1), (18, s0 0 a.length), (19, ii x19_2), (20, ii x20_2), (24, ii x2_2), (25, ii o1), (26, ii (List.getD a (Int.toNat x20_2) 0))]) [(0, rc (encI .i64) a z0 y0 1)] = (match ((List.getD a (Int.toNat x20_2) 0) != 0 : Bool) with | true => some (ii (w64 (Int.tdiv o1 (List.getD a (Int.toNat x20_2) 0)))) | false => none) := by kernel_rfl
          refine XR.rd Ep_ok [3, 18, 19, 20, 24, 27] rfl (e4.trans (by rw [b3])) (σ' := [(3, ii o1), (18, s0 0 a.length), (19, ii x19_2), (20, ii x20_2), (24, ii x2_2), (27, ii (w64 (Int.tdiv o1 (List.getD a (Int.toNat x20_2) 0))))]) (by kernel_rfl) ?_
          refine XR.runS Ep_ok 1 2 [(2, ii (w64 (x2_2 + (w64 (Int.tdiv o1 (List.getD a (Int.toNat x20_2) 0)))))), (3, ii o1), (18, s0 0 a.length), (19, ii x19_2), (20, ii x20_2)] rfl (by kernel_rfl) ?_
          refine XR.done (by kernel_rfl) ?_
          show XQ _ _ _ _ _ _ _ _
          refine XQ.region (by kernel_rfl) ?_
          refine XR.runS Ep_ok 1 2 [(2, ii (w64 (x2_2 + (w64 (Int.tdiv o1 (List.getD a (Int.toNat x20_2) 0)))))), (3, ii o1), (18, s0 0 a.length), (19, ii x19_2), (20, ii (w64 (x20_2 + 1)))] rfl (by kernel_rfl) ?_
          refine XR.done (by kernel_rfl) ?_
          show XL _ _ _ _ _ _ _ _ _
          refine XL.ren (σ' := [(2, ii (w64 (x2_2 + (w64 (Int.tdiv o1 (List.getD a (Int.toNat x20_2) 0)))))), (3, ii o1), (18, s0 0 a.length), (19, ii x19_2), (20, ii (w64 (x20_2 + 1)))]) (h' := [(0, rc (encI .i64) a z0 y0 1)]) (c' := 1) [0] (by decide) rfl ⟨by kernel_rfl, by kernel_rfl, by kernel_rfl, by kernel_rfl, by kernel_rfl, trivial⟩ ⟨⟨_, _, rfl, rfl, .inl ⟨rfl, rowC_scal (encI_ok .i64) _⟩⟩, trivial⟩ rfl ?_
          refine XL.conv (f30_2_ok m fuel z0 y0 a o1 (w64 (x2_2 + (w64 (Int.tdiv o1 (List.getD a (Int.toNat x20_2) 0))))) x19_2 (w64 (x20_2 + 1)) o h Q hQ) (by first | with_reducible rfl | simp | rfl)
    | false =>
      have h := cF b1 h
      refine XQ.cond (s := (.tmp 21)) (b := false) (by kernel_rfl) (by kernel_rfl) (fun q => by cases q) (fun _ => ?_)
      refine XQ.ren (σ' := [(2, ii x2_2), (3, ii o1)]) (h' := [(0, rc (encI .i64) a z0 y0 1)]) (c' := 1) [0] (by decide) rfl ⟨by kernel_rfl, by kernel_rfl, trivial⟩ ⟨⟨_, _, rfl, rfl, .inl ⟨rfl, rowC_scal (encI_ok .i64) _⟩⟩, trivial⟩ rfl ?_
      refine XQ.exit (i := 2) (by kernel_rfl) ?_
      cases h
      exact hQ

def f30 (m : Nat) (a : List Int) : Option (Int × Int) :=
  (f30_1 m m a 1 ((a.length : Nat) : Int) 0).bind fun o1 =>
    (f30_2 m m a o1 0 ((a.length : Nat) : Int) 0).bind fun o2 =>
      some (o2, o1)

theorem f30_ok (m : Nat) (z0 : Nat) (y0 : Nat) (a : List Int) (o : Int × Int) (h : f30 m a = some o) : KC Ep 30 [s0 0 a.length] [(0, rc (encI .i64) a z0 y0 1)] 1 (fun v _ _ => v = .tuple #[ii o.1, ii o.2]) := by
  refine KC.bodyN Ep_ok (F := Proofs.Tryz.f30) (by kernel_rfl) (code := f30_C30) (by kernel_rfl) (nt := 32) (by kernel_rfl) (rs := [.tmp 2, .tmp 3]) (by kernel_rfl) (by kernel_rfl) (σ := [(0, s0 0 a.length)]) (by kernel_rfl) ?_
  unfold f30 at h
  refine XQ.seq Ep_ok (by kernel_rfl) ?_
  refine XQ.region (by kernel_rfl) ?_
  refine XR.runS Ep_ok 1 2 [(0, s0 0 a.length), (2, ii 0)] rfl (by kernel_rfl) ?_
  refine XR.done (by kernel_rfl) ?_
  show XQ _ _ _ _ _ _ _ _
  refine XQ.seq Ep_ok (by kernel_rfl) ?_
  refine XQ.region (by kernel_rfl) ?_
  refine XR.runS Ep_ok 1 1 [(0, s0 0 a.length), (2, ii 0), (3, ii 1)] rfl (by kernel_rfl) ?_
  refine XR.done (by kernel_rfl) ?_
  show XQ _ _ _ _ _ _ _ _
  refine XQ.seq Ep_ok (by kernel_rfl) ?_
  refine XQ.seq Ep_ok (by kernel_rfl) ?_
  refine XQ.region (by kernel_rfl) ?_
  refine XR.runS Ep_ok 1 3 [(0, s0 0 a.length), (2, ii 0), (3, ii 1), (8, s0 0 a.length), (9, ii ((a.length : Nat) : Int)), (10, ii 0)] rfl (by kernel_rfl) ?_
  refine XR.done (by kernel_rfl) ?_
  show XQ _ _ _ _ _ _ _ _
  refine XQ.block (id := 0) (by kernel_rfl) ?_
  refine XQ.loop m (by kernel_rfl) ?_
  obtain ⟨o1, o1_h, h⟩ := bS h
  refine XL.ren (σ' := [(0, s0 0 a.length), (2, ii 0), (3, ii 1), (8, s0 0 a.length), (9, ii ((a.length : Nat) : Int)), (10, ii 0)]) (h' := [(0, rc (encI .i64) a z0 y0 1)]) (c' := 1) [0] (by decide) rfl ⟨by kernel_rfl, by kernel_rfl, by kernel_rfl, by kernel_rfl, by kernel_rfl, by kernel_rfl, trivial⟩ ⟨⟨_, _, rfl, rfl, .inl ⟨rfl, rowC_scal (encI_ok .i64) _⟩⟩, trivial⟩ rfl ?_
  refine XL.conv (f30_1_ok m m z0 y0 a 1 ((a.length : Nat) : Int) 0 o1 o1_h _ ?_) (by first | with_reducible rfl | simp | rfl)
  show XQ _ _ _ _ _ _ _ _
  refine XQ.seq Ep_ok (by kernel_rfl) ?_
  refine XQ.seq Ep_ok (by kernel_rfl) ?_
  refine XQ.region (by kernel_rfl) ?_
  refine XR.runS Ep_ok 1 3 [(2, ii 0), (3, ii o1), (18, s0 0 a.length), (19, ii ((a.length : Nat) : Int)), (20, ii 0)] rfl (by kernel_rfl) ?_
  refine XR.done (by kernel_rfl) ?_
  show XQ _ _ _ _ _ _ _ _
  refine XQ.block (id := 2) (by kernel_rfl) ?_
  refine XQ.loop m (by kernel_rfl) ?_
  obtain ⟨o2, o2_h, h⟩ := bS h
  refine XL.ren (σ' := [(2, ii 0), (3, ii o1), (18, s0 0 a.length), (19, ii ((a.length : Nat) : Int)), (20, ii 0)]) (h' := [(0, rc (encI .i64) a z0 y0 1)]) (c' := 1) [0] (by decide) rfl ⟨by kernel_rfl, by kernel_rfl, by kernel_rfl, by kernel_rfl, by kernel_rfl, trivial⟩ ⟨⟨_, _, rfl, rfl, .inl ⟨rfl, rowC_scal (encI_ok .i64) _⟩⟩, trivial⟩ rfl ?_
  refine XL.conv (f30_2_ok m m z0 y0 a o1 0 ((a.length : Nat) : Int) 0 o2 o2_h _ ?_) (by first | with_reducible rfl | simp | rfl)
  show XQ _ _ _ _ _ _ _ _
  refine XQ.seq Ep_ok (by kernel_rfl) ?_
  refine XQ.region (by kernel_rfl) ?_
  refine XR.runS Ep_ok 1 4 [(2, ii o2), (3, ii o1)] rfl (by kernel_rfl) ?_
  refine XR.done (by kernel_rfl) ?_
  show XQ _ _ _ _ _ _ _ _
  refine XQ.ret (by kernel_rfl) ?_
  have h := Option.some.inj h
  subst h
  exact ⟨fun i q => (by cases q), .tuple #[ii o2, ii o1], (by kernel_rfl), rfl⟩

/-! vitola/duty.CheckParts -/
noncomputable def f14_C14 : Code := Proofs.Tryz.f14.body.getD .skip
noncomputable def f14_L1 : Code := lft (lft (rgt (lft (rgt (rgt (rgt f14_C14))))))

inductive Of14_1 where
  | r (x2_r1 : Int)
  | x0

def f14_1 (m : Nat) : Nat → List Int → Int → Int → Int → Option Of14_1
  | 0, _, _, _, _ => none
  | fuel + 1, a, x3_1, x10_1, x11_1 =>
    cond (decide (x11_1 < x10_1)) (
      cond (inRow x11_1 a.length) (
        (f29 m (List.getD a (Int.toNat x11_1) 0) 2 2000).bind fun r3 =>
          cond (!r3) (
            some (.r 1)
          ) (
            cond (decide ((List.getD a (Int.toNat x11_1) 0) ≤ x3_1)) (
              some (.r 7)
            ) (
              f14_1 m fuel a (List.getD a (Int.toNat x11_1) 0) x10_1 (w64 (x11_1 + 1))
            )
          )
      ) none
    ) (
      some (.x0)
    )

theorem f14_1_ok (m : Nat) : ∀ (fuel : Nat) (z0 : Nat) (y0 : Nat) (a : List Int) (x3_1 : Int) (x10_1 : Int) (x11_1 : Int) (o : Of14_1), f14_1 m fuel a x3_1 x10_1 x11_1 = some o → ∀ Q : QP, (match o with | .r x2_r1 => Q .ret [(2, ii x2_r1)] [(0, rc (encI .i64) a z0 y0 1)] 1 | .x0 => Q (.exit 0) [] [(0, rc (encI .i64) a z0 y0 1)] 1) → XL Ep 25 1 fuel f14_L1 [(3, ii x3_1), (9, s0 0 a.length), (10, ii x10_1), (11, ii x11_1)] [(0, rc (encI .i64) a z0 y0 1)] 1 Q
  | 0, z0, y0, a, x3_1, x10_1, x11_1, o, h, Q, hQ => by cases h
  | fuel + 1, z0, y0, a, x3_1, x10_1, x11_1, o, h, Q, hQ => by
    unfold f14_1 at h
    refine XL.succ Ep_ok ?_
    refine XQ.seq Ep_ok (by kernel_rfl) ?_
    refine XQ.region (by kernel_rfl) ?_
    refine XR.runS Ep_ok 1 1 [(3, ii x3_1), (9, s0 0 a.length), (10, ii x10_1), (11, ii x11_1), (12, .bool (decide (x11_1 < x10_1)))] rfl (by kernel_rfl) ?_
    refine XR.done (by kernel_rfl) ?_
    show XQ _ _ _ _ _ _ _ _
    refine XQ.seq Ep_ok (by kernel_rfl) ?_
    cases b1 : (decide (x11_1 < x10_1) : Bool) with
    | true =>
      have h := cT b1 h
      refine XQ.cond (s := (.tmp 12)) (b := true) (by kernel_rfl) (by kernel_rfl) (fun _ => ?_) (fun q => by cases q)
      refine XQ.skip (by kernel_rfl) ?_
      show XQ _ _ _ _ _ _ _ _
      refine XQ.seq Ep_ok (by kernel_rfl) ?_
      refine XQ.block (id := 1) (by kernel_rfl) ?_
      refine XQ.seq Ep_ok (by kernel_rfl) ?_
      refine XQ.region (by kernel_rfl) ?_
      cases b2 : (inRow x11_1 a.length : Bool) with
      | false => cases (cF b2 h)
      | true =>
        have h := cT b2 h
        refine XR.rd Ep_ok [3, 9, 10, 11, 13] rfl (v := pp 0 ((Int.toNat x11_1) * 1)) (v_idx (s := 1) (x := (src 25 (.tmp 9))) (y := (src 25 (.tmp 11))) (b := 0) (o := 0) (len := a.length) (cap := a.length) (ik := .i64) (i := x11_1) (off := (Int.toNat x11_1) * 1) (d := (some (path 12 13))) (by kernel_rfl) (by kernel_rfl) (by kernel_rfl) b2 (by omega)) (σ' := [(3, ii x3_1), (9, s0 0 a.length), (10, ii x10_1), (11, ii x11_1), (13, pp 0 ((Int.toNat x11_1) * 1))]) (by kernel_rfl) ?_
        refine XR.rd Ep_ok [3, 9, 10, 11, 14] rfl (v := ii (List.getD a (Int.toNat x11_1) 0)) (v_load1 (encI_ok .i64) (x := (src 25 (.tmp 13))) (b := 0) (off := (Int.toNat x11_1) * 1) (xs := a) (fz := z0) (e := y0) (es := 1) (d := (some (path 12 14))) (by kernel_rfl) (by kernel_rfl) (by kernel_rfl) (Int.toNat x11_1) 0 0 (by first | with_reducible rfl | omega | rfl) (row_len (inRow_toNat b2) (by simp)) rfl rfl) (σ' := [(3, ii x3_1), (9, s0 0 a.length), (10, ii x10_1), (11, ii x11_1), (14, ii (List.getD a (Int.toNat x11_1) 0))]) (by kernel_rfl) ?_
        refine XR.runS Ep_ok 1 1 [(3, ii x3_1), (5, ii (List.getD a (Int.toNat x11_1) 0)), (9, s0 0 a.length), (10, ii x10_1), (11, ii x11_1)] rfl (by kernel_rfl) ?_
        refine XR.done (by kernel_rfl) ?_
        show XQ _ _ _ _ _ _ _ _
        refine XQ.seq Ep_ok (by kernel_rfl) ?_
        refine XQ.block (id := 2) (by kernel_rfl) ?_
        refine XQ.seq Ep_ok (by kernel_rfl) ?_
        refine XQ.region (by kernel_rfl) ?_
        refine XR.runS Ep_ok 1 1 [(3, ii x3_1), (5, ii (List.getD a (Int.toNat x11_1) 0)), (9, s0 0 a.length), (10, ii x10_1), (11, ii x11_1), (16, ii (List.getD a (Int.toNat x11_1) 0))] rfl (by kernel_rfl) ?_
        obtain ⟨r3, r3_h, h⟩ := bS h
        refine XR.call Ep_ok [3, 5, 9, 10, 11, 17] rfl (K := 29) (args := [ii (List.getD a (Int.toNat x11_1) 0), ii 2, ii 2000]) (d := (some (path 12 17))) (by kernel_rfl) (KC.of_calls Ep_ok (F := Proofs.Tryz.f29) (v := .bool r3) (by kernel_rfl) rfl rfl (fun w hI => f29_ok m (List.getD a (Int.toNat x11_1) 0) 2 2000 r3 r3_h w hI)) ?_
        rintro _ _ _ ⟨rfl, rfl, rfl⟩
        refine XR.conv (σ' := [(3, ii x3_1), (5, ii (List.getD a (Int.toNat x11_1) 0)), (9, s0 0 a.length), (10, ii x10_1), (11, ii x11_1), (17, .bool r3)]) (h' := [(0, rc (encI .i64) a z0 y0 1)]) (c' := 1) ?_ (by kernel_rfl)
        refine XR.runS Ep_ok 1 2 [(3, ii x3_1), (5, ii (List.getD a (Int.toNat x11_1) 0)), (9, s0 0 a.length), (10, ii x10_1), (11, ii x11_1), (15, .bool (!r3))] rfl (by kernel_rfl) ?_
        refine XR.done (by kernel_rfl) ?_
        show XQ _ _ _ _ _ _ _ _
        cases b3 : (!r3 : Bool) with
        | true =>
          have h := cT b3 h
          refine XQ.cond (s := (.tmp 15)) (b := true) (by kernel_rfl) (by kernel_rfl) (fun _ => ?_) (fun q => by cases q)
          refine XQ.seq Ep_ok (by kernel_rfl) ?_
          refine XQ.region (by kernel_rfl) ?_
          refine XR.runS Ep_ok 1 1 [(2, ii 1)] rfl (by kernel_rfl) ?_
          refine XR.done (by kernel_rfl) ?_
          show XQ _ _ _ _ _ _ _ _
          refine XQ.ren (σ' := [(2, ii 1)]) (h' := [(0, rc (encI .i64) a z0 y0 1)]) (c' := 1) [0] (by decide) rfl ⟨by kernel_rfl, trivial⟩ ⟨⟨_, _, rfl, rfl, .inl ⟨rfl, rowC_scal (encI_ok .i64) _⟩⟩, trivial⟩ rfl ?_
          refine XQ.ret (by kernel_rfl) ?_
          cases h
          exact hQ
        | false =>
          have h := cF b3 h
          refine XQ.cond (s := (.tmp 15)) (b := false) (by kernel_rfl) (by kernel_rfl) (fun q => by cases q) (fun _ => ?_)
          refine XQ.seq Ep_ok (by kernel_rfl) ?_
          refine XQ.region (by kernel_rfl) ?_
          refine XR.runS Ep_ok 1 4 [(5, ii (List.getD a (Int.toNat x11_1) 0)), (9, s0 0 a.length), (10, ii x10_1), (11, ii x11_1), (19, .bool (decide ((List.getD a (Int.toNat x11_1) 0) ≤ x3_1)))] rfl (by kernel_rfl) ?_
          refine XR.done (by kernel_rfl) ?_
          show XQ _ _ _ _ _ _ _ _
          cases b4 : (decide ((List.getD a (Int.toNat x11_1) 0) ≤ x3_1) : Bool) with
          | true =>
            have h := cT b4 h
            refine XQ.cond (s := (.tmp 19)) (b := true) (by kernel_rfl) (by kernel_rfl) (fun _ => ?_) (fun q => by cases q)
            refine XQ.seq Ep_ok (by kernel_rfl) ?_
            refine XQ.region (by kernel_rfl) ?_
            refine XR.runS Ep_ok 1 1 [(2, ii 7)] rfl (by kernel_rfl) ?_
            refine XR.done (by kernel_rfl) ?_
            show XQ _ _ _ _ _ _ _ _
            refine XQ.ren (σ' := [(2, ii 7)]) (h' := [(0, rc (encI .i64) a z0 y0 1)]) (c' := 1) [0] (by decide) rfl ⟨by kernel_rfl, trivial⟩ ⟨⟨_, _, rfl, rfl, .inl ⟨rfl, rowC_scal (encI_ok .i64) _⟩⟩, trivial⟩ rfl ?_
            refine XQ.ret (by kernel_rfl) ?_
            cases h
            exact hQ
          | false =>
            have h := cF b4 h
            refine XQ.cond (s := (.tmp 19)) (b := false) (by kernel_rfl) (by kernel_rfl) (fun q => by cases q) (fun _ => ?_)
            refine XQ.skip (by kernel_rfl) ?_
            show XQ _ _ _ _ _ _ _ _
            refine XQ.region (by kernel_rfl) ?_
            refine XR.runS Ep_ok 1 2 [(3, ii (List.getD a (Int.toNat x11_1) 0)), (9, s0 0 a.length), (10, ii x10_1), (11, ii x11_1)] rfl (by kernel_rfl) ?_
            refine XR.done (by kernel_rfl) ?_
            show XQ _ _ _ _ _ _ _ _
            refine XQ.region (by kernel_rfl) ?_
            refine XR.runS Ep_ok 1 2 [(3, ii (List.getD a (Int.toNat x11_1) 0)), (9, s0 0 a.length), (10, ii x10_1), (11, ii (w64 (x11_1 + 1)))] rfl (by kernel_rfl) ?_
            refine XR.done (by kernel_rfl) ?_
            show XL _ _ _ _ _ _ _ _ _
            refine XL.ren (σ' := [(3, ii (List.getD a (Int.toNat x11_1) 0)), (9, s0 0 a.length), (10, ii x10_1), (11, ii (w64 (x11_1 + 1)))]) (h' := [(0, rc (encI .i64) a z0 y0 1)]) (c' := 1) [0] (by decide) rfl ⟨by kernel_rfl, by kernel_rfl, by kernel_rfl, by kernel_rfl, trivial⟩ ⟨⟨_, _, rfl, rfl, .inl ⟨rfl, rowC_scal (encI_ok .i64) _⟩⟩, trivial⟩ rfl ?_
            refine XL.conv (f14_1_ok m fuel z0 y0 a (List.getD a (Int.toNat x11_1) 0) x10_1 (w64 (x11_1 + 1)) o h Q hQ) (by first | with_reducible rfl | simp | rfl)
    | false =>
      have h := cF b1 h
      refine XQ.cond (s := (.tmp 12)) (b := false) (by kernel_rfl) (by kernel_rfl) (fun q => by cases q) (fun _ => ?_)
      refine XQ.ren (σ' := []) (h' := [(0, rc (encI .i64) a z0 y0 1)]) (c' := 1) [0] (by decide) rfl trivial ⟨⟨_, _, rfl, rfl, .inl ⟨rfl, rowC_scal (encI_ok .i64) _⟩⟩, trivial⟩ rfl ?_
      refine XQ.exit (i := 0) (by kernel_rfl) ?_
      cases h
      exact hQ

def f14 (m : Nat) (a : List Int) : Option (Int) :=
  cond (decide (((a.length : Nat) : Int) > 4)) (
    some (3)
  ) (
    (f14_1 m m a 0 ((a.length : Nat) : Int) 0).bind fun o1 =>
      match o1 with
      | .r x2_r1 =>
        some (x2_r1)
      | .x0 =>
        some (0)
  )

theorem f14_ok (m : Nat) (z0 : Nat) (y0 : Nat) (a : List Int) (o : Int) (h : f14 m a = some o) : KC Ep 14 [s0 0 a.length] [(0, rc (encI .i64) a z0 y0 1)] 1 (fun v _ _ => v = ii o) := by
  refine KC.bodyN Ep_ok (F := Proofs.Tryz.f14) (by kernel_rfl) (code := f14_C14) (by kernel_rfl) (nt := 25) (by kernel_rfl) (rs := [.tmp 2]) (by kernel_rfl) (by kernel_rfl) (σ := [(0, s0 0 a.length)]) (by kernel_rfl) ?_
  unfold f14 at h
  refine XQ.seq Ep_ok (by kernel_rfl) ?_
  refine XQ.region (by kernel_rfl) ?_
  refine XR.runS Ep_ok 1 1 [(0, s0 0 a.length)] rfl (by kernel_rfl) ?_
  refine XR.done (by kernel_rfl) ?_
  show XQ _ _ _ _ _ _ _ _
  refine XQ.seq Ep_ok (by kernel_rfl) ?_
  refine XQ.seq Ep_ok (by kernel_rfl) ?_
  refine XQ.region (by kernel_rfl) ?_
  refine XR.runS Ep_ok 1 3 [(0, s0 0 a.length), (8, .bool (decide (((a.length : Nat) : Int) > 4)))] rfl (by kernel_rfl) ?_
  refine XR.done (by kernel_rfl) ?_
  show XQ _ _ _ _ _ _ _ _
  cases b1 : (decide (((a.length : Nat) : Int) > 4) : Bool) with
  | true =>
    have h := cT b1 h
    refine XQ.cond (s := (.tmp 8)) (b := true) (by kernel_rfl) (by kernel_rfl) (fun _ => ?_) (fun q => by cases q)
    refine XQ.seq Ep_ok (by kernel_rfl) ?_
    refine XQ.region (by kernel_rfl) ?_
    refine XR.runS Ep_ok 1 1 [(2, ii 3)] rfl (by kernel_rfl) ?_
    refine XR.done (by kernel_rfl) ?_
    show XQ _ _ _ _ _ _ _ _
    refine XQ.ret (by kernel_rfl) ?_
    have h := Option.some.inj h
    subst h
    exact ⟨fun i q => (by cases q), ii 3, (by kernel_rfl), rfl⟩
  | false =>
    have h := cF b1 h
    refine XQ.cond (s := (.tmp 8)) (b := false) (by kernel_rfl) (by kernel_rfl) (fun q => by cases q) (fun _ => ?_)
    refine XQ.skip (by kernel_rfl) ?_
    show XQ _ _ _ _ _ _ _ _
    refine XQ.seq Ep_ok (by kernel_rfl) ?_
    refine XQ.region (by kernel_rfl) ?_
    refine XR.runS Ep_ok 1 1 [(0, s0 0 a.length), (3, ii 0)] rfl (by kernel_rfl) ?_
    refine XR.done (by kernel_rfl) ?_
    show XQ _ _ _ _ _ _ _ _
    refine XQ.seq Ep_ok (by kernel_rfl) ?_
    refine XQ.seq Ep_ok (by kernel_rfl) ?_
    refine XQ.region (by kernel_rfl) ?_
    refine XR.runS Ep_ok 1 3 [(3, ii 0), (9, s0 0 a.length), (10, ii ((a.length : Nat) : Int)), (11, ii 0)] rfl (by kernel_rfl) ?_
    refine XR.done (by kernel_rfl) ?_
    show XQ _ _ _ _ _ _ _ _
    refine XQ.block (id := 0) (by kernel_rfl) ?_
    refine XQ.loop m (by kernel_rfl) ?_
    obtain ⟨o1, o1_h, h⟩ := bS h
    refine XL.ren (σ' := [(3, ii 0), (9, s0 0 a.length), (10, ii ((a.length : Nat) : Int)), (11, ii 0)]) (h' := [(0, rc (encI .i64) a z0 y0 1)]) (c' := 1) [0] (by decide) rfl ⟨by kernel_rfl, by kernel_rfl, by kernel_rfl, by kernel_rfl, trivial⟩ ⟨⟨_, _, rfl, rfl, .inl ⟨rfl, rowC_scal (encI_ok .i64) _⟩⟩, trivial⟩ rfl ?_
    cases o1 with
    | r x2_r1 =>
      dsimp only at h
      refine XL.conv (f14_1_ok m m z0 y0 a 0 ((a.length : Nat) : Int) 0 (.r x2_r1) o1_h _ ?_) (by first | with_reducible rfl | simp | rfl)
      have h := Option.some.inj h
      subst h
      exact ⟨fun i q => (by cases q), ii x2_r1, (by kernel_rfl), rfl⟩
    | x0 =>
      dsimp only at h
      refine XL.conv (f14_1_ok m m z0 y0 a 0 ((a.length : Nat) : Int) 0 (.x0) o1_h _ ?_) (by first | with_reducible rfl | simp | rfl)
      show XQ _ _ _ _ _ _ _ _
      refine XQ.seq Ep_ok (by kernel_rfl) ?_
      refine XQ.region (by kernel_rfl) ?_
      refine XR.runS Ep_ok 1 1 [(2, ii 0)] rfl (by kernel_rfl) ?_
      refine XR.done (by kernel_rfl) ?_
      show XQ _ _ _ _ _ _ _ _
      refine XQ.ret (by kernel_rfl) ?_
      have h := Option.some.inj h
      subst h
      exact ⟨fun i q => (by cases q), ii 0, (by kernel_rfl), rfl⟩

/-! vitola/duty.Sum -/
noncomputable def f15_C15 : Code := Proofs.Tryz.f15.body.getD .skip

def f15 (m : Nat) (a : List Int) : Option (Int × Int × Int) :=
  (f14 m a).bind fun r1 =>
    cond (r1 != 0) (
      some (0, 0, r1)
    ) (
      (f30 m a).bind fun r2 =>
        (f31 m m r2.1 r2.2).bind fun r3 =>
          cond (r3 != 0) (
            some (w64 (Int.tdiv r2.1 r3), w64 (Int.tdiv r2.2 r3), 0)
          ) none
    )

theorem f15_ok (m : Nat) (z0 : Nat) (y0 : Nat) (a : List Int) (o : Int × Int × Int) (h : f15 m a = some o) : KC Ep 15 [s0 0 a.length] [(0, rc (encI .i64) a z0 y0 1)] 1 (fun v _ _ => v = .tuple #[ii o.1, ii o.2.1, ii o.2.2]) := by
  refine KC.bodyN Ep_ok (F := Proofs.Tryz.f15) (by kernel_rfl) (code := f15_C15) (by kernel_rfl) (nt := 26) (by kernel_rfl) (rs := [.tmp 2, .tmp 3, .tmp 4]) (by kernel_rfl) (by kernel_rfl) (σ := [(0, s0 0 a.length)]) (by kernel_rfl) ?_
  unfold f15 at h
  refine XQ.seq Ep_ok (by kernel_rfl) ?_
  refine XQ.region (by kernel_rfl) ?_
  refine XR.runS Ep_ok 1 3 [(0, s0 0 a.length)] rfl (by kernel_rfl) ?_
  refine XR.done (by kernel_rfl) ?_
  show XQ _ _ _ _ _ _ _ _
  refine XQ.seq Ep_ok (by kernel_rfl) ?_
  refine XQ.seq Ep_ok (by kernel_rfl) ?_
  refine XQ.region (by kernel_rfl) ?_
  refine XR.runS Ep_ok 1 1 [(0, s0 0 a.length), (7, s0 0 a.length)] rfl (by kernel_rfl) ?_
  obtain ⟨r1, r1_h, h⟩ := bS h
  refine XR.call Ep_ok [0, 8] rfl (K := 14) (args := [s0 0 a.length]) (d := (some (path 12 8))) (by kernel_rfl) (KQ.call (KC.quiet Ep_ok (args0 := [s0 0 a.length]) (h0 := [(0, rc (encI .i64) a (z0 + ((rowC (encI .i64) a).length + 1)) y0 1)]) (n := 1) (V := ii r1) [0] (f14_ok m (z0 + ((rowC (encI .i64) a).length + 1)) y0 a r1 r1_h) rfl (by rfl) (by decide) rfl (by kernel_rfl) ⟨⟨_, _, rfl, rfl, .inl ⟨rfl, rowC_scal (encI_ok .i64) _⟩⟩, trivial⟩) rfl) ?_
  rintro _ _ _ ⟨rfl, rfl, rfl⟩
  refine XR.conv (σ' := [(0, s0 0 a.length), (8, ii r1)]) (h' := [(0, rc (encI .i64) a z0 y0 1)]) (c' := 1) ?_ (by kernel_rfl)
  refine XR.runS Ep_ok 1 1 [(0, s0 0 a.length), (5, ii r1)] rfl (by kernel_rfl) ?_
  refine XR.done (by kernel_rfl) ?_
  show XQ _ _ _ _ _ _ _ _
  refine XQ.seq Ep_ok (by kernel_rfl) ?_
  refine XQ.region (by kernel_rfl) ?_
  refine XR.runS Ep_ok 1 2 [(0, s0 0 a.length), (5, ii r1), (10, .bool (r1 != 0))] rfl (by kernel_rfl) ?_
  refine XR.done (by kernel_rfl) ?_
  show XQ _ _ _ _ _ _ _ _
  cases b1 : (r1 != 0 : Bool) with
  | true =>
    have h := cT b1 h
    refine XQ.cond (s := (.tmp 10)) (b := true) (by kernel_rfl) (by kernel_rfl) (fun _ => ?_) (fun q => by cases q)
    refine XQ.seq Ep_ok (by kernel_rfl) ?_
    refine XQ.region (by kernel_rfl) ?_
    refine XR.runS Ep_ok 1 4 [(2, ii 0), (3, ii 0), (4, ii r1)] rfl (by kernel_rfl) ?_
    refine XR.done (by kernel_rfl) ?_
    show XQ _ _ _ _ _ _ _ _
    refine XQ.ret (by kernel_rfl) ?_
    have h := Option.some.inj h
    subst h
    exact ⟨fun i q => (by cases q), .tuple #[ii 0, ii 0, ii r1], (by kernel_rfl), rfl⟩
  | false =>
    have h := cF b1 h
    refine XQ.cond (s := (.tmp 10)) (b := false) (by kernel_rfl) (by kernel_rfl) (fun q => by cases q) (fun _ => ?_)
    refine XQ.skip (by kernel_rfl) ?_
    show XQ _ _ _ _ _ _ _ _
    refine XQ.seq Ep_ok (by kernel_rfl) ?_
    refine XQ.region (by kernel_rfl) ?_
    refine XR.runS Ep_ok 1 1 [(13, s0 0 a.length)] rfl (by kernel_rfl) ?_
    obtain ⟨r2, r2_h, h⟩ := bS h
    refine XR.call Ep_ok [14] rfl (K := 30) (args := [s0 0 a.length]) (d := (some (path 12 14))) (by kernel_rfl) (KQ.call (KC.quiet Ep_ok (args0 := [s0 0 a.length]) (h0 := [(0, rc (encI .i64) a (z0 + ((rowC (encI .i64) a).length + 1)) y0 1)]) (n := 1) (V := .tuple #[ii r2.1, ii r2.2]) [0] (f30_ok m (z0 + ((rowC (encI .i64) a).length + 1)) y0 a r2 r2_h) rfl (by rfl) (by decide) rfl (by kernel_rfl) ⟨⟨_, _, rfl, rfl, .inl ⟨rfl, rowC_scal (encI_ok .i64) _⟩⟩, trivial⟩) rfl) ?_
    rintro _ _ _ ⟨rfl, rfl, rfl⟩
    refine XR.conv (σ' := [(14, .tuple #[ii r2.1, ii r2.2])]) (h' := [(0, rc (encI .i64) a z0 y0 1)]) (c' := 1) ?_ (by kernel_rfl)
    refine XR.runS Ep_ok 1 5 [(2, ii r2.1), (3, ii r2.2)] rfl (by kernel_rfl) ?_
    refine XR.done (by kernel_rfl) ?_
    show XQ _ _ _ _ _ _ _ _
    refine XQ.seq Ep_ok (by kernel_rfl) ?_
    refine XQ.region (by kernel_rfl) ?_
    refine XR.runS Ep_ok 1 2 [(2, ii r2.1), (3, ii r2.2), (17, ii r2.1), (18, ii r2.2)] rfl (by kernel_rfl) ?_
    obtain ⟨r3, r3_h, h⟩ := bS h
    refine XR.call Ep_ok [2, 3, 19] rfl (K := 31) (args := [ii r2.1, ii r2.2]) (d := (some (path 12 19))) (by kernel_rfl) (KC.of_calls Ep_ok (F := Proofs.Tryz.f31) (v := ii r3) (by kernel_rfl) rfl rfl (fun w hI => f31_ok m m r2.1 r2.2 r3 r3_h w hI)) ?_
    rintro _ _ _ ⟨rfl, rfl, rfl⟩
    refine XR.conv (σ' := [(2, ii r2.1), (3, ii r2.2), (19, ii r3)]) (h' := [(0, rc (encI .i64) a z0 y0 1)]) (c' := 1) ?_ (by kernel_rfl)
    refine XR.runS Ep_ok 1 1 [(2, ii r2.1), (3, ii r2.2), (6, ii r3)] rfl (by kernel_rfl) ?_
    refine XR.done (by kernel_rfl) ?_
    show XQ _ _ _ _ _ _ _ _
    refine XQ.seq Ep_ok (by kernel_rfl) ?_
    refine XQ.quiet Ep_ok (by kernel_rfl) (by kernel_rfl) ?_
    refine XU.run Ep_ok 1 2 [3, 6, 20, 21] rfl (σ' := [(3, ii r2.2), (6, ii r3), (20, ii r2.1), (21, ii r3)]) (by kernel_rfl) ?_
    cases b2 : (r3 != 0 : Bool) with
    | false => cases (cF b2 h)
    | true =>
      have h := cT b2 h
      have e3 : insV (headI ((gsOf Ep 26 (opsOf (lft (rgt (rgt (rgt (rgt f15_C15))))))).drop 2) (trS 26 [(3, ii r2.2), (6, ii r3), (20, ii r2.1), (21, ii r3)])) (trS 26 [(3, ii r2.2), (6, ii r3), (20, ii r2.1), (21, ii r3)]) [(0, rc (encI .i64) a z0 y0 1)] = (match (r3 != 0 : Bool) with | true => some (ii (w64 (Int.tdiv r2.1 r3))) | false => none) := by kernel_rfl
      refine XU.rd Ep_ok [3, 6, 22] rfl (e3.trans (by rw [b2])) (σ' := [(3, ii r2.2), (6, ii r3), (22, ii (w64 (Int.tdiv r2.1 r3)))]) (by kernel_rfl) ?_
      refine XU.run Ep_ok 1 2 [22, 23, 24] rfl (σ' := [(22, ii (w64 (Int.tdiv r2.1 r3))), (23, ii r2.2), (24, ii r3)]) (by kernel_rfl) ?_
      have e4 : insV (headI ((gsOf Ep 26 (opsOf (lft (rgt (rgt (rgt (rgt f15_C15))))))).drop 5) (trS 26 [(22, ii (w64 (Int.tdiv r2.1 r3))), (23, ii r2.2), (24, ii r3)])) (trS 26 [(22, ii (w64 (Int.tdiv r2.1 r3))), (23, ii r2.2), (24, ii r3)]) [(0, rc (encI .i64) a z0 y0 1)] = (match (r3 != 0 : Bool) with | true => some (ii (w64 (Int.tdiv r2.2 r3))) | false => none) := by kernel_rfl
      refine XU.rd Ep_ok [22, 25] rfl (e4.trans (by rw [b2])) (σ' := [(22, ii (w64 (Int.tdiv r2.1 r3))), (25, ii (w64 (Int.tdiv r2.2 r3)))]) (by kernel_rfl) ?_
      refine XU.run Ep_ok 1 3 [2, 3, 4] rfl (σ' := [(2, ii (w64 (Int.tdiv r2.1 r3))), (3, ii (w64 (Int.tdiv r2.2 r3))), (4, ii 0)]) (by kernel_rfl) ?_
      refine XU.done (by kernel_rfl) ?_
      show XQ _ _ _ _ _ _ _ _
      refine XQ.ret (by kernel_rfl) ?_
      have h := Option.some.inj h
      subst h
      exact ⟨fun i q => (by cases q), .tuple #[ii (w64 (Int.tdiv r2.1 r3)), ii (w64 (Int.tdiv r2.2 r3)), ii 0], (by kernel_rfl), rfl⟩

/-! vitola/wrap.Check -/
noncomputable def f20_C20 : Code := Proofs.Tryz.f20.body.getD .skip
noncomputable def f20_C18 : Code := Proofs.Tryz.f18.body.getD .skip
noncomputable def f20_C32 : Code := Proofs.Tryz.f32.body.getD .skip

def f20 (m : Nat) (a_Marks : Int) (a_Step : Int) (a_Turns : Int) : Option (Int) :=
  cond (decide (a_Marks ≥ 1)) (
    cond (decide (a_Marks ≤ 100)) (
      cond (decide (a_Step ≥ 0)) (
        cond (!(decide (a_Step < a_Marks))) (
          some (1)
        ) (
          cond (decide (a_Turns < 1)) (
            some (1)
          ) (
            (f38 m a_Marks a_Step).bind fun r1 =>
              cond (r1 != 0) (
                cond (decide (a_Turns > (w64 (Int.tdiv a_Marks r1)))) (
                  some (3)
                ) (
                  some (0)
                )
              ) none
          )
        )
      ) (
        some (1)
      )
    ) (
      some (1)
    )
  ) (
    some (1)
  )

theorem f20_ok (m : Nat) (a_Marks : Int) (a_Step : Int) (a_Turns : Int) (o : Int) (h : f20 m a_Marks a_Step a_Turns = some o) (w : World) (hI : seatInv w) : Calls Proofs.Tryz.prog 20 #[.agg #[ii a_Marks, ii a_Step, ii a_Turns]] w fun e w' => e = .returned (ii o) ∧ Below w.heap.size w w' := by
  refine KC.calls (E := Ep) (args := [.agg #[ii a_Marks, ii a_Step, ii a_Turns]]) (v := ii o) rfl rfl (KC.bodyN Ep_ok (F := Proofs.Tryz.f20) (by kernel_rfl) (code := f20_C20) (by kernel_rfl) (nt := 21) (by kernel_rfl) (rs := [.tmp 2]) (by kernel_rfl) (by kernel_rfl) (σ := [(0, .agg #[ii a_Marks, ii a_Step, ii a_Turns])]) (by kernel_rfl) ?_) w (seatInv_size hI) hI
  unfold f20 at h
  refine XQ.seq Ep_ok (by kernel_rfl) ?_
  refine XQ.region (by kernel_rfl) ?_
  refine XR.runT Ep_ok 1 2 [(1, pp 0 0)] [(0, .cells [ii a_Marks, ii a_Step, ii a_Turns] 0 36 0)] 1 rfl (by kernel_rfl) ?_
  refine XR.done (by kernel_rfl) ?_
  show XQ _ _ _ _ _ _ _ _
  refine XQ.seq Ep_ok (by kernel_rfl) ?_
  refine XQ.block (id := 0) (by kernel_rfl) ?_
  refine XQ.seq Ep_ok (by kernel_rfl) ?_
  refine XQ.region (by kernel_rfl) ?_
  refine XR.runS Ep_ok 1 4 [(1, pp 0 0), (5, ii a_Marks), (7, ii a_Step)] rfl (by kernel_rfl) ?_
  refine XR.callK Ep_ok [1, 8] rfl (K := 18) (args := [ii a_Marks, ii a_Step]) (d := (some (path 12 8))) (by kernel_rfl) ?_
  refine KC.bodyN Ep_ok (F := Proofs.Tryz.f18) (by kernel_rfl) (code := f20_C18) (by kernel_rfl) (nt := 20) (by kernel_rfl) (rs := [.tmp 4]) (by kernel_rfl) (by kernel_rfl) (σ := [(0, ii a_Marks), (1, ii a_Step)]) (by kernel_rfl) ?_
  refine XQ.seq Ep_ok (by kernel_rfl) ?_
  refine XQ.region (by kernel_rfl) ?_
  refine XR.runS Ep_ok 1 1 [(0, ii a_Marks), (1, ii a_Step)] rfl (by kernel_rfl) ?_
  refine XR.done (by kernel_rfl) ?_
  show XQ _ _ _ _ _ _ _ _
  refine XQ.seq Ep_ok (by kernel_rfl) ?_
  refine XQ.region (by kernel_rfl) ?_
  refine XR.runS Ep_ok 1 3 [(0, ii a_Marks), (1, ii a_Step), (7, .bool (decide (a_Marks ≥ 1)))] rfl (by kernel_rfl) ?_
  cases b1 : (decide (a_Marks ≥ 1) : Bool) with
  | true =>
    have h := cT b1 h
    refine XR.runS Ep_ok 1 4 [(0, ii a_Marks), (1, ii a_Step), (11, .bool (decide (a_Marks ≤ 100)))] rfl (by kernel_rfl) ?_
    cases b2 : (decide (a_Marks ≤ 100) : Bool) with
    | true =>
      have h := cT b2 h
      refine XR.runS Ep_ok 1 4 [(0, ii a_Marks), (1, ii a_Step), (15, .bool (decide (a_Step ≥ 0)))] rfl (by kernel_rfl) ?_
      cases b3 : (decide (a_Step ≥ 0) : Bool) with
      | true =>
        have h := cT b3 h
        refine XR.runS Ep_ok 1 5 [(4, .bool (decide (a_Step < a_Marks)))] rfl (by kernel_rfl) ?_
        refine XR.done (by kernel_rfl) ?_
        show XQ _ _ _ _ _ _ _ _
        refine XQ.ret (by kernel_rfl) ?_
        refine ⟨fun i q => (by cases q), .bool (decide (a_Step < a_Marks)), (by kernel_rfl), ?_⟩
        refine XR.conv (σ' := [(1, pp 0 0), (8, .bool (decide (a_Step < a_Marks)))]) (h' := [(0, .cells [ii a_Marks, ii a_Step, ii a_Turns] 0 36 0)]) (c' := 1) ?_ (by kernel_rfl)
        refine XR.runS Ep_ok 1 2 [(1, pp 0 0), (10, .bool (!(decide (a_Step < a_Marks))))] rfl (by kernel_rfl) ?_
        cases b4 : (!(decide (a_Step < a_Marks)) : Bool) with
        | true =>
          have h := cT b4 h
          refine XR.runS Ep_ok 1 5 [(1, pp 0 0), (3, .bool true)] rfl (by kernel_rfl) ?_
          refine XR.done (by kernel_rfl) ?_
          show XQ _ _ _ _ _ _ _ _
          refine XQ.cond (s := (.tmp 3)) (b := true) (by kernel_rfl) (by kernel_rfl) (fun _ => ?_) (fun q => by cases q)
          refine XQ.seq Ep_ok (by kernel_rfl) ?_
          refine XQ.region (by kernel_rfl) ?_
          refine XR.runS Ep_ok 1 1 [(2, ii 1)] rfl (by kernel_rfl) ?_
          refine XR.done (by kernel_rfl) ?_
          show XQ _ _ _ _ _ _ _ _
          refine XQ.ret (by kernel_rfl) ?_
          have h := Option.some.inj h
          subst h
          exact ⟨fun i q => (by cases q), ii 1, (by kernel_rfl), rfl⟩
        | false =>
          have h := cF b4 h
          refine XR.runS Ep_ok 1 5 [(1, pp 0 0), (3, .bool (decide (a_Turns < 1)))] rfl (by kernel_rfl) ?_
          refine XR.done (by kernel_rfl) ?_
          show XQ _ _ _ _ _ _ _ _
          cases b5 : (decide (a_Turns < 1) : Bool) with
          | true =>
            have h := cT b5 h
            refine XQ.cond (s := (.tmp 3)) (b := true) (by kernel_rfl) (by kernel_rfl) (fun _ => ?_) (fun q => by cases q)
            refine XQ.seq Ep_ok (by kernel_rfl) ?_
            refine XQ.region (by kernel_rfl) ?_
            refine XR.runS Ep_ok 1 1 [(2, ii 1)] rfl (by kernel_rfl) ?_
            refine XR.done (by kernel_rfl) ?_
            show XQ _ _ _ _ _ _ _ _
            refine XQ.ret (by kernel_rfl) ?_
            have h := Option.some.inj h
            subst h
            exact ⟨fun i q => (by cases q), ii 1, (by kernel_rfl), rfl⟩
          | false =>
            have h := cF b5 h
            refine XQ.cond (s := (.tmp 3)) (b := false) (by kernel_rfl) (by kernel_rfl) (fun q => by cases q) (fun _ => ?_)
            refine XQ.seq Ep_ok (by kernel_rfl) ?_
            obtain ⟨r1, r1_h, h⟩ := bS h
            cases b6 : (r1 != 0 : Bool) with
            | false => cases (cF b6 h)
            | true =>
              have h := cT b6 h
              refine XQ.preA Ep_ok [0] (by kernel_rfl) (g := 5) (listed := #[true, false, false, false, false, false]) (by kernel_rfl) (by kernel_rfl) (by kernel_rfl) (by kernel_rfl) (by kernel_rfl) (σ' := [(15, .bool (decide (a_Turns > (w64 (Int.tdiv a_Marks r1)))))]) (h' := []) (c' := 0) ?_ ?_
              · show XQ _ _ _ _ _ _ _ _
                cases b7 : (decide (a_Turns > (w64 (Int.tdiv a_Marks r1))) : Bool) with
                | true =>
                  have h := cT b7 h
                  refine XQ.cond (s := (.tmp 15)) (b := true) (by kernel_rfl) (by kernel_rfl) (fun _ => ?_) (fun q => by cases q)
                  refine XQ.seq Ep_ok (by kernel_rfl) ?_
                  refine XQ.region (by kernel_rfl) ?_
                  refine XR.runS Ep_ok 1 1 [(2, ii 3)] rfl (by kernel_rfl) ?_
                  refine XR.done (by kernel_rfl) ?_
                  show XQ _ _ _ _ _ _ _ _
                  refine XQ.ret (by kernel_rfl) ?_
                  have h := Option.some.inj h
                  subst h
                  exact ⟨fun i q => (by cases q), ii 3, (by kernel_rfl), rfl⟩
                | false =>
                  have h := cF b7 h
                  refine XQ.cond (s := (.tmp 15)) (b := false) (by kernel_rfl) (by kernel_rfl) (fun q => by cases q) (fun _ => ?_)
                  refine XQ.skip (by kernel_rfl) ?_
                  show XQ _ _ _ _ _ _ _ _
                  refine XQ.seq Ep_ok (by kernel_rfl) ?_
                  refine XQ.region (by kernel_rfl) ?_
                  refine XR.runS Ep_ok 1 1 [(2, ii 0)] rfl (by kernel_rfl) ?_
                  refine XR.done (by kernel_rfl) ?_
                  show XQ _ _ _ _ _ _ _ _
                  refine XQ.ret (by kernel_rfl) ?_
                  have h := Option.some.inj h
                  subst h
                  exact ⟨fun i q => (by cases q), ii 0, (by kernel_rfl), rfl⟩
              · have xa5 : XA Ep 21 0 (opsOf (lft (rgt (rgt (lft (lft (rgt f20_C20))))))) 0 #[true, true, true, true, true, true] [(15, .bool (decide (a_Turns > (w64 (Int.tdiv a_Marks r1)))))] [] 0 (fun xe xσ xh xc => xe = .normal ∧ (xσ, xh, xc) = ([(15, .bool (decide (a_Turns > (w64 (Int.tdiv a_Marks r1)))))], [], 0)) := by
                  exact XA.done (by kernel_rfl) ⟨rfl, rfl⟩
                have xa4 : XA Ep 21 0 (opsOf (lft (rgt (rgt (lft (lft (rgt f20_C20))))))) 1 #[true, true, true, true, true, false] [(20, .bool (decide (a_Turns > (w64 (Int.tdiv a_Marks r1)))))] [] 0 (fun xe xσ xh xc => xe = .normal ∧ (xσ, xh, xc) = ([(15, .bool (decide (a_Turns > (w64 (Int.tdiv a_Marks r1)))))], [], 0)) := by
                  refine XA.step Ep_ok [5] (by kernel_rfl) rfl (by kernel_rfl) ⟨?_, trivial⟩
                  · refine XR.runS Ep_ok 1 1 [(15, .bool (decide (a_Turns > (w64 (Int.tdiv a_Marks r1)))))] rfl (by kernel_rfl) ?_
                    refine XR.done (by kernel_rfl) ?_
                    refine ⟨rfl, ?_⟩
                    show XA _ _ _ _ _ _ _ _ _ _
                    exact xa5
                have xa3 : XA Ep 21 0 (opsOf (lft (rgt (rgt (lft (lft (rgt f20_C20))))))) 2 #[true, true, true, true, false, false] [(17, ii a_Turns), (19, ii (w64 (Int.tdiv a_Marks r1)))] [] 0 (fun xe xσ xh xc => xe = .normal ∧ (xσ, xh, xc) = ([(15, .bool (decide (a_Turns > (w64 (Int.tdiv a_Marks r1)))))], [], 0)) := by
                  refine XA.step Ep_ok [4] (by kernel_rfl) rfl (by kernel_rfl) ⟨?_, trivial⟩
                  · refine XR.runS Ep_ok 1 1 [(20, .bool (decide (a_Turns > (w64 (Int.tdiv a_Marks r1)))))] rfl (by kernel_rfl) ?_
                    refine XR.done (by kernel_rfl) ?_
                    refine ⟨rfl, ?_⟩
                    show XA _ _ _ _ _ _ _ _ _ _
                    exact xa4
                have xa2 : XA Ep 21 0 (opsOf (lft (rgt (rgt (lft (lft (rgt f20_C20))))))) 3 #[true, true, true, false, false, false] [(17, ii a_Turns), (18, .agg #[ii a_Marks, ii a_Step, ii a_Turns])] [] 0 (fun xe xσ xh xc => xe = .normal ∧ (xσ, xh, xc) = ([(15, .bool (decide (a_Turns > (w64 (Int.tdiv a_Marks r1)))))], [], 0)) := by
                  refine XA.step Ep_ok [3] (by kernel_rfl) rfl (by kernel_rfl) ⟨?_, trivial⟩
                  · refine XR.callK Ep_ok [17, 19] rfl (K := 32) (args := [.agg #[ii a_Marks, ii a_Step, ii a_Turns]]) (d := (some (path 12 19))) (by kernel_rfl) ?_
                    refine KC.bodyN Ep_ok (F := Proofs.Tryz.f32) (by kernel_rfl) (code := f20_C32) (by kernel_rfl) (nt := 11) (by kernel_rfl) (rs := [.tmp 2]) (by kernel_rfl) (by kernel_rfl) (σ := [(0, .agg #[ii a_Marks, ii a_Step, ii a_Turns])]) (by kernel_rfl) ?_
                    refine XQ.seq Ep_ok (by kernel_rfl) ?_
                    refine XQ.region (by kernel_rfl) ?_
                    refine XR.runT Ep_ok 1 2 [(1, pp 0 0)] [(0, .cells [ii a_Marks, ii a_Step, ii a_Turns] 0 36 0)] 1 rfl (by kernel_rfl) ?_
                    refine XR.done (by kernel_rfl) ?_
                    show XQ _ _ _ _ _ _ _ _
                    refine XQ.seq Ep_ok (by kernel_rfl) ?_
                    refine XQ.quiet Ep_ok (by kernel_rfl) (by kernel_rfl) ?_
                    refine XU.run Ep_ok 1 6 [4, 6, 8] rfl (σ' := [(4, ii a_Marks), (6, ii a_Marks), (8, ii a_Step)]) (by kernel_rfl) ?_
                    refine XU.call Ep_ok [4, 9] rfl (K := 38) (F := Proofs.Tryz.f38) (args := [ii a_Marks, ii a_Step]) (d := (some (path 12 9))) (v := ii r1) (by kernel_rfl) (by kernel_rfl) rfl rfl (fun w hI => f38_ok m a_Marks a_Step r1 r1_h w hI) (σ' := [(4, ii a_Marks), (9, ii r1)]) (by kernel_rfl) ?_
                    have e8 : insV (headI ((gsOf Ep 11 (opsOf (lft (rgt f20_C32)))).drop 7) (trS 11 [(4, ii a_Marks), (9, ii r1)])) (trS 11 [(4, ii a_Marks), (9, ii r1)]) [(0, .cells [ii a_Marks, ii a_Step, ii a_Turns] 0 36 0)] = (match (r1 != 0 : Bool) with | true => some (ii (w64 (Int.tdiv a_Marks r1))) | false => none) := by kernel_rfl
                    refine XU.rd Ep_ok [10] rfl (e8.trans (by rw [b6])) (σ' := [(10, ii (w64 (Int.tdiv a_Marks r1)))]) (by kernel_rfl) ?_
                    refine XU.run Ep_ok 1 1 [2] rfl (σ' := [(2, ii (w64 (Int.tdiv a_Marks r1)))]) (by kernel_rfl) ?_
                    refine XU.done (by kernel_rfl) ?_
                    show XQ _ _ _ _ _ _ _ _
                    refine XQ.ret (by kernel_rfl) ?_
                    refine ⟨fun i q => (by cases q), ii (w64 (Int.tdiv a_Marks r1)), (by kernel_rfl), ?_⟩
                    refine XR.conv (σ' := [(17, ii a_Turns), (19, ii (w64 (Int.tdiv a_Marks r1)))]) (h' := [(0, .cells [ii a_Marks, ii a_Step, ii a_Turns] 0 36 0)]) (c' := 1) ?_ (by kernel_rfl)
                    refine XR.done (by kernel_rfl) ?_
                    refine ⟨rfl, ?_⟩
                    show XA _ _ _ _ _ _ _ _ _ _
                    refine XA.ren (σ' := [(17, ii a_Turns), (19, ii (w64 (Int.tdiv a_Marks r1)))]) (h' := []) (c' := 0) [] (by decide) rfl ⟨by kernel_rfl, by kernel_rfl, trivial⟩ trivial rfl ?_
                    exact xa3
                have xa1 : XA Ep 21 0 (opsOf (lft (rgt (rgt (lft (lft (rgt f20_C20))))))) 4 #[true, true, false, false, false, false] [(1, pp 0 0), (17, ii a_Turns)] [(0, .cells [ii a_Marks, ii a_Step, ii a_Turns] 0 36 0)] 1 (fun xe xσ xh xc => xe = .normal ∧ (xσ, xh, xc) = ([(15, .bool (decide (a_Turns > (w64 (Int.tdiv a_Marks r1)))))], [], 0)) := by
                  refine XA.step Ep_ok [2] (by kernel_rfl) rfl (by kernel_rfl) ⟨?_, trivial⟩
                  · refine XR.runS Ep_ok 1 1 [(17, ii a_Turns), (18, .agg #[ii a_Marks, ii a_Step, ii a_Turns])] rfl (by kernel_rfl) ?_
                    refine XR.done (by kernel_rfl) ?_
                    refine ⟨rfl, ?_⟩
                    show XA _ _ _ _ _ _ _ _ _ _
                    refine XA.ren (σ' := [(17, ii a_Turns), (18, .agg #[ii a_Marks, ii a_Step, ii a_Turns])]) (h' := []) (c' := 0) [] (by decide) rfl ⟨by kernel_rfl, by kernel_rfl, trivial⟩ trivial rfl ?_
                    exact xa2
                have xa7 : XA Ep 21 0 (opsOf (lft (rgt (rgt (lft (lft (rgt f20_C20))))))) 3 #[true, false, true, true, false, false] [(16, pp 0 2), (19, ii (w64 (Int.tdiv a_Marks r1)))] [(0, .cells [ii a_Marks, ii a_Step, ii a_Turns] 0 36 0)] 1 (fun xe xσ xh xc => xe = .normal ∧ (xσ, xh, xc) = ([(15, .bool (decide (a_Turns > (w64 (Int.tdiv a_Marks r1)))))], [], 0)) := by
                  refine XA.step Ep_ok [1] (by kernel_rfl) rfl (by kernel_rfl) ⟨?_, trivial⟩
                  · refine XR.runS Ep_ok 1 1 [(17, ii a_Turns), (19, ii (w64 (Int.tdiv a_Marks r1)))] rfl (by kernel_rfl) ?_
                    refine XR.done (by kernel_rfl) ?_
                    refine ⟨rfl, ?_⟩
                    show XA _ _ _ _ _ _ _ _ _ _
                    refine XA.ren (σ' := [(17, ii a_Turns), (19, ii (w64 (Int.tdiv a_Marks r1)))]) (h' := []) (c' := 0) [] (by decide) rfl ⟨by kernel_rfl, by kernel_rfl, trivial⟩ trivial rfl ?_
                    exact xa3
                have xa6 : XA Ep 21 0 (opsOf (lft (rgt (rgt (lft (lft (rgt f20_C20))))))) 4 #[true, false, true, false, false, false] [(16, pp 0 2), (18, .agg #[ii a_Marks, ii a_Step, ii a_Turns])] [(0, .cells [ii a_Marks, ii a_Step, ii a_Turns] 0 36 0)] 1 (fun xe xσ xh xc => xe = .normal ∧ (xσ, xh, xc) = ([(15, .bool (decide (a_Turns > (w64 (Int.tdiv a_Marks r1)))))], [], 0)) := by
                  refine XA.step Ep_ok [1, 3] (by kernel_rfl) rfl (by kernel_rfl) ⟨?_, ?_, trivial⟩
                  · refine XR.runS Ep_ok 1 1 [(17, ii a_Turns), (18, .agg #[ii a_Marks, ii a_Step, ii a_Turns])] rfl (by kernel_rfl) ?_
                    refine XR.done (by kernel_rfl) ?_
                    refine ⟨rfl, ?_⟩
                    show XA _ _ _ _ _ _ _ _ _ _
                    refine XA.ren (σ' := [(17, ii a_Turns), (18, .agg #[ii a_Marks, ii a_Step, ii a_Turns])]) (h' := []) (c' := 0) [] (by decide) rfl ⟨by kernel_rfl, by kernel_rfl, trivial⟩ trivial rfl ?_
                    exact xa2
                  · refine XR.callK Ep_ok [16, 19] rfl (K := 32) (args := [.agg #[ii a_Marks, ii a_Step, ii a_Turns]]) (d := (some (path 12 19))) (by kernel_rfl) ?_
                    refine KC.bodyN Ep_ok (F := Proofs.Tryz.f32) (by kernel_rfl) (code := f20_C32) (by kernel_rfl) (nt := 11) (by kernel_rfl) (rs := [.tmp 2]) (by kernel_rfl) (by kernel_rfl) (σ := [(0, .agg #[ii a_Marks, ii a_Step, ii a_Turns])]) (by kernel_rfl) ?_
                    refine XQ.seq Ep_ok (by kernel_rfl) ?_
                    refine XQ.region (by kernel_rfl) ?_
                    refine XR.runT Ep_ok 1 2 [(1, pp 1 0)] [(1, .cells [ii a_Marks, ii a_Step, ii a_Turns] 0 36 0), (0, .cells [ii a_Marks, ii a_Step, ii a_Turns] 0 36 0)] 2 rfl (by kernel_rfl) ?_
                    refine XR.done (by kernel_rfl) ?_
                    show XQ _ _ _ _ _ _ _ _
                    refine XQ.seq Ep_ok (by kernel_rfl) ?_
                    refine XQ.quiet Ep_ok (by kernel_rfl) (by kernel_rfl) ?_
                    refine XU.run Ep_ok 1 6 [4, 6, 8] rfl (σ' := [(4, ii a_Marks), (6, ii a_Marks), (8, ii a_Step)]) (by kernel_rfl) ?_
                    refine XU.call Ep_ok [4, 9] rfl (K := 38) (F := Proofs.Tryz.f38) (args := [ii a_Marks, ii a_Step]) (d := (some (path 12 9))) (v := ii r1) (by kernel_rfl) (by kernel_rfl) rfl rfl (fun w hI => f38_ok m a_Marks a_Step r1 r1_h w hI) (σ' := [(4, ii a_Marks), (9, ii r1)]) (by kernel_rfl) ?_
                    have e9 : insV (headI ((gsOf Ep 11 (opsOf (lft (rgt f20_C32)))).drop 7) (trS 11 [(4, ii a_Marks), (9, ii r1)])) (trS 11 [(4, ii a_Marks), (9, ii r1)]) [(1, .cells [ii a_Marks, ii a_Step, ii a_Turns] 0 36 0), (0, .cells [ii a_Marks, ii a_Step, ii a_Turns] 0 36 0)] = (match (r1 != 0 : Bool) with | true => some (ii (w64 (Int.tdiv a_Marks r1))) | false => none) := by kernel_rfl
                    refine XU.rd Ep_ok [10] rfl (e9.trans (by rw [b6])) (σ' := [(10, ii (w64 (Int.tdiv a_Marks r1)))]) (by kernel_rfl) ?_
                    refine XU.run Ep_ok 1 1 [2] rfl (σ' := [(2, ii (w64 (Int.tdiv a_Marks r1)))]) (by kernel_rfl) ?_
                    refine XU.done (by kernel_rfl) ?_
                    show XQ _ _ _ _ _ _ _ _
                    refine XQ.ret (by kernel_rfl) ?_
                    refine ⟨fun i q => (by cases q), ii (w64 (Int.tdiv a_Marks r1)), (by kernel_rfl), ?_⟩
                    refine XR.conv (σ' := [(16, pp 0 2), (19, ii (w64 (Int.tdiv a_Marks r1)))]) (h' := [(1, .cells [ii a_Marks, ii a_Step, ii a_Turns] 0 36 0), (0, .cells [ii a_Marks, ii a_Step, ii a_Turns] 0 36 0)]) (c' := 2) ?_ (by kernel_rfl)
                    refine XR.done (by kernel_rfl) ?_
                    refine ⟨rfl, ?_⟩
                    show XA _ _ _ _ _ _ _ _ _ _
                    refine XA.ren (σ' := [(16, pp 0 2), (19, ii (w64 (Int.tdiv a_Marks r1)))]) (h' := [(0, .cells [ii a_Marks, ii a_Step, ii a_Turns] 0 36 0)]) (c' := 1) [0] (by decide) rfl ⟨by kernel_rfl, by kernel_rfl, trivial⟩ ⟨⟨_, _, rfl, rfl, .inr ⟨_, _, _, _, rfl, rfl⟩⟩, trivial⟩ rfl ?_
                    exact xa7
                have xa0 : XA Ep 21 0 (opsOf (lft (rgt (rgt (lft (lft (rgt f20_C20))))))) 5 #[true, false, false, false, false, false] [(1, pp 0 0), (16, pp 0 2)] [(0, .cells [ii a_Marks, ii a_Step, ii a_Turns] 0 36 0)] 1 (fun xe xσ xh xc => xe = .normal ∧ (xσ, xh, xc) = ([(15, .bool (decide (a_Turns > (w64 (Int.tdiv a_Marks r1)))))], [], 0)) := by
                  refine XA.step Ep_ok [1, 2] (by kernel_rfl) rfl (by kernel_rfl) ⟨?_, ?_, trivial⟩
                  · refine XR.runS Ep_ok 1 1 [(1, pp 0 0), (17, ii a_Turns)] rfl (by kernel_rfl) ?_
                    refine XR.done (by kernel_rfl) ?_
                    refine ⟨rfl, ?_⟩
                    show XA _ _ _ _ _ _ _ _ _ _
                    exact xa1
                  · refine XR.runS Ep_ok 1 1 [(16, pp 0 2), (18, .agg #[ii a_Marks, ii a_Step, ii a_Turns])] rfl (by kernel_rfl) ?_
                    refine XR.done (by kernel_rfl) ?_
                    refine ⟨rfl, ?_⟩
                    show XA _ _ _ _ _ _ _ _ _ _
                    exact xa6
                refine XP.step Ep_ok 1 [1, 16] rfl (σ' := [(1, pp 0 0), (16, pp 0 2)]) (by kernel_rfl) ?_
                refine XP.done (by kernel_rfl) ?_
                show XA _ _ _ _ _ _ _ _ _ _
                exact xa0
      | false =>
        have h := cF b3 h
        refine XR.runS Ep_ok 1 5 [(4, .bool false)] rfl (by kernel_rfl) ?_
        refine XR.done (by kernel_rfl) ?_
        show XQ _ _ _ _ _ _ _ _
        refine XQ.ret (by kernel_rfl) ?_
        refine ⟨fun i q => (by cases q), .bool false, (by kernel_rfl), ?_⟩
        refine XR.conv (σ' := [(1, pp 0 0), (8, .bool false)]) (h' := [(0, .cells [ii a_Marks, ii a_Step, ii a_Turns] 0 36 0)]) (c' := 1) ?_ (by kernel_rfl)
        refine XR.runS Ep_ok 1 7 [(1, pp 0 0), (3, .bool true)] rfl (by kernel_rfl) ?_
        refine XR.done (by kernel_rfl) ?_
        show XQ _ _ _ _ _ _ _ _
        refine XQ.cond (s := (.tmp 3)) (b := true) (by kernel_rfl) (by kernel_rfl) (fun _ => ?_) (fun q => by cases q)
        refine XQ.seq Ep_ok (by kernel_rfl) ?_
        refine XQ.region (by kernel_rfl) ?_
        refine XR.runS Ep_ok 1 1 [(2, ii 1)] rfl (by kernel_rfl) ?_
        refine XR.done (by kernel_rfl) ?_
        show XQ _ _ _ _ _ _ _ _
        refine XQ.ret (by kernel_rfl) ?_
        have h := Option.some.inj h
        subst h
        exact ⟨fun i q => (by cases q), ii 1, (by kernel_rfl), rfl⟩
    | false =>
      have h := cF b2 h
      refine XR.runS Ep_ok 1 9 [(4, .bool false)] rfl (by kernel_rfl) ?_
      refine XR.done (by kernel_rfl) ?_
      show XQ _ _ _ _ _ _ _ _
      refine XQ.ret (by kernel_rfl) ?_
      refine ⟨fun i q => (by cases q), .bool false, (by kernel_rfl), ?_⟩
      refine XR.conv (σ' := [(1, pp 0 0), (8, .bool false)]) (h' := [(0, .cells [ii a_Marks, ii a_Step, ii a_Turns] 0 36 0)]) (c' := 1) ?_ (by kernel_rfl)
      refine XR.runS Ep_ok 1 7 [(1, pp 0 0), (3, .bool true)] rfl (by kernel_rfl) ?_
      refine XR.done (by kernel_rfl) ?_
      show XQ _ _ _ _ _ _ _ _
      refine XQ.cond (s := (.tmp 3)) (b := true) (by kernel_rfl) (by kernel_rfl) (fun _ => ?_) (fun q => by cases q)
      refine XQ.seq Ep_ok (by kernel_rfl) ?_
      refine XQ.region (by kernel_rfl) ?_
      refine XR.runS Ep_ok 1 1 [(2, ii 1)] rfl (by kernel_rfl) ?_
      refine XR.done (by kernel_rfl) ?_
      show XQ _ _ _ _ _ _ _ _
      refine XQ.ret (by kernel_rfl) ?_
      have h := Option.some.inj h
      subst h
      exact ⟨fun i q => (by cases q), ii 1, (by kernel_rfl), rfl⟩
  | false =>
    have h := cF b1 h
    refine XR.runS Ep_ok 1 13 [(4, .bool false)] rfl (by kernel_rfl) ?_
    refine XR.done (by kernel_rfl) ?_
    show XQ _ _ _ _ _ _ _ _
    refine XQ.ret (by kernel_rfl) ?_
    refine ⟨fun i q => (by cases q), .bool false, (by kernel_rfl), ?_⟩
    refine XR.conv (σ' := [(1, pp 0 0), (8, .bool false)]) (h' := [(0, .cells [ii a_Marks, ii a_Step, ii a_Turns] 0 36 0)]) (c' := 1) ?_ (by kernel_rfl)
    refine XR.runS Ep_ok 1 7 [(1, pp 0 0), (3, .bool true)] rfl (by kernel_rfl) ?_
    refine XR.done (by kernel_rfl) ?_
    show XQ _ _ _ _ _ _ _ _
    refine XQ.cond (s := (.tmp 3)) (b := true) (by kernel_rfl) (by kernel_rfl) (fun _ => ?_) (fun q => by cases q)
    refine XQ.seq Ep_ok (by kernel_rfl) ?_
    refine XQ.region (by kernel_rfl) ?_
    refine XR.runS Ep_ok 1 1 [(2, ii 1)] rfl (by kernel_rfl) ?_
    refine XR.done (by kernel_rfl) ?_
    show XQ _ _ _ _ _ _ _ _
    refine XQ.ret (by kernel_rfl) ?_
    have h := Option.some.inj h
    subst h
    exact ⟨fun i q => (by cases q), ii 1, (by kernel_rfl), rfl⟩

/-! (vitola/wrap.Wrapper).mark -/
noncomputable def f21_C21 : Code := Proofs.Tryz.f21.body.getD .skip

def f21 (m : Nat) (a_Marks : Int) (a_Step : Int) (a_Turns : Int) (b : Int) : Option (Int) :=
  cond (a_Marks != 0) (
    some (Int.tmod (w64 (b * a_Step)) a_Marks)
  ) none

theorem f21_ok (m : Nat) (a_Marks : Int) (a_Step : Int) (a_Turns : Int) (b : Int) (o : Int) (h : f21 m a_Marks a_Step a_Turns b = some o) (w : World) (hI : seatInv w) : Calls Proofs.Tryz.prog 21 #[.agg #[ii a_Marks, ii a_Step, ii a_Turns], ii b] w fun e w' => e = .returned (ii o) ∧ Below w.heap.size w w' := by
  refine KC.calls (E := Ep) (args := [.agg #[ii a_Marks, ii a_Step, ii a_Turns], ii b]) (v := ii o) rfl rfl (KC.bodyN Ep_ok (F := Proofs.Tryz.f21) (by kernel_rfl) (code := f21_C21) (by kernel_rfl) (nt := 12) (by kernel_rfl) (rs := [.tmp 4]) (by kernel_rfl) (by kernel_rfl) (σ := [(0, .agg #[ii a_Marks, ii a_Step, ii a_Turns]), (1, ii b)]) (by kernel_rfl) ?_) w (seatInv_size hI) hI
  unfold f21 at h
  refine XQ.seq Ep_ok (by kernel_rfl) ?_
  refine XQ.region (by kernel_rfl) ?_
  refine XR.runT Ep_ok 1 2 [(1, ii b), (2, pp 0 0)] [(0, .cells [ii a_Marks, ii a_Step, ii a_Turns] 0 36 0)] 1 rfl (by kernel_rfl) ?_
  refine XR.done (by kernel_rfl) ?_
  show XQ _ _ _ _ _ _ _ _
  refine XQ.seq Ep_ok (by kernel_rfl) ?_
  refine XQ.region (by kernel_rfl) ?_
  refine XR.runS Ep_ok 1 6 [(8, ii (w64 (b * a_Step))), (10, ii a_Marks)] rfl (by kernel_rfl) ?_
  cases b1 : (a_Marks != 0 : Bool) with
  | false => cases (cF b1 h)
  | true =>
    have h := cT b1 h
    have e2 : insV (headI ((gsOf Ep 12 (opsOf (lft (rgt f21_C21)))).drop 6) (trS 12 [(8, ii (w64 (b * a_Step))), (10, ii a_Marks)])) (trS 12 [(8, ii (w64 (b * a_Step))), (10, ii a_Marks)]) [(0, .cells [ii a_Marks, ii a_Step, ii a_Turns] 0 36 0)] = (match (a_Marks != 0 : Bool) with | true => some (ii (Int.tmod (w64 (b * a_Step)) a_Marks)) | false => none) := by kernel_rfl
    refine XR.rd Ep_ok [11] rfl (e2.trans (by rw [b1])) (σ' := [(11, ii (Int.tmod (w64 (b * a_Step)) a_Marks))]) (by kernel_rfl) ?_
    refine XR.runS Ep_ok 1 1 [(4, ii (Int.tmod (w64 (b * a_Step)) a_Marks))] rfl (by kernel_rfl) ?_
    refine XR.done (by kernel_rfl) ?_
    show XQ _ _ _ _ _ _ _ _
    refine XQ.ret (by kernel_rfl) ?_
    have h := Option.some.inj h
    subst h
    exact ⟨fun i q => (by cases q), ii (Int.tmod (w64 (b * a_Step)) a_Marks), (by kernel_rfl), rfl⟩

/-! vitola/wrap.Mark -/
noncomputable def f10_C10 : Code := Proofs.Tryz.f10.body.getD .skip

def f10 (m : Nat) (a_Marks : Int) (a_Step : Int) (a_Turns : Int) (b : Int) : Option (Int × Int) :=
  (f20 m a_Marks a_Step a_Turns).bind fun r1 =>
    cond (r1 != 0) (
      some (0, r1)
    ) (
      cond (decide (b < 0)) (
        some (0, 2)
      ) (
        cond (decide (b ≥ a_Turns)) (
          some (0, 2)
        ) (
          (f21 m a_Marks a_Step a_Turns b).bind fun r2 =>
            some (r2, 0)
        )
      )
    )

theorem f10_ok (m : Nat) (a_Marks : Int) (a_Step : Int) (a_Turns : Int) (b : Int) (o : Int × Int) (h : f10 m a_Marks a_Step a_Turns b = some o) (w : World) (hI : seatInv w) : Calls Proofs.Tryz.prog 10 #[.agg #[ii a_Marks, ii a_Step, ii a_Turns], ii b] w fun e w' => e = .returned (.tuple #[ii o.1, ii o.2]) ∧ Below w.heap.size w w' := by
  refine KC.calls (E := Ep) (args := [.agg #[ii a_Marks, ii a_Step, ii a_Turns], ii b]) (v := .tuple #[ii o.1, ii o.2]) rfl rfl (KC.bodyN Ep_ok (F := Proofs.Tryz.f10) (by kernel_rfl) (code := f10_C10) (by kernel_rfl) (nt := 25) (by kernel_rfl) (rs := [.tmp 4, .tmp 5]) (by kernel_rfl) (by kernel_rfl) (σ := [(0, .agg #[ii a_Marks, ii a_Step, ii a_Turns]), (1, ii b)]) (by kernel_rfl) ?_) w (seatInv_size hI) hI
  unfold f10 at h
  refine XQ.seq Ep_ok (by kernel_rfl) ?_
  refine XQ.region (by kernel_rfl) ?_
  refine XR.runT Ep_ok 1 3 [(1, ii b), (2, pp 0 0)] [(0, .cells [ii a_Marks, ii a_Step, ii a_Turns] 0 36 0)] 1 rfl (by kernel_rfl) ?_
  refine XR.done (by kernel_rfl) ?_
  show XQ _ _ _ _ _ _ _ _
  refine XQ.seq Ep_ok (by kernel_rfl) ?_
  refine XQ.region (by kernel_rfl) ?_
  refine XR.runS Ep_ok 1 1 [(1, ii b), (2, pp 0 0), (7, .agg #[ii a_Marks, ii a_Step, ii a_Turns])] rfl (by kernel_rfl) ?_
  obtain ⟨r1, r1_h, h⟩ := bS h
  refine XR.call Ep_ok [1, 2, 8] rfl (K := 20) (args := [.agg #[ii a_Marks, ii a_Step, ii a_Turns]]) (d := (some (path 12 8))) (by kernel_rfl) (KC.of_calls Ep_ok (F := Proofs.Tryz.f20) (v := ii r1) (by kernel_rfl) rfl rfl (fun w hI => f20_ok m a_Marks a_Step a_Turns r1 r1_h w hI)) ?_
  rintro _ _ _ ⟨rfl, rfl, rfl⟩
  refine XR.conv (σ' := [(1, ii b), (2, pp 0 0), (8, ii r1)]) (h' := [(0, .cells [ii a_Marks, ii a_Step, ii a_Turns] 0 36 0)]) (c' := 1) ?_ (by kernel_rfl)
  refine XR.runS Ep_ok 1 1 [(1, ii b), (2, pp 0 0), (6, ii r1)] rfl (by kernel_rfl) ?_
  refine XR.done (by kernel_rfl) ?_
  show XQ _ _ _ _ _ _ _ _
  refine XQ.seq Ep_ok (by kernel_rfl) ?_
  refine XQ.block (id := 0) (by kernel_rfl) ?_
  refine XQ.seq Ep_ok (by kernel_rfl) ?_
  refine XQ.region (by kernel_rfl) ?_
  refine XR.runS Ep_ok 1 3 [(1, ii b), (2, pp 0 0), (6, ii r1), (9, .bool (r1 != 0))] rfl (by kernel_rfl) ?_
  refine XR.done (by kernel_rfl) ?_
  show XQ _ _ _ _ _ _ _ _
  cases b1 : (r1 != 0 : Bool) with
  | true =>
    have h := cT b1 h
    refine XQ.cond (s := (.tmp 9)) (b := true) (by kernel_rfl) (by kernel_rfl) (fun _ => ?_) (fun q => by cases q)
    refine XQ.seq Ep_ok (by kernel_rfl) ?_
    refine XQ.region (by kernel_rfl) ?_
    refine XR.runS Ep_ok 1 3 [(4, ii 0), (5, ii r1)] rfl (by kernel_rfl) ?_
    refine XR.done (by kernel_rfl) ?_
    show XQ _ _ _ _ _ _ _ _
    refine XQ.ret (by kernel_rfl) ?_
    have h := Option.some.inj h
    subst h
    exact ⟨fun i q => (by cases q), .tuple #[ii 0, ii r1], (by kernel_rfl), rfl⟩
  | false =>
    have h := cF b1 h
    refine XQ.cond (s := (.tmp 9)) (b := false) (by kernel_rfl) (by kernel_rfl) (fun q => by cases q) (fun _ => ?_)
    refine XQ.seq Ep_ok (by kernel_rfl) ?_
    refine XQ.region (by kernel_rfl) ?_
    refine XR.runS Ep_ok 1 3 [(1, ii b), (2, pp 0 0), (16, .bool (decide (b < 0)))] rfl (by kernel_rfl) ?_
    cases b2 : (decide (b < 0) : Bool) with
    | true =>
      have h := cT b2 h
      refine XR.runS Ep_ok 1 6 [(1, ii b), (2, pp 0 0), (13, .bool true)] rfl (by kernel_rfl) ?_
      refine XR.done (by kernel_rfl) ?_
      show XQ _ _ _ _ _ _ _ _
      refine XQ.cond (s := (.tmp 13)) (b := true) (by kernel_rfl) (by kernel_rfl) (fun _ => ?_) (fun q => by cases q)
      refine XQ.seq Ep_ok (by kernel_rfl) ?_
      refine XQ.region (by kernel_rfl) ?_
      refine XR.runS Ep_ok 1 2 [(4, ii 0), (5, ii 2)] rfl (by kernel_rfl) ?_
      refine XR.done (by kernel_rfl) ?_
      show XQ _ _ _ _ _ _ _ _
      refine XQ.ret (by kernel_rfl) ?_
      have h := Option.some.inj h
      subst h
      exact ⟨fun i q => (by cases q), .tuple #[ii 0, ii 2], (by kernel_rfl), rfl⟩
    | false =>
      have h := cF b2 h
      refine XR.runS Ep_ok 1 6 [(1, ii b), (2, pp 0 0), (13, .bool (decide (b ≥ a_Turns)))] rfl (by kernel_rfl) ?_
      refine XR.done (by kernel_rfl) ?_
      show XQ _ _ _ _ _ _ _ _
      cases b3 : (decide (b ≥ a_Turns) : Bool) with
      | true =>
        have h := cT b3 h
        refine XQ.cond (s := (.tmp 13)) (b := true) (by kernel_rfl) (by kernel_rfl) (fun _ => ?_) (fun q => by cases q)
        refine XQ.seq Ep_ok (by kernel_rfl) ?_
        refine XQ.region (by kernel_rfl) ?_
        refine XR.runS Ep_ok 1 2 [(4, ii 0), (5, ii 2)] rfl (by kernel_rfl) ?_
        refine XR.done (by kernel_rfl) ?_
        show XQ _ _ _ _ _ _ _ _
        refine XQ.ret (by kernel_rfl) ?_
        have h := Option.some.inj h
        subst h
        exact ⟨fun i q => (by cases q), .tuple #[ii 0, ii 2], (by kernel_rfl), rfl⟩
      | false =>
        have h := cF b3 h
        refine XQ.cond (s := (.tmp 13)) (b := false) (by kernel_rfl) (by kernel_rfl) (fun q => by cases q) (fun _ => ?_)
        refine XQ.skip (by kernel_rfl) ?_
        show XQ _ _ _ _ _ _ _ _
        refine XQ.seq Ep_ok (by kernel_rfl) ?_
        refine XQ.region (by kernel_rfl) ?_
        refine XR.runS Ep_ok 1 2 [(22, .agg #[ii a_Marks, ii a_Step, ii a_Turns]), (23, ii b)] rfl (by kernel_rfl) ?_
        obtain ⟨r2, r2_h, h⟩ := bS h
        refine XR.call Ep_ok [24] rfl (K := 21) (args := [.agg #[ii a_Marks, ii a_Step, ii a_Turns], ii b]) (d := (some (path 12 24))) (by kernel_rfl) (KC.of_calls Ep_ok (F := Proofs.Tryz.f21) (v := ii r2) (by kernel_rfl) rfl rfl (fun w hI => f21_ok m a_Marks a_Step a_Turns b r2 r2_h w hI)) ?_
        rintro _ _ _ ⟨rfl, rfl, rfl⟩
        refine XR.conv (σ' := [(24, ii r2)]) (h' := [(0, .cells [ii a_Marks, ii a_Step, ii a_Turns] 0 36 0)]) (c' := 1) ?_ (by kernel_rfl)
        refine XR.runS Ep_ok 1 2 [(4, ii r2), (5, ii 0)] rfl (by kernel_rfl) ?_
        refine XR.done (by kernel_rfl) ?_
        show XQ _ _ _ _ _ _ _ _
        refine XQ.ret (by kernel_rfl) ?_
        have h := Option.some.inj h
        subst h
        exact ⟨fun i q => (by cases q), .tuple #[ii r2, ii 0], (by kernel_rfl), rfl⟩

/-! vitola/wrap.round -/
noncomputable def f18_C18 : Code := Proofs.Tryz.f18.body.getD .skip

def f18 (m : Nat) (a : Int) (b : Int) : Option (Bool) :=
  cond (decide (a ≥ 1)) (
    cond (decide (a ≤ 100)) (
      cond (decide (b ≥ 0)) (
        some (decide (b < a))
      ) (
        some (false)
      )
    ) (
      some (false)
    )
  ) (
    some (false)
  )

theorem f18_ok (m : Nat) (a : Int) (b : Int) (o : Bool) (h : f18 m a b = some o) (w : World) (hI : seatInv w) : Calls Proofs.Tryz.prog 18 #[ii a, ii b] w fun e w' => e = .returned (.bool o) ∧ Below w.heap.size w w' := by
  refine KC.calls (E := Ep) (args := [ii a, ii b]) (v := .bool o) rfl rfl (KC.bodyN Ep_ok (F := Proofs.Tryz.f18) (by kernel_rfl) (code := f18_C18) (by kernel_rfl) (nt := 20) (by kernel_rfl) (rs := [.tmp 4]) (by kernel_rfl) (by kernel_rfl) (σ := [(0, ii a), (1, ii b)]) (by kernel_rfl) ?_) w (seatInv_size hI) hI
  unfold f18 at h
  refine XQ.seq Ep_ok (by kernel_rfl) ?_
  refine XQ.region (by kernel_rfl) ?_
  refine XR.runS Ep_ok 1 1 [(0, ii a), (1, ii b)] rfl (by kernel_rfl) ?_
  refine XR.done (by kernel_rfl) ?_
  show XQ _ _ _ _ _ _ _ _
  refine XQ.seq Ep_ok (by kernel_rfl) ?_
  refine XQ.region (by kernel_rfl) ?_
  refine XR.runS Ep_ok 1 3 [(0, ii a), (1, ii b), (7, .bool (decide (a ≥ 1)))] rfl (by kernel_rfl) ?_
  cases b1 : (decide (a ≥ 1) : Bool) with
  | true =>
    have h := cT b1 h
    refine XR.runS Ep_ok 1 4 [(0, ii a), (1, ii b), (11, .bool (decide (a ≤ 100)))] rfl (by kernel_rfl) ?_
    cases b2 : (decide (a ≤ 100) : Bool) with
    | true =>
      have h := cT b2 h
      refine XR.runS Ep_ok 1 4 [(0, ii a), (1, ii b), (15, .bool (decide (b ≥ 0)))] rfl (by kernel_rfl) ?_
      cases b3 : (decide (b ≥ 0) : Bool) with
      | true =>
        have h := cT b3 h
        refine XR.runS Ep_ok 1 5 [(4, .bool (decide (b < a)))] rfl (by kernel_rfl) ?_
        refine XR.done (by kernel_rfl) ?_
        show XQ _ _ _ _ _ _ _ _
        refine XQ.ret (by kernel_rfl) ?_
        have h := Option.some.inj h
        subst h
        exact ⟨fun i q => (by cases q), .bool (decide (b < a)), (by kernel_rfl), rfl⟩
      | false =>
        have h := cF b3 h
        refine XR.runS Ep_ok 1 5 [(4, .bool false)] rfl (by kernel_rfl) ?_
        refine XR.done (by kernel_rfl) ?_
        show XQ _ _ _ _ _ _ _ _
        refine XQ.ret (by kernel_rfl) ?_
        have h := Option.some.inj h
        subst h
        exact ⟨fun i q => (by cases q), .bool false, (by kernel_rfl), rfl⟩
    | false =>
      have h := cF b2 h
      refine XR.runS Ep_ok 1 9 [(4, .bool false)] rfl (by kernel_rfl) ?_
      refine XR.done (by kernel_rfl) ?_
      show XQ _ _ _ _ _ _ _ _
      refine XQ.ret (by kernel_rfl) ?_
      have h := Option.some.inj h
      subst h
      exact ⟨fun i q => (by cases q), .bool false, (by kernel_rfl), rfl⟩
  | false =>
    have h := cF b1 h
    refine XR.runS Ep_ok 1 13 [(4, .bool false)] rfl (by kernel_rfl) ?_
    refine XR.done (by kernel_rfl) ?_
    show XQ _ _ _ _ _ _ _ _
    refine XQ.ret (by kernel_rfl) ?_
    have h := Option.some.inj h
    subst h
    exact ⟨fun i q => (by cases q), .bool false, (by kernel_rfl), rfl⟩

/-! vitola/wrap.Chain -/
noncomputable def f7_C7 : Code := Proofs.Tryz.f7.body.getD .skip
noncomputable def f7_L1 : Code := lft (lft (lft (rgt (rgt (rgt f7_C7)))))

def f7_1 (m : Nat) : Nat → Int → Int → List Int → Option (List Int)
  | 0, _, _, _ => none
  | fuel + 1, x0_1, x1_1, lh0_1 =>
    cond (decide (x1_1 > 0)) (
      cond (x1_1 != 0) (
        cond (fitsB (lh0_1.length + 1) 8) (
          f7_1 m fuel x1_1 (Int.tmod x0_1 x1_1) (lh0_1 ++ [w64 (Int.tdiv x0_1 x1_1)])
        ) none
      ) none
    ) (
      some (lh0_1)
    )

theorem f7_1_ok (m : Nat) : ∀ (fuel : Nat) (x0_1 : Int) (x1_1 : Int) (lh0_1 : List Int) (o : (List Int)), f7_1 m fuel x0_1 x1_1 lh0_1 = some o → ∀ Q : QP, Q (.exit 0) [(6, s0 0 o.length)] [(0, rc (encI .i64) o 0 3 1)] 1 → XL Ep 24 0 fuel f7_L1 [(0, ii x0_1), (1, ii x1_1), (6, s0 0 lh0_1.length)] [(0, rc (encI .i64) lh0_1 0 3 1)] 1 Q
  | 0, x0_1, x1_1, lh0_1, o, h, Q, hQ => by cases h
  | fuel + 1, x0_1, x1_1, lh0_1, o, h, Q, hQ => by
    unfold f7_1 at h
    refine XL.succ Ep_ok ?_
    refine XQ.seq Ep_ok (by kernel_rfl) ?_
    refine XQ.seq Ep_ok (by kernel_rfl) ?_
    refine XQ.region (by kernel_rfl) ?_
    refine XR.runS Ep_ok 1 2 [(0, ii x0_1), (1, ii x1_1), (6, s0 0 lh0_1.length), (12, .bool (decide (x1_1 > 0)))] rfl (by kernel_rfl) ?_
    refine XR.done (by kernel_rfl) ?_
    show XQ _ _ _ _ _ _ _ _
    cases b1 : (decide (x1_1 > 0) : Bool) with
    | true =>
      have h := cT b1 h
      refine XQ.cond (s := (.tmp 12)) (b := true) (by kernel_rfl) (by kernel_rfl) (fun _ => ?_) (fun q => by cases q)
      refine XQ.skip (by kernel_rfl) ?_
      show XQ _ _ _ _ _ _ _ _
      refine XQ.block (id := 1) (by kernel_rfl) ?_
      refine XQ.seq Ep_ok (by kernel_rfl) ?_
      refine XQ.region (by kernel_rfl) ?_
      refine XR.runS Ep_ok 1 3 [(0, ii x0_1), (1, ii x1_1), (13, s0 0 lh0_1.length), (14, ii x0_1), (15, ii x1_1)] rfl (by kernel_rfl) ?_
      cases b2 : (x1_1 != 0 : Bool) with
      | false => cases (cF b2 h)
      | true =>
        have h := cT b2 h
        have e3 : insV (headI ((gsOf Ep 24 (opsOf (lft (lft (rgt f7_L1))))).drop 3) (trS 24 [(0, ii x0_1), (1, ii x1_1), (13, s0 0 lh0_1.length), (14, ii x0_1), (15, ii x1_1)])) (trS 24 [(0, ii x0_1), (1, ii x1_1), (13, s0 0 lh0_1.length), (14, ii x0_1), (15, ii x1_1)]) [(0, rc (encI .i64) lh0_1 0 3 1)] = (match (x1_1 != 0 : Bool) with | true => some (ii (w64 (Int.tdiv x0_1 x1_1))) | false => none) := by kernel_rfl
        refine XR.rd Ep_ok [0, 1, 13, 16] rfl (e3.trans (by rw [b2])) (σ' := [(0, ii x0_1), (1, ii x1_1), (13, s0 0 lh0_1.length), (16, ii (w64 (Int.tdiv x0_1 x1_1)))]) (by kernel_rfl) ?_
        refine XR.runT Ep_ok 1 1 [(0, ii x0_1), (1, ii x1_1), (13, s0 0 lh0_1.length), (17, s0 1 1)] [(1, .cells [ii (w64 (Int.tdiv x0_1 x1_1))] 0 3 1), (0, rc (encI .i64) lh0_1 0 3 1)] 2 rfl (by kernel_rfl) ?_
        cases b4 : (fitsB (lh0_1.length + 1) 8 : Bool) with
        | false => cases (cF b4 h)
        | true =>
          have h := cT b4 h
          refine XR.ef Ep_ok [0, 1, 18] rfl (e_append (encI_ok .i64) (bytes := 8) (e := 3) (x := (src 24 (.tmp 13))) (y := (src 24 (.tmp 17))) (b := 0) (len := lh0_1.length) (cap := lh0_1.length) (xs := lh0_1) (m := 0) (ys := [w64 (Int.tdiv x0_1 x1_1)]) (d := (some (path 12 18))) (n' := (lh0_1 ++ [w64 (Int.tdiv x0_1 x1_1)]).length) (h' := [(2, rc (encI .i64) (lh0_1 ++ [w64 (Int.tdiv x0_1 x1_1)]) 0 3 1), (1, .cells [ii (w64 (Int.tdiv x0_1 x1_1))] 0 3 1)]) (by kernel_rfl) (by kernel_rfl) (by kernel_rfl) (by kernel_rfl) rfl (by simp) (by simp) b4 (by simp) (by kernel_rfl)) (σ' := [(0, ii x0_1), (1, ii x1_1), (18, s0 2 ((lh0_1 ++ [w64 (Int.tdiv x0_1 x1_1)]).length))]) (by kernel_rfl) ?_
          refine XR.runS Ep_ok 1 1 [(0, ii x0_1), (1, ii x1_1), (6, s0 2 ((lh0_1 ++ [w64 (Int.tdiv x0_1 x1_1)]).length))] rfl (by kernel_rfl) ?_
          refine XR.done (by kernel_rfl) ?_
          show XQ _ _ _ _ _ _ _ _
          refine XQ.quiet Ep_ok (by kernel_rfl) (by kernel_rfl) ?_
          refine XU.run Ep_ok 1 3 [6, 19, 20, 21] rfl (σ' := [(6, s0 2 ((lh0_1 ++ [w64 (Int.tdiv x0_1 x1_1)]).length)), (19, ii x1_1), (20, ii x0_1), (21, ii x1_1)]) (by kernel_rfl) ?_
          have e5 : insV (headI ((gsOf Ep 24 (opsOf (rgt (lft (rgt f7_L1))))).drop 3) (trS 24 [(6, s0 2 ((lh0_1 ++ [w64 (Int.tdiv x0_1 x1_1)]).length)), (19, ii x1_1), (20, ii x0_1), (21, ii x1_1)])) (trS 24 [(6, s0 2 ((lh0_1 ++ [w64 (Int.tdiv x0_1 x1_1)]).length)), (19, ii x1_1), (20, ii x0_1), (21, ii x1_1)]) [(2, rc (encI .i64) (lh0_1 ++ [w64 (Int.tdiv x0_1 x1_1)]) 0 3 1), (1, .cells [ii (w64 (Int.tdiv x0_1 x1_1))] 0 3 1)] = (match (x1_1 != 0 : Bool) with | true => some (ii (Int.tmod x0_1 x1_1)) | false => none) := by kernel_rfl
          refine XU.rd Ep_ok [6, 19, 22] rfl (e5.trans (by rw [b2])) (σ' := [(6, s0 2 ((lh0_1 ++ [w64 (Int.tdiv x0_1 x1_1)]).length)), (19, ii x1_1), (22, ii (Int.tmod x0_1 x1_1))]) (by kernel_rfl) ?_
          refine XU.run Ep_ok 1 2 [0, 1, 6] rfl (σ' := [(0, ii x1_1), (1, ii (Int.tmod x0_1 x1_1)), (6, s0 2 ((lh0_1 ++ [w64 (Int.tdiv x0_1 x1_1)]).length))]) (by kernel_rfl) ?_
          refine XU.done (by kernel_rfl) ?_
          show XL _ _ _ _ _ _ _ _ _
          refine XL.ren (σ' := [(0, ii x1_1), (1, ii (Int.tmod x0_1 x1_1)), (6, s0 0 ((lh0_1 ++ [w64 (Int.tdiv x0_1 x1_1)]).length))]) (h' := [(0, rc (encI .i64) (lh0_1 ++ [w64 (Int.tdiv x0_1 x1_1)]) 0 3 1)]) (c' := 1) [2] (by decide) rfl ⟨by kernel_rfl, by kernel_rfl, by kernel_rfl, trivial⟩ ⟨⟨_, _, rfl, rfl, .inl ⟨rfl, rowC_scal (encI_ok .i64) _⟩⟩, trivial⟩ rfl ?_
          refine XL.conv (f7_1_ok m fuel x1_1 (Int.tmod x0_1 x1_1) (lh0_1 ++ [w64 (Int.tdiv x0_1 x1_1)]) o h Q hQ) (by first | with_reducible rfl | simp | rfl)
    | false =>
      have h := cF b1 h
      refine XQ.cond (s := (.tmp 12)) (b := false) (by kernel_rfl) (by kernel_rfl) (fun q => by cases q) (fun _ => ?_)
      refine XQ.ren (σ' := [(6, s0 0 lh0_1.length)]) (h' := [(0, rc (encI .i64) lh0_1 0 3 1)]) (c' := 1) [0] (by decide) rfl ⟨by kernel_rfl, trivial⟩ ⟨⟨_, _, rfl, rfl, .inl ⟨rfl, rowC_scal (encI_ok .i64) _⟩⟩, trivial⟩ rfl ?_
      refine XQ.exit (i := 0) (by kernel_rfl) ?_
      cases h
      exact hQ

def f7 (m : Nat) (a : Int) (b : Int) : Option ((List Int) × Int) :=
  (f18 m a b).bind fun r1 =>
    cond (!r1) (
      some ([], 1)
    ) (
      (f7_1 m m a b []).bind fun o1 =>
        some (o1, 0)
    )

theorem f7_ok (m : Nat) (a : Int) (b : Int) (o : (List Int) × Int) (h : f7 m a b = some o) : KC Ep 7 [ii a, ii b] [] 0 (fun v h' c' => v = .tuple #[s0 0 o.1.length, ii o.2] ∧ h' = [(0, rc (encI .i64) o.1 0 3 1)] ∧ c' = 1) := by
  refine KC.bodyN Ep_ok (F := Proofs.Tryz.f7) (by kernel_rfl) (code := f7_C7) (by kernel_rfl) (nt := 24) (by kernel_rfl) (rs := [.tmp 4, .tmp 5]) (by kernel_rfl) (by kernel_rfl) (σ := [(0, ii a), (1, ii b)]) (by kernel_rfl) ?_
  unfold f7 at h
  refine XQ.seq Ep_ok (by kernel_rfl) ?_
  refine XQ.region (by kernel_rfl) ?_
  refine XR.runS Ep_ok 1 2 [(0, ii a), (1, ii b)] rfl (by kernel_rfl) ?_
  refine XR.done (by kernel_rfl) ?_
  show XQ _ _ _ _ _ _ _ _
  refine XQ.seq Ep_ok (by kernel_rfl) ?_
  refine XQ.seq Ep_ok (by kernel_rfl) ?_
  refine XQ.region (by kernel_rfl) ?_
  refine XR.runS Ep_ok 1 2 [(0, ii a), (1, ii b), (7, ii a), (8, ii b)] rfl (by kernel_rfl) ?_
  obtain ⟨r1, r1_h, h⟩ := bS h
  refine XR.call Ep_ok [0, 1, 9] rfl (K := 18) (args := [ii a, ii b]) (d := (some (path 12 9))) (by kernel_rfl) (KC.of_calls Ep_ok (F := Proofs.Tryz.f18) (v := .bool r1) (by kernel_rfl) rfl rfl (fun w hI => f18_ok m a b r1 r1_h w hI)) ?_
  rintro _ _ _ ⟨rfl, rfl, rfl⟩
  refine XR.conv (σ' := [(0, ii a), (1, ii b), (9, .bool r1)]) (h' := []) (c' := 0) ?_ (by kernel_rfl)
  refine XR.runS Ep_ok 1 1 [(0, ii a), (1, ii b), (10, .bool (!r1))] rfl (by kernel_rfl) ?_
  refine XR.done (by kernel_rfl) ?_
  show XQ _ _ _ _ _ _ _ _
  cases b1 : (!r1 : Bool) with
  | true =>
    have h := cT b1 h
    refine XQ.cond (s := (.tmp 10)) (b := true) (by kernel_rfl) (by kernel_rfl) (fun _ => ?_) (fun q => by cases q)
    refine XQ.seq Ep_ok (by kernel_rfl) ?_
    refine XQ.region (by kernel_rfl) ?_
    refine XR.runS Ep_ok 1 2 [(4, .slice none 0 0), (5, ii 1)] rfl (by kernel_rfl) ?_
    refine XR.done (by kernel_rfl) ?_
    show XQ _ _ _ _ _ _ _ _
    refine XQ.ghost 3 1 rfl (σ' := [(4, s0 0 0), (5, ii 1)]) (h' := []) ⟨by kernel_rfl, by kernel_rfl, trivial⟩ trivial ?_
    refine XQ.conv (σ' := [(4, s0 0 0), (5, ii 1)]) (h' := [(0, rc (encI .i64) [] 0 3 1)]) (c' := 1) ?_ (by kernel_rfl)
    refine XQ.ren (σ' := [(4, s0 0 0), (5, ii 1)]) (h' := [(0, rc (encI .i64) [] 0 3 1)]) (c' := 1) [0] (by decide) rfl ⟨by kernel_rfl, by kernel_rfl, trivial⟩ ⟨⟨_, _, rfl, rfl, .inl ⟨rfl, rowC_scal (encI_ok .i64) _⟩⟩, trivial⟩ rfl ?_
    refine XQ.ret (by kernel_rfl) ?_
    have h := Option.some.inj h
    subst h
    exact ⟨fun i q => (by cases q), .tuple #[s0 0 0, ii 1], (by kernel_rfl), (by kernel_rfl), (by kernel_rfl), rfl⟩
  | false =>
    have h := cF b1 h
    refine XQ.cond (s := (.tmp 10)) (b := false) (by kernel_rfl) (by kernel_rfl) (fun q => by cases q) (fun _ => ?_)
    refine XQ.skip (by kernel_rfl) ?_
    show XQ _ _ _ _ _ _ _ _
    refine XQ.seq Ep_ok (by kernel_rfl) ?_
    refine XQ.region (by kernel_rfl) ?_
    refine XR.runS Ep_ok 1 1 [(0, ii a), (1, ii b), (6, .slice none 0 0)] rfl (by kernel_rfl) ?_
    refine XR.done (by kernel_rfl) ?_
    show XQ _ _ _ _ _ _ _ _
    refine XQ.ghost 3 1 rfl (σ' := [(0, ii a), (1, ii b), (6, s0 0 0)]) (h' := []) ⟨by kernel_rfl, by kernel_rfl, by kernel_rfl, trivial⟩ trivial ?_
    refine XQ.conv (σ' := [(0, ii a), (1, ii b), (6, s0 0 0)]) (h' := [(0, rc (encI .i64) [] 0 3 1)]) (c' := 1) ?_ (by kernel_rfl)
    refine XQ.seq Ep_ok (by kernel_rfl) ?_
    refine XQ.block (id := 0) (by kernel_rfl) ?_
    refine XQ.loop m (by kernel_rfl) ?_
    obtain ⟨o1, o1_h, h⟩ := bS h
    refine XL.ren (σ' := [(0, ii a), (1, ii b), (6, s0 0 0)]) (h' := [(0, rc (encI .i64) [] 0 3 1)]) (c' := 1) [0] (by decide) rfl ⟨by kernel_rfl, by kernel_rfl, by kernel_rfl, trivial⟩ ⟨⟨_, _, rfl, rfl, .inl ⟨rfl, rowC_scal (encI_ok .i64) _⟩⟩, trivial⟩ rfl ?_
    refine XL.conv (f7_1_ok m m a b [] o1 o1_h _ ?_) (by first | with_reducible rfl | simp | rfl)
    show XQ _ _ _ _ _ _ _ _
    refine XQ.seq Ep_ok (by kernel_rfl) ?_
    refine XQ.region (by kernel_rfl) ?_
    refine XR.runS Ep_ok 1 3 [(4, s0 0 o1.length), (5, ii 0)] rfl (by kernel_rfl) ?_
    refine XR.done (by kernel_rfl) ?_
    show XQ _ _ _ _ _ _ _ _
    refine XQ.ren (σ' := [(4, s0 0 o1.length), (5, ii 0)]) (h' := [(0, rc (encI .i64) o1 0 3 1)]) (c' := 1) [0] (by decide) rfl ⟨by kernel_rfl, by kernel_rfl, trivial⟩ ⟨⟨_, _, rfl, rfl, .inl ⟨rfl, rowC_scal (encI_ok .i64) _⟩⟩, trivial⟩ rfl ?_
    refine XQ.ret (by kernel_rfl) ?_
    have h := Option.some.inj h
    subst h
    exact ⟨fun i q => (by cases q), .tuple #[s0 0 o1.length, ii 0], (by kernel_rfl), (by kernel_rfl), (by kernel_rfl), rfl⟩

/-! vitola/wrap.first -/
noncomputable def f19_C19 : Code := Proofs.Tryz.f19.body.getD .skip

def f19 (m : Nat) : Nat → Int → Int → Int → Int → Option (Int)
  | 0, _, _, _, _ => none
  | fuel + 1, a, b, c, d =>
    cond (c == 0) (
      some (0)
    ) (
      cond (b == 0) (
        some ((-1))
      ) (
        cond (b != 0) (
          cond (decide ((w64 ((w64 (Int.tdiv (w64 ((w64 (c + b)) - 1)) b)) * b)) ≤ d)) (
            some (w64 (Int.tdiv (w64 ((w64 (c + b)) - 1)) b))
          ) (
            (f19 m fuel b (Int.tmod a b) (Int.tmod (w64 (b - (Int.tmod d b))) b) (Int.tmod (w64 (b - (Int.tmod c b))) b)).bind fun r1 =>
              cond (decide (r1 < 0)) (
                some ((-1))
              ) (
                some (w64 (Int.tdiv (w64 ((w64 ((w64 (c + (w64 (a * r1)))) + b)) - 1)) b))
              )
          )
        ) none
      )
    )

theorem f19_ok (m : Nat) : ∀ (fuel : Nat) (a : Int) (b : Int) (c : Int) (d : Int) (o : Int), f19 m fuel a b c d = some o → ∀ (w : World), seatInv w → Calls Proofs.Tryz.prog 19 #[ii a, ii b, ii c, ii d] w fun e w' => e = .returned (ii o) ∧ Below w.heap.size w w'
  | 0, a, b, c, d, o, h, w, hI => by cases h
  | fuel + 1, a, b, c, d, o, h, w, hI => by
    refine KC.calls (E := Ep) (args := [ii a, ii b, ii c, ii d]) (v := ii o) rfl rfl (KC.bodyN Ep_ok (F := Proofs.Tryz.f19) (by kernel_rfl) (code := f19_C19) (by kernel_rfl) (nt := 60) (by kernel_rfl) (rs := [.tmp 8]) (by kernel_rfl) (by kernel_rfl) (σ := [(0, ii a), (1, ii b), (2, ii c), (3, ii d)]) (by kernel_rfl) ?_) w (seatInv_size hI) hI
    unfold f19 at h
    refine XQ.seq Ep_ok (by kernel_rfl) ?_
    refine XQ.region (by kernel_rfl) ?_
    refine XR.runS Ep_ok 1 1 [(0, ii a), (1, ii b), (2, ii c), (3, ii d)] rfl (by kernel_rfl) ?_
    refine XR.done (by kernel_rfl) ?_
    show XQ _ _ _ _ _ _ _ _
    refine XQ.seq Ep_ok (by kernel_rfl) ?_
    refine XQ.block (id := 0) (by kernel_rfl) ?_
    refine XQ.seq Ep_ok (by kernel_rfl) ?_
    refine XQ.region (by kernel_rfl) ?_
    refine XR.runS Ep_ok 1 3 [(0, ii a), (1, ii b), (2, ii c), (3, ii d), (11, .bool (c == 0))] rfl (by kernel_rfl) ?_
    refine XR.done (by kernel_rfl) ?_
    show XQ _ _ _ _ _ _ _ _
    cases b1 : (c == 0 : Bool) with
    | true =>
      have h := cT b1 h
      refine XQ.cond (s := (.tmp 11)) (b := true) (by kernel_rfl) (by kernel_rfl) (fun _ => ?_) (fun q => by cases q)
      refine XQ.seq Ep_ok (by kernel_rfl) ?_
      refine XQ.region (by kernel_rfl) ?_
      refine XR.runS Ep_ok 1 1 [(8, ii 0)] rfl (by kernel_rfl) ?_
      refine XR.done (by kernel_rfl) ?_
      show XQ _ _ _ _ _ _ _ _
      refine XQ.ret (by kernel_rfl) ?_
      have h := Option.some.inj h
      subst h
      exact ⟨fun i q => (by cases q), ii 0, (by kernel_rfl), rfl⟩
    | false =>
      have h := cF b1 h
      refine XQ.cond (s := (.tmp 11)) (b := false) (by kernel_rfl) (by kernel_rfl) (fun q => by cases q) (fun _ => ?_)
      refine XQ.seq Ep_ok (by kernel_rfl) ?_
      refine XQ.region (by kernel_rfl) ?_
      refine XR.runS Ep_ok 1 3 [(0, ii a), (1, ii b), (2, ii c), (3, ii d), (14, .bool (b == 0))] rfl (by kernel_rfl) ?_
      refine XR.done (by kernel_rfl) ?_
      show XQ _ _ _ _ _ _ _ _
      cases b2 : (b == 0 : Bool) with
      | true =>
        have h := cT b2 h
        refine XQ.cond (s := (.tmp 14)) (b := true) (by kernel_rfl) (by kernel_rfl) (fun _ => ?_) (fun q => by cases q)
        refine XQ.seq Ep_ok (by kernel_rfl) ?_
        refine XQ.region (by kernel_rfl) ?_
        refine XR.runS Ep_ok 1 1 [(8, ii (-1))] rfl (by kernel_rfl) ?_
        refine XR.done (by kernel_rfl) ?_
        show XQ _ _ _ _ _ _ _ _
        refine XQ.ret (by kernel_rfl) ?_
        have h := Option.some.inj h
        subst h
        exact ⟨fun i q => (by cases q), ii (-1), (by kernel_rfl), rfl⟩
      | false =>
        have h := cF b2 h
        refine XQ.cond (s := (.tmp 14)) (b := false) (by kernel_rfl) (by kernel_rfl) (fun q => by cases q) (fun _ => ?_)
        refine XQ.skip (by kernel_rfl) ?_
        show XQ _ _ _ _ _ _ _ _
        refine XQ.seq Ep_ok (by kernel_rfl) ?_
        refine XQ.seq Ep_ok (by kernel_rfl) ?_
        refine XQ.region (by kernel_rfl) ?_
        refine XR.runS Ep_ok 1 5 [(0, ii a), (1, ii b), (2, ii c), (3, ii d), (20, ii (w64 ((w64 (c + b)) - 1))), (21, ii b)] rfl (by kernel_rfl) ?_
        cases b3 : (b != 0 : Bool) with
        | false => cases (cF b3 h)
        | true =>
          have h := cT b3 h
          have e4 : insV (headI ((gsOf Ep 60 (opsOf (lft (lft (rgt (rgt f19_C19)))))).drop 5) (trS 60 [(0, ii a), (1, ii b), (2, ii c), (3, ii d), (20, ii (w64 ((w64 (c + b)) - 1))), (21, ii b)])) (trS 60 [(0, ii a), (1, ii b), (2, ii c), (3, ii d), (20, ii (w64 ((w64 (c + b)) - 1))), (21, ii b)]) [] = (match (b != 0 : Bool) with | true => some (ii (w64 (Int.tdiv (w64 ((w64 (c + b)) - 1)) b))) | false => none) := by kernel_rfl
          refine XR.rd Ep_ok [0, 1, 2, 3, 22] rfl (e4.trans (by rw [b3])) (σ' := [(0, ii a), (1, ii b), (2, ii c), (3, ii d), (22, ii (w64 (Int.tdiv (w64 ((w64 (c + b)) - 1)) b)))]) (by kernel_rfl) ?_
          refine XR.runS Ep_ok 1 1 [(0, ii a), (1, ii b), (2, ii c), (3, ii d), (9, ii (w64 (Int.tdiv (w64 ((w64 (c + b)) - 1)) b)))] rfl (by kernel_rfl) ?_
          refine XR.done (by kernel_rfl) ?_
          show XQ _ _ _ _ _ _ _ _
          refine XQ.seq Ep_ok (by kernel_rfl) ?_
          refine XQ.region (by kernel_rfl) ?_
          refine XR.runS Ep_ok 1 5 [(0, ii a), (1, ii b), (2, ii c), (3, ii d), (9, ii (w64 (Int.tdiv (w64 ((w64 (c + b)) - 1)) b))), (27, .bool (decide ((w64 ((w64 (Int.tdiv (w64 ((w64 (c + b)) - 1)) b)) * b)) ≤ d)))] rfl (by kernel_rfl) ?_
          refine XR.done (by kernel_rfl) ?_
          show XQ _ _ _ _ _ _ _ _
          cases b5 : (decide ((w64 ((w64 (Int.tdiv (w64 ((w64 (c + b)) - 1)) b)) * b)) ≤ d) : Bool) with
          | true =>
            have h := cT b5 h
            refine XQ.cond (s := (.tmp 27)) (b := true) (by kernel_rfl) (by kernel_rfl) (fun _ => ?_) (fun q => by cases q)
            refine XQ.seq Ep_ok (by kernel_rfl) ?_
            refine XQ.region (by kernel_rfl) ?_
            refine XR.runS Ep_ok 1 2 [(8, ii (w64 (Int.tdiv (w64 ((w64 (c + b)) - 1)) b)))] rfl (by kernel_rfl) ?_
            refine XR.done (by kernel_rfl) ?_
            show XQ _ _ _ _ _ _ _ _
            refine XQ.ret (by kernel_rfl) ?_
            have h := Option.some.inj h
            subst h
            exact ⟨fun i q => (by cases q), ii (w64 (Int.tdiv (w64 ((w64 (c + b)) - 1)) b)), (by kernel_rfl), rfl⟩
          | false =>
            have h := cF b5 h
            refine XQ.cond (s := (.tmp 27)) (b := false) (by kernel_rfl) (by kernel_rfl) (fun q => by cases q) (fun _ => ?_)
            refine XQ.skip (by kernel_rfl) ?_
            show XQ _ _ _ _ _ _ _ _
            refine XQ.seq Ep_ok (by kernel_rfl) ?_
            refine XQ.quiet Ep_ok (by kernel_rfl) (by kernel_rfl) ?_
            refine XU.run Ep_ok 1 3 [0, 1, 2, 3, 29, 30, 31] rfl (σ' := [(0, ii a), (1, ii b), (2, ii c), (3, ii d), (29, ii b), (30, ii a), (31, ii b)]) (by kernel_rfl) ?_
            have e6 : insV (headI ((gsOf Ep 60 (opsOf (lft (rgt (rgt (rgt f19_C19)))))).drop 3) (trS 60 [(0, ii a), (1, ii b), (2, ii c), (3, ii d), (29, ii b), (30, ii a), (31, ii b)])) (trS 60 [(0, ii a), (1, ii b), (2, ii c), (3, ii d), (29, ii b), (30, ii a), (31, ii b)]) [] = (match (b != 0 : Bool) with | true => some (ii (Int.tmod a b)) | false => none) := by kernel_rfl
            refine XU.rd Ep_ok [0, 1, 2, 3, 29, 32] rfl (e6.trans (by rw [b3])) (σ' := [(0, ii a), (1, ii b), (2, ii c), (3, ii d), (29, ii b), (32, ii (Int.tmod a b))]) (by kernel_rfl) ?_
            refine XU.run Ep_ok 1 3 [0, 1, 2, 29, 32, 33, 34, 35] rfl (σ' := [(0, ii a), (1, ii b), (2, ii c), (29, ii b), (32, ii (Int.tmod a b)), (33, ii b), (34, ii d), (35, ii b)]) (by kernel_rfl) ?_
            have e7 : insV (headI ((gsOf Ep 60 (opsOf (lft (rgt (rgt (rgt f19_C19)))))).drop 7) (trS 60 [(0, ii a), (1, ii b), (2, ii c), (29, ii b), (32, ii (Int.tmod a b)), (33, ii b), (34, ii d), (35, ii b)])) (trS 60 [(0, ii a), (1, ii b), (2, ii c), (29, ii b), (32, ii (Int.tmod a b)), (33, ii b), (34, ii d), (35, ii b)]) [] = (match (b != 0 : Bool) with | true => some (ii (Int.tmod d b)) | false => none) := by kernel_rfl
            refine XU.rd Ep_ok [0, 1, 2, 29, 32, 33, 36] rfl (e7.trans (by rw [b3])) (σ' := [(0, ii a), (1, ii b), (2, ii c), (29, ii b), (32, ii (Int.tmod a b)), (33, ii b), (36, ii (Int.tmod d b))]) (by kernel_rfl) ?_
            refine XU.run Ep_ok 1 2 [0, 1, 2, 29, 32, 37, 38] rfl (σ' := [(0, ii a), (1, ii b), (2, ii c), (29, ii b), (32, ii (Int.tmod a b)), (37, ii (w64 (b - (Int.tmod d b)))), (38, ii b)]) (by kernel_rfl) ?_
            have e8 : insV (headI ((gsOf Ep 60 (opsOf (lft (rgt (rgt (rgt f19_C19)))))).drop 10) (trS 60 [(0, ii a), (1, ii b), (2, ii c), (29, ii b), (32, ii (Int.tmod a b)), (37, ii (w64 (b - (Int.tmod d b)))), (38, ii b)])) (trS 60 [(0, ii a), (1, ii b), (2, ii c), (29, ii b), (32, ii (Int.tmod a b)), (37, ii (w64 (b - (Int.tmod d b)))), (38, ii b)]) [] = (match (b != 0 : Bool) with | true => some (ii (Int.tmod (w64 (b - (Int.tmod d b))) b)) | false => none) := by kernel_rfl
            refine XU.rd Ep_ok [0, 1, 2, 29, 32, 39] rfl (e8.trans (by rw [b3])) (σ' := [(0, ii a), (1, ii b), (2, ii c), (29, ii b), (32, ii (Int.tmod a b)), (39, ii (Int.tmod (w64 (b - (Int.tmod d b))) b))]) (by kernel_rfl) ?_
            refine XU.run Ep_ok 1 3 [0, 1, 2, 29, 32, 39, 40, 41, 42] rfl (σ' := [(0, ii a), (1, ii b), (2, ii c), (29, ii b), (32, ii (Int.tmod a b)), (39, ii (Int.tmod (w64 (b - (Int.tmod d b))) b)), (40, ii b), (41, ii c), (42, ii b)]) (by kernel_rfl) ?_
            have e9 : insV (headI ((gsOf Ep 60 (opsOf (lft (rgt (rgt (rgt f19_C19)))))).drop 14) (trS 60 [(0, ii a), (1, ii b), (2, ii c), (29, ii b), (32, ii (Int.tmod a b)), (39, ii (Int.tmod (w64 (b - (Int.tmod d b))) b)), (40, ii b), (41, ii c), (42, ii b)])) (trS 60 [(0, ii a), (1, ii b), (2, ii c), (29, ii b), (32, ii (Int.tmod a b)), (39, ii (Int.tmod (w64 (b - (Int.tmod d b))) b)), (40, ii b), (41, ii c), (42, ii b)]) [] = (match (b != 0 : Bool) with | true => some (ii (Int.tmod c b)) | false => none) := by kernel_rfl
            refine XU.rd Ep_ok [0, 1, 2, 29, 32, 39, 40, 43] rfl (e9.trans (by rw [b3])) (σ' := [(0, ii a), (1, ii b), (2, ii c), (29, ii b), (32, ii (Int.tmod a b)), (39, ii (Int.tmod (w64 (b - (Int.tmod d b))) b)), (40, ii b), (43, ii (Int.tmod c b))]) (by kernel_rfl) ?_
            refine XU.run Ep_ok 1 2 [0, 1, 2, 29, 32, 39, 44, 45] rfl (σ' := [(0, ii a), (1, ii b), (2, ii c), (29, ii b), (32, ii (Int.tmod a b)), (39, ii (Int.tmod (w64 (b - (Int.tmod d b))) b)), (44, ii (w64 (b - (Int.tmod c b)))), (45, ii b)]) (by kernel_rfl) ?_
            have e10 : insV (headI ((gsOf Ep 60 (opsOf (lft (rgt (rgt (rgt f19_C19)))))).drop 17) (trS 60 [(0, ii a), (1, ii b), (2, ii c), (29, ii b), (32, ii (Int.tmod a b)), (39, ii (Int.tmod (w64 (b - (Int.tmod d b))) b)), (44, ii (w64 (b - (Int.tmod c b)))), (45, ii b)])) (trS 60 [(0, ii a), (1, ii b), (2, ii c), (29, ii b), (32, ii (Int.tmod a b)), (39, ii (Int.tmod (w64 (b - (Int.tmod d b))) b)), (44, ii (w64 (b - (Int.tmod c b)))), (45, ii b)]) [] = (match (b != 0 : Bool) with | true => some (ii (Int.tmod (w64 (b - (Int.tmod c b))) b)) | false => none) := by kernel_rfl
            refine XU.rd Ep_ok [0, 1, 2, 29, 32, 39, 46] rfl (e10.trans (by rw [b3])) (σ' := [(0, ii a), (1, ii b), (2, ii c), (29, ii b), (32, ii (Int.tmod a b)), (39, ii (Int.tmod (w64 (b - (Int.tmod d b))) b)), (46, ii (Int.tmod (w64 (b - (Int.tmod c b))) b))]) (by kernel_rfl) ?_
            obtain ⟨r1, r1_h, h⟩ := bS h
            refine XU.call Ep_ok [0, 1, 2, 47] rfl (K := 19) (F := Proofs.Tryz.f19) (args := [ii b, ii (Int.tmod a b), ii (Int.tmod (w64 (b - (Int.tmod d b))) b), ii (Int.tmod (w64 (b - (Int.tmod c b))) b)]) (d := (some (path 12 47))) (v := ii r1) (by kernel_rfl) (by kernel_rfl) rfl rfl (fun w hI => f19_ok m fuel b (Int.tmod a b) (Int.tmod (w64 (b - (Int.tmod d b))) b) (Int.tmod (w64 (b - (Int.tmod c b))) b) r1 r1_h w hI) (σ' := [(0, ii a), (1, ii b), (2, ii c), (47, ii r1)]) (by kernel_rfl) ?_
            refine XU.run Ep_ok 1 1 [0, 1, 2, 10] rfl (σ' := [(0, ii a), (1, ii b), (2, ii c), (10, ii r1)]) (by kernel_rfl) ?_
            refine XU.done (by kernel_rfl) ?_
            show XQ _ _ _ _ _ _ _ _
            refine XQ.seq Ep_ok (by kernel_rfl) ?_
            refine XQ.seq Ep_ok (by kernel_rfl) ?_
            refine XQ.region (by kernel_rfl) ?_
            refine XR.runS Ep_ok 1 2 [(0, ii a), (1, ii b), (2, ii c), (10, ii r1), (49, .bool (decide (r1 < 0)))] rfl (by kernel_rfl) ?_
            refine XR.done (by kernel_rfl) ?_
            show XQ _ _ _ _ _ _ _ _
            cases b11 : (decide (r1 < 0) : Bool) with
            | true =>
              have h := cT b11 h
              refine XQ.cond (s := (.tmp 49)) (b := true) (by kernel_rfl) (by kernel_rfl) (fun _ => ?_) (fun q => by cases q)
              refine XQ.seq Ep_ok (by kernel_rfl) ?_
              refine XQ.region (by kernel_rfl) ?_
              refine XR.runS Ep_ok 1 1 [(8, ii (-1))] rfl (by kernel_rfl) ?_
              refine XR.done (by kernel_rfl) ?_
              show XQ _ _ _ _ _ _ _ _
              refine XQ.ret (by kernel_rfl) ?_
              have h := Option.some.inj h
              subst h
              exact ⟨fun i q => (by cases q), ii (-1), (by kernel_rfl), rfl⟩
            | false =>
              have h := cF b11 h
              refine XQ.cond (s := (.tmp 49)) (b := false) (by kernel_rfl) (by kernel_rfl) (fun q => by cases q) (fun _ => ?_)
              refine XQ.skip (by kernel_rfl) ?_
              show XQ _ _ _ _ _ _ _ _
              refine XQ.seq Ep_ok (by kernel_rfl) ?_
              refine XQ.region (by kernel_rfl) ?_
              refine XR.runS Ep_ok 1 9 [(57, ii (w64 ((w64 ((w64 (c + (w64 (a * r1)))) + b)) - 1))), (58, ii b)] rfl (by kernel_rfl) ?_
              have e12 : insV (headI ((gsOf Ep 60 (opsOf (lft (rgt (rgt (rgt (rgt (rgt f19_C19)))))))).drop 9) (trS 60 [(57, ii (w64 ((w64 ((w64 (c + (w64 (a * r1)))) + b)) - 1))), (58, ii b)])) (trS 60 [(57, ii (w64 ((w64 ((w64 (c + (w64 (a * r1)))) + b)) - 1))), (58, ii b)]) [] = (match (b != 0 : Bool) with | true => some (ii (w64 (Int.tdiv (w64 ((w64 ((w64 (c + (w64 (a * r1)))) + b)) - 1)) b))) | false => none) := by kernel_rfl
              refine XR.rd Ep_ok [59] rfl (e12.trans (by rw [b3])) (σ' := [(59, ii (w64 (Int.tdiv (w64 ((w64 ((w64 (c + (w64 (a * r1)))) + b)) - 1)) b)))]) (by kernel_rfl) ?_
              refine XR.runS Ep_ok 1 1 [(8, ii (w64 (Int.tdiv (w64 ((w64 ((w64 (c + (w64 (a * r1)))) + b)) - 1)) b)))] rfl (by kernel_rfl) ?_
              refine XR.done (by kernel_rfl) ?_
              show XQ _ _ _ _ _ _ _ _
              refine XQ.ret (by kernel_rfl) ?_
              have h := Option.some.inj h
              subst h
              exact ⟨fun i q => (by cases q), ii (w64 (Int.tdiv (w64 ((w64 ((w64 (c + (w64 (a * r1)))) + b)) - 1)) b)), (by kernel_rfl), rfl⟩

/-! vitola/wrap.First -/
noncomputable def f9_C9 : Code := Proofs.Tryz.f9.body.getD .skip

def f9 (m : Nat) (a : Int) (b : Int) (c : Int) (d : Int) : Option (Int × Int) :=
  (f18 m a b).bind fun r1 =>
    cond (!r1) (
      some (0, 1)
    ) (
      cond (decide ((iMin c d) < 0)) (
        some (0, 2)
      ) (
        cond (decide ((iMax c d) ≥ a)) (
          some (0, 2)
        ) (
          cond (decide (c > d)) (
            some (0, 7)
          ) (
            (f19 m m a b c d).bind fun r2 =>
              cond (decide (r2 < 0)) (
                some (0, 12)
              ) (
                some (r2, 0)
              )
          )
        )
      )
    )

theorem f9_ok (m : Nat) (a : Int) (b : Int) (c : Int) (d : Int) (o : Int × Int) (h : f9 m a b c d = some o) (w : World) (hI : seatInv w) : Calls Proofs.Tryz.prog 9 #[ii a, ii b, ii c, ii d] w fun e w' => e = .returned (.tuple #[ii o.1, ii o.2]) ∧ Below w.heap.size w w' := by
  refine KC.calls (E := Ep) (args := [ii a, ii b, ii c, ii d]) (v := .tuple #[ii o.1, ii o.2]) rfl rfl (KC.bodyN Ep_ok (F := Proofs.Tryz.f9) (by kernel_rfl) (code := f9_C9) (by kernel_rfl) (nt := 40) (by kernel_rfl) (rs := [.tmp 8, .tmp 9]) (by kernel_rfl) (by kernel_rfl) (σ := [(0, ii a), (1, ii b), (2, ii c), (3, ii d)]) (by kernel_rfl) ?_) w (seatInv_size hI) hI
  unfold f9 at h
  refine XQ.seq Ep_ok (by kernel_rfl) ?_
  refine XQ.region (by kernel_rfl) ?_
  refine XR.runS Ep_ok 1 2 [(0, ii a), (1, ii b), (2, ii c), (3, ii d)] rfl (by kernel_rfl) ?_
  refine XR.done (by kernel_rfl) ?_
  show XQ _ _ _ _ _ _ _ _
  refine XQ.seq Ep_ok (by kernel_rfl) ?_
  refine XQ.block (id := 0) (by kernel_rfl) ?_
  refine XQ.seq Ep_ok (by kernel_rfl) ?_
  refine XQ.region (by kernel_rfl) ?_
  refine XR.runS Ep_ok 1 2 [(0, ii a), (1, ii b), (2, ii c), (3, ii d), (12, ii a), (13, ii b)] rfl (by kernel_rfl) ?_
  obtain ⟨r1, r1_h, h⟩ := bS h
  refine XR.call Ep_ok [0, 1, 2, 3, 14] rfl (K := 18) (args := [ii a, ii b]) (d := (some (path 12 14))) (by kernel_rfl) (KC.of_calls Ep_ok (F := Proofs.Tryz.f18) (v := .bool r1) (by kernel_rfl) rfl rfl (fun w hI => f18_ok m a b r1 r1_h w hI)) ?_
  rintro _ _ _ ⟨rfl, rfl, rfl⟩
  refine XR.conv (σ' := [(0, ii a), (1, ii b), (2, ii c), (3, ii d), (14, .bool r1)]) (h' := []) (c' := 0) ?_ (by kernel_rfl)
  refine XR.runS Ep_ok 1 2 [(0, ii a), (1, ii b), (2, ii c), (3, ii d), (11, .bool (!r1))] rfl (by kernel_rfl) ?_
  refine XR.done (by kernel_rfl) ?_
  show XQ _ _ _ _ _ _ _ _
  cases b1 : (!r1 : Bool) with
  | true =>
    have h := cT b1 h
    refine XQ.cond (s := (.tmp 11)) (b := true) (by kernel_rfl) (by kernel_rfl) (fun _ => ?_) (fun q => by cases q)
    refine XQ.seq Ep_ok (by kernel_rfl) ?_
    refine XQ.region (by kernel_rfl) ?_
    refine XR.runS Ep_ok 1 2 [(8, ii 0), (9, ii 1)] rfl (by kernel_rfl) ?_
    refine XR.done (by kernel_rfl) ?_
    show XQ _ _ _ _ _ _ _ _
    refine XQ.ret (by kernel_rfl) ?_
    have h := Option.some.inj h
    subst h
    exact ⟨fun i q => (by cases q), .tuple #[ii 0, ii 1], (by kernel_rfl), rfl⟩
  | false =>
    have h := cF b1 h
    refine XQ.cond (s := (.tmp 11)) (b := false) (by kernel_rfl) (by kernel_rfl) (fun q => by cases q) (fun _ => ?_)
    refine XQ.seq Ep_ok (by kernel_rfl) ?_
    refine XQ.region (by kernel_rfl) ?_
    refine XR.runS Ep_ok 1 5 [(0, ii a), (1, ii b), (2, ii c), (3, ii d), (21, .bool (decide ((iMin c d) < 0)))] rfl (by kernel_rfl) ?_
    cases b2 : (decide ((iMin c d) < 0) : Bool) with
    | true =>
      have h := cT b2 h
      refine XR.runS Ep_ok 1 7 [(0, ii a), (1, ii b), (2, ii c), (3, ii d), (16, .bool true)] rfl (by kernel_rfl) ?_
      refine XR.done (by kernel_rfl) ?_
      show XQ _ _ _ _ _ _ _ _
      refine XQ.cond (s := (.tmp 16)) (b := true) (by kernel_rfl) (by kernel_rfl) (fun _ => ?_) (fun q => by cases q)
      refine XQ.seq Ep_ok (by kernel_rfl) ?_
      refine XQ.region (by kernel_rfl) ?_
      refine XR.runS Ep_ok 1 2 [(8, ii 0), (9, ii 2)] rfl (by kernel_rfl) ?_
      refine XR.done (by kernel_rfl) ?_
      show XQ _ _ _ _ _ _ _ _
      refine XQ.ret (by kernel_rfl) ?_
      have h := Option.some.inj h
      subst h
      exact ⟨fun i q => (by cases q), .tuple #[ii 0, ii 2], (by kernel_rfl), rfl⟩
    | false =>
      have h := cF b2 h
      refine XR.runS Ep_ok 1 7 [(0, ii a), (1, ii b), (2, ii c), (3, ii d), (16, .bool (decide ((iMax c d) ≥ a)))] rfl (by kernel_rfl) ?_
      refine XR.done (by kernel_rfl) ?_
      show XQ _ _ _ _ _ _ _ _
      cases b3 : (decide ((iMax c d) ≥ a) : Bool) with
      | true =>
        have h := cT b3 h
        refine XQ.cond (s := (.tmp 16)) (b := true) (by kernel_rfl) (by kernel_rfl) (fun _ => ?_) (fun q => by cases q)
        refine XQ.seq Ep_ok (by kernel_rfl) ?_
        refine XQ.region (by kernel_rfl) ?_
        refine XR.runS Ep_ok 1 2 [(8, ii 0), (9, ii 2)] rfl (by kernel_rfl) ?_
        refine XR.done (by kernel_rfl) ?_
        show XQ _ _ _ _ _ _ _ _
        refine XQ.ret (by kernel_rfl) ?_
        have h := Option.some.inj h
        subst h
        exact ⟨fun i q => (by cases q), .tuple #[ii 0, ii 2], (by kernel_rfl), rfl⟩
      | false =>
        have h := cF b3 h
        refine XQ.cond (s := (.tmp 16)) (b := false) (by kernel_rfl) (by kernel_rfl) (fun q => by cases q) (fun _ => ?_)
        refine XQ.seq Ep_ok (by kernel_rfl) ?_
        refine XQ.region (by kernel_rfl) ?_
        refine XR.runS Ep_ok 1 4 [(0, ii a), (1, ii b), (2, ii c), (3, ii d), (28, .bool (decide (c > d)))] rfl (by kernel_rfl) ?_
        refine XR.done (by kernel_rfl) ?_
        show XQ _ _ _ _ _ _ _ _
        cases b4 : (decide (c > d) : Bool) with
        | true =>
          have h := cT b4 h
          refine XQ.cond (s := (.tmp 28)) (b := true) (by kernel_rfl) (by kernel_rfl) (fun _ => ?_) (fun q => by cases q)
          refine XQ.seq Ep_ok (by kernel_rfl) ?_
          refine XQ.region (by kernel_rfl) ?_
          refine XR.runS Ep_ok 1 2 [(8, ii 0), (9, ii 7)] rfl (by kernel_rfl) ?_
          refine XR.done (by kernel_rfl) ?_
          show XQ _ _ _ _ _ _ _ _
          refine XQ.ret (by kernel_rfl) ?_
          have h := Option.some.inj h
          subst h
          exact ⟨fun i q => (by cases q), .tuple #[ii 0, ii 7], (by kernel_rfl), rfl⟩
        | false =>
          have h := cF b4 h
          refine XQ.cond (s := (.tmp 28)) (b := false) (by kernel_rfl) (by kernel_rfl) (fun q => by cases q) (fun _ => ?_)
          refine XQ.skip (by kernel_rfl) ?_
          show XQ _ _ _ _ _ _ _ _
          refine XQ.seq Ep_ok (by kernel_rfl) ?_
          refine XQ.region (by kernel_rfl) ?_
          refine XR.runS Ep_ok 1 4 [(32, ii a), (33, ii b), (34, ii c), (35, ii d)] rfl (by kernel_rfl) ?_
          obtain ⟨r2, r2_h, h⟩ := bS h
          refine XR.call Ep_ok [36] rfl (K := 19) (args := [ii a, ii b, ii c, ii d]) (d := (some (path 12 36))) (by kernel_rfl) (KC.of_calls Ep_ok (F := Proofs.Tryz.f19) (v := ii r2) (by kernel_rfl) rfl rfl (fun w hI => f19_ok m m a b c d r2 r2_h w hI)) ?_
          rintro _ _ _ ⟨rfl, rfl, rfl⟩
          refine XR.conv (σ' := [(36, ii r2)]) (h' := []) (c' := 0) ?_ (by kernel_rfl)
          refine XR.runS Ep_ok 1 1 [(10, ii r2)] rfl (by kernel_rfl) ?_
          refine XR.done (by kernel_rfl) ?_
          show XQ _ _ _ _ _ _ _ _
          refine XQ.seq Ep_ok (by kernel_rfl) ?_
          refine XQ.seq Ep_ok (by kernel_rfl) ?_
          refine XQ.region (by kernel_rfl) ?_
          refine XR.runS Ep_ok 1 2 [(10, ii r2), (38, .bool (decide (r2 < 0)))] rfl (by kernel_rfl) ?_
          refine XR.done (by kernel_rfl) ?_
          show XQ _ _ _ _ _ _ _ _
          cases b5 : (decide (r2 < 0) : Bool) with
          | true =>
            have h := cT b5 h
            refine XQ.cond (s := (.tmp 38)) (b := true) (by kernel_rfl) (by kernel_rfl) (fun _ => ?_) (fun q => by cases q)
            refine XQ.seq Ep_ok (by kernel_rfl) ?_
            refine XQ.region (by kernel_rfl) ?_
            refine XR.runS Ep_ok 1 2 [(8, ii 0), (9, ii 12)] rfl (by kernel_rfl) ?_
            refine XR.done (by kernel_rfl) ?_
            show XQ _ _ _ _ _ _ _ _
            refine XQ.ret (by kernel_rfl) ?_
            have h := Option.some.inj h
            subst h
            exact ⟨fun i q => (by cases q), .tuple #[ii 0, ii 12], (by kernel_rfl), rfl⟩
          | false =>
            have h := cF b5 h
            refine XQ.cond (s := (.tmp 38)) (b := false) (by kernel_rfl) (by kernel_rfl) (fun q => by cases q) (fun _ => ?_)
            refine XQ.skip (by kernel_rfl) ?_
            show XQ _ _ _ _ _ _ _ _
            refine XQ.seq Ep_ok (by kernel_rfl) ?_
            refine XQ.region (by kernel_rfl) ?_
            refine XR.runS Ep_ok 1 3 [(8, ii r2), (9, ii 0)] rfl (by kernel_rfl) ?_
            refine XR.done (by kernel_rfl) ?_
            show XQ _ _ _ _ _ _ _ _
            refine XQ.ret (by kernel_rfl) ?_
            have h := Option.some.inj h
            subst h
            exact ⟨fun i q => (by cases q), .tuple #[ii r2, ii 0], (by kernel_rfl), rfl⟩

/-! vitola/duty.Cents -/
noncomputable def f16_C16 : Code := Proofs.Tryz.f16.body.getD .skip
noncomputable def f16_L1 : Code := lft (lft (rgt (lft (rgt (rgt (rgt (rgt (rgt f16_C16))))))))

def f16_1 (m : Nat) : Nat → Int → List Int → Int → Int → Int → Int → List Int → Option (Int × Int × (List Int))
  | 0, _, _, _, _, _, _, _ => none
  | fuel + 1, a, b, x9_1, x10_1, x27_1, x28_1, lh1_1 =>
    cond (decide (x28_1 < x27_1)) (
      cond (inRow x28_1 b.length) (
        cond ((List.getD b (Int.toNat x28_1) 0) != 0) (
          cond (fitsB (lh1_1.length + 1) 8) (
            f16_1 m fuel a b x9_1 (w64 (x10_1 + (w64 ((Int.tmod a (List.getD b (Int.toNat x28_1) 0)) * (w64 (Int.tdiv x9_1 (List.getD b (Int.toNat x28_1) 0))))))) x27_1 (w64 (x28_1 + 1)) (lh1_1 ++ [w64 (Int.tdiv a (List.getD b (Int.toNat x28_1) 0))])
          ) none
        ) none
      ) none
    ) (
      some (x9_1, x10_1, lh1_1)
    )

theorem f16_1_ok (m : Nat) : ∀ (fuel : Nat) (a : Int) (z0 : Nat) (y0 : Nat) (b : List Int) (x9_1 : Int) (x10_1 : Int) (x27_1 : Int) (x28_1 : Int) (lh1_1 : List Int) (o : (Int × Int × (List Int))), f16_1 m fuel a b x9_1 x10_1 x27_1 x28_1 lh1_1 = some o → ∀ Q : QP, Q (.exit 0) [(4, s0 1 o.2.2.length), (9, ii o.1), (10, ii o.2.1)] [(1, rc (encI .i64) o.2.2 0 3 1), (0, rc (encI .i64) b z0 y0 1)] 2 → XL Ep 52 1 fuel f16_L1 [(0, ii a), (4, s0 1 lh1_1.length), (9, ii x9_1), (10, ii x10_1), (26, s0 0 b.length), (27, ii x27_1), (28, ii x28_1)] [(1, rc (encI .i64) lh1_1 0 3 1), (0, rc (encI .i64) b z0 y0 1)] 2 Q
  | 0, a, z0, y0, b, x9_1, x10_1, x27_1, x28_1, lh1_1, o, h, Q, hQ => by cases h
  | fuel + 1, a, z0, y0, b, x9_1, x10_1, x27_1, x28_1, lh1_1, o, h, Q, hQ => by
    unfold f16_1 at h
    refine XL.succ Ep_ok ?_
    refine XQ.seq Ep_ok (by kernel_rfl) ?_
    refine XQ.region (by kernel_rfl) ?_
    refine XR.runS Ep_ok 1 1 [(0, ii a), (4, s0 1 lh1_1.length), (9, ii x9_1), (10, ii x10_1), (26, s0 0 b.length), (27, ii x27_1), (28, ii x28_1), (29, .bool (decide (x28_1 < x27_1)))] rfl (by kernel_rfl) ?_
    refine XR.done (by kernel_rfl) ?_
    show XQ _ _ _ _ _ _ _ _
    refine XQ.seq Ep_ok (by kernel_rfl) ?_
    cases b1 : (decide (x28_1 < x27_1) : Bool) with
    | true =>
      have h := cT b1 h
      refine XQ.cond (s := (.tmp 29)) (b := true) (by kernel_rfl) (by kernel_rfl) (fun _ => ?_) (fun q => by cases q)
      refine XQ.skip (by kernel_rfl) ?_
      show XQ _ _ _ _ _ _ _ _
      refine XQ.seq Ep_ok (by kernel_rfl) ?_
      refine XQ.block (id := 1) (by kernel_rfl) ?_
      refine XQ.seq Ep_ok (by kernel_rfl) ?_
      refine XQ.region (by kernel_rfl) ?_
      cases b2 : (inRow x28_1 b.length : Bool) with
      | false => cases (cF b2 h)
      | true =>
        have h := cT b2 h
        refine XR.rd Ep_ok [0, 4, 9, 10, 26, 27, 28, 30] rfl (v := pp 0 ((Int.toNat x28_1) * 1)) (v_idx (s := 1) (x := (src 52 (.tmp 26))) (y := (src 52 (.tmp 28))) (b := 0) (o := 0) (len := b.length) (cap := b.length) (ik := .i64) (i := x28_1) (off := (Int.toNat x28_1) * 1) (d := (some (path 12 30))) (by kernel_rfl) (by kernel_rfl) (by kernel_rfl) b2 (by omega)) (σ' := [(0, ii a), (4, s0 1 lh1_1.length), (9, ii x9_1), (10, ii x10_1), (26, s0 0 b.length), (27, ii x27_1), (28, ii x28_1), (30, pp 0 ((Int.toNat x28_1) * 1))]) (by kernel_rfl) ?_
        refine XR.rd Ep_ok [0, 4, 9, 10, 26, 27, 28, 31] rfl (v := ii (List.getD b (Int.toNat x28_1) 0)) (v_load1 (encI_ok .i64) (x := (src 52 (.tmp 30))) (b := 0) (off := (Int.toNat x28_1) * 1) (xs := b) (fz := z0) (e := y0) (es := 1) (d := (some (path 12 31))) (by kernel_rfl) (by kernel_rfl) (by kernel_rfl) (Int.toNat x28_1) 0 0 (by first | with_reducible rfl | omega | rfl) (row_len (inRow_toNat b2) (by simp)) rfl rfl) (σ' := [(0, ii a), (4, s0 1 lh1_1.length), (9, ii x9_1), (10, ii x10_1), (26, s0 0 b.length), (27, ii x27_1), (28, ii x28_1), (31, ii (List.getD b (Int.toNat x28_1) 0))]) (by kernel_rfl) ?_
        refine XR.runS Ep_ok 1 1 [(0, ii a), (4, s0 1 lh1_1.length), (9, ii x9_1), (10, ii x10_1), (12, ii (List.getD b (Int.toNat x28_1) 0)), (26, s0 0 b.length), (27, ii x27_1), (28, ii x28_1)] rfl (by kernel_rfl) ?_
        refine XR.done (by kernel_rfl) ?_
        show XQ _ _ _ _ _ _ _ _
        refine XQ.seq Ep_ok (by kernel_rfl) ?_
        refine XQ.region (by kernel_rfl) ?_
        refine XR.runS Ep_ok 1 3 [(0, ii a), (9, ii x9_1), (10, ii x10_1), (12, ii (List.getD b (Int.toNat x28_1) 0)), (26, s0 0 b.length), (27, ii x27_1), (28, ii x28_1), (32, s0 1 lh1_1.length), (33, ii a), (34, ii (List.getD b (Int.toNat x28_1) 0))] rfl (by kernel_rfl) ?_
        cases b3 : ((List.getD b (Int.toNat x28_1) 0) != 0 : Bool) with
        | false => cases (cF b3 h)
        | true =>
          have h := cT b3 h
          have e4 : insV (headI ((gsOf Ep 52 (opsOf (lft (rgt (lft (lft (rgt (rgt f16_L1)))))))).drop 3) (trS 52 [(0, ii a), (9, ii x9_1), (10, ii x10_1), (12, ii (List.getD b (Int.toNat x28_1) 0)), (26, s0 0 b.length), (27, ii x27_1), (28, ii x28_1), (32, s0 1 lh1_1.length), (33, ii a), (34, ii (List.getD b (Int.toNat x28_1) 0))])) (trS 52 [(0, ii a), (9, ii x9_1), (10, ii x10_1), (12, ii (List.getD b (Int.toNat x28_1) 0)), (26, s0 0 b.length), (27, ii x27_1), (28, ii x28_1), (32, s0 1 lh1_1.length), (33, ii a), (34, ii (List.getD b (Int.toNat x28_1) 0))]) [(1, rc (encI .i64) lh1_1 0 3 1), (0, rc (encI .i64) b z0 y0 1)] = (match ((List.getD b (Int.toNat x28_1) 0) != 0 : Bool) with | true => some (ii (w64 (Int.tdiv a (List.getD b (Int.toNat x28_1) 0)))) | false => none) := by kernel_rfl
          refine XR.rd Ep_ok [0, 9, 10, 12, 26, 27, 28, 32, 35] rfl (e4.trans (by rw [b3])) (σ' := [(0, ii a), (9, ii x9_1), (10, ii x10_1), (12, ii (List.getD b (Int.toNat x28_1) 0)), (26, s0 0 b.length), (27, ii x27_1), (28, ii x28_1), (32, s0 1 lh1_1.length), (35, ii (w64 (Int.tdiv a (List.getD b (Int.toNat x28_1) 0))))]) (by kernel_rfl) ?_
          refine XR.runT Ep_ok 1 1 [(0, ii a), (9, ii x9_1), (10, ii x10_1), (12, ii (List.getD b (Int.toNat x28_1) 0)), (26, s0 0 b.length), (27, ii x27_1), (28, ii x28_1), (32, s0 1 lh1_1.length), (36, s0 2 1)] [(2, .cells [ii (w64 (Int.tdiv a (List.getD b (Int.toNat x28_1) 0)))] 0 3 1), (1, rc (encI .i64) lh1_1 0 3 1), (0, rc (encI .i64) b z0 y0 1)] 3 rfl (by kernel_rfl) ?_
          cases b5 : (fitsB (lh1_1.length + 1) 8 : Bool) with
          | false => cases (cF b5 h)
          | true =>
            have h := cT b5 h
            refine XR.ef Ep_ok [0, 9, 10, 12, 26, 27, 28, 37] rfl (e_append (encI_ok .i64) (bytes := 8) (e := 3) (x := (src 52 (.tmp 32))) (y := (src 52 (.tmp 36))) (b := 1) (len := lh1_1.length) (cap := lh1_1.length) (xs := lh1_1) (m := 0) (ys := [w64 (Int.tdiv a (List.getD b (Int.toNat x28_1) 0))]) (d := (some (path 12 37))) (n' := (lh1_1 ++ [w64 (Int.tdiv a (List.getD b (Int.toNat x28_1) 0))]).length) (h' := [(3, rc (encI .i64) (lh1_1 ++ [w64 (Int.tdiv a (List.getD b (Int.toNat x28_1) 0))]) 0 3 1), (2, .cells [ii (w64 (Int.tdiv a (List.getD b (Int.toNat x28_1) 0)))] 0 3 1), (0, rc (encI .i64) b z0 y0 1)]) (by kernel_rfl) (by kernel_rfl) (by kernel_rfl) (by kernel_rfl) rfl (by simp) (by simp) b5 (by simp) (by kernel_rfl)) (σ' := [(0, ii a), (9, ii x9_1), (10, ii x10_1), (12, ii (List.getD b (Int.toNat x28_1) 0)), (26, s0 0 b.length), (27, ii x27_1), (28, ii x28_1), (37, s0 3 ((lh1_1 ++ [w64 (Int.tdiv a (List.getD b (Int.toNat x28_1) 0))]).length))]) (by kernel_rfl) ?_
            refine XR.runS Ep_ok 1 1 [(0, ii a), (4, s0 3 ((lh1_1 ++ [w64 (Int.tdiv a (List.getD b (Int.toNat x28_1) 0))]).length)), (9, ii x9_1), (10, ii x10_1), (12, ii (List.getD b (Int.toNat x28_1) 0)), (26, s0 0 b.length), (27, ii x27_1), (28, ii x28_1)] rfl (by kernel_rfl) ?_
            refine XR.done (by kernel_rfl) ?_
            show XQ _ _ _ _ _ _ _ _
            refine XQ.quiet Ep_ok (by kernel_rfl) (by kernel_rfl) ?_
            refine XU.run Ep_ok 1 3 [0, 4, 9, 12, 26, 27, 28, 38, 39, 40] rfl (σ' := [(0, ii a), (4, s0 3 ((lh1_1 ++ [w64 (Int.tdiv a (List.getD b (Int.toNat x28_1) 0))]).length)), (9, ii x9_1), (12, ii (List.getD b (Int.toNat x28_1) 0)), (26, s0 0 b.length), (27, ii x27_1), (28, ii x28_1), (38, ii x10_1), (39, ii a), (40, ii (List.getD b (Int.toNat x28_1) 0))]) (by kernel_rfl) ?_
            have e6 : insV (headI ((gsOf Ep 52 (opsOf (rgt (rgt (lft (lft (rgt (rgt f16_L1)))))))).drop 3) (trS 52 [(0, ii a), (4, s0 3 ((lh1_1 ++ [w64 (Int.tdiv a (List.getD b (Int.toNat x28_1) 0))]).length)), (9, ii x9_1), (12, ii (List.getD b (Int.toNat x28_1) 0)), (26, s0 0 b.length), (27, ii x27_1), (28, ii x28_1), (38, ii x10_1), (39, ii a), (40, ii (List.getD b (Int.toNat x28_1) 0))])) (trS 52 [(0, ii a), (4, s0 3 ((lh1_1 ++ [w64 (Int.tdiv a (List.getD b (Int.toNat x28_1) 0))]).length)), (9, ii x9_1), (12, ii (List.getD b (Int.toNat x28_1) 0)), (26, s0 0 b.length), (27, ii x27_1), (28, ii x28_1), (38, ii x10_1), (39, ii a), (40, ii (List.getD b (Int.toNat x28_1) 0))]) [(3, rc (encI .i64) (lh1_1 ++ [w64 (Int.tdiv a (List.getD b (Int.toNat x28_1) 0))]) 0 3 1), (2, .cells [ii (w64 (Int.tdiv a (List.getD b (Int.toNat x28_1) 0)))] 0 3 1), (0, rc (encI .i64) b z0 y0 1)] = (match ((List.getD b (Int.toNat x28_1) 0) != 0 : Bool) with | true => some (ii (Int.tmod a (List.getD b (Int.toNat x28_1) 0))) | false => none) := by kernel_rfl
            refine XU.rd Ep_ok [0, 4, 9, 12, 26, 27, 28, 38, 41] rfl (e6.trans (by rw [b3])) (σ' := [(0, ii a), (4, s0 3 ((lh1_1 ++ [w64 (Int.tdiv a (List.getD b (Int.toNat x28_1) 0))]).length)), (9, ii x9_1), (12, ii (List.getD b (Int.toNat x28_1) 0)), (26, s0 0 b.length), (27, ii x27_1), (28, ii x28_1), (38, ii x10_1), (41, ii (Int.tmod a (List.getD b (Int.toNat x28_1) 0)))]) (by kernel_rfl) ?_
            refine XU.run Ep_ok 1 2 [0, 4, 9, 26, 27, 28, 38, 41, 42, 43] rfl (σ' := [(0, ii a), (4, s0 3 ((lh1_1 ++ [w64 (Int.tdiv a (List.getD b (Int.toNat x28_1) 0))]).length)), (9, ii x9_1), (26, s0 0 b.length), (27, ii x27_1), (28, ii x28_1), (38, ii x10_1), (41, ii (Int.tmod a (List.getD b (Int.toNat x28_1) 0))), (42, ii x9_1), (43, ii (List.getD b (Int.toNat x28_1) 0))]) (by kernel_rfl) ?_
            have e7 : insV (headI ((gsOf Ep 52 (opsOf (rgt (rgt (lft (lft (rgt (rgt f16_L1)))))))).drop 6) (trS 52 [(0, ii a), (4, s0 3 ((lh1_1 ++ [w64 (Int.tdiv a (List.getD b (Int.toNat x28_1) 0))]).length)), (9, ii x9_1), (26, s0 0 b.length), (27, ii x27_1), (28, ii x28_1), (38, ii x10_1), (41, ii (Int.tmod a (List.getD b (Int.toNat x28_1) 0))), (42, ii x9_1), (43, ii (List.getD b (Int.toNat x28_1) 0))])) (trS 52 [(0, ii a), (4, s0 3 ((lh1_1 ++ [w64 (Int.tdiv a (List.getD b (Int.toNat x28_1) 0))]).length)), (9, ii x9_1), (26, s0 0 b.length), (27, ii x27_1), (28, ii x28_1), (38, ii x10_1), (41, ii (Int.tmod a (List.getD b (Int.toNat x28_1) 0))), (42, ii x9_1), (43, ii (List.getD b (Int.toNat x28_1) 0))]) [(3, rc (encI .i64) (lh1_1 ++ [w64 (Int.tdiv a (List.getD b (Int.toNat x28_1) 0))]) 0 3 1), (2, .cells [ii (w64 (Int.tdiv a (List.getD b (Int.toNat x28_1) 0)))] 0 3 1), (0, rc (encI .i64) b z0 y0 1)] = (match ((List.getD b (Int.toNat x28_1) 0) != 0 : Bool) with | true => some (ii (w64 (Int.tdiv x9_1 (List.getD b (Int.toNat x28_1) 0)))) | false => none) := by kernel_rfl
            refine XU.rd Ep_ok [0, 4, 9, 26, 27, 28, 38, 41, 44] rfl (e7.trans (by rw [b3])) (σ' := [(0, ii a), (4, s0 3 ((lh1_1 ++ [w64 (Int.tdiv a (List.getD b (Int.toNat x28_1) 0))]).length)), (9, ii x9_1), (26, s0 0 b.length), (27, ii x27_1), (28, ii x28_1), (38, ii x10_1), (41, ii (Int.tmod a (List.getD b (Int.toNat x28_1) 0))), (44, ii (w64 (Int.tdiv x9_1 (List.getD b (Int.toNat x28_1) 0))))]) (by kernel_rfl) ?_
            refine XU.run Ep_ok 1 3 [0, 4, 9, 10, 26, 27, 28] rfl (σ' := [(0, ii a), (4, s0 3 ((lh1_1 ++ [w64 (Int.tdiv a (List.getD b (Int.toNat x28_1) 0))]).length)), (9, ii x9_1), (10, ii (w64 (x10_1 + (w64 ((Int.tmod a (List.getD b (Int.toNat x28_1) 0)) * (w64 (Int.tdiv x9_1 (List.getD b (Int.toNat x28_1) 0)))))))), (26, s0 0 b.length), (27, ii x27_1), (28, ii x28_1)]) (by kernel_rfl) ?_
            refine XU.done (by kernel_rfl) ?_
            show XQ _ _ _ _ _ _ _ _
            refine XQ.region (by kernel_rfl) ?_
            refine XR.runS Ep_ok 1 2 [(0, ii a), (4, s0 3 ((lh1_1 ++ [w64 (Int.tdiv a (List.getD b (Int.toNat x28_1) 0))]).length)), (9, ii x9_1), (10, ii (w64 (x10_1 + (w64 ((Int.tmod a (List.getD b (Int.toNat x28_1) 0)) * (w64 (Int.tdiv x9_1 (List.getD b (Int.toNat x28_1) 0)))))))), (26, s0 0 b.length), (27, ii x27_1), (28, ii (w64 (x28_1 + 1)))] rfl (by kernel_rfl) ?_
            refine XR.done (by kernel_rfl) ?_
            show XL _ _ _ _ _ _ _ _ _
            refine XL.ren (σ' := [(0, ii a), (4, s0 1 ((lh1_1 ++ [w64 (Int.tdiv a (List.getD b (Int.toNat x28_1) 0))]).length)), (9, ii x9_1), (10, ii (w64 (x10_1 + (w64 ((Int.tmod a (List.getD b (Int.toNat x28_1) 0)) * (w64 (Int.tdiv x9_1 (List.getD b (Int.toNat x28_1) 0)))))))), (26, s0 0 b.length), (27, ii x27_1), (28, ii (w64 (x28_1 + 1)))]) (h' := [(1, rc (encI .i64) (lh1_1 ++ [w64 (Int.tdiv a (List.getD b (Int.toNat x28_1) 0))]) 0 3 1), (0, rc (encI .i64) b z0 y0 1)]) (c' := 2) [0, 3] (by decide) rfl ⟨by kernel_rfl, by kernel_rfl, by kernel_rfl, by kernel_rfl, by kernel_rfl, by kernel_rfl, by kernel_rfl, trivial⟩ ⟨⟨_, _, rfl, rfl, .inl ⟨rfl, rowC_scal (encI_ok .i64) _⟩⟩, ⟨_, _, rfl, rfl, .inl ⟨rfl, rowC_scal (encI_ok .i64) _⟩⟩, trivial⟩ rfl ?_
            refine XL.conv (f16_1_ok m fuel a z0 y0 b x9_1 (w64 (x10_1 + (w64 ((Int.tmod a (List.getD b (Int.toNat x28_1) 0)) * (w64 (Int.tdiv x9_1 (List.getD b (Int.toNat x28_1) 0))))))) x27_1 (w64 (x28_1 + 1)) (lh1_1 ++ [w64 (Int.tdiv a (List.getD b (Int.toNat x28_1) 0))]) o h Q hQ) (by first | with_reducible rfl | simp | rfl)
    | false =>
      have h := cF b1 h
      refine XQ.cond (s := (.tmp 29)) (b := false) (by kernel_rfl) (by kernel_rfl) (fun q => by cases q) (fun _ => ?_)
      refine XQ.ren (σ' := [(4, s0 1 lh1_1.length), (9, ii x9_1), (10, ii x10_1)]) (h' := [(1, rc (encI .i64) lh1_1 0 3 1), (0, rc (encI .i64) b z0 y0 1)]) (c' := 2) [0, 1] (by decide) rfl ⟨by kernel_rfl, by kernel_rfl, by kernel_rfl, trivial⟩ ⟨⟨_, _, rfl, rfl, .inl ⟨rfl, rowC_scal (encI_ok .i64) _⟩⟩, ⟨_, _, rfl, rfl, .inl ⟨rfl, rowC_scal (encI_ok .i64) _⟩⟩, trivial⟩ rfl ?_
      refine XQ.exit (i := 0) (by kernel_rfl) ?_
      cases h
      exact hQ

def f16 (m : Nat) (a : Int) (b : List Int) : Option ((List Int) × Int × Int) :=
  (f29 m a 0 100000).bind fun r1 =>
    cond (!r1) (
      some ([], 0, 1)
    ) (
      (f14 m b).bind fun r2 =>
        cond (r2 != 0) (
          some ([], 0, r2)
        ) (
          (f30 m b).bind fun r3 =>
            (f16_1 m m a b r3.2 0 ((b.length : Nat) : Int) 0 []).bind fun o1 =>
              cond (o1.1 != 0) (
                some (o1.2.2, w64 (Int.tdiv o1.2.1 o1.1), 0)
              ) none
        )
    )

theorem f16_ok (m : Nat) (z0 : Nat) (y0 : Nat) (a : Int) (b : List Int) (o : (List Int) × Int × Int) (h : f16 m a b = some o) : KC Ep 16 [ii a, s0 0 b.length] [(0, rc (encI .i64) b z0 y0 1)] 1 (fun v h' c' => v = .tuple #[s0 1 o.1.length, ii o.2.1, ii o.2.2] ∧ h' = [(1, rc (encI .i64) o.1 0 3 1)] ++ [(0, rc (encI .i64) b z0 y0 1)] ∧ c' = 2) := by
  refine KC.bodyN Ep_ok (F := Proofs.Tryz.f16) (by kernel_rfl) (code := f16_C16) (by kernel_rfl) (nt := 52) (by kernel_rfl) (rs := [.tmp 4, .tmp 5, .tmp 6]) (by kernel_rfl) (by kernel_rfl) (σ := [(0, ii a), (1, s0 0 b.length)]) (by kernel_rfl) ?_
  unfold f16 at h
  refine XQ.seq Ep_ok (by kernel_rfl) ?_
  refine XQ.region (by kernel_rfl) ?_
  refine XR.runS Ep_ok 1 3 [(0, ii a), (1, s0 0 b.length), (4, .slice none 0 0)] rfl (by kernel_rfl) ?_
  refine XR.done (by kernel_rfl) ?_
  show XQ _ _ _ _ _ _ _ _
  refine XQ.ghost 3 1 rfl (σ' := [(0, ii a), (1, s0 0 b.length), (4, s0 1 0)]) (h' := [(0, rc (encI .i64) b z0 y0 1)]) ⟨by kernel_rfl, by kernel_rfl, by kernel_rfl, trivial⟩ ⟨⟨_, rfl, .inl rfl⟩, trivial⟩ ?_
  refine XQ.conv (σ' := [(0, ii a), (1, s0 0 b.length), (4, s0 1 0)]) (h' := [(1, rc (encI .i64) [] 0 3 1), (0, rc (encI .i64) b z0 y0 1)]) (c' := 2) ?_ (by kernel_rfl)
  refine XQ.seq Ep_ok (by kernel_rfl) ?_
  refine XQ.seq Ep_ok (by kernel_rfl) ?_
  refine XQ.region (by kernel_rfl) ?_
  refine XR.runS Ep_ok 1 1 [(0, ii a), (1, s0 0 b.length), (4, s0 1 0), (13, ii a)] rfl (by kernel_rfl) ?_
  obtain ⟨r1, r1_h, h⟩ := bS h
  refine XR.call Ep_ok [0, 1, 4, 14] rfl (K := 29) (args := [ii a, ii 0, ii 100000]) (d := (some (path 12 14))) (by kernel_rfl) (KC.of_calls Ep_ok (F := Proofs.Tryz.f29) (v := .bool r1) (by kernel_rfl) rfl rfl (fun w hI => f29_ok m a 0 100000 r1 r1_h w hI)) ?_
  rintro _ _ _ ⟨rfl, rfl, rfl⟩
  refine XR.conv (σ' := [(0, ii a), (1, s0 0 b.length), (4, s0 1 0), (14, .bool r1)]) (h' := [(1, rc (encI .i64) [] 0 3 1), (0, rc (encI .i64) b z0 y0 1)]) (c' := 2) ?_ (by kernel_rfl)
  refine XR.runS Ep_ok 1 1 [(0, ii a), (1, s0 0 b.length), (4, s0 1 0), (15, .bool (!r1))] rfl (by kernel_rfl) ?_
  refine XR.done (by kernel_rfl) ?_
  show XQ _ _ _ _ _ _ _ _
  cases b1 : (!r1 : Bool) with
  | true =>
    have h := cT b1 h
    refine XQ.cond (s := (.tmp 15)) (b := true) (by kernel_rfl) (by kernel_rfl) (fun _ => ?_) (fun q => by cases q)
    refine XQ.seq Ep_ok (by kernel_rfl) ?_
    refine XQ.region (by kernel_rfl) ?_
    refine XR.runS Ep_ok 1 3 [(4, .slice none 0 0), (5, ii 0), (6, ii 1)] rfl (by kernel_rfl) ?_
    refine XR.done (by kernel_rfl) ?_
    show XQ _ _ _ _ _ _ _ _
    refine XQ.ghost 3 1 rfl (σ' := [(4, s0 2 0), (5, ii 0), (6, ii 1)]) (h' := [(1, rc (encI .i64) [] 0 3 1), (0, rc (encI .i64) b z0 y0 1)]) ⟨by kernel_rfl, by kernel_rfl, by kernel_rfl, trivial⟩ ⟨⟨_, rfl, .inl rfl⟩, ⟨_, rfl, .inl rfl⟩, trivial⟩ ?_
    refine XQ.conv (σ' := [(4, s0 2 0), (5, ii 0), (6, ii 1)]) (h' := [(2, rc (encI .i64) [] 0 3 1), (1, rc (encI .i64) [] 0 3 1), (0, rc (encI .i64) b z0 y0 1)]) (c' := 3) ?_ (by kernel_rfl)
    refine XQ.ren (σ' := [(4, s0 1 0), (5, ii 0), (6, ii 1)]) (h' := [(1, rc (encI .i64) [] 0 3 1), (0, rc (encI .i64) b z0 y0 1)]) (c' := 2) [0, 2] (by decide) rfl ⟨by kernel_rfl, by kernel_rfl, by kernel_rfl, trivial⟩ ⟨⟨_, _, rfl, rfl, .inl ⟨rfl, rowC_scal (encI_ok .i64) _⟩⟩, ⟨_, _, rfl, rfl, .inl ⟨rfl, rowC_scal (encI_ok .i64) _⟩⟩, trivial⟩ rfl ?_
    refine XQ.ret (by kernel_rfl) ?_
    have h := Option.some.inj h
    subst h
    exact ⟨fun i q => (by cases q), .tuple #[s0 1 0, ii 0, ii 1], (by kernel_rfl), (by kernel_rfl), (by kernel_rfl), rfl⟩
  | false =>
    have h := cF b1 h
    refine XQ.cond (s := (.tmp 15)) (b := false) (by kernel_rfl) (by kernel_rfl) (fun q => by cases q) (fun _ => ?_)
    refine XQ.skip (by kernel_rfl) ?_
    show XQ _ _ _ _ _ _ _ _
    refine XQ.seq Ep_ok (by kernel_rfl) ?_
    refine XQ.seq Ep_ok (by kernel_rfl) ?_
    refine XQ.region (by kernel_rfl) ?_
    refine XR.runS Ep_ok 1 1 [(0, ii a), (1, s0 0 b.length), (4, s0 1 0), (16, s0 0 b.length)] rfl (by kernel_rfl) ?_
    obtain ⟨r2, r2_h, h⟩ := bS h
    refine XR.call Ep_ok [0, 1, 4, 17] rfl (K := 14) (args := [s0 0 b.length]) (d := (some (path 12 17))) (by kernel_rfl) (KQ.call (KC.quiet Ep_ok (args0 := [s0 0 b.length]) (h0 := [(0, rc (encI .i64) b (z0 + ((rowC (encI .i64) b).length + 1)) y0 1)]) (n := 1) (V := ii r2) [0] (f14_ok m (z0 + ((rowC (encI .i64) b).length + 1)) y0 b r2 r2_h) rfl (by rfl) (by decide) rfl (by kernel_rfl) ⟨⟨_, _, rfl, rfl, .inl ⟨rfl, rowC_scal (encI_ok .i64) _⟩⟩, trivial⟩) rfl) ?_
    rintro _ _ _ ⟨rfl, rfl, rfl⟩
    refine XR.conv (σ' := [(0, ii a), (1, s0 0 b.length), (4, s0 1 0), (17, ii r2)]) (h' := [(1, rc (encI .i64) [] 0 3 1), (0, rc (encI .i64) b z0 y0 1)]) (c' := 2) ?_ (by kernel_rfl)
    refine XR.runS Ep_ok 1 1 [(0, ii a), (1, s0 0 b.length), (4, s0 1 0), (7, ii r2)] rfl (by kernel_rfl) ?_
    refine XR.done (by kernel_rfl) ?_
    show XQ _ _ _ _ _ _ _ _
    refine XQ.seq Ep_ok (by kernel_rfl) ?_
    refine XQ.region (by kernel_rfl) ?_
    refine XR.runS Ep_ok 1 2 [(0, ii a), (1, s0 0 b.length), (4, s0 1 0), (7, ii r2), (19, .bool (r2 != 0))] rfl (by kernel_rfl) ?_
    refine XR.done (by kernel_rfl) ?_
    show XQ _ _ _ _ _ _ _ _
    cases b2 : (r2 != 0 : Bool) with
    | true =>
      have h := cT b2 h
      refine XQ.cond (s := (.tmp 19)) (b := true) (by kernel_rfl) (by kernel_rfl) (fun _ => ?_) (fun q => by cases q)
      refine XQ.seq Ep_ok (by kernel_rfl) ?_
      refine XQ.region (by kernel_rfl) ?_
      refine XR.runS Ep_ok 1 4 [(4, .slice none 0 0), (5, ii 0), (6, ii r2)] rfl (by kernel_rfl) ?_
      refine XR.done (by kernel_rfl) ?_
      show XQ _ _ _ _ _ _ _ _
      refine XQ.ghost 3 1 rfl (σ' := [(4, s0 2 0), (5, ii 0), (6, ii r2)]) (h' := [(1, rc (encI .i64) [] 0 3 1), (0, rc (encI .i64) b z0 y0 1)]) ⟨by kernel_rfl, by kernel_rfl, by kernel_rfl, trivial⟩ ⟨⟨_, rfl, .inl rfl⟩, ⟨_, rfl, .inl rfl⟩, trivial⟩ ?_
      refine XQ.conv (σ' := [(4, s0 2 0), (5, ii 0), (6, ii r2)]) (h' := [(2, rc (encI .i64) [] 0 3 1), (1, rc (encI .i64) [] 0 3 1), (0, rc (encI .i64) b z0 y0 1)]) (c' := 3) ?_ (by kernel_rfl)
      refine XQ.ren (σ' := [(4, s0 1 0), (5, ii 0), (6, ii r2)]) (h' := [(1, rc (encI .i64) [] 0 3 1), (0, rc (encI .i64) b z0 y0 1)]) (c' := 2) [0, 2] (by decide) rfl ⟨by kernel_rfl, by kernel_rfl, by kernel_rfl, trivial⟩ ⟨⟨_, _, rfl, rfl, .inl ⟨rfl, rowC_scal (encI_ok .i64) _⟩⟩, ⟨_, _, rfl, rfl, .inl ⟨rfl, rowC_scal (encI_ok .i64) _⟩⟩, trivial⟩ rfl ?_
      refine XQ.ret (by kernel_rfl) ?_
      have h := Option.some.inj h
      subst h
      exact ⟨fun i q => (by cases q), .tuple #[s0 1 0, ii 0, ii r2], (by kernel_rfl), (by kernel_rfl), (by kernel_rfl), rfl⟩
    | false =>
      have h := cF b2 h
      refine XQ.cond (s := (.tmp 19)) (b := false) (by kernel_rfl) (by kernel_rfl) (fun q => by cases q) (fun _ => ?_)
      refine XQ.skip (by kernel_rfl) ?_
      show XQ _ _ _ _ _ _ _ _
      refine XQ.seq Ep_ok (by kernel_rfl) ?_
      refine XQ.region (by kernel_rfl) ?_
      refine XR.runS Ep_ok 1 1 [(0, ii a), (1, s0 0 b.length), (4, s0 1 0), (22, s0 0 b.length)] rfl (by kernel_rfl) ?_
      obtain ⟨r3, r3_h, h⟩ := bS h
      refine XR.call Ep_ok [0, 1, 4, 23] rfl (K := 30) (args := [s0 0 b.length]) (d := (some (path 12 23))) (by kernel_rfl) (KQ.call (KC.quiet Ep_ok (args0 := [s0 0 b.length]) (h0 := [(0, rc (encI .i64) b (z0 + ((rowC (encI .i64) b).length + 1)) y0 1)]) (n := 1) (V := .tuple #[ii r3.1, ii r3.2]) [0] (f30_ok m (z0 + ((rowC (encI .i64) b).length + 1)) y0 b r3 r3_h) rfl (by rfl) (by decide) rfl (by kernel_rfl) ⟨⟨_, _, rfl, rfl, .inl ⟨rfl, rowC_scal (encI_ok .i64) _⟩⟩, trivial⟩) rfl) ?_
      rintro _ _ _ ⟨rfl, rfl, rfl⟩
      refine XR.conv (σ' := [(0, ii a), (1, s0 0 b.length), (4, s0 1 0), (23, .tuple #[ii r3.1, ii r3.2])]) (h' := [(1, rc (encI .i64) [] 0 3 1), (0, rc (encI .i64) b z0 y0 1)]) (c' := 2) ?_ (by kernel_rfl)
      refine XR.runS Ep_ok 1 5 [(0, ii a), (1, s0 0 b.length), (4, s0 1 0), (9, ii r3.2)] rfl (by kernel_rfl) ?_
      refine XR.done (by kernel_rfl) ?_
      show XQ _ _ _ _ _ _ _ _
      refine XQ.seq Ep_ok (by kernel_rfl) ?_
      refine XQ.region (by kernel_rfl) ?_
      refine XR.runS Ep_ok 1 1 [(0, ii a), (1, s0 0 b.length), (4, s0 1 0), (9, ii r3.2), (10, ii 0)] rfl (by kernel_rfl) ?_
      refine XR.done (by kernel_rfl) ?_
      show XQ _ _ _ _ _ _ _ _
      refine XQ.seq Ep_ok (by kernel_rfl) ?_
      refine XQ.seq Ep_ok (by kernel_rfl) ?_
      refine XQ.region (by kernel_rfl) ?_
      refine XR.runS Ep_ok 1 3 [(0, ii a), (4, s0 1 0), (9, ii r3.2), (10, ii 0), (26, s0 0 b.length), (27, ii ((b.length : Nat) : Int)), (28, ii 0)] rfl (by kernel_rfl) ?_
      refine XR.done (by kernel_rfl) ?_
      show XQ _ _ _ _ _ _ _ _
      refine XQ.block (id := 0) (by kernel_rfl) ?_
      refine XQ.loop m (by kernel_rfl) ?_
      obtain ⟨o1, o1_h, h⟩ := bS h
      refine XL.ren (σ' := [(0, ii a), (4, s0 1 0), (9, ii r3.2), (10, ii 0), (26, s0 0 b.length), (27, ii ((b.length : Nat) : Int)), (28, ii 0)]) (h' := [(1, rc (encI .i64) [] 0 3 1), (0, rc (encI .i64) b z0 y0 1)]) (c' := 2) [0, 1] (by decide) rfl ⟨by kernel_rfl, by kernel_rfl, by kernel_rfl, by kernel_rfl, by kernel_rfl, by kernel_rfl, by kernel_rfl, trivial⟩ ⟨⟨_, _, rfl, rfl, .inl ⟨rfl, rowC_scal (encI_ok .i64) _⟩⟩, ⟨_, _, rfl, rfl, .inl ⟨rfl, rowC_scal (encI_ok .i64) _⟩⟩, trivial⟩ rfl ?_
      refine XL.conv (f16_1_ok m m a z0 y0 b r3.2 0 ((b.length : Nat) : Int) 0 [] o1 o1_h _ ?_) (by first | with_reducible rfl | simp | rfl)
      show XQ _ _ _ _ _ _ _ _
      refine XQ.seq Ep_ok (by kernel_rfl) ?_
      refine XQ.quiet Ep_ok (by kernel_rfl) (by kernel_rfl) ?_
      refine XU.run Ep_ok 1 3 [48, 49, 50] rfl (σ' := [(48, s0 1 o1.2.2.length), (49, ii o1.2.1), (50, ii o1.1)]) (by kernel_rfl) ?_
      cases b4 : (o1.1 != 0 : Bool) with
      | false => cases (cF b4 h)
      | true =>
        have h := cT b4 h
        have e5 : insV (headI ((gsOf Ep 52 (opsOf (lft (rgt (rgt (rgt (rgt (rgt (rgt f16_C16))))))))).drop 3) (trS 52 [(48, s0 1 o1.2.2.length), (49, ii o1.2.1), (50, ii o1.1)])) (trS 52 [(48, s0 1 o1.2.2.length), (49, ii o1.2.1), (50, ii o1.1)]) [(1, rc (encI .i64) o1.2.2 0 3 1), (0, rc (encI .i64) b z0 y0 1)] = (match (o1.1 != 0 : Bool) with | true => some (ii (w64 (Int.tdiv o1.2.1 o1.1))) | false => none) := by kernel_rfl
        refine XU.rd Ep_ok [48, 51] rfl (e5.trans (by rw [b4])) (σ' := [(48, s0 1 o1.2.2.length), (51, ii (w64 (Int.tdiv o1.2.1 o1.1)))]) (by kernel_rfl) ?_
        refine XU.run Ep_ok 1 3 [4, 5, 6] rfl (σ' := [(4, s0 1 o1.2.2.length), (5, ii (w64 (Int.tdiv o1.2.1 o1.1))), (6, ii 0)]) (by kernel_rfl) ?_
        refine XU.done (by kernel_rfl) ?_
        show XQ _ _ _ _ _ _ _ _
        refine XQ.ren (σ' := [(4, s0 1 o1.2.2.length), (5, ii (w64 (Int.tdiv o1.2.1 o1.1))), (6, ii 0)]) (h' := [(1, rc (encI .i64) o1.2.2 0 3 1), (0, rc (encI .i64) b z0 y0 1)]) (c' := 2) [0, 1] (by decide) rfl ⟨by kernel_rfl, by kernel_rfl, by kernel_rfl, trivial⟩ ⟨⟨_, _, rfl, rfl, .inl ⟨rfl, rowC_scal (encI_ok .i64) _⟩⟩, ⟨_, _, rfl, rfl, .inl ⟨rfl, rowC_scal (encI_ok .i64) _⟩⟩, trivial⟩ rfl ?_
        refine XQ.ret (by kernel_rfl) ?_
        have h := Option.some.inj h
        subst h
        exact ⟨fun i q => (by cases q), .tuple #[s0 1 o1.2.2.length, ii (w64 (Int.tdiv o1.2.1 o1.1)), ii 0], (by kernel_rfl), (by kernel_rfl), (by kernel_rfl), rfl⟩

/-! vitola/duty.Reduced -/
noncomputable def f5_C5 : Code := Proofs.Tryz.f5.body.getD .skip

def f5 (m : Nat) (a_Above : Int) (a_Below : Int) : Option (Int × Int × Int) :=
  (f17 m a_Above a_Below).bind fun r1 =>
    some (r1.1, r1.2.1, r1.2.2)

theorem f5_ok (m : Nat) (a_Above : Int) (a_Below : Int) (o : Int × Int × Int) (h : f5 m a_Above a_Below = some o) (w : World) (hI : seatInv w) : Calls Proofs.Tryz.prog 5 #[.agg #[ii a_Above, ii a_Below]] w fun e w' => e = .returned (.tuple #[.agg #[ii o.1, ii o.2.1], ii o.2.2]) ∧ Below w.heap.size w w' := by
  refine KC.calls (E := Ep) (args := [.agg #[ii a_Above, ii a_Below]]) (v := .tuple #[.agg #[ii o.1, ii o.2.1], ii o.2.2]) rfl rfl (KC.bodyN Ep_ok (F := Proofs.Tryz.f5) (by kernel_rfl) (code := f5_C5) (by kernel_rfl) (nt := 8) (by kernel_rfl) (rs := [.cell 2 23, .tmp 3]) (by kernel_rfl) (by kernel_rfl) (σ := [(0, .agg #[ii a_Above, ii a_Below])]) (by kernel_rfl) ?_) w (seatInv_size hI) hI
  unfold f5 at h
  refine XQ.seq Ep_ok (by kernel_rfl) ?_
  refine XQ.region (by kernel_rfl) ?_
  refine XR.runT Ep_ok 1 3 [(1, pp 0 0), (2, pp 1 0)] [(1, .cells [ii 0, ii 0] 0 23 0), (0, .cells [ii a_Above, ii a_Below] 0 23 0)] 2 rfl (by kernel_rfl) ?_
  refine XR.done (by kernel_rfl) ?_
  show XQ _ _ _ _ _ _ _ _
  refine XQ.seq Ep_ok (by kernel_rfl) ?_
  refine XQ.region (by kernel_rfl) ?_
  refine XR.runS Ep_ok 1 1 [(2, pp 1 0), (4, .agg #[ii a_Above, ii a_Below])] rfl (by kernel_rfl) ?_
  obtain ⟨r1, r1_h, h⟩ := bS h
  refine XR.call Ep_ok [2, 5] rfl (K := 17) (args := [.agg #[ii a_Above, ii a_Below]]) (d := (some (path 12 5))) (by kernel_rfl) (KC.of_calls Ep_ok (F := Proofs.Tryz.f17) (v := .tuple #[.agg #[ii r1.1, ii r1.2.1], ii r1.2.2]) (by kernel_rfl) rfl rfl (fun w hI => f17_ok m a_Above a_Below r1 r1_h w hI)) ?_
  rintro _ _ _ ⟨rfl, rfl, rfl⟩
  refine XR.conv (σ' := [(2, pp 1 0), (5, .tuple #[.agg #[ii r1.1, ii r1.2.1], ii r1.2.2])]) (h' := [(1, .cells [ii 0, ii 0] 0 23 0), (0, .cells [ii a_Above, ii a_Below] 0 23 0)]) (c' := 2) ?_ (by kernel_rfl)
  refine XR.runT Ep_ok 1 4 [(2, pp 1 0), (3, ii r1.2.2)] [(1, .cells [ii r1.1, ii r1.2.1] 0 23 0), (0, .cells [ii a_Above, ii a_Below] 0 23 0)] 2 rfl (by kernel_rfl) ?_
  refine XR.done (by kernel_rfl) ?_
  show XQ _ _ _ _ _ _ _ _
  refine XQ.ret (by kernel_rfl) ?_
  have h := Option.some.inj h
  subst h
  exact ⟨fun i q => (by cases q), .tuple #[.agg #[ii r1.1, ii r1.2.1], ii r1.2.2], (by kernel_rfl), rfl⟩

/-! vitola/duty.Greedy -/
noncomputable def f8_C8 : Code := Proofs.Tryz.f8.body.getD .skip
noncomputable def f8_L1 : Code := lft (lft (rgt (rgt (rgt (rgt f8_C8)))))

def f8_1 (m : Nat) : Nat → Int → Int → List Int → Option (Int × (List Int))
  | 0, _, _, _ => none
  | fuel + 1, xh0_0_1, xh0_1_1, lh1_1 =>
    cond (xh0_0_1 != 0) (
      cond (decide ((w64 ((w64 (Int.tdiv (w64 (xh0_1_1 - 1)) xh0_0_1)) + 1)) > 2000)) (
        some (15, [])
      ) (
        cond (fitsB (lh1_1.length + 1) 8) (
          cond ((w64 ((w64 (xh0_0_1 * (w64 ((w64 (Int.tdiv (w64 (xh0_1_1 - 1)) xh0_0_1)) + 1)))) - xh0_1_1)) == 0) (
            some (0, lh1_1 ++ [w64 ((w64 (Int.tdiv (w64 (xh0_1_1 - 1)) xh0_0_1)) + 1)])
          ) (
            f8_1 m fuel (w64 ((w64 (xh0_0_1 * (w64 ((w64 (Int.tdiv (w64 (xh0_1_1 - 1)) xh0_0_1)) + 1)))) - xh0_1_1)) (w64 (xh0_1_1 * (w64 ((w64 (Int.tdiv (w64 (xh0_1_1 - 1)) xh0_0_1)) + 1)))) (lh1_1 ++ [w64 ((w64 (Int.tdiv (w64 (xh0_1_1 - 1)) xh0_0_1)) + 1)])
          )
        ) none
      )
    ) none

theorem f8_1_ok (m : Nat) : ∀ (fuel : Nat) (xh0_0_1 : Int) (xh0_1_1 : Int) (lh1_1 : List Int) (o : (Int × (List Int))), f8_1 m fuel xh0_0_1 xh0_1_1 lh1_1 = some o → ∀ Q : QP, Q .ret [(2, s0 0 o.2.length), (3, ii o.1)] [(0, rc (encI .i64) o.2 0 3 1)] 1 → XL Ep 45 0 fuel f8_L1 [(4, pp 0 0), (6, s0 1 lh1_1.length)] [(1, rc (encI .i64) lh1_1 0 3 1), (0, .cells [ii xh0_0_1, ii xh0_1_1] 0 23 0)] 2 Q
  | 0, xh0_0_1, xh0_1_1, lh1_1, o, h, Q, hQ => by cases h
  | fuel + 1, xh0_0_1, xh0_1_1, lh1_1, o, h, Q, hQ => by
    unfold f8_1 at h
    refine XL.succ Ep_ok ?_
    refine XQ.block (id := 1) (by kernel_rfl) ?_
    refine XQ.seq Ep_ok (by kernel_rfl) ?_
    refine XQ.region (by kernel_rfl) ?_
    refine XR.runS Ep_ok 1 5 [(4, pp 0 0), (6, s0 1 lh1_1.length), (18, ii (w64 (xh0_1_1 - 1))), (20, ii xh0_0_1)] rfl (by kernel_rfl) ?_
    cases b1 : (xh0_0_1 != 0 : Bool) with
    | false => cases (cF b1 h)
    | true =>
      have h := cT b1 h
      have e2 : insV (headI ((gsOf Ep 45 (opsOf (lft (lft f8_L1)))).drop 5) (trS 45 [(4, pp 0 0), (6, s0 1 lh1_1.length), (18, ii (w64 (xh0_1_1 - 1))), (20, ii xh0_0_1)])) (trS 45 [(4, pp 0 0), (6, s0 1 lh1_1.length), (18, ii (w64 (xh0_1_1 - 1))), (20, ii xh0_0_1)]) [(1, rc (encI .i64) lh1_1 0 3 1), (0, .cells [ii xh0_0_1, ii xh0_1_1] 0 23 0)] = (match (xh0_0_1 != 0 : Bool) with | true => some (ii (w64 (Int.tdiv (w64 (xh0_1_1 - 1)) xh0_0_1))) | false => none) := by kernel_rfl
      refine XR.rd Ep_ok [4, 6, 21] rfl (e2.trans (by rw [b1])) (σ' := [(4, pp 0 0), (6, s0 1 lh1_1.length), (21, ii (w64 (Int.tdiv (w64 (xh0_1_1 - 1)) xh0_0_1)))]) (by kernel_rfl) ?_
      refine XR.runS Ep_ok 1 2 [(4, pp 0 0), (6, s0 1 lh1_1.length), (7, ii (w64 ((w64 (Int.tdiv (w64 (xh0_1_1 - 1)) xh0_0_1)) + 1)))] rfl (by kernel_rfl) ?_
      refine XR.done (by kernel_rfl) ?_
      show XQ _ _ _ _ _ _ _ _
      refine XQ.seq Ep_ok (by kernel_rfl) ?_
      refine XQ.seq Ep_ok (by kernel_rfl) ?_
      refine XQ.region (by kernel_rfl) ?_
      refine XR.runS Ep_ok 1 2 [(4, pp 0 0), (6, s0 1 lh1_1.length), (7, ii (w64 ((w64 (Int.tdiv (w64 (xh0_1_1 - 1)) xh0_0_1)) + 1))), (24, .bool (decide ((w64 ((w64 (Int.tdiv (w64 (xh0_1_1 - 1)) xh0_0_1)) + 1)) > 2000)))] rfl (by kernel_rfl) ?_
      refine XR.done (by kernel_rfl) ?_
      show XQ _ _ _ _ _ _ _ _
      cases b3 : (decide ((w64 ((w64 (Int.tdiv (w64 (xh0_1_1 - 1)) xh0_0_1)) + 1)) > 2000) : Bool) with
      | true =>
        have h := cT b3 h
        refine XQ.cond (s := (.tmp 24)) (b := true) (by kernel_rfl) (by kernel_rfl) (fun _ => ?_) (fun q => by cases q)
        refine XQ.seq Ep_ok (by kernel_rfl) ?_
        refine XQ.region (by kernel_rfl) ?_
        refine XR.runS Ep_ok 1 2 [(2, .slice none 0 0), (3, ii 15)] rfl (by kernel_rfl) ?_
        refine XR.done (by kernel_rfl) ?_
        show XQ _ _ _ _ _ _ _ _
        refine XQ.ghost 3 1 rfl (σ' := [(2, s0 2 0), (3, ii 15)]) (h' := [(1, rc (encI .i64) lh1_1 0 3 1), (0, .cells [ii xh0_0_1, ii xh0_1_1] 0 23 0)]) ⟨by kernel_rfl, by kernel_rfl, trivial⟩ ⟨⟨_, rfl, .inl rfl⟩, ⟨_, rfl, .inl rfl⟩, trivial⟩ ?_
        refine XQ.conv (σ' := [(2, s0 2 0), (3, ii 15)]) (h' := [(2, rc (encI .i64) [] 0 3 1), (1, rc (encI .i64) lh1_1 0 3 1), (0, .cells [ii xh0_0_1, ii xh0_1_1] 0 23 0)]) (c' := 3) ?_ (by kernel_rfl)
        refine XQ.ren (σ' := [(2, s0 0 0), (3, ii 15)]) (h' := [(0, rc (encI .i64) [] 0 3 1)]) (c' := 1) [2] (by decide) rfl ⟨by kernel_rfl, by kernel_rfl, trivial⟩ ⟨⟨_, _, rfl, rfl, .inl ⟨rfl, rowC_scal (encI_ok .i64) _⟩⟩, trivial⟩ rfl ?_
        refine XQ.ret (by kernel_rfl) ?_
        cases h
        exact hQ
      | false =>
        have h := cF b3 h
        refine XQ.cond (s := (.tmp 24)) (b := false) (by kernel_rfl) (by kernel_rfl) (fun q => by cases q) (fun _ => ?_)
        refine XQ.skip (by kernel_rfl) ?_
        show XQ _ _ _ _ _ _ _ _
        refine XQ.seq Ep_ok (by kernel_rfl) ?_
        refine XQ.region (by kernel_rfl) ?_
        refine XR.runT Ep_ok 1 3 [(4, pp 0 0), (7, ii (w64 ((w64 (Int.tdiv (w64 (xh0_1_1 - 1)) xh0_0_1)) + 1))), (25, s0 1 lh1_1.length), (27, s0 2 1)] [(2, .cells [ii (w64 ((w64 (Int.tdiv (w64 (xh0_1_1 - 1)) xh0_0_1)) + 1))] 0 3 1), (1, rc (encI .i64) lh1_1 0 3 1), (0, .cells [ii xh0_0_1, ii xh0_1_1] 0 23 0)] 3 rfl (by kernel_rfl) ?_
        cases b4 : (fitsB (lh1_1.length + 1) 8 : Bool) with
        | false => cases (cF b4 h)
        | true =>
          have h := cT b4 h
          refine XR.ef Ep_ok [4, 7, 28] rfl (e_append (encI_ok .i64) (bytes := 8) (e := 3) (x := (src 45 (.tmp 25))) (y := (src 45 (.tmp 27))) (b := 1) (len := lh1_1.length) (cap := lh1_1.length) (xs := lh1_1) (m := 0) (ys := [w64 ((w64 (Int.tdiv (w64 (xh0_1_1 - 1)) xh0_0_1)) + 1)]) (d := (some (path 12 28))) (n' := (lh1_1 ++ [w64 ((w64 (Int.tdiv (w64 (xh0_1_1 - 1)) xh0_0_1)) + 1)]).length) (h' := [(3, rc (encI .i64) (lh1_1 ++ [w64 ((w64 (Int.tdiv (w64 (xh0_1_1 - 1)) xh0_0_1)) + 1)]) 0 3 1), (2, .cells [ii (w64 ((w64 (Int.tdiv (w64 (xh0_1_1 - 1)) xh0_0_1)) + 1))] 0 3 1), (0, .cells [ii xh0_0_1, ii xh0_1_1] 0 23 0)]) (by kernel_rfl) (by kernel_rfl) (by kernel_rfl) (by kernel_rfl) rfl (by simp) (by simp) b4 (by simp) (by kernel_rfl)) (σ' := [(4, pp 0 0), (7, ii (w64 ((w64 (Int.tdiv (w64 (xh0_1_1 - 1)) xh0_0_1)) + 1))), (28, s0 3 ((lh1_1 ++ [w64 ((w64 (Int.tdiv (w64 (xh0_1_1 - 1)) xh0_0_1)) + 1)]).length))]) (by kernel_rfl) ?_
          refine XR.runS Ep_ok 1 1 [(4, pp 0 0), (6, s0 3 ((lh1_1 ++ [w64 ((w64 (Int.tdiv (w64 (xh0_1_1 - 1)) xh0_0_1)) + 1)]).length)), (7, ii (w64 ((w64 (Int.tdiv (w64 (xh0_1_1 - 1)) xh0_0_1)) + 1)))] rfl (by kernel_rfl) ?_
          refine XR.done (by kernel_rfl) ?_
          show XQ _ _ _ _ _ _ _ _
          refine XQ.seq Ep_ok (by kernel_rfl) ?_
          refine XQ.region (by kernel_rfl) ?_
          refine XR.runT Ep_ok 1 13 [(4, pp 0 0), (6, s0 3 ((lh1_1 ++ [w64 ((w64 (Int.tdiv (w64 (xh0_1_1 - 1)) xh0_0_1)) + 1)]).length))] [(3, rc (encI .i64) (lh1_1 ++ [w64 ((w64 (Int.tdiv (w64 (xh0_1_1 - 1)) xh0_0_1)) + 1)]) 0 3 1), (2, .cells [ii (w64 ((w64 (Int.tdiv (w64 (xh0_1_1 - 1)) xh0_0_1)) + 1))] 0 3 1), (0, .cells [ii (w64 ((w64 (xh0_0_1 * (w64 ((w64 (Int.tdiv (w64 (xh0_1_1 - 1)) xh0_0_1)) + 1)))) - xh0_1_1)), ii (w64 (xh0_1_1 * (w64 ((w64 (Int.tdiv (w64 (xh0_1_1 - 1)) xh0_0_1)) + 1))))] 0 23 0)] 4 rfl (by kernel_rfl) ?_
          refine XR.done (by kernel_rfl) ?_
          show XQ _ _ _ _ _ _ _ _
          refine XQ.seq Ep_ok (by kernel_rfl) ?_
          refine XQ.region (by kernel_rfl) ?_
          refine XR.runS Ep_ok 1 3 [(4, pp 0 0), (6, s0 3 ((lh1_1 ++ [w64 ((w64 (Int.tdiv (w64 (xh0_1_1 - 1)) xh0_0_1)) + 1)]).length)), (43, .bool ((w64 ((w64 (xh0_0_1 * (w64 ((w64 (Int.tdiv (w64 (xh0_1_1 - 1)) xh0_0_1)) + 1)))) - xh0_1_1)) == 0))] rfl (by kernel_rfl) ?_
          refine XR.done (by kernel_rfl) ?_
          show XQ _ _ _ _ _ _ _ _
          cases b5 : ((w64 ((w64 (xh0_0_1 * (w64 ((w64 (Int.tdiv (w64 (xh0_1_1 - 1)) xh0_0_1)) + 1)))) - xh0_1_1)) == 0 : Bool) with
          | true =>
            have h := cT b5 h
            refine XQ.cond (s := (.tmp 43)) (b := true) (by kernel_rfl) (by kernel_rfl) (fun _ => ?_) (fun q => by cases q)
            refine XQ.seq Ep_ok (by kernel_rfl) ?_
            refine XQ.region (by kernel_rfl) ?_
            refine XR.runS Ep_ok 1 3 [(2, s0 3 ((lh1_1 ++ [w64 ((w64 (Int.tdiv (w64 (xh0_1_1 - 1)) xh0_0_1)) + 1)]).length)), (3, ii 0)] rfl (by kernel_rfl) ?_
            refine XR.done (by kernel_rfl) ?_
            show XQ _ _ _ _ _ _ _ _
            refine XQ.ren (σ' := [(2, s0 0 ((lh1_1 ++ [w64 ((w64 (Int.tdiv (w64 (xh0_1_1 - 1)) xh0_0_1)) + 1)]).length)), (3, ii 0)]) (h' := [(0, rc (encI .i64) (lh1_1 ++ [w64 ((w64 (Int.tdiv (w64 (xh0_1_1 - 1)) xh0_0_1)) + 1)]) 0 3 1)]) (c' := 1) [3] (by decide) rfl ⟨by kernel_rfl, by kernel_rfl, trivial⟩ ⟨⟨_, _, rfl, rfl, .inl ⟨rfl, rowC_scal (encI_ok .i64) _⟩⟩, trivial⟩ rfl ?_
            refine XQ.ret (by kernel_rfl) ?_
            cases h
            exact hQ
          | false =>
            have h := cF b5 h
            refine XQ.cond (s := (.tmp 43)) (b := false) (by kernel_rfl) (by kernel_rfl) (fun q => by cases q) (fun _ => ?_)
            refine XQ.skip (by kernel_rfl) ?_
            show XL _ _ _ _ _ _ _ _ _
            refine XL.ren (σ' := [(4, pp 0 0), (6, s0 1 ((lh1_1 ++ [w64 ((w64 (Int.tdiv (w64 (xh0_1_1 - 1)) xh0_0_1)) + 1)]).length))]) (h' := [(1, rc (encI .i64) (lh1_1 ++ [w64 ((w64 (Int.tdiv (w64 (xh0_1_1 - 1)) xh0_0_1)) + 1)]) 0 3 1), (0, .cells [ii (w64 ((w64 (xh0_0_1 * (w64 ((w64 (Int.tdiv (w64 (xh0_1_1 - 1)) xh0_0_1)) + 1)))) - xh0_1_1)), ii (w64 (xh0_1_1 * (w64 ((w64 (Int.tdiv (w64 (xh0_1_1 - 1)) xh0_0_1)) + 1))))] 0 23 0)]) (c' := 2) [0, 3] (by decide) rfl ⟨by kernel_rfl, by kernel_rfl, trivial⟩ ⟨⟨_, _, rfl, rfl, .inl ⟨rfl, rowC_scal (encI_ok .i64) _⟩⟩, ⟨_, _, rfl, rfl, .inr ⟨_, _, _, _, rfl, rfl⟩⟩, trivial⟩ rfl ?_
            refine XL.conv (f8_1_ok m fuel (w64 ((w64 (xh0_0_1 * (w64 ((w64 (Int.tdiv (w64 (xh0_1_1 - 1)) xh0_0_1)) + 1)))) - xh0_1_1)) (w64 (xh0_1_1 * (w64 ((w64 (Int.tdiv (w64 (xh0_1_1 - 1)) xh0_0_1)) + 1)))) (lh1_1 ++ [w64 ((w64 (Int.tdiv (w64 (xh0_1_1 - 1)) xh0_0_1)) + 1)]) o h Q hQ) (by first | with_reducible rfl | simp | rfl)

def f8 (m : Nat) (a_Above : Int) (a_Below : Int) : Option ((List Int) × Int) :=
  (f17 m a_Above a_Below).bind fun r1 =>
    cond (r1.2.2 != 0) (
      some ([], r1.2.2)
    ) (
      (f8_1 m m r1.1 r1.2.1 []).bind fun o1 =>
        some (o1.2, o1.1)
    )

theorem f8_ok (m : Nat) (a_Above : Int) (a_Below : Int) (o : (List Int) × Int) (h : f8 m a_Above a_Below = some o) : KC Ep 8 [.agg #[ii a_Above, ii a_Below]] [] 0 (fun v h' c' => v = .tuple #[s0 0 o.1.length, ii o.2] ∧ h' = [(0, rc (encI .i64) o.1 0 3 1)] ∧ c' = 1) := by
  refine KC.bodyN Ep_ok (F := Proofs.Tryz.f8) (by kernel_rfl) (code := f8_C8) (by kernel_rfl) (nt := 45) (by kernel_rfl) (rs := [.tmp 2, .tmp 3]) (by kernel_rfl) (by kernel_rfl) (σ := [(0, .agg #[ii a_Above, ii a_Below])]) (by kernel_rfl) ?_
  unfold f8 at h
  refine XQ.seq Ep_ok (by kernel_rfl) ?_
  refine XQ.region (by kernel_rfl) ?_
  refine XR.runT Ep_ok 1 3 [(1, pp 0 0)] [(0, .cells [ii a_Above, ii a_Below] 0 23 0)] 1 rfl (by kernel_rfl) ?_
  refine XR.done (by kernel_rfl) ?_
  show XQ _ _ _ _ _ _ _ _
  refine XQ.seq Ep_ok (by kernel_rfl) ?_
  refine XQ.region (by kernel_rfl) ?_
  refine XR.runS Ep_ok 1 1 [(9, .agg #[ii a_Above, ii a_Below])] rfl (by kernel_rfl) ?_
  obtain ⟨r1, r1_h, h⟩ := bS h
  refine XR.call Ep_ok [10] rfl (K := 17) (args := [.agg #[ii a_Above, ii a_Below]]) (d := (some (path 12 10))) (by kernel_rfl) (KC.of_calls Ep_ok (F := Proofs.Tryz.f17) (v := .tuple #[.agg #[ii r1.1, ii r1.2.1], ii r1.2.2]) (by kernel_rfl) rfl rfl (fun w hI => f17_ok m a_Above a_Below r1 r1_h w hI)) ?_
  rintro _ _ _ ⟨rfl, rfl, rfl⟩
  refine XR.conv (σ' := [(10, .tuple #[.agg #[ii r1.1, ii r1.2.1], ii r1.2.2])]) (h' := [(0, .cells [ii a_Above, ii a_Below] 0 23 0)]) (c' := 1) ?_ (by kernel_rfl)
  refine XR.runT Ep_ok 1 6 [(4, pp 1 0), (5, ii r1.2.2)] [(1, .cells [ii r1.1, ii r1.2.1] 0 23 0), (0, .cells [ii a_Above, ii a_Below] 0 23 0)] 2 rfl (by kernel_rfl) ?_
  refine XR.done (by kernel_rfl) ?_
  show XQ _ _ _ _ _ _ _ _
  refine XQ.seq Ep_ok (by kernel_rfl) ?_
  refine XQ.seq Ep_ok (by kernel_rfl) ?_
  refine XQ.region (by kernel_rfl) ?_
  refine XR.runS Ep_ok 1 2 [(4, pp 1 0), (5, ii r1.2.2), (14, .bool (r1.2.2 != 0))] rfl (by kernel_rfl) ?_
  refine XR.done (by kernel_rfl) ?_
  show XQ _ _ _ _ _ _ _ _
  cases b1 : (r1.2.2 != 0 : Bool) with
  | true =>
    have h := cT b1 h
    refine XQ.cond (s := (.tmp 14)) (b := true) (by kernel_rfl) (by kernel_rfl) (fun _ => ?_) (fun q => by cases q)
    refine XQ.seq Ep_ok (by kernel_rfl) ?_
    refine XQ.region (by kernel_rfl) ?_
    refine XR.runS Ep_ok 1 3 [(2, .slice none 0 0), (3, ii r1.2.2)] rfl (by kernel_rfl) ?_
    refine XR.done (by kernel_rfl) ?_
    show XQ _ _ _ _ _ _ _ _
    refine XQ.ghost 3 1 rfl (σ' := [(2, s0 2 0), (3, ii r1.2.2)]) (h' := [(1, .cells [ii r1.1, ii r1.2.1] 0 23 0), (0, .cells [ii a_Above, ii a_Below] 0 23 0)]) ⟨by kernel_rfl, by kernel_rfl, trivial⟩ ⟨⟨_, rfl, .inl rfl⟩, ⟨_, rfl, .inl rfl⟩, trivial⟩ ?_
    refine XQ.conv (σ' := [(2, s0 2 0), (3, ii r1.2.2)]) (h' := [(2, rc (encI .i64) [] 0 3 1), (1, .cells [ii r1.1, ii r1.2.1] 0 23 0), (0, .cells [ii a_Above, ii a_Below] 0 23 0)]) (c' := 3) ?_ (by kernel_rfl)
    refine XQ.ren (σ' := [(2, s0 0 0), (3, ii r1.2.2)]) (h' := [(0, rc (encI .i64) [] 0 3 1)]) (c' := 1) [2] (by decide) rfl ⟨by kernel_rfl, by kernel_rfl, trivial⟩ ⟨⟨_, _, rfl, rfl, .inl ⟨rfl, rowC_scal (encI_ok .i64) _⟩⟩, trivial⟩ rfl ?_
    refine XQ.ret (by kernel_rfl) ?_
    have h := Option.some.inj h
    subst h
    exact ⟨fun i q => (by cases q), .tuple #[s0 0 0, ii r1.2.2], (by kernel_rfl), (by kernel_rfl), (by kernel_rfl), rfl⟩
  | false =>
    have h := cF b1 h
    refine XQ.cond (s := (.tmp 14)) (b := false) (by kernel_rfl) (by kernel_rfl) (fun q => by cases q) (fun _ => ?_)
    refine XQ.skip (by kernel_rfl) ?_
    show XQ _ _ _ _ _ _ _ _
    refine XQ.seq Ep_ok (by kernel_rfl) ?_
    refine XQ.region (by kernel_rfl) ?_
    refine XR.runS Ep_ok 1 1 [(4, pp 1 0), (6, .slice none 0 0)] rfl (by kernel_rfl) ?_
    refine XR.done (by kernel_rfl) ?_
    show XQ _ _ _ _ _ _ _ _
    refine XQ.ghost 3 1 rfl (σ' := [(4, pp 1 0), (6, s0 2 0)]) (h' := [(1, .cells [ii r1.1, ii r1.2.1] 0 23 0), (0, .cells [ii a_Above, ii a_Below] 0 23 0)]) ⟨by kernel_rfl, by kernel_rfl, trivial⟩ ⟨⟨_, rfl, .inl rfl⟩, ⟨_, rfl, .inl rfl⟩, trivial⟩ ?_
    refine XQ.conv (σ' := [(4, pp 1 0), (6, s0 2 0)]) (h' := [(2, rc (encI .i64) [] 0 3 1), (1, .cells [ii r1.1, ii r1.2.1] 0 23 0), (0, .cells [ii a_Above, ii a_Below] 0 23 0)]) (c' := 3) ?_ (by kernel_rfl)
    refine XQ.block (id := 0) (by kernel_rfl) ?_
    refine XQ.loop m (by kernel_rfl) ?_
    obtain ⟨o1, o1_h, h⟩ := bS h
    refine XL.ren (σ' := [(4, pp 0 0), (6, s0 1 0)]) (h' := [(1, rc (encI .i64) [] 0 3 1), (0, .cells [ii r1.1, ii r1.2.1] 0 23 0)]) (c' := 2) [1, 2] (by decide) rfl ⟨by kernel_rfl, by kernel_rfl, trivial⟩ ⟨⟨_, _, rfl, rfl, .inl ⟨rfl, rowC_scal (encI_ok .i64) _⟩⟩, ⟨_, _, rfl, rfl, .inr ⟨_, _, _, _, rfl, rfl⟩⟩, trivial⟩ rfl ?_
    refine XL.conv (f8_1_ok m m r1.1 r1.2.1 [] o1 o1_h _ ?_) (by first | with_reducible rfl | simp | rfl)
    have h := Option.some.inj h
    subst h
    exact ⟨fun i q => (by cases q), .tuple #[s0 0 o1.2.length, ii o1.1], (by kernel_rfl), (by kernel_rfl), (by kernel_rfl), rfl⟩

end Go.Xm
