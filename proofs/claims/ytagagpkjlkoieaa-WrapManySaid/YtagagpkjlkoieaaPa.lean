/- What these functions of the program compute, as functions in Lean, and the proofs that they do: wrap.common, wrap.Wrapper).mark, wrap.Wrapper).all, vitolaref05.mark, vitolaref05.different, wrap.round, vitolaref05.circle, vitolaref05.at, wrap.Check, vitolaref05.Check, wrap.wound).next, wrap.wound).before, wrap.wound).gap. Conditions: none. -/
import Derived.Test.YtagagpkjlkoieaaWf
import Derived.Test.YtagagpkjlkoieaaMs
namespace Go.Xm
open Go.RowKit
set_option linter.unusedVariables false
set_option linter.unusedSimpArgs false
set_option maxRecDepth 20000

/-! vitola/wrap.common -/
noncomputable def f84_C84 : Code := Proofs.Try.f84.body.getD .skip
noncomputable def f84_L1 : Code := lft (lft (lft (rgt f84_C84)))

def f84_1 (m : Nat) : Nat → Int → Int → Option Int
 | 0, _, _ => none
 | fuel + 1, x0_1, x1_1 =>
  cond (decide (x1_1 > 0)) (
   cond (x1_1 != 0) (
    f84_1 m fuel x1_1 (Int.tmod x0_1 x1_1)
   ) none
  ) (
   some (x0_1)
  )

theorem f84_1_ok (m : Nat) : ∀ (fuel : Nat) (x0_1 : Int) (x1_1 : Int) (o : Int), f84_1 m fuel x0_1 x1_1 = some o → ∀ Q : QP, Q (.exit 0) [(0, ii o)] [] 0 → XL E0 12 0 fuel f84_L1 [(0, ii x0_1), (1, ii x1_1)] [] 0 Q
 | 0, x0_1, x1_1, o, h, Q, hQ => by cases h
 | fuel + 1, x0_1, x1_1, o, h, Q, hQ => by
  unfold f84_1 at h
  refine XL.succ E0_ok ?_
  refine XQ.seq E0_ok (by kernel_rfl) ?_
  refine XQ.seq E0_ok (by kernel_rfl) ?_
  refine XQ.region (by kernel_rfl) ?_
  refine XR.runS E0_ok 1 2 [(0, ii x0_1), (1, ii x1_1), (6, .bool (decide (x1_1 > 0)))] rfl (by kernel_rfl) ?_
  refine XR.done (by kernel_rfl) ?_
  show XQ _ _ _ _ _ _ _ _
  cases b1 : (decide (x1_1 > 0) : Bool) with
  | true =>
   have h := cT b1 h
   refine XQ.cond (s := (.tmp 6)) (b := true) (by kernel_rfl) (by kernel_rfl) (fun _ => ?_) (fun q => by cases q)
   refine XQ.skip (by kernel_rfl) ?_
   show XQ _ _ _ _ _ _ _ _
   refine XQ.block (id := 1) (by kernel_rfl) ?_
   refine XQ.quiet E0_ok (by kernel_rfl) (by kernel_rfl) ?_
   refine XU.run E0_ok 1 3 [7, 8, 9] rfl (σ' := [(7, ii x1_1), (8, ii x0_1), (9, ii x1_1)]) (by kernel_rfl) ?_
   cases b2 : (x1_1 != 0 : Bool) with
   | false => cases (cF b2 h)
   | true =>
    have h := cT b2 h
    have e3 : insV (headI ((gsOf E0 12 (opsOf (lft (rgt f84_L1)))).drop 3) (trS 12 [(7, ii x1_1), (8, ii x0_1), (9, ii x1_1)])) (trS 12 [(7, ii x1_1), (8, ii x0_1), (9, ii x1_1)]) [] = (match (x1_1 != 0 : Bool) with | true => some (ii (Int.tmod x0_1 x1_1)) | false => none) := by kernel_rfl
    refine XU.rd E0_ok [7, 10] rfl (e3.trans (by rw [b2])) (σ' := [(7, ii x1_1), (10, ii (Int.tmod x0_1 x1_1))]) (by kernel_rfl) ?_
    refine XU.run E0_ok 1 2 [0, 1] rfl (σ' := [(0, ii x1_1), (1, ii (Int.tmod x0_1 x1_1))]) (by kernel_rfl) ?_
    refine XU.done (by kernel_rfl) ?_
    show XL _ _ _ _ _ _ _ _ _
    refine XL.ren (σ' := [(0, ii x1_1), (1, ii (Int.tmod x0_1 x1_1))]) (h' := []) (c' := 0) [] (by decide) rfl ⟨by kernel_rfl, by kernel_rfl, trivial⟩ trivial rfl ?_
    refine XL.conv (f84_1_ok m fuel x1_1 (Int.tmod x0_1 x1_1) o h Q hQ) (by first | rfl | simp)
  | false =>
   have h := cF b1 h
   refine XQ.cond (s := (.tmp 6)) (b := false) (by kernel_rfl) (by kernel_rfl) (fun q => by cases q) (fun _ => ?_)
   refine XQ.ren (σ' := [(0, ii x0_1)]) (h' := []) (c' := 0) [] (by decide) rfl ⟨by kernel_rfl, trivial⟩ trivial rfl ?_
   refine XQ.exit (i := 0) (by kernel_rfl) ?_
   cases h
   exact hQ

def f84 (m : Nat) (a : Int) (b : Int) : Option (Int) :=
 (f84_1 m m a b).bind fun o1 =>
  some (o1)

theorem f84_ok (m : Nat) (a : Int) (b : Int) (o : Int) (h : f84 m a b = some o) (w : World) (hI : anyInv w) : Calls Proofs.Try.prog 84 #[ii a, ii b] w fun e w' => e = .returned (ii o) ∧ Below w.heap.size w w' := by
 refine KC.calls (E := E0) (args := [ii a, ii b]) (v := ii o) rfl rfl (KC.bodyN E0_ok (F := Proofs.Try.f84) (by kernel_rfl) (code := f84_C84) (by kernel_rfl) (nt := 12) (by kernel_rfl) (rs := [.tmp 4]) (by kernel_rfl) (by kernel_rfl) (σ := [(0, ii a), (1, ii b)]) (by kernel_rfl) ?_) w (anyInv_size hI) hI
 unfold f84 at h
 refine XQ.seq E0_ok (by kernel_rfl) ?_
 refine XQ.region (by kernel_rfl) ?_
 refine XR.runS E0_ok 1 1 [(0, ii a), (1, ii b)] rfl (by kernel_rfl) ?_
 refine XR.done (by kernel_rfl) ?_
 show XQ _ _ _ _ _ _ _ _
 refine XQ.seq E0_ok (by kernel_rfl) ?_
 refine XQ.block (id := 0) (by kernel_rfl) ?_
 refine XQ.loop m (by kernel_rfl) ?_
 obtain ⟨o1, o1_h, h⟩ := bS h
 refine XL.ren (σ' := [(0, ii a), (1, ii b)]) (h' := []) (c' := 0) [] (by decide) rfl ⟨by kernel_rfl, by kernel_rfl, trivial⟩ trivial rfl ?_
 refine XL.conv (f84_1_ok m m a b o1 o1_h _ ?_) (by first | rfl | simp)
 show XQ _ _ _ _ _ _ _ _
 refine XQ.seq E0_ok (by kernel_rfl) ?_
 refine XQ.region (by kernel_rfl) ?_
 refine XR.runS E0_ok 1 2 [(4, ii o1)] rfl (by kernel_rfl) ?_
 refine XR.done (by kernel_rfl) ?_
 show XQ _ _ _ _ _ _ _ _
 refine XQ.ret (by kernel_rfl) ?_
 have h := Option.some.inj h
 subst h
 exact ⟨fun i q => (by cases q), ii o1, (by kernel_rfl), rfl⟩

/-! (vitola/wrap.Wrapper).mark -/
noncomputable def f59_C59 : Code := Proofs.Try.f59.body.getD .skip

def f59 (m : Nat) (a_Marks : Int) (a_Step : Int) (a_Turns : Int) (b : Int) : Option (Int) :=
 cond (a_Marks != 0) (
  some (Int.tmod (w64 (b * a_Step)) a_Marks)
 ) none

theorem f59_ok (m : Nat) (a_Marks : Int) (a_Step : Int) (a_Turns : Int) (b : Int) (o : Int) (h : f59 m a_Marks a_Step a_Turns b = some o) (w : World) (hI : anyInv w) : Calls Proofs.Try.prog 59 #[.agg #[ii a_Marks, ii a_Step, ii a_Turns], ii b] w fun e w' => e = .returned (ii o) ∧ Below w.heap.size w w' := by
 refine KC.calls (E := E0) (args := [.agg #[ii a_Marks, ii a_Step, ii a_Turns], ii b]) (v := ii o) rfl rfl (KC.bodyN E0_ok (F := Proofs.Try.f59) (by kernel_rfl) (code := f59_C59) (by kernel_rfl) (nt := 12) (by kernel_rfl) (rs := [.tmp 4]) (by kernel_rfl) (by kernel_rfl) (σ := [(0, .agg #[ii a_Marks, ii a_Step, ii a_Turns]), (1, ii b)]) (by kernel_rfl) ?_) w (anyInv_size hI) hI
 unfold f59 at h
 refine XQ.seq E0_ok (by kernel_rfl) ?_
 refine XQ.region (by kernel_rfl) ?_
 refine XR.runT E0_ok 1 2 [(1, ii b), (2, pp 0 0)] [(0, .cells [ii a_Marks, ii a_Step, ii a_Turns] 0 23 0)] 1 rfl (by kernel_rfl) ?_
 refine XR.done (by kernel_rfl) ?_
 show XQ _ _ _ _ _ _ _ _
 refine XQ.seq E0_ok (by kernel_rfl) ?_
 refine XQ.region (by kernel_rfl) ?_
 refine XR.runS E0_ok 1 6 [(8, ii (w64 (b * a_Step))), (10, ii a_Marks)] rfl (by kernel_rfl) ?_
 cases b1 : (a_Marks != 0 : Bool) with
 | false => cases (cF b1 h)
 | true =>
  have h := cT b1 h
  have e2 : insV (headI ((gsOf E0 12 (opsOf (lft (rgt f59_C59)))).drop 6) (trS 12 [(8, ii (w64 (b * a_Step))), (10, ii a_Marks)])) (trS 12 [(8, ii (w64 (b * a_Step))), (10, ii a_Marks)]) [(0, .cells [ii a_Marks, ii a_Step, ii a_Turns] 0 23 0)] = (match (a_Marks != 0 : Bool) with | true => some (ii (Int.tmod (w64 (b * a_Step)) a_Marks)) | false => none) := by kernel_rfl
  refine XR.rd E0_ok [11] rfl (e2.trans (by rw [b1])) (σ' := [(11, ii (Int.tmod (w64 (b * a_Step)) a_Marks))]) (by kernel_rfl) ?_
  refine XR.runS E0_ok 1 1 [(4, ii (Int.tmod (w64 (b * a_Step)) a_Marks))] rfl (by kernel_rfl) ?_
  refine XR.done (by kernel_rfl) ?_
  show XQ _ _ _ _ _ _ _ _
  refine XQ.ret (by kernel_rfl) ?_
  have h := Option.some.inj h
  subst h
  exact ⟨fun i q => (by cases q), ii (Int.tmod (w64 (b * a_Step)) a_Marks), (by kernel_rfl), rfl⟩

/-! (vitola/wrap.Wrapper).all -/
noncomputable def f65_C65 : Code := Proofs.Try.f65.body.getD .skip

def f65 (m : Nat) (a_Marks : Int) (a_Step : Int) (a_Turns : Int) : Option (Int) :=
 (f84 m a_Marks a_Step).bind fun r1 =>
  cond (r1 != 0) (
   some (w64 (Int.tdiv a_Marks r1))
  ) none

theorem f65_ok (m : Nat) (a_Marks : Int) (a_Step : Int) (a_Turns : Int) (o : Int) (h : f65 m a_Marks a_Step a_Turns = some o) (w : World) (hI : anyInv w) : Calls Proofs.Try.prog 65 #[.agg #[ii a_Marks, ii a_Step, ii a_Turns]] w fun e w' => e = .returned (ii o) ∧ Below w.heap.size w w' := by
 refine KC.calls (E := E0) (args := [.agg #[ii a_Marks, ii a_Step, ii a_Turns]]) (v := ii o) rfl rfl (KC.bodyN E0_ok (F := Proofs.Try.f65) (by kernel_rfl) (code := f65_C65) (by kernel_rfl) (nt := 11) (by kernel_rfl) (rs := [.tmp 2]) (by kernel_rfl) (by kernel_rfl) (σ := [(0, .agg #[ii a_Marks, ii a_Step, ii a_Turns])]) (by kernel_rfl) ?_) w (anyInv_size hI) hI
 unfold f65 at h
 refine XQ.seq E0_ok (by kernel_rfl) ?_
 refine XQ.region (by kernel_rfl) ?_
 refine XR.runT E0_ok 1 2 [(1, pp 0 0)] [(0, .cells [ii a_Marks, ii a_Step, ii a_Turns] 0 23 0)] 1 rfl (by kernel_rfl) ?_
 refine XR.done (by kernel_rfl) ?_
 show XQ _ _ _ _ _ _ _ _
 refine XQ.seq E0_ok (by kernel_rfl) ?_
 refine XQ.quiet E0_ok (by kernel_rfl) (by kernel_rfl) ?_
 refine XU.run E0_ok 1 6 [4, 6, 8] rfl (σ' := [(4, ii a_Marks), (6, ii a_Marks), (8, ii a_Step)]) (by kernel_rfl) ?_
 obtain ⟨r1, r1_h, h⟩ := bS h
 refine XU.call E0_ok [4, 9] rfl (K := 84) (F := Proofs.Try.f84) (args := [ii a_Marks, ii a_Step]) (d := (some (path 12 9))) (v := ii r1) (by kernel_rfl) (by kernel_rfl) rfl rfl (fun w hI => f84_ok m a_Marks a_Step r1 r1_h w hI) (σ' := [(4, ii a_Marks), (9, ii r1)]) (by kernel_rfl) ?_
 cases b1 : (r1 != 0 : Bool) with
 | false => cases (cF b1 h)
 | true =>
  have h := cT b1 h
  have e2 : insV (headI ((gsOf E0 11 (opsOf (lft (rgt f65_C65)))).drop 7) (trS 11 [(4, ii a_Marks), (9, ii r1)])) (trS 11 [(4, ii a_Marks), (9, ii r1)]) [(0, .cells [ii a_Marks, ii a_Step, ii a_Turns] 0 23 0)] = (match (r1 != 0 : Bool) with | true => some (ii (w64 (Int.tdiv a_Marks r1))) | false => none) := by kernel_rfl
  refine XU.rd E0_ok [10] rfl (e2.trans (by rw [b1])) (σ' := [(10, ii (w64 (Int.tdiv a_Marks r1)))]) (by kernel_rfl) ?_
  refine XU.run E0_ok 1 1 [2] rfl (σ' := [(2, ii (w64 (Int.tdiv a_Marks r1)))]) (by kernel_rfl) ?_
  refine XU.done (by kernel_rfl) ?_
  show XQ _ _ _ _ _ _ _ _
  refine XQ.ret (by kernel_rfl) ?_
  have h := Option.some.inj h
  subst h
  exact ⟨fun i q => (by cases q), ii (w64 (Int.tdiv a_Marks r1)), (by kernel_rfl), rfl⟩

/-! vitola/vitolaref05.mark -/
def f61 (m : Nat) (a_Marks : Int) (a_Step : Int) (a_Turns : Int) (b : Int) : Option (Int) :=
 cond (a_Marks != 0) (
  some (Int.tmod (w64 (b * a_Step)) a_Marks)
 ) none

/-! vitola/vitolaref05.different -/
def f67_1 (m : Nat) : Nat → Int → Int → Int → Int → Option Int
 | 0, _, _, _, _ => none
 | fuel + 1, a_Marks, a_Step, a_Turns, x3_1 =>
  (f61 m a_Marks a_Step a_Turns x3_1).bind fun r3 =>
   cond (r3 != 0) (
    f67_1 m fuel a_Marks a_Step a_Turns (w64 (x3_1 + 1))
   ) (
    some (x3_1)
   )

def f67 (m : Nat) (a_Marks : Int) (a_Step : Int) (a_Turns : Int) : Option (Int) :=
 (f67_1 m m a_Marks a_Step a_Turns 1).bind fun o1 =>
  some (o1)

/-! vitola/wrap.round -/
noncomputable def f64_C64 : Code := Proofs.Try.f64.body.getD .skip

def f64 (m : Nat) (a : Int) (b : Int) : Option (Bool) :=
 cond (decide (a ≥ 1)) (
  cond (decide (a ≤ 100)) (
   cond (decide (b ≥ 0)) (
    some (decide (b < a))
   ) (
    some (false)
   )
  ) (
   some (false)
  )
 ) (
  some (false)
 )

theorem f64_ok (m : Nat) (a : Int) (b : Int) (o : Bool) (h : f64 m a b = some o) (w : World) (hI : anyInv w) : Calls Proofs.Try.prog 64 #[ii a, ii b] w fun e w' => e = .returned (.bool o) ∧ Below w.heap.size w w' := by
 refine KC.calls (E := E0) (args := [ii a, ii b]) (v := .bool o) rfl rfl (KC.bodyN E0_ok (F := Proofs.Try.f64) (by kernel_rfl) (code := f64_C64) (by kernel_rfl) (nt := 20) (by kernel_rfl) (rs := [.tmp 4]) (by kernel_rfl) (by kernel_rfl) (σ := [(0, ii a), (1, ii b)]) (by kernel_rfl) ?_) w (anyInv_size hI) hI
 unfold f64 at h
 refine XQ.seq E0_ok (by kernel_rfl) ?_
 refine XQ.region (by kernel_rfl) ?_
 refine XR.runS E0_ok 1 1 [(0, ii a), (1, ii b)] rfl (by kernel_rfl) ?_
 refine XR.done (by kernel_rfl) ?_
 show XQ _ _ _ _ _ _ _ _
 refine XQ.seq E0_ok (by kernel_rfl) ?_
 refine XQ.region (by kernel_rfl) ?_
 refine XR.runS E0_ok 1 3 [(0, ii a), (1, ii b), (7, .bool (decide (a ≥ 1)))] rfl (by kernel_rfl) ?_
 cases b1 : (decide (a ≥ 1) : Bool) with
 | true =>
  have h := cT b1 h
  refine XR.runS E0_ok 1 4 [(0, ii a), (1, ii b), (11, .bool (decide (a ≤ 100)))] rfl (by kernel_rfl) ?_
  cases b2 : (decide (a ≤ 100) : Bool) with
  | true =>
   have h := cT b2 h
   refine XR.runS E0_ok 1 4 [(0, ii a), (1, ii b), (15, .bool (decide (b ≥ 0)))] rfl (by kernel_rfl) ?_
   cases b3 : (decide (b ≥ 0) : Bool) with
   | true =>
    have h := cT b3 h
    refine XR.runS E0_ok 1 5 [(4, .bool (decide (b < a)))] rfl (by kernel_rfl) ?_
    refine XR.done (by kernel_rfl) ?_
    show XQ _ _ _ _ _ _ _ _
    refine XQ.ret (by kernel_rfl) ?_
    have h := Option.some.inj h
    subst h
    exact ⟨fun i q => (by cases q), .bool (decide (b < a)), (by kernel_rfl), rfl⟩
   | false =>
    have h := cF b3 h
    refine XR.runS E0_ok 1 5 [(4, .bool false)] rfl (by kernel_rfl) ?_
    refine XR.done (by kernel_rfl) ?_
    show XQ _ _ _ _ _ _ _ _
    refine XQ.ret (by kernel_rfl) ?_
    have h := Option.some.inj h
    subst h
    exact ⟨fun i q => (by cases q), .bool false, (by kernel_rfl), rfl⟩
  | false =>
   have h := cF b2 h
   refine XR.runS E0_ok 1 9 [(4, .bool false)] rfl (by kernel_rfl) ?_
   refine XR.done (by kernel_rfl) ?_
   show XQ _ _ _ _ _ _ _ _
   refine XQ.ret (by kernel_rfl) ?_
   have h := Option.some.inj h
   subst h
   exact ⟨fun i q => (by cases q), .bool false, (by kernel_rfl), rfl⟩
 | false =>
  have h := cF b1 h
  refine XR.runS E0_ok 1 13 [(4, .bool false)] rfl (by kernel_rfl) ?_
  refine XR.done (by kernel_rfl) ?_
  show XQ _ _ _ _ _ _ _ _
  refine XQ.ret (by kernel_rfl) ?_
  have h := Option.some.inj h
  subst h
  exact ⟨fun i q => (by cases q), .bool false, (by kernel_rfl), rfl⟩

/-! vitola/vitolaref05.circle -/
def f66 (m : Nat) (a : Int) (b : Int) : Option (Int) :=
 cond (decide (a ≥ 1)) (
  cond (!(decide (a ≤ 100))) (
   some (1)
  ) (
   cond (decide (b ≥ 0)) (
    cond (!(decide (b ≤ (w64 (a - 1))))) (
     some (1)
    ) (
     some (0)
    )
   ) (
    some (1)
   )
  )
 ) (
  some (1)
 )

/-! vitola/vitolaref05.at -/
inductive Of63_1 where
 | r (x4_r1 : Int)
 | x0

/-! vitola/wrap.Check -/
noncomputable def f20_C20 : Code := Proofs.Try.f20.body.getD .skip

def f20 (m : Nat) (a_Marks : Int) (a_Step : Int) (a_Turns : Int) : Option (Int) :=
 (f64 m a_Marks a_Step).bind fun r1 =>
  cond (!r1) (
   some (1)
  ) (
   cond (decide (a_Turns < 1)) (
    some (1)
   ) (
    (f65 m a_Marks a_Step a_Turns).bind fun r2 =>
     cond (decide (a_Turns > r2)) (
      some (3)
     ) (
      some (0)
     )
   )
  )

theorem f20_ok (m : Nat) (a_Marks : Int) (a_Step : Int) (a_Turns : Int) (o : Int) (h : f20 m a_Marks a_Step a_Turns = some o) (w : World) (hI : anyInv w) : Calls Proofs.Try.prog 20 #[.agg #[ii a_Marks, ii a_Step, ii a_Turns]] w fun e w' => e = .returned (ii o) ∧ Below w.heap.size w w' := by
 refine KC.calls (E := E0) (args := [.agg #[ii a_Marks, ii a_Step, ii a_Turns]]) (v := ii o) rfl rfl (KC.bodyN E0_ok (F := Proofs.Try.f20) (by kernel_rfl) (code := f20_C20) (by kernel_rfl) (nt := 21) (by kernel_rfl) (rs := [.tmp 2]) (by kernel_rfl) (by kernel_rfl) (σ := [(0, .agg #[ii a_Marks, ii a_Step, ii a_Turns])]) (by kernel_rfl) ?_) w (anyInv_size hI) hI
 unfold f20 at h
 refine XQ.seq E0_ok (by kernel_rfl) ?_
 refine XQ.region (by kernel_rfl) ?_
 refine XR.runT E0_ok 1 2 [(1, pp 0 0)] [(0, .cells [ii a_Marks, ii a_Step, ii a_Turns] 0 23 0)] 1 rfl (by kernel_rfl) ?_
 refine XR.done (by kernel_rfl) ?_
 show XQ _ _ _ _ _ _ _ _
 refine XQ.seq E0_ok (by kernel_rfl) ?_
 refine XQ.block (id := 0) (by kernel_rfl) ?_
 refine XQ.seq E0_ok (by kernel_rfl) ?_
 refine XQ.region (by kernel_rfl) ?_
 refine XR.runS E0_ok 1 4 [(1, pp 0 0), (5, ii a_Marks), (7, ii a_Step)] rfl (by kernel_rfl) ?_
 obtain ⟨r1, r1_h, h⟩ := bS h
 refine XR.call E0_ok [1, 8] rfl (K := 64) (args := [ii a_Marks, ii a_Step]) (d := (some (path 12 8))) (by kernel_rfl) (KC.of_calls E0_ok (F := Proofs.Try.f64) (v := .bool r1) (by kernel_rfl) rfl rfl (fun w hI => f64_ok m a_Marks a_Step r1 r1_h w hI)) ?_
 rintro _ _ _ ⟨rfl, rfl, rfl⟩
 refine XR.conv (σ' := [(1, pp 0 0), (8, .bool r1)]) (h' := [(0, .cells [ii a_Marks, ii a_Step, ii a_Turns] 0 23 0)]) (c' := 1) ?_ (by kernel_rfl)
 refine XR.runS E0_ok 1 2 [(1, pp 0 0), (10, .bool (!r1))] rfl (by kernel_rfl) ?_
 cases b1 : (!r1 : Bool) with
 | true =>
  have h := cT b1 h
  refine XR.runS E0_ok 1 5 [(1, pp 0 0), (3, .bool true)] rfl (by kernel_rfl) ?_
  refine XR.done (by kernel_rfl) ?_
  show XQ _ _ _ _ _ _ _ _
  refine XQ.cond (s := (.tmp 3)) (b := true) (by kernel_rfl) (by kernel_rfl) (fun _ => ?_) (fun q => by cases q)
  refine XQ.seq E0_ok (by kernel_rfl) ?_
  refine XQ.region (by kernel_rfl) ?_
  refine XR.runS E0_ok 1 1 [(2, ii 1)] rfl (by kernel_rfl) ?_
  refine XR.done (by kernel_rfl) ?_
  show XQ _ _ _ _ _ _ _ _
  refine XQ.ret (by kernel_rfl) ?_
  have h := Option.some.inj h
  subst h
  exact ⟨fun i q => (by cases q), ii 1, (by kernel_rfl), rfl⟩
 | false =>
  have h := cF b1 h
  refine XR.runS E0_ok 1 5 [(1, pp 0 0), (3, .bool (decide (a_Turns < 1)))] rfl (by kernel_rfl) ?_
  refine XR.done (by kernel_rfl) ?_
  show XQ _ _ _ _ _ _ _ _
  cases b2 : (decide (a_Turns < 1) : Bool) with
  | true =>
   have h := cT b2 h
   refine XQ.cond (s := (.tmp 3)) (b := true) (by kernel_rfl) (by kernel_rfl) (fun _ => ?_) (fun q => by cases q)
   refine XQ.seq E0_ok (by kernel_rfl) ?_
   refine XQ.region (by kernel_rfl) ?_
   refine XR.runS E0_ok 1 1 [(2, ii 1)] rfl (by kernel_rfl) ?_
   refine XR.done (by kernel_rfl) ?_
   show XQ _ _ _ _ _ _ _ _
   refine XQ.ret (by kernel_rfl) ?_
   have h := Option.some.inj h
   subst h
   exact ⟨fun i q => (by cases q), ii 1, (by kernel_rfl), rfl⟩
  | false =>
   have h := cF b2 h
   refine XQ.cond (s := (.tmp 3)) (b := false) (by kernel_rfl) (by kernel_rfl) (fun q => by cases q) (fun _ => ?_)
   refine XQ.seq E0_ok (by kernel_rfl) ?_
   refine XQ.quiet E0_ok (by kernel_rfl) (by kernel_rfl) ?_
   refine XU.run E0_ok 1 3 [17, 18] rfl (σ' := [(17, ii a_Turns), (18, .agg #[ii a_Marks, ii a_Step, ii a_Turns])]) (by kernel_rfl) ?_
   obtain ⟨r2, r2_h, h⟩ := bS h
   refine XU.call E0_ok [17, 19] rfl (K := 65) (F := Proofs.Try.f65) (args := [.agg #[ii a_Marks, ii a_Step, ii a_Turns]]) (d := (some (path 12 19))) (v := ii r2) (by kernel_rfl) (by kernel_rfl) rfl rfl (fun w hI => f65_ok m a_Marks a_Step a_Turns r2 r2_h w hI) (σ' := [(17, ii a_Turns), (19, ii r2)]) (by kernel_rfl) ?_
   refine XU.run E0_ok 1 2 [15] rfl (σ' := [(15, .bool (decide (a_Turns > r2)))]) (by kernel_rfl) ?_
   refine XU.done (by kernel_rfl) ?_
   show XQ _ _ _ _ _ _ _ _
   cases b3 : (decide (a_Turns > r2) : Bool) with
   | true =>
    have h := cT b3 h
    refine XQ.cond (s := (.tmp 15)) (b := true) (by kernel_rfl) (by kernel_rfl) (fun _ => ?_) (fun q => by cases q)
    refine XQ.seq E0_ok (by kernel_rfl) ?_
    refine XQ.region (by kernel_rfl) ?_
    refine XR.runS E0_ok 1 1 [(2, ii 3)] rfl (by kernel_rfl) ?_
    refine XR.done (by kernel_rfl) ?_
    show XQ _ _ _ _ _ _ _ _
    refine XQ.ret (by kernel_rfl) ?_
    have h := Option.some.inj h
    subst h
    exact ⟨fun i q => (by cases q), ii 3, (by kernel_rfl), rfl⟩
   | false =>
    have h := cF b3 h
    refine XQ.cond (s := (.tmp 15)) (b := false) (by kernel_rfl) (by kernel_rfl) (fun q => by cases q) (fun _ => ?_)
    refine XQ.skip (by kernel_rfl) ?_
    show XQ _ _ _ _ _ _ _ _
    refine XQ.seq E0_ok (by kernel_rfl) ?_
    refine XQ.region (by kernel_rfl) ?_
    refine XR.runS E0_ok 1 1 [(2, ii 0)] rfl (by kernel_rfl) ?_
    refine XR.done (by kernel_rfl) ?_
    show XQ _ _ _ _ _ _ _ _
    refine XQ.ret (by kernel_rfl) ?_
    have h := Option.some.inj h
    subst h
    exact ⟨fun i q => (by cases q), ii 0, (by kernel_rfl), rfl⟩

/-! vitola/vitolaref05.Check -/
def f21 (m : Nat) (a_Marks : Int) (a_Step : Int) (a_Turns : Int) : Option (Int) :=
 (f66 m a_Marks a_Step).bind fun r1 =>
  cond (r1 == 0) (
   cond ((cond (decide (a_Turns < 1)) 1 r1 : Int) == 0) (
    (f67 m a_Marks a_Step a_Turns).bind fun r2 =>
     some (cond (decide (a_Turns > r2)) 3 (cond (decide (a_Turns < 1)) 1 r1))
   ) (
    some (cond (decide (a_Turns < 1)) 1 r1)
   )
  ) (
   some (r1)
  )

/-! (vitola/wrap.wound).next -/
noncomputable def f69_C69 : Code := Proofs.Try.f69.body.getD .skip

def f69 (m : Nat) (a_Wrapper_Marks : Int) (a_Wrapper_Step : Int) (a_Wrapper_Turns : Int) (a_beside_0 : Int) (a_beside_1 : Int) (b : Int) : Option (Int) :=
 cond (decide (b < (w64 (a_Wrapper_Turns - a_beside_0)))) (
  some (w64 (b + a_beside_0))
 ) (
  cond (decide (b < a_beside_1)) (
   some (w64 ((w64 (b + a_beside_0)) - a_beside_1))
  ) (
   some (w64 (b - a_beside_1))
  )
 )

theorem f69_ok (m : Nat) (z0 : Nat) (a_Wrapper_Marks : Int) (a_Wrapper_Step : Int) (a_Wrapper_Turns : Int) (a_beside_0 : Int) (a_beside_1 : Int) (b : Int) (o : Int) (h : f69 m a_Wrapper_Marks a_Wrapper_Step a_Wrapper_Turns a_beside_0 a_beside_1 b = some o) : KC E0 69 [pp 0 0, ii b] [(0, .cells [ii a_Wrapper_Marks, ii a_Wrapper_Step, ii a_Wrapper_Turns, ii a_beside_0, ii a_beside_1] z0 88 0)] 1 (fun v _ _ => v = ii o) := by
 refine KC.bodyN E0_ok (F := Proofs.Try.f69) (by kernel_rfl) (code := f69_C69) (by kernel_rfl) (nt := 42) (by kernel_rfl) (rs := [.tmp 4]) (by kernel_rfl) (by kernel_rfl) (σ := [(0, pp 0 0), (1, ii b)]) (by kernel_rfl) ?_
 unfold f69 at h
 refine XQ.seq E0_ok (by kernel_rfl) ?_
 refine XQ.region (by kernel_rfl) ?_
 refine XR.runS E0_ok 1 1 [(0, pp 0 0), (1, ii b)] rfl (by kernel_rfl) ?_
 refine XR.done (by kernel_rfl) ?_
 show XQ _ _ _ _ _ _ _ _
 refine XQ.seq E0_ok (by kernel_rfl) ?_
 refine XQ.quiet E0_ok (by kernel_rfl) (by kernel_rfl) ?_
 refine XU.run E0_ok 1 12 [0, 1, 5, 6] rfl (σ' := [(0, pp 0 0), (1, ii b), (5, ii a_beside_0), (6, ii a_beside_1)]) (by kernel_rfl) ?_
 refine XU.done (by kernel_rfl) ?_
 show XQ _ _ _ _ _ _ _ _
 refine XQ.seq E0_ok (by kernel_rfl) ?_
 refine XQ.block (id := 0) (by kernel_rfl) ?_
 refine XQ.seq E0_ok (by kernel_rfl) ?_
 refine XQ.region (by kernel_rfl) ?_
 refine XR.runS E0_ok 1 10 [(1, ii b), (5, ii a_beside_0), (6, ii a_beside_1), (17, .bool (decide (b < (w64 (a_Wrapper_Turns - a_beside_0)))))] rfl (by kernel_rfl) ?_
 refine XR.done (by kernel_rfl) ?_
 show XQ _ _ _ _ _ _ _ _
 cases b1 : (decide (b < (w64 (a_Wrapper_Turns - a_beside_0))) : Bool) with
 | true =>
  have h := cT b1 h
  refine XQ.cond (s := (.tmp 17)) (b := true) (by kernel_rfl) (by kernel_rfl) (fun _ => ?_) (fun q => by cases q)
  refine XQ.seq E0_ok (by kernel_rfl) ?_
  refine XQ.region (by kernel_rfl) ?_
  refine XR.runS E0_ok 1 4 [(4, ii (w64 (b + a_beside_0)))] rfl (by kernel_rfl) ?_
  refine XR.done (by kernel_rfl) ?_
  show XQ _ _ _ _ _ _ _ _
  refine XQ.ret (by kernel_rfl) ?_
  have h := Option.some.inj h
  subst h
  exact ⟨fun i q => (by cases q), ii (w64 (b + a_beside_0)), (by kernel_rfl), rfl⟩
 | false =>
  have h := cF b1 h
  refine XQ.cond (s := (.tmp 17)) (b := false) (by kernel_rfl) (by kernel_rfl) (fun q => by cases q) (fun _ => ?_)
  refine XQ.seq E0_ok (by kernel_rfl) ?_
  refine XQ.region (by kernel_rfl) ?_
  refine XR.runS E0_ok 1 4 [(1, ii b), (5, ii a_beside_0), (6, ii a_beside_1), (30, .bool (decide (b < a_beside_1)))] rfl (by kernel_rfl) ?_
  refine XR.done (by kernel_rfl) ?_
  show XQ _ _ _ _ _ _ _ _
  cases b2 : (decide (b < a_beside_1) : Bool) with
  | true =>
   have h := cT b2 h
   refine XQ.cond (s := (.tmp 30)) (b := true) (by kernel_rfl) (by kernel_rfl) (fun _ => ?_) (fun q => by cases q)
   refine XQ.seq E0_ok (by kernel_rfl) ?_
   refine XQ.region (by kernel_rfl) ?_
   refine XR.runS E0_ok 1 6 [(4, ii (w64 ((w64 (b + a_beside_0)) - a_beside_1)))] rfl (by kernel_rfl) ?_
   refine XR.done (by kernel_rfl) ?_
   show XQ _ _ _ _ _ _ _ _
   refine XQ.ret (by kernel_rfl) ?_
   have h := Option.some.inj h
   subst h
   exact ⟨fun i q => (by cases q), ii (w64 ((w64 (b + a_beside_0)) - a_beside_1)), (by kernel_rfl), rfl⟩
  | false =>
   have h := cF b2 h
   refine XQ.cond (s := (.tmp 30)) (b := false) (by kernel_rfl) (by kernel_rfl) (fun q => by cases q) (fun _ => ?_)
   refine XQ.skip (by kernel_rfl) ?_
   show XQ _ _ _ _ _ _ _ _
   refine XQ.seq E0_ok (by kernel_rfl) ?_
   refine XQ.region (by kernel_rfl) ?_
   refine XR.runS E0_ok 1 4 [(4, ii (w64 (b - a_beside_1)))] rfl (by kernel_rfl) ?_
   refine XR.done (by kernel_rfl) ?_
   show XQ _ _ _ _ _ _ _ _
   refine XQ.ret (by kernel_rfl) ?_
   have h := Option.some.inj h
   subst h
   exact ⟨fun i q => (by cases q), ii (w64 (b - a_beside_1)), (by kernel_rfl), rfl⟩

/-! (vitola/wrap.wound).before -/
noncomputable def f71_C71 : Code := Proofs.Try.f71.body.getD .skip

def f71 (m : Nat) (a_Wrapper_Marks : Int) (a_Wrapper_Step : Int) (a_Wrapper_Turns : Int) (a_beside_0 : Int) (a_beside_1 : Int) (b : Int) : Option (Int) :=
 cond (decide (b < (w64 (a_Wrapper_Turns - a_beside_1)))) (
  some (w64 (b + a_beside_1))
 ) (
  cond (decide (b < a_beside_0)) (
   some (w64 ((w64 (b + a_beside_1)) - a_beside_0))
  ) (
   some (w64 (b - a_beside_0))
  )
 )

theorem f71_ok (m : Nat) (z0 : Nat) (a_Wrapper_Marks : Int) (a_Wrapper_Step : Int) (a_Wrapper_Turns : Int) (a_beside_0 : Int) (a_beside_1 : Int) (b : Int) (o : Int) (h : f71 m a_Wrapper_Marks a_Wrapper_Step a_Wrapper_Turns a_beside_0 a_beside_1 b = some o) : KC E0 71 [pp 0 0, ii b] [(0, .cells [ii a_Wrapper_Marks, ii a_Wrapper_Step, ii a_Wrapper_Turns, ii a_beside_0, ii a_beside_1] z0 88 0)] 1 (fun v _ _ => v = ii o) := by
 refine KC.bodyN E0_ok (F := Proofs.Try.f71) (by kernel_rfl) (code := f71_C71) (by kernel_rfl) (nt := 42) (by kernel_rfl) (rs := [.tmp 4]) (by kernel_rfl) (by kernel_rfl) (σ := [(0, pp 0 0), (1, ii b)]) (by kernel_rfl) ?_
 unfold f71 at h
 refine XQ.seq E0_ok (by kernel_rfl) ?_
 refine XQ.region (by kernel_rfl) ?_
 refine XR.runS E0_ok 1 1 [(0, pp 0 0), (1, ii b)] rfl (by kernel_rfl) ?_
 refine XR.done (by kernel_rfl) ?_
 show XQ _ _ _ _ _ _ _ _
 refine XQ.seq E0_ok (by kernel_rfl) ?_
 refine XQ.quiet E0_ok (by kernel_rfl) (by kernel_rfl) ?_
 refine XU.run E0_ok 1 12 [0, 1, 5, 6] rfl (σ' := [(0, pp 0 0), (1, ii b), (5, ii a_beside_0), (6, ii a_beside_1)]) (by kernel_rfl) ?_
 refine XU.done (by kernel_rfl) ?_
 show XQ _ _ _ _ _ _ _ _
 refine XQ.seq E0_ok (by kernel_rfl) ?_
 refine XQ.block (id := 0) (by kernel_rfl) ?_
 refine XQ.seq E0_ok (by kernel_rfl) ?_
 refine XQ.region (by kernel_rfl) ?_
 refine XR.runS E0_ok 1 10 [(1, ii b), (5, ii a_beside_0), (6, ii a_beside_1), (17, .bool (decide (b < (w64 (a_Wrapper_Turns - a_beside_1)))))] rfl (by kernel_rfl) ?_
 refine XR.done (by kernel_rfl) ?_
 show XQ _ _ _ _ _ _ _ _
 cases b1 : (decide (b < (w64 (a_Wrapper_Turns - a_beside_1))) : Bool) with
 | true =>
  have h := cT b1 h
  refine XQ.cond (s := (.tmp 17)) (b := true) (by kernel_rfl) (by kernel_rfl) (fun _ => ?_) (fun q => by cases q)
  refine XQ.seq E0_ok (by kernel_rfl) ?_
  refine XQ.region (by kernel_rfl) ?_
  refine XR.runS E0_ok 1 4 [(4, ii (w64 (b + a_beside_1)))] rfl (by kernel_rfl) ?_
  refine XR.done (by kernel_rfl) ?_
  show XQ _ _ _ _ _ _ _ _
  refine XQ.ret (by kernel_rfl) ?_
  have h := Option.some.inj h
  subst h
  exact ⟨fun i q => (by cases q), ii (w64 (b + a_beside_1)), (by kernel_rfl), rfl⟩
 | false =>
  have h := cF b1 h
  refine XQ.cond (s := (.tmp 17)) (b := false) (by kernel_rfl) (by kernel_rfl) (fun q => by cases q) (fun _ => ?_)
  refine XQ.seq E0_ok (by kernel_rfl) ?_
  refine XQ.region (by kernel_rfl) ?_
  refine XR.runS E0_ok 1 4 [(1, ii b), (5, ii a_beside_0), (6, ii a_beside_1), (30, .bool (decide (b < a_beside_0)))] rfl (by kernel_rfl) ?_
  refine XR.done (by kernel_rfl) ?_
  show XQ _ _ _ _ _ _ _ _
  cases b2 : (decide (b < a_beside_0) : Bool) with
  | true =>
   have h := cT b2 h
   refine XQ.cond (s := (.tmp 30)) (b := true) (by kernel_rfl) (by kernel_rfl) (fun _ => ?_) (fun q => by cases q)
   refine XQ.seq E0_ok (by kernel_rfl) ?_
   refine XQ.region (by kernel_rfl) ?_
   refine XR.runS E0_ok 1 6 [(4, ii (w64 ((w64 (b + a_beside_1)) - a_beside_0)))] rfl (by kernel_rfl) ?_
   refine XR.done (by kernel_rfl) ?_
   show XQ _ _ _ _ _ _ _ _
   refine XQ.ret (by kernel_rfl) ?_
   have h := Option.some.inj h
   subst h
   exact ⟨fun i q => (by cases q), ii (w64 ((w64 (b + a_beside_1)) - a_beside_0)), (by kernel_rfl), rfl⟩
  | false =>
   have h := cF b2 h
   refine XQ.cond (s := (.tmp 30)) (b := false) (by kernel_rfl) (by kernel_rfl) (fun q => by cases q) (fun _ => ?_)
   refine XQ.skip (by kernel_rfl) ?_
   show XQ _ _ _ _ _ _ _ _
   refine XQ.seq E0_ok (by kernel_rfl) ?_
   refine XQ.region (by kernel_rfl) ?_
   refine XR.runS E0_ok 1 4 [(4, ii (w64 (b - a_beside_0)))] rfl (by kernel_rfl) ?_
   refine XR.done (by kernel_rfl) ?_
   show XQ _ _ _ _ _ _ _ _
   refine XQ.ret (by kernel_rfl) ?_
   have h := Option.some.inj h
   subst h
   exact ⟨fun i q => (by cases q), ii (w64 (b - a_beside_0)), (by kernel_rfl), rfl⟩

/-! (vitola/wrap.wound).gap -/
end Go.Xm
