/- What these functions of the program compute, as functions in Lean, and the proofs that they do: wrap.first, wrap.Mark, vitolaref05.Mark, wrap.Which, vitolaref05.Which. Conditions: none. -/
import Derived.Test.YtagagpkjlkoieaaPa
namespace Go.Xm
open Go.RowKit
set_option linter.unusedVariables false
set_option linter.unusedSimpArgs false
set_option maxRecDepth 20000

/-! vitola/wrap.first -/
noncomputable def f62_C62 : Code := Proofs.Try.f62.body.getD .skip

def f62 (m : Nat) : Nat → Int → Int → Int → Int → Option (Int)
  | 0, _, _, _, _ => none
  | fuel + 1, a, b, c, d =>
    cond (c == 0) (
      some (0)
    ) (
      cond (b == 0) (
        some ((-1))
      ) (
        cond (b != 0) (
          cond (decide ((w64 ((w64 (Int.tdiv (w64 ((w64 (c + b)) - 1)) b)) * b)) ≤ d)) (
            some (w64 (Int.tdiv (w64 ((w64 (c + b)) - 1)) b))
          ) (
            (f62 m fuel b (Int.tmod a b) (Int.tmod (w64 (b - (Int.tmod d b))) b) (Int.tmod (w64 (b - (Int.tmod c b))) b)).bind fun r1 =>
              cond (decide (r1 < 0)) (
                some ((-1))
              ) (
                some (w64 (Int.tdiv (w64 ((w64 ((w64 (c + (w64 (a * r1)))) + b)) - 1)) b))
              )
          )
        ) none
      )
    )

theorem f62_ok (m : Nat) : ∀ (fuel : Nat) (a : Int) (b : Int) (c : Int) (d : Int) (o : Int), f62 m fuel a b c d = some o → ∀ (w : World), anyInv w → Calls Proofs.Try.prog 62 #[ii a, ii b, ii c, ii d] w fun e w' => e = .returned (ii o) ∧ Below w.heap.size w w'
  | 0, a, b, c, d, o, h, w, hI => by cases h
  | fuel + 1, a, b, c, d, o, h, w, hI => by
    refine KC.calls (E := E0) (args := [ii a, ii b, ii c, ii d]) (v := ii o) rfl rfl (KC.bodyN E0_ok (F := Proofs.Try.f62) (by kernel_rfl) (code := f62_C62) (by kernel_rfl) (nt := 60) (by kernel_rfl) (rs := [.tmp 8]) (by kernel_rfl) (by kernel_rfl) (σ := [(0, ii a), (1, ii b), (2, ii c), (3, ii d)]) (by kernel_rfl) ?_) w (anyInv_size hI) hI
    unfold f62 at h
    refine XQ.seq E0_ok (by kernel_rfl) ?_
    refine XQ.region (by kernel_rfl) ?_
    refine XR.runS E0_ok 1 1 [(0, ii a), (1, ii b), (2, ii c), (3, ii d)] rfl (by kernel_rfl) ?_
    refine XR.done (by kernel_rfl) ?_
    show XQ _ _ _ _ _ _ _ _
    refine XQ.seq E0_ok (by kernel_rfl) ?_
    refine XQ.block (id := 0) (by kernel_rfl) ?_
    refine XQ.seq E0_ok (by kernel_rfl) ?_
    refine XQ.region (by kernel_rfl) ?_
    refine XR.runS E0_ok 1 3 [(0, ii a), (1, ii b), (2, ii c), (3, ii d), (11, .bool (c == 0))] rfl (by kernel_rfl) ?_
    refine XR.done (by kernel_rfl) ?_
    show XQ _ _ _ _ _ _ _ _
    cases b1 : (c == 0 : Bool) with
    | true =>
      have h := cT b1 h
      refine XQ.cond (s := (.tmp 11)) (b := true) (by kernel_rfl) (by kernel_rfl) (fun _ => ?_) (fun q => by cases q)
      refine XQ.seq E0_ok (by kernel_rfl) ?_
      refine XQ.region (by kernel_rfl) ?_
      refine XR.runS E0_ok 1 1 [(8, ii 0)] rfl (by kernel_rfl) ?_
      refine XR.done (by kernel_rfl) ?_
      show XQ _ _ _ _ _ _ _ _
      refine XQ.ret (by kernel_rfl) ?_
      have h := Option.some.inj h
      subst h
      exact ⟨fun i q => (by cases q), ii 0, (by kernel_rfl), rfl⟩
    | false =>
      have h := cF b1 h
      refine XQ.cond (s := (.tmp 11)) (b := false) (by kernel_rfl) (by kernel_rfl) (fun q => by cases q) (fun _ => ?_)
      refine XQ.seq E0_ok (by kernel_rfl) ?_
      refine XQ.region (by kernel_rfl) ?_
      refine XR.runS E0_ok 1 3 [(0, ii a), (1, ii b), (2, ii c), (3, ii d), (14, .bool (b == 0))] rfl (by kernel_rfl) ?_
      refine XR.done (by kernel_rfl) ?_
      show XQ _ _ _ _ _ _ _ _
      cases b2 : (b == 0 : Bool) with
      | true =>
        have h := cT b2 h
        refine XQ.cond (s := (.tmp 14)) (b := true) (by kernel_rfl) (by kernel_rfl) (fun _ => ?_) (fun q => by cases q)
        refine XQ.seq E0_ok (by kernel_rfl) ?_
        refine XQ.region (by kernel_rfl) ?_
        refine XR.runS E0_ok 1 1 [(8, ii (-1))] rfl (by kernel_rfl) ?_
        refine XR.done (by kernel_rfl) ?_
        show XQ _ _ _ _ _ _ _ _
        refine XQ.ret (by kernel_rfl) ?_
        have h := Option.some.inj h
        subst h
        exact ⟨fun i q => (by cases q), ii (-1), (by kernel_rfl), rfl⟩
      | false =>
        have h := cF b2 h
        refine XQ.cond (s := (.tmp 14)) (b := false) (by kernel_rfl) (by kernel_rfl) (fun q => by cases q) (fun _ => ?_)
        refine XQ.skip (by kernel_rfl) ?_
        show XQ _ _ _ _ _ _ _ _
        refine XQ.seq E0_ok (by kernel_rfl) ?_
        refine XQ.seq E0_ok (by kernel_rfl) ?_
        refine XQ.region (by kernel_rfl) ?_
        refine XR.runS E0_ok 1 5 [(0, ii a), (1, ii b), (2, ii c), (3, ii d), (20, ii (w64 ((w64 (c + b)) - 1))), (21, ii b)] rfl (by kernel_rfl) ?_
        cases b3 : (b != 0 : Bool) with
        | false => cases (cF b3 h)
        | true =>
          have h := cT b3 h
          have e4 : insV (headI ((gsOf E0 60 (opsOf (lft (lft (rgt (rgt f62_C62)))))).drop 5) (trS 60 [(0, ii a), (1, ii b), (2, ii c), (3, ii d), (20, ii (w64 ((w64 (c + b)) - 1))), (21, ii b)])) (trS 60 [(0, ii a), (1, ii b), (2, ii c), (3, ii d), (20, ii (w64 ((w64 (c + b)) - 1))), (21, ii b)]) [] = (match (b != 0 : Bool) with | true => some (ii (w64 (Int.tdiv (w64 ((w64 (c + b)) - 1)) b))) | false => none) := by kernel_rfl
          refine XR.rd E0_ok [0, 1, 2, 3, 22] rfl (e4.trans (by rw [b3])) (σ' := [(0, ii a), (1, ii b), (2, ii c), (3, ii d), (22, ii (w64 (Int.tdiv (w64 ((w64 (c + b)) - 1)) b)))]) (by kernel_rfl) ?_
          refine XR.runS E0_ok 1 1 [(0, ii a), (1, ii b), (2, ii c), (3, ii d), (9, ii (w64 (Int.tdiv (w64 ((w64 (c + b)) - 1)) b)))] rfl (by kernel_rfl) ?_
          refine XR.done (by kernel_rfl) ?_
          show XQ _ _ _ _ _ _ _ _
          refine XQ.seq E0_ok (by kernel_rfl) ?_
          refine XQ.region (by kernel_rfl) ?_
          refine XR.runS E0_ok 1 5 [(0, ii a), (1, ii b), (2, ii c), (3, ii d), (9, ii (w64 (Int.tdiv (w64 ((w64 (c + b)) - 1)) b))), (27, .bool (decide ((w64 ((w64 (Int.tdiv (w64 ((w64 (c + b)) - 1)) b)) * b)) ≤ d)))] rfl (by kernel_rfl) ?_
          refine XR.done (by kernel_rfl) ?_
          show XQ _ _ _ _ _ _ _ _
          cases b5 : (decide ((w64 ((w64 (Int.tdiv (w64 ((w64 (c + b)) - 1)) b)) * b)) ≤ d) : Bool) with
          | true =>
            have h := cT b5 h
            refine XQ.cond (s := (.tmp 27)) (b := true) (by kernel_rfl) (by kernel_rfl) (fun _ => ?_) (fun q => by cases q)
            refine XQ.seq E0_ok (by kernel_rfl) ?_
            refine XQ.region (by kernel_rfl) ?_
            refine XR.runS E0_ok 1 2 [(8, ii (w64 (Int.tdiv (w64 ((w64 (c + b)) - 1)) b)))] rfl (by kernel_rfl) ?_
            refine XR.done (by kernel_rfl) ?_
            show XQ _ _ _ _ _ _ _ _
            refine XQ.ret (by kernel_rfl) ?_
            have h := Option.some.inj h
            subst h
            exact ⟨fun i q => (by cases q), ii (w64 (Int.tdiv (w64 ((w64 (c + b)) - 1)) b)), (by kernel_rfl), rfl⟩
          | false =>
            have h := cF b5 h
            refine XQ.cond (s := (.tmp 27)) (b := false) (by kernel_rfl) (by kernel_rfl) (fun q => by cases q) (fun _ => ?_)
            refine XQ.skip (by kernel_rfl) ?_
            show XQ _ _ _ _ _ _ _ _
            refine XQ.seq E0_ok (by kernel_rfl) ?_
            refine XQ.quiet E0_ok (by kernel_rfl) (by kernel_rfl) ?_
            refine XU.run E0_ok 1 3 [0, 1, 2, 3, 29, 30, 31] rfl (σ' := [(0, ii a), (1, ii b), (2, ii c), (3, ii d), (29, ii b), (30, ii a), (31, ii b)]) (by kernel_rfl) ?_
            have e6 : insV (headI ((gsOf E0 60 (opsOf (lft (rgt (rgt (rgt f62_C62)))))).drop 3) (trS 60 [(0, ii a), (1, ii b), (2, ii c), (3, ii d), (29, ii b), (30, ii a), (31, ii b)])) (trS 60 [(0, ii a), (1, ii b), (2, ii c), (3, ii d), (29, ii b), (30, ii a), (31, ii b)]) [] = (match (b != 0 : Bool) with | true => some (ii (Int.tmod a b)) | false => none) := by kernel_rfl
            refine XU.rd E0_ok [0, 1, 2, 3, 29, 32] rfl (e6.trans (by rw [b3])) (σ' := [(0, ii a), (1, ii b), (2, ii c), (3, ii d), (29, ii b), (32, ii (Int.tmod a b))]) (by kernel_rfl) ?_
            refine XU.run E0_ok 1 3 [0, 1, 2, 29, 32, 33, 34, 35] rfl (σ' := [(0, ii a), (1, ii b), (2, ii c), (29, ii b), (32, ii (Int.tmod a b)), (33, ii b), (34, ii d), (35, ii b)]) (by kernel_rfl) ?_
            have e7 : insV (headI ((gsOf E0 60 (opsOf (lft (rgt (rgt (rgt f62_C62)))))).drop 7) (trS 60 [(0, ii a), (1, ii b), (2, ii c), (29, ii b), (32, ii (Int.tmod a b)), (33, ii b), (34, ii d), (35, ii b)])) (trS 60 [(0, ii a), (1, ii b), (2, ii c), (29, ii b), (32, ii (Int.tmod a b)), (33, ii b), (34, ii d), (35, ii b)]) [] = (match (b != 0 : Bool) with | true => some (ii (Int.tmod d b)) | false => none) := by kernel_rfl
            refine XU.rd E0_ok [0, 1, 2, 29, 32, 33, 36] rfl (e7.trans (by rw [b3])) (σ' := [(0, ii a), (1, ii b), (2, ii c), (29, ii b), (32, ii (Int.tmod a b)), (33, ii b), (36, ii (Int.tmod d b))]) (by kernel_rfl) ?_
            refine XU.run E0_ok 1 2 [0, 1, 2, 29, 32, 37, 38] rfl (σ' := [(0, ii a), (1, ii b), (2, ii c), (29, ii b), (32, ii (Int.tmod a b)), (37, ii (w64 (b - (Int.tmod d b)))), (38, ii b)]) (by kernel_rfl) ?_
            have e8 : insV (headI ((gsOf E0 60 (opsOf (lft (rgt (rgt (rgt f62_C62)))))).drop 10) (trS 60 [(0, ii a), (1, ii b), (2, ii c), (29, ii b), (32, ii (Int.tmod a b)), (37, ii (w64 (b - (Int.tmod d b)))), (38, ii b)])) (trS 60 [(0, ii a), (1, ii b), (2, ii c), (29, ii b), (32, ii (Int.tmod a b)), (37, ii (w64 (b - (Int.tmod d b)))), (38, ii b)]) [] = (match (b != 0 : Bool) with | true => some (ii (Int.tmod (w64 (b - (Int.tmod d b))) b)) | false => none) := by kernel_rfl
            refine XU.rd E0_ok [0, 1, 2, 29, 32, 39] rfl (e8.trans (by rw [b3])) (σ' := [(0, ii a), (1, ii b), (2, ii c), (29, ii b), (32, ii (Int.tmod a b)), (39, ii (Int.tmod (w64 (b - (Int.tmod d b))) b))]) (by kernel_rfl) ?_
            refine XU.run E0_ok 1 3 [0, 1, 2, 29, 32, 39, 40, 41, 42] rfl (σ' := [(0, ii a), (1, ii b), (2, ii c), (29, ii b), (32, ii (Int.tmod a b)), (39, ii (Int.tmod (w64 (b - (Int.tmod d b))) b)), (40, ii b), (41, ii c), (42, ii b)]) (by kernel_rfl) ?_
            have e9 : insV (headI ((gsOf E0 60 (opsOf (lft (rgt (rgt (rgt f62_C62)))))).drop 14) (trS 60 [(0, ii a), (1, ii b), (2, ii c), (29, ii b), (32, ii (Int.tmod a b)), (39, ii (Int.tmod (w64 (b - (Int.tmod d b))) b)), (40, ii b), (41, ii c), (42, ii b)])) (trS 60 [(0, ii a), (1, ii b), (2, ii c), (29, ii b), (32, ii (Int.tmod a b)), (39, ii (Int.tmod (w64 (b - (Int.tmod d b))) b)), (40, ii b), (41, ii c), (42, ii b)]) [] = (match (b != 0 : Bool) with | true => some (ii (Int.tmod c b)) | false => none) := by kernel_rfl
            refine XU.rd E0_ok [0, 1, 2, 29, 32, 39, 40, 43] rfl (e9.trans (by rw [b3])) (σ' := [(0, ii a), (1, ii b), (2, ii c), (29, ii b), (32, ii (Int.tmod a b)), (39, ii (Int.tmod (w64 (b - (Int.tmod d b))) b)), (40, ii b), (43, ii (Int.tmod c b))]) (by kernel_rfl) ?_
            refine XU.run E0_ok 1 2 [0, 1, 2, 29, 32, 39, 44, 45] rfl (σ' := [(0, ii a), (1, ii b), (2, ii c), (29, ii b), (32, ii (Int.tmod a b)), (39, ii (Int.tmod (w64 (b - (Int.tmod d b))) b)), (44, ii (w64 (b - (Int.tmod c b)))), (45, ii b)]) (by kernel_rfl) ?_
            have e10 : insV (headI ((gsOf E0 60 (opsOf (lft (rgt (rgt (rgt f62_C62)))))).drop 17) (trS 60 [(0, ii a), (1, ii b), (2, ii c), (29, ii b), (32, ii (Int.tmod a b)), (39, ii (Int.tmod (w64 (b - (Int.tmod d b))) b)), (44, ii (w64 (b - (Int.tmod c b)))), (45, ii b)])) (trS 60 [(0, ii a), (1, ii b), (2, ii c), (29, ii b), (32, ii (Int.tmod a b)), (39, ii (Int.tmod (w64 (b - (Int.tmod d b))) b)), (44, ii (w64 (b - (Int.tmod c b)))), (45, ii b)]) [] = (match (b != 0 : Bool) with | true => some (ii (Int.tmod (w64 (b - (Int.tmod c b))) b)) | false => none) := by kernel_rfl
            refine XU.rd E0_ok [0, 1, 2, 29, 32, 39, 46] rfl (e10.trans (by rw [b3])) (σ' := [(0, ii a), (1, ii b), (2, ii c), (29, ii b), (32, ii (Int.tmod a b)), (39, ii (Int.tmod (w64 (b - (Int.tmod d b))) b)), (46, ii (Int.tmod (w64 (b - (Int.tmod c b))) b))]) (by kernel_rfl) ?_
            obtain ⟨r1, r1_h, h⟩ := bS h
            refine XU.call E0_ok [0, 1, 2, 47] rfl (K := 62) (F := Proofs.Try.f62) (args := [ii b, ii (Int.tmod a b), ii (Int.tmod (w64 (b - (Int.tmod d b))) b), ii (Int.tmod (w64 (b - (Int.tmod c b))) b)]) (d := (some (path 12 47))) (v := ii r1) (by kernel_rfl) (by kernel_rfl) rfl rfl (fun w hI => f62_ok m fuel b (Int.tmod a b) (Int.tmod (w64 (b - (Int.tmod d b))) b) (Int.tmod (w64 (b - (Int.tmod c b))) b) r1 r1_h w hI) (σ' := [(0, ii a), (1, ii b), (2, ii c), (47, ii r1)]) (by kernel_rfl) ?_
            refine XU.run E0_ok 1 1 [0, 1, 2, 10] rfl (σ' := [(0, ii a), (1, ii b), (2, ii c), (10, ii r1)]) (by kernel_rfl) ?_
            refine XU.done (by kernel_rfl) ?_
            show XQ _ _ _ _ _ _ _ _
            refine XQ.seq E0_ok (by kernel_rfl) ?_
            refine XQ.seq E0_ok (by kernel_rfl) ?_
            refine XQ.region (by kernel_rfl) ?_
            refine XR.runS E0_ok 1 2 [(0, ii a), (1, ii b), (2, ii c), (10, ii r1), (49, .bool (decide (r1 < 0)))] rfl (by kernel_rfl) ?_
            refine XR.done (by kernel_rfl) ?_
            show XQ _ _ _ _ _ _ _ _
            cases b11 : (decide (r1 < 0) : Bool) with
            | true =>
              have h := cT b11 h
              refine XQ.cond (s := (.tmp 49)) (b := true) (by kernel_rfl) (by kernel_rfl) (fun _ => ?_) (fun q => by cases q)
              refine XQ.seq E0_ok (by kernel_rfl) ?_
              refine XQ.region (by kernel_rfl) ?_
              refine XR.runS E0_ok 1 1 [(8, ii (-1))] rfl (by kernel_rfl) ?_
              refine XR.done (by kernel_rfl) ?_
              show XQ _ _ _ _ _ _ _ _
              refine XQ.ret (by kernel_rfl) ?_
              have h := Option.some.inj h
              subst h
              exact ⟨fun i q => (by cases q), ii (-1), (by kernel_rfl), rfl⟩
            | false =>
              have h := cF b11 h
              refine XQ.cond (s := (.tmp 49)) (b := false) (by kernel_rfl) (by kernel_rfl) (fun q => by cases q) (fun _ => ?_)
              refine XQ.skip (by kernel_rfl) ?_
              show XQ _ _ _ _ _ _ _ _
              refine XQ.seq E0_ok (by kernel_rfl) ?_
              refine XQ.region (by kernel_rfl) ?_
              refine XR.runS E0_ok 1 9 [(57, ii (w64 ((w64 ((w64 (c + (w64 (a * r1)))) + b)) - 1))), (58, ii b)] rfl (by kernel_rfl) ?_
              have e12 : insV (headI ((gsOf E0 60 (opsOf (lft (rgt (rgt (rgt (rgt (rgt f62_C62)))))))).drop 9) (trS 60 [(57, ii (w64 ((w64 ((w64 (c + (w64 (a * r1)))) + b)) - 1))), (58, ii b)])) (trS 60 [(57, ii (w64 ((w64 ((w64 (c + (w64 (a * r1)))) + b)) - 1))), (58, ii b)]) [] = (match (b != 0 : Bool) with | true => some (ii (w64 (Int.tdiv (w64 ((w64 ((w64 (c + (w64 (a * r1)))) + b)) - 1)) b))) | false => none) := by kernel_rfl
              refine XR.rd E0_ok [59] rfl (e12.trans (by rw [b3])) (σ' := [(59, ii (w64 (Int.tdiv (w64 ((w64 ((w64 (c + (w64 (a * r1)))) + b)) - 1)) b)))]) (by kernel_rfl) ?_
              refine XR.runS E0_ok 1 1 [(8, ii (w64 (Int.tdiv (w64 ((w64 ((w64 (c + (w64 (a * r1)))) + b)) - 1)) b)))] rfl (by kernel_rfl) ?_
              refine XR.done (by kernel_rfl) ?_
              show XQ _ _ _ _ _ _ _ _
              refine XQ.ret (by kernel_rfl) ?_
              have h := Option.some.inj h
              subst h
              exact ⟨fun i q => (by cases q), ii (w64 (Int.tdiv (w64 ((w64 ((w64 (c + (w64 (a * r1)))) + b)) - 1)) b)), (by kernel_rfl), rfl⟩

/-! vitola/wrap.Mark -/
noncomputable def f16_C16 : Code := Proofs.Try.f16.body.getD .skip

def f16 (m : Nat) (a_Marks : Int) (a_Step : Int) (a_Turns : Int) (b : Int) : Option (Int × Int) :=
  (f20 m a_Marks a_Step a_Turns).bind fun r1 =>
    cond (r1 != 0) (
      some (0, r1)
    ) (
      cond (decide (b < 0)) (
        some (0, 2)
      ) (
        cond (decide (b ≥ a_Turns)) (
          some (0, 2)
        ) (
          (f59 m a_Marks a_Step a_Turns b).bind fun r2 =>
            some (r2, 0)
        )
      )
    )

theorem f16_ok (m : Nat) (a_Marks : Int) (a_Step : Int) (a_Turns : Int) (b : Int) (o : Int × Int) (h : f16 m a_Marks a_Step a_Turns b = some o) (w : World) (hI : anyInv w) : Calls Proofs.Try.prog 16 #[.agg #[ii a_Marks, ii a_Step, ii a_Turns], ii b] w fun e w' => e = .returned (.tuple #[ii o.1, ii o.2]) ∧ Below w.heap.size w w' := by
  refine KC.calls (E := E0) (args := [.agg #[ii a_Marks, ii a_Step, ii a_Turns], ii b]) (v := .tuple #[ii o.1, ii o.2]) rfl rfl (KC.bodyN E0_ok (F := Proofs.Try.f16) (by kernel_rfl) (code := f16_C16) (by kernel_rfl) (nt := 25) (by kernel_rfl) (rs := [.tmp 4, .tmp 5]) (by kernel_rfl) (by kernel_rfl) (σ := [(0, .agg #[ii a_Marks, ii a_Step, ii a_Turns]), (1, ii b)]) (by kernel_rfl) ?_) w (anyInv_size hI) hI
  unfold f16 at h
  refine XQ.seq E0_ok (by kernel_rfl) ?_
  refine XQ.region (by kernel_rfl) ?_
  refine XR.runT E0_ok 1 3 [(1, ii b), (2, pp 0 0)] [(0, .cells [ii a_Marks, ii a_Step, ii a_Turns] 0 23 0)] 1 rfl (by kernel_rfl) ?_
  refine XR.done (by kernel_rfl) ?_
  show XQ _ _ _ _ _ _ _ _
  refine XQ.seq E0_ok (by kernel_rfl) ?_
  refine XQ.region (by kernel_rfl) ?_
  refine XR.runS E0_ok 1 1 [(1, ii b), (2, pp 0 0), (7, .agg #[ii a_Marks, ii a_Step, ii a_Turns])] rfl (by kernel_rfl) ?_
  obtain ⟨r1, r1_h, h⟩ := bS h
  refine XR.call E0_ok [1, 2, 8] rfl (K := 20) (args := [.agg #[ii a_Marks, ii a_Step, ii a_Turns]]) (d := (some (path 12 8))) (by kernel_rfl) (KC.of_calls E0_ok (F := Proofs.Try.f20) (v := ii r1) (by kernel_rfl) rfl rfl (fun w hI => f20_ok m a_Marks a_Step a_Turns r1 r1_h w hI)) ?_
  rintro _ _ _ ⟨rfl, rfl, rfl⟩
  refine XR.conv (σ' := [(1, ii b), (2, pp 0 0), (8, ii r1)]) (h' := [(0, .cells [ii a_Marks, ii a_Step, ii a_Turns] 0 23 0)]) (c' := 1) ?_ (by kernel_rfl)
  refine XR.runS E0_ok 1 1 [(1, ii b), (2, pp 0 0), (6, ii r1)] rfl (by kernel_rfl) ?_
  refine XR.done (by kernel_rfl) ?_
  show XQ _ _ _ _ _ _ _ _
  refine XQ.seq E0_ok (by kernel_rfl) ?_
  refine XQ.block (id := 0) (by kernel_rfl) ?_
  refine XQ.seq E0_ok (by kernel_rfl) ?_
  refine XQ.region (by kernel_rfl) ?_
  refine XR.runS E0_ok 1 3 [(1, ii b), (2, pp 0 0), (6, ii r1), (9, .bool (r1 != 0))] rfl (by kernel_rfl) ?_
  refine XR.done (by kernel_rfl) ?_
  show XQ _ _ _ _ _ _ _ _
  cases b1 : (r1 != 0 : Bool) with
  | true =>
    have h := cT b1 h
    refine XQ.cond (s := (.tmp 9)) (b := true) (by kernel_rfl) (by kernel_rfl) (fun _ => ?_) (fun q => by cases q)
    refine XQ.seq E0_ok (by kernel_rfl) ?_
    refine XQ.region (by kernel_rfl) ?_
    refine XR.runS E0_ok 1 3 [(4, ii 0), (5, ii r1)] rfl (by kernel_rfl) ?_
    refine XR.done (by kernel_rfl) ?_
    show XQ _ _ _ _ _ _ _ _
    refine XQ.ret (by kernel_rfl) ?_
    have h := Option.some.inj h
    subst h
    exact ⟨fun i q => (by cases q), .tuple #[ii 0, ii r1], (by kernel_rfl), rfl⟩
  | false =>
    have h := cF b1 h
    refine XQ.cond (s := (.tmp 9)) (b := false) (by kernel_rfl) (by kernel_rfl) (fun q => by cases q) (fun _ => ?_)
    refine XQ.seq E0_ok (by kernel_rfl) ?_
    refine XQ.region (by kernel_rfl) ?_
    refine XR.runS E0_ok 1 3 [(1, ii b), (2, pp 0 0), (16, .bool (decide (b < 0)))] rfl (by kernel_rfl) ?_
    cases b2 : (decide (b < 0) : Bool) with
    | true =>
      have h := cT b2 h
      refine XR.runS E0_ok 1 6 [(1, ii b), (2, pp 0 0), (13, .bool true)] rfl (by kernel_rfl) ?_
      refine XR.done (by kernel_rfl) ?_
      show XQ _ _ _ _ _ _ _ _
      refine XQ.cond (s := (.tmp 13)) (b := true) (by kernel_rfl) (by kernel_rfl) (fun _ => ?_) (fun q => by cases q)
      refine XQ.seq E0_ok (by kernel_rfl) ?_
      refine XQ.region (by kernel_rfl) ?_
      refine XR.runS E0_ok 1 2 [(4, ii 0), (5, ii 2)] rfl (by kernel_rfl) ?_
      refine XR.done (by kernel_rfl) ?_
      show XQ _ _ _ _ _ _ _ _
      refine XQ.ret (by kernel_rfl) ?_
      have h := Option.some.inj h
      subst h
      exact ⟨fun i q => (by cases q), .tuple #[ii 0, ii 2], (by kernel_rfl), rfl⟩
    | false =>
      have h := cF b2 h
      refine XR.runS E0_ok 1 6 [(1, ii b), (2, pp 0 0), (13, .bool (decide (b ≥ a_Turns)))] rfl (by kernel_rfl) ?_
      refine XR.done (by kernel_rfl) ?_
      show XQ _ _ _ _ _ _ _ _
      cases b3 : (decide (b ≥ a_Turns) : Bool) with
      | true =>
        have h := cT b3 h
        refine XQ.cond (s := (.tmp 13)) (b := true) (by kernel_rfl) (by kernel_rfl) (fun _ => ?_) (fun q => by cases q)
        refine XQ.seq E0_ok (by kernel_rfl) ?_
        refine XQ.region (by kernel_rfl) ?_
        refine XR.runS E0_ok 1 2 [(4, ii 0), (5, ii 2)] rfl (by kernel_rfl) ?_
        refine XR.done (by kernel_rfl) ?_
        show XQ _ _ _ _ _ _ _ _
        refine XQ.ret (by kernel_rfl) ?_
        have h := Option.some.inj h
        subst h
        exact ⟨fun i q => (by cases q), .tuple #[ii 0, ii 2], (by kernel_rfl), rfl⟩
      | false =>
        have h := cF b3 h
        refine XQ.cond (s := (.tmp 13)) (b := false) (by kernel_rfl) (by kernel_rfl) (fun q => by cases q) (fun _ => ?_)
        refine XQ.skip (by kernel_rfl) ?_
        show XQ _ _ _ _ _ _ _ _
        refine XQ.seq E0_ok (by kernel_rfl) ?_
        refine XQ.region (by kernel_rfl) ?_
        refine XR.runS E0_ok 1 2 [(22, .agg #[ii a_Marks, ii a_Step, ii a_Turns]), (23, ii b)] rfl (by kernel_rfl) ?_
        obtain ⟨r2, r2_h, h⟩ := bS h
        refine XR.call E0_ok [24] rfl (K := 59) (args := [.agg #[ii a_Marks, ii a_Step, ii a_Turns], ii b]) (d := (some (path 12 24))) (by kernel_rfl) (KC.of_calls E0_ok (F := Proofs.Try.f59) (v := ii r2) (by kernel_rfl) rfl rfl (fun w hI => f59_ok m a_Marks a_Step a_Turns b r2 r2_h w hI)) ?_
        rintro _ _ _ ⟨rfl, rfl, rfl⟩
        refine XR.conv (σ' := [(24, ii r2)]) (h' := [(0, .cells [ii a_Marks, ii a_Step, ii a_Turns] 0 23 0)]) (c' := 1) ?_ (by kernel_rfl)
        refine XR.runS E0_ok 1 2 [(4, ii r2), (5, ii 0)] rfl (by kernel_rfl) ?_
        refine XR.done (by kernel_rfl) ?_
        show XQ _ _ _ _ _ _ _ _
        refine XQ.ret (by kernel_rfl) ?_
        have h := Option.some.inj h
        subst h
        exact ⟨fun i q => (by cases q), .tuple #[ii r2, ii 0], (by kernel_rfl), rfl⟩

/-! vitola/vitolaref05.Mark -/
noncomputable def f17_C17 : Code := Proofs.Try.f17.body.getD .skip
noncomputable def f17_C60 : Code := Proofs.Try.f60.body.getD .skip

def f17 (m : Nat) (a_Marks : Int) (a_Step : Int) (a_Turns : Int) (b : Int) : Option (Int × Int) :=
  (f21 m a_Marks a_Step a_Turns).bind fun r1 =>
    cond (r1 == 0) (
      cond (decide (b ≥ 0)) (
        cond ((cond (!(decide (b ≤ (w64 (a_Turns - 1))))) 2 r1 : Int) != 0) (
          some (0, cond (!(decide (b ≤ (w64 (a_Turns - 1))))) 2 r1)
        ) (
          (f61 m a_Marks a_Step a_Turns b).bind fun r2 =>
            some (r2, 0)
        )
      ) (
        some (0, 2)
      )
    ) (
      cond (r1 != 0) (
        some (0, r1)
      ) (
        (f61 m a_Marks a_Step a_Turns b).bind fun r3 =>
          some (r3, 0)
      )
    )

theorem f17_ok (m : Nat) (a_Marks : Int) (a_Step : Int) (a_Turns : Int) (b : Int) (o : Int × Int) (h : f17 m a_Marks a_Step a_Turns b = some o) (w : World) (hI : anyInv w) : Calls Proofs.Try.prog 17 #[.agg #[ii a_Marks, ii a_Step, ii a_Turns], ii b] w fun e w' => e = .returned (.tuple #[ii o.1, ii o.2]) ∧ Below w.heap.size w w' := by
  refine KC.calls (E := E0) (args := [.agg #[ii a_Marks, ii a_Step, ii a_Turns], ii b]) (v := .tuple #[ii o.1, ii o.2]) rfl rfl (KC.bodyN E0_ok (F := Proofs.Try.f17) (by kernel_rfl) (code := f17_C17) (by kernel_rfl) (nt := 25) (by kernel_rfl) (rs := [.tmp 4, .tmp 5]) (by kernel_rfl) (by kernel_rfl) (σ := [(0, .agg #[ii a_Marks, ii a_Step, ii a_Turns]), (1, ii b)]) (by kernel_rfl) ?_) w (anyInv_size hI) hI
  unfold f17 at h
  refine XQ.seq E0_ok (by kernel_rfl) ?_
  refine XQ.region (by kernel_rfl) ?_
  refine XR.runT E0_ok 1 3 [(1, ii b), (2, pp 0 0)] [(0, .cells [ii a_Marks, ii a_Step, ii a_Turns] 0 24 0)] 1 rfl (by kernel_rfl) ?_
  refine XR.done (by kernel_rfl) ?_
  show XQ _ _ _ _ _ _ _ _
  refine XQ.seq E0_ok (by kernel_rfl) ?_
  refine XQ.region (by kernel_rfl) ?_
  refine XR.runS E0_ok 1 1 [(1, ii b), (2, pp 0 0), (7, .agg #[ii a_Marks, ii a_Step, ii a_Turns])] rfl (by kernel_rfl) ?_
  obtain ⟨r1, r1_h, h⟩ := bS h
  refine XR.call E0_ok [1, 2, 8] rfl (K := 21) (args := [.agg #[ii a_Marks, ii a_Step, ii a_Turns]]) (d := (some (path 12 8))) (by kernel_rfl) (KC.of_calls E0_ok (F := Proofs.Try.f21) (v := ii r1) (by kernel_rfl) rfl rfl (fun w hI => f21_ok m a_Marks a_Step a_Turns r1 r1_h w hI)) ?_
  rintro _ _ _ ⟨rfl, rfl, rfl⟩
  refine XR.conv (σ' := [(1, ii b), (2, pp 0 0), (8, ii r1)]) (h' := [(0, .cells [ii a_Marks, ii a_Step, ii a_Turns] 0 24 0)]) (c' := 1) ?_ (by kernel_rfl)
  refine XR.runS E0_ok 1 1 [(1, ii b), (2, pp 0 0), (6, ii r1)] rfl (by kernel_rfl) ?_
  refine XR.done (by kernel_rfl) ?_
  show XQ _ _ _ _ _ _ _ _
  refine XQ.seq E0_ok (by kernel_rfl) ?_
  refine XQ.seq E0_ok (by kernel_rfl) ?_
  refine XQ.region (by kernel_rfl) ?_
  refine XR.runS E0_ok 1 3 [(1, ii b), (2, pp 0 0), (6, ii r1), (11, .bool (r1 == 0))] rfl (by kernel_rfl) ?_
  cases b1 : (r1 == 0 : Bool) with
  | true =>
    have h := cT b1 h
    refine XR.runS E0_ok 1 4 [(1, ii b), (2, pp 0 0), (6, ii r1), (11, .bool true), (12, ii b), (15, ii (w64 (a_Turns - 1)))] rfl (by kernel_rfl) ?_
    refine XR.callK E0_ok [1, 2, 6, 11, 16] rfl (K := 60) (args := [ii b, ii 0, ii (w64 (a_Turns - 1))]) (d := (some (path 12 16))) (by kernel_rfl) ?_
    refine KC.bodyN E0_ok (F := Proofs.Try.f60) (by kernel_rfl) (code := f17_C60) (by kernel_rfl) (nt := 15) (by kernel_rfl) (rs := [.tmp 6]) (by kernel_rfl) (by kernel_rfl) (σ := [(0, ii b), (1, ii 0), (2, ii (w64 (a_Turns - 1)))]) (by kernel_rfl) ?_
    refine XQ.seq E0_ok (by kernel_rfl) ?_
    refine XQ.region (by kernel_rfl) ?_
    refine XR.runS E0_ok 1 1 [(0, ii b), (1, ii 0), (2, ii (w64 (a_Turns - 1)))] rfl (by kernel_rfl) ?_
    refine XR.done (by kernel_rfl) ?_
    show XQ _ _ _ _ _ _ _ _
    refine XQ.seq E0_ok (by kernel_rfl) ?_
    refine XQ.region (by kernel_rfl) ?_
    refine XR.runS E0_ok 1 4 [(0, ii b), (2, ii (w64 (a_Turns - 1))), (10, .bool (decide (b ≥ 0)))] rfl (by kernel_rfl) ?_
    cases b2 : (decide (b ≥ 0) : Bool) with
    | true =>
      have h := cT b2 h
      refine XR.runS E0_ok 1 5 [(6, .bool (decide (b ≤ (w64 (a_Turns - 1)))))] rfl (by kernel_rfl) ?_
      refine XR.done (by kernel_rfl) ?_
      show XQ _ _ _ _ _ _ _ _
      refine XQ.ret (by kernel_rfl) ?_
      refine ⟨fun i q => (by cases q), .bool (decide (b ≤ (w64 (a_Turns - 1)))), (by kernel_rfl), ?_⟩
      refine XR.conv (σ' := [(1, ii b), (2, pp 0 0), (6, ii r1), (11, .bool true), (16, .bool (decide (b ≤ (w64 (a_Turns - 1)))))]) (h' := [(0, .cells [ii a_Marks, ii a_Step, ii a_Turns] 0 24 0)]) (c' := 1) ?_ (by kernel_rfl)
      refine XR.runS E0_ok 1 2 [(1, ii b), (2, pp 0 0), (6, ii r1), (18, .bool (!(decide (b ≤ (w64 (a_Turns - 1))))))] rfl (by kernel_rfl) ?_
      refine XR.done (by kernel_rfl) ?_
      show XQ _ _ _ _ _ _ _ _
      refine XQ.meetC (σ' := [(1, ii b), (2, pp 0 0), (6, ii (cond (!(decide (b ≤ (w64 (a_Turns - 1))))) 2 r1))]) (h' := [(0, .cells [ii a_Marks, ii a_Step, ii a_Turns] 0 24 0)]) (c' := 1) ?_ ?_
      rotate_left
      · refine XQ.cond (s := (.tmp 18)) (b := !(decide (b ≤ (w64 (a_Turns - 1))))) (by kernel_rfl) (by kernel_rfl) (fun b3 => ?_) (fun b3 => ?_)
        · refine XQ.region (by kernel_rfl) ?_
          refine XR.runS E0_ok 1 1 [(1, ii b), (2, pp 0 0), (6, ii 2)] rfl (by kernel_rfl) ?_
          refine XR.done (by kernel_rfl) ?_
          refine ⟨rfl, ?_, ?_⟩
          · try rw [b3]
            exact ⟨by kernel_rfl, by kernel_rfl, by kernel_rfl, trivial⟩
          · try rw [b3]
            kernel_rfl
        · refine XQ.skip (by kernel_rfl) ?_
          refine ⟨rfl, ?_, ?_⟩
          · try rw [b3]
            exact ⟨by kernel_rfl, by kernel_rfl, by kernel_rfl, trivial⟩
          · try rw [b3]
            kernel_rfl
      show XQ _ _ _ _ _ _ _ _
      refine XQ.seq E0_ok (by kernel_rfl) ?_
      refine XQ.seq E0_ok (by kernel_rfl) ?_
      refine XQ.region (by kernel_rfl) ?_
      refine XR.runS E0_ok 1 2 [(1, ii b), (2, pp 0 0), (6, ii (cond (!(decide (b ≤ (w64 (a_Turns - 1))))) 2 r1)), (20, .bool ((cond (!(decide (b ≤ (w64 (a_Turns - 1))))) 2 r1 : Int) != 0))] rfl (by kernel_rfl) ?_
      refine XR.done (by kernel_rfl) ?_
      show XQ _ _ _ _ _ _ _ _
      cases b4 : ((cond (!(decide (b ≤ (w64 (a_Turns - 1))))) 2 r1 : Int) != 0 : Bool) with
      | true =>
        have h := cT b4 h
        refine XQ.cond (s := (.tmp 20)) (b := true) (by kernel_rfl) (by kernel_rfl) (fun _ => ?_) (fun q => by cases q)
        refine XQ.seq E0_ok (by kernel_rfl) ?_
        refine XQ.region (by kernel_rfl) ?_
        refine XR.runS E0_ok 1 3 [(4, ii 0), (5, ii (cond (!(decide (b ≤ (w64 (a_Turns - 1))))) 2 r1))] rfl (by kernel_rfl) ?_
        refine XR.done (by kernel_rfl) ?_
        show XQ _ _ _ _ _ _ _ _
        refine XQ.ret (by kernel_rfl) ?_
        have h := Option.some.inj h
        subst h
        exact ⟨fun i q => (by cases q), .tuple #[ii 0, ii (cond (!(decide (b ≤ (w64 (a_Turns - 1))))) 2 r1)], (by kernel_rfl), rfl⟩
      | false =>
        have h := cF b4 h
        refine XQ.cond (s := (.tmp 20)) (b := false) (by kernel_rfl) (by kernel_rfl) (fun q => by cases q) (fun _ => ?_)
        refine XQ.skip (by kernel_rfl) ?_
        show XQ _ _ _ _ _ _ _ _
        refine XQ.seq E0_ok (by kernel_rfl) ?_
        refine XQ.region (by kernel_rfl) ?_
        refine XR.runS E0_ok 1 2 [(22, .agg #[ii a_Marks, ii a_Step, ii a_Turns]), (23, ii b)] rfl (by kernel_rfl) ?_
        obtain ⟨r2, r2_h, h⟩ := bS h
        refine XR.call E0_ok [24] rfl (K := 61) (args := [.agg #[ii a_Marks, ii a_Step, ii a_Turns], ii b]) (d := (some (path 12 24))) (by kernel_rfl) (KC.of_calls E0_ok (F := Proofs.Try.f61) (v := ii r2) (by kernel_rfl) rfl rfl (fun w hI => f61_ok m a_Marks a_Step a_Turns b r2 r2_h w hI)) ?_
        rintro _ _ _ ⟨rfl, rfl, rfl⟩
        refine XR.conv (σ' := [(24, ii r2)]) (h' := [(0, .cells [ii a_Marks, ii a_Step, ii a_Turns] 0 24 0)]) (c' := 1) ?_ (by kernel_rfl)
        refine XR.runS E0_ok 1 2 [(4, ii r2), (5, ii 0)] rfl (by kernel_rfl) ?_
        refine XR.done (by kernel_rfl) ?_
        show XQ _ _ _ _ _ _ _ _
        refine XQ.ret (by kernel_rfl) ?_
        have h := Option.some.inj h
        subst h
        exact ⟨fun i q => (by cases q), .tuple #[ii r2, ii 0], (by kernel_rfl), rfl⟩
    | false =>
      have h := cF b2 h
      refine XR.runS E0_ok 1 5 [(6, .bool false)] rfl (by kernel_rfl) ?_
      refine XR.done (by kernel_rfl) ?_
      show XQ _ _ _ _ _ _ _ _
      refine XQ.ret (by kernel_rfl) ?_
      refine ⟨fun i q => (by cases q), .bool false, (by kernel_rfl), ?_⟩
      refine XR.conv (σ' := [(1, ii b), (2, pp 0 0), (6, ii r1), (11, .bool true), (16, .bool false)]) (h' := [(0, .cells [ii a_Marks, ii a_Step, ii a_Turns] 0 24 0)]) (c' := 1) ?_ (by kernel_rfl)
      refine XR.runS E0_ok 1 2 [(1, ii b), (2, pp 0 0), (6, ii r1), (18, .bool true)] rfl (by kernel_rfl) ?_
      refine XR.done (by kernel_rfl) ?_
      show XQ _ _ _ _ _ _ _ _
      refine XQ.cond (s := (.tmp 18)) (b := true) (by kernel_rfl) (by kernel_rfl) (fun _ => ?_) (fun q => by cases q)
      refine XQ.region (by kernel_rfl) ?_
      refine XR.runS E0_ok 1 1 [(1, ii b), (2, pp 0 0), (6, ii 2)] rfl (by kernel_rfl) ?_
      refine XR.done (by kernel_rfl) ?_
      show XQ _ _ _ _ _ _ _ _
      refine XQ.seq E0_ok (by kernel_rfl) ?_
      refine XQ.seq E0_ok (by kernel_rfl) ?_
      refine XQ.region (by kernel_rfl) ?_
      refine XR.runS E0_ok 1 2 [(1, ii b), (2, pp 0 0), (6, ii 2), (20, .bool true)] rfl (by kernel_rfl) ?_
      refine XR.done (by kernel_rfl) ?_
      show XQ _ _ _ _ _ _ _ _
      refine XQ.cond (s := (.tmp 20)) (b := true) (by kernel_rfl) (by kernel_rfl) (fun _ => ?_) (fun q => by cases q)
      refine XQ.seq E0_ok (by kernel_rfl) ?_
      refine XQ.region (by kernel_rfl) ?_
      refine XR.runS E0_ok 1 3 [(4, ii 0), (5, ii 2)] rfl (by kernel_rfl) ?_
      refine XR.done (by kernel_rfl) ?_
      show XQ _ _ _ _ _ _ _ _
      refine XQ.ret (by kernel_rfl) ?_
      have h := Option.some.inj h
      subst h
      exact ⟨fun i q => (by cases q), .tuple #[ii 0, ii 2], (by kernel_rfl), rfl⟩
  | false =>
    have h := cF b1 h
    refine XR.runS E0_ok 1 7 [(1, ii b), (2, pp 0 0), (6, ii r1), (18, .bool false)] rfl (by kernel_rfl) ?_
    refine XR.done (by kernel_rfl) ?_
    show XQ _ _ _ _ _ _ _ _
    refine XQ.cond (s := (.tmp 18)) (b := false) (by kernel_rfl) (by kernel_rfl) (fun q => by cases q) (fun _ => ?_)
    refine XQ.skip (by kernel_rfl) ?_
    show XQ _ _ _ _ _ _ _ _
    refine XQ.seq E0_ok (by kernel_rfl) ?_
    refine XQ.seq E0_ok (by kernel_rfl) ?_
    refine XQ.region (by kernel_rfl) ?_
    refine XR.runS E0_ok 1 2 [(1, ii b), (2, pp 0 0), (6, ii r1), (20, .bool (r1 != 0))] rfl (by kernel_rfl) ?_
    refine XR.done (by kernel_rfl) ?_
    show XQ _ _ _ _ _ _ _ _
    cases b5 : (r1 != 0 : Bool) with
    | true =>
      have h := cT b5 h
      refine XQ.cond (s := (.tmp 20)) (b := true) (by kernel_rfl) (by kernel_rfl) (fun _ => ?_) (fun q => by cases q)
      refine XQ.seq E0_ok (by kernel_rfl) ?_
      refine XQ.region (by kernel_rfl) ?_
      refine XR.runS E0_ok 1 3 [(4, ii 0), (5, ii r1)] rfl (by kernel_rfl) ?_
      refine XR.done (by kernel_rfl) ?_
      show XQ _ _ _ _ _ _ _ _
      refine XQ.ret (by kernel_rfl) ?_
      have h := Option.some.inj h
      subst h
      exact ⟨fun i q => (by cases q), .tuple #[ii 0, ii r1], (by kernel_rfl), rfl⟩
    | false =>
      have h := cF b5 h
      refine XQ.cond (s := (.tmp 20)) (b := false) (by kernel_rfl) (by kernel_rfl) (fun q => by cases q) (fun _ => ?_)
      refine XQ.skip (by kernel_rfl) ?_
      show XQ _ _ _ _ _ _ _ _
      refine XQ.seq E0_ok (by kernel_rfl) ?_
      refine XQ.region (by kernel_rfl) ?_
      refine XR.runS E0_ok 1 2 [(22, .agg #[ii a_Marks, ii a_Step, ii a_Turns]), (23, ii b)] rfl (by kernel_rfl) ?_
      obtain ⟨r3, r3_h, h⟩ := bS h
      refine XR.call E0_ok [24] rfl (K := 61) (args := [.agg #[ii a_Marks, ii a_Step, ii a_Turns], ii b]) (d := (some (path 12 24))) (by kernel_rfl) (KC.of_calls E0_ok (F := Proofs.Try.f61) (v := ii r3) (by kernel_rfl) rfl rfl (fun w hI => f61_ok m a_Marks a_Step a_Turns b r3 r3_h w hI)) ?_
      rintro _ _ _ ⟨rfl, rfl, rfl⟩
      refine XR.conv (σ' := [(24, ii r3)]) (h' := [(0, .cells [ii a_Marks, ii a_Step, ii a_Turns] 0 24 0)]) (c' := 1) ?_ (by kernel_rfl)
      refine XR.runS E0_ok 1 2 [(4, ii r3), (5, ii 0)] rfl (by kernel_rfl) ?_
      refine XR.done (by kernel_rfl) ?_
      show XQ _ _ _ _ _ _ _ _
      refine XQ.ret (by kernel_rfl) ?_
      have h := Option.some.inj h
      subst h
      exact ⟨fun i q => (by cases q), .tuple #[ii r3, ii 0], (by kernel_rfl), rfl⟩

/-! vitola/wrap.Which -/
noncomputable def f18_C18 : Code := Proofs.Try.f18.body.getD .skip

def f18 (m : Nat) (a_Marks : Int) (a_Step : Int) (a_Turns : Int) (b : Int) : Option (Int × Int) :=
  (f20 m a_Marks a_Step a_Turns).bind fun r1 =>
    cond (r1 != 0) (
      some (0, r1)
    ) (
      cond (decide (b < 0)) (
        some (0, 2)
      ) (
        cond (decide (b ≥ a_Marks)) (
          some (0, 2)
        ) (
          (f62 m m a_Marks a_Step b b).bind fun r2 =>
            cond (decide (r2 ≥ 0)) (
              cond (decide (r2 < a_Turns)) (
                some (r2, 0)
              ) (
                some (0, 12)
              )
            ) (
              some (0, 12)
            )
        )
      )
    )

theorem f18_ok (m : Nat) (a_Marks : Int) (a_Step : Int) (a_Turns : Int) (b : Int) (o : Int × Int) (h : f18 m a_Marks a_Step a_Turns b = some o) (w : World) (hI : anyInv w) : Calls Proofs.Try.prog 18 #[.agg #[ii a_Marks, ii a_Step, ii a_Turns], ii b] w fun e w' => e = .returned (.tuple #[ii o.1, ii o.2]) ∧ Below w.heap.size w w' := by
  refine KC.calls (E := E0) (args := [.agg #[ii a_Marks, ii a_Step, ii a_Turns], ii b]) (v := .tuple #[ii o.1, ii o.2]) rfl rfl (KC.bodyN E0_ok (F := Proofs.Try.f18) (by kernel_rfl) (code := f18_C18) (by kernel_rfl) (nt := 39) (by kernel_rfl) (rs := [.tmp 4, .tmp 5]) (by kernel_rfl) (by kernel_rfl) (σ := [(0, .agg #[ii a_Marks, ii a_Step, ii a_Turns]), (1, ii b)]) (by kernel_rfl) ?_) w (anyInv_size hI) hI
  unfold f18 at h
  refine XQ.seq E0_ok (by kernel_rfl) ?_
  refine XQ.region (by kernel_rfl) ?_
  refine XR.runT E0_ok 1 3 [(1, ii b), (2, pp 0 0)] [(0, .cells [ii a_Marks, ii a_Step, ii a_Turns] 0 23 0)] 1 rfl (by kernel_rfl) ?_
  refine XR.done (by kernel_rfl) ?_
  show XQ _ _ _ _ _ _ _ _
  refine XQ.seq E0_ok (by kernel_rfl) ?_
  refine XQ.region (by kernel_rfl) ?_
  refine XR.runS E0_ok 1 1 [(1, ii b), (2, pp 0 0), (8, .agg #[ii a_Marks, ii a_Step, ii a_Turns])] rfl (by kernel_rfl) ?_
  obtain ⟨r1, r1_h, h⟩ := bS h
  refine XR.call E0_ok [1, 2, 9] rfl (K := 20) (args := [.agg #[ii a_Marks, ii a_Step, ii a_Turns]]) (d := (some (path 12 9))) (by kernel_rfl) (KC.of_calls E0_ok (F := Proofs.Try.f20) (v := ii r1) (by kernel_rfl) rfl rfl (fun w hI => f20_ok m a_Marks a_Step a_Turns r1 r1_h w hI)) ?_
  rintro _ _ _ ⟨rfl, rfl, rfl⟩
  refine XR.conv (σ' := [(1, ii b), (2, pp 0 0), (9, ii r1)]) (h' := [(0, .cells [ii a_Marks, ii a_Step, ii a_Turns] 0 23 0)]) (c' := 1) ?_ (by kernel_rfl)
  refine XR.runS E0_ok 1 1 [(1, ii b), (2, pp 0 0), (6, ii r1)] rfl (by kernel_rfl) ?_
  refine XR.done (by kernel_rfl) ?_
  show XQ _ _ _ _ _ _ _ _
  refine XQ.seq E0_ok (by kernel_rfl) ?_
  refine XQ.block (id := 0) (by kernel_rfl) ?_
  refine XQ.seq E0_ok (by kernel_rfl) ?_
  refine XQ.region (by kernel_rfl) ?_
  refine XR.runS E0_ok 1 3 [(1, ii b), (2, pp 0 0), (6, ii r1), (10, .bool (r1 != 0))] rfl (by kernel_rfl) ?_
  refine XR.done (by kernel_rfl) ?_
  show XQ _ _ _ _ _ _ _ _
  cases b1 : (r1 != 0 : Bool) with
  | true =>
    have h := cT b1 h
    refine XQ.cond (s := (.tmp 10)) (b := true) (by kernel_rfl) (by kernel_rfl) (fun _ => ?_) (fun q => by cases q)
    refine XQ.seq E0_ok (by kernel_rfl) ?_
    refine XQ.region (by kernel_rfl) ?_
    refine XR.runS E0_ok 1 3 [(4, ii 0), (5, ii r1)] rfl (by kernel_rfl) ?_
    refine XR.done (by kernel_rfl) ?_
    show XQ _ _ _ _ _ _ _ _
    refine XQ.ret (by kernel_rfl) ?_
    have h := Option.some.inj h
    subst h
    exact ⟨fun i q => (by cases q), .tuple #[ii 0, ii r1], (by kernel_rfl), rfl⟩
  | false =>
    have h := cF b1 h
    refine XQ.cond (s := (.tmp 10)) (b := false) (by kernel_rfl) (by kernel_rfl) (fun q => by cases q) (fun _ => ?_)
    refine XQ.seq E0_ok (by kernel_rfl) ?_
    refine XQ.region (by kernel_rfl) ?_
    refine XR.runS E0_ok 1 3 [(1, ii b), (2, pp 0 0), (17, .bool (decide (b < 0)))] rfl (by kernel_rfl) ?_
    cases b2 : (decide (b < 0) : Bool) with
    | true =>
      have h := cT b2 h
      refine XR.runS E0_ok 1 6 [(1, ii b), (2, pp 0 0), (14, .bool true)] rfl (by kernel_rfl) ?_
      refine XR.done (by kernel_rfl) ?_
      show XQ _ _ _ _ _ _ _ _
      refine XQ.cond (s := (.tmp 14)) (b := true) (by kernel_rfl) (by kernel_rfl) (fun _ => ?_) (fun q => by cases q)
      refine XQ.seq E0_ok (by kernel_rfl) ?_
      refine XQ.region (by kernel_rfl) ?_
      refine XR.runS E0_ok 1 2 [(4, ii 0), (5, ii 2)] rfl (by kernel_rfl) ?_
      refine XR.done (by kernel_rfl) ?_
      show XQ _ _ _ _ _ _ _ _
      refine XQ.ret (by kernel_rfl) ?_
      have h := Option.some.inj h
      subst h
      exact ⟨fun i q => (by cases q), .tuple #[ii 0, ii 2], (by kernel_rfl), rfl⟩
    | false =>
      have h := cF b2 h
      refine XR.runS E0_ok 1 6 [(1, ii b), (2, pp 0 0), (14, .bool (decide (b ≥ a_Marks)))] rfl (by kernel_rfl) ?_
      refine XR.done (by kernel_rfl) ?_
      show XQ _ _ _ _ _ _ _ _
      cases b3 : (decide (b ≥ a_Marks) : Bool) with
      | true =>
        have h := cT b3 h
        refine XQ.cond (s := (.tmp 14)) (b := true) (by kernel_rfl) (by kernel_rfl) (fun _ => ?_) (fun q => by cases q)
        refine XQ.seq E0_ok (by kernel_rfl) ?_
        refine XQ.region (by kernel_rfl) ?_
        refine XR.runS E0_ok 1 2 [(4, ii 0), (5, ii 2)] rfl (by kernel_rfl) ?_
        refine XR.done (by kernel_rfl) ?_
        show XQ _ _ _ _ _ _ _ _
        refine XQ.ret (by kernel_rfl) ?_
        have h := Option.some.inj h
        subst h
        exact ⟨fun i q => (by cases q), .tuple #[ii 0, ii 2], (by kernel_rfl), rfl⟩
      | false =>
        have h := cF b3 h
        refine XQ.cond (s := (.tmp 14)) (b := false) (by kernel_rfl) (by kernel_rfl) (fun q => by cases q) (fun _ => ?_)
        refine XQ.skip (by kernel_rfl) ?_
        show XQ _ _ _ _ _ _ _ _
        refine XQ.seq E0_ok (by kernel_rfl) ?_
        refine XQ.seq E0_ok (by kernel_rfl) ?_
        refine XQ.region (by kernel_rfl) ?_
        refine XR.runS E0_ok 1 6 [(2, pp 0 0), (24, ii a_Marks), (26, ii a_Step), (27, ii b), (28, ii b)] rfl (by kernel_rfl) ?_
        obtain ⟨r2, r2_h, h⟩ := bS h
        refine XR.call E0_ok [2, 29] rfl (K := 62) (args := [ii a_Marks, ii a_Step, ii b, ii b]) (d := (some (path 12 29))) (by kernel_rfl) (KC.of_calls E0_ok (F := Proofs.Try.f62) (v := ii r2) (by kernel_rfl) rfl rfl (fun w hI => f62_ok m m a_Marks a_Step b b r2 r2_h w hI)) ?_
        rintro _ _ _ ⟨rfl, rfl, rfl⟩
        refine XR.conv (σ' := [(2, pp 0 0), (29, ii r2)]) (h' := [(0, .cells [ii a_Marks, ii a_Step, ii a_Turns] 0 23 0)]) (c' := 1) ?_ (by kernel_rfl)
        refine XR.runS E0_ok 1 1 [(2, pp 0 0), (7, ii r2)] rfl (by kernel_rfl) ?_
        refine XR.done (by kernel_rfl) ?_
        show XQ _ _ _ _ _ _ _ _
        refine XQ.seq E0_ok (by kernel_rfl) ?_
        refine XQ.region (by kernel_rfl) ?_
        refine XR.runS E0_ok 1 3 [(2, pp 0 0), (7, ii r2), (32, .bool (decide (r2 ≥ 0)))] rfl (by kernel_rfl) ?_
        cases b4 : (decide (r2 ≥ 0) : Bool) with
        | true =>
          have h := cT b4 h
          refine XR.runS E0_ok 1 5 [(7, ii r2), (37, .bool (decide (r2 < a_Turns)))] rfl (by kernel_rfl) ?_
          refine XR.done (by kernel_rfl) ?_
          show XQ _ _ _ _ _ _ _ _
          cases b5 : (decide (r2 < a_Turns) : Bool) with
          | true =>
            have h := cT b5 h
            refine XQ.cond (s := (.tmp 37)) (b := true) (by kernel_rfl) (by kernel_rfl) (fun _ => ?_) (fun q => by cases q)
            refine XQ.seq E0_ok (by kernel_rfl) ?_
            refine XQ.region (by kernel_rfl) ?_
            refine XR.runS E0_ok 1 3 [(4, ii r2), (5, ii 0)] rfl (by kernel_rfl) ?_
            refine XR.done (by kernel_rfl) ?_
            show XQ _ _ _ _ _ _ _ _
            refine XQ.ret (by kernel_rfl) ?_
            have h := Option.some.inj h
            subst h
            exact ⟨fun i q => (by cases q), .tuple #[ii r2, ii 0], (by kernel_rfl), rfl⟩
          | false =>
            have h := cF b5 h
            refine XQ.cond (s := (.tmp 37)) (b := false) (by kernel_rfl) (by kernel_rfl) (fun q => by cases q) (fun _ => ?_)
            refine XQ.skip (by kernel_rfl) ?_
            show XQ _ _ _ _ _ _ _ _
            refine XQ.seq E0_ok (by kernel_rfl) ?_
            refine XQ.region (by kernel_rfl) ?_
            refine XR.runS E0_ok 1 2 [(4, ii 0), (5, ii 12)] rfl (by kernel_rfl) ?_
            refine XR.done (by kernel_rfl) ?_
            show XQ _ _ _ _ _ _ _ _
            refine XQ.ret (by kernel_rfl) ?_
            have h := Option.some.inj h
            subst h
            exact ⟨fun i q => (by cases q), .tuple #[ii 0, ii 12], (by kernel_rfl), rfl⟩
        | false =>
          have h := cF b4 h
          refine XR.runS E0_ok 1 5 [(7, ii r2), (37, .bool false)] rfl (by kernel_rfl) ?_
          refine XR.done (by kernel_rfl) ?_
          show XQ _ _ _ _ _ _ _ _
          refine XQ.cond (s := (.tmp 37)) (b := false) (by kernel_rfl) (by kernel_rfl) (fun q => by cases q) (fun _ => ?_)
          refine XQ.skip (by kernel_rfl) ?_
          show XQ _ _ _ _ _ _ _ _
          refine XQ.seq E0_ok (by kernel_rfl) ?_
          refine XQ.region (by kernel_rfl) ?_
          refine XR.runS E0_ok 1 2 [(4, ii 0), (5, ii 12)] rfl (by kernel_rfl) ?_
          refine XR.done (by kernel_rfl) ?_
          show XQ _ _ _ _ _ _ _ _
          refine XQ.ret (by kernel_rfl) ?_
          have h := Option.some.inj h
          subst h
          exact ⟨fun i q => (by cases q), .tuple #[ii 0, ii 12], (by kernel_rfl), rfl⟩

/-! vitola/vitolaref05.Which -/
noncomputable def f19_C19 : Code := Proofs.Try.f19.body.getD .skip
noncomputable def f19_C60 : Code := Proofs.Try.f60.body.getD .skip

def f19 (m : Nat) (a_Marks : Int) (a_Step : Int) (a_Turns : Int) (b : Int) : Option (Int × Int) :=
  (f21 m a_Marks a_Step a_Turns).bind fun r1 =>
    cond (r1 == 0) (
      cond (decide (b ≥ 0)) (
        cond ((cond (!(decide (b ≤ (w64 (a_Marks - 1))))) 2 r1 : Int) == 0) (
          (f63 m a_Marks a_Step a_Turns b).bind fun r2 =>
            cond ((cond (decide (r2 < 0)) 12 (cond (!(decide (b ≤ (w64 (a_Marks - 1))))) 2 r1) : Int) != 0) (
              some (0, cond (decide (r2 < 0)) 12 (cond (!(decide (b ≤ (w64 (a_Marks - 1))))) 2 r1))
            ) (
              (f63 m a_Marks a_Step a_Turns b).bind fun r3 =>
                some (r3, 0)
            )
        ) (
          cond ((cond (!(decide (b ≤ (w64 (a_Marks - 1))))) 2 r1 : Int) != 0) (
            some (0, cond (!(decide (b ≤ (w64 (a_Marks - 1))))) 2 r1)
          ) (
            (f63 m a_Marks a_Step a_Turns b).bind fun r4 =>
              some (r4, 0)
          )
        )
      ) (
        some (0, 2)
      )
    ) (
      cond (r1 != 0) (
        some (0, r1)
      ) (
        (f63 m a_Marks a_Step a_Turns b).bind fun r5 =>
          some (r5, 0)
      )
    )

theorem f19_ok (m : Nat) (a_Marks : Int) (a_Step : Int) (a_Turns : Int) (b : Int) (o : Int × Int) (h : f19 m a_Marks a_Step a_Turns b = some o) (w : World) (hI : anyInv w) : Calls Proofs.Try.prog 19 #[.agg #[ii a_Marks, ii a_Step, ii a_Turns], ii b] w fun e w' => e = .returned (.tuple #[ii o.1, ii o.2]) ∧ Below w.heap.size w w' := by
  refine KC.calls (E := E0) (args := [.agg #[ii a_Marks, ii a_Step, ii a_Turns], ii b]) (v := .tuple #[ii o.1, ii o.2]) rfl rfl (KC.bodyN E0_ok (F := Proofs.Try.f19) (by kernel_rfl) (code := f19_C19) (by kernel_rfl) (nt := 33) (by kernel_rfl) (rs := [.tmp 4, .tmp 5]) (by kernel_rfl) (by kernel_rfl) (σ := [(0, .agg #[ii a_Marks, ii a_Step, ii a_Turns]), (1, ii b)]) (by kernel_rfl) ?_) w (anyInv_size hI) hI
  unfold f19 at h
  refine XQ.seq E0_ok (by kernel_rfl) ?_
  refine XQ.region (by kernel_rfl) ?_
  refine XR.runT E0_ok 1 3 [(1, ii b), (2, pp 0 0)] [(0, .cells [ii a_Marks, ii a_Step, ii a_Turns] 0 24 0)] 1 rfl (by kernel_rfl) ?_
  refine XR.done (by kernel_rfl) ?_
  show XQ _ _ _ _ _ _ _ _
  refine XQ.seq E0_ok (by kernel_rfl) ?_
  refine XQ.region (by kernel_rfl) ?_
  refine XR.runS E0_ok 1 1 [(1, ii b), (2, pp 0 0), (7, .agg #[ii a_Marks, ii a_Step, ii a_Turns])] rfl (by kernel_rfl) ?_
  obtain ⟨r1, r1_h, h⟩ := bS h
  refine XR.call E0_ok [1, 2, 8] rfl (K := 21) (args := [.agg #[ii a_Marks, ii a_Step, ii a_Turns]]) (d := (some (path 12 8))) (by kernel_rfl) (KC.of_calls E0_ok (F := Proofs.Try.f21) (v := ii r1) (by kernel_rfl) rfl rfl (fun w hI => f21_ok m a_Marks a_Step a_Turns r1 r1_h w hI)) ?_
  rintro _ _ _ ⟨rfl, rfl, rfl⟩
  refine XR.conv (σ' := [(1, ii b), (2, pp 0 0), (8, ii r1)]) (h' := [(0, .cells [ii a_Marks, ii a_Step, ii a_Turns] 0 24 0)]) (c' := 1) ?_ (by kernel_rfl)
  refine XR.runS E0_ok 1 1 [(1, ii b), (2, pp 0 0), (6, ii r1)] rfl (by kernel_rfl) ?_
  refine XR.done (by kernel_rfl) ?_
  show XQ _ _ _ _ _ _ _ _
  refine XQ.seq E0_ok (by kernel_rfl) ?_
  refine XQ.seq E0_ok (by kernel_rfl) ?_
  refine XQ.region (by kernel_rfl) ?_
  refine XR.runS E0_ok 1 3 [(1, ii b), (2, pp 0 0), (6, ii r1), (11, .bool (r1 == 0))] rfl (by kernel_rfl) ?_
  cases b1 : (r1 == 0 : Bool) with
  | true =>
    have h := cT b1 h
    refine XR.runS E0_ok 1 4 [(1, ii b), (2, pp 0 0), (6, ii r1), (11, .bool true), (12, ii b), (15, ii (w64 (a_Marks - 1)))] rfl (by kernel_rfl) ?_
    refine XR.callK E0_ok [1, 2, 6, 11, 16] rfl (K := 60) (args := [ii b, ii 0, ii (w64 (a_Marks - 1))]) (d := (some (path 12 16))) (by kernel_rfl) ?_
    refine KC.bodyN E0_ok (F := Proofs.Try.f60) (by kernel_rfl) (code := f19_C60) (by kernel_rfl) (nt := 15) (by kernel_rfl) (rs := [.tmp 6]) (by kernel_rfl) (by kernel_rfl) (σ := [(0, ii b), (1, ii 0), (2, ii (w64 (a_Marks - 1)))]) (by kernel_rfl) ?_
    refine XQ.seq E0_ok (by kernel_rfl) ?_
    refine XQ.region (by kernel_rfl) ?_
    refine XR.runS E0_ok 1 1 [(0, ii b), (1, ii 0), (2, ii (w64 (a_Marks - 1)))] rfl (by kernel_rfl) ?_
    refine XR.done (by kernel_rfl) ?_
    show XQ _ _ _ _ _ _ _ _
    refine XQ.seq E0_ok (by kernel_rfl) ?_
    refine XQ.region (by kernel_rfl) ?_
    refine XR.runS E0_ok 1 4 [(0, ii b), (2, ii (w64 (a_Marks - 1))), (10, .bool (decide (b ≥ 0)))] rfl (by kernel_rfl) ?_
    cases b2 : (decide (b ≥ 0) : Bool) with
    | true =>
      have h := cT b2 h
      refine XR.runS E0_ok 1 5 [(6, .bool (decide (b ≤ (w64 (a_Marks - 1)))))] rfl (by kernel_rfl) ?_
      refine XR.done (by kernel_rfl) ?_
      show XQ _ _ _ _ _ _ _ _
      refine XQ.ret (by kernel_rfl) ?_
      refine ⟨fun i q => (by cases q), .bool (decide (b ≤ (w64 (a_Marks - 1)))), (by kernel_rfl), ?_⟩
      refine XR.conv (σ' := [(1, ii b), (2, pp 0 0), (6, ii r1), (11, .bool true), (16, .bool (decide (b ≤ (w64 (a_Marks - 1)))))]) (h' := [(0, .cells [ii a_Marks, ii a_Step, ii a_Turns] 0 24 0)]) (c' := 1) ?_ (by kernel_rfl)
      refine XR.runS E0_ok 1 2 [(1, ii b), (2, pp 0 0), (6, ii r1), (18, .bool (!(decide (b ≤ (w64 (a_Marks - 1))))))] rfl (by kernel_rfl) ?_
      refine XR.done (by kernel_rfl) ?_
      show XQ _ _ _ _ _ _ _ _
      refine XQ.meetC (σ' := [(1, ii b), (2, pp 0 0), (6, ii (cond (!(decide (b ≤ (w64 (a_Marks - 1))))) 2 r1))]) (h' := [(0, .cells [ii a_Marks, ii a_Step, ii a_Turns] 0 24 0)]) (c' := 1) ?_ ?_
      rotate_left
      · refine XQ.cond (s := (.tmp 18)) (b := !(decide (b ≤ (w64 (a_Marks - 1))))) (by kernel_rfl) (by kernel_rfl) (fun b3 => ?_) (fun b3 => ?_)
        · refine XQ.region (by kernel_rfl) ?_
          refine XR.runS E0_ok 1 1 [(1, ii b), (2, pp 0 0), (6, ii 2)] rfl (by kernel_rfl) ?_
          refine XR.done (by kernel_rfl) ?_
          refine ⟨rfl, ?_, ?_⟩
          · try rw [b3]
            exact ⟨by kernel_rfl, by kernel_rfl, by kernel_rfl, trivial⟩
          · try rw [b3]
            kernel_rfl
        · refine XQ.skip (by kernel_rfl) ?_
          refine ⟨rfl, ?_, ?_⟩
          · try rw [b3]
            exact ⟨by kernel_rfl, by kernel_rfl, by kernel_rfl, trivial⟩
          · try rw [b3]
            kernel_rfl
      show XQ _ _ _ _ _ _ _ _
      refine XQ.seq E0_ok (by kernel_rfl) ?_
      refine XQ.seq E0_ok (by kernel_rfl) ?_
      refine XQ.region (by kernel_rfl) ?_
      refine XR.runS E0_ok 1 3 [(1, ii b), (2, pp 0 0), (6, ii (cond (!(decide (b ≤ (w64 (a_Marks - 1))))) 2 r1)), (21, .bool ((cond (!(decide (b ≤ (w64 (a_Marks - 1))))) 2 r1 : Int) == 0))] rfl (by kernel_rfl) ?_
      cases b4 : ((cond (!(decide (b ≤ (w64 (a_Marks - 1))))) 2 r1 : Int) == 0 : Bool) with
      | true =>
        have h := cT b4 h
        refine XR.runS E0_ok 1 2 [(1, ii b), (2, pp 0 0), (6, ii (cond (!(decide (b ≤ (w64 (a_Marks - 1))))) 2 r1)), (21, .bool true), (22, .agg #[ii a_Marks, ii a_Step, ii a_Turns]), (23, ii b)] rfl (by kernel_rfl) ?_
        obtain ⟨r2, r2_h, h⟩ := bS h
        refine XR.call E0_ok [1, 2, 6, 21, 24] rfl (K := 63) (args := [.agg #[ii a_Marks, ii a_Step, ii a_Turns], ii b]) (d := (some (path 12 24))) (by kernel_rfl) (KC.of_calls E0_ok (F := Proofs.Try.f63) (v := ii r2) (by kernel_rfl) rfl rfl (fun w hI => f63_ok m a_Marks a_Step a_Turns b r2 r2_h w hI)) ?_
        rintro _ _ _ ⟨rfl, rfl, rfl⟩
        refine XR.conv (σ' := [(1, ii b), (2, pp 0 0), (6, ii (cond (!(decide (b ≤ (w64 (a_Marks - 1))))) 2 r1)), (21, .bool true), (24, ii r2)]) (h' := [(0, .cells [ii a_Marks, ii a_Step, ii a_Turns] 0 24 0)]) (c' := 1) ?_ (by kernel_rfl)
        refine XR.runS E0_ok 1 2 [(1, ii b), (2, pp 0 0), (6, ii (cond (!(decide (b ≤ (w64 (a_Marks - 1))))) 2 r1)), (26, .bool (decide (r2 < 0)))] rfl (by kernel_rfl) ?_
        refine XR.done (by kernel_rfl) ?_
        show XQ _ _ _ _ _ _ _ _
        refine XQ.meetC (σ' := [(1, ii b), (2, pp 0 0), (6, ii (cond (decide (r2 < 0)) 12 (cond (!(decide (b ≤ (w64 (a_Marks - 1))))) 2 r1)))]) (h' := [(0, .cells [ii a_Marks, ii a_Step, ii a_Turns] 0 24 0)]) (c' := 1) ?_ ?_
        rotate_left
        · refine XQ.cond (s := (.tmp 26)) (b := decide (r2 < 0)) (by kernel_rfl) (by kernel_rfl) (fun b5 => ?_) (fun b5 => ?_)
          · refine XQ.region (by kernel_rfl) ?_
            refine XR.runS E0_ok 1 1 [(1, ii b), (2, pp 0 0), (6, ii 12)] rfl (by kernel_rfl) ?_
            refine XR.done (by kernel_rfl) ?_
            refine ⟨rfl, ?_, ?_⟩
            · try rw [b5]
              exact ⟨by kernel_rfl, by kernel_rfl, by kernel_rfl, trivial⟩
            · try rw [b5]
              kernel_rfl
          · refine XQ.skip (by kernel_rfl) ?_
            refine ⟨rfl, ?_, ?_⟩
            · try rw [b5]
              exact ⟨by kernel_rfl, by kernel_rfl, by kernel_rfl, trivial⟩
            · try rw [b5]
              kernel_rfl
        show XQ _ _ _ _ _ _ _ _
        refine XQ.seq E0_ok (by kernel_rfl) ?_
        refine XQ.seq E0_ok (by kernel_rfl) ?_
        refine XQ.region (by kernel_rfl) ?_
        refine XR.runS E0_ok 1 2 [(1, ii b), (2, pp 0 0), (6, ii (cond (decide (r2 < 0)) 12 (cond (!(decide (b ≤ (w64 (a_Marks - 1))))) 2 r1))), (28, .bool ((cond (decide (r2 < 0)) 12 (cond (!(decide (b ≤ (w64 (a_Marks - 1))))) 2 r1) : Int) != 0))] rfl (by kernel_rfl) ?_
        refine XR.done (by kernel_rfl) ?_
        show XQ _ _ _ _ _ _ _ _
        cases b6 : ((cond (decide (r2 < 0)) 12 (cond (!(decide (b ≤ (w64 (a_Marks - 1))))) 2 r1) : Int) != 0 : Bool) with
        | true =>
          have h := cT b6 h
          refine XQ.cond (s := (.tmp 28)) (b := true) (by kernel_rfl) (by kernel_rfl) (fun _ => ?_) (fun q => by cases q)
          refine XQ.seq E0_ok (by kernel_rfl) ?_
          refine XQ.region (by kernel_rfl) ?_
          refine XR.runS E0_ok 1 3 [(4, ii 0), (5, ii (cond (decide (r2 < 0)) 12 (cond (!(decide (b ≤ (w64 (a_Marks - 1))))) 2 r1)))] rfl (by kernel_rfl) ?_
          refine XR.done (by kernel_rfl) ?_
          show XQ _ _ _ _ _ _ _ _
          refine XQ.ret (by kernel_rfl) ?_
          have h := Option.some.inj h
          subst h
          exact ⟨fun i q => (by cases q), .tuple #[ii 0, ii (cond (decide (r2 < 0)) 12 (cond (!(decide (b ≤ (w64 (a_Marks - 1))))) 2 r1))], (by kernel_rfl), rfl⟩
        | false =>
          have h := cF b6 h
          refine XQ.cond (s := (.tmp 28)) (b := false) (by kernel_rfl) (by kernel_rfl) (fun q => by cases q) (fun _ => ?_)
          refine XQ.skip (by kernel_rfl) ?_
          show XQ _ _ _ _ _ _ _ _
          refine XQ.seq E0_ok (by kernel_rfl) ?_
          refine XQ.region (by kernel_rfl) ?_
          refine XR.runS E0_ok 1 2 [(30, .agg #[ii a_Marks, ii a_Step, ii a_Turns]), (31, ii b)] rfl (by kernel_rfl) ?_
          obtain ⟨r3, r3_h, h⟩ := bS h
          refine XR.call E0_ok [32] rfl (K := 63) (args := [.agg #[ii a_Marks, ii a_Step, ii a_Turns], ii b]) (d := (some (path 12 32))) (by kernel_rfl) (KC.of_calls E0_ok (F := Proofs.Try.f63) (v := ii r3) (by kernel_rfl) rfl rfl (fun w hI => f63_ok m a_Marks a_Step a_Turns b r3 r3_h w hI)) ?_
          rintro _ _ _ ⟨rfl, rfl, rfl⟩
          refine XR.conv (σ' := [(32, ii r3)]) (h' := [(0, .cells [ii a_Marks, ii a_Step, ii a_Turns] 0 24 0)]) (c' := 1) ?_ (by kernel_rfl)
          refine XR.runS E0_ok 1 2 [(4, ii r3), (5, ii 0)] rfl (by kernel_rfl) ?_
          refine XR.done (by kernel_rfl) ?_
          show XQ _ _ _ _ _ _ _ _
          refine XQ.ret (by kernel_rfl) ?_
          have h := Option.some.inj h
          subst h
          exact ⟨fun i q => (by cases q), .tuple #[ii r3, ii 0], (by kernel_rfl), rfl⟩
      | false =>
        have h := cF b4 h
        refine XR.runS E0_ok 1 5 [(1, ii b), (2, pp 0 0), (6, ii (cond (!(decide (b ≤ (w64 (a_Marks - 1))))) 2 r1)), (26, .bool false)] rfl (by kernel_rfl) ?_
        refine XR.done (by kernel_rfl) ?_
        show XQ _ _ _ _ _ _ _ _
        refine XQ.cond (s := (.tmp 26)) (b := false) (by kernel_rfl) (by kernel_rfl) (fun q => by cases q) (fun _ => ?_)
        refine XQ.skip (by kernel_rfl) ?_
        show XQ _ _ _ _ _ _ _ _
        refine XQ.seq E0_ok (by kernel_rfl) ?_
        refine XQ.seq E0_ok (by kernel_rfl) ?_
        refine XQ.region (by kernel_rfl) ?_
        refine XR.runS E0_ok 1 2 [(1, ii b), (2, pp 0 0), (6, ii (cond (!(decide (b ≤ (w64 (a_Marks - 1))))) 2 r1)), (28, .bool ((cond (!(decide (b ≤ (w64 (a_Marks - 1))))) 2 r1 : Int) != 0))] rfl (by kernel_rfl) ?_
        refine XR.done (by kernel_rfl) ?_
        show XQ _ _ _ _ _ _ _ _
        cases b7 : ((cond (!(decide (b ≤ (w64 (a_Marks - 1))))) 2 r1 : Int) != 0 : Bool) with
        | true =>
          have h := cT b7 h
          refine XQ.cond (s := (.tmp 28)) (b := true) (by kernel_rfl) (by kernel_rfl) (fun _ => ?_) (fun q => by cases q)
          refine XQ.seq E0_ok (by kernel_rfl) ?_
          refine XQ.region (by kernel_rfl) ?_
          refine XR.runS E0_ok 1 3 [(4, ii 0), (5, ii (cond (!(decide (b ≤ (w64 (a_Marks - 1))))) 2 r1))] rfl (by kernel_rfl) ?_
          refine XR.done (by kernel_rfl) ?_
          show XQ _ _ _ _ _ _ _ _
          refine XQ.ret (by kernel_rfl) ?_
          have h := Option.some.inj h
          subst h
          exact ⟨fun i q => (by cases q), .tuple #[ii 0, ii (cond (!(decide (b ≤ (w64 (a_Marks - 1))))) 2 r1)], (by kernel_rfl), rfl⟩
        | false =>
          have h := cF b7 h
          refine XQ.cond (s := (.tmp 28)) (b := false) (by kernel_rfl) (by kernel_rfl) (fun q => by cases q) (fun _ => ?_)
          refine XQ.skip (by kernel_rfl) ?_
          show XQ _ _ _ _ _ _ _ _
          refine XQ.seq E0_ok (by kernel_rfl) ?_
          refine XQ.region (by kernel_rfl) ?_
          refine XR.runS E0_ok 1 2 [(30, .agg #[ii a_Marks, ii a_Step, ii a_Turns]), (31, ii b)] rfl (by kernel_rfl) ?_
          obtain ⟨r4, r4_h, h⟩ := bS h
          refine XR.call E0_ok [32] rfl (K := 63) (args := [.agg #[ii a_Marks, ii a_Step, ii a_Turns], ii b]) (d := (some (path 12 32))) (by kernel_rfl) (KC.of_calls E0_ok (F := Proofs.Try.f63) (v := ii r4) (by kernel_rfl) rfl rfl (fun w hI => f63_ok m a_Marks a_Step a_Turns b r4 r4_h w hI)) ?_
          rintro _ _ _ ⟨rfl, rfl, rfl⟩
          refine XR.conv (σ' := [(32, ii r4)]) (h' := [(0, .cells [ii a_Marks, ii a_Step, ii a_Turns] 0 24 0)]) (c' := 1) ?_ (by kernel_rfl)
          refine XR.runS E0_ok 1 2 [(4, ii r4), (5, ii 0)] rfl (by kernel_rfl) ?_
          refine XR.done (by kernel_rfl) ?_
          show XQ _ _ _ _ _ _ _ _
          refine XQ.ret (by kernel_rfl) ?_
          have h := Option.some.inj h
          subst h
          exact ⟨fun i q => (by cases q), .tuple #[ii r4, ii 0], (by kernel_rfl), rfl⟩
    | false =>
      have h := cF b2 h
      refine XR.runS E0_ok 1 5 [(6, .bool false)] rfl (by kernel_rfl) ?_
      refine XR.done (by kernel_rfl) ?_
      show XQ _ _ _ _ _ _ _ _
      refine XQ.ret (by kernel_rfl) ?_
      refine ⟨fun i q => (by cases q), .bool false, (by kernel_rfl), ?_⟩
      refine XR.conv (σ' := [(1, ii b), (2, pp 0 0), (6, ii r1), (11, .bool true), (16, .bool false)]) (h' := [(0, .cells [ii a_Marks, ii a_Step, ii a_Turns] 0 24 0)]) (c' := 1) ?_ (by kernel_rfl)
      refine XR.runS E0_ok 1 2 [(1, ii b), (2, pp 0 0), (6, ii r1), (18, .bool true)] rfl (by kernel_rfl) ?_
      refine XR.done (by kernel_rfl) ?_
      show XQ _ _ _ _ _ _ _ _
      refine XQ.cond (s := (.tmp 18)) (b := true) (by kernel_rfl) (by kernel_rfl) (fun _ => ?_) (fun q => by cases q)
      refine XQ.region (by kernel_rfl) ?_
      refine XR.runS E0_ok 1 1 [(1, ii b), (2, pp 0 0), (6, ii 2)] rfl (by kernel_rfl) ?_
      refine XR.done (by kernel_rfl) ?_
      show XQ _ _ _ _ _ _ _ _
      refine XQ.seq E0_ok (by kernel_rfl) ?_
      refine XQ.seq E0_ok (by kernel_rfl) ?_
      refine XQ.region (by kernel_rfl) ?_
      refine XR.runS E0_ok 1 8 [(1, ii b), (2, pp 0 0), (6, ii 2), (26, .bool false)] rfl (by kernel_rfl) ?_
      refine XR.done (by kernel_rfl) ?_
      show XQ _ _ _ _ _ _ _ _
      refine XQ.cond (s := (.tmp 26)) (b := false) (by kernel_rfl) (by kernel_rfl) (fun q => by cases q) (fun _ => ?_)
      refine XQ.skip (by kernel_rfl) ?_
      show XQ _ _ _ _ _ _ _ _
      refine XQ.seq E0_ok (by kernel_rfl) ?_
      refine XQ.seq E0_ok (by kernel_rfl) ?_
      refine XQ.region (by kernel_rfl) ?_
      refine XR.runS E0_ok 1 2 [(1, ii b), (2, pp 0 0), (6, ii 2), (28, .bool true)] rfl (by kernel_rfl) ?_
      refine XR.done (by kernel_rfl) ?_
      show XQ _ _ _ _ _ _ _ _
      refine XQ.cond (s := (.tmp 28)) (b := true) (by kernel_rfl) (by kernel_rfl) (fun _ => ?_) (fun q => by cases q)
      refine XQ.seq E0_ok (by kernel_rfl) ?_
      refine XQ.region (by kernel_rfl) ?_
      refine XR.runS E0_ok 1 3 [(4, ii 0), (5, ii 2)] rfl (by kernel_rfl) ?_
      refine XR.done (by kernel_rfl) ?_
      show XQ _ _ _ _ _ _ _ _
      refine XQ.ret (by kernel_rfl) ?_
      have h := Option.some.inj h
      subst h
      exact ⟨fun i q => (by cases q), .tuple #[ii 0, ii 2], (by kernel_rfl), rfl⟩
  | false =>
    have h := cF b1 h
    refine XR.runS E0_ok 1 7 [(1, ii b), (2, pp 0 0), (6, ii r1), (18, .bool false)] rfl (by kernel_rfl) ?_
    refine XR.done (by kernel_rfl) ?_
    show XQ _ _ _ _ _ _ _ _
    refine XQ.cond (s := (.tmp 18)) (b := false) (by kernel_rfl) (by kernel_rfl) (fun q => by cases q) (fun _ => ?_)
    refine XQ.skip (by kernel_rfl) ?_
    show XQ _ _ _ _ _ _ _ _
    refine XQ.seq E0_ok (by kernel_rfl) ?_
    refine XQ.seq E0_ok (by kernel_rfl) ?_
    refine XQ.region (by kernel_rfl) ?_
    refine XR.runS E0_ok 1 3 [(1, ii b), (2, pp 0 0), (6, ii r1), (21, .bool (r1 == 0))] rfl (by kernel_rfl) ?_
    rw [b1]
    refine XR.runS E0_ok 1 5 [(1, ii b), (2, pp 0 0), (6, ii r1), (26, .bool false)] rfl (by kernel_rfl) ?_
    refine XR.done (by kernel_rfl) ?_
    show XQ _ _ _ _ _ _ _ _
    refine XQ.cond (s := (.tmp 26)) (b := false) (by kernel_rfl) (by kernel_rfl) (fun q => by cases q) (fun _ => ?_)
    refine XQ.skip (by kernel_rfl) ?_
    show XQ _ _ _ _ _ _ _ _
    refine XQ.seq E0_ok (by kernel_rfl) ?_
    refine XQ.seq E0_ok (by kernel_rfl) ?_
    refine XQ.region (by kernel_rfl) ?_
    refine XR.runS E0_ok 1 2 [(1, ii b), (2, pp 0 0), (6, ii r1), (28, .bool (r1 != 0))] rfl (by kernel_rfl) ?_
    refine XR.done (by kernel_rfl) ?_
    show XQ _ _ _ _ _ _ _ _
    cases b8 : (r1 != 0 : Bool) with
    | true =>
      have h := cT b8 h
      refine XQ.cond (s := (.tmp 28)) (b := true) (by kernel_rfl) (by kernel_rfl) (fun _ => ?_) (fun q => by cases q)
      refine XQ.seq E0_ok (by kernel_rfl) ?_
      refine XQ.region (by kernel_rfl) ?_
      refine XR.runS E0_ok 1 3 [(4, ii 0), (5, ii r1)] rfl (by kernel_rfl) ?_
      refine XR.done (by kernel_rfl) ?_
      show XQ _ _ _ _ _ _ _ _
      refine XQ.ret (by kernel_rfl) ?_
      have h := Option.some.inj h
      subst h
      exact ⟨fun i q => (by cases q), .tuple #[ii 0, ii r1], (by kernel_rfl), rfl⟩
    | false =>
      have h := cF b8 h
      refine XQ.cond (s := (.tmp 28)) (b := false) (by kernel_rfl) (by kernel_rfl) (fun q => by cases q) (fun _ => ?_)
      refine XQ.skip (by kernel_rfl) ?_
      show XQ _ _ _ _ _ _ _ _
      refine XQ.seq E0_ok (by kernel_rfl) ?_
      refine XQ.region (by kernel_rfl) ?_
      refine XR.runS E0_ok 1 2 [(30, .agg #[ii a_Marks, ii a_Step, ii a_Turns]), (31, ii b)] rfl (by kernel_rfl) ?_
      obtain ⟨r5, r5_h, h⟩ := bS h
      refine XR.call E0_ok [32] rfl (K := 63) (args := [.agg #[ii a_Marks, ii a_Step, ii a_Turns], ii b]) (d := (some (path 12 32))) (by kernel_rfl) (KC.of_calls E0_ok (F := Proofs.Try.f63) (v := ii r5) (by kernel_rfl) rfl rfl (fun w hI => f63_ok m a_Marks a_Step a_Turns b r5 r5_h w hI)) ?_
      rintro _ _ _ ⟨rfl, rfl, rfl⟩
      refine XR.conv (σ' := [(32, ii r5)]) (h' := [(0, .cells [ii a_Marks, ii a_Step, ii a_Turns] 0 24 0)]) (c' := 1) ?_ (by kernel_rfl)
      refine XR.runS E0_ok 1 2 [(4, ii r5), (5, ii 0)] rfl (by kernel_rfl) ?_
      refine XR.done (by kernel_rfl) ?_
      show XQ _ _ _ _ _ _ _ _
      refine XQ.ret (by kernel_rfl) ?_
      have h := Option.some.inj h
      subst h
      exact ⟨fun i q => (by cases q), .tuple #[ii r5, ii 0], (by kernel_rfl), rfl⟩

end Go.Xm
