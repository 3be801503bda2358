/- What these functions of the program compute, as functions in Lean, and the proofs that they do: heap.Heap).in, heap.crowd, heap.Crowd, cmp.isNaN[int], cmp.Less[int], heap.none. Conditions: none. -/
import Derived.Test.YtfdeihnkoaihfaaZx
import Derived.Test.YtfdeihnkoaihfaaBd
namespace Go.Xm
open Go.RowKit
set_option linter.unusedVariables false
set_option linter.unusedSimpArgs false
set_option maxRecDepth 20000
noncomputable def f91_C91 : Code := Proofs.Try.f91.body.getD .skip
def f91 (m : Nat) (a_From : Int) (a_To : Int) (b_From : Int) (b_To : Int) : Option (Bool) :=
 cond (decide (b_From ≤ a_From)) (
  some (decide (a_To ≤ b_To))
 ) (
  some (false)
 )
theorem f91_ok (m : Nat) (a_From : Int) (a_To : Int) (b_From : Int) (b_To : Int) (o : Bool) (h : f91 m a_From a_To b_From b_To = some o) (w : World) (hI : anyInv w) : Calls Proofs.Try.prog 91 #[.agg #[ii a_From, ii a_To], .agg #[ii b_From, ii b_To]] w fun e w' => e = .returned (.bool o) ∧ Below w.heap.size w w' := by
 refine KC.calls (E := E0) (args := [.agg #[ii a_From, ii a_To], .agg #[ii b_From, ii b_To]]) (v := .bool o) rfl rfl (KC.bodyN E0_ok (F := Proofs.Try.f91) (by kernel_rfl) (code := f91_C91) (by kernel_rfl) (nt := 17) (by kernel_rfl) (rs := [.tmp 4]) (by kernel_rfl) (by kernel_rfl) (σ := [(0, .agg #[ii a_From, ii a_To]), (1, .agg #[ii b_From, ii b_To])]) (by kernel_rfl) ?_) w (anyInv_size hI) hI
 unfold f91 at h
 refine qQ ?_
 refine rT 3 [(2, pp 0 0), (3, pp 1 0)] [(1, .cells [ii b_From, ii b_To] 0 61 0), (0, .cells [ii a_From, ii a_To] 0 61 0)] 2 ?_
 refine nQ id ?_
 refine rS 6 [(2, pp 0 0), (3, pp 1 0), (10, .bool (decide (b_From ≤ a_From)))] ?_
 cases b1 : (decide (b_From ≤ a_From) : Bool) with
 | true =>
  have h := cT b1 h
  refine rS 7 [(4, .bool (decide (a_To ≤ b_To)))] ?_
  refine dQ ?_
  show XQ _ _ _ _ _ _ _ _
  refine XQ.ret (by kernel_rfl) ?_
  have h := Option.some.inj h
  subst h
  exact ⟨fun i q => (by cases q), .bool (decide (a_To ≤ b_To)), (by kernel_rfl), rfl⟩
 | false =>
  have h := cF b1 h
  refine rS 7 [(4, .bool false)] ?_
  refine dQ ?_
  show XQ _ _ _ _ _ _ _ _
  refine XQ.ret (by kernel_rfl) ?_
  have h := Option.some.inj h
  subst h
  exact ⟨fun i q => (by cases q), .bool false, (by kernel_rfl), rfl⟩
noncomputable def f65_C65 : Code := Proofs.Try.f65.body.getD .skip
noncomputable def f65_L1 : Code := lft (lft (rgt (lft (rgt (rgt f65_C65)))))
def f65_1 (m : Nat) : Nat → List (Int × Int) → Int → Int → Int → Int → Int → Option Int
 | 0, _, _, _, _, _, _ => none
 | fuel + 1, a, b_From, b_To, x5_1, x9_1, x10_1 =>
  cond (decide (x10_1 < x9_1)) (
   cond (inRow x10_1 a.length) (
    (f91 m ((List.getD a (Int.toNat x10_1) (0, 0)).1) ((List.getD a (Int.toNat x10_1) (0, 0)).2) b_From b_To).bind fun r3 =>
     f65_1 m fuel a b_From b_To (cond (r3) (w64 (x5_1 + 1)) x5_1) x9_1 (w64 (x10_1 + 1))
   ) none
  ) (
   some (x5_1)
  )
theorem f65_1_ok (m : Nat) : ∀ (fuel : Nat) (z0 : Nat) (y0 : Nat) (a : List (Int × Int)) (b_From : Int) (b_To : Int) (x5_1 : Int) (x9_1 : Int) (x10_1 : Int) (o : Int), f65_1 m fuel a b_From b_To x5_1 x9_1 x10_1 = some o → ∀ Q : QP, Q (.exit 0) [(5, ii o)] [(0, rc encP a z0 y0 2)] 1 → XL E0 21 1 fuel f65_L1 [(3, pp 1 0), (5, ii x5_1), (8, s0 0 a.length), (9, ii x9_1), (10, ii x10_1)] [(1, .cells [ii b_From, ii b_To] 0 61 0), (0, rc encP a z0 y0 2)] 2 Q
 | 0, z0, y0, a, b_From, b_To, x5_1, x9_1, x10_1, o, h, Q, hQ => by cases h
 | fuel + 1, z0, y0, a, b_From, b_To, x5_1, x9_1, x10_1, o, h, Q, hQ => by
  unfold f65_1 at h
  refine XL.succ E0_ok ?_
  refine qQ ?_
  refine rS 1 [(3, pp 1 0), (5, ii x5_1), (8, s0 0 a.length), (9, ii x9_1), (10, ii x10_1), (11, .bool (decide (x10_1 < x9_1)))] ?_
  refine dQ ?_
  show XQ _ _ _ _ _ _ _ _
  refine sQ ?_
  cases b1 : (decide (x10_1 < x9_1) : Bool) with
  | true =>
   have h := cT b1 h
   refine iT (.tmp 11) ?_
   refine kQ ?_
   show XQ _ _ _ _ _ _ _ _
   refine sQ ?_
   refine XQ.block (id := 1) (by kernel_rfl) ?_
   refine qQ ?_
   cases b2 : (inRow x10_1 a.length : Bool) with
   | false => cases (cF b2 h)
   | true =>
    have h := cT b2 h
    refine XR.rd E0_ok [3, 5, 8, 9, 10, 12] rfl (v := pp 0 ((Int.toNat x10_1) * 2)) (v_idx (s := 2) (x := (src 21 (.tmp 8))) (y := (src 21 (.tmp 10))) (b := 0) (o := 0) (len := a.length) (cap := a.length) (ik := .i64) (i := x10_1) (off := (Int.toNat x10_1) * 2) (d := (some (path 12 12))) (by kernel_rfl) (by kernel_rfl) (by kernel_rfl) b2 (by omega)) (σ' := [(3, pp 1 0), (5, ii x5_1), (8, s0 0 a.length), (9, ii x9_1), (10, ii x10_1), (12, pp 0 ((Int.toNat x10_1) * 2))]) (by kernel_rfl) ?_
    refine XR.rd E0_ok [3, 5, 8, 9, 10, 13] rfl (v := .agg #[ii ((List.getD a (Int.toNat x10_1) (0, 0)).1), ii ((List.getD a (Int.toNat x10_1) (0, 0)).2)]) (v_loadN encP_ok (x := (src 21 (.tmp 12))) (b := 0) (off := (Int.toNat x10_1) * 2) (xs := a) (fz := z0) (e := y0) (es := 2) (d := (some (path 12 13))) (by kernel_rfl) (by kernel_rfl) (by kernel_rfl) (Int.toNat x10_1) (0, 0) (by first | rfl | omega) (row_len (inRow_toNat b2) (by simp)) rfl) (σ' := [(3, pp 1 0), (5, ii x5_1), (8, s0 0 a.length), (9, ii x9_1), (10, ii x10_1), (13, .agg #[ii ((List.getD a (Int.toNat x10_1) (0, 0)).1), ii ((List.getD a (Int.toNat x10_1) (0, 0)).2)])]) (by kernel_rfl) ?_
    refine rT 2 [(3, pp 1 0), (5, ii x5_1), (7, pp 2 0), (8, s0 0 a.length), (9, ii x9_1), (10, ii x10_1)] [(2, .cells [ii ((List.getD a (Int.toNat x10_1) (0, 0)).1), ii ((List.getD a (Int.toNat x10_1) (0, 0)).2)] 0 61 0), (1, .cells [ii b_From, ii b_To] 0 61 0), (0, rc encP a z0 y0 2)] 3 ?_
    refine nQ id ?_
    refine rS 2 [(3, pp 1 0), (5, ii x5_1), (8, s0 0 a.length), (9, ii x9_1), (10, ii x10_1), (14, .agg #[ii ((List.getD a (Int.toNat x10_1) (0, 0)).1), ii ((List.getD a (Int.toNat x10_1) (0, 0)).2)]), (15, .agg #[ii b_From, ii b_To])] ?_
    obtain ⟨r3, r3_h, h⟩ := bS h
    refine XR.call E0_ok [3, 5, 8, 9, 10, 16] rfl (K := 91) (args := [.agg #[ii ((List.getD a (Int.toNat x10_1) (0, 0)).1), ii ((List.getD a (Int.toNat x10_1) (0, 0)).2)], .agg #[ii b_From, ii b_To]]) (d := (some (path 12 16))) (by kernel_rfl) (KC.of_calls E0_ok (F := Proofs.Try.f91) (v := .bool r3) (by kernel_rfl) rfl rfl (fun w hI => f91_ok m ((List.getD a (Int.toNat x10_1) (0, 0)).1) ((List.getD a (Int.toNat x10_1) (0, 0)).2) b_From b_To r3 r3_h w hI)) ?_
    rintro _ _ _ ⟨rfl, rfl, rfl⟩
    refine XR.conv (σ' := [(3, pp 1 0), (5, ii x5_1), (8, s0 0 a.length), (9, ii x9_1), (10, ii x10_1), (16, .bool r3)]) (h' := [(2, .cells [ii ((List.getD a (Int.toNat x10_1) (0, 0)).1), ii ((List.getD a (Int.toNat x10_1) (0, 0)).2)] 0 61 0), (1, .cells [ii b_From, ii b_To] 0 61 0), (0, rc encP a z0 y0 2)]) (c' := 3) ?_ (by kernel_rfl)
    refine dQ ?_
    show XQ _ _ _ _ _ _ _ _
    refine XQ.meetC (σ' := [(3, pp 1 0), (5, ii (cond (r3) (w64 (x5_1 + 1)) x5_1)), (8, s0 0 a.length), (9, ii x9_1), (10, ii x10_1)]) (h' := [(2, .cells [ii ((List.getD a (Int.toNat x10_1) (0, 0)).1), ii ((List.getD a (Int.toNat x10_1) (0, 0)).2)] 0 61 0), (1, .cells [ii b_From, ii b_To] 0 61 0), (0, rc encP a z0 y0 2)]) (c' := 3) ?_ ?_
    rotate_left
    ·refine XQ.cond (s := (.tmp 16)) (b := r3) (by kernel_rfl) (by kernel_rfl) (fun b3 => ?_) (fun b3 => ?_)
     ·refine rQ ?_
      refine rS 3 [(3, pp 1 0), (5, ii (w64 (x5_1 + 1))), (8, s0 0 a.length), (9, ii x9_1), (10, ii x10_1)] ?_
      refine dQ ?_
      refine ⟨rfl, ?_, ?_⟩
      ·try rw [b3]
       exact ⟨rfl, rfl, rfl, rfl, rfl, trivial⟩
      ·try rw [b3]
       kernel_rfl
     ·refine kQ ?_
      refine ⟨rfl, ?_, ?_⟩
      ·try rw [b3]
       exact ⟨rfl, rfl, rfl, rfl, rfl, trivial⟩
      ·try rw [b3]
       kernel_rfl
    show XQ _ _ _ _ _ _ _ _
    refine rQ ?_
    refine rS 2 [(3, pp 1 0), (5, ii (cond (r3) (w64 (x5_1 + 1)) x5_1)), (8, s0 0 a.length), (9, ii x9_1), (10, ii (w64 (x10_1 + 1)))] ?_
    refine dQ ?_
    show XL _ _ _ _ _ _ _ _ _
    refine XL.ren (σ' := [(3, pp 1 0), (5, ii (cond (r3) (w64 (x5_1 + 1)) x5_1)), (8, s0 0 a.length), (9, ii x9_1), (10, ii (w64 (x10_1 + 1)))]) (h' := [(1, .cells [ii b_From, ii b_To] 0 61 0), (0, rc encP a z0 y0 2)]) (c' := 2) [0, 1] (by decide) rfl ⟨rfl, rfl, rfl, rfl, rfl, trivial⟩ ⟨⟨_, _, rfl, rfl, .inr ⟨_, _, _, _, rfl, rfl⟩⟩, ⟨_, _, rfl, rfl, .inl ⟨rfl, rwP⟩⟩, trivial⟩ rfl ?_
    refine XL.conv (f65_1_ok m fuel z0 y0 a b_From b_To (cond (r3) (w64 (x5_1 + 1)) x5_1) x9_1 (w64 (x10_1 + 1)) o h Q hQ) (by first | rfl | simp)
  | false =>
   have h := cF b1 h
   refine iF (.tmp 11) ?_
   refine XQ.ren (σ' := [(5, ii x5_1)]) (h' := [(0, rc encP a z0 y0 2)]) (c' := 1) [0] (by decide) rfl ⟨rfl, trivial⟩ ⟨⟨_, _, rfl, rfl, .inl ⟨rfl, rwP⟩⟩, trivial⟩ rfl ?_
   refine XQ.exit (i := 0) (by kernel_rfl) ?_
   cases h
   exact hQ
def f65 (m : Nat) (a : List (Int × Int)) (b_From : Int) (b_To : Int) : Option (Int) :=
 (f65_1 m m a b_From b_To 0 ((a.length : Nat) : Int) 0).bind fun o1 =>
  some (o1)
theorem f65_ok (m : Nat) (z0 : Nat) (y0 : Nat) (a : List (Int × Int)) (b_From : Int) (b_To : Int) (o : Int) (h : f65 m a b_From b_To = some o) : KC E0 65 [s0 0 a.length, .agg #[ii b_From, ii b_To]] [(0, rc encP a z0 y0 2)] 1 (fun v _ _ => v = ii o) := by
 refine KC.bodyN E0_ok (F := Proofs.Try.f65) (by kernel_rfl) (code := f65_C65) (by kernel_rfl) (nt := 21) (by kernel_rfl) (rs := [.tmp 4]) (by kernel_rfl) (by kernel_rfl) (σ := [(0, s0 0 a.length), (1, .agg #[ii b_From, ii b_To])]) (by kernel_rfl) ?_
 unfold f65 at h
 refine qQ ?_
 refine rT 2 [(0, s0 0 a.length), (3, pp 1 0)] [(1, .cells [ii b_From, ii b_To] 0 61 0), (0, rc encP a z0 y0 2)] 2 ?_
 refine nQ id ?_
 refine rS 1 [(0, s0 0 a.length), (3, pp 1 0), (5, ii 0)] ?_
 refine dQ ?_
 show XQ _ _ _ _ _ _ _ _
 refine sQ ?_
 refine qQ ?_
 refine rS 3 [(3, pp 1 0), (5, ii 0), (8, s0 0 a.length), (9, ii ((a.length : Nat) : Int)), (10, ii 0)] ?_
 refine dQ ?_
 show XQ _ _ _ _ _ _ _ _
 refine XQ.block (id := 0) (by kernel_rfl) ?_
 refine XQ.loop m (by kernel_rfl) ?_
 obtain ⟨o1, o1_h, h⟩ := bS h
 refine XL.ren (σ' := [(3, pp 1 0), (5, ii 0), (8, s0 0 a.length), (9, ii ((a.length : Nat) : Int)), (10, ii 0)]) (h' := [(1, .cells [ii b_From, ii b_To] 0 61 0), (0, rc encP a z0 y0 2)]) (c' := 2) [0, 1] (by decide) rfl ⟨rfl, rfl, rfl, rfl, rfl, trivial⟩ ⟨⟨_, _, rfl, rfl, .inr ⟨_, _, _, _, rfl, rfl⟩⟩, ⟨_, _, rfl, rfl, .inl ⟨rfl, rwP⟩⟩, trivial⟩ rfl ?_
 refine XL.conv (f65_1_ok m m z0 y0 a b_From b_To 0 ((a.length : Nat) : Int) 0 o1 o1_h _ ?_) (by first | rfl | simp)
 show XQ _ _ _ _ _ _ _ _
 refine qQ ?_
 refine rS 2 [(4, ii o1)] ?_
 refine dQ ?_
 show XQ _ _ _ _ _ _ _ _
 refine XQ.ret (by kernel_rfl) ?_
 have h := Option.some.inj h
 subst h
 exact ⟨fun i q => (by cases q), ii o1, (by kernel_rfl), rfl⟩
noncomputable def f96_C96 : Code := Proofs.Try.f96.body.getD .skip
def f96 (m : Nat) (a : Int) : Option (Bool) :=
 some (a != a)
theorem f96_ok (m : Nat) (a : Int) (o : Bool) (h : f96 m a = some o) (w : World) (hI : anyInv w) : Calls Proofs.Try.prog 96 #[ii a] w fun e w' => e = .returned (.bool o) ∧ Below w.heap.size w w' := by
 refine KC.calls (E := E0) (args := [ii a]) (v := .bool o) rfl rfl (KC.bodyN E0_ok (F := Proofs.Try.f96) (by kernel_rfl) (code := f96_C96) (by kernel_rfl) (nt := 6) (by kernel_rfl) (rs := [.tmp 2]) (by kernel_rfl) (by kernel_rfl) (σ := [(0, ii a)]) (by kernel_rfl) ?_) w (anyInv_size hI) hI
 unfold f96 at h
 refine qQ ?_
 refine rS 1 [(0, ii a)] ?_
 refine nQ id ?_
 refine rS 4 [(2, .bool (a != a))] ?_
 refine dQ ?_
 show XQ _ _ _ _ _ _ _ _
 refine XQ.ret (by kernel_rfl) ?_
 have h := Option.some.inj h
 subst h
 exact ⟨fun i q => (by cases q), .bool (a != a), (by kernel_rfl), rfl⟩
noncomputable def f116_C116 : Code := Proofs.Try.f116.body.getD .skip
def f116 (m : Nat) (a : Int) (b : Int) : Option (Bool) :=
 (f96 m a).bind fun r1 =>
  cond (r1) (
   (f96 m b).bind fun r2 =>
    cond (!r2) (
     some (true)
    ) (
     some (decide (a < b))
    )
  ) (
   some (decide (a < b))
  )
theorem f116_ok (m : Nat) (a : Int) (b : Int) (o : Bool) (h : f116 m a b = some o) (w : World) (hI : anyInv w) : Calls Proofs.Try.prog 116 #[ii a, ii b] w fun e w' => e = .returned (.bool o) ∧ Below w.heap.size w w' := by
 refine KC.calls (E := E0) (args := [ii a, ii b]) (v := .bool o) rfl rfl (KC.bodyN E0_ok (F := Proofs.Try.f116) (by kernel_rfl) (code := f116_C116) (by kernel_rfl) (nt := 17) (by kernel_rfl) (rs := [.tmp 4]) (by kernel_rfl) (by kernel_rfl) (σ := [(0, ii a), (1, ii b)]) (by kernel_rfl) ?_) w (anyInv_size hI) hI
 unfold f116 at h
 refine qQ ?_
 refine rS 1 [(0, ii a), (1, ii b)] ?_
 refine nQ id ?_
 refine rS 1 [(0, ii a), (1, ii b), (5, ii a)] ?_
 obtain ⟨r1, r1_h, h⟩ := bS h
 refine XR.call E0_ok [0, 1, 6] rfl (K := 96) (args := [ii a]) (d := (some (path 12 6))) (by kernel_rfl) (KC.of_calls E0_ok (F := Proofs.Try.f96) (v := .bool r1) (by kernel_rfl) rfl rfl (fun w hI => f96_ok m a r1 r1_h w hI)) ?_
 rintro _ _ _ ⟨rfl, rfl, rfl⟩
 refine XR.conv (σ' := [(0, ii a), (1, ii b), (6, .bool r1)]) (h' := []) (c' := 0) ?_ (by kernel_rfl)
 refine rS 1 [(0, ii a), (1, ii b), (7, .bool r1)] ?_
 cases b1 : (r1 : Bool) with
 | true =>
  have h := cT b1 h
  refine rS 1 [(0, ii a), (1, ii b), (7, .bool true), (8, ii b)] ?_
  obtain ⟨r2, r2_h, h⟩ := bS h
  refine XR.call E0_ok [0, 1, 7, 9] rfl (K := 96) (args := [ii b]) (d := (some (path 12 9))) (by kernel_rfl) (KC.of_calls E0_ok (F := Proofs.Try.f96) (v := .bool r2) (by kernel_rfl) rfl rfl (fun w hI => f96_ok m b r2 r2_h w hI)) ?_
  rintro _ _ _ ⟨rfl, rfl, rfl⟩
  refine XR.conv (σ' := [(0, ii a), (1, ii b), (7, .bool true), (9, .bool r2)]) (h' := []) (c' := 0) ?_ (by kernel_rfl)
  refine rS 3 [(0, ii a), (1, ii b), (12, .bool (!r2))] ?_
  cases b2 : (!r2 : Bool) with
  | true =>
   have h := cT b2 h
   refine rS 5 [(4, .bool true)] ?_
   refine dQ ?_
   show XQ _ _ _ _ _ _ _ _
   refine XQ.ret (by kernel_rfl) ?_
   have h := Option.some.inj h
   subst h
   exact ⟨fun i q => (by cases q), .bool true, (by kernel_rfl), rfl⟩
  | false =>
   have h := cF b2 h
   refine rS 5 [(4, .bool (decide (a < b)))] ?_
   refine dQ ?_
   show XQ _ _ _ _ _ _ _ _
   refine XQ.ret (by kernel_rfl) ?_
   have h := Option.some.inj h
   subst h
   exact ⟨fun i q => (by cases q), .bool (decide (a < b)), (by kernel_rfl), rfl⟩
 | false =>
  have h := cF b1 h
  refine rS 10 [(4, .bool (decide (a < b)))] ?_
  refine dQ ?_
  show XQ _ _ _ _ _ _ _ _
  refine XQ.ret (by kernel_rfl) ?_
  have h := Option.some.inj h
  subst h
  exact ⟨fun i q => (by cases q), .bool (decide (a < b)), (by kernel_rfl), rfl⟩
noncomputable def f68_C68 : Code := Proofs.Try.f68.body.getD .skip
def f68 (m : Nat) : Option (Int × Int) :=
 some ((-1), (-1))
theorem f68_ok (m : Nat) (o : Int × Int) (h : f68 m = some o) (w : World) (hI : anyInv w) : Calls Proofs.Try.prog 68 #[] w fun e w' => e = .returned (.agg #[ii o.1, ii o.2]) ∧ Below w.heap.size w w' := by
 refine KC.calls (E := E0) (args := []) (v := .agg #[ii o.1, ii o.2]) rfl rfl (KC.bodyN E0_ok (F := Proofs.Try.f68) (by kernel_rfl) (code := f68_C68) (by kernel_rfl) (nt := 2) (by kernel_rfl) (rs := [.cell 0 61]) (by kernel_rfl) (by kernel_rfl) (σ := []) (by kernel_rfl) ?_) w (anyInv_size hI) hI
 unfold f68 at h
 refine qQ ?_
 refine rT 1 [(0, pp 0 0)] [(0, .cells [ii 0, ii 0] 0 61 0)] 1 ?_
 refine nQ id ?_
 refine rT 2 [(0, pp 0 0)] [(0, .cells [ii (-1), ii (-1)] 0 61 0)] 1 ?_
 refine dQ ?_
 show XQ _ _ _ _ _ _ _ _
 refine XQ.ret (by kernel_rfl) ?_
 have h := Option.some.inj h
 subst h
 exact ⟨fun i q => (by cases q), .agg #[ii (-1), ii (-1)], (by kernel_rfl), rfl⟩
end Go.Xm
