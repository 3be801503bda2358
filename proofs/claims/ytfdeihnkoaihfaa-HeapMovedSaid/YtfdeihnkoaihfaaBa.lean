/- What these functions of the program compute, as functions in Lean, and the proofs that they do: heap.between, heap.Check, heap.handed, heap.Verify, vitolalaw02.same, vitolalaw02.large, vitolalaw02.given. Conditions: none. -/
import Derived.Test.YtfdeihnkoaihfaaZx
import Derived.Test.YtfdeihnkoaihfaaVk
import Derived.Test.YtfdeihnkoaihfaaMr
namespace Go.Xm
open Go.RowKit
set_option linter.unusedVariables false
set_option linter.unusedSimpArgs false
set_option maxRecDepth 20000
noncomputable def f64_C64 : Code := Proofs.Try.f64.body.getD .skip
def f64 (m : Nat) (a : Int) (b : Int) (c : Int) : Option (Bool) :=
 cond (decide (a ≤ b)) (
  some (decide (b ≤ c))
 ) (
  some (false)
 )
theorem f64_ok (m : Nat) (a : Int) (b : Int) (c : Int) (o : Bool) (h : f64 m a b c = some o) (w : World) (hI : anyInv w) : Calls Proofs.Try.prog 64 #[ii a, ii b, ii c] w fun e w' => e = .returned (.bool o) ∧ Below w.heap.size w w' := by
 refine KC.calls (E := E0) (args := [ii a, ii b, ii c]) (v := .bool o) rfl rfl (KC.bodyN E0_ok (F := Proofs.Try.f64) (by kernel_rfl) (code := f64_C64) (by kernel_rfl) (nt := 15) (by kernel_rfl) (rs := [.tmp 6]) (by kernel_rfl) (by kernel_rfl) (σ := [(0, ii a), (1, ii b), (2, ii c)]) (by kernel_rfl) ?_) w (anyInv_size hI) hI
 unfold f64 at h
 refine qQ ?_
 refine rS 1 [(0, ii a), (1, ii b), (2, ii c)] ?_
 refine nQ id ?_
 refine rS 4 [(1, ii b), (2, ii c), (10, .bool (decide (a ≤ b)))] ?_
 cases b1 : (decide (a ≤ b) : Bool) with
 | true =>
  have h := cT b1 h
  refine rS 5 [(6, .bool (decide (b ≤ c)))] ?_
  refine dQ ?_
  show XQ _ _ _ _ _ _ _ _
  refine XQ.ret (by kernel_rfl) ?_
  have h := Option.some.inj h
  subst h
  exact ⟨fun i q => (by cases q), .bool (decide (b ≤ c)), (by kernel_rfl), rfl⟩
 | false =>
  have h := cF b1 h
  refine rS 5 [(6, .bool false)] ?_
  refine dQ ?_
  show XQ _ _ _ _ _ _ _ _
  refine XQ.ret (by kernel_rfl) ?_
  have h := Option.some.inj h
  subst h
  exact ⟨fun i q => (by cases q), .bool false, (by kernel_rfl), rfl⟩
noncomputable def f23_C23 : Code := Proofs.Try.f23.body.getD .skip
noncomputable def f23_L1 : Code := lft (lft (rgt (lft (rgt (rgt f23_C23)))))
inductive Of23_1 where
 | r (x2_r1 : Int)
 | x0
def f23_1 (m : Nat) : Nat → List (Int × Int) → Int → Int → Option Of23_1
 | 0, _, _, _ => none
 | fuel + 1, a, x9_1, x10_1 =>
  cond (decide (x10_1 < x9_1)) (
   cond (inRow x10_1 a.length) (
    (f64 m 0 ((List.getD a (Int.toNat x10_1) (0, 0)).1) 23).bind fun r5 =>
     cond (!r5) (
      some (.r 1)
     ) (
      (f64 m 0 ((List.getD a (Int.toNat x10_1) (0, 0)).2) 23).bind fun r6 =>
       cond (!r6) (
        some (.r 1)
       ) (
        cond (decide (((List.getD a (Int.toNat x10_1) (0, 0)).1) > ((List.getD a (Int.toNat x10_1) (0, 0)).2))) (
         some (.r 7)
        ) (
         f23_1 m fuel a x9_1 (w64 (x10_1 + 1))
        )
       )
     )
   ) none
  ) (
   some (.x0)
  )
theorem f23_1_ok (m : Nat) : ∀ (fuel : Nat) (z0 : Nat) (y0 : Nat) (a : List (Int × Int)) (x9_1 : Int) (x10_1 : Int) (o : Of23_1), f23_1 m fuel a x9_1 x10_1 = some o → ∀ Q : QP, (match o with | .r x2_r1 => Q .ret [(2, ii x2_r1)] [(0, rc encP a z0 y0 2)] 1 | .x0 => Q (.exit 0) [] [(0, rc encP a z0 y0 2)] 1) → XL E0 32 1 fuel f23_L1 [(8, s0 0 a.length), (9, ii x9_1), (10, ii x10_1)] [(0, rc encP a z0 y0 2)] 1 Q
 | 0, z0, y0, a, x9_1, x10_1, o, h, Q, hQ => by cases h
 | fuel + 1, z0, y0, a, x9_1, x10_1, o, h, Q, hQ => by
  unfold f23_1 at h
  refine XL.succ E0_ok ?_
  refine qQ ?_
  refine rS 1 [(8, s0 0 a.length), (9, ii x9_1), (10, ii x10_1), (11, .bool (decide (x10_1 < x9_1)))] ?_
  refine dQ ?_
  show XQ _ _ _ _ _ _ _ _
  refine sQ ?_
  cases b1 : (decide (x10_1 < x9_1) : Bool) with
  | true =>
   have h := cT b1 h
   refine iT (.tmp 11) ?_
   refine kQ ?_
   show XQ _ _ _ _ _ _ _ _
   refine sQ ?_
   refine XQ.block (id := 1) (by kernel_rfl) ?_
   refine qQ ?_
   cases b2 : (inRow x10_1 a.length : Bool) with
   | false => cases (cF b2 h)
   | true =>
    have h := cT b2 h
    refine XR.rd E0_ok [8, 9, 10, 12] rfl (v := pp 0 ((Int.toNat x10_1) * 2)) (v_idx (s := 2) (x := (src 32 (.tmp 8))) (y := (src 32 (.tmp 10))) (b := 0) (o := 0) (len := a.length) (cap := a.length) (ik := .i64) (i := x10_1) (off := (Int.toNat x10_1) * 2) (d := (some (path 12 12))) (by kernel_rfl) (by kernel_rfl) (by kernel_rfl) b2 (by omega)) (σ' := [(8, s0 0 a.length), (9, ii x9_1), (10, ii x10_1), (12, pp 0 ((Int.toNat x10_1) * 2))]) (by kernel_rfl) ?_
    refine XR.rd E0_ok [8, 9, 10, 13] rfl (v := .agg #[ii ((List.getD a (Int.toNat x10_1) (0, 0)).1), ii ((List.getD a (Int.toNat x10_1) (0, 0)).2)]) (v_loadN encP_ok (x := (src 32 (.tmp 12))) (b := 0) (off := (Int.toNat x10_1) * 2) (xs := a) (fz := z0) (e := y0) (es := 2) (d := (some (path 12 13))) (by kernel_rfl) (by kernel_rfl) (by kernel_rfl) (Int.toNat x10_1) (0, 0) (by first | rfl | omega) (row_len (inRow_toNat b2) (by simp)) rfl) (σ' := [(8, s0 0 a.length), (9, ii x9_1), (10, ii x10_1), (13, .agg #[ii ((List.getD a (Int.toNat x10_1) (0, 0)).1), ii ((List.getD a (Int.toNat x10_1) (0, 0)).2)])]) (by kernel_rfl) ?_
    refine rT 2 [(4, pp 1 0), (8, s0 0 a.length), (9, ii x9_1), (10, ii x10_1)] [(1, .cells [ii ((List.getD a (Int.toNat x10_1) (0, 0)).1), ii ((List.getD a (Int.toNat x10_1) (0, 0)).2)] 0 61 0), (0, rc encP a z0 y0 2)] 2 ?_
    refine dQ ?_
    show XQ _ _ _ _ _ _ _ _
    refine XQ.block (id := 2) (by kernel_rfl) ?_
    refine qQ ?_
    refine rS 2 [(4, pp 1 0), (8, s0 0 a.length), (9, ii x9_1), (10, ii x10_1), (16, ii ((List.getD a (Int.toNat x10_1) (0, 0)).1))] ?_
    obtain ⟨r5, r5_h, h⟩ := bS h
    refine XR.call E0_ok [4, 8, 9, 10, 17] rfl (K := 64) (args := [ii 0, ii ((List.getD a (Int.toNat x10_1) (0, 0)).1), ii 23]) (d := (some (path 12 17))) (by kernel_rfl) (KC.of_calls E0_ok (F := Proofs.Try.f64) (v := .bool r5) (by kernel_rfl) rfl rfl (fun w hI => f64_ok m 0 ((List.getD a (Int.toNat x10_1) (0, 0)).1) 23 r5 r5_h w hI)) ?_
    rintro _ _ _ ⟨rfl, rfl, rfl⟩
    refine XR.conv (σ' := [(4, pp 1 0), (8, s0 0 a.length), (9, ii x9_1), (10, ii x10_1), (17, .bool r5)]) (h' := [(1, .cells [ii ((List.getD a (Int.toNat x10_1) (0, 0)).1), ii ((List.getD a (Int.toNat x10_1) (0, 0)).2)] 0 61 0), (0, rc encP a z0 y0 2)]) (c' := 2) ?_ (by kernel_rfl)
    refine rS 2 [(4, pp 1 0), (8, s0 0 a.length), (9, ii x9_1), (10, ii x10_1), (19, .bool (!r5))] ?_
    cases b3 : (!r5 : Bool) with
    | true =>
     have h := cT b3 h
     refine rS 6 [(4, pp 1 0), (8, s0 0 a.length), (9, ii x9_1), (10, ii x10_1), (14, .bool true)] ?_
     refine dQ ?_
     show XQ _ _ _ _ _ _ _ _
     refine iT (.tmp 14) ?_
     refine qQ ?_
     refine rS 1 [(2, ii 1)] ?_
     refine dQ ?_
     show XQ _ _ _ _ _ _ _ _
     refine XQ.ren (σ' := [(2, ii 1)]) (h' := [(0, rc encP a z0 y0 2)]) (c' := 1) [0] (by decide) rfl ⟨rfl, trivial⟩ ⟨⟨_, _, rfl, rfl, .inl ⟨rfl, rwP⟩⟩, trivial⟩ rfl ?_
     refine XQ.ret (by kernel_rfl) ?_
     cases h
     exact hQ
    | false =>
     have h := cF b3 h
     refine rS 2 [(4, pp 1 0), (8, s0 0 a.length), (9, ii x9_1), (10, ii x10_1), (19, .bool false), (21, ii ((List.getD a (Int.toNat x10_1) (0, 0)).2))] ?_
     obtain ⟨r6, r6_h, h⟩ := bS h
     refine XR.call E0_ok [4, 8, 9, 10, 19, 22] rfl (K := 64) (args := [ii 0, ii ((List.getD a (Int.toNat x10_1) (0, 0)).2), ii 23]) (d := (some (path 12 22))) (by kernel_rfl) (KC.of_calls E0_ok (F := Proofs.Try.f64) (v := .bool r6) (by kernel_rfl) rfl rfl (fun w hI => f64_ok m 0 ((List.getD a (Int.toNat x10_1) (0, 0)).2) 23 r6 r6_h w hI)) ?_
     rintro _ _ _ ⟨rfl, rfl, rfl⟩
     refine XR.conv (σ' := [(4, pp 1 0), (8, s0 0 a.length), (9, ii x9_1), (10, ii x10_1), (19, .bool false), (22, .bool r6)]) (h' := [(1, .cells [ii ((List.getD a (Int.toNat x10_1) (0, 0)).1), ii ((List.getD a (Int.toNat x10_1) (0, 0)).2)] 0 61 0), (0, rc encP a z0 y0 2)]) (c' := 2) ?_ (by kernel_rfl)
     refine rS 3 [(4, pp 1 0), (8, s0 0 a.length), (9, ii x9_1), (10, ii x10_1), (14, .bool (!r6))] ?_
     refine dQ ?_
     show XQ _ _ _ _ _ _ _ _
     cases b4 : (!r6 : Bool) with
     | true =>
      have h := cT b4 h
      refine iT (.tmp 14) ?_
      refine qQ ?_
      refine rS 1 [(2, ii 1)] ?_
      refine dQ ?_
      show XQ _ _ _ _ _ _ _ _
      refine XQ.ren (σ' := [(2, ii 1)]) (h' := [(0, rc encP a z0 y0 2)]) (c' := 1) [0] (by decide) rfl ⟨rfl, trivial⟩ ⟨⟨_, _, rfl, rfl, .inl ⟨rfl, rwP⟩⟩, trivial⟩ rfl ?_
      refine XQ.ret (by kernel_rfl) ?_
      cases h
      exact hQ
     | false =>
      have h := cF b4 h
      refine iF (.tmp 14) ?_
      refine qQ ?_
      refine rS 6 [(8, s0 0 a.length), (9, ii x9_1), (10, ii x10_1), (25, .bool (decide (((List.getD a (Int.toNat x10_1) (0, 0)).1) > ((List.getD a (Int.toNat x10_1) (0, 0)).2))))] ?_
      refine dQ ?_
      show XQ _ _ _ _ _ _ _ _
      cases b5 : (decide (((List.getD a (Int.toNat x10_1) (0, 0)).1) > ((List.getD a (Int.toNat x10_1) (0, 0)).2)) : Bool) with
      | true =>
       have h := cT b5 h
       refine iT (.tmp 25) ?_
       refine qQ ?_
       refine rS 1 [(2, ii 7)] ?_
       refine dQ ?_
       show XQ _ _ _ _ _ _ _ _
       refine XQ.ren (σ' := [(2, ii 7)]) (h' := [(0, rc encP a z0 y0 2)]) (c' := 1) [0] (by decide) rfl ⟨rfl, trivial⟩ ⟨⟨_, _, rfl, rfl, .inl ⟨rfl, rwP⟩⟩, trivial⟩ rfl ?_
       refine XQ.ret (by kernel_rfl) ?_
       cases h
       exact hQ
      | false =>
       have h := cF b5 h
       refine iF (.tmp 25) ?_
       refine kQ ?_
       show XQ _ _ _ _ _ _ _ _
       refine rQ ?_
       refine rS 2 [(8, s0 0 a.length), (9, ii x9_1), (10, ii (w64 (x10_1 + 1)))] ?_
       refine dQ ?_
       show XL _ _ _ _ _ _ _ _ _
       refine XL.ren (σ' := [(8, s0 0 a.length), (9, ii x9_1), (10, ii (w64 (x10_1 + 1)))]) (h' := [(0, rc encP a z0 y0 2)]) (c' := 1) [0] (by decide) rfl ⟨rfl, rfl, rfl, trivial⟩ ⟨⟨_, _, rfl, rfl, .inl ⟨rfl, rwP⟩⟩, trivial⟩ rfl ?_
       refine XL.conv (f23_1_ok m fuel z0 y0 a x9_1 (w64 (x10_1 + 1)) o h Q hQ) (by first | rfl | simp)
  | false =>
   have h := cF b1 h
   refine iF (.tmp 11) ?_
   refine XQ.ren (σ' := []) (h' := [(0, rc encP a z0 y0 2)]) (c' := 1) [0] (by decide) rfl trivial ⟨⟨_, _, rfl, rfl, .inl ⟨rfl, rwP⟩⟩, trivial⟩ rfl ?_
   refine XQ.exit (i := 0) (by kernel_rfl) ?_
   cases h
   exact hQ
def f23 (m : Nat) (a : List (Int × Int)) : Option (Int) :=
 cond (decide (((a.length : Nat) : Int) > 10)) (
  some (3)
 ) (
  (f23_1 m m a ((a.length : Nat) : Int) 0).bind fun o1 =>
   match o1 with
   | .r x2_r1 =>
    some (x2_r1)
   | .x0 =>
    some (0)
 )
theorem f23_ok (m : Nat) (z0 : Nat) (y0 : Nat) (a : List (Int × Int)) (o : Int) (h : f23 m a = some o) : KC E0 23 [s0 0 a.length] [(0, rc encP a z0 y0 2)] 1 (fun v _ _ => v = ii o) := by
 refine KC.bodyN E0_ok (F := Proofs.Try.f23) (by kernel_rfl) (code := f23_C23) (by kernel_rfl) (nt := 32) (by kernel_rfl) (rs := [.tmp 2]) (by kernel_rfl) (by kernel_rfl) (σ := [(0, s0 0 a.length)]) (by kernel_rfl) ?_
 unfold f23 at h
 refine qQ ?_
 refine rS 1 [(0, s0 0 a.length)] ?_
 refine dQ ?_
 show XQ _ _ _ _ _ _ _ _
 refine sQ ?_
 refine qQ ?_
 refine rS 3 [(0, s0 0 a.length), (7, .bool (decide (((a.length : Nat) : Int) > 10)))] ?_
 refine dQ ?_
 show XQ _ _ _ _ _ _ _ _
 cases b1 : (decide (((a.length : Nat) : Int) > 10) : Bool) with
 | true =>
  have h := cT b1 h
  refine iT (.tmp 7) ?_
  refine qQ ?_
  refine rS 1 [(2, ii 3)] ?_
  refine dQ ?_
  show XQ _ _ _ _ _ _ _ _
  refine XQ.ret (by kernel_rfl) ?_
  have h := Option.some.inj h
  subst h
  exact ⟨fun i q => (by cases q), ii 3, (by kernel_rfl), rfl⟩
 | false =>
  have h := cF b1 h
  refine iF (.tmp 7) ?_
  refine kQ ?_
  show XQ _ _ _ _ _ _ _ _
  refine sQ ?_
  refine qQ ?_
  refine rS 3 [(8, s0 0 a.length), (9, ii ((a.length : Nat) : Int)), (10, ii 0)] ?_
  refine dQ ?_
  show XQ _ _ _ _ _ _ _ _
  refine XQ.block (id := 0) (by kernel_rfl) ?_
  refine XQ.loop m (by kernel_rfl) ?_
  obtain ⟨o1, o1_h, h⟩ := bS h
  refine XL.ren (σ' := [(8, s0 0 a.length), (9, ii ((a.length : Nat) : Int)), (10, ii 0)]) (h' := [(0, rc encP a z0 y0 2)]) (c' := 1) [0] (by decide) rfl ⟨rfl, rfl, rfl, trivial⟩ ⟨⟨_, _, rfl, rfl, .inl ⟨rfl, rwP⟩⟩, trivial⟩ rfl ?_
  cases o1 with
  | r x2_r1 =>
   dsimp only at h
   refine XL.conv (f23_1_ok m m z0 y0 a ((a.length : Nat) : Int) 0 (.r x2_r1) o1_h _ ?_) (by first | rfl | simp)
   have h := Option.some.inj h
   subst h
   exact ⟨fun i q => (by cases q), ii x2_r1, (by kernel_rfl), rfl⟩
  | x0 =>
   dsimp only at h
   refine XL.conv (f23_1_ok m m z0 y0 a ((a.length : Nat) : Int) 0 (.x0) o1_h _ ?_) (by first | rfl | simp)
   show XQ _ _ _ _ _ _ _ _
   refine qQ ?_
   refine rS 1 [(2, ii 0)] ?_
   refine dQ ?_
   show XQ _ _ _ _ _ _ _ _
   refine XQ.ret (by kernel_rfl) ?_
   have h := Option.some.inj h
   subst h
   exact ⟨fun i q => (by cases q), ii 0, (by kernel_rfl), rfl⟩
noncomputable def f57_C57 : Code := Proofs.Try.f57.body.getD .skip
def f57 (m : Nat) (a : List (Int × Int)) (b : Int) : Option (Int) :=
 (f23 m a).bind fun r1 =>
  cond (r1 == 0) (
   (f64 m 1 b 10).bind fun r2 =>
    some (cond (!r2) 1 r1)
  ) (
   some (r1)
  )
theorem f57_ok (m : Nat) (z0 : Nat) (y0 : Nat) (a : List (Int × Int)) (b : Int) (o : Int) (h : f57 m a b = some o) : KC E0 57 [s0 0 a.length, ii b] [(0, rc encP a z0 y0 2)] 1 (fun v _ _ => v = ii o) := by
 refine KC.bodyN E0_ok (F := Proofs.Try.f57) (by kernel_rfl) (code := f57_C57) (by kernel_rfl) (nt := 16) (by kernel_rfl) (rs := [.tmp 4]) (by kernel_rfl) (by kernel_rfl) (σ := [(0, s0 0 a.length), (1, ii b)]) (by kernel_rfl) ?_
 unfold f57 at h
 refine qQ ?_
 refine rS 1 [(0, s0 0 a.length), (1, ii b)] ?_
 refine nQ id ?_
 refine rS 1 [(1, ii b), (6, s0 0 a.length)] ?_
 obtain ⟨r1, r1_h, h⟩ := bS h
 refine XR.call E0_ok [1, 7] rfl (K := 23) (args := [s0 0 a.length]) (d := (some (path 12 7))) (by kernel_rfl) (KQ.call (KC.quiet E0_ok (args0 := [s0 0 a.length]) (h0 := [(0, rc encP a (z0 + ((rowC encP a).length + 1)) y0 2)]) (n := 1) (V := ii r1) [0] (f23_ok m (z0 + ((rowC encP a).length + 1)) y0 a r1 r1_h) rfl (by rfl) (by decide) rfl (by kernel_rfl) ⟨⟨_, _, rfl, rfl, .inl ⟨rfl, rwP⟩⟩, trivial⟩) rfl) ?_
 rintro _ _ _ ⟨rfl, rfl, rfl⟩
 refine XR.conv (σ' := [(1, ii b), (7, ii r1)]) (h' := [(0, rc encP a z0 y0 2)]) (c' := 1) ?_ (by kernel_rfl)
 refine rS 1 [(1, ii b), (5, ii r1)] ?_
 refine dQ ?_
 show XQ _ _ _ _ _ _ _ _
 refine sQ ?_
 refine qQ ?_
 refine rS 3 [(1, ii b), (5, ii r1), (10, .bool (r1 == 0))] ?_
 cases b1 : (r1 == 0 : Bool) with
 | true =>
  have h := cT b1 h
  refine rS 1 [(5, ii r1), (10, .bool true), (11, ii b)] ?_
  obtain ⟨r2, r2_h, h⟩ := bS h
  refine XR.call E0_ok [5, 10, 12] rfl (K := 64) (args := [ii 1, ii b, ii 10]) (d := (some (path 12 12))) (by kernel_rfl) (KC.of_calls E0_ok (F := Proofs.Try.f64) (v := .bool r2) (by kernel_rfl) rfl rfl (fun w hI => f64_ok m 1 b 10 r2 r2_h w hI)) ?_
  rintro _ _ _ ⟨rfl, rfl, rfl⟩
  refine XR.conv (σ' := [(5, ii r1), (10, .bool true), (12, .bool r2)]) (h' := [(0, rc encP a z0 y0 2)]) (c' := 1) ?_ (by kernel_rfl)
  refine rS 2 [(5, ii r1), (14, .bool (!r2))] ?_
  refine dQ ?_
  show XQ _ _ _ _ _ _ _ _
  refine XQ.meetC (σ' := [(5, ii (cond (!r2) 1 r1))]) (h' := [(0, rc encP a z0 y0 2)]) (c' := 1) ?_ ?_
  rotate_left
  ·refine XQ.cond (s := (.tmp 14)) (b := !r2) (by kernel_rfl) (by kernel_rfl) (fun b2 => ?_) (fun b2 => ?_)
   ·refine rQ ?_
    refine rS 1 [(5, ii 1)] ?_
    refine dQ ?_
    refine ⟨rfl, ?_, ?_⟩
    ·try rw [b2]
     exact ⟨rfl, trivial⟩
    ·try rw [b2]
     kernel_rfl
   ·refine kQ ?_
    refine ⟨rfl, ?_, ?_⟩
    ·try rw [b2]
     exact ⟨rfl, trivial⟩
    ·try rw [b2]
     kernel_rfl
  show XQ _ _ _ _ _ _ _ _
  refine qQ ?_
  refine rS 2 [(4, ii (cond (!r2) 1 r1))] ?_
  refine dQ ?_
  show XQ _ _ _ _ _ _ _ _
  refine XQ.ret (by kernel_rfl) ?_
  have h := Option.some.inj h
  subst h
  exact ⟨fun i q => (by cases q), ii (cond (!r2) 1 r1), (by kernel_rfl), rfl⟩
 | false =>
  have h := cF b1 h
  refine rS 4 [(5, ii r1), (14, .bool false)] ?_
  refine dQ ?_
  show XQ _ _ _ _ _ _ _ _
  refine iF (.tmp 14) ?_
  refine kQ ?_
  show XQ _ _ _ _ _ _ _ _
  refine qQ ?_
  refine rS 2 [(4, ii r1)] ?_
  refine dQ ?_
  show XQ _ _ _ _ _ _ _ _
  refine XQ.ret (by kernel_rfl) ?_
  have h := Option.some.inj h
  subst h
  exact ⟨fun i q => (by cases q), ii r1, (by kernel_rfl), rfl⟩
inductive Of21_1 where
 | r (x6_r1 : Int)
 | x1
inductive Of20_1 where
 | r
 | x0
end Go.Xm
