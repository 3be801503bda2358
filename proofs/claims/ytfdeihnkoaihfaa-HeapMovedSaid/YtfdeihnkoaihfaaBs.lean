/- What these functions of the program compute, as functions in Lean, and the proofs that they do: heap.Heap).has, heap.meeting. Conditions: none. -/
import Derived.Test.YtfdeihnkoaihfaaZx
import Derived.Test.YtfdeihnkoaihfaaBa
import Derived.Test.YtfdeihnkoaihfaaCl
import Derived.Test.YtfdeihnkoaihfaaMr
namespace Go.Xm
open Go.RowKit
set_option linter.unusedVariables false
set_option linter.unusedSimpArgs false
set_option maxRecDepth 20000
noncomputable def f62_C62 : Code := Proofs.Try.f62.body.getD .skip
def f62 (m : Nat) (a_From : Int) (a_To : Int) (b : Int) : Option (Bool) :=
 (f64 m a_From b a_To).bind fun r1 =>
  some (r1)
theorem f62_ok (m : Nat) (a_From : Int) (a_To : Int) (b : Int) (o : Bool) (h : f62 m a_From a_To b = some o) (w : World) (hI : anyInv w) : Calls Proofs.Try.prog 62 #[.agg #[ii a_From, ii a_To], ii b] w fun e w' => e = .returned (.bool o) ∧ Below w.heap.size w w' := by
 refine KC.calls (E := E0) (args := [.agg #[ii a_From, ii a_To], ii b]) (v := .bool o) rfl rfl (KC.bodyN E0_ok (F := Proofs.Try.f62) (by kernel_rfl) (code := f62_C62) (by kernel_rfl) (nt := 11) (by kernel_rfl) (rs := [.tmp 4]) (by kernel_rfl) (by kernel_rfl) (σ := [(0, .agg #[ii a_From, ii a_To]), (1, ii b)]) (by kernel_rfl) ?_) w (anyInv_size hI) hI
 unfold f62 at h
 refine qQ ?_
 refine rT 2 [(1, ii b), (2, pp 0 0)] [(0, .cells [ii a_From, ii a_To] 0 61 0)] 1 ?_
 refine nQ id ?_
 refine rS 5 [(6, ii a_From), (7, ii b), (9, ii a_To)] ?_
 obtain ⟨r1, r1_h, h⟩ := bS h
 refine XR.call E0_ok [10] rfl (K := 64) (args := [ii a_From, ii b, ii a_To]) (d := (some (path 12 10))) (by kernel_rfl) (KC.of_calls E0_ok (F := Proofs.Try.f64) (v := .bool r1) (by kernel_rfl) rfl rfl (fun w hI => f64_ok m a_From b a_To r1 r1_h w hI)) ?_
 rintro _ _ _ ⟨rfl, rfl, rfl⟩
 refine XR.conv (σ' := [(10, .bool r1)]) (h' := [(0, .cells [ii a_From, ii a_To] 0 61 0)]) (c' := 1) ?_ (by kernel_rfl)
 refine rS 1 [(4, .bool r1)] ?_
 refine dQ ?_
 show XQ _ _ _ _ _ _ _ _
 refine XQ.ret (by kernel_rfl) ?_
 have h := Option.some.inj h
 subst h
 exact ⟨fun i q => (by cases q), .bool r1, (by kernel_rfl), rfl⟩
noncomputable def f75_C75 : Code := Proofs.Try.f75.body.getD .skip
noncomputable def f75_C73 : Code := Proofs.Try.f73.body.getD .skip
noncomputable def f75_C93 : Code := Proofs.Try.f93.body.getD .skip
noncomputable def f75_C94 : Code := Proofs.Try.f94.body.getD .skip
noncomputable def f75_L1 : Code := lft (lft (lft (rgt (rgt (rgt f75_C75)))))
noncomputable def f75_L2 : Code := lft (lft (rgt (lft (rgt (lft (rgt f75_L1))))))
noncomputable def f75_L3 : Code := lft (lft (rgt (lft (rgt f75_C93))))
noncomputable def f75_L4 : Code := lft (lft (rgt (lft (rgt (rgt (rgt f75_C73))))))
def f75_2 (m : Nat) : Nat → List (Int × Int) → Int → List (Int × Int) → Int → Int → Int → Option Int
 | 0, _, _, _, _, _, _ => none
 | fuel + 1, a, x4_1, lh1_1, x18_2, x19_2, xh2_0_2 =>
  cond (decide (x19_2 < x18_2)) (
   cond (inRow x19_2 lh1_1.length) (
    f75_2 m fuel a x4_1 lh1_1 x18_2 (w64 (x19_2 + 1)) (iMin xh2_0_2 ((List.getD lh1_1 (Int.toNat x19_2) (0, 0)).2))
   ) none
  ) (
   some (xh2_0_2)
  )
theorem f75_2_ok (m : Nat) : ∀ (fuel : Nat) (z0 : Nat) (y0 : Nat) (a : List (Int × Int)) (x4_1 : Int) (lh1_1 : List (Int × Int)) (x18_2 : Int) (x19_2 : Int) (xh2_0_2 : Int) (o : Int), f75_2 m fuel a x4_1 lh1_1 x18_2 x19_2 xh2_0_2 = some o → ∀ Q : QP, Q (.exit 2) [(3, s0 1 lh1_1.length), (4, ii x4_1), (5, pp 2 0)] [(2, .cells [ii o] 0 3 0), (1, rc encP lh1_1 0 61 2), (0, rc encP a z0 y0 2)] 3 → XL E0 34 1 fuel f75_L2 [(3, s0 1 lh1_1.length), (4, ii x4_1), (5, pp 2 0), (17, s0 1 lh1_1.length), (18, ii x18_2), (19, ii x19_2)] [(2, .cells [ii xh2_0_2] 0 3 0), (1, rc encP lh1_1 0 61 2), (0, rc encP a z0 y0 2)] 3 Q
 | 0, z0, y0, a, x4_1, lh1_1, x18_2, x19_2, xh2_0_2, o, h, Q, hQ => by cases h
 | fuel + 1, z0, y0, a, x4_1, lh1_1, x18_2, x19_2, xh2_0_2, o, h, Q, hQ => by
  unfold f75_2 at h
  refine XL.succ E0_ok ?_
  refine qQ ?_
  refine rS 1 [(3, s0 1 lh1_1.length), (4, ii x4_1), (5, pp 2 0), (17, s0 1 lh1_1.length), (18, ii x18_2), (19, ii x19_2), (20, .bool (decide (x19_2 < x18_2)))] ?_
  refine dQ ?_
  show XQ _ _ _ _ _ _ _ _
  refine sQ ?_
  cases b1 : (decide (x19_2 < x18_2) : Bool) with
  | true =>
   have h := cT b1 h
   refine iT (.tmp 20) ?_
   refine kQ ?_
   show XQ _ _ _ _ _ _ _ _
   refine sQ ?_
   refine XQ.block (id := 3) (by kernel_rfl) ?_
   refine qQ ?_
   cases b2 : (inRow x19_2 lh1_1.length : Bool) with
   | false => cases (cF b2 h)
   | true =>
    have h := cT b2 h
    refine XR.rd E0_ok [3, 4, 5, 17, 18, 19, 21] rfl (v := pp 1 ((Int.toNat x19_2) * 2)) (v_idx (s := 2) (x := (src 34 (.tmp 17))) (y := (src 34 (.tmp 19))) (b := 1) (o := 0) (len := lh1_1.length) (cap := lh1_1.length) (ik := .i64) (i := x19_2) (off := (Int.toNat x19_2) * 2) (d := (some (path 12 21))) (by kernel_rfl) (by kernel_rfl) (by kernel_rfl) b2 (by omega)) (σ' := [(3, s0 1 lh1_1.length), (4, ii x4_1), (5, pp 2 0), (17, s0 1 lh1_1.length), (18, ii x18_2), (19, ii x19_2), (21, pp 1 ((Int.toNat x19_2) * 2))]) (by kernel_rfl) ?_
    refine XR.rd E0_ok [3, 4, 5, 17, 18, 19, 22] rfl (v := .agg #[ii ((List.getD lh1_1 (Int.toNat x19_2) (0, 0)).1), ii ((List.getD lh1_1 (Int.toNat x19_2) (0, 0)).2)]) (v_loadN encP_ok (x := (src 34 (.tmp 21))) (b := 1) (off := (Int.toNat x19_2) * 2) (xs := lh1_1) (fz := 0) (e := 61) (es := 2) (d := (some (path 12 22))) (by kernel_rfl) (by kernel_rfl) (by kernel_rfl) (Int.toNat x19_2) (0, 0) (by first | rfl | omega) (row_len (inRow_toNat b2) (by simp)) rfl) (σ' := [(3, s0 1 lh1_1.length), (4, ii x4_1), (5, pp 2 0), (17, s0 1 lh1_1.length), (18, ii x18_2), (19, ii x19_2), (22, .agg #[ii ((List.getD lh1_1 (Int.toNat x19_2) (0, 0)).1), ii ((List.getD lh1_1 (Int.toNat x19_2) (0, 0)).2)])]) (by kernel_rfl) ?_
    refine rT 2 [(3, s0 1 lh1_1.length), (4, ii x4_1), (5, pp 2 0), (7, pp 3 0), (17, s0 1 lh1_1.length), (18, ii x18_2), (19, ii x19_2)] [(3, .cells [ii ((List.getD lh1_1 (Int.toNat x19_2) (0, 0)).1), ii ((List.getD lh1_1 (Int.toNat x19_2) (0, 0)).2)] 0 61 0), (2, .cells [ii xh2_0_2] 0 3 0), (1, rc encP lh1_1 0 61 2), (0, rc encP a z0 y0 2)] 4 ?_
    refine dQ ?_
    show XQ _ _ _ _ _ _ _ _
    refine rQ ?_
    refine rT 5 [(3, s0 1 lh1_1.length), (4, ii x4_1), (5, pp 2 0), (17, s0 1 lh1_1.length), (18, ii x18_2), (19, ii x19_2)] [(3, .cells [ii ((List.getD lh1_1 (Int.toNat x19_2) (0, 0)).1), ii ((List.getD lh1_1 (Int.toNat x19_2) (0, 0)).2)] 0 61 0), (2, .cells [ii (iMin xh2_0_2 ((List.getD lh1_1 (Int.toNat x19_2) (0, 0)).2))] 0 3 0), (1, rc encP lh1_1 0 61 2), (0, rc encP a z0 y0 2)] 4 ?_
    refine dQ ?_
    show XQ _ _ _ _ _ _ _ _
    refine rQ ?_
    refine rS 2 [(3, s0 1 lh1_1.length), (4, ii x4_1), (5, pp 2 0), (17, s0 1 lh1_1.length), (18, ii x18_2), (19, ii (w64 (x19_2 + 1)))] ?_
    refine dQ ?_
    show XL _ _ _ _ _ _ _ _ _
    refine XL.ren (σ' := [(3, s0 1 lh1_1.length), (4, ii x4_1), (5, pp 2 0), (17, s0 1 lh1_1.length), (18, ii x18_2), (19, ii (w64 (x19_2 + 1)))]) (h' := [(2, .cells [ii (iMin xh2_0_2 ((List.getD lh1_1 (Int.toNat x19_2) (0, 0)).2))] 0 3 0), (1, rc encP lh1_1 0 61 2), (0, rc encP a z0 y0 2)]) (c' := 3) [0, 1, 2] (by decide) rfl ⟨rfl, rfl, rfl, rfl, rfl, rfl, trivial⟩ ⟨⟨_, _, rfl, rfl, .inr ⟨_, _, _, _, rfl, rfl⟩⟩, ⟨_, _, rfl, rfl, .inl ⟨rfl, rwP⟩⟩, ⟨_, _, rfl, rfl, .inl ⟨rfl, rwP⟩⟩, trivial⟩ rfl ?_
    refine XL.conv (f75_2_ok m fuel z0 y0 a x4_1 lh1_1 x18_2 (w64 (x19_2 + 1)) (iMin xh2_0_2 ((List.getD lh1_1 (Int.toNat x19_2) (0, 0)).2)) o h Q hQ) (by first | rfl | simp)
  | false =>
   have h := cF b1 h
   refine iF (.tmp 20) ?_
   refine XQ.ren (σ' := [(3, s0 1 lh1_1.length), (4, ii x4_1), (5, pp 2 0)]) (h' := [(2, .cells [ii xh2_0_2] 0 3 0), (1, rc encP lh1_1 0 61 2), (0, rc encP a z0 y0 2)]) (c' := 3) [0, 1, 2] (by decide) rfl ⟨rfl, rfl, rfl, trivial⟩ ⟨⟨_, _, rfl, rfl, .inr ⟨_, _, _, _, rfl, rfl⟩⟩, ⟨_, _, rfl, rfl, .inl ⟨rfl, rwP⟩⟩, ⟨_, _, rfl, rfl, .inl ⟨rfl, rwP⟩⟩, trivial⟩ rfl ?_
   refine XQ.exit (i := 2) (by kernel_rfl) ?_
   cases h
   exact hQ
inductive Of75_4 where
 | r (x4_r4 : Int)
 | x0
def f75_4 (m : Nat) : Nat → List (Int × Int) → List (Int × Int) → Int → Int → Int → Option Of75_4
 | 0, _, _, _, _, _ => none
 | fuel + 1, a, lh1_1, o2, x7_4, x8_4 =>
  cond (decide (x8_4 < x7_4)) (
   cond (inRow x8_4 lh1_1.length) (
    (f62 m ((List.getD lh1_1 (Int.toNat x8_4) (0, 0)).1) ((List.getD lh1_1 (Int.toNat x8_4) (0, 0)).2) o2).bind fun r33 =>
     cond (r33) (
      some (.r x8_4)
     ) (
      f75_4 m fuel a lh1_1 o2 x7_4 (w64 (x8_4 + 1))
     )
   ) none
  ) (
   some (.x0)
  )
theorem f75_4_ok (m : Nat) : ∀ (fuel : Nat) (z0 : Nat) (y0 : Nat) (a : List (Int × Int)) (lh1_1 : List (Int × Int)) (o2 : Int) (x7_4 : Int) (x8_4 : Int) (o : Of75_4), f75_4 m fuel a lh1_1 o2 x7_4 x8_4 = some o → ∀ Q : QP, (match o with | .r x4_r4 => Q .ret [(4, ii x4_r4)] [(2, .cells [ii o2] 0 3 0), (1, rc encP lh1_1 0 61 2), (0, rc encP a z0 y0 2)] 3 | .x0 => Q (.exit 0) [] [(2, .cells [ii o2] 0 3 0), (1, rc encP lh1_1 0 61 2), (0, rc encP a z0 y0 2)] 3) → XL E0 19 3 fuel f75_L3 [(0, s0 1 lh1_1.length), (1, .func (.func 94) #[] #[pp 2 0]), (7, ii x7_4), (8, ii x8_4)] [(2, .cells [ii o2] 0 3 0), (1, rc encP lh1_1 0 61 2), (0, rc encP a z0 y0 2)] 3 Q
 | 0, z0, y0, a, lh1_1, o2, x7_4, x8_4, o, h, Q, hQ => by cases h
 | fuel + 1, z0, y0, a, lh1_1, o2, x7_4, x8_4, o, h, Q, hQ => by
  unfold f75_4 at h
  refine XL.succ E0_ok ?_
  refine qQ ?_
  refine rS 1 [(0, s0 1 lh1_1.length), (1, .func (.func 94) #[] #[pp 2 0]), (7, ii x7_4), (8, ii x8_4), (9, .bool (decide (x8_4 < x7_4)))] ?_
  refine dQ ?_
  show XQ _ _ _ _ _ _ _ _
  refine sQ ?_
  cases b1 : (decide (x8_4 < x7_4) : Bool) with
  | true =>
   have h := cT b1 h
   refine iT (.tmp 9) ?_
   refine kQ ?_
   show XQ _ _ _ _ _ _ _ _
   refine sQ ?_
   refine XQ.block (id := 1) (by kernel_rfl) ?_
   refine qQ ?_
   refine rS 2 [(0, s0 1 lh1_1.length), (1, .func (.func 94) #[] #[pp 2 0]), (5, ii x8_4), (7, ii x7_4), (8, ii x8_4)] ?_
   refine nQ id ?_
   refine rS 3 [(0, s0 1 lh1_1.length), (1, .func (.func 94) #[] #[pp 2 0]), (5, ii x8_4), (7, ii x7_4), (8, ii x8_4), (11, .func (.func 94) #[] #[pp 2 0]), (12, s0 1 lh1_1.length), (13, ii x8_4)] ?_
   cases b2 : (inRow x8_4 lh1_1.length : Bool) with
   | false => cases (cF b2 h)
   | true =>
    have h := cT b2 h
    refine XR.rd E0_ok [0, 1, 5, 7, 8, 11, 14] rfl (v := pp 1 ((Int.toNat x8_4) * 2)) (v_idx (s := 2) (x := (src 19 (.tmp 12))) (y := (src 19 (.tmp 13))) (b := 1) (o := 0) (len := lh1_1.length) (cap := lh1_1.length) (ik := .i64) (i := x8_4) (off := (Int.toNat x8_4) * 2) (d := (some (path 12 14))) (by kernel_rfl) (by kernel_rfl) (by kernel_rfl) b2 (by omega)) (σ' := [(0, s0 1 lh1_1.length), (1, .func (.func 94) #[] #[pp 2 0]), (5, ii x8_4), (7, ii x7_4), (8, ii x8_4), (11, .func (.func 94) #[] #[pp 2 0]), (14, pp 1 ((Int.toNat x8_4) * 2))]) (by kernel_rfl) ?_
    refine XR.rd E0_ok [0, 1, 5, 7, 8, 11, 15] rfl (v := .agg #[ii ((List.getD lh1_1 (Int.toNat x8_4) (0, 0)).1), ii ((List.getD lh1_1 (Int.toNat x8_4) (0, 0)).2)]) (v_loadN encP_ok (x := (src 19 (.tmp 14))) (b := 1) (off := (Int.toNat x8_4) * 2) (xs := lh1_1) (fz := 0) (e := 61) (es := 2) (d := (some (path 12 15))) (by kernel_rfl) (by kernel_rfl) (by kernel_rfl) (Int.toNat x8_4) (0, 0) (by first | rfl | omega) (row_len (inRow_toNat b2) (by simp)) rfl) (σ' := [(0, s0 1 lh1_1.length), (1, .func (.func 94) #[] #[pp 2 0]), (5, ii x8_4), (7, ii x7_4), (8, ii x8_4), (11, .func (.func 94) #[] #[pp 2 0]), (15, .agg #[ii ((List.getD lh1_1 (Int.toNat x8_4) (0, 0)).1), ii ((List.getD lh1_1 (Int.toNat x8_4) (0, 0)).2)])]) (by kernel_rfl) ?_
    refine XR.callK E0_ok [0, 1, 5, 7, 8, 16] rfl (K := 94) (args := [.agg #[ii ((List.getD lh1_1 (Int.toNat x8_4) (0, 0)).1), ii ((List.getD lh1_1 (Int.toNat x8_4) (0, 0)).2)], pp 2 0]) (d := (some (path 12 16))) (by kernel_rfl) ?_
    refine KC.bodyN E0_ok (F := Proofs.Try.f94) (by kernel_rfl) (code := f75_C94) (by kernel_rfl) (nt := 7) (by kernel_rfl) (rs := [.tmp 3]) (by kernel_rfl) (by kernel_rfl) (σ := [(0, .agg #[ii ((List.getD lh1_1 (Int.toNat x8_4) (0, 0)).1), ii ((List.getD lh1_1 (Int.toNat x8_4) (0, 0)).2)]), (1, pp 2 0)]) (by kernel_rfl) ?_
    refine qQ ?_
    refine rT 2 [(1, pp 2 0), (2, pp 3 0)] [(3, .cells [ii ((List.getD lh1_1 (Int.toNat x8_4) (0, 0)).1), ii ((List.getD lh1_1 (Int.toNat x8_4) (0, 0)).2)] 0 61 0), (2, .cells [ii o2] 0 3 0), (1, rc encP lh1_1 0 61 2), (0, rc encP a z0 y0 2)] 4 ?_
    refine nQ id ?_
    refine rS 2 [(4, .agg #[ii ((List.getD lh1_1 (Int.toNat x8_4) (0, 0)).1), ii ((List.getD lh1_1 (Int.toNat x8_4) (0, 0)).2)]), (5, ii o2)] ?_
    obtain ⟨r33, r33_h, h⟩ := bS h
    refine XR.call E0_ok [6] rfl (K := 62) (args := [.agg #[ii ((List.getD lh1_1 (Int.toNat x8_4) (0, 0)).1), ii ((List.getD lh1_1 (Int.toNat x8_4) (0, 0)).2)], ii o2]) (d := (some (path 12 6))) (by kernel_rfl) (KC.of_calls E0_ok (F := Proofs.Try.f62) (v := .bool r33) (by kernel_rfl) rfl rfl (fun w hI => f62_ok m ((List.getD lh1_1 (Int.toNat x8_4) (0, 0)).1) ((List.getD lh1_1 (Int.toNat x8_4) (0, 0)).2) o2 r33 r33_h w hI)) ?_
    rintro _ _ _ ⟨rfl, rfl, rfl⟩
    refine XR.conv (σ' := [(6, .bool r33)]) (h' := [(3, .cells [ii ((List.getD lh1_1 (Int.toNat x8_4) (0, 0)).1), ii ((List.getD lh1_1 (Int.toNat x8_4) (0, 0)).2)] 0 61 0), (2, .cells [ii o2] 0 3 0), (1, rc encP lh1_1 0 61 2), (0, rc encP a z0 y0 2)]) (c' := 4) ?_ (by kernel_rfl)
    refine rS 1 [(3, .bool r33)] ?_
    refine dQ ?_
    show XQ _ _ _ _ _ _ _ _
    refine XQ.ret (by kernel_rfl) ?_
    refine ⟨fun i q => (by cases q), .bool r33, (by kernel_rfl), ?_⟩
    refine XR.conv (σ' := [(0, s0 1 lh1_1.length), (1, .func (.func 94) #[] #[pp 2 0]), (5, ii x8_4), (7, ii x7_4), (8, ii x8_4), (16, .bool r33)]) (h' := [(3, .cells [ii ((List.getD lh1_1 (Int.toNat x8_4) (0, 0)).1), ii ((List.getD lh1_1 (Int.toNat x8_4) (0, 0)).2)] 0 61 0), (2, .cells [ii o2] 0 3 0), (1, rc encP lh1_1 0 61 2), (0, rc encP a z0 y0 2)]) (c' := 4) ?_ (by kernel_rfl)
    refine dQ ?_
    show XQ _ _ _ _ _ _ _ _
    cases b3 : (r33 : Bool) with
    | true =>
     have h := cT b3 h
     refine iT (.tmp 16) ?_
     refine qQ ?_
     refine rS 2 [(4, ii x8_4)] ?_
     refine dQ ?_
     show XQ _ _ _ _ _ _ _ _
     refine XQ.ren (σ' := [(4, ii x8_4)]) (h' := [(2, .cells [ii o2] 0 3 0), (1, rc encP lh1_1 0 61 2), (0, rc encP a z0 y0 2)]) (c' := 3) [0, 1, 2] (by decide) rfl ⟨rfl, trivial⟩ ⟨⟨_, _, rfl, rfl, .inr ⟨_, _, _, _, rfl, rfl⟩⟩, ⟨_, _, rfl, rfl, .inl ⟨rfl, rwP⟩⟩, ⟨_, _, rfl, rfl, .inl ⟨rfl, rwP⟩⟩, trivial⟩ rfl ?_
     refine XQ.ret (by kernel_rfl) ?_
     cases h
     exact hQ
    | false =>
     have h := cF b3 h
     refine iF (.tmp 16) ?_
     refine kQ ?_
     show XQ _ _ _ _ _ _ _ _
     refine rQ ?_
     refine rS 2 [(0, s0 1 lh1_1.length), (1, .func (.func 94) #[] #[pp 2 0]), (7, ii x7_4), (8, ii (w64 (x8_4 + 1)))] ?_
     refine dQ ?_
     show XL _ _ _ _ _ _ _ _ _
     refine XL.ren (σ' := [(0, s0 1 lh1_1.length), (1, .func (.func 94) #[] #[pp 2 0]), (7, ii x7_4), (8, ii (w64 (x8_4 + 1)))]) (h' := [(2, .cells [ii o2] 0 3 0), (1, rc encP lh1_1 0 61 2), (0, rc encP a z0 y0 2)]) (c' := 3) [0, 1, 2] (by decide) rfl ⟨rfl, rfl, rfl, rfl, trivial⟩ ⟨⟨_, _, rfl, rfl, .inr ⟨_, _, _, _, rfl, rfl⟩⟩, ⟨_, _, rfl, rfl, .inl ⟨rfl, rwP⟩⟩, ⟨_, _, rfl, rfl, .inl ⟨rfl, rwP⟩⟩, trivial⟩ rfl ?_
     refine XL.conv (f75_4_ok m fuel z0 y0 a lh1_1 o2 x7_4 (w64 (x8_4 + 1)) o h Q hQ) (by first | rfl | simp)
  | false =>
   have h := cF b1 h
   refine iF (.tmp 9) ?_
   refine XQ.ren (σ' := []) (h' := [(2, .cells [ii o2] 0 3 0), (1, rc encP lh1_1 0 61 2), (0, rc encP a z0 y0 2)]) (c' := 3) [0, 1, 2] (by decide) rfl trivial ⟨⟨_, _, rfl, rfl, .inr ⟨_, _, _, _, rfl, rfl⟩⟩, ⟨_, _, rfl, rfl, .inl ⟨rfl, rwP⟩⟩, ⟨_, _, rfl, rfl, .inl ⟨rfl, rwP⟩⟩, trivial⟩ rfl ?_
   refine XQ.exit (i := 0) (by kernel_rfl) ?_
   cases h
   exact hQ
def f75_5 (m : Nat) : Nat → List (Int × Int) → Int → Int → Int → List (Int × Int) → Option (Int × (List (Int × Int)))
 | 0, _, _, _, _, _ => none
 | fuel + 1, a, o2, x5_5, x6_5, lh1_5 =>
  cond (decide (x6_5 < ((lh1_5.length : Nat) : Int))) (
   cond (inRow x6_5 lh1_5.length) (
    (f62 m ((List.getD lh1_5 (Int.toNat x6_5) (0, 0)).1) ((List.getD lh1_5 (Int.toNat x6_5) (0, 0)).2) o2).bind fun r36 =>
     cond (!r36) (
      cond (inRow x5_5 lh1_5.length) (
       f75_5 m fuel a o2 (w64 (x5_5 + 1)) (w64 (x6_5 + 1)) (List.set lh1_5 (Int.toNat x5_5) ((List.getD lh1_5 (Int.toNat x6_5) (0, 0)).1, (List.getD lh1_5 (Int.toNat x6_5) (0, 0)).2))
      ) none
     ) (
      f75_5 m fuel a o2 x5_5 (w64 (x6_5 + 1)) lh1_5
     )
   ) none
  ) (
   some (x5_5, lh1_5)
  )
theorem f75_5_ok (m : Nat) : ∀ (fuel : Nat) (z0 : Nat) (y0 : Nat) (a : List (Int × Int)) (o2 : Int) (x5_5 : Int) (x6_5 : Int) (lh1_5 : List (Int × Int)) (o : (Int × (List (Int × Int)))), f75_5 m fuel a o2 x5_5 x6_5 lh1_5 = some o → ∀ Q : QP, Q (.exit 0) [(0, s0 1 o.2.length), (5, ii o.1)] [(2, .cells [ii o2] 0 3 0), (1, rc encP o.2 0 61 2), (0, rc encP a z0 y0 2)] 3 → XL E0 42 3 fuel f75_L4 [(0, s0 1 lh1_5.length), (1, .func (.func 94) #[] #[pp 2 0]), (5, ii x5_5), (6, ii x6_5)] [(2, .cells [ii o2] 0 3 0), (1, rc encP lh1_5 0 61 2), (0, rc encP a z0 y0 2)] 3 Q
 | 0, z0, y0, a, o2, x5_5, x6_5, lh1_5, o, h, Q, hQ => by cases h
 | fuel + 1, z0, y0, a, o2, x5_5, x6_5, lh1_5, o, h, Q, hQ => by
  unfold f75_5 at h
  refine XL.succ E0_ok ?_
  refine sQ ?_
  refine qQ ?_
  refine rS 4 [(0, s0 1 lh1_5.length), (1, .func (.func 94) #[] #[pp 2 0]), (5, ii x5_5), (6, ii x6_5), (19, .bool (decide (x6_5 < ((lh1_5.length : Nat) : Int))))] ?_
  refine dQ ?_
  show XQ _ _ _ _ _ _ _ _
  cases b1 : (decide (x6_5 < ((lh1_5.length : Nat) : Int)) : Bool) with
  | true =>
   have h := cT b1 h
   refine iT (.tmp 19) ?_
   refine kQ ?_
   show XQ _ _ _ _ _ _ _ _
   refine sQ ?_
   refine XQ.block (id := 1) (by kernel_rfl) ?_
   refine qQ ?_
   refine rS 2 [(0, s0 1 lh1_5.length), (1, .func (.func 94) #[] #[pp 2 0]), (5, ii x5_5), (6, ii x6_5), (22, s0 1 lh1_5.length), (23, ii x6_5)] ?_
   cases b2 : (inRow x6_5 lh1_5.length : Bool) with
   | false => cases (cF b2 h)
   | true =>
    have h := cT b2 h
    refine XR.rd E0_ok [0, 1, 5, 6, 24] rfl (v := pp 1 ((Int.toNat x6_5) * 2)) (v_idx (s := 2) (x := (src 42 (.tmp 22))) (y := (src 42 (.tmp 23))) (b := 1) (o := 0) (len := lh1_5.length) (cap := lh1_5.length) (ik := .i64) (i := x6_5) (off := (Int.toNat x6_5) * 2) (d := (some (path 12 24))) (by kernel_rfl) (by kernel_rfl) (by kernel_rfl) b2 (by omega)) (σ' := [(0, s0 1 lh1_5.length), (1, .func (.func 94) #[] #[pp 2 0]), (5, ii x5_5), (6, ii x6_5), (24, pp 1 ((Int.toNat x6_5) * 2))]) (by kernel_rfl) ?_
    refine XR.rd E0_ok [0, 1, 5, 6, 25] rfl (v := .agg #[ii ((List.getD lh1_5 (Int.toNat x6_5) (0, 0)).1), ii ((List.getD lh1_5 (Int.toNat x6_5) (0, 0)).2)]) (v_loadN encP_ok (x := (src 42 (.tmp 24))) (b := 1) (off := (Int.toNat x6_5) * 2) (xs := lh1_5) (fz := 0) (e := 61) (es := 2) (d := (some (path 12 25))) (by kernel_rfl) (by kernel_rfl) (by kernel_rfl) (Int.toNat x6_5) (0, 0) (by first | rfl | omega) (row_len (inRow_toNat b2) (by simp)) rfl) (σ' := [(0, s0 1 lh1_5.length), (1, .func (.func 94) #[] #[pp 2 0]), (5, ii x5_5), (6, ii x6_5), (25, .agg #[ii ((List.getD lh1_5 (Int.toNat x6_5) (0, 0)).1), ii ((List.getD lh1_5 (Int.toNat x6_5) (0, 0)).2)])]) (by kernel_rfl) ?_
    refine rT 2 [(0, s0 1 lh1_5.length), (1, .func (.func 94) #[] #[pp 2 0]), (5, ii x5_5), (6, ii x6_5), (7, pp 3 0)] [(3, .cells [ii ((List.getD lh1_5 (Int.toNat x6_5) (0, 0)).1), ii ((List.getD lh1_5 (Int.toNat x6_5) (0, 0)).2)] 0 61 0), (2, .cells [ii o2] 0 3 0), (1, rc encP lh1_5 0 61 2), (0, rc encP a z0 y0 2)] 4 ?_
    refine nQ id ?_
    refine rS 2 [(0, s0 1 lh1_5.length), (1, .func (.func 94) #[] #[pp 2 0]), (5, ii x5_5), (6, ii x6_5), (7, pp 3 0), (26, .func (.func 94) #[] #[pp 2 0]), (27, .agg #[ii ((List.getD lh1_5 (Int.toNat x6_5) (0, 0)).1), ii ((List.getD lh1_5 (Int.toNat x6_5) (0, 0)).2)])] ?_
    refine XR.callK E0_ok [0, 1, 5, 6, 7, 28] rfl (K := 94) (args := [.agg #[ii ((List.getD lh1_5 (Int.toNat x6_5) (0, 0)).1), ii ((List.getD lh1_5 (Int.toNat x6_5) (0, 0)).2)], pp 2 0]) (d := (some (path 12 28))) (by kernel_rfl) ?_
    refine KC.bodyN E0_ok (F := Proofs.Try.f94) (by kernel_rfl) (code := f75_C94) (by kernel_rfl) (nt := 7) (by kernel_rfl) (rs := [.tmp 3]) (by kernel_rfl) (by kernel_rfl) (σ := [(0, .agg #[ii ((List.getD lh1_5 (Int.toNat x6_5) (0, 0)).1), ii ((List.getD lh1_5 (Int.toNat x6_5) (0, 0)).2)]), (1, pp 2 0)]) (by kernel_rfl) ?_
    refine qQ ?_
    refine rT 2 [(1, pp 2 0), (2, pp 4 0)] [(4, .cells [ii ((List.getD lh1_5 (Int.toNat x6_5) (0, 0)).1), ii ((List.getD lh1_5 (Int.toNat x6_5) (0, 0)).2)] 0 61 0), (3, .cells [ii ((List.getD lh1_5 (Int.toNat x6_5) (0, 0)).1), ii ((List.getD lh1_5 (Int.toNat x6_5) (0, 0)).2)] 0 61 0), (2, .cells [ii o2] 0 3 0), (1, rc encP lh1_5 0 61 2), (0, rc encP a z0 y0 2)] 5 ?_
    refine nQ id ?_
    refine rS 2 [(4, .agg #[ii ((List.getD lh1_5 (Int.toNat x6_5) (0, 0)).1), ii ((List.getD lh1_5 (Int.toNat x6_5) (0, 0)).2)]), (5, ii o2)] ?_
    obtain ⟨r36, r36_h, h⟩ := bS h
    refine XR.call E0_ok [6] rfl (K := 62) (args := [.agg #[ii ((List.getD lh1_5 (Int.toNat x6_5) (0, 0)).1), ii ((List.getD lh1_5 (Int.toNat x6_5) (0, 0)).2)], ii o2]) (d := (some (path 12 6))) (by kernel_rfl) (KC.of_calls E0_ok (F := Proofs.Try.f62) (v := .bool r36) (by kernel_rfl) rfl rfl (fun w hI => f62_ok m ((List.getD lh1_5 (Int.toNat x6_5) (0, 0)).1) ((List.getD lh1_5 (Int.toNat x6_5) (0, 0)).2) o2 r36 r36_h w hI)) ?_
    rintro _ _ _ ⟨rfl, rfl, rfl⟩
    refine XR.conv (σ' := [(6, .bool r36)]) (h' := [(4, .cells [ii ((List.getD lh1_5 (Int.toNat x6_5) (0, 0)).1), ii ((List.getD lh1_5 (Int.toNat x6_5) (0, 0)).2)] 0 61 0), (3, .cells [ii ((List.getD lh1_5 (Int.toNat x6_5) (0, 0)).1), ii ((List.getD lh1_5 (Int.toNat x6_5) (0, 0)).2)] 0 61 0), (2, .cells [ii o2] 0 3 0), (1, rc encP lh1_5 0 61 2), (0, rc encP a z0 y0 2)]) (c' := 5) ?_ (by kernel_rfl)
    refine rS 1 [(3, .bool r36)] ?_
    refine dQ ?_
    show XQ _ _ _ _ _ _ _ _
    refine XQ.ret (by kernel_rfl) ?_
    refine ⟨fun i q => (by cases q), .bool r36, (by kernel_rfl), ?_⟩
    refine XR.conv (σ' := [(0, s0 1 lh1_5.length), (1, .func (.func 94) #[] #[pp 2 0]), (5, ii x5_5), (6, ii x6_5), (7, pp 3 0), (28, .bool r36)]) (h' := [(4, .cells [ii ((List.getD lh1_5 (Int.toNat x6_5) (0, 0)).1), ii ((List.getD lh1_5 (Int.toNat x6_5) (0, 0)).2)] 0 61 0), (3, .cells [ii ((List.getD lh1_5 (Int.toNat x6_5) (0, 0)).1), ii ((List.getD lh1_5 (Int.toNat x6_5) (0, 0)).2)] 0 61 0), (2, .cells [ii o2] 0 3 0), (1, rc encP lh1_5 0 61 2), (0, rc encP a z0 y0 2)]) (c' := 5) ?_ (by kernel_rfl)
    refine rS 1 [(0, s0 1 lh1_5.length), (1, .func (.func 94) #[] #[pp 2 0]), (5, ii x5_5), (6, ii x6_5), (7, pp 3 0), (29, .bool (!r36))] ?_
    refine dQ ?_
    show XQ _ _ _ _ _ _ _ _
    cases b3 : (!r36 : Bool) with
    | true =>
     have h := cT b3 h
     refine iT (.tmp 29) ?_
     refine qQ ?_
     refine rS 3 [(0, s0 1 lh1_5.length), (1, .func (.func 94) #[] #[pp 2 0]), (5, ii x5_5), (6, ii x6_5), (30, s0 1 lh1_5.length), (31, ii x5_5), (32, .agg #[ii ((List.getD lh1_5 (Int.toNat x6_5) (0, 0)).1), ii ((List.getD lh1_5 (Int.toNat x6_5) (0, 0)).2)])] ?_
     cases b4 : (inRow x5_5 lh1_5.length : Bool) with
     | false => cases (cF b4 h)
     | true =>
      have h := cT b4 h
      refine XR.rd E0_ok [0, 1, 5, 6, 32, 33] rfl (v := pp 1 ((Int.toNat x5_5) * 2)) (v_idx (s := 2) (x := (src 42 (.tmp 30))) (y := (src 42 (.tmp 31))) (b := 1) (o := 0) (len := lh1_5.length) (cap := lh1_5.length) (ik := .i64) (i := x5_5) (off := (Int.toNat x5_5) * 2) (d := (some (path 12 33))) (by kernel_rfl) (by kernel_rfl) (by kernel_rfl) b4 (by omega)) (σ' := [(0, s0 1 lh1_5.length), (1, .func (.func 94) #[] #[pp 2 0]), (5, ii x5_5), (6, ii x6_5), (32, .agg #[ii ((List.getD lh1_5 (Int.toNat x6_5) (0, 0)).1), ii ((List.getD lh1_5 (Int.toNat x6_5) (0, 0)).2)]), (33, pp 1 ((Int.toNat x5_5) * 2))]) (by kernel_rfl) ?_
      refine XR.ef E0_ok [0, 1, 5, 6] rfl (e_store encP_ok (size := 2) (x := (src 42 (.tmp 33))) (y := (src 42 (.tmp 32))) (b := 1) (off := (Int.toNat x5_5) * 2) (xs := lh1_5) (e := 61) (es := 2) (d := none) (h' := [(4, .cells [ii ((List.getD lh1_5 (Int.toNat x6_5) (0, 0)).1), ii ((List.getD lh1_5 (Int.toNat x6_5) (0, 0)).2)] 0 61 0), (3, .cells [ii ((List.getD lh1_5 (Int.toNat x6_5) (0, 0)).1), ii ((List.getD lh1_5 (Int.toNat x6_5) (0, 0)).2)] 0 61 0), (2, .cells [ii o2] 0 3 0), (1, rc encP (List.set lh1_5 (Int.toNat x5_5) ((List.getD lh1_5 (Int.toNat x6_5) (0, 0)).1, (List.getD lh1_5 (Int.toNat x6_5) (0, 0)).2)) 0 61 2), (0, rc encP a z0 y0 2)]) (w := .agg #[ii ((List.getD lh1_5 (Int.toNat x6_5) (0, 0)).1), ii ((List.getD lh1_5 (Int.toNat x6_5) (0, 0)).2)]) (ws := [ii ((List.getD lh1_5 (Int.toNat x6_5) (0, 0)).1), ii ((List.getD lh1_5 (Int.toNat x6_5) (0, 0)).2)]) (a := ((List.getD lh1_5 (Int.toNat x6_5) (0, 0)).1, (List.getD lh1_5 (Int.toNat x6_5) (0, 0)).2)) (by kernel_rfl) (by kernel_rfl) (by kernel_rfl) (Int.toNat x5_5) 0 (0, 0) (by first | rfl | omega) (row_len (inRow_toNat b4) (by simp)) (by kernel_rfl) rfl rfl rfl rfl rfl (by kernel_rfl)) (σ' := [(0, s0 1 lh1_5.length), (1, .func (.func 94) #[] #[pp 2 0]), (5, ii x5_5), (6, ii x6_5)]) (by kernel_rfl) ?_
      refine dQ ?_
      show XQ _ _ _ _ _ _ _ _
      refine rQ ?_
      refine rS 3 [(0, s0 1 lh1_5.length), (1, .func (.func 94) #[] #[pp 2 0]), (5, ii (w64 (x5_5 + 1))), (6, ii x6_5)] ?_
      refine dQ ?_
      show XQ _ _ _ _ _ _ _ _
      refine rQ ?_
      refine rS 3 [(0, s0 1 lh1_5.length), (1, .func (.func 94) #[] #[pp 2 0]), (5, ii (w64 (x5_5 + 1))), (6, ii (w64 (x6_5 + 1)))] ?_
      refine dQ ?_
      show XL _ _ _ _ _ _ _ _ _
      refine XL.ren (σ' := [(0, s0 1 lh1_5.length), (1, .func (.func 94) #[] #[pp 2 0]), (5, ii (w64 (x5_5 + 1))), (6, ii (w64 (x6_5 + 1)))]) (h' := [(2, .cells [ii o2] 0 3 0), (1, rc encP (List.set lh1_5 (Int.toNat x5_5) ((List.getD lh1_5 (Int.toNat x6_5) (0, 0)).1, (List.getD lh1_5 (Int.toNat x6_5) (0, 0)).2)) 0 61 2), (0, rc encP a z0 y0 2)]) (c' := 3) [0, 1, 2] (by decide) rfl ⟨rfl, rfl, rfl, rfl, trivial⟩ ⟨⟨_, _, rfl, rfl, .inr ⟨_, _, _, _, rfl, rfl⟩⟩, ⟨_, _, rfl, rfl, .inl ⟨rfl, rwP⟩⟩, ⟨_, _, rfl, rfl, .inl ⟨rfl, rwP⟩⟩, trivial⟩ rfl ?_
      refine XL.conv (f75_5_ok m fuel z0 y0 a o2 (w64 (x5_5 + 1)) (w64 (x6_5 + 1)) (List.set lh1_5 (Int.toNat x5_5) ((List.getD lh1_5 (Int.toNat x6_5) (0, 0)).1, (List.getD lh1_5 (Int.toNat x6_5) (0, 0)).2)) o h Q hQ) (by first | rfl | simp)
    | false =>
     have h := cF b3 h
     refine iF (.tmp 29) ?_
     refine kQ ?_
     show XQ _ _ _ _ _ _ _ _
     refine rQ ?_
     refine rS 3 [(0, s0 1 lh1_5.length), (1, .func (.func 94) #[] #[pp 2 0]), (5, ii x5_5), (6, ii (w64 (x6_5 + 1)))] ?_
     refine dQ ?_
     show XL _ _ _ _ _ _ _ _ _
     refine XL.ren (σ' := [(0, s0 1 lh1_5.length), (1, .func (.func 94) #[] #[pp 2 0]), (5, ii x5_5), (6, ii (w64 (x6_5 + 1)))]) (h' := [(2, .cells [ii o2] 0 3 0), (1, rc encP lh1_5 0 61 2), (0, rc encP a z0 y0 2)]) (c' := 3) [0, 1, 2] (by decide) rfl ⟨rfl, rfl, rfl, rfl, trivial⟩ ⟨⟨_, _, rfl, rfl, .inr ⟨_, _, _, _, rfl, rfl⟩⟩, ⟨_, _, rfl, rfl, .inl ⟨rfl, rwP⟩⟩, ⟨_, _, rfl, rfl, .inl ⟨rfl, rwP⟩⟩, trivial⟩ rfl ?_
     refine XL.conv (f75_5_ok m fuel z0 y0 a o2 x5_5 (w64 (x6_5 + 1)) lh1_5 o h Q hQ) (by first | rfl | simp)
  | false =>
   have h := cF b1 h
   refine iF (.tmp 19) ?_
   refine XQ.ren (σ' := [(0, s0 1 lh1_5.length), (5, ii x5_5)]) (h' := [(2, .cells [ii o2] 0 3 0), (1, rc encP lh1_5 0 61 2), (0, rc encP a z0 y0 2)]) (c' := 3) [0, 1, 2] (by decide) rfl ⟨rfl, rfl, trivial⟩ ⟨⟨_, _, rfl, rfl, .inr ⟨_, _, _, _, rfl, rfl⟩⟩, ⟨_, _, rfl, rfl, .inl ⟨rfl, rwP⟩⟩, ⟨_, _, rfl, rfl, .inl ⟨rfl, rwP⟩⟩, trivial⟩ rfl ?_
   refine XQ.exit (i := 0) (by kernel_rfl) ?_
   cases h
   exact hQ
def f75_3 (m : Nat) (a : List (Int × Int)) (lh1_1 : List (Int × Int)) (o2 : Int) : Option (List (Int × Int)) :=
 (f75_4 m m a lh1_1 o2 ((lh1_1.length : Nat) : Int) 0).bind fun o4 =>
  match o4 with
  | .r x4_r4 =>
   cond (x4_r4 == (-1)) (
    some (List.take lh1_1.length lh1_1)
   ) (
    (f75_5 m m a o2 x4_r4 (w64 (x4_r4 + 1)) lh1_1).bind fun o5 =>
     cond (cutOK o5.1 ((o5.2.length : Nat) : Int) ((o5.2.length : Nat) : Int) o5.2.length) (
      cond (decide ((Int.toNat o5.1) + (o5.2.length - (Int.toNat o5.1)) ≤ o5.2.length)) (
       cond (cutOK 0 o5.1 ((o5.2.length : Nat) : Int) o5.2.length) (
        cond (decide (Int.toNat o5.1 ≤ (clearL (0, 0) o5.2 (Int.toNat o5.1) (o5.2.length - (Int.toNat o5.1))).length)) (
         cond (decide (Int.toNat o5.1 ≤ o5.2.length)) (
          some (List.take (Int.toNat o5.1) (clearL (0, 0) o5.2 (Int.toNat o5.1) (o5.2.length - (Int.toNat o5.1))))
         ) none
        ) none
       ) none
      ) none
     ) none
   )
  | .x0 =>
   some (List.take lh1_1.length lh1_1)
theorem f75_3_ok (m : Nat) (z0 : Nat) (y0 : Nat) (a : List (Int × Int)) (lh1_1 : List (Int × Int)) (o2 : Int) (o : (List (Int × Int))) (h : f75_3 m a lh1_1 o2 = some o) (R : Value → Heap → Nat → Prop) (hR : R (s0 1 o.length) [(2, .cells [ii o2] 0 3 0), (1, rc encP o 0 61 2), (0, rc encP a z0 y0 2)] 3) : KC E0 73 [s0 1 lh1_1.length, .func (.func 94) #[] #[pp 2 0]] [(2, .cells [ii o2] 0 3 0), (1, rc encP lh1_1 0 61 2), (0, rc encP a z0 y0 2)] 3 R := by
 refine KC.shrink encP_ok rfl (e := 61) 1 ?_
 refine KC.bodyN E0_ok (F := Proofs.Try.f73) (by kernel_rfl) (code := f75_C73) (by kernel_rfl) (nt := 42) (by kernel_rfl) (rs := [.tmp 4]) (by kernel_rfl) (by kernel_rfl) (σ := [(0, s0 1 lh1_1.length), (1, .func (.func 94) #[] #[pp 2 0])]) (by kernel_rfl) ?_
 unfold f75_3 at h
 refine qQ ?_
 refine rS 1 [(0, s0 1 lh1_1.length), (1, .func (.func 94) #[] #[pp 2 0])] ?_
 refine nQ id ?_
 refine rS 2 [(0, s0 1 lh1_1.length), (1, .func (.func 94) #[] #[pp 2 0]), (8, s0 1 lh1_1.length), (9, .func (.func 94) #[] #[pp 2 0])] ?_
 refine XR.callK E0_ok [0, 1, 10] rfl (K := 93) (args := [s0 1 lh1_1.length, .func (.func 94) #[] #[pp 2 0]]) (d := (some (path 12 10))) (by kernel_rfl) ?_
 refine KC.bodyN E0_ok (F := Proofs.Try.f93) (by kernel_rfl) (code := f75_C93) (by kernel_rfl) (nt := 19) (by kernel_rfl) (rs := [.tmp 4]) (by kernel_rfl) (by kernel_rfl) (σ := [(0, s0 1 lh1_1.length), (1, .func (.func 94) #[] #[pp 2 0])]) (by kernel_rfl) ?_
 refine qQ ?_
 refine rS 1 [(0, s0 1 lh1_1.length), (1, .func (.func 94) #[] #[pp 2 0])] ?_
 refine dQ ?_
 show XQ _ _ _ _ _ _ _ _
 refine sQ ?_
 refine qQ ?_
 refine rS 3 [(0, s0 1 lh1_1.length), (1, .func (.func 94) #[] #[pp 2 0]), (7, ii ((lh1_1.length : Nat) : Int)), (8, ii 0)] ?_
 refine dQ ?_
 show XQ _ _ _ _ _ _ _ _
 refine XQ.block (id := 0) (by kernel_rfl) ?_
 refine XQ.loop m (by kernel_rfl) ?_
 obtain ⟨o4, o4_h, h⟩ := bS h
 refine XL.ren (σ' := [(0, s0 1 lh1_1.length), (1, .func (.func 94) #[] #[pp 2 0]), (7, ii ((lh1_1.length : Nat) : Int)), (8, ii 0)]) (h' := [(2, .cells [ii o2] 0 3 0), (1, rc encP lh1_1 0 61 2), (0, rc encP a z0 y0 2)]) (c' := 3) [0, 1, 2] (by decide) rfl ⟨rfl, rfl, rfl, rfl, trivial⟩ ⟨⟨_, _, rfl, rfl, .inr ⟨_, _, _, _, rfl, rfl⟩⟩, ⟨_, _, rfl, rfl, .inl ⟨rfl, rwP⟩⟩, ⟨_, _, rfl, rfl, .inl ⟨rfl, rwP⟩⟩, trivial⟩ rfl ?_
 cases o4 with
 | r x4_r4 =>
  dsimp only at h
  refine XL.conv (f75_4_ok m m z0 y0 a lh1_1 o2 ((lh1_1.length : Nat) : Int) 0 (.r x4_r4) o4_h _ ?_) (by first | rfl | simp)
  refine ⟨fun i q => (by cases q), ii x4_r4, (by kernel_rfl), ?_⟩
  refine XR.conv (σ' := [(0, s0 1 lh1_1.length), (1, .func (.func 94) #[] #[pp 2 0]), (10, ii x4_r4)]) (h' := [(2, .cells [ii o2] 0 3 0), (1, rc encP lh1_1 0 61 2), (0, rc encP a z0 y0 2)]) (c' := 3) ?_ (by kernel_rfl)
  refine rS 1 [(0, s0 1 lh1_1.length), (1, .func (.func 94) #[] #[pp 2 0]), (5, ii x4_r4)] ?_
  refine dQ ?_
  show XQ _ _ _ _ _ _ _ _
  refine sQ ?_
  refine qQ ?_
  refine rS 2 [(0, s0 1 lh1_1.length), (1, .func (.func 94) #[] #[pp 2 0]), (5, ii x4_r4), (12, .bool (x4_r4 == (-1)))] ?_
  refine dQ ?_
  show XQ _ _ _ _ _ _ _ _
  cases b2 : (x4_r4 == (-1) : Bool) with
  | true =>
   have h := cT b2 h
   refine iT (.tmp 12) ?_
   refine qQ ?_
   refine rS 2 [(4, s0 1 lh1_1.length)] ?_
   refine dQ ?_
   show XQ _ _ _ _ _ _ _ _
   refine XQ.ren (σ' := [(4, s0 1 lh1_1.length)]) (h' := [(2, .cells [ii o2] 0 3 0), (1, rc encP lh1_1 0 61 2), (0, rc encP a z0 y0 2)]) (c' := 3) [0, 1, 2] (by decide) rfl ⟨rfl, trivial⟩ ⟨⟨_, _, rfl, rfl, .inr ⟨_, _, _, _, rfl, rfl⟩⟩, ⟨_, _, rfl, rfl, .inl ⟨rfl, rwP⟩⟩, ⟨_, _, rfl, rfl, .inl ⟨rfl, rwP⟩⟩, trivial⟩ rfl ?_
   refine XQ.ret (by kernel_rfl) ?_
   cases h
   exact ⟨fun i q => (by cases q), s0 1 lh1_1.length, (by kernel_rfl), lh1_1, lh1_1.length, lh1_1.length, [(2, .cells [ii o2] 0 3 0), (1, rc encP (List.take lh1_1.length lh1_1) 0 61 2), (0, rc encP a z0 y0 2)], rfl, (by kernel_rfl), (Nat.le_refl _), (Nat.le_refl _), (by kernel_rfl), (by first | exact hR | simpa only [List.length_set] using hR)⟩
  | false =>
   have h := cF b2 h
   refine iF (.tmp 12) ?_
   refine kQ ?_
   show XQ _ _ _ _ _ _ _ _
   refine sQ ?_
   refine qQ ?_
   refine rS 3 [(0, s0 1 lh1_1.length), (1, .func (.func 94) #[] #[pp 2 0]), (5, ii x4_r4), (6, ii (w64 (x4_r4 + 1)))] ?_
   refine dQ ?_
   show XQ _ _ _ _ _ _ _ _
   refine XQ.block (id := 0) (by kernel_rfl) ?_
   refine XQ.loop m (by kernel_rfl) ?_
   obtain ⟨o5, o5_h, h⟩ := bS h
   refine XL.ren (σ' := [(0, s0 1 lh1_1.length), (1, .func (.func 94) #[] #[pp 2 0]), (5, ii x4_r4), (6, ii (w64 (x4_r4 + 1)))]) (h' := [(2, .cells [ii o2] 0 3 0), (1, rc encP lh1_1 0 61 2), (0, rc encP a z0 y0 2)]) (c' := 3) [0, 1, 2] (by decide) rfl ⟨rfl, rfl, rfl, rfl, trivial⟩ ⟨⟨_, _, rfl, rfl, .inr ⟨_, _, _, _, rfl, rfl⟩⟩, ⟨_, _, rfl, rfl, .inl ⟨rfl, rwP⟩⟩, ⟨_, _, rfl, rfl, .inl ⟨rfl, rwP⟩⟩, trivial⟩ rfl ?_
   refine XL.conv (f75_5_ok m m z0 y0 a o2 x4_r4 (w64 (x4_r4 + 1)) lh1_1 o5 o5_h _ ?_) (by first | rfl | simp)
   show XQ _ _ _ _ _ _ _ _
   refine qQ ?_
   refine rS 2 [(0, s0 1 o5.2.length), (5, ii o5.1), (36, s0 1 o5.2.length), (37, ii o5.1)] ?_
   cases b4 : (cutOK o5.1 ((o5.2.length : Nat) : Int) ((o5.2.length : Nat) : Int) o5.2.length : Bool) with
   | false => cases (cF b4 h)
   | true =>
    have h := cT b4 h
    refine XR.rd E0_ok [0, 5, 38] rfl (v := sl 1 ((Int.toNat o5.1) * 2) (o5.2.length - (Int.toNat o5.1)) (o5.2.length - (Int.toNat o5.1))) (v_cut (nt := 42) (s := 2) (x := (src 42 (.tmp 36))) (lo := (some (.tmp 37))) (hi := none) (mx := none) (b := 1) (o := 0) (len := o5.2.length) (cap := o5.2.length) (l := (some o5.1)) (u := none) (m := none) (cs := rowC encP o5.2) (fz := 0) (e := 61) (es := 2) (o' := (Int.toNat o5.1) * 2) (len' := o5.2.length - (Int.toNat o5.1)) (cap' := o5.2.length - (Int.toNat o5.1)) (d := (some (path 12 38))) (by kernel_rfl) (by kernel_rfl) (by kernel_rfl) (by kernel_rfl) (by kernel_rfl) (by kernel_rfl) (by kernel_rfl) rfl b4 (by simp only [Option.getD_none, Option.getD_some] <;> omega) (by simp only [Option.getD_none, Option.getD_some] <;> omega) (by simp only [Option.getD_none, Option.getD_some] <;> omega)) (σ' := [(0, s0 1 o5.2.length), (5, ii o5.1), (38, sl 1 ((Int.toNat o5.1) * 2) (o5.2.length - (Int.toNat o5.1)) (o5.2.length - (Int.toNat o5.1)))]) (by kernel_rfl) ?_
    cases b5 : (decide ((Int.toNat o5.1) + (o5.2.length - (Int.toNat o5.1)) ≤ o5.2.length) : Bool) with
    | false => cases (cF b5 h)
    | true =>
     have h := cT b5 h
     refine XR.ef E0_ok [0, 5] rfl (e_clear encP_ok (z := #[ii 0, ii 0]) (x := (src 42 (.tmp 38))) (b := 1) (o := (Int.toNat o5.1) * 2) (len := o5.2.length - (Int.toNat o5.1)) (cap := o5.2.length - (Int.toNat o5.1)) (xs := o5.2) (e := 61) (es := 2) (d := none) (h' := [(2, .cells [ii o2] 0 3 0), (1, rc encP (clearL (0, 0) o5.2 (Int.toNat o5.1) (o5.2.length - (Int.toNat o5.1))) 0 61 2), (0, rc encP a z0 y0 2)]) (by kernel_rfl) (by kernel_rfl) (by kernel_rfl) (Int.toNat o5.1) (0, 0) rfl rfl (by first | rfl | omega) b5 (by kernel_rfl)) (σ' := [(0, s0 1 o5.2.length), (5, ii o5.1)]) (by kernel_rfl) ?_
     refine nQ id ?_
     refine rS 2 [(39, s0 1 o5.2.length), (40, ii o5.1)] ?_
     cases b6 : (cutOK 0 o5.1 ((o5.2.length : Nat) : Int) o5.2.length : Bool) with
     | false => cases (cF b6 h)
     | true =>
      have h := cT b6 h
      refine XR.rd E0_ok [41] rfl (v := sl 1 0 (Int.toNat o5.1) o5.2.length) (v_cut (nt := 42) (s := 2) (x := (src 42 (.tmp 39))) (lo := none) (hi := (some (.tmp 40))) (mx := none) (b := 1) (o := 0) (len := o5.2.length) (cap := o5.2.length) (l := none) (u := (some o5.1)) (m := none) (cs := rowC encP (clearL (0, 0) o5.2 (Int.toNat o5.1) (o5.2.length - (Int.toNat o5.1)))) (fz := 0) (e := 61) (es := 2) (o' := 0) (len' := Int.toNat o5.1) (cap' := o5.2.length) (d := (some (path 12 41))) (by kernel_rfl) (by kernel_rfl) (by kernel_rfl) (by kernel_rfl) (by kernel_rfl) (by kernel_rfl) (by kernel_rfl) rfl b6 (by simp only [Option.getD_none, Option.getD_some] <;> omega) (by simp only [Option.getD_none, Option.getD_some] <;> omega) (by simp only [Option.getD_none, Option.getD_some] <;> omega)) (σ' := [(41, sl 1 0 (Int.toNat o5.1) o5.2.length)]) (by kernel_rfl) ?_
      refine rS 1 [(4, sl 1 0 (Int.toNat o5.1) o5.2.length)] ?_
      refine dQ ?_
      show XQ _ _ _ _ _ _ _ _
      refine XQ.ren (σ' := [(4, sl 1 0 (Int.toNat o5.1) o5.2.length)]) (h' := [(2, .cells [ii o2] 0 3 0), (1, rc encP (clearL (0, 0) o5.2 (Int.toNat o5.1) (o5.2.length - (Int.toNat o5.1))) 0 61 2), (0, rc encP a z0 y0 2)]) (c' := 3) [0, 1, 2] (by decide) rfl ⟨rfl, trivial⟩ ⟨⟨_, _, rfl, rfl, .inr ⟨_, _, _, _, rfl, rfl⟩⟩, ⟨_, _, rfl, rfl, .inl ⟨rfl, rwP⟩⟩, ⟨_, _, rfl, rfl, .inl ⟨rfl, rwP⟩⟩, trivial⟩ rfl ?_
      refine XQ.ret (by kernel_rfl) ?_
      cases b7 : (decide (Int.toNat o5.1 ≤ (clearL (0, 0) o5.2 (Int.toNat o5.1) (o5.2.length - (Int.toNat o5.1))).length) : Bool) with
      | false => cases (cF b7 h)
      | true =>
       have h := cT b7 h
       cases b8 : (decide (Int.toNat o5.1 ≤ o5.2.length) : Bool) with
       | false => cases (cF b8 h)
       | true =>
        have h := cT b8 h
        cases h
        exact ⟨fun i q => (by cases q), sl 1 0 (Int.toNat o5.1) o5.2.length, (by kernel_rfl), clearL (0, 0) o5.2 (Int.toNat o5.1) (o5.2.length - (Int.toNat o5.1)), Int.toNat o5.1, o5.2.length, [(2, .cells [ii o2] 0 3 0), (1, rc encP (List.take (Int.toNat o5.1) (clearL (0, 0) o5.2 (Int.toNat o5.1) (o5.2.length - (Int.toNat o5.1)))) 0 61 2), (0, rc encP a z0 y0 2)], rfl, (by kernel_rfl), (of_decide_eq_true b7), (of_decide_eq_true b8), (by kernel_rfl), (by first | exact hR | simpa only [List.length_set] using hR)⟩
 | x0 =>
  dsimp only at h
  refine XL.conv (f75_4_ok m m z0 y0 a lh1_1 o2 ((lh1_1.length : Nat) : Int) 0 (.x0) o4_h _ ?_) (by first | rfl | simp)
  show XQ _ _ _ _ _ _ _ _
  refine qQ ?_
  refine rS 1 [(4, ii (-1))] ?_
  refine dQ ?_
  show XQ _ _ _ _ _ _ _ _
  refine XQ.ret (by kernel_rfl) ?_
  refine ⟨fun i q => (by cases q), ii (-1), (by kernel_rfl), ?_⟩
  refine XR.conv (σ' := [(0, s0 1 lh1_1.length), (1, .func (.func 94) #[] #[pp 2 0]), (10, ii (-1))]) (h' := [(2, .cells [ii o2] 0 3 0), (1, rc encP lh1_1 0 61 2), (0, rc encP a z0 y0 2)]) (c' := 3) ?_ (by kernel_rfl)
  refine rS 1 [(0, s0 1 lh1_1.length), (1, .func (.func 94) #[] #[pp 2 0]), (5, ii (-1))] ?_
  refine dQ ?_
  show XQ _ _ _ _ _ _ _ _
  refine sQ ?_
  refine qQ ?_
  refine rS 2 [(0, s0 1 lh1_1.length), (1, .func (.func 94) #[] #[pp 2 0]), (5, ii (-1)), (12, .bool true)] ?_
  refine dQ ?_
  show XQ _ _ _ _ _ _ _ _
  refine iT (.tmp 12) ?_
  refine qQ ?_
  refine rS 2 [(4, s0 1 lh1_1.length)] ?_
  refine dQ ?_
  show XQ _ _ _ _ _ _ _ _
  refine XQ.ren (σ' := [(4, s0 1 lh1_1.length)]) (h' := [(2, .cells [ii o2] 0 3 0), (1, rc encP lh1_1 0 61 2), (0, rc encP a z0 y0 2)]) (c' := 3) [0, 1, 2] (by decide) rfl ⟨rfl, trivial⟩ ⟨⟨_, _, rfl, rfl, .inr ⟨_, _, _, _, rfl, rfl⟩⟩, ⟨_, _, rfl, rfl, .inl ⟨rfl, rwP⟩⟩, ⟨_, _, rfl, rfl, .inl ⟨rfl, rwP⟩⟩, trivial⟩ rfl ?_
  refine XQ.ret (by kernel_rfl) ?_
  cases h
  exact ⟨fun i q => (by cases q), s0 1 lh1_1.length, (by kernel_rfl), lh1_1, lh1_1.length, lh1_1.length, [(2, .cells [ii o2] 0 3 0), (1, rc encP (List.take lh1_1.length lh1_1) 0 61 2), (0, rc encP a z0 y0 2)], rfl, (by kernel_rfl), (Nat.le_refl _), (Nat.le_refl _), (by kernel_rfl), (by first | exact hR | simpa only [List.length_set] using hR)⟩
def f75_1 (m : Nat) : Nat → List (Int × Int) → Int → List (Int × Int) → Option Int
 | 0, _, _, _ => none
 | fuel + 1, a, x4_1, lh1_1 =>
  cond (decide (((lh1_1.length : Nat) : Int) > 0)) (
   cond (inRow 0 lh1_1.length) (
    (f75_2 m m a x4_1 lh1_1 ((lh1_1.length : Nat) : Int) 0 ((List.getD lh1_1 0 (0, 0)).2)).bind fun o2 =>
     (f75_3 m a lh1_1 o2).bind fun o3 =>
      f75_1 m fuel a (w64 (x4_1 + 1)) o3
   ) none
  ) (
   some (x4_1)
  )
theorem f75_1_ok (m : Nat) : ∀ (fuel : Nat) (z0 : Nat) (y0 : Nat) (a : List (Int × Int)) (x4_1 : Int) (lh1_1 : List (Int × Int)) (o : Int), f75_1 m fuel a x4_1 lh1_1 = some o → ∀ Q : QP, Q (.exit 0) [(4, ii o)] [(0, rc encP a z0 y0 2)] 1 → XL E0 34 1 fuel f75_L1 [(3, s0 1 lh1_1.length), (4, ii x4_1)] [(1, rc encP lh1_1 0 61 2), (0, rc encP a z0 y0 2)] 2 Q
 | 0, z0, y0, a, x4_1, lh1_1, o, h, Q, hQ => by cases h
 | fuel + 1, z0, y0, a, x4_1, lh1_1, o, h, Q, hQ => by
  unfold f75_1 at h
  refine XL.succ E0_ok ?_
  refine sQ ?_
  refine qQ ?_
  refine rS 3 [(3, s0 1 lh1_1.length), (4, ii x4_1), (12, .bool (decide (((lh1_1.length : Nat) : Int) > 0)))] ?_
  refine dQ ?_
  show XQ _ _ _ _ _ _ _ _
  cases b1 : (decide (((lh1_1.length : Nat) : Int) > 0) : Bool) with
  | true =>
   have h := cT b1 h
   refine iT (.tmp 12) ?_
   refine kQ ?_
   show XQ _ _ _ _ _ _ _ _
   refine XQ.block (id := 1) (by kernel_rfl) ?_
   refine qQ ?_
   refine rS 1 [(3, s0 1 lh1_1.length), (4, ii x4_1), (13, s0 1 lh1_1.length)] ?_
   cases b2 : (inRow 0 lh1_1.length : Bool) with
   | false => cases (cF b2 h)
   | true =>
    have h := cT b2 h
    refine XR.rd E0_ok [3, 4, 14] rfl (v := pp 1 (0 * 2)) (v_idx (s := 2) (x := (src 34 (.tmp 13))) (y := (src 34 (.const (ii 0)))) (b := 1) (o := 0) (len := lh1_1.length) (cap := lh1_1.length) (ik := .i64) (i := 0) (off := 0 * 2) (d := (some (path 12 14))) (by kernel_rfl) (by kernel_rfl) (by kernel_rfl) b2 (by omega)) (σ' := [(3, s0 1 lh1_1.length), (4, ii x4_1), (14, pp 1 (0 * 2))]) (by kernel_rfl) ?_
    refine rS 1 [(3, s0 1 lh1_1.length), (4, ii x4_1), (15, pp 1 (0 * 2 + 1))] ?_
    refine XR.rd E0_ok [3, 4, 16] rfl (v := ii ((List.getD lh1_1 0 (0, 0)).2)) (v_load1 encP_ok (x := (src 34 (.tmp 15))) (b := 1) (off := 0 * 2 + 1) (xs := lh1_1) (fz := 0) (e := 61) (es := 2) (d := (some (path 12 16))) (by kernel_rfl) (by kernel_rfl) (by kernel_rfl) 0 1 (0, 0) (by first | rfl | omega) (row_len (inRow_toNat b2) (by simp)) rfl rfl) (σ' := [(3, s0 1 lh1_1.length), (4, ii x4_1), (16, ii ((List.getD lh1_1 0 (0, 0)).2))]) (by kernel_rfl) ?_
    refine rT 2 [(3, s0 1 lh1_1.length), (4, ii x4_1), (5, pp 2 0)] [(2, .cells [ii ((List.getD lh1_1 0 (0, 0)).2)] 0 3 0), (1, rc encP lh1_1 0 61 2), (0, rc encP a z0 y0 2)] 3 ?_
    refine dQ ?_
    show XQ _ _ _ _ _ _ _ _
    refine sQ ?_
    refine qQ ?_
    refine rS 3 [(3, s0 1 lh1_1.length), (4, ii x4_1), (5, pp 2 0), (17, s0 1 lh1_1.length), (18, ii ((lh1_1.length : Nat) : Int)), (19, ii 0)] ?_
    refine dQ ?_
    show XQ _ _ _ _ _ _ _ _
    refine XQ.block (id := 2) (by kernel_rfl) ?_
    refine XQ.loop m (by kernel_rfl) ?_
    obtain ⟨o2, o2_h, h⟩ := bS h
    refine XL.ren (σ' := [(3, s0 1 lh1_1.length), (4, ii x4_1), (5, pp 2 0), (17, s0 1 lh1_1.length), (18, ii ((lh1_1.length : Nat) : Int)), (19, ii 0)]) (h' := [(2, .cells [ii ((List.getD lh1_1 0 (0, 0)).2)] 0 3 0), (1, rc encP lh1_1 0 61 2), (0, rc encP a z0 y0 2)]) (c' := 3) [0, 1, 2] (by decide) rfl ⟨rfl, rfl, rfl, rfl, rfl, rfl, trivial⟩ ⟨⟨_, _, rfl, rfl, .inr ⟨_, _, _, _, rfl, rfl⟩⟩, ⟨_, _, rfl, rfl, .inl ⟨rfl, rwP⟩⟩, ⟨_, _, rfl, rfl, .inl ⟨rfl, rwP⟩⟩, trivial⟩ rfl ?_
    refine XL.conv (f75_2_ok m m z0 y0 a x4_1 lh1_1 ((lh1_1.length : Nat) : Int) 0 ((List.getD lh1_1 0 (0, 0)).2) o2 o2_h _ ?_) (by first | rfl | simp)
    show XQ _ _ _ _ _ _ _ _
    refine qQ ?_
    refine rS 2 [(4, ii x4_1), (28, s0 1 lh1_1.length), (29, .func (.func 94) #[] #[pp 2 0])] ?_
    obtain ⟨o3, o3_h, h⟩ := bS h
    refine XR.call E0_ok [4, 30] rfl (K := 73) (args := [s0 1 lh1_1.length, .func (.func 94) #[] #[pp 2 0]]) (d := (some (path 12 30))) (by kernel_rfl) (f75_3_ok m z0 y0 a lh1_1 o2 o3 o3_h (fun v h' c' => v = s0 1 o3.length ∧ h' = [(2, .cells [ii o2] 0 3 0), (1, rc encP o3 0 61 2), (0, rc encP a z0 y0 2)] ∧ c' = 3) ⟨rfl, rfl, rfl⟩) ?_
    rintro _ _ _ ⟨rfl, rfl, rfl⟩
    refine XR.conv (σ' := [(4, ii x4_1), (30, s0 1 o3.length)]) (h' := [(2, .cells [ii o2] 0 3 0), (1, rc encP o3 0 61 2), (0, rc encP a z0 y0 2)]) (c' := 3) ?_ (by kernel_rfl)
    refine rS 1 [(3, s0 1 o3.length), (4, ii x4_1)] ?_
    refine dQ ?_
    show XQ _ _ _ _ _ _ _ _
    refine rQ ?_
    refine rS 3 [(3, s0 1 o3.length), (4, ii (w64 (x4_1 + 1)))] ?_
    refine dQ ?_
    show XL _ _ _ _ _ _ _ _ _
    refine XL.ren (σ' := [(3, s0 1 o3.length), (4, ii (w64 (x4_1 + 1)))]) (h' := [(1, rc encP o3 0 61 2), (0, rc encP a z0 y0 2)]) (c' := 2) [0, 1] (by decide) rfl ⟨rfl, rfl, trivial⟩ ⟨⟨_, _, rfl, rfl, .inl ⟨rfl, rwP⟩⟩, ⟨_, _, rfl, rfl, .inl ⟨rfl, rwP⟩⟩, trivial⟩ rfl ?_
    refine XL.conv (f75_1_ok m fuel z0 y0 a (w64 (x4_1 + 1)) o3 o h Q hQ) (by first | rfl | simp)
  | false =>
   have h := cF b1 h
   refine iF (.tmp 12) ?_
   refine XQ.ren (σ' := [(4, ii x4_1)]) (h' := [(0, rc encP a z0 y0 2)]) (c' := 1) [0] (by decide) rfl ⟨rfl, trivial⟩ ⟨⟨_, _, rfl, rfl, .inl ⟨rfl, rwP⟩⟩, trivial⟩ rfl ?_
   refine XQ.exit (i := 0) (by kernel_rfl) ?_
   cases h
   exact hQ
def f75 (m : Nat) (a : List (Int × Int)) : Option (Int) :=
 cond (fitsB a.length 16) (
  (f75_1 m m a 0 a).bind fun o1 =>
   some (o1)
 ) none
theorem f75_ok (m : Nat) (z0 : Nat) (y0 : Nat) (a : List (Int × Int)) (o : Int) (h : f75 m a = some o) : KC E0 75 [s0 0 a.length] [(0, rc encP a z0 y0 2)] 1 (fun v _ _ => v = ii o) := by
 refine KC.bodyN E0_ok (F := Proofs.Try.f75) (by kernel_rfl) (code := f75_C75) (by kernel_rfl) (nt := 34) (by kernel_rfl) (rs := [.tmp 2]) (by kernel_rfl) (by kernel_rfl) (σ := [(0, s0 0 a.length)]) (by kernel_rfl) ?_
 unfold f75 at h
 refine qQ ?_
 refine rS 1 [(0, s0 0 a.length)] ?_
 refine nQ id ?_
 refine rS 1 [(8, s0 0 a.length)] ?_
 cases b1 : (fitsB a.length 16 : Bool) with
 | false => cases (cF b1 h)
 | true =>
  have h := cT b1 h
  refine XR.call E0_ok [9] rfl (K := 50) (args := [s0 0 a.length]) (d := (some (path 12 9))) (by kernel_rfl) (clone50_all (xs := a) (fz := z0) (e0 := y0) (es0 := 2) (c := 1) (by kernel_rfl) (by simp) (Nat.le_refl _) b1) ?_
  rintro _ _ _ ⟨rfl, rfl, rfl⟩
  refine XR.conv (σ' := [(9, s0 2 a.length)]) (h' := [(2, rc encP a 0 61 2), (0, rc encP a z0 y0 2)]) (c' := 3) ?_ (by kernel_rfl)
  refine rS 1 [(3, s0 2 a.length)] ?_
  refine nQ id ?_
  refine rS 1 [(3, s0 2 a.length), (4, ii 0)] ?_
  refine dQ ?_
  show XQ _ _ _ _ _ _ _ _
  refine sQ ?_
  refine XQ.block (id := 0) (by kernel_rfl) ?_
  refine XQ.loop m (by kernel_rfl) ?_
  obtain ⟨o1, o1_h, h⟩ := bS h
  refine XL.ren (σ' := [(3, s0 1 a.length), (4, ii 0)]) (h' := [(1, rc encP a 0 61 2), (0, rc encP a z0 y0 2)]) (c' := 2) [0, 2] (by decide) rfl ⟨rfl, rfl, trivial⟩ ⟨⟨_, _, rfl, rfl, .inl ⟨rfl, rwP⟩⟩, ⟨_, _, rfl, rfl, .inl ⟨rfl, rwP⟩⟩, trivial⟩ rfl ?_
  refine XL.conv (f75_1_ok m m z0 y0 a 0 a o1 o1_h _ ?_) (by first | rfl | simp)
  show XQ _ _ _ _ _ _ _ _
  refine qQ ?_
  refine rS 2 [(2, ii o1)] ?_
  refine dQ ?_
  show XQ _ _ _ _ _ _ _ _
  refine XQ.ret (by kernel_rfl) ?_
  have h := Option.some.inj h
  subst h
  exact ⟨fun i q => (by cases q), ii o1, (by kernel_rfl), rfl⟩
end Go.Xm
