/- What these functions of the program compute, as functions in Lean, and the proofs that they do: vitolalaw12.same, vitolalaw12.alike, club.CheckPlan, vitolalaw12.ClubPlans. Conditions: the library's variables hold what their texts lay. -/
import Derived.Test.YtfimbmhannndaaaDoorKa
import Derived.Test.YtfimbmhannndaaaDoorZk
import Derived.Test.YtfimbmhannndaaaDoorZx
namespace Go.Xm
open Go.RowKit
set_option linter.unusedVariables false
set_option linter.unusedSimpArgs false
set_option maxRecDepth 20000
inductive Of40_1 where
 | r
 | x0
inductive Of25_1 where
 | r
 | x0
noncomputable def f47_C47 : Code := Proofs.Tryd.f47.body.getD .skip
def f47 (m : Nat) (a_Sorters : Int) (a_Tables : List (Int × Int)) : Option (Int) :=
 (f74 m a_Sorters a_Tables).bind fun r1 =>
  some (r1.2)
theorem f47_ok (m : Nat) (z0 : Nat) (y0 : Nat) (a_Sorters : Int) (a_Tables : List (Int × Int)) (o : Int) (h : f47 m a_Sorters a_Tables = some o) : KC E0 47 [.agg #[ii a_Sorters, s0 0 a_Tables.length]] [(0, rc encP a_Tables z0 y0 2)] 1 (fun v _ _ => v = ii o) := by
 refine KC.bodyN E0_ok (F := Proofs.Tryd.f47) (by kernel_rfl) (code := f47_C47) (by kernel_rfl) (nt := 11) (by kernel_rfl) (rs := [.tmp 2]) (by kernel_rfl) (by kernel_rfl) (σ := [(0, .agg #[ii a_Sorters, s0 0 a_Tables.length])]) (by kernel_rfl) ?_
 unfold f47 at h
 refine XQ.seq E0_ok (by kernel_rfl) ?_
 refine XQ.region (by kernel_rfl) ?_
 refine XR.runT E0_ok 1 2 [(1, pp 1 0)] [(1, .cells [ii a_Sorters, s0 0 a_Tables.length] 0 34 0), (0, rc encP a_Tables z0 y0 2)] 2 rfl (by kernel_rfl) ?_
 refine XR.done (by kernel_rfl) ?_
 show XQ _ _ _ _ _ _ _ _
 refine XQ.seq E0_ok (by kernel_rfl) ?_
 refine XQ.region (by kernel_rfl) ?_
 refine XR.runS E0_ok 1 1 [(6, .agg #[ii a_Sorters, s0 0 a_Tables.length])] rfl (by kernel_rfl) ?_
 obtain ⟨r1, r1_h, h⟩ := bS h
 refine XR.call E0_ok [7] rfl (K := 74) (args := [.agg #[ii a_Sorters, s0 0 a_Tables.length]]) (d := (some (path 12 7))) (by kernel_rfl) (KC.liftH (n0 := 1) (m := 1) (args0 := [.agg #[ii a_Sorters, s0 0 a_Tables.length]]) (h0 := [(0, rc encP a_Tables (z0 + ((rowC encP a_Tables).length + 1)) y0 2)]) (V := .tuple #[s0 1 r1.1.length, ii r1.2]) (V2 := .tuple #[s0 2 r1.1.length, ii r1.2]) (H := [(1, rc (encI .u64) r1.1 0 117 1)]) (H2 := [(2, rc (encI .u64) r1.1 0 117 1)]) [0] [2, 3, 1] (f74_ok m (z0 + ((rowC encP a_Tables).length + 1)) y0 a_Sorters a_Tables r1 r1_h) (by rfl) (by decide) rfl (by kernel_rfl) ⟨⟨_, _, rfl, rfl, .inl ⟨rfl, rowC_scal encP_ok _⟩⟩, trivial⟩ (by decide) (by decide) (by kernel_rfl) ⟨⟨_, _, rfl, rfl, .inl ⟨rfl, rowC_scal (encI_ok .u64) _⟩⟩, trivial⟩ (by rfl)) ?_
 rintro _ _ _ ⟨rfl, rfl, rfl⟩
 refine XR.conv (σ' := [(7, .tuple #[s0 2 r1.1.length, ii r1.2])]) (h' := [(2, rc (encI .u64) r1.1 0 117 1), (1, .cells [ii a_Sorters, s0 0 a_Tables.length] 0 34 0), (0, rc encP a_Tables z0 y0 2)]) (c' := 3) ?_ (by kernel_rfl)
 refine XR.runS E0_ok 1 5 [(4, ii r1.2)] rfl (by kernel_rfl) ?_
 refine XR.done (by kernel_rfl) ?_
 show XQ _ _ _ _ _ _ _ _
 refine XQ.seq E0_ok (by kernel_rfl) ?_
 refine XQ.region (by kernel_rfl) ?_
 refine XR.runS E0_ok 1 2 [(2, ii r1.2)] rfl (by kernel_rfl) ?_
 refine XR.done (by kernel_rfl) ?_
 show XQ _ _ _ _ _ _ _ _
 refine XQ.ret (by kernel_rfl) ?_
 have h := Option.some.inj h
 subst h
 exact ⟨fun i q => (by cases q), ii r1.2, (by kernel_rfl), rfl⟩
end Go.Xm
namespace Go.Xm
open Go.RowKit
set_option linter.unusedVariables false
set_option linter.unusedSimpArgs false
set_option maxRecDepth 20000
noncomputable def f33_C33 : Code := Proofs.Tryd.f33.body.getD .skip
noncomputable def f33_L1 : Code := lft (lft (rgt (lft (rgt (rgt (rgt f33_C33))))))
noncomputable def f33_L2 : Code := lft (lft (rgt (rgt (lft (lft (rgt (rgt f33_L1)))))))
def f33_2 (m : Nat) : Nat → Int → Int → Int → Int → Int → List (Int × Int) → Option (Int × (List (Int × Int)))
 | 0, _, _, _, _, _, _ => none
 | fuel + 1, a, b, x12_1, x6_2, x8_2, lh3_2 =>
  cond (decide (x8_2 < a)) (
   cond (decide (0 ≤ x6_2)) (
    cond ((andV .u32 (shV false .u32 b x6_2) 1) == 1) (
     cond (fitsB (lh3_2.length + 1) 16) (
      f33_2 m fuel a b x12_1 (w64 (x6_2 + 1)) (w64 (x8_2 + 1)) (lh3_2 ++ [(x12_1, x8_2)])
     ) none
    ) (
     f33_2 m fuel a b x12_1 (w64 (x6_2 + 1)) (w64 (x8_2 + 1)) lh3_2
    )
   ) none
  ) (
   some (x6_2, lh3_2)
  )

abbrev qla1 (a : Int) (b : Int) (x12_1 : Int) (x6_2 : Int) (x8_2 : Int) (t : St) : St := (0, ii a) :: (1, .int .u32 b) :: (4, pp 0 0) :: (5, pp 1 0) :: (6, ii x6_2) :: (7, ii x12_1) :: (8, ii x8_2) :: (11, ii a) :: (12, ii x12_1) :: t
theorem f33_2_ok (m : Nat) : ∀ (fuel : Nat) (a : Int) (b : Int) (x12_1 : Int) (x6_2 : Int) (x8_2 : Int) (lh3_2 : List (Int × Int)) (o : (Int × (List (Int × Int)))), f33_2 m fuel a b x12_1 x6_2 x8_2 lh3_2 = some o → ∀ Q : QP, Q (.exit 2) [(0, ii a), (1, .int .u32 b), (4, pp 0 0), (5, pp 1 0), (6, ii o.1), (11, ii a), (12, ii x12_1)] [(3, rc encP o.2 0 55 2), (2, rc encP [] 0 55 2), (1, .cells [ii a, s0 3 o.2.length] 0 34 0), (0, .cells [ii 0, s0 2 0] 0 34 0)] 4 → XL E0 39 0 fuel f33_L2 (qla1 a b x12_1 x6_2 x8_2 []) [(3, rc encP lh3_2 0 55 2), (2, rc encP [] 0 55 2), (1, .cells [ii a, s0 3 lh3_2.length] 0 34 0), (0, .cells [ii 0, s0 2 0] 0 34 0)] 4 Q
 | 0, a, b, x12_1, x6_2, x8_2, lh3_2, o, h, Q, hQ => by cases h
 | fuel + 1, a, b, x12_1, x6_2, x8_2, lh3_2, o, h, Q, hQ => by
  unfold f33_2 at h
  refine XL.succ E0_ok ?_
  refine sQ ?_
  refine qQ ?_
  refine rS 3 (qla1 a b x12_1 x6_2 x8_2 [(19, .bool (decide (x8_2 < a)))]) ?_
  refine dQ ?_
  show XQ _ _ _ _ _ _ _ _
  cases b1 : (decide (x8_2 < a) : Bool) with
  | true =>
   have h := cT b1 h
   refine iT (.tmp 19) ?_
   refine kQ ?_
   show XQ _ _ _ _ _ _ _ _
   refine sQ ?_
   refine XQ.block (id := 3) (by kernel_rfl) ?_
   refine sQ ?_
   refine qQ ?_
   refine rS 2 (qla1 a b x12_1 x6_2 x8_2 [(22, .int .u32 b), (23, ii x6_2)]) ?_
   cases b2 : (decide (0 ≤ x6_2) : Bool) with
   | false => cases (cF b2 h)
   | true =>
    have h := cT b2 h
    have e3 : insV (headI ((gsOf E0 39 (opsOf (lft (lft (lft (lft (rgt f33_L2))))))).drop 2) (trS 39 (qla1 a b x12_1 x6_2 x8_2 [(22, .int .u32 b), (23, ii x6_2)]))) (trS 39 (qla1 a b x12_1 x6_2 x8_2 [(22, .int .u32 b), (23, ii x6_2)])) [(3, rc encP lh3_2 0 55 2), (2, rc encP [] 0 55 2), (1, .cells [ii a, s0 3 lh3_2.length] 0 34 0), (0, .cells [ii 0, s0 2 0] 0 34 0)] = (match (decide (0 ≤ x6_2) : Bool) with | true => some (.int .u32 (shV false .u32 b x6_2)) | false => none) := by kernel_rfl
    refine XR.rd E0_ok [0, 1, 4, 5, 6, 7, 8, 11, 12, 24] rfl (e3.trans (by rw [b2])) (σ' := (qla1 a b x12_1 x6_2 x8_2 [(24, .int .u32 (shV false .u32 b x6_2))])) (by kernel_rfl) ?_
    refine rS 2 (qla1 a b x12_1 x6_2 x8_2 [(26, .bool ((andV .u32 (shV false .u32 b x6_2) 1) == 1))]) ?_
    refine dQ ?_
    show XQ _ _ _ _ _ _ _ _
    cases b4 : ((andV .u32 (shV false .u32 b x6_2) 1) == 1 : Bool) with
    | true =>
     have h := cT b4 h
     refine iT (.tmp 26) ?_
     refine rQ ?_
     refine rT 6 (qla1 a b x12_1 x6_2 x8_2 [(28, s0 3 lh3_2.length), (32, s0 4 1)]) [(4, .cells [ii x12_1, ii x8_2] 0 55 2), (3, rc encP lh3_2 0 55 2), (2, rc encP [] 0 55 2), (1, .cells [ii a, s0 3 lh3_2.length] 0 34 0), (0, .cells [ii 0, s0 2 0] 0 34 0)] 5 ?_
     cases b5 : (fitsB (lh3_2.length + 1) 16 : Bool) with
     | false => cases (cF b5 h)
     | true =>
      have h := cT b5 h
      refine XR.ef E0_ok [0, 1, 4, 5, 6, 7, 8, 11, 12, 33] rfl (e_append encP_ok (bytes := 16) (e := 55) (x := (src 39 (.tmp 28))) (y := (src 39 (.tmp 32))) (b := 3) (len := lh3_2.length) (cap := lh3_2.length) (xs := lh3_2) (m := 0) (ys := [(x12_1, x8_2)]) (d := (some (path 12 33))) (n' := (lh3_2 ++ [(x12_1, x8_2)]).length) (h' := [(5, rc encP (lh3_2 ++ [(x12_1, x8_2)]) 0 55 2), (4, .cells [ii x12_1, ii x8_2] 0 55 2), (2, rc encP [] 0 55 2), (1, .cells [ii a, s0 3 lh3_2.length] 0 34 0), (0, .cells [ii 0, s0 2 0] 0 34 0)]) (by kernel_rfl) (by kernel_rfl) (by kernel_rfl) (by kernel_rfl) rfl (by simp) (by simp) b5 (by simp) (by kernel_rfl)) (σ' := (qla1 a b x12_1 x6_2 x8_2 [(33, s0 5 ((lh3_2 ++ [(x12_1, x8_2)]).length))])) (by kernel_rfl) ?_
      refine rT 2 (qla1 a b x12_1 x6_2 x8_2 []) [(5, rc encP (lh3_2 ++ [(x12_1, x8_2)]) 0 55 2), (4, .cells [ii x12_1, ii x8_2] 0 55 2), (2, rc encP [] 0 55 2), (1, .cells [ii a, s0 5 ((lh3_2 ++ [(x12_1, x8_2)]).length)] 0 34 0), (0, .cells [ii 0, s0 2 0] 0 34 0)] 6 ?_
      refine dQ ?_
      show XQ _ _ _ _ _ _ _ _
      refine rQ ?_
      refine rS 3 [(0, ii a), (1, .int .u32 b), (4, pp 0 0), (5, pp 1 0), (6, ii (w64 (x6_2 + 1))), (7, ii x12_1), (8, ii x8_2), (11, ii a), (12, ii x12_1)] ?_
      refine dQ ?_
      show XQ _ _ _ _ _ _ _ _
      refine rQ ?_
      refine rS 3 [(0, ii a), (1, .int .u32 b), (4, pp 0 0), (5, pp 1 0), (6, ii (w64 (x6_2 + 1))), (7, ii x12_1), (8, ii (w64 (x8_2 + 1))), (11, ii a), (12, ii x12_1)] ?_
      refine dQ ?_
      show XL _ _ _ _ _ _ _ _ _
      refine XL.ren (σ' := [(0, ii a), (1, .int .u32 b), (4, pp 0 0), (5, pp 1 0), (6, ii (w64 (x6_2 + 1))), (7, ii x12_1), (8, ii (w64 (x8_2 + 1))), (11, ii a), (12, ii x12_1)]) (h' := [(3, rc encP (lh3_2 ++ [(x12_1, x8_2)]) 0 55 2), (2, rc encP [] 0 55 2), (1, .cells [ii a, s0 3 ((lh3_2 ++ [(x12_1, x8_2)]).length)] 0 34 0), (0, .cells [ii 0, s0 2 0] 0 34 0)]) (c' := 4) [0, 1, 2, 5] (by decide) rfl ⟨rfl, rfl, rfl, rfl, rfl, rfl, rfl, rfl, rfl, trivial⟩ ⟨⟨_, _, rfl, rfl, .inl ⟨rfl, rwP⟩⟩, ⟨_, _, rfl, rfl, .inl ⟨rfl, rwP⟩⟩, ⟨_, _, rfl, rfl, .inr ⟨_, _, _, _, rfl, rfl⟩⟩, ⟨_, _, rfl, rfl, .inr ⟨_, _, _, _, rfl, rfl⟩⟩, trivial⟩ rfl ?_
      refine XL.conv (f33_2_ok m fuel a b x12_1 (w64 (x6_2 + 1)) (w64 (x8_2 + 1)) (lh3_2 ++ [(x12_1, x8_2)]) o h Q hQ) (by first | rfl | simp)
    | false =>
     have h := cF b4 h
     refine iF (.tmp 26) ?_
     refine kQ ?_
     show XQ _ _ _ _ _ _ _ _
     refine rQ ?_
     refine rS 3 [(0, ii a), (1, .int .u32 b), (4, pp 0 0), (5, pp 1 0), (6, ii (w64 (x6_2 + 1))), (7, ii x12_1), (8, ii x8_2), (11, ii a), (12, ii x12_1)] ?_
     refine dQ ?_
     show XQ _ _ _ _ _ _ _ _
     refine rQ ?_
     refine rS 3 [(0, ii a), (1, .int .u32 b), (4, pp 0 0), (5, pp 1 0), (6, ii (w64 (x6_2 + 1))), (7, ii x12_1), (8, ii (w64 (x8_2 + 1))), (11, ii a), (12, ii x12_1)] ?_
     refine dQ ?_
     show XL _ _ _ _ _ _ _ _ _
     refine XL.ren (σ' := [(0, ii a), (1, .int .u32 b), (4, pp 0 0), (5, pp 1 0), (6, ii (w64 (x6_2 + 1))), (7, ii x12_1), (8, ii (w64 (x8_2 + 1))), (11, ii a), (12, ii x12_1)]) (h' := [(3, rc encP lh3_2 0 55 2), (2, rc encP [] 0 55 2), (1, .cells [ii a, s0 3 lh3_2.length] 0 34 0), (0, .cells [ii 0, s0 2 0] 0 34 0)]) (c' := 4) [0, 1, 2, 3] (by decide) rfl ⟨rfl, rfl, rfl, rfl, rfl, rfl, rfl, rfl, rfl, trivial⟩ ⟨⟨_, _, rfl, rfl, .inl ⟨rfl, rwP⟩⟩, ⟨_, _, rfl, rfl, .inl ⟨rfl, rwP⟩⟩, ⟨_, _, rfl, rfl, .inr ⟨_, _, _, _, rfl, rfl⟩⟩, ⟨_, _, rfl, rfl, .inr ⟨_, _, _, _, rfl, rfl⟩⟩, trivial⟩ rfl ?_
     refine XL.conv (f33_2_ok m fuel a b x12_1 (w64 (x6_2 + 1)) (w64 (x8_2 + 1)) lh3_2 o h Q hQ) (by first | rfl | simp)
  | false =>
   have h := cF b1 h
   refine iF (.tmp 19) ?_
   refine XQ.ren (σ' := [(0, ii a), (1, .int .u32 b), (4, pp 0 0), (5, pp 1 0), (6, ii x6_2), (11, ii a), (12, ii x12_1)]) (h' := [(3, rc encP lh3_2 0 55 2), (2, rc encP [] 0 55 2), (1, .cells [ii a, s0 3 lh3_2.length] 0 34 0), (0, .cells [ii 0, s0 2 0] 0 34 0)]) (c' := 4) [0, 1, 2, 3] (by decide) rfl ⟨rfl, rfl, rfl, rfl, rfl, rfl, rfl, trivial⟩ ⟨⟨_, _, rfl, rfl, .inl ⟨rfl, rwP⟩⟩, ⟨_, _, rfl, rfl, .inl ⟨rfl, rwP⟩⟩, ⟨_, _, rfl, rfl, .inr ⟨_, _, _, _, rfl, rfl⟩⟩, ⟨_, _, rfl, rfl, .inr ⟨_, _, _, _, rfl, rfl⟩⟩, trivial⟩ rfl ?_
   refine XQ.exit (i := 2) (by kernel_rfl) ?_
   cases h
   exact hQ
def f33_1 (m : Nat) : Nat → Int → Int → Int → Int → List (Int × Int) → Option (List (Int × Int))
 | 0, _, _, _, _, _ => none
 | fuel + 1, a, b, x6_1, x12_1, lh3_1 =>
  cond (decide (x12_1 < a)) (
   (f33_2 m m a b x12_1 x6_1 (w64 (x12_1 + 1)) lh3_1).bind fun o2 =>
    f33_1 m fuel a b o2.1 (w64 (x12_1 + 1)) o2.2
  ) (
   some (lh3_1)
  )
theorem f33_1_ok (m : Nat) : ∀ (fuel : Nat) (a : Int) (b : Int) (x6_1 : Int) (x12_1 : Int) (lh3_1 : List (Int × Int)) (o : (List (Int × Int))), f33_1 m fuel a b x6_1 x12_1 lh3_1 = some o → ∀ Q : QP, Q (.exit 0) [(4, pp 0 0), (5, pp 1 0)] [(3, rc encP o 0 55 2), (2, rc encP [] 0 55 2), (1, .cells [ii a, s0 3 o.length] 0 34 0), (0, .cells [ii 0, s0 2 0] 0 34 0)] 4 → XL E0 39 0 fuel f33_L1 [(0, ii a), (1, .int .u32 b), (4, pp 0 0), (5, pp 1 0), (6, ii x6_1), (11, ii a), (12, ii x12_1)] [(3, rc encP lh3_1 0 55 2), (2, rc encP [] 0 55 2), (1, .cells [ii a, s0 3 lh3_1.length] 0 34 0), (0, .cells [ii 0, s0 2 0] 0 34 0)] 4 Q
 | 0, a, b, x6_1, x12_1, lh3_1, o, h, Q, hQ => by cases h
 | fuel + 1, a, b, x6_1, x12_1, lh3_1, o, h, Q, hQ => by
  unfold f33_1 at h
  refine XL.succ E0_ok ?_
  refine qQ ?_
  refine rS 1 [(0, ii a), (1, .int .u32 b), (4, pp 0 0), (5, pp 1 0), (6, ii x6_1), (11, ii a), (12, ii x12_1), (13, .bool (decide (x12_1 < a)))] ?_
  refine dQ ?_
  show XQ _ _ _ _ _ _ _ _
  refine sQ ?_
  cases b1 : (decide (x12_1 < a) : Bool) with
  | true =>
   have h := cT b1 h
   refine iT (.tmp 13) ?_
   refine kQ ?_
   show XQ _ _ _ _ _ _ _ _
   refine sQ ?_
   refine XQ.block (id := 1) (by kernel_rfl) ?_
   refine qQ ?_
   refine rS 2 [(0, ii a), (1, .int .u32 b), (4, pp 0 0), (5, pp 1 0), (6, ii x6_1), (7, ii x12_1), (11, ii a), (12, ii x12_1)] ?_
   refine nQ id ?_
   refine rS 3 [(0, ii a), (1, .int .u32 b), (4, pp 0 0), (5, pp 1 0), (6, ii x6_1), (7, ii x12_1), (8, ii (w64 (x12_1 + 1))), (11, ii a), (12, ii x12_1)] ?_
   refine dQ ?_
   show XQ _ _ _ _ _ _ _ _
   refine XQ.block (id := 2) (by kernel_rfl) ?_
   refine XQ.loop m (by kernel_rfl) ?_
   obtain ⟨o2, o2_h, h⟩ := bS h
   refine XL.ren (σ' := [(0, ii a), (1, .int .u32 b), (4, pp 0 0), (5, pp 1 0), (6, ii x6_1), (7, ii x12_1), (8, ii (w64 (x12_1 + 1))), (11, ii a), (12, ii x12_1)]) (h' := [(3, rc encP lh3_1 0 55 2), (2, rc encP [] 0 55 2), (1, .cells [ii a, s0 3 lh3_1.length] 0 34 0), (0, .cells [ii 0, s0 2 0] 0 34 0)]) (c' := 4) [0, 1, 2, 3] (by decide) rfl ⟨rfl, rfl, rfl, rfl, rfl, rfl, rfl, rfl, rfl, trivial⟩ ⟨⟨_, _, rfl, rfl, .inl ⟨rfl, rwP⟩⟩, ⟨_, _, rfl, rfl, .inl ⟨rfl, rwP⟩⟩, ⟨_, _, rfl, rfl, .inr ⟨_, _, _, _, rfl, rfl⟩⟩, ⟨_, _, rfl, rfl, .inr ⟨_, _, _, _, rfl, rfl⟩⟩, trivial⟩ rfl ?_
   refine XL.conv (f33_2_ok m m a b x12_1 x6_1 (w64 (x12_1 + 1)) lh3_1 o2 o2_h _ ?_) (by first | rfl | simp)
   show XQ _ _ _ _ _ _ _ _
   refine rQ ?_
   refine rS 2 [(0, ii a), (1, .int .u32 b), (4, pp 0 0), (5, pp 1 0), (6, ii o2.1), (11, ii a), (12, ii (w64 (x12_1 + 1)))] ?_
   refine dQ ?_
   show XL _ _ _ _ _ _ _ _ _
   refine XL.ren (σ' := [(0, ii a), (1, .int .u32 b), (4, pp 0 0), (5, pp 1 0), (6, ii o2.1), (11, ii a), (12, ii (w64 (x12_1 + 1)))]) (h' := [(3, rc encP o2.2 0 55 2), (2, rc encP [] 0 55 2), (1, .cells [ii a, s0 3 o2.2.length] 0 34 0), (0, .cells [ii 0, s0 2 0] 0 34 0)]) (c' := 4) [0, 1, 2, 3] (by decide) rfl ⟨rfl, rfl, rfl, rfl, rfl, rfl, rfl, trivial⟩ ⟨⟨_, _, rfl, rfl, .inl ⟨rfl, rwP⟩⟩, ⟨_, _, rfl, rfl, .inl ⟨rfl, rwP⟩⟩, ⟨_, _, rfl, rfl, .inr ⟨_, _, _, _, rfl, rfl⟩⟩, ⟨_, _, rfl, rfl, .inr ⟨_, _, _, _, rfl, rfl⟩⟩, trivial⟩ rfl ?_
   refine XL.conv (f33_1_ok m fuel a b o2.1 (w64 (x12_1 + 1)) o2.2 o h Q hQ) (by first | rfl | simp)
  | false =>
   have h := cF b1 h
   refine iF (.tmp 13) ?_
   refine XQ.ren (σ' := [(4, pp 0 0), (5, pp 1 0)]) (h' := [(3, rc encP lh3_1 0 55 2), (2, rc encP [] 0 55 2), (1, .cells [ii a, s0 3 lh3_1.length] 0 34 0), (0, .cells [ii 0, s0 2 0] 0 34 0)]) (c' := 4) [0, 1, 2, 3] (by decide) rfl ⟨rfl, rfl, trivial⟩ ⟨⟨_, _, rfl, rfl, .inl ⟨rfl, rwP⟩⟩, ⟨_, _, rfl, rfl, .inl ⟨rfl, rwP⟩⟩, ⟨_, _, rfl, rfl, .inr ⟨_, _, _, _, rfl, rfl⟩⟩, ⟨_, _, rfl, rfl, .inr ⟨_, _, _, _, rfl, rfl⟩⟩, trivial⟩ rfl ?_
   refine XQ.exit (i := 0) (by kernel_rfl) ?_
   cases h
   exact hQ
def f33 (m : Nat) (a : Int) (b : Int) : Option (Int × (List (Int × Int))) :=
 (f33_1 m m a b 0 0 []).bind fun o1 =>
  some (a, o1)
theorem f33_ok (m : Nat) (a : Int) (b : Int) (o : Int × (List (Int × Int))) (h : f33 m a b = some o) : KC E0 33 [ii a, .int .u32 b] [] 0 (fun v h' c' => v = .agg #[ii o.1, s0 0 o.2.length] ∧ h' = [(0, rc encP o.2 0 55 2)] ∧ c' = 1) := by
 refine KC.renO ?_
 refine KC.bodyN E0_ok (F := Proofs.Tryd.f33) (by kernel_rfl) (code := f33_C33) (by kernel_rfl) (nt := 39) (by kernel_rfl) (rs := [.cell 4 34]) (by kernel_rfl) (by kernel_rfl) (σ := [(0, ii a), (1, .int .u32 b)]) (by kernel_rfl) ?_
 unfold f33 at h
 refine qQ ?_
 refine rT 1 [(0, ii a), (1, .int .u32 b), (4, pp 0 0)] [(0, .cells [ii 0, .slice none 0 0] 0 34 0)] 1 ?_
 refine dQ ?_
 show XQ _ _ _ _ _ _ _ _
 refine XQ.ghost 55 2 rfl (σ' := [(0, ii a), (1, .int .u32 b), (4, pp 0 0)]) (h' := [(0, .cells [ii 0, s0 1 0] 0 34 0)]) ⟨rfl, rfl, rfl, trivial⟩ ⟨⟨_, rfl, .inr ⟨_, _, _, _, rfl, rfl⟩⟩, trivial⟩ ?_
 refine XQ.conv (σ' := [(0, ii a), (1, .int .u32 b), (4, pp 0 0)]) (h' := [(1, rc encP [] 0 55 2), (0, .cells [ii 0, s0 1 0] 0 34 0)]) (c' := 2) ?_ (by kernel_rfl)
 refine qQ ?_
 refine rT 4 [(0, ii a), (1, .int .u32 b), (4, pp 0 0), (5, pp 2 0)] [(2, .cells [ii a, .slice none 0 0] 0 34 0), (1, rc encP [] 0 55 2), (0, .cells [ii 0, s0 1 0] 0 34 0)] 3 ?_
 refine dQ ?_
 show XQ _ _ _ _ _ _ _ _
 refine XQ.ghost 55 2 rfl (σ' := [(0, ii a), (1, .int .u32 b), (4, pp 0 0), (5, pp 2 0)]) (h' := [(2, .cells [ii a, s0 3 0] 0 34 0), (1, rc encP [] 0 55 2), (0, .cells [ii 0, s0 1 0] 0 34 0)]) ⟨rfl, rfl, rfl, rfl, trivial⟩ ⟨⟨_, rfl, .inr ⟨_, _, _, _, rfl, rfl⟩⟩, ⟨_, rfl, .inl rfl⟩, ⟨_, rfl, .inl rfl⟩, trivial⟩ ?_
 refine XQ.conv (σ' := [(0, ii a), (1, .int .u32 b), (4, pp 0 0), (5, pp 2 0)]) (h' := [(3, rc encP [] 0 55 2), (2, .cells [ii a, s0 3 0] 0 34 0), (1, rc encP [] 0 55 2), (0, .cells [ii 0, s0 1 0] 0 34 0)]) (c' := 4) ?_ (by kernel_rfl)
 refine qQ ?_
 refine rS 1 [(0, ii a), (1, .int .u32 b), (4, pp 0 0), (5, pp 2 0), (6, ii 0)] ?_
 refine dQ ?_
 show XQ _ _ _ _ _ _ _ _
 refine sQ ?_
 refine qQ ?_
 refine rS 2 [(0, ii a), (1, .int .u32 b), (4, pp 0 0), (5, pp 2 0), (6, ii 0), (11, ii a), (12, ii 0)] ?_
 refine dQ ?_
 show XQ _ _ _ _ _ _ _ _
 refine XQ.block (id := 0) (by kernel_rfl) ?_
 refine XQ.loop m (by kernel_rfl) ?_
 obtain ⟨o1, o1_h, h⟩ := bS h
 refine XL.ren (σ' := [(0, ii a), (1, .int .u32 b), (4, pp 0 0), (5, pp 1 0), (6, ii 0), (11, ii a), (12, ii 0)]) (h' := [(3, rc encP [] 0 55 2), (2, rc encP [] 0 55 2), (1, .cells [ii a, s0 3 0] 0 34 0), (0, .cells [ii 0, s0 2 0] 0 34 0)]) (c' := 4) [0, 2, 1, 3] (by decide) rfl ⟨rfl, rfl, rfl, rfl, rfl, rfl, rfl, trivial⟩ ⟨⟨_, _, rfl, rfl, .inl ⟨rfl, rwP⟩⟩, ⟨_, _, rfl, rfl, .inl ⟨rfl, rwP⟩⟩, ⟨_, _, rfl, rfl, .inr ⟨_, _, _, _, rfl, rfl⟩⟩, ⟨_, _, rfl, rfl, .inr ⟨_, _, _, _, rfl, rfl⟩⟩, trivial⟩ rfl ?_
 refine XL.conv (f33_1_ok m m a b 0 0 [] o1 o1_h _ ?_) (by first | rfl | simp)
 show XQ _ _ _ _ _ _ _ _
 refine qQ ?_
 refine rT 2 [(4, pp 0 0)] [(3, rc encP o1 0 55 2), (2, rc encP [] 0 55 2), (1, .cells [ii a, s0 3 o1.length] 0 34 0), (0, .cells [ii a, s0 3 o1.length] 0 34 0)] 4 ?_
 refine dQ ?_
 show XQ _ _ _ _ _ _ _ _
 refine XQ.ren (σ' := [(4, pp 0 0)]) (h' := [(1, rc encP o1 0 55 2), (0, .cells [ii a, s0 1 o1.length] 0 34 0)]) (c' := 2) [0, 3] (by decide) rfl ⟨rfl, trivial⟩ ⟨⟨_, _, rfl, rfl, .inl ⟨rfl, rwP⟩⟩, ⟨_, _, rfl, rfl, .inr ⟨_, _, _, _, rfl, rfl⟩⟩, trivial⟩ rfl ?_
 refine XQ.ret (by kernel_rfl) ?_
 have h := Option.some.inj h
 subst h
 exact ⟨fun i q => (by cases q), .agg #[ii a, s0 1 o1.length], (by kernel_rfl), [1], .agg #[ii a, s0 0 o1.length], [(0, rc encP o1 0 55 2)], (by decide), rfl, (by kernel_rfl), ⟨⟨_, _, rfl, rfl, .inl ⟨rfl, rwP⟩⟩, trivial⟩, (by kernel_rfl), (by kernel_rfl), rfl⟩
noncomputable def f36_C36 : Code := Proofs.Tryd.f36.body.getD .skip
def f36 (m : Nat) (a_Sorters : Int) (a_Tables : Int) (b : Int) : Option (Int × (List (Int × Int))) :=
 cond (b != 0) (
  (f33 m (w64 (1 + (Int.tmod (w64 a_Sorters) b))) a_Tables).bind fun r1 =>
   some (r1.1, r1.2)
 ) none
theorem f36_ok (m : Nat) (a_Sorters : Int) (a_Tables : Int) (b : Int) (o : Int × (List (Int × Int))) (h : f36 m a_Sorters a_Tables b = some o) : KC E0 36 [.agg #[.int .u8 a_Sorters, .int .u32 a_Tables], ii b] [] 0 (fun v h' c' => v = .agg #[ii o.1, s0 0 o.2.length] ∧ h' = [(0, rc encP o.2 0 55 2)] ∧ c' = 1) := by
 refine KC.renO ?_
 refine KC.bodyN E0_ok (F := Proofs.Tryd.f36) (by kernel_rfl) (code := f36_C36) (by kernel_rfl) (nt := 14) (by kernel_rfl) (rs := [.cell 4 34]) (by kernel_rfl) (by kernel_rfl) (σ := [(0, .agg #[.int .u8 a_Sorters, .int .u32 a_Tables]), (1, ii b)]) (by kernel_rfl) ?_
 unfold f36 at h
 refine qQ ?_
 refine rT 2 [(1, ii b), (2, pp 0 0), (4, pp 1 0)] [(1, .cells [ii 0, .slice none 0 0] 0 34 0), (0, .cells [.int .u8 a_Sorters, .int .u32 a_Tables] 0 53 0)] 2 ?_
 refine dQ ?_
 show XQ _ _ _ _ _ _ _ _
 refine XQ.ghost 55 2 rfl (σ' := [(1, ii b), (2, pp 0 0), (4, pp 1 0)]) (h' := [(1, .cells [ii 0, s0 2 0] 0 34 0), (0, .cells [.int .u8 a_Sorters, .int .u32 a_Tables] 0 53 0)]) ⟨rfl, rfl, rfl, trivial⟩ ⟨⟨_, rfl, .inr ⟨_, _, _, _, rfl, rfl⟩⟩, ⟨_, rfl, .inl rfl⟩, trivial⟩ ?_
 refine XQ.conv (σ' := [(1, ii b), (2, pp 0 0), (4, pp 1 0)]) (h' := [(2, rc encP [] 0 55 2), (1, .cells [ii 0, s0 2 0] 0 34 0), (0, .cells [.int .u8 a_Sorters, .int .u32 a_Tables] 0 53 0)]) (c' := 3) ?_ (by kernel_rfl)
 refine sQ ?_
 refine XQ.tail E0_ok 8 (by kernel_rfl) (by kernel_rfl) ?_
 refine XS.step E0_ok 4 rfl [2, 4, 7, 8] rfl (σ' := [(2, pp 0 0), (4, pp 1 0), (7, ii (w64 a_Sorters)), (8, ii b)]) (by kernel_rfl) ?_
 cases b1 : (b != 0 : Bool) with
 | false => cases (cF b1 h)
 | true =>
  have h := cT b1 h
  have e2 : insV (headI ((gsOf E0 14 (opsOf (lft (rgt f36_C36)))).drop 4) (trS 14 [(2, pp 0 0), (4, pp 1 0), (7, ii (w64 a_Sorters)), (8, ii b)])) (trS 14 [(2, pp 0 0), (4, pp 1 0), (7, ii (w64 a_Sorters)), (8, ii b)]) [(2, rc encP [] 0 55 2), (1, .cells [ii 0, s0 2 0] 0 34 0), (0, .cells [.int .u8 a_Sorters, .int .u32 a_Tables] 0 53 0)] = (match (b != 0 : Bool) with | true => some (ii (Int.tmod (w64 a_Sorters) b)) | false => none) := by kernel_rfl
  refine XS.rd E0_ok rfl [2, 4, 9] rfl (e2.trans (by rw [b1])) (σ' := [(2, pp 0 0), (4, pp 1 0), (9, ii (Int.tmod (w64 a_Sorters) b))]) (by kernel_rfl) ?_
  refine XS.step E0_ok 3 rfl [4, 10, 12] rfl (σ' := [(4, pp 1 0), (10, ii (w64 (1 + (Int.tmod (w64 a_Sorters) b)))), (12, .int .u32 a_Tables)]) (by kernel_rfl) ?_
  refine XS.done (by kernel_rfl) ?_
  obtain ⟨r1, r1_h, h⟩ := bS h
  refine XR.call E0_ok [4, 13] rfl (K := 33) (args := [ii (w64 (1 + (Int.tmod (w64 a_Sorters) b))), .int .u32 a_Tables]) (d := (some (path 12 13))) (by kernel_rfl) (KC.lift (V2 := .agg #[ii r1.1, s0 3 r1.2.length]) (H2 := [(3, rc encP r1.2 0 55 2)]) [1, 2, 3, 0] (f33_ok m (w64 (1 + (Int.tmod (w64 a_Sorters) b))) a_Tables r1 r1_h) rfl (by decide) (by decide) (by kernel_rfl) ⟨⟨_, _, rfl, rfl, .inl ⟨rfl, rwP⟩⟩, trivial⟩ (by rfl)) ?_
  rintro _ _ _ ⟨rfl, rfl, rfl⟩
  refine XR.conv (σ' := [(4, pp 1 0), (13, .agg #[ii r1.1, s0 3 r1.2.length])]) (h' := [(3, rc encP r1.2 0 55 2), (2, rc encP [] 0 55 2), (1, .cells [ii 0, s0 2 0] 0 34 0), (0, .cells [.int .u8 a_Sorters, .int .u32 a_Tables] 0 53 0)]) (c' := 4) ?_ (by kernel_rfl)
  refine rT 1 [(4, pp 1 0)] [(3, rc encP r1.2 0 55 2), (2, rc encP [] 0 55 2), (1, .cells [ii r1.1, s0 3 r1.2.length] 0 34 0), (0, .cells [.int .u8 a_Sorters, .int .u32 a_Tables] 0 53 0)] 4 ?_
  refine dQ ?_
  show XQ _ _ _ _ _ _ _ _
  refine XQ.ren (σ' := [(4, pp 0 0)]) (h' := [(1, rc encP r1.2 0 55 2), (0, .cells [ii r1.1, s0 1 r1.2.length] 0 34 0)]) (c' := 2) [1, 3] (by decide) rfl ⟨rfl, trivial⟩ ⟨⟨_, _, rfl, rfl, .inl ⟨rfl, rwP⟩⟩, ⟨_, _, rfl, rfl, .inr ⟨_, _, _, _, rfl, rfl⟩⟩, trivial⟩ rfl ?_
  refine XQ.ret (by kernel_rfl) ?_
  have h := Option.some.inj h
  subst h
  exact ⟨fun i q => (by cases q), .agg #[ii r1.1, s0 1 r1.2.length], (by kernel_rfl), [1], .agg #[ii r1.1, s0 0 r1.2.length], [(0, rc encP r1.2 0 55 2)], (by decide), rfl, (by kernel_rfl), ⟨⟨_, _, rfl, rfl, .inl ⟨rfl, rwP⟩⟩, trivial⟩, (by kernel_rfl), (by kernel_rfl), rfl⟩
inductive Of38_1 where
 | r (x4_r1 : Int)
 | x0
inductive Of84_1 where
 | r (x4_r1 : Int)
 | x0
inductive Of39_1 where
 | r
 | x0
end Go.Xm
namespace Go.Xm
open Go.RowKit
set_option linter.unusedVariables false
set_option linter.unusedSimpArgs false
set_option maxRecDepth 20000
inductive Of8_6 where
 | r
 | x10 (x4_x106 : Int) (x17_x106 : Int) (xh0_0_x106 : Int) (lh1_x106 : List Int) (xh2_0_x106 : Int) (lh3_x106 : List (Int × Int)) (lh4_x106 : List (Int × Int))
inductive Of8_7 where
 | r
 | x12
end Go.Xm
