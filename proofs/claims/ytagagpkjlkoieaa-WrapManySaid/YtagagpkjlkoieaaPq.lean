/- What these functions of the program compute, as functions in Lean, and the proofs that they do: vitolalaw05.marks, slices.Index[[]int,int]. Conditions: none. -/
import Derived.Test.YtagagpkjlkoieaaPc
namespace Go.Xm
open Go.RowKit
set_option linter.unusedVariables false
set_option linter.unusedSimpArgs false
set_option maxRecDepth 20000

/-! vitola/vitolalaw05.marks -/
noncomputable def f46_C46 : Code := Proofs.Try.f46.body.getD .skip
noncomputable def f46_L1 : Code := lft (lft (rgt (lft (rgt (rgt (rgt f46_C46))))))

def f46_1 (m : Nat) : Nat → Int → Int → Int → Int → Int → List Int → Option (List Int)
 | 0, _, _, _, _, _, _ => none
 | fuel + 1, a_Marks, a_Step, a_Turns, x4_1, x7_1, lh1_1 =>
  cond (decide (x7_1 < a_Turns)) (
   cond (fitsB (lh1_1.length + 1) 8) (
    cond (a_Marks != 0) (
     f46_1 m fuel a_Marks a_Step a_Turns (Int.tmod (w64 (x4_1 + a_Step)) a_Marks) (w64 (x7_1 + 1)) (lh1_1 ++ [x4_1])
    ) none
   ) none
  ) (
   some (lh1_1)
  )

theorem f46_1_ok (m : Nat) : ∀ (fuel : Nat) (a_Marks : Int) (a_Step : Int) (a_Turns : Int) (x4_1 : Int) (x7_1 : Int) (lh1_1 : List Int) (o : (List Int)), f46_1 m fuel a_Marks a_Step a_Turns x4_1 x7_1 lh1_1 = some o → ∀ Q : QP, Q (.exit 0) [(3, s0 0 o.length)] [(0, rc (encI .i64) o 0 3 1)] 1 → XL E0 22 0 fuel f46_L1 [(1, pp 0 0), (3, s0 1 lh1_1.length), (4, ii x4_1), (6, ii a_Turns), (7, ii x7_1)] [(1, rc (encI .i64) lh1_1 0 3 1), (0, .cells [ii a_Marks, ii a_Step, ii a_Turns] 0 23 0)] 2 Q
 | 0, a_Marks, a_Step, a_Turns, x4_1, x7_1, lh1_1, o, h, Q, hQ => by cases h
 | fuel + 1, a_Marks, a_Step, a_Turns, x4_1, x7_1, lh1_1, o, h, Q, hQ => by
  unfold f46_1 at h
  refine XL.succ E0_ok ?_
  refine XQ.seq E0_ok (by kernel_rfl) ?_
  refine XQ.region (by kernel_rfl) ?_
  refine XR.runS E0_ok 1 1 [(1, pp 0 0), (3, s0 1 lh1_1.length), (4, ii x4_1), (6, ii a_Turns), (7, ii x7_1), (8, .bool (decide (x7_1 < a_Turns)))] rfl (by kernel_rfl) ?_
  refine XR.done (by kernel_rfl) ?_
  show XQ _ _ _ _ _ _ _ _
  refine XQ.seq E0_ok (by kernel_rfl) ?_
  cases b1 : (decide (x7_1 < a_Turns) : Bool) with
  | true =>
   have h := cT b1 h
   refine XQ.cond (s := (.tmp 8)) (b := true) (by kernel_rfl) (by kernel_rfl) (fun _ => ?_) (fun q => by cases q)
   refine XQ.skip (by kernel_rfl) ?_
   show XQ _ _ _ _ _ _ _ _
   refine XQ.seq E0_ok (by kernel_rfl) ?_
   refine XQ.block (id := 1) (by kernel_rfl) ?_
   refine XQ.seq E0_ok (by kernel_rfl) ?_
   refine XQ.region (by kernel_rfl) ?_
   refine XR.runT E0_ok 1 3 [(1, pp 0 0), (4, ii x4_1), (6, ii a_Turns), (7, ii x7_1), (9, s0 1 lh1_1.length), (11, s0 2 1)] [(2, .cells [ii x4_1] 0 3 1), (1, rc (encI .i64) lh1_1 0 3 1), (0, .cells [ii a_Marks, ii a_Step, ii a_Turns] 0 23 0)] 3 rfl (by kernel_rfl) ?_
   cases b2 : (fitsB (lh1_1.length + 1) 8 : Bool) with
   | false => cases (cF b2 h)
   | true =>
    have h := cT b2 h
    refine XR.ef E0_ok [1, 4, 6, 7, 12] rfl (e_append (encI_ok .i64) (bytes := 8) (e := 3) (x := (src 22 (.tmp 9))) (y := (src 22 (.tmp 11))) (b := 1) (len := lh1_1.length) (cap := lh1_1.length) (xs := lh1_1) (m := 0) (ys := [x4_1]) (d := (some (path 12 12))) (n' := (lh1_1 ++ [x4_1]).length) (h' := [(3, rc (encI .i64) (lh1_1 ++ [x4_1]) 0 3 1), (2, .cells [ii x4_1] 0 3 1), (0, .cells [ii a_Marks, ii a_Step, ii a_Turns] 0 23 0)]) (by kernel_rfl) (by kernel_rfl) (by kernel_rfl) (by kernel_rfl) rfl (by simp) (by simp) b2 (by simp) (by kernel_rfl)) (σ' := [(1, pp 0 0), (4, ii x4_1), (6, ii a_Turns), (7, ii x7_1), (12, s0 3 ((lh1_1 ++ [x4_1]).length))]) (by kernel_rfl) ?_
    refine XR.runS E0_ok 1 1 [(1, pp 0 0), (3, s0 3 ((lh1_1 ++ [x4_1]).length)), (4, ii x4_1), (6, ii a_Turns), (7, ii x7_1)] rfl (by kernel_rfl) ?_
    refine XR.done (by kernel_rfl) ?_
    show XQ _ _ _ _ _ _ _ _
    refine XQ.region (by kernel_rfl) ?_
    refine XR.runS E0_ok 1 6 [(1, pp 0 0), (3, s0 3 ((lh1_1 ++ [x4_1]).length)), (6, ii a_Turns), (7, ii x7_1), (16, ii (w64 (x4_1 + a_Step))), (18, ii a_Marks)] rfl (by kernel_rfl) ?_
    cases b3 : (a_Marks != 0 : Bool) with
    | false => cases (cF b3 h)
    | true =>
     have h := cT b3 h
     have e4 : insV (headI ((gsOf E0 22 (opsOf (rgt (lft (lft (rgt (rgt f46_L1))))))).drop 6) (trS 22 [(1, pp 0 0), (3, s0 3 ((lh1_1 ++ [x4_1]).length)), (6, ii a_Turns), (7, ii x7_1), (16, ii (w64 (x4_1 + a_Step))), (18, ii a_Marks)])) (trS 22 [(1, pp 0 0), (3, s0 3 ((lh1_1 ++ [x4_1]).length)), (6, ii a_Turns), (7, ii x7_1), (16, ii (w64 (x4_1 + a_Step))), (18, ii a_Marks)]) [(3, rc (encI .i64) (lh1_1 ++ [x4_1]) 0 3 1), (2, .cells [ii x4_1] 0 3 1), (0, .cells [ii a_Marks, ii a_Step, ii a_Turns] 0 23 0)] = (match (a_Marks != 0 : Bool) with | true => some (ii (Int.tmod (w64 (x4_1 + a_Step)) a_Marks)) | false => none) := by kernel_rfl
     refine XR.rd E0_ok [1, 3, 6, 7, 19] rfl (e4.trans (by rw [b3])) (σ' := [(1, pp 0 0), (3, s0 3 ((lh1_1 ++ [x4_1]).length)), (6, ii a_Turns), (7, ii x7_1), (19, ii (Int.tmod (w64 (x4_1 + a_Step)) a_Marks))]) (by kernel_rfl) ?_
     refine XR.runS E0_ok 1 1 [(1, pp 0 0), (3, s0 3 ((lh1_1 ++ [x4_1]).length)), (4, ii (Int.tmod (w64 (x4_1 + a_Step)) a_Marks)), (6, ii a_Turns), (7, ii x7_1)] rfl (by kernel_rfl) ?_
     refine XR.done (by kernel_rfl) ?_
     show XQ _ _ _ _ _ _ _ _
     refine XQ.region (by kernel_rfl) ?_
     refine XR.runS E0_ok 1 2 [(1, pp 0 0), (3, s0 3 ((lh1_1 ++ [x4_1]).length)), (4, ii (Int.tmod (w64 (x4_1 + a_Step)) a_Marks)), (6, ii a_Turns), (7, ii (w64 (x7_1 + 1)))] rfl (by kernel_rfl) ?_
     refine XR.done (by kernel_rfl) ?_
     show XL _ _ _ _ _ _ _ _ _
     refine XL.ren (σ' := [(1, pp 0 0), (3, s0 1 ((lh1_1 ++ [x4_1]).length)), (4, ii (Int.tmod (w64 (x4_1 + a_Step)) a_Marks)), (6, ii a_Turns), (7, ii (w64 (x7_1 + 1)))]) (h' := [(1, rc (encI .i64) (lh1_1 ++ [x4_1]) 0 3 1), (0, .cells [ii a_Marks, ii a_Step, ii a_Turns] 0 23 0)]) (c' := 2) [0, 3] (by decide) rfl ⟨by kernel_rfl, by kernel_rfl, by kernel_rfl, by kernel_rfl, by kernel_rfl, trivial⟩ ⟨⟨_, _, rfl, rfl, .inl ⟨rfl, rowC_scal (encI_ok .i64) _⟩⟩, ⟨_, _, rfl, rfl, .inr ⟨_, _, _, _, rfl, rfl⟩⟩, trivial⟩ rfl ?_
     refine XL.conv (f46_1_ok m fuel a_Marks a_Step a_Turns (Int.tmod (w64 (x4_1 + a_Step)) a_Marks) (w64 (x7_1 + 1)) (lh1_1 ++ [x4_1]) o h Q hQ) (by first | rfl | simp)
  | false =>
   have h := cF b1 h
   refine XQ.cond (s := (.tmp 8)) (b := false) (by kernel_rfl) (by kernel_rfl) (fun q => by cases q) (fun _ => ?_)
   refine XQ.ren (σ' := [(3, s0 0 lh1_1.length)]) (h' := [(0, rc (encI .i64) lh1_1 0 3 1)]) (c' := 1) [1] (by decide) rfl ⟨by kernel_rfl, trivial⟩ ⟨⟨_, _, rfl, rfl, .inl ⟨rfl, rowC_scal (encI_ok .i64) _⟩⟩, trivial⟩ rfl ?_
   refine XQ.exit (i := 0) (by kernel_rfl) ?_
   cases h
   exact hQ

def f46 (m : Nat) (a_Marks : Int) (a_Step : Int) (a_Turns : Int) : Option (List Int) :=
 (f46_1 m m a_Marks a_Step a_Turns 0 0 []).bind fun o1 =>
  some (o1)

theorem f46_ok (m : Nat) (a_Marks : Int) (a_Step : Int) (a_Turns : Int) (o : List Int) (h : f46 m a_Marks a_Step a_Turns = some o) : KC E0 46 [.agg #[ii a_Marks, ii a_Step, ii a_Turns]] [] 0 (fun v h' c' => v = s0 0 o.length ∧ h' = [(0, rc (encI .i64) o 0 3 1)] ∧ c' = 1) := by
 refine KC.bodyN E0_ok (F := Proofs.Try.f46) (by kernel_rfl) (code := f46_C46) (by kernel_rfl) (nt := 22) (by kernel_rfl) (rs := [.tmp 2]) (by kernel_rfl) (by kernel_rfl) (σ := [(0, .agg #[ii a_Marks, ii a_Step, ii a_Turns])]) (by kernel_rfl) ?_
 unfold f46 at h
 refine XQ.seq E0_ok (by kernel_rfl) ?_
 refine XQ.region (by kernel_rfl) ?_
 refine XR.runT E0_ok 1 2 [(1, pp 0 0)] [(0, .cells [ii a_Marks, ii a_Step, ii a_Turns] 0 23 0)] 1 rfl (by kernel_rfl) ?_
 refine XR.done (by kernel_rfl) ?_
 show XQ _ _ _ _ _ _ _ _
 refine XQ.seq E0_ok (by kernel_rfl) ?_
 refine XQ.region (by kernel_rfl) ?_
 refine XR.runS E0_ok 1 1 [(1, pp 0 0), (3, .slice none 0 0)] rfl (by kernel_rfl) ?_
 refine XR.done (by kernel_rfl) ?_
 show XQ _ _ _ _ _ _ _ _
 refine XQ.ghost 3 1 rfl (σ' := [(1, pp 0 0), (3, s0 1 0)]) (h' := [(0, .cells [ii a_Marks, ii a_Step, ii a_Turns] 0 23 0)]) ⟨by kernel_rfl, by kernel_rfl, trivial⟩ ⟨⟨_, rfl, .inl rfl⟩, trivial⟩ ?_
 refine XQ.conv (σ' := [(1, pp 0 0), (3, s0 1 0)]) (h' := [(1, rc (encI .i64) [] 0 3 1), (0, .cells [ii a_Marks, ii a_Step, ii a_Turns] 0 23 0)]) (c' := 2) ?_ (by kernel_rfl)
 refine XQ.seq E0_ok (by kernel_rfl) ?_
 refine XQ.region (by kernel_rfl) ?_
 refine XR.runS E0_ok 1 1 [(1, pp 0 0), (3, s0 1 0), (4, ii 0)] rfl (by kernel_rfl) ?_
 refine XR.done (by kernel_rfl) ?_
 show XQ _ _ _ _ _ _ _ _
 refine XQ.seq E0_ok (by kernel_rfl) ?_
 refine XQ.seq E0_ok (by kernel_rfl) ?_
 refine XQ.region (by kernel_rfl) ?_
 refine XR.runS E0_ok 1 3 [(1, pp 0 0), (3, s0 1 0), (4, ii 0), (6, ii a_Turns), (7, ii 0)] rfl (by kernel_rfl) ?_
 refine XR.done (by kernel_rfl) ?_
 show XQ _ _ _ _ _ _ _ _
 refine XQ.block (id := 0) (by kernel_rfl) ?_
 refine XQ.loop m (by kernel_rfl) ?_
 obtain ⟨o1, o1_h, h⟩ := bS h
 refine XL.ren (σ' := [(1, pp 0 0), (3, s0 1 0), (4, ii 0), (6, ii a_Turns), (7, ii 0)]) (h' := [(1, rc (encI .i64) [] 0 3 1), (0, .cells [ii a_Marks, ii a_Step, ii a_Turns] 0 23 0)]) (c' := 2) [0, 1] (by decide) rfl ⟨by kernel_rfl, by kernel_rfl, by kernel_rfl, by kernel_rfl, by kernel_rfl, trivial⟩ ⟨⟨_, _, rfl, rfl, .inl ⟨rfl, rowC_scal (encI_ok .i64) _⟩⟩, ⟨_, _, rfl, rfl, .inr ⟨_, _, _, _, rfl, rfl⟩⟩, trivial⟩ rfl ?_
 refine XL.conv (f46_1_ok m m a_Marks a_Step a_Turns 0 0 [] o1 o1_h _ ?_) (by first | rfl | simp)
 show XQ _ _ _ _ _ _ _ _
 refine XQ.seq E0_ok (by kernel_rfl) ?_
 refine XQ.region (by kernel_rfl) ?_
 refine XR.runS E0_ok 1 2 [(2, s0 0 o1.length)] rfl (by kernel_rfl) ?_
 refine XR.done (by kernel_rfl) ?_
 show XQ _ _ _ _ _ _ _ _
 refine XQ.ren (σ' := [(2, s0 0 o1.length)]) (h' := [(0, rc (encI .i64) o1 0 3 1)]) (c' := 1) [0] (by decide) rfl ⟨by kernel_rfl, trivial⟩ ⟨⟨_, _, rfl, rfl, .inl ⟨rfl, rowC_scal (encI_ok .i64) _⟩⟩, trivial⟩ rfl ?_
 refine XQ.ret (by kernel_rfl) ?_
 have h := Option.some.inj h
 subst h
 exact ⟨fun i q => (by cases q), s0 0 o1.length, (by kernel_rfl), (by kernel_rfl), (by kernel_rfl), rfl⟩

/-! slices.Index[[]int,int] -/
inductive Of54_1 where
 | r (x4_r1 : Int)
 | x0

end Go.Xm
