/- What these functions of the program compute, as functions in Lean, and the proofs that they do: vitolalaw12.same, vitolalaw12.alike, club.CheckPlan, vitolalaw12.ClubPlans. Conditions: the library's variables hold what their texts lay. -/
import Derived.Test.YtfimbmhannndaaaDoorKa
namespace Go.Xm
open Go.RowKit
set_option linter.unusedVariables false
set_option linter.unusedSimpArgs false
set_option maxRecDepth 20000

/-! vitola/vitolalaw12.same -/
noncomputable def f40_C40 : Code := Proofs.Tryd.f40.body.getD .skip
noncomputable def f40_L1 : Code := lft (lft (rgt (lft (rgt (rgt f40_C40)))))

inductive Of40_1 where
 | r
 | x0

def f40_1 (m : Nat) : Nat → List Int → List Int → Int → Option Of40_1
 | 0, _, _, _ => none
 | fuel + 1, a, b, x5_1 =>
  cond (decide (x5_1 < ((a.length : Nat) : Int))) (
   cond (inRow x5_1 a.length) (
    cond (inRow x5_1 b.length) (
     cond ((List.getD a (Int.toNat x5_1) 0) != (List.getD b (Int.toNat x5_1) 0)) (
      some (.r)
     ) (
      f40_1 m fuel a b (w64 (x5_1 + 1))
     )
    ) none
   ) none
  ) (
   some (.x0)
  )

theorem f40_1_ok (m : Nat) : ∀ (fuel : Nat) (z0 : Nat) (y0 : Nat) (a : List Int) (z1 : Nat) (y1 : Nat) (b : List Int) (x5_1 : Int) (o : Of40_1), f40_1 m fuel a b x5_1 = some o → ∀ Q : QP, (match o with | .r => Q .ret [(4, .bool false)] [(1, rc (encI .i64) b z1 y1 1), (0, rc (encI .i64) a z0 y0 1)] 2 | .x0 => Q (.exit 0) [] [(1, rc (encI .i64) b z1 y1 1), (0, rc (encI .i64) a z0 y0 1)] 2) → XL E0 26 2 fuel f40_L1 [(0, s0 0 a.length), (1, s0 1 b.length), (5, ii x5_1)] [(1, rc (encI .i64) b z1 y1 1), (0, rc (encI .i64) a z0 y0 1)] 2 Q
 | 0, z0, y0, a, z1, y1, b, x5_1, o, h, Q, hQ => by cases h
 | fuel + 1, z0, y0, a, z1, y1, b, x5_1, o, h, Q, hQ => by
  unfold f40_1 at h
  refine XL.succ E0_ok ?_
  refine XQ.seq E0_ok (by kernel_rfl) ?_
  refine XQ.seq E0_ok (by kernel_rfl) ?_
  refine XQ.region (by kernel_rfl) ?_
  refine XR.runS E0_ok 1 4 [(0, s0 0 a.length), (1, s0 1 b.length), (5, ii x5_1), (14, .bool (decide (x5_1 < ((a.length : Nat) : Int))))] rfl (by kernel_rfl) ?_
  refine XR.done (by kernel_rfl) ?_
  show XQ _ _ _ _ _ _ _ _
  cases b1 : (decide (x5_1 < ((a.length : Nat) : Int)) : Bool) with
  | true =>
   have h := cT b1 h
   refine XQ.cond (s := (.tmp 14)) (b := true) (by kernel_rfl) (by kernel_rfl) (fun _ => ?_) (fun q => by cases q)
   refine XQ.skip (by kernel_rfl) ?_
   show XQ _ _ _ _ _ _ _ _
   refine XQ.seq E0_ok (by kernel_rfl) ?_
   refine XQ.block (id := 1) (by kernel_rfl) ?_
   refine XQ.seq E0_ok (by kernel_rfl) ?_
   refine XQ.quiet E0_ok (by kernel_rfl) (by kernel_rfl) ?_
   refine XU.run E0_ok 1 2 [0, 1, 5, 17, 18] rfl (σ' := [(0, s0 0 a.length), (1, s0 1 b.length), (5, ii x5_1), (17, s0 0 a.length), (18, ii x5_1)]) (by kernel_rfl) ?_
   cases b2 : (inRow x5_1 a.length : Bool) with
   | false => cases (cF b2 h)
   | true =>
    have h := cT b2 h
    refine XU.rd E0_ok [0, 1, 5, 19] rfl (v := pp 0 ((Int.toNat x5_1) * 1)) (v_idx (s := 1) (x := (src 26 (.tmp 17))) (y := (src 26 (.tmp 18))) (b := 0) (o := 0) (len := a.length) (cap := a.length) (ik := .i64) (i := x5_1) (off := (Int.toNat x5_1) * 1) (d := (some (path 12 19))) (by kernel_rfl) (by kernel_rfl) (by kernel_rfl) b2 (by omega)) (σ' := [(0, s0 0 a.length), (1, s0 1 b.length), (5, ii x5_1), (19, pp 0 ((Int.toNat x5_1) * 1))]) (by kernel_rfl) ?_
    refine XU.rd E0_ok [0, 1, 5, 20] rfl (v := ii (List.getD a (Int.toNat x5_1) 0)) (v_load1 (encI_ok .i64) (x := (src 26 (.tmp 19))) (b := 0) (off := (Int.toNat x5_1) * 1) (xs := a) (fz := z0) (e := y0) (es := 1) (d := (some (path 12 20))) (by kernel_rfl) (by kernel_rfl) (by kernel_rfl) (Int.toNat x5_1) 0 0 (by first | rfl | omega) (row_len (inRow_toNat b2) (by simp)) rfl rfl) (σ' := [(0, s0 0 a.length), (1, s0 1 b.length), (5, ii x5_1), (20, ii (List.getD a (Int.toNat x5_1) 0))]) (by kernel_rfl) ?_
    refine XU.run E0_ok 1 2 [0, 1, 5, 20, 21, 22] rfl (σ' := [(0, s0 0 a.length), (1, s0 1 b.length), (5, ii x5_1), (20, ii (List.getD a (Int.toNat x5_1) 0)), (21, s0 1 b.length), (22, ii x5_1)]) (by kernel_rfl) ?_
    cases b3 : (inRow x5_1 b.length : Bool) with
    | false => cases (cF b3 h)
    | true =>
     have h := cT b3 h
     refine XU.rd E0_ok [0, 1, 5, 20, 23] rfl (v := pp 1 ((Int.toNat x5_1) * 1)) (v_idx (s := 1) (x := (src 26 (.tmp 21))) (y := (src 26 (.tmp 22))) (b := 1) (o := 0) (len := b.length) (cap := b.length) (ik := .i64) (i := x5_1) (off := (Int.toNat x5_1) * 1) (d := (some (path 12 23))) (by kernel_rfl) (by kernel_rfl) (by kernel_rfl) b3 (by omega)) (σ' := [(0, s0 0 a.length), (1, s0 1 b.length), (5, ii x5_1), (20, ii (List.getD a (Int.toNat x5_1) 0)), (23, pp 1 ((Int.toNat x5_1) * 1))]) (by kernel_rfl) ?_
     refine XU.rd E0_ok [0, 1, 5, 20, 24] rfl (v := ii (List.getD b (Int.toNat x5_1) 0)) (v_load1 (encI_ok .i64) (x := (src 26 (.tmp 23))) (b := 1) (off := (Int.toNat x5_1) * 1) (xs := b) (fz := z1) (e := y1) (es := 1) (d := (some (path 12 24))) (by kernel_rfl) (by kernel_rfl) (by kernel_rfl) (Int.toNat x5_1) 0 0 (by first | rfl | omega) (row_len (inRow_toNat b3) (by simp)) rfl rfl) (σ' := [(0, s0 0 a.length), (1, s0 1 b.length), (5, ii x5_1), (20, ii (List.getD a (Int.toNat x5_1) 0)), (24, ii (List.getD b (Int.toNat x5_1) 0))]) (by kernel_rfl) ?_
     refine XU.run E0_ok 1 1 [0, 1, 5, 25] rfl (σ' := [(0, s0 0 a.length), (1, s0 1 b.length), (5, ii x5_1), (25, .bool ((List.getD a (Int.toNat x5_1) 0) != (List.getD b (Int.toNat x5_1) 0)))]) (by kernel_rfl) ?_
     refine XU.done (by kernel_rfl) ?_
     show XQ _ _ _ _ _ _ _ _
     cases b4 : ((List.getD a (Int.toNat x5_1) 0) != (List.getD b (Int.toNat x5_1) 0) : Bool) with
     | true =>
      have h := cT b4 h
      refine XQ.cond (s := (.tmp 25)) (b := true) (by kernel_rfl) (by kernel_rfl) (fun _ => ?_) (fun q => by cases q)
      refine XQ.seq E0_ok (by kernel_rfl) ?_
      refine XQ.region (by kernel_rfl) ?_
      refine XR.runS E0_ok 1 1 [(4, .bool false)] rfl (by kernel_rfl) ?_
      refine XR.done (by kernel_rfl) ?_
      show XQ _ _ _ _ _ _ _ _
      refine XQ.ren (σ' := [(4, .bool false)]) (h' := [(1, rc (encI .i64) b z1 y1 1), (0, rc (encI .i64) a z0 y0 1)]) (c' := 2) [0, 1] (by decide) rfl ⟨by kernel_rfl, trivial⟩ ⟨⟨_, _, rfl, rfl, .inl ⟨rfl, rowC_scal (encI_ok .i64) _⟩⟩, ⟨_, _, rfl, rfl, .inl ⟨rfl, rowC_scal (encI_ok .i64) _⟩⟩, trivial⟩ rfl ?_
      refine XQ.ret (by kernel_rfl) ?_
      cases h
      exact hQ
     | false =>
      have h := cF b4 h
      refine XQ.cond (s := (.tmp 25)) (b := false) (by kernel_rfl) (by kernel_rfl) (fun q => by cases q) (fun _ => ?_)
      refine XQ.skip (by kernel_rfl) ?_
      show XQ _ _ _ _ _ _ _ _
      refine XQ.region (by kernel_rfl) ?_
      refine XR.runS E0_ok 1 3 [(0, s0 0 a.length), (1, s0 1 b.length), (5, ii (w64 (x5_1 + 1)))] rfl (by kernel_rfl) ?_
      refine XR.done (by kernel_rfl) ?_
      show XL _ _ _ _ _ _ _ _ _
      refine XL.ren (σ' := [(0, s0 0 a.length), (1, s0 1 b.length), (5, ii (w64 (x5_1 + 1)))]) (h' := [(1, rc (encI .i64) b z1 y1 1), (0, rc (encI .i64) a z0 y0 1)]) (c' := 2) [0, 1] (by decide) rfl ⟨by kernel_rfl, by kernel_rfl, by kernel_rfl, trivial⟩ ⟨⟨_, _, rfl, rfl, .inl ⟨rfl, rowC_scal (encI_ok .i64) _⟩⟩, ⟨_, _, rfl, rfl, .inl ⟨rfl, rowC_scal (encI_ok .i64) _⟩⟩, trivial⟩ rfl ?_
      refine XL.conv (f40_1_ok m fuel z0 y0 a z1 y1 b (w64 (x5_1 + 1)) o h Q hQ) (by first | rfl | simp)
  | false =>
   have h := cF b1 h
   refine XQ.cond (s := (.tmp 14)) (b := false) (by kernel_rfl) (by kernel_rfl) (fun q => by cases q) (fun _ => ?_)
   refine XQ.ren (σ' := []) (h' := [(1, rc (encI .i64) b z1 y1 1), (0, rc (encI .i64) a z0 y0 1)]) (c' := 2) [0, 1] (by decide) rfl trivial ⟨⟨_, _, rfl, rfl, .inl ⟨rfl, rowC_scal (encI_ok .i64) _⟩⟩, ⟨_, _, rfl, rfl, .inl ⟨rfl, rowC_scal (encI_ok .i64) _⟩⟩, trivial⟩ rfl ?_
   refine XQ.exit (i := 0) (by kernel_rfl) ?_
   cases h
   exact hQ

def f40 (m : Nat) (a : List Int) (b : List Int) : Option (Bool) :=
 cond (((a.length : Nat) : Int) != ((b.length : Nat) : Int)) (
  some (false)
 ) (
  (f40_1 m m a b 0).bind fun o1 =>
   match o1 with
   | .r =>
    some (false)
   | .x0 =>
    some (true)
 )

theorem f40_ok (m : Nat) (z0 : Nat) (y0 : Nat) (z1 : Nat) (y1 : Nat) (a : List Int) (b : List Int) (o : Bool) (h : f40 m a b = some o) : KC E0 40 [s0 0 a.length, s0 1 b.length] [(1, rc (encI .i64) b z1 y1 1), (0, rc (encI .i64) a z0 y0 1)] 2 (fun v _ _ => v = .bool o) := by
 refine KC.bodyN E0_ok (F := Proofs.Tryd.f40) (by kernel_rfl) (code := f40_C40) (by kernel_rfl) (nt := 26) (by kernel_rfl) (rs := [.tmp 4]) (by kernel_rfl) (by kernel_rfl) (σ := [(0, s0 0 a.length), (1, s0 1 b.length)]) (by kernel_rfl) ?_
 unfold f40 at h
 refine XQ.seq E0_ok (by kernel_rfl) ?_
 refine XQ.region (by kernel_rfl) ?_
 refine XR.runS E0_ok 1 1 [(0, s0 0 a.length), (1, s0 1 b.length)] rfl (by kernel_rfl) ?_
 refine XR.done (by kernel_rfl) ?_
 show XQ _ _ _ _ _ _ _ _
 refine XQ.seq E0_ok (by kernel_rfl) ?_
 refine XQ.seq E0_ok (by kernel_rfl) ?_
 refine XQ.region (by kernel_rfl) ?_
 refine XR.runS E0_ok 1 5 [(0, s0 0 a.length), (1, s0 1 b.length), (10, .bool (((a.length : Nat) : Int) != ((b.length : Nat) : Int)))] rfl (by kernel_rfl) ?_
 refine XR.done (by kernel_rfl) ?_
 show XQ _ _ _ _ _ _ _ _
 cases b1 : (((a.length : Nat) : Int) != ((b.length : Nat) : Int) : Bool) with
 | true =>
  have h := cT b1 h
  refine XQ.cond (s := (.tmp 10)) (b := true) (by kernel_rfl) (by kernel_rfl) (fun _ => ?_) (fun q => by cases q)
  refine XQ.seq E0_ok (by kernel_rfl) ?_
  refine XQ.region (by kernel_rfl) ?_
  refine XR.runS E0_ok 1 1 [(4, .bool false)] rfl (by kernel_rfl) ?_
  refine XR.done (by kernel_rfl) ?_
  show XQ _ _ _ _ _ _ _ _
  refine XQ.ret (by kernel_rfl) ?_
  have h := Option.some.inj h
  subst h
  exact ⟨fun i q => (by cases q), .bool false, (by kernel_rfl), rfl⟩
 | false =>
  have h := cF b1 h
  refine XQ.cond (s := (.tmp 10)) (b := false) (by kernel_rfl) (by kernel_rfl) (fun q => by cases q) (fun _ => ?_)
  refine XQ.skip (by kernel_rfl) ?_
  show XQ _ _ _ _ _ _ _ _
  refine XQ.seq E0_ok (by kernel_rfl) ?_
  refine XQ.seq E0_ok (by kernel_rfl) ?_
  refine XQ.region (by kernel_rfl) ?_
  refine XR.runS E0_ok 1 1 [(0, s0 0 a.length), (1, s0 1 b.length), (5, ii 0)] rfl (by kernel_rfl) ?_
  refine XR.done (by kernel_rfl) ?_
  show XQ _ _ _ _ _ _ _ _
  refine XQ.block (id := 0) (by kernel_rfl) ?_
  refine XQ.loop m (by kernel_rfl) ?_
  obtain ⟨o1, o1_h, h⟩ := bS h
  refine XL.ren (σ' := [(0, s0 0 a.length), (1, s0 1 b.length), (5, ii 0)]) (h' := [(1, rc (encI .i64) b z1 y1 1), (0, rc (encI .i64) a z0 y0 1)]) (c' := 2) [0, 1] (by decide) rfl ⟨by kernel_rfl, by kernel_rfl, by kernel_rfl, trivial⟩ ⟨⟨_, _, rfl, rfl, .inl ⟨rfl, rowC_scal (encI_ok .i64) _⟩⟩, ⟨_, _, rfl, rfl, .inl ⟨rfl, rowC_scal (encI_ok .i64) _⟩⟩, trivial⟩ rfl ?_
  cases o1 with
  | r =>
   dsimp only at h
   refine XL.conv (f40_1_ok m m z0 y0 a z1 y1 b 0 (.r) o1_h _ ?_) (by first | rfl | simp)
   have h := Option.some.inj h
   subst h
   exact ⟨fun i q => (by cases q), .bool false, (by kernel_rfl), rfl⟩
  | x0 =>
   dsimp only at h
   refine XL.conv (f40_1_ok m m z0 y0 a z1 y1 b 0 (.x0) o1_h _ ?_) (by first | rfl | simp)
   show XQ _ _ _ _ _ _ _ _
   refine XQ.seq E0_ok (by kernel_rfl) ?_
   refine XQ.region (by kernel_rfl) ?_
   refine XR.runS E0_ok 1 1 [(4, .bool true)] rfl (by kernel_rfl) ?_
   refine XR.done (by kernel_rfl) ?_
   show XQ _ _ _ _ _ _ _ _
   refine XQ.ret (by kernel_rfl) ?_
   have h := Option.some.inj h
   subst h
   exact ⟨fun i q => (by cases q), .bool true, (by kernel_rfl), rfl⟩

/-! vitola/vitolalaw12.alike -/
noncomputable def f25_C25 : Code := Proofs.Tryd.f25.body.getD .skip
noncomputable def f25_C39 : Code := Proofs.Tryd.f39.body.getD .skip
noncomputable def f25_L1 : Code := lft (lft (rgt (lft (rgt (rgt f25_C39)))))

inductive Of25_1 where
 | r
 | x0

def f25_1 (m : Nat) : Nat → Int → List (Int × Int) → Int → List (Int × Int) → Int → Option Of25_1
 | 0, _, _, _, _, _ => none
 | fuel + 1, a_Sorters, a_Tables, b_Sorters, b_Tables, x5_1 =>
  cond (decide (x5_1 < ((a_Tables.length : Nat) : Int))) (
   cond (inRow x5_1 a_Tables.length) (
    cond (inRow x5_1 b_Tables.length) (
     cond (!(((List.getD a_Tables (Int.toNat x5_1) (0, 0)).1) == ((List.getD b_Tables (Int.toNat x5_1) (0, 0)).1) && ((List.getD a_Tables (Int.toNat x5_1) (0, 0)).2) == ((List.getD b_Tables (Int.toNat x5_1) (0, 0)).2))) (
      some (.r)
     ) (
      f25_1 m fuel a_Sorters a_Tables b_Sorters b_Tables (w64 (x5_1 + 1))
     )
    ) none
   ) none
  ) (
   some (.x0)
  )

theorem f25_1_ok (m : Nat) : ∀ (fuel : Nat) (z0 : Nat) (y0 : Nat) (a_Sorters : Int) (a_Tables : List (Int × Int)) (z1 : Nat) (y1 : Nat) (b_Sorters : Int) (b_Tables : List (Int × Int)) (x5_1 : Int) (o : Of25_1), f25_1 m fuel a_Sorters a_Tables b_Sorters b_Tables x5_1 = some o → ∀ Q : QP, (match o with | .r => Q .ret [(4, .bool false)] [(3, .cells [ii b_Sorters, s0 1 b_Tables.length] 0 37 0), (2, .cells [ii a_Sorters, s0 0 a_Tables.length] 0 34 0), (1, rc encP b_Tables z1 y1 2), (0, rc encP a_Tables z0 y0 2)] 4 | .x0 => Q (.exit 0) [] [(3, .cells [ii b_Sorters, s0 1 b_Tables.length] 0 37 0), (2, .cells [ii a_Sorters, s0 0 a_Tables.length] 0 34 0), (1, rc encP b_Tables z1 y1 2), (0, rc encP a_Tables z0 y0 2)] 4) → XL E0 26 4 fuel f25_L1 [(0, s0 0 a_Tables.length), (1, s0 1 b_Tables.length), (5, ii x5_1)] [(3, .cells [ii b_Sorters, s0 1 b_Tables.length] 0 37 0), (2, .cells [ii a_Sorters, s0 0 a_Tables.length] 0 34 0), (1, rc encP b_Tables z1 y1 2), (0, rc encP a_Tables z0 y0 2)] 4 Q
 | 0, z0, y0, a_Sorters, a_Tables, z1, y1, b_Sorters, b_Tables, x5_1, o, h, Q, hQ => by cases h
 | fuel + 1, z0, y0, a_Sorters, a_Tables, z1, y1, b_Sorters, b_Tables, x5_1, o, h, Q, hQ => by
  unfold f25_1 at h
  refine XL.succ E0_ok ?_
  refine XQ.seq E0_ok (by kernel_rfl) ?_
  refine XQ.seq E0_ok (by kernel_rfl) ?_
  refine XQ.region (by kernel_rfl) ?_
  refine XR.runS E0_ok 1 4 [(0, s0 0 a_Tables.length), (1, s0 1 b_Tables.length), (5, ii x5_1), (14, .bool (decide (x5_1 < ((a_Tables.length : Nat) : Int))))] rfl (by kernel_rfl) ?_
  refine XR.done (by kernel_rfl) ?_
  show XQ _ _ _ _ _ _ _ _
  cases b1 : (decide (x5_1 < ((a_Tables.length : Nat) : Int)) : Bool) with
  | true =>
   have h := cT b1 h
   refine XQ.cond (s := (.tmp 14)) (b := true) (by kernel_rfl) (by kernel_rfl) (fun _ => ?_) (fun q => by cases q)
   refine XQ.skip (by kernel_rfl) ?_
   show XQ _ _ _ _ _ _ _ _
   refine XQ.seq E0_ok (by kernel_rfl) ?_
   refine XQ.block (id := 1) (by kernel_rfl) ?_
   refine XQ.seq E0_ok (by kernel_rfl) ?_
   refine XQ.quiet E0_ok (by kernel_rfl) (by kernel_rfl) ?_
   refine XU.run E0_ok 1 2 [0, 1, 5, 17, 18] rfl (σ' := [(0, s0 0 a_Tables.length), (1, s0 1 b_Tables.length), (5, ii x5_1), (17, s0 0 a_Tables.length), (18, ii x5_1)]) (by kernel_rfl) ?_
   cases b2 : (inRow x5_1 a_Tables.length : Bool) with
   | false => cases (cF b2 h)
   | true =>
    have h := cT b2 h
    refine XU.rd E0_ok [0, 1, 5, 19] rfl (v := pp 0 ((Int.toNat x5_1) * 2)) (v_idx (s := 2) (x := (src 26 (.tmp 17))) (y := (src 26 (.tmp 18))) (b := 0) (o := 0) (len := a_Tables.length) (cap := a_Tables.length) (ik := .i64) (i := x5_1) (off := (Int.toNat x5_1) * 2) (d := (some (path 12 19))) (by kernel_rfl) (by kernel_rfl) (by kernel_rfl) b2 (by omega)) (σ' := [(0, s0 0 a_Tables.length), (1, s0 1 b_Tables.length), (5, ii x5_1), (19, pp 0 ((Int.toNat x5_1) * 2))]) (by kernel_rfl) ?_
    refine XU.rd E0_ok [0, 1, 5, 20] rfl (v := .agg #[ii ((List.getD a_Tables (Int.toNat x5_1) (0, 0)).1), ii ((List.getD a_Tables (Int.toNat x5_1) (0, 0)).2)]) (v_loadN encP_ok (x := (src 26 (.tmp 19))) (b := 0) (off := (Int.toNat x5_1) * 2) (xs := a_Tables) (fz := z0) (e := y0) (es := 2) (d := (some (path 12 20))) (by kernel_rfl) (by kernel_rfl) (by kernel_rfl) (Int.toNat x5_1) (0, 0) (by first | rfl | omega) (row_len (inRow_toNat b2) (by simp)) rfl) (σ' := [(0, s0 0 a_Tables.length), (1, s0 1 b_Tables.length), (5, ii x5_1), (20, .agg #[ii ((List.getD a_Tables (Int.toNat x5_1) (0, 0)).1), ii ((List.getD a_Tables (Int.toNat x5_1) (0, 0)).2)])]) (by kernel_rfl) ?_
    refine XU.run E0_ok 1 2 [0, 1, 5, 20, 21, 22] rfl (σ' := [(0, s0 0 a_Tables.length), (1, s0 1 b_Tables.length), (5, ii x5_1), (20, .agg #[ii ((List.getD a_Tables (Int.toNat x5_1) (0, 0)).1), ii ((List.getD a_Tables (Int.toNat x5_1) (0, 0)).2)]), (21, s0 1 b_Tables.length), (22, ii x5_1)]) (by kernel_rfl) ?_
    cases b3 : (inRow x5_1 b_Tables.length : Bool) with
    | false => cases (cF b3 h)
    | true =>
     have h := cT b3 h
     refine XU.rd E0_ok [0, 1, 5, 20, 23] rfl (v := pp 1 ((Int.toNat x5_1) * 2)) (v_idx (s := 2) (x := (src 26 (.tmp 21))) (y := (src 26 (.tmp 22))) (b := 1) (o := 0) (len := b_Tables.length) (cap := b_Tables.length) (ik := .i64) (i := x5_1) (off := (Int.toNat x5_1) * 2) (d := (some (path 12 23))) (by kernel_rfl) (by kernel_rfl) (by kernel_rfl) b3 (by omega)) (σ' := [(0, s0 0 a_Tables.length), (1, s0 1 b_Tables.length), (5, ii x5_1), (20, .agg #[ii ((List.getD a_Tables (Int.toNat x5_1) (0, 0)).1), ii ((List.getD a_Tables (Int.toNat x5_1) (0, 0)).2)]), (23, pp 1 ((Int.toNat x5_1) * 2))]) (by kernel_rfl) ?_
     refine XU.rd E0_ok [0, 1, 5, 20, 24] rfl (v := .agg #[ii ((List.getD b_Tables (Int.toNat x5_1) (0, 0)).1), ii ((List.getD b_Tables (Int.toNat x5_1) (0, 0)).2)]) (v_loadN encP_ok (x := (src 26 (.tmp 23))) (b := 1) (off := (Int.toNat x5_1) * 2) (xs := b_Tables) (fz := z1) (e := y1) (es := 2) (d := (some (path 12 24))) (by kernel_rfl) (by kernel_rfl) (by kernel_rfl) (Int.toNat x5_1) (0, 0) (by first | rfl | omega) (row_len (inRow_toNat b3) (by simp)) rfl) (σ' := [(0, s0 0 a_Tables.length), (1, s0 1 b_Tables.length), (5, ii x5_1), (20, .agg #[ii ((List.getD a_Tables (Int.toNat x5_1) (0, 0)).1), ii ((List.getD a_Tables (Int.toNat x5_1) (0, 0)).2)]), (24, .agg #[ii ((List.getD b_Tables (Int.toNat x5_1) (0, 0)).1), ii ((List.getD b_Tables (Int.toNat x5_1) (0, 0)).2)])]) (by kernel_rfl) ?_
     refine XU.run E0_ok 1 1 [0, 1, 5, 25] rfl (σ' := [(0, s0 0 a_Tables.length), (1, s0 1 b_Tables.length), (5, ii x5_1), (25, .bool (!(((List.getD a_Tables (Int.toNat x5_1) (0, 0)).1) == ((List.getD b_Tables (Int.toNat x5_1) (0, 0)).1) && ((List.getD a_Tables (Int.toNat x5_1) (0, 0)).2) == ((List.getD b_Tables (Int.toNat x5_1) (0, 0)).2))))]) (by kernel_rfl) ?_
     refine XU.done (by kernel_rfl) ?_
     show XQ _ _ _ _ _ _ _ _
     cases b4 : (!(((List.getD a_Tables (Int.toNat x5_1) (0, 0)).1) == ((List.getD b_Tables (Int.toNat x5_1) (0, 0)).1) && ((List.getD a_Tables (Int.toNat x5_1) (0, 0)).2) == ((List.getD b_Tables (Int.toNat x5_1) (0, 0)).2)) : Bool) with
     | true =>
      have h := cT b4 h
      refine XQ.cond (s := (.tmp 25)) (b := true) (by kernel_rfl) (by kernel_rfl) (fun _ => ?_) (fun q => by cases q)
      refine XQ.seq E0_ok (by kernel_rfl) ?_
      refine XQ.region (by kernel_rfl) ?_
      refine XR.runS E0_ok 1 1 [(4, .bool false)] rfl (by kernel_rfl) ?_
      refine XR.done (by kernel_rfl) ?_
      show XQ _ _ _ _ _ _ _ _
      refine XQ.ren (σ' := [(4, .bool false)]) (h' := [(3, .cells [ii b_Sorters, s0 1 b_Tables.length] 0 37 0), (2, .cells [ii a_Sorters, s0 0 a_Tables.length] 0 34 0), (1, rc encP b_Tables z1 y1 2), (0, rc encP a_Tables z0 y0 2)]) (c' := 4) [0, 1, 2, 3] (by decide) rfl ⟨by kernel_rfl, trivial⟩ ⟨⟨_, _, rfl, rfl, .inr ⟨_, _, _, _, rfl, rfl⟩⟩, ⟨_, _, rfl, rfl, .inr ⟨_, _, _, _, rfl, rfl⟩⟩, ⟨_, _, rfl, rfl, .inl ⟨rfl, rowC_scal encP_ok _⟩⟩, ⟨_, _, rfl, rfl, .inl ⟨rfl, rowC_scal encP_ok _⟩⟩, trivial⟩ rfl ?_
      refine XQ.ret (by kernel_rfl) ?_
      cases h
      exact hQ
     | false =>
      have h := cF b4 h
      refine XQ.cond (s := (.tmp 25)) (b := false) (by kernel_rfl) (by kernel_rfl) (fun q => by cases q) (fun _ => ?_)
      refine XQ.skip (by kernel_rfl) ?_
      show XQ _ _ _ _ _ _ _ _
      refine XQ.region (by kernel_rfl) ?_
      refine XR.runS E0_ok 1 3 [(0, s0 0 a_Tables.length), (1, s0 1 b_Tables.length), (5, ii (w64 (x5_1 + 1)))] rfl (by kernel_rfl) ?_
      refine XR.done (by kernel_rfl) ?_
      show XL _ _ _ _ _ _ _ _ _
      refine XL.ren (σ' := [(0, s0 0 a_Tables.length), (1, s0 1 b_Tables.length), (5, ii (w64 (x5_1 + 1)))]) (h' := [(3, .cells [ii b_Sorters, s0 1 b_Tables.length] 0 37 0), (2, .cells [ii a_Sorters, s0 0 a_Tables.length] 0 34 0), (1, rc encP b_Tables z1 y1 2), (0, rc encP a_Tables z0 y0 2)]) (c' := 4) [0, 1, 2, 3] (by decide) rfl ⟨by kernel_rfl, by kernel_rfl, by kernel_rfl, trivial⟩ ⟨⟨_, _, rfl, rfl, .inr ⟨_, _, _, _, rfl, rfl⟩⟩, ⟨_, _, rfl, rfl, .inr ⟨_, _, _, _, rfl, rfl⟩⟩, ⟨_, _, rfl, rfl, .inl ⟨rfl, rowC_scal encP_ok _⟩⟩, ⟨_, _, rfl, rfl, .inl ⟨rfl, rowC_scal encP_ok _⟩⟩, trivial⟩ rfl ?_
      refine XL.conv (f25_1_ok m fuel z0 y0 a_Sorters a_Tables z1 y1 b_Sorters b_Tables (w64 (x5_1 + 1)) o h Q hQ) (by first | rfl | simp)
  | false =>
   have h := cF b1 h
   refine XQ.cond (s := (.tmp 14)) (b := false) (by kernel_rfl) (by kernel_rfl) (fun q => by cases q) (fun _ => ?_)
   refine XQ.ren (σ' := []) (h' := [(3, .cells [ii b_Sorters, s0 1 b_Tables.length] 0 37 0), (2, .cells [ii a_Sorters, s0 0 a_Tables.length] 0 34 0), (1, rc encP b_Tables z1 y1 2), (0, rc encP a_Tables z0 y0 2)]) (c' := 4) [0, 1, 2, 3] (by decide) rfl trivial ⟨⟨_, _, rfl, rfl, .inr ⟨_, _, _, _, rfl, rfl⟩⟩, ⟨_, _, rfl, rfl, .inr ⟨_, _, _, _, rfl, rfl⟩⟩, ⟨_, _, rfl, rfl, .inl ⟨rfl, rowC_scal encP_ok _⟩⟩, ⟨_, _, rfl, rfl, .inl ⟨rfl, rowC_scal encP_ok _⟩⟩, trivial⟩ rfl ?_
   refine XQ.exit (i := 0) (by kernel_rfl) ?_
   cases h
   exact hQ

def f25 (m : Nat) (a_Sorters : Int) (a_Tables : List (Int × Int)) (b_Sorters : Int) (b_Tables : List (Int × Int)) : Option (Bool) :=
 cond (a_Sorters == b_Sorters) (
  cond (((a_Tables.length : Nat) : Int) != ((b_Tables.length : Nat) : Int)) (
   some (false)
  ) (
   (f25_1 m m a_Sorters a_Tables b_Sorters b_Tables 0).bind fun o1 =>
    match o1 with
    | .r =>
     some (false)
    | .x0 =>
     some (true)
  )
 ) (
  some (false)
 )

theorem f25_ok (m : Nat) (z0 : Nat) (y0 : Nat) (z1 : Nat) (y1 : Nat) (a_Sorters : Int) (a_Tables : List (Int × Int)) (b_Sorters : Int) (b_Tables : List (Int × Int)) (o : Bool) (h : f25 m a_Sorters a_Tables b_Sorters b_Tables = some o) : KC E0 25 [.agg #[ii a_Sorters, s0 0 a_Tables.length], .agg #[ii b_Sorters, s0 1 b_Tables.length]] [(1, rc encP b_Tables z1 y1 2), (0, rc encP a_Tables z0 y0 2)] 2 (fun v _ _ => v = .bool o) := by
 refine KC.bodyN E0_ok (F := Proofs.Tryd.f25) (by kernel_rfl) (code := f25_C25) (by kernel_rfl) (nt := 17) (by kernel_rfl) (rs := [.tmp 4]) (by kernel_rfl) (by kernel_rfl) (σ := [(0, .agg #[ii a_Sorters, s0 0 a_Tables.length]), (1, .agg #[ii b_Sorters, s0 1 b_Tables.length])]) (by kernel_rfl) ?_
 unfold f25 at h
 refine XQ.seq E0_ok (by kernel_rfl) ?_
 refine XQ.region (by kernel_rfl) ?_
 refine XR.runT E0_ok 1 3 [(2, pp 2 0), (3, pp 3 0)] [(3, .cells [ii b_Sorters, s0 1 b_Tables.length] 0 37 0), (2, .cells [ii a_Sorters, s0 0 a_Tables.length] 0 34 0), (1, rc encP b_Tables z1 y1 2), (0, rc encP a_Tables z0 y0 2)] 4 rfl (by kernel_rfl) ?_
 refine XR.done (by kernel_rfl) ?_
 show XQ _ _ _ _ _ _ _ _
 refine XQ.seq E0_ok (by kernel_rfl) ?_
 refine XQ.region (by kernel_rfl) ?_
 refine XR.runS E0_ok 1 6 [(2, pp 2 0), (3, pp 3 0), (10, .bool (a_Sorters == b_Sorters))] rfl (by kernel_rfl) ?_
 cases b1 : (a_Sorters == b_Sorters : Bool) with
 | true =>
  have h := cT b1 h
  refine XR.runS E0_ok 1 4 [(10, .bool true), (12, s0 0 a_Tables.length), (14, s0 1 b_Tables.length)] rfl (by kernel_rfl) ?_
  refine XR.callK E0_ok [10, 15] rfl (K := 39) (args := [s0 0 a_Tables.length, s0 1 b_Tables.length]) (d := (some (path 12 15))) (by kernel_rfl) ?_
  refine KC.bodyN E0_ok (F := Proofs.Tryd.f39) (by kernel_rfl) (code := f25_C39) (by kernel_rfl) (nt := 26) (by kernel_rfl) (rs := [.tmp 4]) (by kernel_rfl) (by kernel_rfl) (σ := [(0, s0 0 a_Tables.length), (1, s0 1 b_Tables.length)]) (by kernel_rfl) ?_
  refine XQ.seq E0_ok (by kernel_rfl) ?_
  refine XQ.region (by kernel_rfl) ?_
  refine XR.runS E0_ok 1 1 [(0, s0 0 a_Tables.length), (1, s0 1 b_Tables.length)] rfl (by kernel_rfl) ?_
  refine XR.done (by kernel_rfl) ?_
  show XQ _ _ _ _ _ _ _ _
  refine XQ.seq E0_ok (by kernel_rfl) ?_
  refine XQ.seq E0_ok (by kernel_rfl) ?_
  refine XQ.region (by kernel_rfl) ?_
  refine XR.runS E0_ok 1 5 [(0, s0 0 a_Tables.length), (1, s0 1 b_Tables.length), (10, .bool (((a_Tables.length : Nat) : Int) != ((b_Tables.length : Nat) : Int)))] rfl (by kernel_rfl) ?_
  refine XR.done (by kernel_rfl) ?_
  show XQ _ _ _ _ _ _ _ _
  cases b2 : (((a_Tables.length : Nat) : Int) != ((b_Tables.length : Nat) : Int) : Bool) with
  | true =>
   have h := cT b2 h
   refine XQ.cond (s := (.tmp 10)) (b := true) (by kernel_rfl) (by kernel_rfl) (fun _ => ?_) (fun q => by cases q)
   refine XQ.seq E0_ok (by kernel_rfl) ?_
   refine XQ.region (by kernel_rfl) ?_
   refine XR.runS E0_ok 1 1 [(4, .bool false)] rfl (by kernel_rfl) ?_
   refine XR.done (by kernel_rfl) ?_
   show XQ _ _ _ _ _ _ _ _
   refine XQ.ret (by kernel_rfl) ?_
   refine ⟨fun i q => (by cases q), .bool false, (by kernel_rfl), ?_⟩
   refine XR.conv (σ' := [(10, .bool true), (15, .bool false)]) (h' := [(3, .cells [ii b_Sorters, s0 1 b_Tables.length] 0 37 0), (2, .cells [ii a_Sorters, s0 0 a_Tables.length] 0 34 0), (1, rc encP b_Tables z1 y1 2), (0, rc encP a_Tables z0 y0 2)]) (c' := 4) ?_ (by kernel_rfl)
   refine XR.runS E0_ok 1 2 [(4, .bool false)] rfl (by kernel_rfl) ?_
   refine XR.done (by kernel_rfl) ?_
   show XQ _ _ _ _ _ _ _ _
   refine XQ.ret (by kernel_rfl) ?_
   have h := Option.some.inj h
   subst h
   exact ⟨fun i q => (by cases q), .bool false, (by kernel_rfl), rfl⟩
  | false =>
   have h := cF b2 h
   refine XQ.cond (s := (.tmp 10)) (b := false) (by kernel_rfl) (by kernel_rfl) (fun q => by cases q) (fun _ => ?_)
   refine XQ.skip (by kernel_rfl) ?_
   show XQ _ _ _ _ _ _ _ _
   refine XQ.seq E0_ok (by kernel_rfl) ?_
   refine XQ.seq E0_ok (by kernel_rfl) ?_
   refine XQ.region (by kernel_rfl) ?_
   refine XR.runS E0_ok 1 1 [(0, s0 0 a_Tables.length), (1, s0 1 b_Tables.length), (5, ii 0)] rfl (by kernel_rfl) ?_
   refine XR.done (by kernel_rfl) ?_
   show XQ _ _ _ _ _ _ _ _
   refine XQ.block (id := 0) (by kernel_rfl) ?_
   refine XQ.loop m (by kernel_rfl) ?_
   obtain ⟨o1, o1_h, h⟩ := bS h
   refine XL.ren (σ' := [(0, s0 0 a_Tables.length), (1, s0 1 b_Tables.length), (5, ii 0)]) (h' := [(3, .cells [ii b_Sorters, s0 1 b_Tables.length] 0 37 0), (2, .cells [ii a_Sorters, s0 0 a_Tables.length] 0 34 0), (1, rc encP b_Tables z1 y1 2), (0, rc encP a_Tables z0 y0 2)]) (c' := 4) [0, 1, 2, 3] (by decide) rfl ⟨by kernel_rfl, by kernel_rfl, by kernel_rfl, trivial⟩ ⟨⟨_, _, rfl, rfl, .inr ⟨_, _, _, _, rfl, rfl⟩⟩, ⟨_, _, rfl, rfl, .inr ⟨_, _, _, _, rfl, rfl⟩⟩, ⟨_, _, rfl, rfl, .inl ⟨rfl, rowC_scal encP_ok _⟩⟩, ⟨_, _, rfl, rfl, .inl ⟨rfl, rowC_scal encP_ok _⟩⟩, trivial⟩ rfl ?_
   cases o1 with
   | r =>
    dsimp only at h
    refine XL.conv (f25_1_ok m m z0 y0 a_Sorters a_Tables z1 y1 b_Sorters b_Tables 0 (.r) o1_h _ ?_) (by first | rfl | simp)
    refine ⟨fun i q => (by cases q), .bool false, (by kernel_rfl), ?_⟩
    refine XR.conv (σ' := [(10, .bool true), (15, .bool false)]) (h' := [(3, .cells [ii b_Sorters, s0 1 b_Tables.length] 0 37 0), (2, .cells [ii a_Sorters, s0 0 a_Tables.length] 0 34 0), (1, rc encP b_Tables z1 y1 2), (0, rc encP a_Tables z0 y0 2)]) (c' := 4) ?_ (by kernel_rfl)
    refine XR.runS E0_ok 1 2 [(4, .bool false)] rfl (by kernel_rfl) ?_
    refine XR.done (by kernel_rfl) ?_
    show XQ _ _ _ _ _ _ _ _
    refine XQ.ret (by kernel_rfl) ?_
    have h := Option.some.inj h
    subst h
    exact ⟨fun i q => (by cases q), .bool false, (by kernel_rfl), rfl⟩
   | x0 =>
    dsimp only at h
    refine XL.conv (f25_1_ok m m z0 y0 a_Sorters a_Tables z1 y1 b_Sorters b_Tables 0 (.x0) o1_h _ ?_) (by first | rfl | simp)
    show XQ _ _ _ _ _ _ _ _
    refine XQ.seq E0_ok (by kernel_rfl) ?_
    refine XQ.region (by kernel_rfl) ?_
    refine XR.runS E0_ok 1 1 [(4, .bool true)] rfl (by kernel_rfl) ?_
    refine XR.done (by kernel_rfl) ?_
    show XQ _ _ _ _ _ _ _ _
    refine XQ.ret (by kernel_rfl) ?_
    refine ⟨fun i q => (by cases q), .bool true, (by kernel_rfl), ?_⟩
    refine XR.conv (σ' := [(10, .bool true), (15, .bool true)]) (h' := [(3, .cells [ii b_Sorters, s0 1 b_Tables.length] 0 37 0), (2, .cells [ii a_Sorters, s0 0 a_Tables.length] 0 34 0), (1, rc encP b_Tables z1 y1 2), (0, rc encP a_Tables z0 y0 2)]) (c' := 4) ?_ (by kernel_rfl)
    refine XR.runS E0_ok 1 2 [(4, .bool true)] rfl (by kernel_rfl) ?_
    refine XR.done (by kernel_rfl) ?_
    show XQ _ _ _ _ _ _ _ _
    refine XQ.ret (by kernel_rfl) ?_
    have h := Option.some.inj h
    subst h
    exact ⟨fun i q => (by cases q), .bool true, (by kernel_rfl), rfl⟩
 | false =>
  have h := cF b1 h
  refine XR.runS E0_ok 1 7 [(4, .bool false)] rfl (by kernel_rfl) ?_
  refine XR.done (by kernel_rfl) ?_
  show XQ _ _ _ _ _ _ _ _
  refine XQ.ret (by kernel_rfl) ?_
  have h := Option.some.inj h
  subst h
  exact ⟨fun i q => (by cases q), .bool false, (by kernel_rfl), rfl⟩

/-! vitola/club.CheckPlan -/
noncomputable def f47_C47 : Code := Proofs.Tryd.f47.body.getD .skip

def f47 (m : Nat) (a_Sorters : Int) (a_Tables : List (Int × Int)) : Option (Int) :=
 (f74 m a_Sorters a_Tables).bind fun r1 =>
  some (r1.2)

theorem f47_ok (m : Nat) (z0 : Nat) (y0 : Nat) (a_Sorters : Int) (a_Tables : List (Int × Int)) (o : Int) (h : f47 m a_Sorters a_Tables = some o) : KC E0 47 [.agg #[ii a_Sorters, s0 0 a_Tables.length]] [(0, rc encP a_Tables z0 y0 2)] 1 (fun v _ _ => v = ii o) := by
 refine KC.bodyN E0_ok (F := Proofs.Tryd.f47) (by kernel_rfl) (code := f47_C47) (by kernel_rfl) (nt := 11) (by kernel_rfl) (rs := [.tmp 2]) (by kernel_rfl) (by kernel_rfl) (σ := [(0, .agg #[ii a_Sorters, s0 0 a_Tables.length])]) (by kernel_rfl) ?_
 unfold f47 at h
 refine XQ.seq E0_ok (by kernel_rfl) ?_
 refine XQ.region (by kernel_rfl) ?_
 refine XR.runT E0_ok 1 2 [(1, pp 1 0)] [(1, .cells [ii a_Sorters, s0 0 a_Tables.length] 0 34 0), (0, rc encP a_Tables z0 y0 2)] 2 rfl (by kernel_rfl) ?_
 refine XR.done (by kernel_rfl) ?_
 show XQ _ _ _ _ _ _ _ _
 refine XQ.seq E0_ok (by kernel_rfl) ?_
 refine XQ.region (by kernel_rfl) ?_
 refine XR.runS E0_ok 1 1 [(6, .agg #[ii a_Sorters, s0 0 a_Tables.length])] rfl (by kernel_rfl) ?_
 obtain ⟨r1, r1_h, h⟩ := bS h
 refine XR.call E0_ok [7] rfl (K := 74) (args := [.agg #[ii a_Sorters, s0 0 a_Tables.length]]) (d := (some (path 12 7))) (by kernel_rfl) (KC.liftH (n0 := 1) (m := 1) (args0 := [.agg #[ii a_Sorters, s0 0 a_Tables.length]]) (h0 := [(0, rc encP a_Tables (z0 + ((rowC encP a_Tables).length + 1)) y0 2)]) (V := .tuple #[s0 1 r1.1.length, ii r1.2]) (V2 := .tuple #[s0 2 r1.1.length, ii r1.2]) (H := [(1, rc (encI .u64) r1.1 0 117 1)]) (H2 := [(2, rc (encI .u64) r1.1 0 117 1)]) [0] [2, 3, 1] (f74_ok m (z0 + ((rowC encP a_Tables).length + 1)) y0 a_Sorters a_Tables r1 r1_h) (by rfl) (by decide) rfl (by kernel_rfl) ⟨⟨_, _, rfl, rfl, .inl ⟨rfl, rowC_scal encP_ok _⟩⟩, trivial⟩ (by decide) (by decide) (by kernel_rfl) ⟨⟨_, _, rfl, rfl, .inl ⟨rfl, rowC_scal (encI_ok .u64) _⟩⟩, trivial⟩ (by rfl)) ?_
 rintro _ _ _ ⟨rfl, rfl, rfl⟩
 refine XR.conv (σ' := [(7, .tuple #[s0 2 r1.1.length, ii r1.2])]) (h' := [(2, rc (encI .u64) r1.1 0 117 1), (1, .cells [ii a_Sorters, s0 0 a_Tables.length] 0 34 0), (0, rc encP a_Tables z0 y0 2)]) (c' := 3) ?_ (by kernel_rfl)
 refine XR.runS E0_ok 1 5 [(4, ii r1.2)] rfl (by kernel_rfl) ?_
 refine XR.done (by kernel_rfl) ?_
 show XQ _ _ _ _ _ _ _ _
 refine XQ.seq E0_ok (by kernel_rfl) ?_
 refine XQ.region (by kernel_rfl) ?_
 refine XR.runS E0_ok 1 2 [(2, ii r1.2)] rfl (by kernel_rfl) ?_
 refine XR.done (by kernel_rfl) ?_
 show XQ _ _ _ _ _ _ _ _
 refine XQ.ret (by kernel_rfl) ?_
 have h := Option.some.inj h
 subst h
 exact ⟨fun i q => (by cases q), ii r1.2, (by kernel_rfl), rfl⟩

/-! vitola/vitolalaw12.ClubPlans -/
noncomputable def f9_C9 : Code := Proofs.Tryd.f9.body.getD .skip

def f9 (m : Nat) (a_Sorters : Int) (a_Tables : List (Int × Int)) : Option (Bool) :=
 cond (decide (((a_Tables.length : Nat) : Int) > 60)) (
  some (true)
 ) (
  (f43 m a_Sorters a_Tables).bind fun r1 =>
   (f44 m a_Sorters a_Tables).bind fun r2 =>
    (f42 m a_Sorters a_Tables).bind fun r3 =>
     (f45 m a_Sorters a_Tables).bind fun r4 =>
      (f41 m a_Sorters a_Tables).bind fun r5 =>
       (f46 m a_Sorters a_Tables).bind fun r6 =>
        (f40 m r1.1 r2.1).bind fun r7 =>
         cond (r7) (
          cond (r1.2 == r2.2) (
           (f25 m r3.1 r3.2.1 r4.1 r4.2.1).bind fun r8 =>
            cond (r8) (
             cond (r3.2.2 == r4.2.2) (
              cond (r5.1 == r6.1) (
               cond (r5.2 == r6.2) (
                (f47 m a_Sorters a_Tables).bind fun r9 =>
                 (f48 m a_Sorters a_Tables).bind fun r10 =>
                  cond (r9 == r10) (
                   some (true)
                  ) (
                   some (false)
                  )
               ) (
                some (false)
               )
              ) (
               some (false)
              )
             ) (
              some (false)
             )
            ) (
             some (false)
            )
          ) (
           some (false)
          )
         ) (
          some (false)
         )
 )

theorem f9_ok (m : Nat) (z0 : Nat) (y0 : Nat) (a_Sorters : Int) (a_Tables : List (Int × Int)) (o : Bool) (h : f9 m a_Sorters a_Tables = some o) : KC E0 9 [.agg #[ii a_Sorters, s0 0 a_Tables.length]] [(0, rc encP a_Tables z0 y0 2)] 1 (fun v _ _ => v = .bool o) := by
 refine KC.bodyN E0_ok (F := Proofs.Tryd.f9) (by kernel_rfl) (code := f9_C9) (by kernel_rfl) (nt := 90) (by kernel_rfl) (rs := [.tmp 2]) (by kernel_rfl) (by kernel_rfl) (σ := [(0, .agg #[ii a_Sorters, s0 0 a_Tables.length])]) (by kernel_rfl) ?_
 unfold f9 at h
 refine XQ.seq E0_ok (by kernel_rfl) ?_
 refine XQ.region (by kernel_rfl) ?_
 refine XR.runT E0_ok 1 2 [(1, pp 1 0)] [(1, .cells [ii a_Sorters, s0 0 a_Tables.length] 0 34 0), (0, rc encP a_Tables z0 y0 2)] 2 rfl (by kernel_rfl) ?_
 refine XR.done (by kernel_rfl) ?_
 show XQ _ _ _ _ _ _ _ _
 refine XQ.seq E0_ok (by kernel_rfl) ?_
 refine XQ.seq E0_ok (by kernel_rfl) ?_
 refine XQ.region (by kernel_rfl) ?_
 refine XR.runS E0_ok 1 4 [(1, pp 1 0), (19, .bool (decide (((a_Tables.length : Nat) : Int) > 60)))] rfl (by kernel_rfl) ?_
 refine XR.done (by kernel_rfl) ?_
 show XQ _ _ _ _ _ _ _ _
 cases b1 : (decide (((a_Tables.length : Nat) : Int) > 60) : Bool) with
 | true =>
  have h := cT b1 h
  refine XQ.cond (s := (.tmp 19)) (b := true) (by kernel_rfl) (by kernel_rfl) (fun _ => ?_) (fun q => by cases q)
  refine XQ.seq E0_ok (by kernel_rfl) ?_
  refine XQ.region (by kernel_rfl) ?_
  refine XR.call E0_ok [20] rfl (K := 14) (args := []) (d := (some (path 12 20))) (by kernel_rfl) (KC.of_calls E0_ok (F := Proofs.Tryd.f14) (v := .bool true) (by kernel_rfl) rfl rfl (works_ok)) ?_
  rintro _ _ _ ⟨rfl, rfl, rfl⟩
  refine XR.conv (σ' := [(20, .bool true)]) (h' := [(1, .cells [ii a_Sorters, s0 0 a_Tables.length] 0 34 0), (0, rc encP a_Tables z0 y0 2)]) (c' := 2) ?_ (by kernel_rfl)
  refine XR.runS E0_ok 1 1 [(2, .bool true)] rfl (by kernel_rfl) ?_
  refine XR.done (by kernel_rfl) ?_
  show XQ _ _ _ _ _ _ _ _
  refine XQ.ret (by kernel_rfl) ?_
  have h := Option.some.inj h
  subst h
  exact ⟨fun i q => (by cases q), .bool true, (by kernel_rfl), rfl⟩
 | false =>
  have h := cF b1 h
  refine XQ.cond (s := (.tmp 19)) (b := false) (by kernel_rfl) (by kernel_rfl) (fun q => by cases q) (fun _ => ?_)
  refine XQ.skip (by kernel_rfl) ?_
  show XQ _ _ _ _ _ _ _ _
  refine XQ.seq E0_ok (by kernel_rfl) ?_
  refine XQ.region (by kernel_rfl) ?_
  refine XR.runT E0_ok 1 3 [(1, pp 1 0), (3, pp 2 0)] [(2, .cells [ii a_Sorters, s0 0 a_Tables.length] 0 37 0), (1, .cells [ii a_Sorters, s0 0 a_Tables.length] 0 34 0), (0, rc encP a_Tables z0 y0 2)] 3 rfl (by kernel_rfl) ?_
  refine XR.done (by kernel_rfl) ?_
  show XQ _ _ _ _ _ _ _ _
  refine XQ.seq E0_ok (by kernel_rfl) ?_
  refine XQ.region (by kernel_rfl) ?_
  refine XR.runS E0_ok 1 1 [(1, pp 1 0), (3, pp 2 0), (23, .agg #[ii a_Sorters, s0 0 a_Tables.length])] rfl (by kernel_rfl) ?_
  obtain ⟨r1, r1_h, h⟩ := bS h
  refine XR.call E0_ok [1, 3, 24] rfl (K := 43) (args := [.agg #[ii a_Sorters, s0 0 a_Tables.length]]) (d := (some (path 12 24))) (by kernel_rfl) (KC.liftH (n0 := 1) (m := 1) (args0 := [.agg #[ii a_Sorters, s0 0 a_Tables.length]]) (h0 := [(0, rc encP a_Tables (z0 + ((rowC encP a_Tables).length + 1)) y0 2)]) (V := .tuple #[s0 1 r1.1.length, ii r1.2]) (V2 := .tuple #[s0 3 r1.1.length, ii r1.2]) (H := [(1, rc (encI .i64) r1.1 0 3 1)]) (H2 := [(3, rc (encI .i64) r1.1 0 3 1)]) [0] [2, 3, 4, 1] (f43_ok m (z0 + ((rowC encP a_Tables).length + 1)) y0 a_Sorters a_Tables r1 r1_h) (by rfl) (by decide) rfl (by kernel_rfl) ⟨⟨_, _, rfl, rfl, .inl ⟨rfl, rowC_scal encP_ok _⟩⟩, trivial⟩ (by decide) (by decide) (by kernel_rfl) ⟨⟨_, _, rfl, rfl, .inl ⟨rfl, rowC_scal (encI_ok .i64) _⟩⟩, trivial⟩ (by rfl)) ?_
  rintro _ _ _ ⟨rfl, rfl, rfl⟩
  refine XR.conv (σ' := [(1, pp 1 0), (3, pp 2 0), (24, .tuple #[s0 3 r1.1.length, ii r1.2])]) (h' := [(3, rc (encI .i64) r1.1 0 3 1), (2, .cells [ii a_Sorters, s0 0 a_Tables.length] 0 37 0), (1, .cells [ii a_Sorters, s0 0 a_Tables.length] 0 34 0), (0, rc encP a_Tables z0 y0 2)]) (c' := 4) ?_ (by kernel_rfl)
  refine XR.runS E0_ok 1 5 [(1, pp 1 0), (3, pp 2 0), (4, s0 3 r1.1.length), (5, ii r1.2)] rfl (by kernel_rfl) ?_
  refine XR.done (by kernel_rfl) ?_
  show XQ _ _ _ _ _ _ _ _
  refine XQ.seq E0_ok (by kernel_rfl) ?_
  refine XQ.region (by kernel_rfl) ?_
  refine XR.runS E0_ok 1 1 [(1, pp 1 0), (3, pp 2 0), (4, s0 3 r1.1.length), (5, ii r1.2), (28, .agg #[ii a_Sorters, s0 0 a_Tables.length])] rfl (by kernel_rfl) ?_
  obtain ⟨r2, r2_h, h⟩ := bS h
  refine XR.call E0_ok [1, 3, 4, 5, 29] rfl (K := 44) (args := [.agg #[ii a_Sorters, s0 0 a_Tables.length]]) (d := (some (path 12 29))) (by kernel_rfl) (KC.liftH (n0 := 1) (m := 1) (args0 := [.agg #[ii a_Sorters, s0 0 a_Tables.length]]) (h0 := [(0, rc encP a_Tables (z0 + ((rowC encP a_Tables).length + 1)) y0 2)]) (V := .tuple #[s0 1 r2.1.length, ii r2.2]) (V2 := .tuple #[s0 4 r2.1.length, ii r2.2]) (H := [(1, rc (encI .i64) r2.1 0 3 1)]) (H2 := [(4, rc (encI .i64) r2.1 0 3 1)]) [0] [2, 3, 4, 5, 1] (f44_ok m (z0 + ((rowC encP a_Tables).length + 1)) y0 a_Sorters a_Tables r2 r2_h) (by rfl) (by decide) rfl (by kernel_rfl) ⟨⟨_, _, rfl, rfl, .inl ⟨rfl, rowC_scal encP_ok _⟩⟩, trivial⟩ (by decide) (by decide) (by kernel_rfl) ⟨⟨_, _, rfl, rfl, .inl ⟨rfl, rowC_scal (encI_ok .i64) _⟩⟩, trivial⟩ (by rfl)) ?_
  rintro _ _ _ ⟨rfl, rfl, rfl⟩
  refine XR.conv (σ' := [(1, pp 1 0), (3, pp 2 0), (4, s0 3 r1.1.length), (5, ii r1.2), (29, .tuple #[s0 4 r2.1.length, ii r2.2])]) (h' := [(4, rc (encI .i64) r2.1 0 3 1), (3, rc (encI .i64) r1.1 0 3 1), (2, .cells [ii a_Sorters, s0 0 a_Tables.length] 0 37 0), (1, .cells [ii a_Sorters, s0 0 a_Tables.length] 0 34 0), (0, rc encP a_Tables z0 y0 2)]) (c' := 5) ?_ (by kernel_rfl)
  refine XR.runS E0_ok 1 5 [(1, pp 1 0), (3, pp 2 0), (4, s0 3 r1.1.length), (5, ii r1.2), (6, s0 4 r2.1.length), (7, ii r2.2)] rfl (by kernel_rfl) ?_
  refine XR.done (by kernel_rfl) ?_
  show XQ _ _ _ _ _ _ _ _
  refine XQ.seq E0_ok (by kernel_rfl) ?_
  refine XQ.region (by kernel_rfl) ?_
  refine XR.runS E0_ok 1 1 [(1, pp 1 0), (3, pp 2 0), (4, s0 3 r1.1.length), (5, ii r1.2), (6, s0 4 r2.1.length), (7, ii r2.2), (33, .agg #[ii a_Sorters, s0 0 a_Tables.length])] rfl (by kernel_rfl) ?_
  obtain ⟨r3, r3_h, h⟩ := bS h
  refine XR.call E0_ok [1, 3, 4, 5, 6, 7, 34] rfl (K := 42) (args := [.agg #[ii a_Sorters, s0 0 a_Tables.length]]) (d := (some (path 12 34))) (by kernel_rfl) (KC.liftH (n0 := 1) (m := 1) (args0 := [.agg #[ii a_Sorters, s0 0 a_Tables.length]]) (h0 := [(0, rc encP a_Tables (z0 + ((rowC encP a_Tables).length + 1)) y0 2)]) (V := .tuple #[.agg #[ii r3.1, s0 1 r3.2.1.length], ii r3.2.2]) (V2 := .tuple #[.agg #[ii r3.1, s0 5 r3.2.1.length], ii r3.2.2]) (H := [(1, rc encP r3.2.1 0 55 2)]) (H2 := [(5, rc encP r3.2.1 0 55 2)]) [0] [2, 3, 4, 5, 6, 1] (f42_ok m (z0 + ((rowC encP a_Tables).length + 1)) y0 a_Sorters a_Tables r3 r3_h) (by rfl) (by decide) rfl (by kernel_rfl) ⟨⟨_, _, rfl, rfl, .inl ⟨rfl, rowC_scal encP_ok _⟩⟩, trivial⟩ (by decide) (by decide) (by kernel_rfl) ⟨⟨_, _, rfl, rfl, .inl ⟨rfl, rowC_scal encP_ok _⟩⟩, trivial⟩ (by rfl)) ?_
  rintro _ _ _ ⟨rfl, rfl, rfl⟩
  refine XR.conv (σ' := [(1, pp 1 0), (3, pp 2 0), (4, s0 3 r1.1.length), (5, ii r1.2), (6, s0 4 r2.1.length), (7, ii r2.2), (34, .tuple #[.agg #[ii r3.1, s0 5 r3.2.1.length], ii r3.2.2])]) (h' := [(5, rc encP r3.2.1 0 55 2), (4, rc (encI .i64) r2.1 0 3 1), (3, rc (encI .i64) r1.1 0 3 1), (2, .cells [ii a_Sorters, s0 0 a_Tables.length] 0 37 0), (1, .cells [ii a_Sorters, s0 0 a_Tables.length] 0 34 0), (0, rc encP a_Tables z0 y0 2)]) (c' := 6) ?_ (by kernel_rfl)
  refine XR.runT E0_ok 1 6 [(1, pp 1 0), (3, pp 2 0), (4, s0 3 r1.1.length), (5, ii r1.2), (6, s0 4 r2.1.length), (7, ii r2.2), (8, pp 6 0), (9, ii r3.2.2)] [(6, .cells [ii r3.1, s0 5 r3.2.1.length] 0 34 0), (5, rc encP r3.2.1 0 55 2), (4, rc (encI .i64) r2.1 0 3 1), (3, rc (encI .i64) r1.1 0 3 1), (2, .cells [ii a_Sorters, s0 0 a_Tables.length] 0 37 0), (1, .cells [ii a_Sorters, s0 0 a_Tables.length] 0 34 0), (0, rc encP a_Tables z0 y0 2)] 7 rfl (by kernel_rfl) ?_
  refine XR.done (by kernel_rfl) ?_
  show XQ _ _ _ _ _ _ _ _
  refine XQ.seq E0_ok (by kernel_rfl) ?_
  refine XQ.region (by kernel_rfl) ?_
  refine XR.runS E0_ok 1 1 [(1, pp 1 0), (3, pp 2 0), (4, s0 3 r1.1.length), (5, ii r1.2), (6, s0 4 r2.1.length), (7, ii r2.2), (8, pp 6 0), (9, ii r3.2.2), (38, .agg #[ii a_Sorters, s0 0 a_Tables.length])] rfl (by kernel_rfl) ?_
  obtain ⟨r4, r4_h, h⟩ := bS h
  refine XR.call E0_ok [1, 3, 4, 5, 6, 7, 8, 9, 39] rfl (K := 45) (args := [.agg #[ii a_Sorters, s0 0 a_Tables.length]]) (d := (some (path 12 39))) (by kernel_rfl) (KC.liftH (n0 := 1) (m := 1) (args0 := [.agg #[ii a_Sorters, s0 0 a_Tables.length]]) (h0 := [(0, rc encP a_Tables (z0 + ((rowC encP a_Tables).length + 1)) y0 2)]) (V := .tuple #[.agg #[ii r4.1, s0 1 r4.2.1.length], ii r4.2.2]) (V2 := .tuple #[.agg #[ii r4.1, s0 7 r4.2.1.length], ii r4.2.2]) (H := [(1, rc encP r4.2.1 0 55 2)]) (H2 := [(7, rc encP r4.2.1 0 55 2)]) [0] [2, 3, 4, 5, 6, 7, 8, 1] (f45_ok m (z0 + ((rowC encP a_Tables).length + 1)) y0 a_Sorters a_Tables r4 r4_h) (by rfl) (by decide) rfl (by kernel_rfl) ⟨⟨_, _, rfl, rfl, .inl ⟨rfl, rowC_scal encP_ok _⟩⟩, trivial⟩ (by decide) (by decide) (by kernel_rfl) ⟨⟨_, _, rfl, rfl, .inl ⟨rfl, rowC_scal encP_ok _⟩⟩, trivial⟩ (by rfl)) ?_
  rintro _ _ _ ⟨rfl, rfl, rfl⟩
  refine XR.conv (σ' := [(1, pp 1 0), (3, pp 2 0), (4, s0 3 r1.1.length), (5, ii r1.2), (6, s0 4 r2.1.length), (7, ii r2.2), (8, pp 6 0), (9, ii r3.2.2), (39, .tuple #[.agg #[ii r4.1, s0 7 r4.2.1.length], ii r4.2.2])]) (h' := [(7, rc encP r4.2.1 0 55 2), (6, .cells [ii r3.1, s0 5 r3.2.1.length] 0 34 0), (5, rc encP r3.2.1 0 55 2), (4, rc (encI .i64) r2.1 0 3 1), (3, rc (encI .i64) r1.1 0 3 1), (2, .cells [ii a_Sorters, s0 0 a_Tables.length] 0 37 0), (1, .cells [ii a_Sorters, s0 0 a_Tables.length] 0 34 0), (0, rc encP a_Tables z0 y0 2)]) (c' := 8) ?_ (by kernel_rfl)
  refine XR.runT E0_ok 1 6 [(1, pp 1 0), (3, pp 2 0), (4, s0 3 r1.1.length), (5, ii r1.2), (6, s0 4 r2.1.length), (7, ii r2.2), (8, pp 6 0), (9, ii r3.2.2), (10, pp 8 0), (11, ii r4.2.2)] [(8, .cells [ii r4.1, s0 7 r4.2.1.length] 0 37 0), (7, rc encP r4.2.1 0 55 2), (6, .cells [ii r3.1, s0 5 r3.2.1.length] 0 34 0), (5, rc encP r3.2.1 0 55 2), (4, rc (encI .i64) r2.1 0 3 1), (3, rc (encI .i64) r1.1 0 3 1), (2, .cells [ii a_Sorters, s0 0 a_Tables.length] 0 37 0), (1, .cells [ii a_Sorters, s0 0 a_Tables.length] 0 34 0), (0, rc encP a_Tables z0 y0 2)] 9 rfl (by kernel_rfl) ?_
  refine XR.done (by kernel_rfl) ?_
  show XQ _ _ _ _ _ _ _ _
  refine XQ.seq E0_ok (by kernel_rfl) ?_
  refine XQ.region (by kernel_rfl) ?_
  refine XR.runS E0_ok 1 1 [(1, pp 1 0), (3, pp 2 0), (4, s0 3 r1.1.length), (5, ii r1.2), (6, s0 4 r2.1.length), (7, ii r2.2), (8, pp 6 0), (9, ii r3.2.2), (10, pp 8 0), (11, ii r4.2.2), (43, .agg #[ii a_Sorters, s0 0 a_Tables.length])] rfl (by kernel_rfl) ?_
  obtain ⟨r5, r5_h, h⟩ := bS h
  refine XR.call E0_ok [1, 3, 4, 5, 6, 7, 8, 9, 10, 11, 44] rfl (K := 41) (args := [.agg #[ii a_Sorters, s0 0 a_Tables.length]]) (d := (some (path 12 44))) (by kernel_rfl) (KQ.call (KC.quiet E0_ok (args0 := [.agg #[ii a_Sorters, s0 0 a_Tables.length]]) (h0 := [(0, rc encP a_Tables (z0 + ((rowC encP a_Tables).length + 1)) y0 2)]) (n := 1) (V := .tuple #[ii r5.1, ii r5.2]) [0] (f41_ok m (z0 + ((rowC encP a_Tables).length + 1)) y0 a_Sorters a_Tables r5 r5_h) rfl (by rfl) (by decide) rfl (by kernel_rfl) ⟨⟨_, _, rfl, rfl, .inl ⟨rfl, rowC_scal encP_ok _⟩⟩, trivial⟩) rfl) ?_
  rintro _ _ _ ⟨rfl, rfl, rfl⟩
  refine XR.conv (σ' := [(1, pp 1 0), (3, pp 2 0), (4, s0 3 r1.1.length), (5, ii r1.2), (6, s0 4 r2.1.length), (7, ii r2.2), (8, pp 6 0), (9, ii r3.2.2), (10, pp 8 0), (11, ii r4.2.2), (44, .tuple #[ii r5.1, ii r5.2])]) (h' := [(8, .cells [ii r4.1, s0 7 r4.2.1.length] 0 37 0), (7, rc encP r4.2.1 0 55 2), (6, .cells [ii r3.1, s0 5 r3.2.1.length] 0 34 0), (5, rc encP r3.2.1 0 55 2), (4, rc (encI .i64) r2.1 0 3 1), (3, rc (encI .i64) r1.1 0 3 1), (2, .cells [ii a_Sorters, s0 0 a_Tables.length] 0 37 0), (1, .cells [ii a_Sorters, s0 0 a_Tables.length] 0 34 0), (0, rc encP a_Tables z0 y0 2)]) (c' := 9) ?_ (by kernel_rfl)
  refine XR.runS E0_ok 1 5 [(1, pp 1 0), (3, pp 2 0), (4, s0 3 r1.1.length), (5, ii r1.2), (6, s0 4 r2.1.length), (7, ii r2.2), (8, pp 6 0), (9, ii r3.2.2), (10, pp 8 0), (11, ii r4.2.2), (12, ii r5.1), (13, ii r5.2)] rfl (by kernel_rfl) ?_
  refine XR.done (by kernel_rfl) ?_
  show XQ _ _ _ _ _ _ _ _
  refine XQ.seq E0_ok (by kernel_rfl) ?_
  refine XQ.region (by kernel_rfl) ?_
  refine XR.runS E0_ok 1 1 [(1, pp 1 0), (3, pp 2 0), (4, s0 3 r1.1.length), (5, ii r1.2), (6, s0 4 r2.1.length), (7, ii r2.2), (8, pp 6 0), (9, ii r3.2.2), (10, pp 8 0), (11, ii r4.2.2), (12, ii r5.1), (13, ii r5.2), (48, .agg #[ii a_Sorters, s0 0 a_Tables.length])] rfl (by kernel_rfl) ?_
  obtain ⟨r6, r6_h, h⟩ := bS h
  refine XR.call E0_ok [1, 3, 4, 5, 6, 7, 8, 9, 10, 11, 12, 13, 49] rfl (K := 46) (args := [.agg #[ii a_Sorters, s0 0 a_Tables.length]]) (d := (some (path 12 49))) (by kernel_rfl) (KQ.call (KC.quiet E0_ok (args0 := [.agg #[ii a_Sorters, s0 0 a_Tables.length]]) (h0 := [(0, rc encP a_Tables (z0 + ((rowC encP a_Tables).length + 1)) y0 2)]) (n := 1) (V := .tuple #[ii r6.1, ii r6.2]) [0] (f46_ok m (z0 + ((rowC encP a_Tables).length + 1)) y0 a_Sorters a_Tables r6 r6_h) rfl (by rfl) (by decide) rfl (by kernel_rfl) ⟨⟨_, _, rfl, rfl, .inl ⟨rfl, rowC_scal encP_ok _⟩⟩, trivial⟩) rfl) ?_
  rintro _ _ _ ⟨rfl, rfl, rfl⟩
  refine XR.conv (σ' := [(1, pp 1 0), (3, pp 2 0), (4, s0 3 r1.1.length), (5, ii r1.2), (6, s0 4 r2.1.length), (7, ii r2.2), (8, pp 6 0), (9, ii r3.2.2), (10, pp 8 0), (11, ii r4.2.2), (12, ii r5.1), (13, ii r5.2), (49, .tuple #[ii r6.1, ii r6.2])]) (h' := [(8, .cells [ii r4.1, s0 7 r4.2.1.length] 0 37 0), (7, rc encP r4.2.1 0 55 2), (6, .cells [ii r3.1, s0 5 r3.2.1.length] 0 34 0), (5, rc encP r3.2.1 0 55 2), (4, rc (encI .i64) r2.1 0 3 1), (3, rc (encI .i64) r1.1 0 3 1), (2, .cells [ii a_Sorters, s0 0 a_Tables.length] 0 37 0), (1, .cells [ii a_Sorters, s0 0 a_Tables.length] 0 34 0), (0, rc encP a_Tables z0 y0 2)]) (c' := 9) ?_ (by kernel_rfl)
  refine XR.runS E0_ok 1 5 [(1, pp 1 0), (3, pp 2 0), (4, s0 3 r1.1.length), (5, ii r1.2), (6, s0 4 r2.1.length), (7, ii r2.2), (8, pp 6 0), (9, ii r3.2.2), (10, pp 8 0), (11, ii r4.2.2), (12, ii r5.1), (13, ii r5.2), (14, ii r6.1), (15, ii r6.2)] rfl (by kernel_rfl) ?_
  refine XR.done (by kernel_rfl) ?_
  show XQ _ _ _ _ _ _ _ _
  refine XQ.seq E0_ok (by kernel_rfl) ?_
  refine XQ.quiet E0_ok (by kernel_rfl) (by kernel_rfl) ?_
  refine XU.run E0_ok 1 2 [1, 3, 5, 7, 8, 9, 10, 11, 12, 13, 14, 15, 52, 53] rfl (σ' := [(1, pp 1 0), (3, pp 2 0), (5, ii r1.2), (7, ii r2.2), (8, pp 6 0), (9, ii r3.2.2), (10, pp 8 0), (11, ii r4.2.2), (12, ii r5.1), (13, ii r5.2), (14, ii r6.1), (15, ii r6.2), (52, s0 3 r1.1.length), (53, s0 4 r2.1.length)]) (by kernel_rfl) ?_
  obtain ⟨r7, r7_h, h⟩ := bS h
  refine XU.callH E0_ok [1, 3, 5, 7, 8, 9, 10, 11, 12, 13, 14, 15, 54] rfl (K := 40) (args := [s0 3 r1.1.length, s0 4 r2.1.length]) (d := (some (path 12 54))) (V := .bool r7) (by kernel_rfl) rfl (KC.quiet E0_ok (args0 := [s0 0 r1.1.length, s0 1 r2.1.length]) (h0 := [(1, rc (encI .i64) r2.1 (0 + ((rowC (encI .i64) r2.1).length + 1)) 3 1), (0, rc (encI .i64) r1.1 (0 + ((rowC (encI .i64) r1.1).length + 1)) 3 1)]) (n := 2) (V := .bool r7) [3, 4] (f40_ok m (0 + ((rowC (encI .i64) r1.1).length + 1)) 3 (0 + ((rowC (encI .i64) r2.1).length + 1)) 3 r1.1 r2.1 r7 r7_h) rfl (by rfl) (by decide) rfl (by kernel_rfl) ⟨⟨_, _, rfl, rfl, .inl ⟨rfl, rowC_scal (encI_ok .i64) _⟩⟩, ⟨_, _, rfl, rfl, .inl ⟨rfl, rowC_scal (encI_ok .i64) _⟩⟩, trivial⟩) (σ' := [(1, pp 1 0), (3, pp 2 0), (5, ii r1.2), (7, ii r2.2), (8, pp 6 0), (9, ii r3.2.2), (10, pp 8 0), (11, ii r4.2.2), (12, ii r5.1), (13, ii r5.2), (14, ii r6.1), (15, ii r6.2), (54, .bool r7)]) (by kernel_rfl) ?_
  refine XU.run E0_ok 1 1 [1, 3, 5, 7, 8, 9, 10, 11, 12, 13, 14, 15, 55] rfl (σ' := [(1, pp 1 0), (3, pp 2 0), (5, ii r1.2), (7, ii r2.2), (8, pp 6 0), (9, ii r3.2.2), (10, pp 8 0), (11, ii r4.2.2), (12, ii r5.1), (13, ii r5.2), (14, ii r6.1), (15, ii r6.2), (55, .bool r7)]) (by kernel_rfl) ?_
  cases b2 : (r7 : Bool) with
  | true =>
   have h := cT b2 h
   refine XU.run E0_ok 1 5 [1, 3, 8, 9, 10, 11, 12, 13, 14, 15, 60] rfl (σ' := [(1, pp 1 0), (3, pp 2 0), (8, pp 6 0), (9, ii r3.2.2), (10, pp 8 0), (11, ii r4.2.2), (12, ii r5.1), (13, ii r5.2), (14, ii r6.1), (15, ii r6.2), (60, .bool (r1.2 == r2.2))]) (by kernel_rfl) ?_
   cases b3 : (r1.2 == r2.2 : Bool) with
   | true =>
    have h := cT b3 h
    refine XU.run E0_ok 1 2 [1, 3, 9, 11, 12, 13, 14, 15, 60, 61, 62] rfl (σ' := [(1, pp 1 0), (3, pp 2 0), (9, ii r3.2.2), (11, ii r4.2.2), (12, ii r5.1), (13, ii r5.2), (14, ii r6.1), (15, ii r6.2), (60, .bool true), (61, .agg #[ii r3.1, s0 5 r3.2.1.length]), (62, .agg #[ii r4.1, s0 7 r4.2.1.length])]) (by kernel_rfl) ?_
    obtain ⟨r8, r8_h, h⟩ := bS h
    refine XU.callH E0_ok [1, 3, 9, 11, 12, 13, 14, 15, 60, 63] rfl (K := 25) (args := [.agg #[ii r3.1, s0 5 r3.2.1.length], .agg #[ii r4.1, s0 7 r4.2.1.length]]) (d := (some (path 12 63))) (V := .bool r8) (by kernel_rfl) rfl (KC.quiet E0_ok (args0 := [.agg #[ii r3.1, s0 0 r3.2.1.length], .agg #[ii r4.1, s0 1 r4.2.1.length]]) (h0 := [(1, rc encP r4.2.1 (0 + ((rowC encP r4.2.1).length + 1)) 55 2), (0, rc encP r3.2.1 (0 + ((rowC encP r3.2.1).length + 1)) 55 2)]) (n := 2) (V := .bool r8) [5, 7] (f25_ok m (0 + ((rowC encP r3.2.1).length + 1)) 55 (0 + ((rowC encP r4.2.1).length + 1)) 55 r3.1 r3.2.1 r4.1 r4.2.1 r8 r8_h) rfl (by rfl) (by decide) rfl (by kernel_rfl) ⟨⟨_, _, rfl, rfl, .inl ⟨rfl, rowC_scal encP_ok _⟩⟩, ⟨_, _, rfl, rfl, .inl ⟨rfl, rowC_scal encP_ok _⟩⟩, trivial⟩) (σ' := [(1, pp 1 0), (3, pp 2 0), (9, ii r3.2.2), (11, ii r4.2.2), (12, ii r5.1), (13, ii r5.2), (14, ii r6.1), (15, ii r6.2), (60, .bool true), (63, .bool r8)]) (by kernel_rfl) ?_
    refine XU.run E0_ok 1 2 [1, 3, 9, 11, 12, 13, 14, 15, 65] rfl (σ' := [(1, pp 1 0), (3, pp 2 0), (9, ii r3.2.2), (11, ii r4.2.2), (12, ii r5.1), (13, ii r5.2), (14, ii r6.1), (15, ii r6.2), (65, .bool r8)]) (by kernel_rfl) ?_
    cases b4 : (r8 : Bool) with
    | true =>
     have h := cT b4 h
     refine XU.run E0_ok 1 5 [1, 3, 12, 13, 14, 15, 70] rfl (σ' := [(1, pp 1 0), (3, pp 2 0), (12, ii r5.1), (13, ii r5.2), (14, ii r6.1), (15, ii r6.2), (70, .bool (r3.2.2 == r4.2.2))]) (by kernel_rfl) ?_
     cases b5 : (r3.2.2 == r4.2.2 : Bool) with
     | true =>
      have h := cT b5 h
      refine XU.run E0_ok 1 5 [1, 3, 13, 15, 75] rfl (σ' := [(1, pp 1 0), (3, pp 2 0), (13, ii r5.2), (15, ii r6.2), (75, .bool (r5.1 == r6.1))]) (by kernel_rfl) ?_
      cases b6 : (r5.1 == r6.1 : Bool) with
      | true =>
       have h := cT b6 h
       refine XU.run E0_ok 1 5 [1, 3, 80] rfl (σ' := [(1, pp 1 0), (3, pp 2 0), (80, .bool (r5.2 == r6.2))]) (by kernel_rfl) ?_
       cases b7 : (r5.2 == r6.2 : Bool) with
       | true =>
        have h := cT b7 h
        refine XU.run E0_ok 1 1 [3, 80, 81] rfl (σ' := [(3, pp 2 0), (80, .bool true), (81, .agg #[ii a_Sorters, s0 0 a_Tables.length])]) (by kernel_rfl) ?_
        obtain ⟨r9, r9_h, h⟩ := bS h
        refine XU.callH E0_ok [3, 80, 82] rfl (K := 47) (args := [.agg #[ii a_Sorters, s0 0 a_Tables.length]]) (d := (some (path 12 82))) (V := ii r9) (by kernel_rfl) rfl (KC.quiet E0_ok (args0 := [.agg #[ii a_Sorters, s0 0 a_Tables.length]]) (h0 := [(0, rc encP a_Tables (z0 + ((rowC encP a_Tables).length + 1)) y0 2)]) (n := 1) (V := ii r9) [0] (f47_ok m (z0 + ((rowC encP a_Tables).length + 1)) y0 a_Sorters a_Tables r9 r9_h) rfl (by rfl) (by decide) rfl (by kernel_rfl) ⟨⟨_, _, rfl, rfl, .inl ⟨rfl, rowC_scal encP_ok _⟩⟩, trivial⟩) (σ' := [(3, pp 2 0), (80, .bool true), (82, ii r9)]) (by kernel_rfl) ?_
        refine XU.run E0_ok 1 1 [80, 82, 83] rfl (σ' := [(80, .bool true), (82, ii r9), (83, .agg #[ii a_Sorters, s0 0 a_Tables.length])]) (by kernel_rfl) ?_
        obtain ⟨r10, r10_h, h⟩ := bS h
        refine XU.callH E0_ok [80, 82, 84] rfl (K := 48) (args := [.agg #[ii a_Sorters, s0 0 a_Tables.length]]) (d := (some (path 12 84))) (V := ii r10) (by kernel_rfl) rfl (KC.quiet E0_ok (args0 := [.agg #[ii a_Sorters, s0 0 a_Tables.length]]) (h0 := [(0, rc encP a_Tables (z0 + ((rowC encP a_Tables).length + 1)) y0 2)]) (n := 1) (V := ii r10) [0] (f48_ok m (z0 + ((rowC encP a_Tables).length + 1)) y0 a_Sorters a_Tables r10 r10_h) rfl (by rfl) (by decide) rfl (by kernel_rfl) ⟨⟨_, _, rfl, rfl, .inl ⟨rfl, rowC_scal encP_ok _⟩⟩, trivial⟩) (σ' := [(80, .bool true), (82, ii r9), (84, ii r10)]) (by kernel_rfl) ?_
        refine XU.run E0_ok 1 3 [87] rfl (σ' := [(87, .bool (r9 == r10))]) (by kernel_rfl) ?_
        cases b8 : (r9 == r10 : Bool) with
        | true =>
         have h := cT b8 h
         refine XU.call E0_ok [87, 88] rfl (K := 14) (F := Proofs.Tryd.f14) (args := []) (d := (some (path 12 88))) (v := .bool true) (by kernel_rfl) (by kernel_rfl) rfl rfl (works_ok) (σ' := [(87, .bool true), (88, .bool true)]) (by kernel_rfl) ?_
         refine XU.run E0_ok 1 2 [2] rfl (σ' := [(2, .bool true)]) (by kernel_rfl) ?_
         refine XU.done (by kernel_rfl) ?_
         show XQ _ _ _ _ _ _ _ _
         refine XQ.ret (by kernel_rfl) ?_
         have h := Option.some.inj h
         subst h
         exact ⟨fun i q => (by cases q), .bool true, (by kernel_rfl), rfl⟩
        | false =>
         have h := cF b8 h
         refine XU.run E0_ok 1 3 [2] rfl (σ' := [(2, .bool false)]) (by kernel_rfl) ?_
         refine XU.done (by kernel_rfl) ?_
         show XQ _ _ _ _ _ _ _ _
         refine XQ.ret (by kernel_rfl) ?_
         have h := Option.some.inj h
         subst h
         exact ⟨fun i q => (by cases q), .bool false, (by kernel_rfl), rfl⟩
       | false =>
        have h := cF b7 h
        refine XU.run E0_ok 1 10 [2] rfl (σ' := [(2, .bool false)]) (by kernel_rfl) ?_
        refine XU.done (by kernel_rfl) ?_
        show XQ _ _ _ _ _ _ _ _
        refine XQ.ret (by kernel_rfl) ?_
        have h := Option.some.inj h
        subst h
        exact ⟨fun i q => (by cases q), .bool false, (by kernel_rfl), rfl⟩
      | false =>
       have h := cF b6 h
       refine XU.run E0_ok 1 15 [2] rfl (σ' := [(2, .bool false)]) (by kernel_rfl) ?_
       refine XU.done (by kernel_rfl) ?_
       show XQ _ _ _ _ _ _ _ _
       refine XQ.ret (by kernel_rfl) ?_
       have h := Option.some.inj h
       subst h
       exact ⟨fun i q => (by cases q), .bool false, (by kernel_rfl), rfl⟩
     | false =>
      have h := cF b5 h
      refine XU.run E0_ok 1 20 [2] rfl (σ' := [(2, .bool false)]) (by kernel_rfl) ?_
      refine XU.done (by kernel_rfl) ?_
      show XQ _ _ _ _ _ _ _ _
      refine XQ.ret (by kernel_rfl) ?_
      have h := Option.some.inj h
      subst h
      exact ⟨fun i q => (by cases q), .bool false, (by kernel_rfl), rfl⟩
    | false =>
     have h := cF b4 h
     refine XU.run E0_ok 1 25 [2] rfl (σ' := [(2, .bool false)]) (by kernel_rfl) ?_
     refine XU.done (by kernel_rfl) ?_
     show XQ _ _ _ _ _ _ _ _
     refine XQ.ret (by kernel_rfl) ?_
     have h := Option.some.inj h
     subst h
     exact ⟨fun i q => (by cases q), .bool false, (by kernel_rfl), rfl⟩
   | false =>
    have h := cF b3 h
    refine XU.run E0_ok 1 30 [2] rfl (σ' := [(2, .bool false)]) (by kernel_rfl) ?_
    refine XU.done (by kernel_rfl) ?_
    show XQ _ _ _ _ _ _ _ _
    refine XQ.ret (by kernel_rfl) ?_
    have h := Option.some.inj h
    subst h
    exact ⟨fun i q => (by cases q), .bool false, (by kernel_rfl), rfl⟩
  | false =>
   have h := cF b2 h
   refine XU.run E0_ok 1 35 [2] rfl (σ' := [(2, .bool false)]) (by kernel_rfl) ?_
   refine XU.done (by kernel_rfl) ?_
   show XQ _ _ _ _ _ _ _ _
   refine XQ.ret (by kernel_rfl) ?_
   have h := Option.some.inj h
   subst h
   exact ⟨fun i q => (by cases q), .bool false, (by kernel_rfl), rfl⟩

end Go.Xm
