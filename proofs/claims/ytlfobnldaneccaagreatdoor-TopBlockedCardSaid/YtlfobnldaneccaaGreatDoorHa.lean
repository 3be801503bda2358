/- What these functions of the program compute, as functions in Lean, and the proofs that they do: store.sized, store.Check, slices.Equal[[]int,int], store.both, store.Join$1, store.Of, store.Join, store.meet, store.Finer. Conditions: the library's variables hold what their texts lay. -/
import Derived.Test.YtlfobnldaneccaaGreatDoorZk
import Derived.Test.YtlfobnldaneccaaGreatDoorWd
namespace Go.Xm
open Go.RowKit
set_option linter.unusedVariables false
set_option linter.unusedSimpArgs false
set_option maxRecDepth 20000
set_option maxHeartbeats 4000000
noncomputable def f43_C43 : Code := Proofs.Tryz.f43.body.getD .skip
def f43 (m : Nat) (a : List Int) : Option (Int) :=
 cond (((a.length : Nat) : Int) == 0) (
  some (4)
 ) (
  cond (decide (((a.length : Nat) : Int) > 9)) (
   some (3)
  ) (
   some (0)
  )
 )
set_option maxHeartbeats 8000000 in
theorem f43_ok (m : Nat) (z0 : Nat) (y0 : Nat) (a : List Int) (o : Int) (h : f43 m a = some o) : KC E0 43 [s0 0 a.length] [(0, rc (encI .i64) a z0 y0 1)] 1 (fun v _ _ => v = ii o) := by
 refine KC.bodyN E0_ok (F := Proofs.Tryz.f43) (by kernel_rfl) (code := f43_C43) (by kernel_rfl) (nt := 11) (by kernel_rfl) (rs := [.tmp 2]) (by kernel_rfl) (by kernel_rfl) (σ := [(0, s0 0 a.length)]) (by kernel_rfl) ?_
 unfold f43 at h
 refine qQ ?_
 refine rS 1 [(0, s0 0 a.length)] ?_
 refine dQ ?_
 show XQ _ _ _ _ _ _ _ _
 refine sQ ?_
 refine XQ.block (id := 0) (by kernel_rfl) ?_
 refine qQ ?_
 refine rS 4 [(0, s0 0 a.length), (3, .bool (((a.length : Nat) : Int) == 0))] ?_
 refine dQ ?_
 show XQ _ _ _ _ _ _ _ _
 cases b1 : (((a.length : Nat) : Int) == 0 : Bool) with
 | true =>
  have h := cT b1 h
  refine iT (.tmp 3) ?_
  refine qQ ?_
  refine rS 1 [(2, ii 4)] ?_
  refine dQ ?_
  show XQ _ _ _ _ _ _ _ _
  refine XQ.ret (by kernel_rfl) ?_
  have h := Option.some.inj h
  subst h
  exact ⟨fun i q => (by cases q), ii 4, (by kernel_rfl), rfl⟩
 | false =>
  have h := cF b1 h
  refine iF (.tmp 3) ?_
  refine qQ ?_
  refine rS 4 [(7, .bool (decide (((a.length : Nat) : Int) > 9)))] ?_
  refine dQ ?_
  show XQ _ _ _ _ _ _ _ _
  cases b2 : (decide (((a.length : Nat) : Int) > 9) : Bool) with
  | true =>
   have h := cT b2 h
   refine iT (.tmp 7) ?_
   refine qQ ?_
   refine rS 1 [(2, ii 3)] ?_
   refine dQ ?_
   show XQ _ _ _ _ _ _ _ _
   refine XQ.ret (by kernel_rfl) ?_
   have h := Option.some.inj h
   subst h
   exact ⟨fun i q => (by cases q), ii 3, (by kernel_rfl), rfl⟩
  | false =>
   have h := cF b2 h
   refine iF (.tmp 7) ?_
   refine kQ ?_
   show XQ _ _ _ _ _ _ _ _
   refine qQ ?_
   refine rS 1 [(2, ii 0)] ?_
   refine dQ ?_
   show XQ _ _ _ _ _ _ _ _
   refine XQ.ret (by kernel_rfl) ?_
   have h := Option.some.inj h
   subst h
   exact ⟨fun i q => (by cases q), ii 0, (by kernel_rfl), rfl⟩
noncomputable def f21_C21 : Code := Proofs.Tryz.f21.body.getD .skip
noncomputable def f21_L1 : Code := lft (lft (rgt (lft (rgt (rgt (rgt f21_C21))))))
inductive Of21_1 where
 | r (x2_r1 : Int)
 | x0
def f21_1 (m : Nat) : Nat → List Int → Int → Int → Int → Option Of21_1
 | 0, _, _, _, _ => none
 | fuel + 1, a, x4_1, x13_1, x14_1 =>
  cond (decide (x14_1 < x13_1)) (
   cond (inRow x14_1 a.length) (
    cond (decide ((List.getD a (Int.toNat x14_1) 0) < 0)) (
     some (.r 1)
    ) (
     cond (decide ((List.getD a (Int.toNat x14_1) 0) > x4_1)) (
      some (.r 7)
     ) (
      f21_1 m fuel a (cond ((List.getD a (Int.toNat x14_1) 0) == x4_1) (w64 (x4_1 + 1)) x4_1) x13_1 (w64 (x14_1 + 1))
     )
    )
   ) none
  ) (
   some (.x0)
  )
abbrev qha1 (a : List Int) (x13_1 : Int) (x14_1 : Int) (t : St) : St := (12, s0 0 a.length) :: (13, ii x13_1) :: (14, ii x14_1) :: t
theorem f21_1_ok (m : Nat) : ∀ (fuel : Nat) (z0 : Nat) (y0 : Nat) (a : List Int) (x4_1 : Int) (x13_1 : Int) (x14_1 : Int) (o : Of21_1), f21_1 m fuel a x4_1 x13_1 x14_1 = some o → ∀ Q : QP, (match o with | .r x2_r1 => Q .ret [(2, ii x2_r1)] [(0, rc (encI .i64) a z0 y0 1)] 1 | .x0 => Q (.exit 0) [] [(0, rc (encI .i64) a z0 y0 1)] 1) → XL E0 32 1 fuel f21_L1 ((4, ii x4_1) :: qha1 a x13_1 x14_1 []) [(0, rc (encI .i64) a z0 y0 1)] 1 Q
 | 0, z0, y0, a, x4_1, x13_1, x14_1, o, h, Q, hQ => by cases h
 | fuel + 1, z0, y0, a, x4_1, x13_1, x14_1, o, h, Q, hQ => by
  unfold f21_1 at h
  refine XL.succ E0_ok ?_
  refine qQ ?_
  refine rS 1 ((4, ii x4_1) :: qha1 a x13_1 x14_1 [(15, .bool (decide (x14_1 < x13_1)))]) ?_
  refine dQ ?_
  show XQ _ _ _ _ _ _ _ _
  refine sQ ?_
  cases b1 : (decide (x14_1 < x13_1) : Bool) with
  | true =>
   have h := cT b1 h
   refine iT (.tmp 15) ?_
   refine kQ ?_
   show XQ _ _ _ _ _ _ _ _
   refine sQ ?_
   refine XQ.block (id := 1) (by kernel_rfl) ?_
   refine qQ ?_
   cases b2 : (inRow x14_1 a.length : Bool) with
   | false => cases (cF b2 h)
   | true =>
    have h := cT b2 h
    refine XR.rd E0_ok [4, 12, 13, 14, 16] rfl (v := pp 0 ((Int.toNat x14_1) * 1)) (v_idx (s := 1) (x := (src 32 (.tmp 12))) (y := (src 32 (.tmp 14))) (b := 0) (o := 0) (len := a.length) (cap := a.length) (ik := .i64) (i := x14_1) (off := (Int.toNat x14_1) * 1) (d := (some (path 12 16))) (by kernel_rfl) (by kernel_rfl) (by kernel_rfl) b2 (by omega)) (σ' := ((4, ii x4_1) :: qha1 a x13_1 x14_1 [(16, pp 0 ((Int.toNat x14_1) * 1))])) (by kernel_rfl) ?_
    refine XR.rd E0_ok [4, 12, 13, 14, 17] rfl (v := ii (List.getD a (Int.toNat x14_1) 0)) (v_load1 (encI_ok .i64) (x := (src 32 (.tmp 16))) (b := 0) (off := (Int.toNat x14_1) * 1) (xs := a) (fz := z0) (e := y0) (es := 1) (d := (some (path 12 17))) (by kernel_rfl) (by kernel_rfl) (by kernel_rfl) (Int.toNat x14_1) 0 0 (by first | with_reducible rfl | omega | rfl) (row_len (inRow_toNat b2) (by simp)) rfl rfl) (σ' := ((4, ii x4_1) :: qha1 a x13_1 x14_1 [(17, ii (List.getD a (Int.toNat x14_1) 0))])) (by kernel_rfl) ?_
    refine rS 1 ((4, ii x4_1) :: (6, ii (List.getD a (Int.toNat x14_1) 0)) :: qha1 a x13_1 x14_1 []) ?_
    refine dQ ?_
    show XQ _ _ _ _ _ _ _ _
    refine XQ.block (id := 2) (by kernel_rfl) ?_
    refine qQ ?_
    refine rS 3 ((4, ii x4_1) :: (6, ii (List.getD a (Int.toNat x14_1) 0)) :: qha1 a x13_1 x14_1 [(18, .bool (decide ((List.getD a (Int.toNat x14_1) 0) < 0)))]) ?_
    refine dQ ?_
    show XQ _ _ _ _ _ _ _ _
    cases b3 : (decide ((List.getD a (Int.toNat x14_1) 0) < 0) : Bool) with
    | true =>
     have h := cT b3 h
     refine iT (.tmp 18) ?_
     refine qQ ?_
     refine rS 1 [(2, ii 1)] ?_
     refine dQ ?_
     show XQ _ _ _ _ _ _ _ _
     refine XQ.ren (σ' := [(2, ii 1)]) (h' := [(0, rc (encI .i64) a z0 y0 1)]) (c' := 1) [0] (by decide) rfl ⟨rfl, trivial⟩ ⟨⟨_, _, rfl, rfl, .inl ⟨rfl, rwI⟩⟩, trivial⟩ rfl ?_
     refine XQ.ret (by kernel_rfl) ?_
     cases h
     exact hQ
    | false =>
     have h := cF b3 h
     refine iF (.tmp 18) ?_
     refine qQ ?_
     refine rS 4 ((4, ii x4_1) :: (6, ii (List.getD a (Int.toNat x14_1) 0)) :: qha1 a x13_1 x14_1 [(21, .bool (decide ((List.getD a (Int.toNat x14_1) 0) > x4_1)))]) ?_
     refine dQ ?_
     show XQ _ _ _ _ _ _ _ _
     cases b4 : (decide ((List.getD a (Int.toNat x14_1) 0) > x4_1) : Bool) with
     | true =>
      have h := cT b4 h
      refine iT (.tmp 21) ?_
      refine qQ ?_
      refine rS 1 [(2, ii 7)] ?_
      refine dQ ?_
      show XQ _ _ _ _ _ _ _ _
      refine XQ.ren (σ' := [(2, ii 7)]) (h' := [(0, rc (encI .i64) a z0 y0 1)]) (c' := 1) [0] (by decide) rfl ⟨rfl, trivial⟩ ⟨⟨_, _, rfl, rfl, .inl ⟨rfl, rwI⟩⟩, trivial⟩ rfl ?_
      refine XQ.ret (by kernel_rfl) ?_
      cases h
      exact hQ
     | false =>
      have h := cF b4 h
      refine iF (.tmp 21) ?_
      refine qQ ?_
      refine rS 4 ((4, ii x4_1) :: qha1 a x13_1 x14_1 [(25, .bool ((List.getD a (Int.toNat x14_1) 0) == x4_1))]) ?_
      refine dQ ?_
      show XQ _ _ _ _ _ _ _ _
      refine XQ.meetC (σ' := ((4, ii (cond ((List.getD a (Int.toNat x14_1) 0) == x4_1) (w64 (x4_1 + 1)) x4_1)) :: qha1 a x13_1 x14_1 [])) (h' := [(0, rc (encI .i64) a z0 y0 1)]) (c' := 1) ?_ ?_
      rotate_left
      ·refine XQ.cond (s := (.tmp 25)) (b := (List.getD a (Int.toNat x14_1) 0) == x4_1) (by kernel_rfl) (by kernel_rfl) (fun b5 => ?_) (fun b5 => ?_)
       ·refine rQ ?_
        refine rS 3 ((4, ii (w64 (x4_1 + 1))) :: qha1 a x13_1 x14_1 []) ?_
        refine dQ ?_
        refine ⟨rfl, ?_, ?_⟩
        ·try rw [b5]
         exact ⟨rfl, rfl, rfl, rfl, trivial⟩
        ·try rw [b5]
         kernel_rfl
       ·refine kQ ?_
        refine ⟨rfl, ?_, ?_⟩
        ·try rw [b5]
         exact ⟨rfl, rfl, rfl, rfl, trivial⟩
        ·try rw [b5]
         kernel_rfl
      show XQ _ _ _ _ _ _ _ _
      refine rQ ?_
      refine rS 2 [(4, ii (cond ((List.getD a (Int.toNat x14_1) 0) == x4_1) (w64 (x4_1 + 1)) x4_1)), (12, s0 0 a.length), (13, ii x13_1), (14, ii (w64 (x14_1 + 1)))] ?_
      refine dQ ?_
      show XL _ _ _ _ _ _ _ _ _
      refine XL.ren (σ' := [(4, ii (cond ((List.getD a (Int.toNat x14_1) 0) == x4_1) (w64 (x4_1 + 1)) x4_1)), (12, s0 0 a.length), (13, ii x13_1), (14, ii (w64 (x14_1 + 1)))]) (h' := [(0, rc (encI .i64) a z0 y0 1)]) (c' := 1) [0] (by decide) rfl ⟨rfl, rfl, rfl, rfl, trivial⟩ ⟨⟨_, _, rfl, rfl, .inl ⟨rfl, rwI⟩⟩, trivial⟩ rfl ?_
      refine XL.conv (f21_1_ok m fuel z0 y0 a (cond ((List.getD a (Int.toNat x14_1) 0) == x4_1) (w64 (x4_1 + 1)) x4_1) x13_1 (w64 (x14_1 + 1)) o h Q hQ) (by first | with_reducible rfl | simp | rfl)
  | false =>
   have h := cF b1 h
   refine iF (.tmp 15) ?_
   refine XQ.ren (σ' := []) (h' := [(0, rc (encI .i64) a z0 y0 1)]) (c' := 1) [0] (by decide) rfl trivial ⟨⟨_, _, rfl, rfl, .inl ⟨rfl, rwI⟩⟩, trivial⟩ rfl ?_
   refine XQ.exit (i := 0) (by kernel_rfl) ?_
   cases h
   exact hQ
def f21 (m : Nat) (a : List Int) : Option (Int) :=
 (f43 m a).bind fun r1 =>
  cond (r1 != 0) (
   some (r1)
  ) (
   (f21_1 m m a 0 ((a.length : Nat) : Int) 0).bind fun o1 =>
    match o1 with
    | .r x2_r1 =>
     some (x2_r1)
    | .x0 =>
     some (0)
  )
set_option maxHeartbeats 8000000 in
theorem f21_ok (m : Nat) (z0 : Nat) (y0 : Nat) (a : List Int) (o : Int) (h : f21 m a = some o) : KC E0 21 [s0 0 a.length] [(0, rc (encI .i64) a z0 y0 1)] 1 (fun v _ _ => v = ii o) := by
 refine KC.bodyN E0_ok (F := Proofs.Tryz.f21) (by kernel_rfl) (code := f21_C21) (by kernel_rfl) (nt := 32) (by kernel_rfl) (rs := [.tmp 2]) (by kernel_rfl) (by kernel_rfl) (σ := [(0, s0 0 a.length)]) (by kernel_rfl) ?_
 unfold f21 at h
 refine qQ ?_
 refine rS 1 [(0, s0 0 a.length)] ?_
 refine dQ ?_
 show XQ _ _ _ _ _ _ _ _
 refine sQ ?_
 refine qQ ?_
 refine rS 1 [(0, s0 0 a.length), (7, s0 0 a.length)] ?_
 obtain ⟨r1, r1_h, h⟩ := bS h
 refine XR.call E0_ok [0, 8] rfl (K := 43) (args := [s0 0 a.length]) (d := (some (path 12 8))) (by kernel_rfl) (KQ.call (KC.quiet E0_ok (args0 := [s0 0 a.length]) (h0 := [(0, rc (encI .i64) a (z0 + ((rowC (encI .i64) a).length + 1)) y0 1)]) (n := 1) (V := ii r1) [0] (f43_ok m (z0 + ((rowC (encI .i64) a).length + 1)) y0 a r1 r1_h) rfl (by rfl) (by decide) rfl (by kernel_rfl) ⟨⟨_, _, rfl, rfl, .inl ⟨rfl, rwI⟩⟩, trivial⟩) rfl) ?_
 rintro _ _ _ ⟨rfl, rfl, rfl⟩
 refine XR.conv (σ' := [(0, s0 0 a.length), (8, ii r1)]) (h' := [(0, rc (encI .i64) a z0 y0 1)]) (c' := 1) ?_ (by kernel_rfl)
 refine rS 1 [(0, s0 0 a.length), (3, ii r1)] ?_
 refine nQ id ?_
 refine rS 2 [(0, s0 0 a.length), (3, ii r1), (10, .bool (r1 != 0))] ?_
 refine dQ ?_
 show XQ _ _ _ _ _ _ _ _
 cases b1 : (r1 != 0 : Bool) with
 | true =>
  have h := cT b1 h
  refine iT (.tmp 10) ?_
  refine qQ ?_
  refine rS 2 [(2, ii r1)] ?_
  refine dQ ?_
  show XQ _ _ _ _ _ _ _ _
  refine XQ.ret (by kernel_rfl) ?_
  have h := Option.some.inj h
  subst h
  exact ⟨fun i q => (by cases q), ii r1, (by kernel_rfl), rfl⟩
 | false =>
  have h := cF b1 h
  refine iF (.tmp 10) ?_
  refine kQ ?_
  show XQ _ _ _ _ _ _ _ _
  refine qQ ?_
  refine rS 1 [(0, s0 0 a.length), (4, ii 0)] ?_
  refine dQ ?_
  show XQ _ _ _ _ _ _ _ _
  refine sQ ?_
  refine qQ ?_
  refine rS 3 [(4, ii 0), (12, s0 0 a.length), (13, ii ((a.length : Nat) : Int)), (14, ii 0)] ?_
  refine dQ ?_
  show XQ _ _ _ _ _ _ _ _
  refine XQ.block (id := 0) (by kernel_rfl) ?_
  refine XQ.loop m (by kernel_rfl) ?_
  obtain ⟨o1, o1_h, h⟩ := bS h
  refine XL.ren (σ' := [(4, ii 0), (12, s0 0 a.length), (13, ii ((a.length : Nat) : Int)), (14, ii 0)]) (h' := [(0, rc (encI .i64) a z0 y0 1)]) (c' := 1) [0] (by decide) rfl ⟨rfl, rfl, rfl, rfl, trivial⟩ ⟨⟨_, _, rfl, rfl, .inl ⟨rfl, rwI⟩⟩, trivial⟩ rfl ?_
  cases o1 with
  | r x2_r1 =>
   dsimp only at h
   refine XL.conv (f21_1_ok m m z0 y0 a 0 ((a.length : Nat) : Int) 0 (.r x2_r1) o1_h _ ?_) (by first | with_reducible rfl | simp | rfl)
   have h := Option.some.inj h
   subst h
   exact ⟨fun i q => (by cases q), ii x2_r1, (by kernel_rfl), rfl⟩
  | x0 =>
   dsimp only at h
   refine XL.conv (f21_1_ok m m z0 y0 a 0 ((a.length : Nat) : Int) 0 (.x0) o1_h _ ?_) (by first | with_reducible rfl | simp | rfl)
   show XQ _ _ _ _ _ _ _ _
   refine qQ ?_
   refine rS 1 [(2, ii 0)] ?_
   refine dQ ?_
   show XQ _ _ _ _ _ _ _ _
   refine XQ.ret (by kernel_rfl) ?_
   have h := Option.some.inj h
   subst h
   exact ⟨fun i q => (by cases q), ii 0, (by kernel_rfl), rfl⟩
noncomputable def f49_C49 : Code := Proofs.Tryz.f49.body.getD .skip
noncomputable def f49_L1 : Code := lft (lft (rgt (lft (rgt (rgt f49_C49)))))
inductive Of49_1 where
 | r
 | x0
def f49_1 (m : Nat) : Nat → List Int → List Int → Int → Int → Option Of49_1
 | 0, _, _, _, _ => none
 | fuel + 1, a, b, x12_1, x13_1 =>
  cond (decide (x13_1 < x12_1)) (
   cond (inRow x13_1 a.length) (
    cond (inRow x13_1 b.length) (
     cond ((List.getD a (Int.toNat x13_1) 0) != (List.getD b (Int.toNat x13_1) 0)) (
      some (.r)
     ) (
      f49_1 m fuel a b x12_1 (w64 (x13_1 + 1))
     )
    ) none
   ) none
  ) (
   some (.x0)
  )
abbrev qha2 (a : List Int) (b : List Int) (t : St) : St := (0, s0 0 a.length) :: (1, s0 1 b.length) :: t
theorem f49_1_ok (m : Nat) : ∀ (fuel : Nat) (z0 : Nat) (y0 : Nat) (a : List Int) (z1 : Nat) (y1 : Nat) (b : List Int) (x12_1 : Int) (x13_1 : Int) (o : Of49_1), f49_1 m fuel a b x12_1 x13_1 = some o → ∀ Q : QP, (match o with | .r => Q .ret [(4, .bool false)] [(1, rc (encI .i64) b z1 y1 1), (0, rc (encI .i64) a z0 y0 1)] 2 | .x0 => Q (.exit 0) [] [(1, rc (encI .i64) b z1 y1 1), (0, rc (encI .i64) a z0 y0 1)] 2) → XL E0 26 2 fuel f49_L1 (qha2 a b [(12, ii x12_1), (13, ii x13_1)]) [(1, rc (encI .i64) b z1 y1 1), (0, rc (encI .i64) a z0 y0 1)] 2 Q
 | 0, z0, y0, a, z1, y1, b, x12_1, x13_1, o, h, Q, hQ => by cases h
 | fuel + 1, z0, y0, a, z1, y1, b, x12_1, x13_1, o, h, Q, hQ => by
  unfold f49_1 at h
  refine XL.succ E0_ok ?_
  refine qQ ?_
  refine rS 1 (qha2 a b [(12, ii x12_1), (13, ii x13_1), (14, .bool (decide (x13_1 < x12_1)))]) ?_
  refine dQ ?_
  show XQ _ _ _ _ _ _ _ _
  refine sQ ?_
  cases b1 : (decide (x13_1 < x12_1) : Bool) with
  | true =>
   have h := cT b1 h
   refine iT (.tmp 14) ?_
   refine kQ ?_
   show XQ _ _ _ _ _ _ _ _
   refine sQ ?_
   refine XQ.block (id := 1) (by kernel_rfl) ?_
   refine qQ ?_
   refine rS 2 (qha2 a b [(5, ii x13_1), (12, ii x12_1), (13, ii x13_1)]) ?_
   refine dQ ?_
   show XQ _ _ _ _ _ _ _ _
   refine sQ ?_
   refine XQ.quiet E0_ok (by kernel_rfl) (by kernel_rfl) ?_
   refine XU.run E0_ok 1 2 [0, 1, 5, 12, 13, 16, 17] rfl (σ' := (qha2 a b [(5, ii x13_1), (12, ii x12_1), (13, ii x13_1), (16, s0 0 a.length), (17, ii x13_1)])) (by kernel_rfl) ?_
   cases b2 : (inRow x13_1 a.length : Bool) with
   | false => cases (cF b2 h)
   | true =>
    have h := cT b2 h
    refine XU.rd E0_ok [0, 1, 5, 12, 13, 18] rfl (v := pp 0 ((Int.toNat x13_1) * 1)) (v_idx (s := 1) (x := (src 26 (.tmp 16))) (y := (src 26 (.tmp 17))) (b := 0) (o := 0) (len := a.length) (cap := a.length) (ik := .i64) (i := x13_1) (off := (Int.toNat x13_1) * 1) (d := (some (path 12 18))) (by kernel_rfl) (by kernel_rfl) (by kernel_rfl) b2 (by omega)) (σ' := (qha2 a b [(5, ii x13_1), (12, ii x12_1), (13, ii x13_1), (18, pp 0 ((Int.toNat x13_1) * 1))])) (by kernel_rfl) ?_
    refine XU.rd E0_ok [0, 1, 5, 12, 13, 19] rfl (v := ii (List.getD a (Int.toNat x13_1) 0)) (v_load1 (encI_ok .i64) (x := (src 26 (.tmp 18))) (b := 0) (off := (Int.toNat x13_1) * 1) (xs := a) (fz := z0) (e := y0) (es := 1) (d := (some (path 12 19))) (by kernel_rfl) (by kernel_rfl) (by kernel_rfl) (Int.toNat x13_1) 0 0 (by first | with_reducible rfl | omega | rfl) (row_len (inRow_toNat b2) (by simp)) rfl rfl) (σ' := (qha2 a b [(5, ii x13_1), (12, ii x12_1), (13, ii x13_1), (19, ii (List.getD a (Int.toNat x13_1) 0))])) (by kernel_rfl) ?_
    refine XU.run E0_ok 1 2 [0, 1, 12, 13, 19, 20, 21] rfl (σ' := (qha2 a b [(12, ii x12_1), (13, ii x13_1), (19, ii (List.getD a (Int.toNat x13_1) 0)), (20, s0 1 b.length), (21, ii x13_1)])) (by kernel_rfl) ?_
    cases b3 : (inRow x13_1 b.length : Bool) with
    | false => cases (cF b3 h)
    | true =>
     have h := cT b3 h
     refine XU.rd E0_ok [0, 1, 12, 13, 19, 22] rfl (v := pp 1 ((Int.toNat x13_1) * 1)) (v_idx (s := 1) (x := (src 26 (.tmp 20))) (y := (src 26 (.tmp 21))) (b := 1) (o := 0) (len := b.length) (cap := b.length) (ik := .i64) (i := x13_1) (off := (Int.toNat x13_1) * 1) (d := (some (path 12 22))) (by kernel_rfl) (by kernel_rfl) (by kernel_rfl) b3 (by omega)) (σ' := (qha2 a b [(12, ii x12_1), (13, ii x13_1), (19, ii (List.getD a (Int.toNat x13_1) 0)), (22, pp 1 ((Int.toNat x13_1) * 1))])) (by kernel_rfl) ?_
     refine XU.rd E0_ok [0, 1, 12, 13, 19, 23] rfl (v := ii (List.getD b (Int.toNat x13_1) 0)) (v_load1 (encI_ok .i64) (x := (src 26 (.tmp 22))) (b := 1) (off := (Int.toNat x13_1) * 1) (xs := b) (fz := z1) (e := y1) (es := 1) (d := (some (path 12 23))) (by kernel_rfl) (by kernel_rfl) (by kernel_rfl) (Int.toNat x13_1) 0 0 (by first | with_reducible rfl | omega | rfl) (row_len (inRow_toNat b3) (by simp)) rfl rfl) (σ' := (qha2 a b [(12, ii x12_1), (13, ii x13_1), (19, ii (List.getD a (Int.toNat x13_1) 0)), (23, ii (List.getD b (Int.toNat x13_1) 0))])) (by kernel_rfl) ?_
     refine XU.run E0_ok 1 1 [0, 1, 12, 13, 24] rfl (σ' := (qha2 a b [(12, ii x12_1), (13, ii x13_1), (24, .bool ((List.getD a (Int.toNat x13_1) 0) != (List.getD b (Int.toNat x13_1) 0)))])) (by kernel_rfl) ?_
     refine XU.done (by kernel_rfl) ?_
     show XQ _ _ _ _ _ _ _ _
     cases b4 : ((List.getD a (Int.toNat x13_1) 0) != (List.getD b (Int.toNat x13_1) 0) : Bool) with
     | true =>
      have h := cT b4 h
      refine iT (.tmp 24) ?_
      refine qQ ?_
      refine rS 1 [(4, .bool false)] ?_
      refine dQ ?_
      show XQ _ _ _ _ _ _ _ _
      refine XQ.ren (σ' := [(4, .bool false)]) (h' := [(1, rc (encI .i64) b z1 y1 1), (0, rc (encI .i64) a z0 y0 1)]) (c' := 2) [0, 1] (by decide) rfl ⟨rfl, trivial⟩ ⟨⟨_, _, rfl, rfl, .inl ⟨rfl, rwI⟩⟩, ⟨_, _, rfl, rfl, .inl ⟨rfl, rwI⟩⟩, trivial⟩ rfl ?_
      refine XQ.ret (by kernel_rfl) ?_
      cases h
      exact hQ
     | false =>
      have h := cF b4 h
      refine iF (.tmp 24) ?_
      refine kQ ?_
      show XQ _ _ _ _ _ _ _ _
      refine rQ ?_
      refine rS 2 (qha2 a b [(12, ii x12_1), (13, ii (w64 (x13_1 + 1)))]) ?_
      refine dQ ?_
      show XL _ _ _ _ _ _ _ _ _
      refine XL.ren (σ' := (qha2 a b [(12, ii x12_1), (13, ii (w64 (x13_1 + 1)))])) (h' := [(1, rc (encI .i64) b z1 y1 1), (0, rc (encI .i64) a z0 y0 1)]) (c' := 2) [0, 1] (by decide) rfl ⟨rfl, rfl, rfl, rfl, trivial⟩ ⟨⟨_, _, rfl, rfl, .inl ⟨rfl, rwI⟩⟩, ⟨_, _, rfl, rfl, .inl ⟨rfl, rwI⟩⟩, trivial⟩ rfl ?_
      refine XL.conv (f49_1_ok m fuel z0 y0 a z1 y1 b x12_1 (w64 (x13_1 + 1)) o h Q hQ) (by first | with_reducible rfl | simp | rfl)
  | false =>
   have h := cF b1 h
   refine iF (.tmp 14) ?_
   refine XQ.ren (σ' := []) (h' := [(1, rc (encI .i64) b z1 y1 1), (0, rc (encI .i64) a z0 y0 1)]) (c' := 2) [0, 1] (by decide) rfl trivial ⟨⟨_, _, rfl, rfl, .inl ⟨rfl, rwI⟩⟩, ⟨_, _, rfl, rfl, .inl ⟨rfl, rwI⟩⟩, trivial⟩ rfl ?_
   refine XQ.exit (i := 0) (by kernel_rfl) ?_
   cases h
   exact hQ
def f49 (m : Nat) (a : List Int) (b : List Int) : Option (Bool) :=
 cond (((a.length : Nat) : Int) != ((b.length : Nat) : Int)) (
  some (false)
 ) (
  (f49_1 m m a b ((a.length : Nat) : Int) 0).bind fun o1 =>
   match o1 with
   | .r =>
    some (false)
   | .x0 =>
    some (true)
 )
set_option maxHeartbeats 8000000 in
theorem f49_ok (m : Nat) (z0 : Nat) (y0 : Nat) (z1 : Nat) (y1 : Nat) (a : List Int) (b : List Int) (o : Bool) (h : f49 m a b = some o) : KC E0 49 [s0 0 a.length, s0 1 b.length] [(1, rc (encI .i64) b z1 y1 1), (0, rc (encI .i64) a z0 y0 1)] 2 (fun v _ _ => v = .bool o) := by
 refine KC.bodyN E0_ok (F := Proofs.Tryz.f49) (by kernel_rfl) (code := f49_C49) (by kernel_rfl) (nt := 26) (by kernel_rfl) (rs := [.tmp 4]) (by kernel_rfl) (by kernel_rfl) (σ := [(0, s0 0 a.length), (1, s0 1 b.length)]) (by kernel_rfl) ?_
 unfold f49 at h
 refine qQ ?_
 refine rS 1 [(0, s0 0 a.length), (1, s0 1 b.length)] ?_
 refine dQ ?_
 show XQ _ _ _ _ _ _ _ _
 refine sQ ?_
 refine qQ ?_
 refine rS 5 [(0, s0 0 a.length), (1, s0 1 b.length), (10, .bool (((a.length : Nat) : Int) != ((b.length : Nat) : Int)))] ?_
 refine dQ ?_
 show XQ _ _ _ _ _ _ _ _
 cases b1 : (((a.length : Nat) : Int) != ((b.length : Nat) : Int) : Bool) with
 | true =>
  have h := cT b1 h
  refine iT (.tmp 10) ?_
  refine qQ ?_
  refine rS 1 [(4, .bool false)] ?_
  refine dQ ?_
  show XQ _ _ _ _ _ _ _ _
  refine XQ.ret (by kernel_rfl) ?_
  have h := Option.some.inj h
  subst h
  exact ⟨fun i q => (by cases q), .bool false, (by kernel_rfl), rfl⟩
 | false =>
  have h := cF b1 h
  refine iF (.tmp 10) ?_
  refine kQ ?_
  show XQ _ _ _ _ _ _ _ _
  refine sQ ?_
  refine qQ ?_
  refine rS 3 [(0, s0 0 a.length), (1, s0 1 b.length), (12, ii ((a.length : Nat) : Int)), (13, ii 0)] ?_
  refine dQ ?_
  show XQ _ _ _ _ _ _ _ _
  refine XQ.block (id := 0) (by kernel_rfl) ?_
  refine XQ.loop m (by kernel_rfl) ?_
  obtain ⟨o1, o1_h, h⟩ := bS h
  refine XL.ren (σ' := [(0, s0 0 a.length), (1, s0 1 b.length), (12, ii ((a.length : Nat) : Int)), (13, ii 0)]) (h' := [(1, rc (encI .i64) b z1 y1 1), (0, rc (encI .i64) a z0 y0 1)]) (c' := 2) [0, 1] (by decide) rfl ⟨rfl, rfl, rfl, rfl, trivial⟩ ⟨⟨_, _, rfl, rfl, .inl ⟨rfl, rwI⟩⟩, ⟨_, _, rfl, rfl, .inl ⟨rfl, rwI⟩⟩, trivial⟩ rfl ?_
  cases o1 with
  | r =>
   dsimp only at h
   refine XL.conv (f49_1_ok m m z0 y0 a z1 y1 b ((a.length : Nat) : Int) 0 (.r) o1_h _ ?_) (by first | with_reducible rfl | simp | rfl)
   have h := Option.some.inj h
   subst h
   exact ⟨fun i q => (by cases q), .bool false, (by kernel_rfl), rfl⟩
  | x0 =>
   dsimp only at h
   refine XL.conv (f49_1_ok m m z0 y0 a z1 y1 b ((a.length : Nat) : Int) 0 (.x0) o1_h _ ?_) (by first | with_reducible rfl | simp | rfl)
   show XQ _ _ _ _ _ _ _ _
   refine qQ ?_
   refine rS 1 [(4, .bool true)] ?_
   refine dQ ?_
   show XQ _ _ _ _ _ _ _ _
   refine XQ.ret (by kernel_rfl) ?_
   have h := Option.some.inj h
   subst h
   exact ⟨fun i q => (by cases q), .bool true, (by kernel_rfl), rfl⟩
noncomputable def f46_C46 : Code := Proofs.Tryz.f46.body.getD .skip
noncomputable def f46_L1 : Code := lft (lft (rgt (lft (rgt f46_C46))))
def f46_1 (m : Nat) : Nat → List Int → List Int → Option Unit
 | 0, _, _ => none
 | fuel + 1, a, b =>
  some (())
theorem f46_1_ok (m : Nat) : ∀ (fuel : Nat) (z0 : Nat) (y0 : Nat) (a : List Int) (z1 : Nat) (y1 : Nat) (b : List Int) (o : Unit), f46_1 m fuel a b = some o → ∀ Q : QP, Q (.exit 0) [(0, s0 0 a.length), (1, s0 1 b.length)] [(1, rc (encI .i64) b z1 y1 1), (0, rc (encI .i64) a z0 y0 1)] 2 → XL E0 25 2 fuel f46_L1 [(0, s0 0 a.length), (1, s0 1 b.length), (10, .agg #[s0 0 a.length, s0 1 b.length]), (11, ii 2)] [(1, rc (encI .i64) b z1 y1 1), (0, rc (encI .i64) a z0 y0 1)] 2 Q
 | 0, z0, y0, a, z1, y1, b, o, h, Q, hQ => by cases h
 | fuel + 1, z0, y0, a, z1, y1, b, o, h, Q, hQ => by
  unfold f46_1 at h
  refine XL.succ E0_ok ?_
  refine qQ ?_
  refine rS 1 [(0, s0 0 a.length), (1, s0 1 b.length), (10, .agg #[s0 0 a.length, s0 1 b.length]), (11, ii 2), (12, .bool false)] ?_
  refine dQ ?_
  show XQ _ _ _ _ _ _ _ _
  refine sQ ?_
  refine iF (.tmp 12) ?_
  refine XQ.ren (σ' := [(0, s0 0 a.length), (1, s0 1 b.length)]) (h' := [(1, rc (encI .i64) b z1 y1 1), (0, rc (encI .i64) a z0 y0 1)]) (c' := 2) [0, 1] (by decide) rfl ⟨rfl, rfl, trivial⟩ ⟨⟨_, _, rfl, rfl, .inl ⟨rfl, rwI⟩⟩, ⟨_, _, rfl, rfl, .inl ⟨rfl, rwI⟩⟩, trivial⟩ rfl ?_
  refine XQ.exit (i := 0) (by kernel_rfl) ?_
  cases h
  exact hQ
def f46 (m : Nat) (a : List Int) (b : List Int) : Option (Int) :=
 (f21 m a).bind fun r2 =>
  cond (r2 != 0) (
   some (r2)
  ) (
   (f21 m b).bind fun r4 =>
    cond (r4 != 0) (
     some (r4)
    ) (
     (f46_1 m m a b).bind fun o1 =>
      cond (((a.length : Nat) : Int) != ((b.length : Nat) : Int)) (
       some (5)
      ) (
       some (0)
      )
    )
  )
set_option maxHeartbeats 8000000 in
abbrev qha3 (a : List Int) (b : List Int) (t : St) : St := (0, s0 0 a.length) :: (1, s0 1 b.length) :: (10, .agg #[s0 0 a.length, s0 1 b.length]) :: t
theorem f46_ok (m : Nat) (z0 : Nat) (y0 : Nat) (z1 : Nat) (y1 : Nat) (a : List Int) (b : List Int) (o : Int) (h : f46 m a b = some o) : KC E0 46 [s0 0 a.length, s0 1 b.length] [(1, rc (encI .i64) b z1 y1 1), (0, rc (encI .i64) a z0 y0 1)] 2 (fun v _ _ => v = ii o) := by
 refine KC.bodyN E0_ok (F := Proofs.Tryz.f46) (by kernel_rfl) (code := f46_C46) (by kernel_rfl) (nt := 25) (by kernel_rfl) (rs := [.tmp 4]) (by kernel_rfl) (by kernel_rfl) (σ := [(0, s0 0 a.length), (1, s0 1 b.length)]) (by kernel_rfl) ?_
 unfold f46 at h
 refine qQ ?_
 refine rS 1 [(0, s0 0 a.length), (1, s0 1 b.length)] ?_
 refine dQ ?_
 show XQ _ _ _ _ _ _ _ _
 refine sQ ?_
 refine qQ ?_
 refine rS 4 (qha3 a b [(11, ii 0)]) ?_
 refine dQ ?_
 show XQ _ _ _ _ _ _ _ _
 refine XQ.block (id := 0) (by kernel_rfl) ?_
 refine XQ.loop (m + 2) (by kernel_rfl) ?_
 refine XL.succ E0_ok ?_
 refine qQ ?_
 refine rS 1 (qha3 a b [(11, ii 0), (12, .bool true)]) ?_
 refine dQ ?_
 show XQ _ _ _ _ _ _ _ _
 refine sQ ?_
 refine iT (.tmp 12) ?_
 refine kQ ?_
 show XQ _ _ _ _ _ _ _ _
 refine sQ ?_
 refine XQ.block (id := 1) (by kernel_rfl) ?_
 refine qQ ?_
 refine rS 2 [(0, s0 0 a.length), (1, s0 1 b.length), (6, s0 0 a.length), (10, .agg #[s0 0 a.length, s0 1 b.length]), (11, ii 0)] ?_
 refine nQ id ?_
 refine rS 1 (qha3 a b [(11, ii 0), (14, s0 0 a.length)]) ?_
 obtain ⟨r2, r2_h, h⟩ := bS h
 refine XR.call E0_ok [0, 1, 10, 11, 15] rfl (K := 21) (args := [s0 0 a.length]) (d := (some (path 12 15))) (by kernel_rfl) (KQ.call (KC.quiet E0_ok (args0 := [s0 0 a.length]) (h0 := [(0, rc (encI .i64) a (z0 + ((rowC (encI .i64) a).length + 1)) y0 1)]) (n := 1) (V := ii r2) [0] (f21_ok m (z0 + ((rowC (encI .i64) a).length + 1)) y0 a r2 r2_h) rfl (by rfl) (by decide) rfl (by kernel_rfl) ⟨⟨_, _, rfl, rfl, .inl ⟨rfl, rwI⟩⟩, trivial⟩) rfl) ?_
 rintro _ _ _ ⟨rfl, rfl, rfl⟩
 refine XR.conv (σ' := (qha3 a b [(11, ii 0), (15, ii r2)])) (h' := [(1, rc (encI .i64) b z1 y1 1), (0, rc (encI .i64) a z0 y0 1)]) (c' := 2) ?_ (by kernel_rfl)
 refine rS 1 [(0, s0 0 a.length), (1, s0 1 b.length), (7, ii r2), (10, .agg #[s0 0 a.length, s0 1 b.length]), (11, ii 0)] ?_
 refine nQ id ?_
 refine rS 2 [(0, s0 0 a.length), (1, s0 1 b.length), (7, ii r2), (10, .agg #[s0 0 a.length, s0 1 b.length]), (11, ii 0), (17, .bool (r2 != 0))] ?_
 refine dQ ?_
 show XQ _ _ _ _ _ _ _ _
 cases b1 : (r2 != 0 : Bool) with
 | true =>
  have h := cT b1 h
  refine iT (.tmp 17) ?_
  refine qQ ?_
  refine rS 2 [(4, ii r2)] ?_
  refine dQ ?_
  show XQ _ _ _ _ _ _ _ _
  refine XQ.ret (by kernel_rfl) ?_
  have h := Option.some.inj h
  subst h
  exact ⟨fun i q => (by cases q), ii r2, (by kernel_rfl), rfl⟩
 | false =>
  have h := cF b1 h
  refine iF (.tmp 17) ?_
  refine kQ ?_
  show XQ _ _ _ _ _ _ _ _
  refine rQ ?_
  refine rS 2 (qha3 a b [(11, ii 1)]) ?_
  refine dQ ?_
  show XL _ _ _ _ _ _ _ _ _
  refine XL.succ E0_ok ?_
  refine qQ ?_
  refine rS 1 (qha3 a b [(11, ii 1), (12, .bool true)]) ?_
  refine dQ ?_
  show XQ _ _ _ _ _ _ _ _
  refine sQ ?_
  refine iT (.tmp 12) ?_
  refine kQ ?_
  show XQ _ _ _ _ _ _ _ _
  refine sQ ?_
  refine XQ.block (id := 1) (by kernel_rfl) ?_
  refine qQ ?_
  refine rS 2 [(0, s0 0 a.length), (1, s0 1 b.length), (6, s0 1 b.length), (10, .agg #[s0 0 a.length, s0 1 b.length]), (11, ii 1)] ?_
  refine nQ id ?_
  refine rS 1 (qha3 a b [(11, ii 1), (14, s0 1 b.length)]) ?_
  obtain ⟨r4, r4_h, h⟩ := bS h
  refine XR.call E0_ok [0, 1, 10, 11, 15] rfl (K := 21) (args := [s0 1 b.length]) (d := (some (path 12 15))) (by kernel_rfl) (KQ.call (KC.quiet E0_ok (args0 := [s0 0 b.length]) (h0 := [(0, rc (encI .i64) b (z1 + ((rowC (encI .i64) b).length + 1)) y1 1)]) (n := 1) (V := ii r4) [1] (f21_ok m (z1 + ((rowC (encI .i64) b).length + 1)) y1 b r4 r4_h) rfl (by rfl) (by decide) rfl (by kernel_rfl) ⟨⟨_, _, rfl, rfl, .inl ⟨rfl, rwI⟩⟩, trivial⟩) rfl) ?_
  rintro _ _ _ ⟨rfl, rfl, rfl⟩
  refine XR.conv (σ' := (qha3 a b [(11, ii 1), (15, ii r4)])) (h' := [(1, rc (encI .i64) b z1 y1 1), (0, rc (encI .i64) a z0 y0 1)]) (c' := 2) ?_ (by kernel_rfl)
  refine rS 1 [(0, s0 0 a.length), (1, s0 1 b.length), (7, ii r4), (10, .agg #[s0 0 a.length, s0 1 b.length]), (11, ii 1)] ?_
  refine nQ id ?_
  refine rS 2 [(0, s0 0 a.length), (1, s0 1 b.length), (7, ii r4), (10, .agg #[s0 0 a.length, s0 1 b.length]), (11, ii 1), (17, .bool (r4 != 0))] ?_
  refine dQ ?_
  show XQ _ _ _ _ _ _ _ _
  cases b2 : (r4 != 0 : Bool) with
  | true =>
   have h := cT b2 h
   refine iT (.tmp 17) ?_
   refine qQ ?_
   refine rS 2 [(4, ii r4)] ?_
   refine dQ ?_
   show XQ _ _ _ _ _ _ _ _
   refine XQ.ret (by kernel_rfl) ?_
   have h := Option.some.inj h
   subst h
   exact ⟨fun i q => (by cases q), ii r4, (by kernel_rfl), rfl⟩
  | false =>
   have h := cF b2 h
   refine iF (.tmp 17) ?_
   refine kQ ?_
   show XQ _ _ _ _ _ _ _ _
   refine rQ ?_
   refine rS 2 (qha3 a b [(11, ii 2)]) ?_
   refine dQ ?_
   show XL _ _ _ _ _ _ _ _ _
   obtain ⟨o1, o1_h, h⟩ := bS h
   refine XL.ren (σ' := (qha3 a b [(11, ii 2)])) (h' := [(1, rc (encI .i64) b z1 y1 1), (0, rc (encI .i64) a z0 y0 1)]) (c' := 2) [0, 1] (by decide) rfl ⟨rfl, rfl, rfl, rfl, trivial⟩ ⟨⟨_, _, rfl, rfl, .inl ⟨rfl, rwI⟩⟩, ⟨_, _, rfl, rfl, .inl ⟨rfl, rwI⟩⟩, trivial⟩ rfl ?_
   refine XL.conv (f46_1_ok m m z0 y0 a z1 y1 b o1 o1_h _ ?_) (by first | with_reducible rfl | simp | rfl)
   show XQ _ _ _ _ _ _ _ _
   refine sQ ?_
   refine qQ ?_
   refine rS 5 [(24, .bool (((a.length : Nat) : Int) != ((b.length : Nat) : Int)))] ?_
   refine dQ ?_
   show XQ _ _ _ _ _ _ _ _
   cases b4 : (((a.length : Nat) : Int) != ((b.length : Nat) : Int) : Bool) with
   | true =>
    have h := cT b4 h
    refine iT (.tmp 24) ?_
    refine qQ ?_
    refine rS 1 [(4, ii 5)] ?_
    refine dQ ?_
    show XQ _ _ _ _ _ _ _ _
    refine XQ.ret (by kernel_rfl) ?_
    have h := Option.some.inj h
    subst h
    exact ⟨fun i q => (by cases q), ii 5, (by kernel_rfl), rfl⟩
   | false =>
    have h := cF b4 h
    refine iF (.tmp 24) ?_
    refine kQ ?_
    show XQ _ _ _ _ _ _ _ _
    refine qQ ?_
    refine rS 1 [(4, ii 0)] ?_
    refine dQ ?_
    show XQ _ _ _ _ _ _ _ _
    refine XQ.ret (by kernel_rfl) ?_
    have h := Option.some.inj h
    subst h
    exact ⟨fun i q => (by cases q), ii 0, (by kernel_rfl), rfl⟩
noncomputable def f47_C47 : Code := Proofs.Tryz.f47.body.getD .skip
noncomputable def f47_L1 : Code := lft (lft (lft (rgt f47_C47)))
def f47_1 (m : Nat) : Nat → List Int → Int → Option Int
 | 0, _, _ => none
 | fuel + 1, b, x0_1 =>
  cond (inRow x0_1 18) (
   cond (decide (Int.toNat x0_1 < b.length)) (
    cond ((List.getD b (Int.toNat x0_1) 0) != x0_1) (
     f47_1 m fuel b (List.getD b (Int.toNat x0_1) 0)
    ) (
     some (x0_1)
    )
   ) none
  ) none
theorem f47_1_ok (m : Nat) : ∀ (fuel : Nat) (z0 : Nat) (b : List Int) (x0_1 : Int) (o : Int), f47_1 m fuel b x0_1 = some o → ∀ Q : QP, Q (.exit 0) [(0, ii o)] [(0, rc (encI .i64) b z0 96 0)] 1 → XL E0 13 1 fuel f47_L1 [(0, ii x0_1), (1, pp 0 0)] [(0, rc (encI .i64) b z0 96 0)] 1 Q
 | 0, z0, b, x0_1, o, h, Q, hQ => by cases h
 | fuel + 1, z0, b, x0_1, o, h, Q, hQ => by
  unfold f47_1 at h
  refine XL.succ E0_ok ?_
  refine sQ ?_
  refine qQ ?_
  refine rS 1 [(0, ii x0_1), (1, pp 0 0), (4, ii x0_1)] ?_
  cases b1 : (inRow x0_1 18 : Bool) with
  | false => cases (cF b1 h)
  | true =>
   have h := cT b1 h
   refine XR.rd E0_ok [0, 1, 5] rfl (v := pp 0 ((Int.toNat x0_1) * 1)) (v_idxA (s := 1) (len := 18) (x := (src 13 (.tmp 1))) (y := (src 13 (.tmp 4))) (b := 0) (o := 0) (ik := .i64) (i := x0_1) (off := (Int.toNat x0_1) * 1) (d := (some (path 12 5))) (by kernel_rfl) (by kernel_rfl) (by kernel_rfl) b1 (by omega)) (σ' := [(0, ii x0_1), (1, pp 0 0), (5, pp 0 ((Int.toNat x0_1) * 1))]) (by kernel_rfl) ?_
   cases b2 : (decide (Int.toNat x0_1 < b.length) : Bool) with
   | false => cases (cF b2 h)
   | true =>
    have h := cT b2 h
    refine XR.rd E0_ok [0, 1, 6] rfl (v := ii (List.getD b (Int.toNat x0_1) 0)) (v_load1 (encI_ok .i64) (x := (src 13 (.tmp 5))) (b := 0) (off := (Int.toNat x0_1) * 1) (xs := b) (fz := z0) (e := 96) (es := 0) (d := (some (path 12 6))) (by kernel_rfl) (by kernel_rfl) (by kernel_rfl) (Int.toNat x0_1) 0 0 (by first | with_reducible rfl | omega | rfl) (row_len b2 (by simp)) rfl rfl) (σ' := [(0, ii x0_1), (1, pp 0 0), (6, ii (List.getD b (Int.toNat x0_1) 0))]) (by kernel_rfl) ?_
    refine rS 2 [(0, ii x0_1), (1, pp 0 0), (8, .bool ((List.getD b (Int.toNat x0_1) 0) != x0_1))] ?_
    refine dQ ?_
    show XQ _ _ _ _ _ _ _ _
    cases b3 : ((List.getD b (Int.toNat x0_1) 0) != x0_1 : Bool) with
    | true =>
     have h := cT b3 h
     refine iT (.tmp 8) ?_
     refine kQ ?_
     show XQ _ _ _ _ _ _ _ _
     refine XQ.block (id := 1) (by kernel_rfl) ?_
     refine rQ ?_
     refine rS 1 [(1, pp 0 0), (9, ii x0_1)] ?_
     refine XR.rd E0_ok [1, 10] rfl (v := pp 0 ((Int.toNat x0_1) * 1)) (v_idxA (s := 1) (len := 18) (x := (src 13 (.tmp 1))) (y := (src 13 (.tmp 9))) (b := 0) (o := 0) (ik := .i64) (i := x0_1) (off := (Int.toNat x0_1) * 1) (d := (some (path 12 10))) (by kernel_rfl) (by kernel_rfl) (by kernel_rfl) b1 (by omega)) (σ' := [(1, pp 0 0), (10, pp 0 ((Int.toNat x0_1) * 1))]) (by kernel_rfl) ?_
     refine XR.rd E0_ok [1, 11] rfl (v := ii (List.getD b (Int.toNat x0_1) 0)) (v_load1 (encI_ok .i64) (x := (src 13 (.tmp 10))) (b := 0) (off := (Int.toNat x0_1) * 1) (xs := b) (fz := z0) (e := 96) (es := 0) (d := (some (path 12 11))) (by kernel_rfl) (by kernel_rfl) (by kernel_rfl) (Int.toNat x0_1) 0 0 (by first | with_reducible rfl | omega | rfl) (row_len b2 (by simp)) rfl rfl) (σ' := [(1, pp 0 0), (11, ii (List.getD b (Int.toNat x0_1) 0))]) (by kernel_rfl) ?_
     refine rS 1 [(0, ii (List.getD b (Int.toNat x0_1) 0)), (1, pp 0 0)] ?_
     refine dQ ?_
     show XL _ _ _ _ _ _ _ _ _
     refine XL.ren (σ' := [(0, ii (List.getD b (Int.toNat x0_1) 0)), (1, pp 0 0)]) (h' := [(0, rc (encI .i64) b z0 96 0)]) (c' := 1) [0] (by decide) rfl ⟨rfl, rfl, trivial⟩ ⟨⟨_, _, rfl, rfl, .inl ⟨rfl, rwI⟩⟩, trivial⟩ rfl ?_
     refine XL.conv (f47_1_ok m fuel z0 b (List.getD b (Int.toNat x0_1) 0) o h Q hQ) (by first | with_reducible rfl | simp | rfl)
    | false =>
     have h := cF b3 h
     refine iF (.tmp 8) ?_
     refine XQ.ren (σ' := [(0, ii x0_1)]) (h' := [(0, rc (encI .i64) b z0 96 0)]) (c' := 1) [0] (by decide) rfl ⟨rfl, trivial⟩ ⟨⟨_, _, rfl, rfl, .inl ⟨rfl, rwI⟩⟩, trivial⟩ rfl ?_
     refine XQ.exit (i := 0) (by kernel_rfl) ?_
     cases h
     exact hQ
def f47 (m : Nat) (a : Int) (b : List Int) : Option (Int) :=
 (f47_1 m m b a).bind fun o1 =>
  some (o1)
set_option maxHeartbeats 8000000 in
theorem f47_ok (m : Nat) (z0 : Nat) (a : Int) (b : List Int) (o : Int) (h : f47 m a b = some o) : KC E0 47 [ii a, pp 0 0] [(0, rc (encI .i64) b z0 96 0)] 1 (fun v _ _ => v = ii o) := by
 refine KC.bodyN E0_ok (F := Proofs.Tryz.f47) (by kernel_rfl) (code := f47_C47) (by kernel_rfl) (nt := 13) (by kernel_rfl) (rs := [.tmp 3]) (by kernel_rfl) (by kernel_rfl) (σ := [(0, ii a), (1, pp 0 0)]) (by kernel_rfl) ?_
 unfold f47 at h
 refine qQ ?_
 refine rS 1 [(0, ii a), (1, pp 0 0)] ?_
 refine dQ ?_
 show XQ _ _ _ _ _ _ _ _
 refine sQ ?_
 refine XQ.block (id := 0) (by kernel_rfl) ?_
 refine XQ.loop m (by kernel_rfl) ?_
 obtain ⟨o1, o1_h, h⟩ := bS h
 refine XL.ren (σ' := [(0, ii a), (1, pp 0 0)]) (h' := [(0, rc (encI .i64) b z0 96 0)]) (c' := 1) [0] (by decide) rfl ⟨rfl, rfl, trivial⟩ ⟨⟨_, _, rfl, rfl, .inl ⟨rfl, rwI⟩⟩, trivial⟩ rfl ?_
 refine XL.conv (f47_1_ok m m z0 b a o1 o1_h _ ?_) (by first | with_reducible rfl | simp | rfl)
 show XQ _ _ _ _ _ _ _ _
 refine qQ ?_
 refine rS 2 [(3, ii o1)] ?_
 refine dQ ?_
 show XQ _ _ _ _ _ _ _ _
 refine XQ.ret (by kernel_rfl) ?_
 have h := Option.some.inj h
 subst h
 exact ⟨fun i q => (by cases q), ii o1, (by kernel_rfl), rfl⟩
noncomputable def f18_C18 : Code := Proofs.Tryz.f18.body.getD .skip
noncomputable def f18_C44 : Code := Proofs.Tryz.f44.body.getD .skip
noncomputable def f18_C45 : Code := Proofs.Tryz.f45.body.getD .skip
noncomputable def f18_C65 : Code := Proofs.Tryz.f65.body.getD .skip
noncomputable def f18_L1 : Code := lft (lft (rgt (lft (rgt (rgt f18_C44)))))
def f18_1 (m : Nat) : Nat → List Int → Int → Int → List (Int × Int) → List Int → Option ((List (Int × Int)) × (List Int))
 | 0, _, _, _, _, _ => none
 | fuel + 1, a, x7_1, x8_1, mh3_1, lh4_1 =>
  cond (decide (x8_1 < x7_1)) (
   cond (inRow x8_1 a.length) (
    cond (!(hasM mh3_1 (List.getD a (Int.toNat x8_1) 0))) (
     cond (fitsB (lh4_1.length + 1) 8) (
      f18_1 m fuel a x7_1 (w64 (x8_1 + 1)) (putM mh3_1 (List.getD a (Int.toNat x8_1) 0) ((mh3_1.length : Nat) : Int)) (lh4_1 ++ [((mh3_1.length : Nat) : Int)])
     ) none
    ) (
     cond (fitsB (lh4_1.length + 1) 8) (
      f18_1 m fuel a x7_1 (w64 (x8_1 + 1)) mh3_1 (lh4_1 ++ [getM 0 mh3_1 (List.getD a (Int.toNat x8_1) 0)])
     ) none
    )
   ) none
  ) (
   some (mh3_1, lh4_1)
  )
abbrev qha4 (a : List Int) (lh4_1 : List Int) (y0 : Nat) (z0 : Nat) (t : Heap) : Heap := (2, .cells [.map (some 3), s0 4 lh4_1.length] 0 114 0) :: (1, .cells [s0 0 a.length] 0 23 0) :: (0, rc (encI .i64) a z0 y0 1) :: t
abbrev qha5 (a : List Int) (x8_1 : Int) (t : St) : St := (0, pp 2 0) :: (1, ii (List.getD a (Int.toNat x8_1) 0)) :: t
abbrev qha6 (a : List Int) (y0 : Nat) (z0 : Nat) (t : Heap) : Heap := (1, .cells [s0 0 a.length] 0 23 0) :: (0, rc (encI .i64) a z0 y0 1) :: t
theorem f18_1_ok (m : Nat) : ∀ (fuel : Nat) (z0 : Nat) (y0 : Nat) (a : List Int) (x7_1 : Int) (x8_1 : Int) (mh3_1 : List (Int × Int)) (lh4_1 : List Int) (o : ((List (Int × Int)) × (List Int))), f18_1 m fuel a x7_1 x8_1 mh3_1 lh4_1 = some o → ∀ Q : QP, Q (.exit 0) [(5, pp 2 0)] ((4, rI o.2) :: (3, .imap (imC (Value.int .i64) o.1)) :: (2, .cells [.map (some 3), s0 4 o.2.length] 0 114 0) :: qha6 a y0 z0 []) 5 → XL E0 18 2 fuel f18_L1 [(1, .func (.func 45) #[] #[pp 1 0]), (5, pp 2 0), (7, ii x7_1), (8, ii x8_1)] ((4, rI lh4_1) :: (3, .imap (imC (Value.int .i64) mh3_1)) :: qha4 a lh4_1 y0 z0 []) 5 Q
 | 0, z0, y0, a, x7_1, x8_1, mh3_1, lh4_1, o, h, Q, hQ => by cases h
 | fuel + 1, z0, y0, a, x7_1, x8_1, mh3_1, lh4_1, o, h, Q, hQ => by
  unfold f18_1 at h
  refine XL.succ E0_ok ?_
  refine qQ ?_
  refine rS 1 [(1, .func (.func 45) #[] #[pp 1 0]), (5, pp 2 0), (7, ii x7_1), (8, ii x8_1), (9, .bool (decide (x8_1 < x7_1)))] ?_
  refine dQ ?_
  show XQ _ _ _ _ _ _ _ _
  refine sQ ?_
  cases b1 : (decide (x8_1 < x7_1) : Bool) with
  | true =>
   have h := cT b1 h
   refine iT (.tmp 9) ?_
   refine kQ ?_
   show XQ _ _ _ _ _ _ _ _
   refine sQ ?_
   refine XQ.block (id := 1) (by kernel_rfl) ?_
   refine qQ ?_
   refine rS 2 [(1, .func (.func 45) #[] #[pp 1 0]), (5, pp 2 0), (6, ii x8_1), (7, ii x7_1), (8, ii x8_1)] ?_
   refine dQ ?_
   show XQ _ _ _ _ _ _ _ _
   refine rQ ?_
   refine rS 2 [(1, .func (.func 45) #[] #[pp 1 0]), (5, pp 2 0), (7, ii x7_1), (8, ii x8_1), (11, .func (.func 45) #[] #[pp 1 0]), (12, ii x8_1)] ?_
   refine XR.callK E0_ok [1, 5, 7, 8, 13] rfl (K := 45) (args := [ii x8_1, pp 1 0]) (d := (some (path 12 13))) (by kernel_rfl) ?_
   refine KC.bodyN E0_ok (F := Proofs.Tryz.f45) (by kernel_rfl) (code := f18_C45) (by kernel_rfl) (nt := 8) (by kernel_rfl) (rs := [.tmp 3]) (by kernel_rfl) (by kernel_rfl) (σ := [(0, ii x8_1), (1, pp 1 0)]) (by kernel_rfl) ?_
   refine qQ ?_
   refine rS 1 [(0, ii x8_1), (1, pp 1 0)] ?_
   refine nQ id ?_
   refine rS 2 [(4, s0 0 a.length), (5, ii x8_1)] ?_
   cases b2 : (inRow x8_1 a.length : Bool) with
   | false => cases (cF b2 h)
   | true =>
    have h := cT b2 h
    refine XR.rd E0_ok [6] rfl (v := pp 0 ((Int.toNat x8_1) * 1)) (v_idx (s := 1) (x := (src 8 (.tmp 4))) (y := (src 8 (.tmp 5))) (b := 0) (o := 0) (len := a.length) (cap := a.length) (ik := .i64) (i := x8_1) (off := (Int.toNat x8_1) * 1) (d := (some (path 12 6))) (by kernel_rfl) (by kernel_rfl) (by kernel_rfl) b2 (by omega)) (σ' := [(6, pp 0 ((Int.toNat x8_1) * 1))]) (by kernel_rfl) ?_
    refine XR.rd E0_ok [7] rfl (v := ii (List.getD a (Int.toNat x8_1) 0)) (v_load1 (encI_ok .i64) (x := (src 8 (.tmp 6))) (b := 0) (off := (Int.toNat x8_1) * 1) (xs := a) (fz := z0) (e := y0) (es := 1) (d := (some (path 12 7))) (by kernel_rfl) (by kernel_rfl) (by kernel_rfl) (Int.toNat x8_1) 0 0 (by first | with_reducible rfl | omega | rfl) (row_len (inRow_toNat b2) (by simp)) rfl rfl) (σ' := [(7, ii (List.getD a (Int.toNat x8_1) 0))]) (by kernel_rfl) ?_
    refine rS 1 [(3, ii (List.getD a (Int.toNat x8_1) 0))] ?_
    refine dQ ?_
    show XQ _ _ _ _ _ _ _ _
    refine XQ.ret (by kernel_rfl) ?_
    refine ⟨fun i q => (by cases q), ii (List.getD a (Int.toNat x8_1) 0), (by kernel_rfl), ?_⟩
    refine XR.conv (σ' := [(1, .func (.func 45) #[] #[pp 1 0]), (5, pp 2 0), (7, ii x7_1), (8, ii x8_1), (13, ii (List.getD a (Int.toNat x8_1) 0))]) (h' := ((4, rI lh4_1) :: (3, .imap (imC (Value.int .i64) mh3_1)) :: qha4 a lh4_1 y0 z0 [])) (c' := 5) ?_ (by kernel_rfl)
    refine XR.callK E0_ok [1, 5, 7, 8] rfl (K := 65) (args := [pp 2 0, ii (List.getD a (Int.toNat x8_1) 0)]) (d := (some (path 12 14))) (by kernel_rfl) ?_
    refine KC.bodyN E0_ok (F := Proofs.Tryz.f65) (by kernel_rfl) (code := f18_C65) (by kernel_rfl) (nt := 47) (by kernel_rfl) (rs := []) (by kernel_rfl) (by kernel_rfl) (σ := (qha5 a x8_1 [])) (by kernel_rfl) ?_
    refine sQ ?_
    refine qQ ?_
    refine rS 5 (qha5 a x8_1 [(10, .bool false)]) ?_
    refine dQ ?_
    show XQ _ _ _ _ _ _ _ _
    refine iF (.tmp 10) ?_
    refine kQ ?_
    show XQ _ _ _ _ _ _ _ _
    refine qQ ?_
    refine rS 5 (qha5 a x8_1 [(19, .map (some 3)), (20, ii (List.getD a (Int.toNat x8_1) 0))]) ?_
    refine XR.rd E0_ok [0, 1, 21] rfl (v := .tuple #[ii (getM 0 mh3_1 (List.getD a (Int.toNat x8_1) 0)), .bool (hasM mh3_1 (List.getD a (Int.toNat x8_1) 0))]) (v_mgeto (Value.int .i64) (x := (src 47 (.tmp 19))) (i := (src 47 (.tmp 20))) (z := .int .i64 0) (d := (some (path 12 21))) (b := 3) (k := List.getD a (Int.toNat x8_1) 0) (l := mh3_1) (d0 := 0) (by kernel_rfl) (by kernel_rfl) (by kernel_rfl) (by kernel_rfl) rfl rfl rfl) (σ' := (qha5 a x8_1 [(21, .tuple #[ii (getM 0 mh3_1 (List.getD a (Int.toNat x8_1) 0)), .bool (hasM mh3_1 (List.getD a (Int.toNat x8_1) 0))])])) (by kernel_rfl) ?_
    refine rS 5 (qha5 a x8_1 [(4, ii (getM 0 mh3_1 (List.getD a (Int.toNat x8_1) 0))), (5, .bool (hasM mh3_1 (List.getD a (Int.toNat x8_1) 0)))]) ?_
    refine dQ ?_
    show XQ _ _ _ _ _ _ _ _
    refine sQ ?_
    refine qQ ?_
    refine rS 2 (qha5 a x8_1 [(4, ii (getM 0 mh3_1 (List.getD a (Int.toNat x8_1) 0))), (25, .bool (!(hasM mh3_1 (List.getD a (Int.toNat x8_1) 0))))]) ?_
    refine dQ ?_
    show XQ _ _ _ _ _ _ _ _
    cases b3 : (!(hasM mh3_1 (List.getD a (Int.toNat x8_1) 0)) : Bool) with
    | true =>
     have h := cT b3 h
     refine iT (.tmp 25) ?_
     refine qQ ?_
     refine rS 4 (qha5 a x8_1 [(29, .map (some 3))]) ?_
     refine XR.rd E0_ok [0, 1, 30] rfl (v := ii ((mh3_1.length : Nat) : Int)) (v_mlen (x := (src 47 (.tmp 29))) (d := (some (path 12 30))) (b := 3) (es := imC (Value.int .i64) mh3_1) (n := mh3_1.length) (by kernel_rfl) (by kernel_rfl) (by kernel_rfl) (imC_len _ _)) (σ' := (qha5 a x8_1 [(30, ii ((mh3_1.length : Nat) : Int))])) (by kernel_rfl) ?_
     refine rS 1 (qha5 a x8_1 [(4, ii ((mh3_1.length : Nat) : Int))]) ?_
     refine dQ ?_
     show XQ _ _ _ _ _ _ _ _
     refine rQ ?_
     refine rS 6 [(0, pp 2 0), (4, ii ((mh3_1.length : Nat) : Int)), (34, .map (some 3)), (35, ii (List.getD a (Int.toNat x8_1) 0)), (36, ii ((mh3_1.length : Nat) : Int))] ?_
     refine XR.ef E0_ok [0, 4] rfl (e_mput (Value.int .i64) (m := (src 47 (.tmp 34))) (i := (src 47 (.tmp 35))) (x := (src 47 (.tmp 36))) (d := none) (b := 3) (k := List.getD a (Int.toNat x8_1) 0) (l := mh3_1) (a := ((mh3_1.length : Nat) : Int)) (h' := ((4, rI lh4_1) :: (3, .imap (imC (Value.int .i64) (putM mh3_1 (List.getD a (Int.toNat x8_1) 0) ((mh3_1.length : Nat) : Int)))) :: qha4 a lh4_1 y0 z0 [])) (by kernel_rfl) (by kernel_rfl) (by kernel_rfl) (by kernel_rfl) (by kernel_rfl) rfl rfl) (σ' := [(0, pp 2 0), (4, ii ((mh3_1.length : Nat) : Int))]) (by kernel_rfl) ?_
     refine dQ ?_
     show XQ _ _ _ _ _ _ _ _
     refine rQ ?_
     refine rT 7 [(37, pp 2 0), (41, s0 4 lh4_1.length), (43, s0 5 1)] ((5, .cells [ii ((mh3_1.length : Nat) : Int)] 0 3 1) :: (4, rI lh4_1) :: (3, .imap (imC (Value.int .i64) (putM mh3_1 (List.getD a (Int.toNat x8_1) 0) ((mh3_1.length : Nat) : Int)))) :: qha4 a lh4_1 y0 z0 []) 6 ?_
     cases b4 : (fitsB (lh4_1.length + 1) 8 : Bool) with
     | false => cases (cF b4 h)
     | true =>
      have h := cT b4 h
      refine XR.ef E0_ok [37, 44] rfl (e_append (encI_ok .i64) (bytes := 8) (e := 3) (x := (src 47 (.tmp 41))) (y := (src 47 (.tmp 43))) (b := 4) (len := lh4_1.length) (cap := lh4_1.length) (xs := lh4_1) (m := 0) (ys := [((mh3_1.length : Nat) : Int)]) (d := (some (path 12 44))) (n' := (lh4_1 ++ [((mh3_1.length : Nat) : Int)]).length) (h' := ((6, rI (lh4_1 ++ [((mh3_1.length : Nat) : Int)])) :: (5, .cells [ii ((mh3_1.length : Nat) : Int)] 0 3 1) :: (3, .imap (imC (Value.int .i64) (putM mh3_1 (List.getD a (Int.toNat x8_1) 0) ((mh3_1.length : Nat) : Int)))) :: qha4 a lh4_1 y0 z0 [])) (by kernel_rfl) (by kernel_rfl) (by kernel_rfl) (by kernel_rfl) rfl (by simp) (by simp) b4 (by simp) (by kernel_rfl)) (σ' := [(37, pp 2 0), (44, s0 6 ((lh4_1 ++ [((mh3_1.length : Nat) : Int)]).length))]) (by kernel_rfl) ?_
      refine rT 3 [] ((6, rI (lh4_1 ++ [((mh3_1.length : Nat) : Int)])) :: (5, .cells [ii ((mh3_1.length : Nat) : Int)] 0 3 1) :: (3, .imap (imC (Value.int .i64) (putM mh3_1 (List.getD a (Int.toNat x8_1) 0) ((mh3_1.length : Nat) : Int)))) :: (2, .cells [.map (some 3), s0 6 ((lh4_1 ++ [((mh3_1.length : Nat) : Int)]).length)] 0 114 0) :: qha6 a y0 z0 []) 7 ?_
      refine dQ ?_
      refine ⟨fun i q => (by cases q), .tuple #[], (by kernel_rfl), ?_⟩
      refine XR.conv (σ' := [(1, .func (.func 45) #[] #[pp 1 0]), (5, pp 2 0), (7, ii x7_1), (8, ii x8_1)]) (h' := ((6, rI (lh4_1 ++ [((mh3_1.length : Nat) : Int)])) :: (5, .cells [ii ((mh3_1.length : Nat) : Int)] 0 3 1) :: (3, .imap (imC (Value.int .i64) (putM mh3_1 (List.getD a (Int.toNat x8_1) 0) ((mh3_1.length : Nat) : Int)))) :: (2, .cells [.map (some 3), s0 6 ((lh4_1 ++ [((mh3_1.length : Nat) : Int)]).length)] 0 114 0) :: qha6 a y0 z0 [])) (c' := 7) ?_ (by kernel_rfl)
      refine dQ ?_
      show XQ _ _ _ _ _ _ _ _
      refine rQ ?_
      refine rS 2 [(1, .func (.func 45) #[] #[pp 1 0]), (5, pp 2 0), (7, ii x7_1), (8, ii (w64 (x8_1 + 1)))] ?_
      refine dQ ?_
      show XL _ _ _ _ _ _ _ _ _
      refine XL.ren (σ' := [(1, .func (.func 45) #[] #[pp 1 0]), (5, pp 2 0), (7, ii x7_1), (8, ii (w64 (x8_1 + 1)))]) (h' := ((4, rI (lh4_1 ++ [((mh3_1.length : Nat) : Int)])) :: (3, .imap (imC (Value.int .i64) (putM mh3_1 (List.getD a (Int.toNat x8_1) 0) ((mh3_1.length : Nat) : Int)))) :: (2, .cells [.map (some 3), s0 4 ((lh4_1 ++ [((mh3_1.length : Nat) : Int)]).length)] 0 114 0) :: qha6 a y0 z0 [])) (c' := 5) [0, 1, 2, 3, 6] (by decide) rfl ⟨rfl, rfl, rfl, rfl, trivial⟩ ⟨⟨_, _, rfl, rfl, .inl ⟨rfl, rwI⟩⟩, ⟨_, _, rfl, rfl, .inl ⟨rfl, trivial⟩⟩, ⟨_, _, rfl, rfl, .inr ⟨_, _, _, _, rfl, rfl⟩⟩, ⟨_, _, rfl, rfl, .inr ⟨_, _, _, _, rfl, rfl⟩⟩, ⟨_, _, rfl, rfl, .inl ⟨rfl, rwI⟩⟩, trivial⟩ rfl ?_
      refine XL.conv (f18_1_ok m fuel z0 y0 a x7_1 (w64 (x8_1 + 1)) (putM mh3_1 (List.getD a (Int.toNat x8_1) 0) ((mh3_1.length : Nat) : Int)) (lh4_1 ++ [((mh3_1.length : Nat) : Int)]) o h Q hQ) (by first | with_reducible rfl | simp | rfl)
    | false =>
     have h := cF b3 h
     refine iF (.tmp 25) ?_
     refine kQ ?_
     show XQ _ _ _ _ _ _ _ _
     refine rQ ?_
     refine rT 7 [(37, pp 2 0), (41, s0 4 lh4_1.length), (43, s0 5 1)] ((5, .cells [ii (getM 0 mh3_1 (List.getD a (Int.toNat x8_1) 0))] 0 3 1) :: (4, rI lh4_1) :: (3, .imap (imC (Value.int .i64) mh3_1)) :: qha4 a lh4_1 y0 z0 []) 6 ?_
     cases b5 : (fitsB (lh4_1.length + 1) 8 : Bool) with
     | false => cases (cF b5 h)
     | true =>
      have h := cT b5 h
      refine XR.ef E0_ok [37, 44] rfl (e_append (encI_ok .i64) (bytes := 8) (e := 3) (x := (src 47 (.tmp 41))) (y := (src 47 (.tmp 43))) (b := 4) (len := lh4_1.length) (cap := lh4_1.length) (xs := lh4_1) (m := 0) (ys := [getM 0 mh3_1 (List.getD a (Int.toNat x8_1) 0)]) (d := (some (path 12 44))) (n' := (lh4_1 ++ [getM 0 mh3_1 (List.getD a (Int.toNat x8_1) 0)]).length) (h' := ((6, rI (lh4_1 ++ [getM 0 mh3_1 (List.getD a (Int.toNat x8_1) 0)])) :: (5, .cells [ii (getM 0 mh3_1 (List.getD a (Int.toNat x8_1) 0))] 0 3 1) :: (3, .imap (imC (Value.int .i64) mh3_1)) :: qha4 a lh4_1 y0 z0 [])) (by kernel_rfl) (by kernel_rfl) (by kernel_rfl) (by kernel_rfl) rfl (by simp) (by simp) b5 (by simp) (by kernel_rfl)) (σ' := [(37, pp 2 0), (44, s0 6 ((lh4_1 ++ [getM 0 mh3_1 (List.getD a (Int.toNat x8_1) 0)]).length))]) (by kernel_rfl) ?_
      refine rT 3 [] ((6, rI (lh4_1 ++ [getM 0 mh3_1 (List.getD a (Int.toNat x8_1) 0)])) :: (5, .cells [ii (getM 0 mh3_1 (List.getD a (Int.toNat x8_1) 0))] 0 3 1) :: (3, .imap (imC (Value.int .i64) mh3_1)) :: (2, .cells [.map (some 3), s0 6 ((lh4_1 ++ [getM 0 mh3_1 (List.getD a (Int.toNat x8_1) 0)]).length)] 0 114 0) :: qha6 a y0 z0 []) 7 ?_
      refine dQ ?_
      refine ⟨fun i q => (by cases q), .tuple #[], (by kernel_rfl), ?_⟩
      refine XR.conv (σ' := [(1, .func (.func 45) #[] #[pp 1 0]), (5, pp 2 0), (7, ii x7_1), (8, ii x8_1)]) (h' := ((6, rI (lh4_1 ++ [getM 0 mh3_1 (List.getD a (Int.toNat x8_1) 0)])) :: (5, .cells [ii (getM 0 mh3_1 (List.getD a (Int.toNat x8_1) 0))] 0 3 1) :: (3, .imap (imC (Value.int .i64) mh3_1)) :: (2, .cells [.map (some 3), s0 6 ((lh4_1 ++ [getM 0 mh3_1 (List.getD a (Int.toNat x8_1) 0)]).length)] 0 114 0) :: qha6 a y0 z0 [])) (c' := 7) ?_ (by kernel_rfl)
      refine dQ ?_
      show XQ _ _ _ _ _ _ _ _
      refine rQ ?_
      refine rS 2 [(1, .func (.func 45) #[] #[pp 1 0]), (5, pp 2 0), (7, ii x7_1), (8, ii (w64 (x8_1 + 1)))] ?_
      refine dQ ?_
      show XL _ _ _ _ _ _ _ _ _
      refine XL.ren (σ' := [(1, .func (.func 45) #[] #[pp 1 0]), (5, pp 2 0), (7, ii x7_1), (8, ii (w64 (x8_1 + 1)))]) (h' := ((4, rI (lh4_1 ++ [getM 0 mh3_1 (List.getD a (Int.toNat x8_1) 0)])) :: (3, .imap (imC (Value.int .i64) mh3_1)) :: (2, .cells [.map (some 3), s0 4 ((lh4_1 ++ [getM 0 mh3_1 (List.getD a (Int.toNat x8_1) 0)]).length)] 0 114 0) :: qha6 a y0 z0 [])) (c' := 5) [0, 1, 2, 3, 6] (by decide) rfl ⟨rfl, rfl, rfl, rfl, trivial⟩ ⟨⟨_, _, rfl, rfl, .inl ⟨rfl, rwI⟩⟩, ⟨_, _, rfl, rfl, .inl ⟨rfl, trivial⟩⟩, ⟨_, _, rfl, rfl, .inr ⟨_, _, _, _, rfl, rfl⟩⟩, ⟨_, _, rfl, rfl, .inr ⟨_, _, _, _, rfl, rfl⟩⟩, ⟨_, _, rfl, rfl, .inl ⟨rfl, rwI⟩⟩, trivial⟩ rfl ?_
      refine XL.conv (f18_1_ok m fuel z0 y0 a x7_1 (w64 (x8_1 + 1)) mh3_1 (lh4_1 ++ [getM 0 mh3_1 (List.getD a (Int.toNat x8_1) 0)]) o h Q hQ) (by first | with_reducible rfl | simp | rfl)
  | false =>
   have h := cF b1 h
   refine iF (.tmp 9) ?_
   refine XQ.ren (σ' := [(5, pp 2 0)]) (h' := ((4, rI lh4_1) :: (3, .imap (imC (Value.int .i64) mh3_1)) :: qha4 a lh4_1 y0 z0 [])) (c' := 5) [0, 1, 2, 3, 4] (by decide) rfl ⟨rfl, trivial⟩ ⟨⟨_, _, rfl, rfl, .inl ⟨rfl, rwI⟩⟩, ⟨_, _, rfl, rfl, .inl ⟨rfl, trivial⟩⟩, ⟨_, _, rfl, rfl, .inr ⟨_, _, _, _, rfl, rfl⟩⟩, ⟨_, _, rfl, rfl, .inr ⟨_, _, _, _, rfl, rfl⟩⟩, ⟨_, _, rfl, rfl, .inl ⟨rfl, rwI⟩⟩, trivial⟩ rfl ?_
   refine XQ.exit (i := 0) (by kernel_rfl) ?_
   cases h
   exact hQ
def f18_2 (m : Nat) : Nat → List Int → Int → Int → List (Int × Int) → List Int → Option ((List (Int × Int)) × (List Int))
 | 0, _, _, _, _, _ => none
 | fuel + 1, a, x7_2, x8_2, mh3_2, lh4_2 =>
  cond (decide (x8_2 < x7_2)) (
   cond (inRow x8_2 a.length) (
    cond (!(hasM mh3_2 (List.getD a (Int.toNat x8_2) 0))) (
     cond (fitsB (lh4_2.length + 1) 8) (
      f18_2 m fuel a x7_2 (w64 (x8_2 + 1)) (putM mh3_2 (List.getD a (Int.toNat x8_2) 0) ((mh3_2.length : Nat) : Int)) (lh4_2 ++ [((mh3_2.length : Nat) : Int)])
     ) none
    ) (
     cond (fitsB (lh4_2.length + 1) 8) (
      f18_2 m fuel a x7_2 (w64 (x8_2 + 1)) mh3_2 (lh4_2 ++ [getM 0 mh3_2 (List.getD a (Int.toNat x8_2) 0)])
     ) none
    )
   ) none
  ) (
   some (mh3_2, lh4_2)
  )
abbrev qha7 (a : List Int) (lh4_2 : List Int) (y0 : Nat) (z0 : Nat) (t : Heap) : Heap := (2, .cells [.map (some 3), s0 4 lh4_2.length] 0 114 0) :: (1, .cells [s0 0 a.length] 0 23 0) :: (0, rc (encI .i64) a z0 y0 1) :: t
abbrev qha8 (a : List Int) (x8_2 : Int) (t : St) : St := (0, pp 2 0) :: (1, ii (List.getD a (Int.toNat x8_2) 0)) :: t
abbrev qha9 (a : List Int) (y0 : Nat) (z0 : Nat) (t : Heap) : Heap := (1, .cells [s0 0 a.length] 0 23 0) :: (0, rc (encI .i64) a z0 y0 1) :: t
theorem f18_2_ok (m : Nat) : ∀ (fuel : Nat) (z0 : Nat) (y0 : Nat) (a : List Int) (x7_2 : Int) (x8_2 : Int) (mh3_2 : List (Int × Int)) (lh4_2 : List Int) (o : ((List (Int × Int)) × (List Int))), f18_2 m fuel a x7_2 x8_2 mh3_2 lh4_2 = some o → ∀ Q : QP, Q (.exit 0) [(5, pp 2 0)] ((4, rI o.2) :: (3, .imap (imC (Value.int .i64) o.1)) :: (2, .cells [.map (some 3), s0 4 o.2.length] 0 114 0) :: qha9 a y0 z0 []) 5 → XL E0 18 2 fuel f18_L1 [(1, .func (.func 45) #[] #[pp 1 0]), (5, pp 2 0), (7, ii x7_2), (8, ii x8_2)] ((4, rI lh4_2) :: (3, .imap (imC (Value.int .i64) mh3_2)) :: qha7 a lh4_2 y0 z0 []) 5 Q
 | 0, z0, y0, a, x7_2, x8_2, mh3_2, lh4_2, o, h, Q, hQ => by cases h
 | fuel + 1, z0, y0, a, x7_2, x8_2, mh3_2, lh4_2, o, h, Q, hQ => by
  unfold f18_2 at h
  refine XL.succ E0_ok ?_
  refine qQ ?_
  refine rS 1 [(1, .func (.func 45) #[] #[pp 1 0]), (5, pp 2 0), (7, ii x7_2), (8, ii x8_2), (9, .bool (decide (x8_2 < x7_2)))] ?_
  refine dQ ?_
  show XQ _ _ _ _ _ _ _ _
  refine sQ ?_
  cases b1 : (decide (x8_2 < x7_2) : Bool) with
  | true =>
   have h := cT b1 h
   refine iT (.tmp 9) ?_
   refine kQ ?_
   show XQ _ _ _ _ _ _ _ _
   refine sQ ?_
   refine XQ.block (id := 1) (by kernel_rfl) ?_
   refine qQ ?_
   refine rS 2 [(1, .func (.func 45) #[] #[pp 1 0]), (5, pp 2 0), (6, ii x8_2), (7, ii x7_2), (8, ii x8_2)] ?_
   refine dQ ?_
   show XQ _ _ _ _ _ _ _ _
   refine rQ ?_
   refine rS 2 [(1, .func (.func 45) #[] #[pp 1 0]), (5, pp 2 0), (7, ii x7_2), (8, ii x8_2), (11, .func (.func 45) #[] #[pp 1 0]), (12, ii x8_2)] ?_
   refine XR.callK E0_ok [1, 5, 7, 8, 13] rfl (K := 45) (args := [ii x8_2, pp 1 0]) (d := (some (path 12 13))) (by kernel_rfl) ?_
   refine KC.bodyN E0_ok (F := Proofs.Tryz.f45) (by kernel_rfl) (code := f18_C45) (by kernel_rfl) (nt := 8) (by kernel_rfl) (rs := [.tmp 3]) (by kernel_rfl) (by kernel_rfl) (σ := [(0, ii x8_2), (1, pp 1 0)]) (by kernel_rfl) ?_
   refine qQ ?_
   refine rS 1 [(0, ii x8_2), (1, pp 1 0)] ?_
   refine nQ id ?_
   refine rS 2 [(4, s0 0 a.length), (5, ii x8_2)] ?_
   cases b2 : (inRow x8_2 a.length : Bool) with
   | false => cases (cF b2 h)
   | true =>
    have h := cT b2 h
    refine XR.rd E0_ok [6] rfl (v := pp 0 ((Int.toNat x8_2) * 1)) (v_idx (s := 1) (x := (src 8 (.tmp 4))) (y := (src 8 (.tmp 5))) (b := 0) (o := 0) (len := a.length) (cap := a.length) (ik := .i64) (i := x8_2) (off := (Int.toNat x8_2) * 1) (d := (some (path 12 6))) (by kernel_rfl) (by kernel_rfl) (by kernel_rfl) b2 (by omega)) (σ' := [(6, pp 0 ((Int.toNat x8_2) * 1))]) (by kernel_rfl) ?_
    refine XR.rd E0_ok [7] rfl (v := ii (List.getD a (Int.toNat x8_2) 0)) (v_load1 (encI_ok .i64) (x := (src 8 (.tmp 6))) (b := 0) (off := (Int.toNat x8_2) * 1) (xs := a) (fz := z0) (e := y0) (es := 1) (d := (some (path 12 7))) (by kernel_rfl) (by kernel_rfl) (by kernel_rfl) (Int.toNat x8_2) 0 0 (by first | with_reducible rfl | omega | rfl) (row_len (inRow_toNat b2) (by simp)) rfl rfl) (σ' := [(7, ii (List.getD a (Int.toNat x8_2) 0))]) (by kernel_rfl) ?_
    refine rS 1 [(3, ii (List.getD a (Int.toNat x8_2) 0))] ?_
    refine dQ ?_
    show XQ _ _ _ _ _ _ _ _
    refine XQ.ret (by kernel_rfl) ?_
    refine ⟨fun i q => (by cases q), ii (List.getD a (Int.toNat x8_2) 0), (by kernel_rfl), ?_⟩
    refine XR.conv (σ' := [(1, .func (.func 45) #[] #[pp 1 0]), (5, pp 2 0), (7, ii x7_2), (8, ii x8_2), (13, ii (List.getD a (Int.toNat x8_2) 0))]) (h' := ((4, rI lh4_2) :: (3, .imap (imC (Value.int .i64) mh3_2)) :: qha7 a lh4_2 y0 z0 [])) (c' := 5) ?_ (by kernel_rfl)
    refine XR.callK E0_ok [1, 5, 7, 8] rfl (K := 65) (args := [pp 2 0, ii (List.getD a (Int.toNat x8_2) 0)]) (d := (some (path 12 14))) (by kernel_rfl) ?_
    refine KC.bodyN E0_ok (F := Proofs.Tryz.f65) (by kernel_rfl) (code := f18_C65) (by kernel_rfl) (nt := 47) (by kernel_rfl) (rs := []) (by kernel_rfl) (by kernel_rfl) (σ := (qha8 a x8_2 [])) (by kernel_rfl) ?_
    refine sQ ?_
    refine qQ ?_
    refine rS 5 (qha8 a x8_2 [(10, .bool false)]) ?_
    refine dQ ?_
    show XQ _ _ _ _ _ _ _ _
    refine iF (.tmp 10) ?_
    refine kQ ?_
    show XQ _ _ _ _ _ _ _ _
    refine qQ ?_
    refine rS 5 (qha8 a x8_2 [(19, .map (some 3)), (20, ii (List.getD a (Int.toNat x8_2) 0))]) ?_
    refine XR.rd E0_ok [0, 1, 21] rfl (v := .tuple #[ii (getM 0 mh3_2 (List.getD a (Int.toNat x8_2) 0)), .bool (hasM mh3_2 (List.getD a (Int.toNat x8_2) 0))]) (v_mgeto (Value.int .i64) (x := (src 47 (.tmp 19))) (i := (src 47 (.tmp 20))) (z := .int .i64 0) (d := (some (path 12 21))) (b := 3) (k := List.getD a (Int.toNat x8_2) 0) (l := mh3_2) (d0 := 0) (by kernel_rfl) (by kernel_rfl) (by kernel_rfl) (by kernel_rfl) rfl rfl rfl) (σ' := (qha8 a x8_2 [(21, .tuple #[ii (getM 0 mh3_2 (List.getD a (Int.toNat x8_2) 0)), .bool (hasM mh3_2 (List.getD a (Int.toNat x8_2) 0))])])) (by kernel_rfl) ?_
    refine rS 5 (qha8 a x8_2 [(4, ii (getM 0 mh3_2 (List.getD a (Int.toNat x8_2) 0))), (5, .bool (hasM mh3_2 (List.getD a (Int.toNat x8_2) 0)))]) ?_
    refine dQ ?_
    show XQ _ _ _ _ _ _ _ _
    refine sQ ?_
    refine qQ ?_
    refine rS 2 (qha8 a x8_2 [(4, ii (getM 0 mh3_2 (List.getD a (Int.toNat x8_2) 0))), (25, .bool (!(hasM mh3_2 (List.getD a (Int.toNat x8_2) 0))))]) ?_
    refine dQ ?_
    show XQ _ _ _ _ _ _ _ _
    cases b3 : (!(hasM mh3_2 (List.getD a (Int.toNat x8_2) 0)) : Bool) with
    | true =>
     have h := cT b3 h
     refine iT (.tmp 25) ?_
     refine qQ ?_
     refine rS 4 (qha8 a x8_2 [(29, .map (some 3))]) ?_
     refine XR.rd E0_ok [0, 1, 30] rfl (v := ii ((mh3_2.length : Nat) : Int)) (v_mlen (x := (src 47 (.tmp 29))) (d := (some (path 12 30))) (b := 3) (es := imC (Value.int .i64) mh3_2) (n := mh3_2.length) (by kernel_rfl) (by kernel_rfl) (by kernel_rfl) (imC_len _ _)) (σ' := (qha8 a x8_2 [(30, ii ((mh3_2.length : Nat) : Int))])) (by kernel_rfl) ?_
     refine rS 1 (qha8 a x8_2 [(4, ii ((mh3_2.length : Nat) : Int))]) ?_
     refine dQ ?_
     show XQ _ _ _ _ _ _ _ _
     refine rQ ?_
     refine rS 6 [(0, pp 2 0), (4, ii ((mh3_2.length : Nat) : Int)), (34, .map (some 3)), (35, ii (List.getD a (Int.toNat x8_2) 0)), (36, ii ((mh3_2.length : Nat) : Int))] ?_
     refine XR.ef E0_ok [0, 4] rfl (e_mput (Value.int .i64) (m := (src 47 (.tmp 34))) (i := (src 47 (.tmp 35))) (x := (src 47 (.tmp 36))) (d := none) (b := 3) (k := List.getD a (Int.toNat x8_2) 0) (l := mh3_2) (a := ((mh3_2.length : Nat) : Int)) (h' := ((4, rI lh4_2) :: (3, .imap (imC (Value.int .i64) (putM mh3_2 (List.getD a (Int.toNat x8_2) 0) ((mh3_2.length : Nat) : Int)))) :: qha7 a lh4_2 y0 z0 [])) (by kernel_rfl) (by kernel_rfl) (by kernel_rfl) (by kernel_rfl) (by kernel_rfl) rfl rfl) (σ' := [(0, pp 2 0), (4, ii ((mh3_2.length : Nat) : Int))]) (by kernel_rfl) ?_
     refine dQ ?_
     show XQ _ _ _ _ _ _ _ _
     refine rQ ?_
     refine rT 7 [(37, pp 2 0), (41, s0 4 lh4_2.length), (43, s0 5 1)] ((5, .cells [ii ((mh3_2.length : Nat) : Int)] 0 3 1) :: (4, rI lh4_2) :: (3, .imap (imC (Value.int .i64) (putM mh3_2 (List.getD a (Int.toNat x8_2) 0) ((mh3_2.length : Nat) : Int)))) :: qha7 a lh4_2 y0 z0 []) 6 ?_
     cases b4 : (fitsB (lh4_2.length + 1) 8 : Bool) with
     | false => cases (cF b4 h)
     | true =>
      have h := cT b4 h
      refine XR.ef E0_ok [37, 44] rfl (e_append (encI_ok .i64) (bytes := 8) (e := 3) (x := (src 47 (.tmp 41))) (y := (src 47 (.tmp 43))) (b := 4) (len := lh4_2.length) (cap := lh4_2.length) (xs := lh4_2) (m := 0) (ys := [((mh3_2.length : Nat) : Int)]) (d := (some (path 12 44))) (n' := (lh4_2 ++ [((mh3_2.length : Nat) : Int)]).length) (h' := ((6, rI (lh4_2 ++ [((mh3_2.length : Nat) : Int)])) :: (5, .cells [ii ((mh3_2.length : Nat) : Int)] 0 3 1) :: (3, .imap (imC (Value.int .i64) (putM mh3_2 (List.getD a (Int.toNat x8_2) 0) ((mh3_2.length : Nat) : Int)))) :: qha7 a lh4_2 y0 z0 [])) (by kernel_rfl) (by kernel_rfl) (by kernel_rfl) (by kernel_rfl) rfl (by simp) (by simp) b4 (by simp) (by kernel_rfl)) (σ' := [(37, pp 2 0), (44, s0 6 ((lh4_2 ++ [((mh3_2.length : Nat) : Int)]).length))]) (by kernel_rfl) ?_
      refine rT 3 [] ((6, rI (lh4_2 ++ [((mh3_2.length : Nat) : Int)])) :: (5, .cells [ii ((mh3_2.length : Nat) : Int)] 0 3 1) :: (3, .imap (imC (Value.int .i64) (putM mh3_2 (List.getD a (Int.toNat x8_2) 0) ((mh3_2.length : Nat) : Int)))) :: (2, .cells [.map (some 3), s0 6 ((lh4_2 ++ [((mh3_2.length : Nat) : Int)]).length)] 0 114 0) :: qha9 a y0 z0 []) 7 ?_
      refine dQ ?_
      refine ⟨fun i q => (by cases q), .tuple #[], (by kernel_rfl), ?_⟩
      refine XR.conv (σ' := [(1, .func (.func 45) #[] #[pp 1 0]), (5, pp 2 0), (7, ii x7_2), (8, ii x8_2)]) (h' := ((6, rI (lh4_2 ++ [((mh3_2.length : Nat) : Int)])) :: (5, .cells [ii ((mh3_2.length : Nat) : Int)] 0 3 1) :: (3, .imap (imC (Value.int .i64) (putM mh3_2 (List.getD a (Int.toNat x8_2) 0) ((mh3_2.length : Nat) : Int)))) :: (2, .cells [.map (some 3), s0 6 ((lh4_2 ++ [((mh3_2.length : Nat) : Int)]).length)] 0 114 0) :: qha9 a y0 z0 [])) (c' := 7) ?_ (by kernel_rfl)
      refine dQ ?_
      show XQ _ _ _ _ _ _ _ _
      refine rQ ?_
      refine rS 2 [(1, .func (.func 45) #[] #[pp 1 0]), (5, pp 2 0), (7, ii x7_2), (8, ii (w64 (x8_2 + 1)))] ?_
      refine dQ ?_
      show XL _ _ _ _ _ _ _ _ _
      refine XL.ren (σ' := [(1, .func (.func 45) #[] #[pp 1 0]), (5, pp 2 0), (7, ii x7_2), (8, ii (w64 (x8_2 + 1)))]) (h' := ((4, rI (lh4_2 ++ [((mh3_2.length : Nat) : Int)])) :: (3, .imap (imC (Value.int .i64) (putM mh3_2 (List.getD a (Int.toNat x8_2) 0) ((mh3_2.length : Nat) : Int)))) :: (2, .cells [.map (some 3), s0 4 ((lh4_2 ++ [((mh3_2.length : Nat) : Int)]).length)] 0 114 0) :: qha9 a y0 z0 [])) (c' := 5) [0, 1, 2, 3, 6] (by decide) rfl ⟨rfl, rfl, rfl, rfl, trivial⟩ ⟨⟨_, _, rfl, rfl, .inl ⟨rfl, rwI⟩⟩, ⟨_, _, rfl, rfl, .inl ⟨rfl, trivial⟩⟩, ⟨_, _, rfl, rfl, .inr ⟨_, _, _, _, rfl, rfl⟩⟩, ⟨_, _, rfl, rfl, .inr ⟨_, _, _, _, rfl, rfl⟩⟩, ⟨_, _, rfl, rfl, .inl ⟨rfl, rwI⟩⟩, trivial⟩ rfl ?_
      refine XL.conv (f18_2_ok m fuel z0 y0 a x7_2 (w64 (x8_2 + 1)) (putM mh3_2 (List.getD a (Int.toNat x8_2) 0) ((mh3_2.length : Nat) : Int)) (lh4_2 ++ [((mh3_2.length : Nat) : Int)]) o h Q hQ) (by first | with_reducible rfl | simp | rfl)
    | false =>
     have h := cF b3 h
     refine iF (.tmp 25) ?_
     refine kQ ?_
     show XQ _ _ _ _ _ _ _ _
     refine rQ ?_
     refine rT 7 [(37, pp 2 0), (41, s0 4 lh4_2.length), (43, s0 5 1)] ((5, .cells [ii (getM 0 mh3_2 (List.getD a (Int.toNat x8_2) 0))] 0 3 1) :: (4, rI lh4_2) :: (3, .imap (imC (Value.int .i64) mh3_2)) :: qha7 a lh4_2 y0 z0 []) 6 ?_
     cases b5 : (fitsB (lh4_2.length + 1) 8 : Bool) with
     | false => cases (cF b5 h)
     | true =>
      have h := cT b5 h
      refine XR.ef E0_ok [37, 44] rfl (e_append (encI_ok .i64) (bytes := 8) (e := 3) (x := (src 47 (.tmp 41))) (y := (src 47 (.tmp 43))) (b := 4) (len := lh4_2.length) (cap := lh4_2.length) (xs := lh4_2) (m := 0) (ys := [getM 0 mh3_2 (List.getD a (Int.toNat x8_2) 0)]) (d := (some (path 12 44))) (n' := (lh4_2 ++ [getM 0 mh3_2 (List.getD a (Int.toNat x8_2) 0)]).length) (h' := ((6, rI (lh4_2 ++ [getM 0 mh3_2 (List.getD a (Int.toNat x8_2) 0)])) :: (5, .cells [ii (getM 0 mh3_2 (List.getD a (Int.toNat x8_2) 0))] 0 3 1) :: (3, .imap (imC (Value.int .i64) mh3_2)) :: qha7 a lh4_2 y0 z0 [])) (by kernel_rfl) (by kernel_rfl) (by kernel_rfl) (by kernel_rfl) rfl (by simp) (by simp) b5 (by simp) (by kernel_rfl)) (σ' := [(37, pp 2 0), (44, s0 6 ((lh4_2 ++ [getM 0 mh3_2 (List.getD a (Int.toNat x8_2) 0)]).length))]) (by kernel_rfl) ?_
      refine rT 3 [] ((6, rI (lh4_2 ++ [getM 0 mh3_2 (List.getD a (Int.toNat x8_2) 0)])) :: (5, .cells [ii (getM 0 mh3_2 (List.getD a (Int.toNat x8_2) 0))] 0 3 1) :: (3, .imap (imC (Value.int .i64) mh3_2)) :: (2, .cells [.map (some 3), s0 6 ((lh4_2 ++ [getM 0 mh3_2 (List.getD a (Int.toNat x8_2) 0)]).length)] 0 114 0) :: qha9 a y0 z0 []) 7 ?_
      refine dQ ?_
      refine ⟨fun i q => (by cases q), .tuple #[], (by kernel_rfl), ?_⟩
      refine XR.conv (σ' := [(1, .func (.func 45) #[] #[pp 1 0]), (5, pp 2 0), (7, ii x7_2), (8, ii x8_2)]) (h' := ((6, rI (lh4_2 ++ [getM 0 mh3_2 (List.getD a (Int.toNat x8_2) 0)])) :: (5, .cells [ii (getM 0 mh3_2 (List.getD a (Int.toNat x8_2) 0))] 0 3 1) :: (3, .imap (imC (Value.int .i64) mh3_2)) :: (2, .cells [.map (some 3), s0 6 ((lh4_2 ++ [getM 0 mh3_2 (List.getD a (Int.toNat x8_2) 0)]).length)] 0 114 0) :: qha9 a y0 z0 [])) (c' := 7) ?_ (by kernel_rfl)
      refine dQ ?_
      show XQ _ _ _ _ _ _ _ _
      refine rQ ?_
      refine rS 2 [(1, .func (.func 45) #[] #[pp 1 0]), (5, pp 2 0), (7, ii x7_2), (8, ii (w64 (x8_2 + 1)))] ?_
      refine dQ ?_
      show XL _ _ _ _ _ _ _ _ _
      refine XL.ren (σ' := [(1, .func (.func 45) #[] #[pp 1 0]), (5, pp 2 0), (7, ii x7_2), (8, ii (w64 (x8_2 + 1)))]) (h' := ((4, rI (lh4_2 ++ [getM 0 mh3_2 (List.getD a (Int.toNat x8_2) 0)])) :: (3, .imap (imC (Value.int .i64) mh3_2)) :: (2, .cells [.map (some 3), s0 4 ((lh4_2 ++ [getM 0 mh3_2 (List.getD a (Int.toNat x8_2) 0)]).length)] 0 114 0) :: qha9 a y0 z0 [])) (c' := 5) [0, 1, 2, 3, 6] (by decide) rfl ⟨rfl, rfl, rfl, rfl, trivial⟩ ⟨⟨_, _, rfl, rfl, .inl ⟨rfl, rwI⟩⟩, ⟨_, _, rfl, rfl, .inl ⟨rfl, trivial⟩⟩, ⟨_, _, rfl, rfl, .inr ⟨_, _, _, _, rfl, rfl⟩⟩, ⟨_, _, rfl, rfl, .inr ⟨_, _, _, _, rfl, rfl⟩⟩, ⟨_, _, rfl, rfl, .inl ⟨rfl, rwI⟩⟩, trivial⟩ rfl ?_
      refine XL.conv (f18_2_ok m fuel z0 y0 a x7_2 (w64 (x8_2 + 1)) mh3_2 (lh4_2 ++ [getM 0 mh3_2 (List.getD a (Int.toNat x8_2) 0)]) o h Q hQ) (by first | with_reducible rfl | simp | rfl)
  | false =>
   have h := cF b1 h
   refine iF (.tmp 9) ?_
   refine XQ.ren (σ' := [(5, pp 2 0)]) (h' := ((4, rI lh4_2) :: (3, .imap (imC (Value.int .i64) mh3_2)) :: qha7 a lh4_2 y0 z0 [])) (c' := 5) [0, 1, 2, 3, 4] (by decide) rfl ⟨rfl, trivial⟩ ⟨⟨_, _, rfl, rfl, .inl ⟨rfl, rwI⟩⟩, ⟨_, _, rfl, rfl, .inl ⟨rfl, trivial⟩⟩, ⟨_, _, rfl, rfl, .inr ⟨_, _, _, _, rfl, rfl⟩⟩, ⟨_, _, rfl, rfl, .inr ⟨_, _, _, _, rfl, rfl⟩⟩, ⟨_, _, rfl, rfl, .inl ⟨rfl, rwI⟩⟩, trivial⟩ rfl ?_
   refine XQ.exit (i := 0) (by kernel_rfl) ?_
   cases h
   exact hQ
def f18 (m : Nat) (a : List Int) : Option ((List Int) × Int) :=
 (f43 m a).bind fun r1 =>
  cond (r1 != 0) (
   some ([], r1)
  ) (
   cond (decide ((0 : Int) < ((a.length : Nat) : Int))) (
    cond (inRow 0 a.length) (
     cond (!(hasM ([] : List (Int × Int)) (List.getD a 0 0))) (
      (f18_1 m m a ((a.length : Nat) : Int) 1 (putM [] (List.getD a 0 0) ((0 : Nat) : Int)) [((0 : Nat) : Int)]).bind fun o1 =>
       some (o1.2, 0)
     ) (
      (f18_2 m m a ((a.length : Nat) : Int) 1 [] [getM 0 ([] : List (Int × Int)) (List.getD a 0 0)]).bind fun o2 =>
       some (o2.2, 0)
     )
    ) none
   ) (
    some ([], 0)
   )
  )
set_option maxHeartbeats 8000000 in
abbrev qha10 (a : List Int) (y0 : Nat) (z0 : Nat) (t : Heap) : Heap := (1, .cells [s0 0 a.length] 0 23 0) :: (0, rc (encI .i64) a z0 y0 1) :: t
abbrev qha11 (a : List Int) (t : St) : St := (5, pp 2 0) :: (7, ii ((a.length : Nat) : Int)) :: t
abbrev qha12 (a : List Int) (t : St) : St := (0, pp 2 0) :: (1, ii (List.getD a 0 0)) :: t
theorem f18_ok (m : Nat) (z0 : Nat) (y0 : Nat) (a : List Int) (o : (List Int) × Int) (h : f18 m a = some o) : KC E0 18 [s0 0 a.length] [(0, rc (encI .i64) a z0 y0 1)] 1 (fun v h' c' => v = .tuple #[s0 1 o.1.length, ii o.2] ∧ h' = [(1, rI o.1)] ++ [(0, rc (encI .i64) a z0 y0 1)] ∧ c' = 2) := by
 refine KC.bodyN E0_ok (F := Proofs.Tryz.f18) (by kernel_rfl) (code := f18_C18) (by kernel_rfl) (nt := 14) (by kernel_rfl) (rs := [.tmp 2, .tmp 3]) (by kernel_rfl) (by kernel_rfl) (σ := [(0, s0 0 a.length)]) (by kernel_rfl) ?_
 unfold f18 at h
 refine qQ ?_
 refine rT 3 [(1, pp 1 0)] (qha10 a y0 z0 []) 2 ?_
 refine dQ ?_
 show XQ _ _ _ _ _ _ _ _
 refine sQ ?_
 refine qQ ?_
 refine rS 1 [(1, pp 1 0), (5, s0 0 a.length)] ?_
 obtain ⟨r1, r1_h, h⟩ := bS h
 refine XR.call E0_ok [1, 6] rfl (K := 43) (args := [s0 0 a.length]) (d := (some (path 12 6))) (by kernel_rfl) (KQ.call (KC.quiet E0_ok (args0 := [s0 0 a.length]) (h0 := [(0, rc (encI .i64) a (z0 + ((rowC (encI .i64) a).length + 1)) y0 1)]) (n := 1) (V := ii r1) [0] (f43_ok m (z0 + ((rowC (encI .i64) a).length + 1)) y0 a r1 r1_h) rfl (by rfl) (by decide) rfl (by kernel_rfl) ⟨⟨_, _, rfl, rfl, .inl ⟨rfl, rwI⟩⟩, trivial⟩) rfl) ?_
 rintro _ _ _ ⟨rfl, rfl, rfl⟩
 refine XR.conv (σ' := [(1, pp 1 0), (6, ii r1)]) (h' := (qha10 a y0 z0 [])) (c' := 2) ?_ (by kernel_rfl)
 refine rS 1 [(1, pp 1 0), (4, ii r1)] ?_
 refine nQ id ?_
 refine rS 2 [(1, pp 1 0), (4, ii r1), (8, .bool (r1 != 0))] ?_
 refine dQ ?_
 show XQ _ _ _ _ _ _ _ _
 cases b1 : (r1 != 0 : Bool) with
 | true =>
  have h := cT b1 h
  refine iT (.tmp 8) ?_
  refine qQ ?_
  refine rS 3 [(2, .slice none 0 0), (3, ii r1)] ?_
  refine dQ ?_
  show XQ _ _ _ _ _ _ _ _
  refine XQ.ghost 3 1 rfl (σ' := [(2, s0 2 0), (3, ii r1)]) (h' := (qha10 a y0 z0 [])) ⟨rfl, rfl, trivial⟩ ⟨⟨_, rfl, .inl rfl⟩, ⟨_, rfl, .inl rfl⟩, trivial⟩ ?_
  refine XQ.conv (σ' := [(2, s0 2 0), (3, ii r1)]) (h' := ((2, rI []) :: qha10 a y0 z0 [])) (c' := 3) ?_ (by kernel_rfl)
  refine XQ.ren (σ' := [(2, s0 1 0), (3, ii r1)]) (h' := [(1, rI []), (0, rc (encI .i64) a z0 y0 1)]) (c' := 2) [0, 2] (by decide) rfl ⟨rfl, rfl, trivial⟩ ⟨⟨_, _, rfl, rfl, .inl ⟨rfl, rwI⟩⟩, ⟨_, _, rfl, rfl, .inl ⟨rfl, rwI⟩⟩, trivial⟩ rfl ?_
  refine XQ.ret (by kernel_rfl) ?_
  have h := Option.some.inj h
  subst h
  exact ⟨fun i q => (by cases q), .tuple #[s0 1 0, ii r1], (by kernel_rfl), (by kernel_rfl), (by kernel_rfl), rfl⟩
 | false =>
  have h := cF b1 h
  refine iF (.tmp 8) ?_
  refine kQ ?_
  show XQ _ _ _ _ _ _ _ _
  refine qQ ?_
  refine rS 3 [(11, ii ((a.length : Nat) : Int)), (12, .func (.func 45) #[] #[pp 1 0])] ?_
  refine XR.callK E0_ok [13] rfl (K := 44) (args := [ii ((a.length : Nat) : Int), .func (.func 45) #[] #[pp 1 0]]) (d := (some (path 12 13))) (by kernel_rfl) ?_
  refine KC.bodyN E0_ok (F := Proofs.Tryz.f44) (by kernel_rfl) (code := f18_C44) (by kernel_rfl) (nt := 18) (by kernel_rfl) (rs := [.tmp 4]) (by kernel_rfl) (by kernel_rfl) (σ := [(0, ii ((a.length : Nat) : Int)), (1, .func (.func 45) #[] #[pp 1 0])]) (by kernel_rfl) ?_
  refine qQ ?_
  refine rS 1 [(0, ii ((a.length : Nat) : Int)), (1, .func (.func 45) #[] #[pp 1 0])] ?_
  refine nQ id ?_
  refine rT 1 [(0, ii ((a.length : Nat) : Int)), (1, .func (.func 45) #[] #[pp 1 0]), (5, pp 2 0)] ((2, .cells [.map none, .slice none 0 0] 0 114 0) :: qha10 a y0 z0 []) 3 ?_
  refine dQ ?_
  show XQ _ _ _ _ _ _ _ _
  refine XQ.ghost 3 1 rfl (σ' := [(0, ii ((a.length : Nat) : Int)), (1, .func (.func 45) #[] #[pp 1 0]), (5, pp 2 0)]) (h' := ((2, .cells [.map none, s0 3 0] 0 114 0) :: qha10 a y0 z0 [])) ⟨rfl, rfl, rfl, trivial⟩ ⟨⟨_, rfl, .inr ⟨_, _, _, _, rfl, rfl⟩⟩, ⟨_, rfl, .inl rfl⟩, ⟨_, rfl, .inl rfl⟩, trivial⟩ ?_
  refine XQ.conv (σ' := [(0, ii ((a.length : Nat) : Int)), (1, .func (.func 45) #[] #[pp 1 0]), (5, pp 2 0)]) (h' := ((3, rI []) :: (2, .cells [.map none, s0 3 0] 0 114 0) :: qha10 a y0 z0 [])) (c' := 4) ?_ (by kernel_rfl)
  refine sQ ?_
  refine qQ ?_
  refine rS 2 ((1, .func (.func 45) #[] #[pp 1 0]) :: qha11 a [(8, ii 0)]) ?_
  refine dQ ?_
  show XQ _ _ _ _ _ _ _ _
  refine XQ.block (id := 0) (by kernel_rfl) ?_
  refine XQ.loop (m + 1) (by kernel_rfl) ?_
  refine XL.succ E0_ok ?_
  refine qQ ?_
  refine rS 1 ((1, .func (.func 45) #[] #[pp 1 0]) :: qha11 a [(8, ii 0), (9, .bool (decide ((0 : Int) < ((a.length : Nat) : Int))))]) ?_
  refine dQ ?_
  show XQ _ _ _ _ _ _ _ _
  refine sQ ?_
  cases b2 : (decide ((0 : Int) < ((a.length : Nat) : Int)) : Bool) with
  | true =>
   have h := cT b2 h
   refine iT (.tmp 9) ?_
   refine kQ ?_
   show XQ _ _ _ _ _ _ _ _
   refine sQ ?_
   refine XQ.block (id := 1) (by kernel_rfl) ?_
   refine qQ ?_
   refine rS 2 [(1, .func (.func 45) #[] #[pp 1 0]), (5, pp 2 0), (6, ii 0), (7, ii ((a.length : Nat) : Int)), (8, ii 0)] ?_
   refine dQ ?_
   show XQ _ _ _ _ _ _ _ _
   refine rQ ?_
   refine rS 2 ((1, .func (.func 45) #[] #[pp 1 0]) :: qha11 a [(8, ii 0), (11, .func (.func 45) #[] #[pp 1 0]), (12, ii 0)]) ?_
   refine XR.callK E0_ok [1, 5, 7, 8, 13] rfl (K := 45) (args := [ii 0, pp 1 0]) (d := (some (path 12 13))) (by kernel_rfl) ?_
   refine KC.bodyN E0_ok (F := Proofs.Tryz.f45) (by kernel_rfl) (code := f18_C45) (by kernel_rfl) (nt := 8) (by kernel_rfl) (rs := [.tmp 3]) (by kernel_rfl) (by kernel_rfl) (σ := [(0, ii 0), (1, pp 1 0)]) (by kernel_rfl) ?_
   refine qQ ?_
   refine rS 1 [(0, ii 0), (1, pp 1 0)] ?_
   refine nQ id ?_
   refine rS 2 [(4, s0 0 a.length), (5, ii 0)] ?_
   cases b3 : (inRow 0 a.length : Bool) with
   | false => cases (cF b3 h)
   | true =>
    have h := cT b3 h
    refine XR.rd E0_ok [6] rfl (v := pp 0 (0 * 1)) (v_idx (s := 1) (x := (src 8 (.tmp 4))) (y := (src 8 (.tmp 5))) (b := 0) (o := 0) (len := a.length) (cap := a.length) (ik := .i64) (i := 0) (off := 0 * 1) (d := (some (path 12 6))) (by kernel_rfl) (by kernel_rfl) (by kernel_rfl) b3 (by omega)) (σ' := [(6, pp 0 (0 * 1))]) (by kernel_rfl) ?_
    refine XR.rd E0_ok [7] rfl (v := ii (List.getD a 0 0)) (v_load1 (encI_ok .i64) (x := (src 8 (.tmp 6))) (b := 0) (off := 0 * 1) (xs := a) (fz := z0) (e := y0) (es := 1) (d := (some (path 12 7))) (by kernel_rfl) (by kernel_rfl) (by kernel_rfl) 0 0 0 (by first | with_reducible rfl | omega | rfl) (row_len (inRow_toNat b3) (by simp)) rfl rfl) (σ' := [(7, ii (List.getD a 0 0))]) (by kernel_rfl) ?_
    refine rS 1 [(3, ii (List.getD a 0 0))] ?_
    refine dQ ?_
    show XQ _ _ _ _ _ _ _ _
    refine XQ.ret (by kernel_rfl) ?_
    refine ⟨fun i q => (by cases q), ii (List.getD a 0 0), (by kernel_rfl), ?_⟩
    refine XR.conv (σ' := ((1, .func (.func 45) #[] #[pp 1 0]) :: qha11 a [(8, ii 0), (13, ii (List.getD a 0 0))])) (h' := ((3, rI []) :: (2, .cells [.map none, s0 3 0] 0 114 0) :: qha10 a y0 z0 [])) (c' := 4) ?_ (by kernel_rfl)
    refine XR.callK E0_ok [1, 5, 7, 8] rfl (K := 65) (args := [pp 2 0, ii (List.getD a 0 0)]) (d := (some (path 12 14))) (by kernel_rfl) ?_
    refine KC.bodyN E0_ok (F := Proofs.Tryz.f65) (by kernel_rfl) (code := f18_C65) (by kernel_rfl) (nt := 47) (by kernel_rfl) (rs := []) (by kernel_rfl) (by kernel_rfl) (σ := (qha12 a [])) (by kernel_rfl) ?_
    refine sQ ?_
    refine qQ ?_
    refine rS 5 (qha12 a [(10, .bool true)]) ?_
    refine dQ ?_
    show XQ _ _ _ _ _ _ _ _
    refine iT (.tmp 10) ?_
    refine rQ ?_
    refine rT 5 (qha12 a []) ((4, .imap (imC (Value.int .i64) [])) :: (3, rI []) :: (2, .cells [.map (some 4), s0 3 0] 0 114 0) :: qha10 a y0 z0 []) 5 ?_
    refine nQ id ?_
    refine rS 5 (qha12 a [(19, .map (some 4)), (20, ii (List.getD a 0 0))]) ?_
    refine XR.rd E0_ok [0, 1, 21] rfl (v := .tuple #[ii (getM 0 ([] : List (Int × Int)) (List.getD a 0 0)), .bool (hasM ([] : List (Int × Int)) (List.getD a 0 0))]) (v_mgeto (Value.int .i64) (x := (src 47 (.tmp 19))) (i := (src 47 (.tmp 20))) (z := .int .i64 0) (d := (some (path 12 21))) (b := 4) (k := List.getD a 0 0) (l := ([] : List (Int × Int))) (d0 := 0) (by kernel_rfl) (by kernel_rfl) (by kernel_rfl) (by kernel_rfl) rfl rfl rfl) (σ' := (qha12 a [(21, .tuple #[ii (getM 0 ([] : List (Int × Int)) (List.getD a 0 0)), .bool (hasM ([] : List (Int × Int)) (List.getD a 0 0))])])) (by kernel_rfl) ?_
    refine rS 5 (qha12 a [(4, ii (getM 0 ([] : List (Int × Int)) (List.getD a 0 0))), (5, .bool (hasM ([] : List (Int × Int)) (List.getD a 0 0)))]) ?_
    refine dQ ?_
    show XQ _ _ _ _ _ _ _ _
    refine sQ ?_
    refine qQ ?_
    refine rS 2 (qha12 a [(4, ii (getM 0 ([] : List (Int × Int)) (List.getD a 0 0))), (25, .bool (!(hasM ([] : List (Int × Int)) (List.getD a 0 0))))]) ?_
    refine dQ ?_
    show XQ _ _ _ _ _ _ _ _
    cases b4 : (!(hasM ([] : List (Int × Int)) (List.getD a 0 0)) : Bool) with
    | true =>
     have h := cT b4 h
     refine iT (.tmp 25) ?_
     refine qQ ?_
     refine rS 4 (qha12 a [(29, .map (some 4))]) ?_
     refine XR.rd E0_ok [0, 1, 30] rfl (v := ii ((0 : Nat) : Int)) (v_mlen (x := (src 47 (.tmp 29))) (d := (some (path 12 30))) (b := 4) (es := imC (Value.int .i64) ([] : List (Int × Int))) (n := 0) (by kernel_rfl) (by kernel_rfl) (by kernel_rfl) rfl) (σ' := (qha12 a [(30, ii ((0 : Nat) : Int))])) (by kernel_rfl) ?_
     refine rS 1 (qha12 a [(4, ii ((0 : Nat) : Int))]) ?_
     refine dQ ?_
     show XQ _ _ _ _ _ _ _ _
     refine rQ ?_
     refine rS 6 [(0, pp 2 0), (4, ii ((0 : Nat) : Int)), (34, .map (some 4)), (35, ii (List.getD a 0 0)), (36, ii ((0 : Nat) : Int))] ?_
     refine XR.ef E0_ok [0, 4] rfl (e_mput (Value.int .i64) (m := (src 47 (.tmp 34))) (i := (src 47 (.tmp 35))) (x := (src 47 (.tmp 36))) (d := none) (b := 4) (k := List.getD a 0 0) (l := []) (a := ((0 : Nat) : Int)) (h' := ((4, .imap (imC (Value.int .i64) (putM [] (List.getD a 0 0) ((0 : Nat) : Int)))) :: (3, rI []) :: (2, .cells [.map (some 4), s0 3 0] 0 114 0) :: qha10 a y0 z0 [])) (by kernel_rfl) (by kernel_rfl) (by kernel_rfl) (by kernel_rfl) (by kernel_rfl) rfl rfl) (σ' := [(0, pp 2 0), (4, ii ((0 : Nat) : Int))]) (by kernel_rfl) ?_
     refine dQ ?_
     show XQ _ _ _ _ _ _ _ _
     refine rQ ?_
     refine rT 7 [(37, pp 2 0), (41, s0 3 0), (43, s0 5 1)] ((5, .cells [ii ((0 : Nat) : Int)] 0 3 1) :: (4, .imap (imC (Value.int .i64) (putM [] (List.getD a 0 0) ((0 : Nat) : Int)))) :: (3, rI []) :: (2, .cells [.map (some 4), s0 3 0] 0 114 0) :: qha10 a y0 z0 []) 6 ?_
     refine XR.ef E0_ok [37, 44] rfl (e_append (encI_ok .i64) (bytes := 8) (e := 3) (x := (src 47 (.tmp 41))) (y := (src 47 (.tmp 43))) (b := 3) (len := 0) (cap := 0) (xs := []) (m := 0) (ys := [((0 : Nat) : Int)]) (d := (some (path 12 44))) (n' := 1) (h' := ((6, rI [((0 : Nat) : Int)]) :: (5, .cells [ii ((0 : Nat) : Int)] 0 3 1) :: (4, .imap (imC (Value.int .i64) (putM [] (List.getD a 0 0) ((0 : Nat) : Int)))) :: (2, .cells [.map (some 4), s0 3 0] 0 114 0) :: qha10 a y0 z0 [])) (by kernel_rfl) (by kernel_rfl) (by kernel_rfl) (by kernel_rfl) rfl (by simp) (by simp) (show (fitsB (0 + 1) 8) = true by first | rfl | simp) (by simp) (by kernel_rfl)) (σ' := [(37, pp 2 0), (44, s0 6 1)]) (by kernel_rfl) ?_
     refine rT 3 [] ((6, rI [((0 : Nat) : Int)]) :: (5, .cells [ii ((0 : Nat) : Int)] 0 3 1) :: (4, .imap (imC (Value.int .i64) (putM [] (List.getD a 0 0) ((0 : Nat) : Int)))) :: (2, .cells [.map (some 4), s0 6 1] 0 114 0) :: qha10 a y0 z0 []) 7 ?_
     refine dQ ?_
     refine ⟨fun i q => (by cases q), .tuple #[], (by kernel_rfl), ?_⟩
     refine XR.conv (σ' := ((1, .func (.func 45) #[] #[pp 1 0]) :: qha11 a [(8, ii 0)])) (h' := ((6, rI [((0 : Nat) : Int)]) :: (5, .cells [ii ((0 : Nat) : Int)] 0 3 1) :: (4, .imap (imC (Value.int .i64) (putM [] (List.getD a 0 0) ((0 : Nat) : Int)))) :: (2, .cells [.map (some 4), s0 6 1] 0 114 0) :: qha10 a y0 z0 [])) (c' := 7) ?_ (by kernel_rfl)
     refine dQ ?_
     show XQ _ _ _ _ _ _ _ _
     refine rQ ?_
     refine rS 2 ((1, .func (.func 45) #[] #[pp 1 0]) :: qha11 a [(8, ii 1)]) ?_
     refine dQ ?_
     show XL _ _ _ _ _ _ _ _ _
     obtain ⟨o1, o1_h, h⟩ := bS h
     refine XL.ren (σ' := ((1, .func (.func 45) #[] #[pp 1 0]) :: qha11 a [(8, ii 1)])) (h' := ((4, rI [((0 : Nat) : Int)]) :: (3, .imap (imC (Value.int .i64) (putM [] (List.getD a 0 0) ((0 : Nat) : Int)))) :: (2, .cells [.map (some 3), s0 4 1] 0 114 0) :: qha10 a y0 z0 [])) (c' := 5) [0, 1, 2, 4, 6] (by decide) rfl ⟨rfl, rfl, rfl, rfl, trivial⟩ ⟨⟨_, _, rfl, rfl, .inl ⟨rfl, rwI⟩⟩, ⟨_, _, rfl, rfl, .inl ⟨rfl, trivial⟩⟩, ⟨_, _, rfl, rfl, .inr ⟨_, _, _, _, rfl, rfl⟩⟩, ⟨_, _, rfl, rfl, .inr ⟨_, _, _, _, rfl, rfl⟩⟩, ⟨_, _, rfl, rfl, .inl ⟨rfl, rwI⟩⟩, trivial⟩ rfl ?_
     refine XL.conv (f18_1_ok m m z0 y0 a ((a.length : Nat) : Int) 1 (putM [] (List.getD a 0 0) ((0 : Nat) : Int)) [((0 : Nat) : Int)] o1 o1_h _ ?_) (by first | with_reducible rfl | simp | rfl)
     show XQ _ _ _ _ _ _ _ _
     refine qQ ?_
     refine rS 3 [(4, s0 4 o1.2.length)] ?_
     refine dQ ?_
     show XQ _ _ _ _ _ _ _ _
     refine XQ.ret (by kernel_rfl) ?_
     refine ⟨fun i q => (by cases q), s0 4 o1.2.length, (by kernel_rfl), ?_⟩
     refine XR.conv (σ' := [(13, s0 4 o1.2.length)]) (h' := ((4, rI o1.2) :: (3, .imap (imC (Value.int .i64) o1.1)) :: (2, .cells [.map (some 3), s0 4 o1.2.length] 0 114 0) :: qha10 a y0 z0 [])) (c' := 5) ?_ (by kernel_rfl)
     refine rS 2 [(2, s0 4 o1.2.length), (3, ii 0)] ?_
     refine dQ ?_
     show XQ _ _ _ _ _ _ _ _
     refine XQ.ren (σ' := [(2, s0 1 o1.2.length), (3, ii 0)]) (h' := [(1, rI o1.2), (0, rc (encI .i64) a z0 y0 1)]) (c' := 2) [0, 4] (by decide) rfl ⟨rfl, rfl, trivial⟩ ⟨⟨_, _, rfl, rfl, .inl ⟨rfl, rwI⟩⟩, ⟨_, _, rfl, rfl, .inl ⟨rfl, rwI⟩⟩, trivial⟩ rfl ?_
     refine XQ.ret (by kernel_rfl) ?_
     have h := Option.some.inj h
     subst h
     exact ⟨fun i q => (by cases q), .tuple #[s0 1 o1.2.length, ii 0], (by kernel_rfl), (by kernel_rfl), (by kernel_rfl), rfl⟩
    | false =>
     have h := cF b4 h
     refine iF (.tmp 25) ?_
     refine kQ ?_
     show XQ _ _ _ _ _ _ _ _
     refine rQ ?_
     refine rT 7 [(37, pp 2 0), (41, s0 3 0), (43, s0 5 1)] ((5, .cells [ii (getM 0 ([] : List (Int × Int)) (List.getD a 0 0))] 0 3 1) :: (4, .imap (imC (Value.int .i64) [])) :: (3, rI []) :: (2, .cells [.map (some 4), s0 3 0] 0 114 0) :: qha10 a y0 z0 []) 6 ?_
     refine XR.ef E0_ok [37, 44] rfl (e_append (encI_ok .i64) (bytes := 8) (e := 3) (x := (src 47 (.tmp 41))) (y := (src 47 (.tmp 43))) (b := 3) (len := 0) (cap := 0) (xs := []) (m := 0) (ys := [getM 0 ([] : List (Int × Int)) (List.getD a 0 0)]) (d := (some (path 12 44))) (n' := 1) (h' := ((6, rI [getM 0 ([] : List (Int × Int)) (List.getD a 0 0)]) :: (5, .cells [ii (getM 0 ([] : List (Int × Int)) (List.getD a 0 0))] 0 3 1) :: (4, .imap (imC (Value.int .i64) [])) :: (2, .cells [.map (some 4), s0 3 0] 0 114 0) :: qha10 a y0 z0 [])) (by kernel_rfl) (by kernel_rfl) (by kernel_rfl) (by kernel_rfl) rfl (by simp) (by simp) (show (fitsB (0 + 1) 8) = true by first | rfl | simp) (by simp) (by kernel_rfl)) (σ' := [(37, pp 2 0), (44, s0 6 1)]) (by kernel_rfl) ?_
     refine rT 3 [] ((6, rI [getM 0 ([] : List (Int × Int)) (List.getD a 0 0)]) :: (5, .cells [ii (getM 0 ([] : List (Int × Int)) (List.getD a 0 0))] 0 3 1) :: (4, .imap (imC (Value.int .i64) [])) :: (2, .cells [.map (some 4), s0 6 1] 0 114 0) :: qha10 a y0 z0 []) 7 ?_
     refine dQ ?_
     refine ⟨fun i q => (by cases q), .tuple #[], (by kernel_rfl), ?_⟩
     refine XR.conv (σ' := ((1, .func (.func 45) #[] #[pp 1 0]) :: qha11 a [(8, ii 0)])) (h' := ((6, rI [getM 0 ([] : List (Int × Int)) (List.getD a 0 0)]) :: (5, .cells [ii (getM 0 ([] : List (Int × Int)) (List.getD a 0 0))] 0 3 1) :: (4, .imap (imC (Value.int .i64) [])) :: (2, .cells [.map (some 4), s0 6 1] 0 114 0) :: qha10 a y0 z0 [])) (c' := 7) ?_ (by kernel_rfl)
     refine dQ ?_
     show XQ _ _ _ _ _ _ _ _
     refine rQ ?_
     refine rS 2 ((1, .func (.func 45) #[] #[pp 1 0]) :: qha11 a [(8, ii 1)]) ?_
     refine dQ ?_
     show XL _ _ _ _ _ _ _ _ _
     obtain ⟨o2, o2_h, h⟩ := bS h
     refine XL.ren (σ' := ((1, .func (.func 45) #[] #[pp 1 0]) :: qha11 a [(8, ii 1)])) (h' := ((4, rI [getM 0 ([] : List (Int × Int)) (List.getD a 0 0)]) :: (3, .imap (imC (Value.int .i64) [])) :: (2, .cells [.map (some 3), s0 4 1] 0 114 0) :: qha10 a y0 z0 [])) (c' := 5) [0, 1, 2, 4, 6] (by decide) rfl ⟨rfl, rfl, rfl, rfl, trivial⟩ ⟨⟨_, _, rfl, rfl, .inl ⟨rfl, rwI⟩⟩, ⟨_, _, rfl, rfl, .inl ⟨rfl, trivial⟩⟩, ⟨_, _, rfl, rfl, .inr ⟨_, _, _, _, rfl, rfl⟩⟩, ⟨_, _, rfl, rfl, .inr ⟨_, _, _, _, rfl, rfl⟩⟩, ⟨_, _, rfl, rfl, .inl ⟨rfl, rwI⟩⟩, trivial⟩ rfl ?_
     refine XL.conv (f18_2_ok m m z0 y0 a ((a.length : Nat) : Int) 1 [] [getM 0 ([] : List (Int × Int)) (List.getD a 0 0)] o2 o2_h _ ?_) (by first | with_reducible rfl | simp | rfl)
     show XQ _ _ _ _ _ _ _ _
     refine qQ ?_
     refine rS 3 [(4, s0 4 o2.2.length)] ?_
     refine dQ ?_
     show XQ _ _ _ _ _ _ _ _
     refine XQ.ret (by kernel_rfl) ?_
     refine ⟨fun i q => (by cases q), s0 4 o2.2.length, (by kernel_rfl), ?_⟩
     refine XR.conv (σ' := [(13, s0 4 o2.2.length)]) (h' := ((4, rI o2.2) :: (3, .imap (imC (Value.int .i64) o2.1)) :: (2, .cells [.map (some 3), s0 4 o2.2.length] 0 114 0) :: qha10 a y0 z0 [])) (c' := 5) ?_ (by kernel_rfl)
     refine rS 2 [(2, s0 4 o2.2.length), (3, ii 0)] ?_
     refine dQ ?_
     show XQ _ _ _ _ _ _ _ _
     refine XQ.ren (σ' := [(2, s0 1 o2.2.length), (3, ii 0)]) (h' := [(1, rI o2.2), (0, rc (encI .i64) a z0 y0 1)]) (c' := 2) [0, 4] (by decide) rfl ⟨rfl, rfl, trivial⟩ ⟨⟨_, _, rfl, rfl, .inl ⟨rfl, rwI⟩⟩, ⟨_, _, rfl, rfl, .inl ⟨rfl, rwI⟩⟩, trivial⟩ rfl ?_
     refine XQ.ret (by kernel_rfl) ?_
     have h := Option.some.inj h
     subst h
     exact ⟨fun i q => (by cases q), .tuple #[s0 1 o2.2.length, ii 0], (by kernel_rfl), (by kernel_rfl), (by kernel_rfl), rfl⟩
  | false =>
   have h := cF b2 h
   refine iF (.tmp 9) ?_
   refine XQ.exit (i := 0) (by kernel_rfl) ?_
   show XQ _ _ _ _ _ _ _ _
   refine qQ ?_
   refine rS 3 [(4, s0 3 0)] ?_
   refine dQ ?_
   show XQ _ _ _ _ _ _ _ _
   refine XQ.ret (by kernel_rfl) ?_
   refine ⟨fun i q => (by cases q), s0 3 0, (by kernel_rfl), ?_⟩
   refine XR.conv (σ' := [(13, s0 3 0)]) (h' := ((3, rI []) :: (2, .cells [.map none, s0 3 0] 0 114 0) :: qha10 a y0 z0 [])) (c' := 4) ?_ (by kernel_rfl)
   refine rS 2 [(2, s0 3 0), (3, ii 0)] ?_
   refine dQ ?_
   show XQ _ _ _ _ _ _ _ _
   refine XQ.ren (σ' := [(2, s0 1 0), (3, ii 0)]) (h' := [(1, rI []), (0, rc (encI .i64) a z0 y0 1)]) (c' := 2) [0, 3] (by decide) rfl ⟨rfl, rfl, trivial⟩ ⟨⟨_, _, rfl, rfl, .inl ⟨rfl, rwI⟩⟩, ⟨_, _, rfl, rfl, .inl ⟨rfl, rwI⟩⟩, trivial⟩ rfl ?_
   refine XQ.ret (by kernel_rfl) ?_
   have h := Option.some.inj h
   subst h
   exact ⟨fun i q => (by cases q), .tuple #[s0 1 0, ii 0], (by kernel_rfl), (by kernel_rfl), (by kernel_rfl), rfl⟩
noncomputable def f19_C19 : Code := Proofs.Tryz.f19.body.getD .skip
noncomputable def f19_C44 : Code := Proofs.Tryz.f44.body.getD .skip
noncomputable def f19_C48 : Code := Proofs.Tryz.f48.body.getD .skip
noncomputable def f19_C65 : Code := Proofs.Tryz.f65.body.getD .skip
noncomputable def f19_L1 : Code := lft (lft (rgt (lft (rgt (rgt (rgt f19_C19))))))
noncomputable def f19_L2 : Code := lft (lft (rgt (lft (rgt (rgt (rgt (rgt (rgt f19_C19))))))))
noncomputable def f19_L3 : Code := lft (lft (rgt (lft (rgt (rgt f19_C44)))))
def f19_1 (m : Nat) : Nat → List Int → List Int → Int → List Int → Option (List Int)
 | 0, _, _, _, _ => none
 | fuel + 1, a, b, x17_1, lh3_1 =>
  cond (decide (x17_1 < 18)) (
   cond (inRow x17_1 18) (
    cond (decide (Int.toNat x17_1 < lh3_1.length)) (
     f19_1 m fuel a b (w64 (x17_1 + 1)) (List.set lh3_1 (Int.toNat x17_1) x17_1)
    ) none
   ) none
  ) (
   some (lh3_1)
  )
abbrev qha13 (b : List Int) (t : St) : St := (1, s0 1 b.length) :: (2, pp 2 0) :: (7, pp 3 0) :: t
abbrev qha14 (a : List Int) (b : List Int) (y0 : Nat) (y1 : Nat) (z0 : Nat) (z1 : Nat) (t : Heap) : Heap := (2, .cells [s0 0 a.length] 0 23 0) :: (1, rc (encI .i64) b z1 y1 1) :: (0, rc (encI .i64) a z0 y0 1) :: t
theorem f19_1_ok (m : Nat) : ∀ (fuel : Nat) (z0 : Nat) (y0 : Nat) (a : List Int) (z1 : Nat) (y1 : Nat) (b : List Int) (x17_1 : Int) (lh3_1 : List Int) (o : (List Int)), f19_1 m fuel a b x17_1 lh3_1 = some o → ∀ Q : QP, Q (.exit 0) (qha13 b []) ((3, rc (encI .i64) o 0 96 0) :: qha14 a b y0 y1 z0 z1 []) 4 → XL E0 49 2 fuel f19_L1 (qha13 b [(17, ii x17_1)]) ((3, rc (encI .i64) lh3_1 0 96 0) :: qha14 a b y0 y1 z0 z1 []) 4 Q
 | 0, z0, y0, a, z1, y1, b, x17_1, lh3_1, o, h, Q, hQ => by cases h
 | fuel + 1, z0, y0, a, z1, y1, b, x17_1, lh3_1, o, h, Q, hQ => by
  unfold f19_1 at h
  refine XL.succ E0_ok ?_
  refine qQ ?_
  refine rS 1 (qha13 b [(17, ii x17_1), (18, .bool (decide (x17_1 < 18)))]) ?_
  refine dQ ?_
  show XQ _ _ _ _ _ _ _ _
  refine sQ ?_
  cases b1 : (decide (x17_1 < 18) : Bool) with
  | true =>
   have h := cT b1 h
   refine iT (.tmp 18) ?_
   refine kQ ?_
   show XQ _ _ _ _ _ _ _ _
   refine sQ ?_
   refine XQ.block (id := 1) (by kernel_rfl) ?_
   refine qQ ?_
   refine rS 2 (qha13 b [(8, ii x17_1), (17, ii x17_1)]) ?_
   refine dQ ?_
   show XQ _ _ _ _ _ _ _ _
   refine rQ ?_
   refine rS 2 (qha13 b [(17, ii x17_1), (20, ii x17_1), (21, ii x17_1)]) ?_
   cases b2 : (inRow x17_1 18 : Bool) with
   | false => cases (cF b2 h)
   | true =>
    have h := cT b2 h
    refine XR.rd E0_ok [1, 2, 7, 17, 21, 22] rfl (v := pp 3 ((Int.toNat x17_1) * 1)) (v_idxA (s := 1) (len := 18) (x := (src 49 (.tmp 7))) (y := (src 49 (.tmp 20))) (b := 3) (o := 0) (ik := .i64) (i := x17_1) (off := (Int.toNat x17_1) * 1) (d := (some (path 12 22))) (by kernel_rfl) (by kernel_rfl) (by kernel_rfl) b2 (by omega)) (σ' := (qha13 b [(17, ii x17_1), (21, ii x17_1), (22, pp 3 ((Int.toNat x17_1) * 1))])) (by kernel_rfl) ?_
    cases b3 : (decide (Int.toNat x17_1 < lh3_1.length) : Bool) with
    | false => cases (cF b3 h)
    | true =>
     have h := cT b3 h
     refine XR.ef E0_ok [1, 2, 7, 17] rfl (e_store (encI_ok .i64) (size := 1) (x := (src 49 (.tmp 22))) (y := (src 49 (.tmp 21))) (b := 3) (off := (Int.toNat x17_1) * 1) (xs := lh3_1) (e := 96) (es := 0) (d := none) (h' := ((3, rc (encI .i64) (List.set lh3_1 (Int.toNat x17_1) x17_1) 0 96 0) :: qha14 a b y0 y1 z0 z1 [])) (w := ii x17_1) (ws := [ii x17_1]) (a := x17_1) (by kernel_rfl) (by kernel_rfl) (by kernel_rfl) (Int.toNat x17_1) 0 0 (by first | with_reducible rfl | omega | rfl) (row_len b3 (by simp)) (by kernel_rfl) rfl rfl rfl rfl rfl (by kernel_rfl)) (σ' := (qha13 b [(17, ii x17_1)])) (by kernel_rfl) ?_
     refine dQ ?_
     show XQ _ _ _ _ _ _ _ _
     refine rQ ?_
     refine rS 2 (qha13 b [(17, ii (w64 (x17_1 + 1)))]) ?_
     refine dQ ?_
     show XL _ _ _ _ _ _ _ _ _
     refine XL.ren (σ' := (qha13 b [(17, ii (w64 (x17_1 + 1)))])) (h' := ((3, rc (encI .i64) (List.set lh3_1 (Int.toNat x17_1) x17_1) 0 96 0) :: qha14 a b y0 y1 z0 z1 [])) (c' := 4) [0, 1, 2, 3] (by decide) rfl ⟨rfl, rfl, rfl, rfl, trivial⟩ ⟨⟨_, _, rfl, rfl, .inl ⟨rfl, rwI⟩⟩, ⟨_, _, rfl, rfl, .inr ⟨_, _, _, _, rfl, rfl⟩⟩, ⟨_, _, rfl, rfl, .inl ⟨rfl, rwI⟩⟩, ⟨_, _, rfl, rfl, .inl ⟨rfl, rwI⟩⟩, trivial⟩ rfl ?_
     refine XL.conv (f19_1_ok m fuel z0 y0 a z1 y1 b (w64 (x17_1 + 1)) (List.set lh3_1 (Int.toNat x17_1) x17_1) o h Q hQ) (by first | with_reducible rfl | simp | rfl)
  | false =>
   have h := cF b1 h
   refine iF (.tmp 18) ?_
   refine XQ.ren (σ' := (qha13 b [])) (h' := ((3, rc (encI .i64) lh3_1 0 96 0) :: qha14 a b y0 y1 z0 z1 [])) (c' := 4) [0, 1, 2, 3] (by decide) rfl ⟨rfl, rfl, rfl, trivial⟩ ⟨⟨_, _, rfl, rfl, .inl ⟨rfl, rwI⟩⟩, ⟨_, _, rfl, rfl, .inr ⟨_, _, _, _, rfl, rfl⟩⟩, ⟨_, _, rfl, rfl, .inl ⟨rfl, rwI⟩⟩, ⟨_, _, rfl, rfl, .inl ⟨rfl, rwI⟩⟩, trivial⟩ rfl ?_
   refine XQ.exit (i := 0) (by kernel_rfl) ?_
   cases h
   exact hQ
def f19_2 (m : Nat) : Nat → List Int → List Int → Int → Int → List Int → Option (List Int)
 | 0, _, _, _, _, _ => none
 | fuel + 1, a, b, x26_2, x27_2, lh3_2 =>
  cond (decide (x27_2 < x26_2)) (
   cond (inRow x27_2 a.length) (
    (f47 m (List.getD a (Int.toNat x27_2) 0) lh3_2).bind fun r6 =>
     cond (inRow x27_2 b.length) (
      (f47 m (w64 (9 + (List.getD b (Int.toNat x27_2) 0))) lh3_2).bind fun r7 =>
       cond (inRow r6 18) (
        cond (decide (Int.toNat r6 < lh3_2.length)) (
         f19_2 m fuel a b x26_2 (w64 (x27_2 + 1)) (List.set lh3_2 (Int.toNat r6) r7)
        ) none
       ) none
     ) none
   ) none
  ) (
   some (lh3_2)
  )
abbrev qha15 (b : List Int) (t : St) : St := (1, s0 1 b.length) :: (2, pp 2 0) :: (7, pp 3 0) :: (9, pp 4 0) :: t
abbrev qha16 (a : List Int) (b : List Int) (y0 : Nat) (y1 : Nat) (z0 : Nat) (z1 : Nat) (t : Heap) : Heap := (2, .cells [s0 0 a.length] 0 23 0) :: (1, rc (encI .i64) b z1 y1 1) :: (0, rc (encI .i64) a z0 y0 1) :: t
theorem f19_2_ok (m : Nat) : ∀ (fuel : Nat) (z0 : Nat) (y0 : Nat) (a : List Int) (z1 : Nat) (y1 : Nat) (b : List Int) (x26_2 : Int) (x27_2 : Int) (lh3_2 : List Int) (o : (List Int)), f19_2 m fuel a b x26_2 x27_2 lh3_2 = some o → ∀ Q : QP, Q (.exit 2) [(2, pp 2 0), (9, pp 3 0)] ((4, rc (encI .i64) o 0 96 0) :: (3, .cells [.func (.func 47) #[] #[pp 4 0]] 0 94 0) :: qha16 a b y0 y1 z0 z1 []) 5 → XL E0 49 2 fuel f19_L2 (qha15 b [(26, ii x26_2), (27, ii x27_2)]) ((4, .cells [.func (.func 47) #[] #[pp 3 0]] 0 94 0) :: (3, rc (encI .i64) lh3_2 0 96 0) :: qha16 a b y0 y1 z0 z1 []) 5 Q
 | 0, z0, y0, a, z1, y1, b, x26_2, x27_2, lh3_2, o, h, Q, hQ => by cases h
 | fuel + 1, z0, y0, a, z1, y1, b, x26_2, x27_2, lh3_2, o, h, Q, hQ => by
  unfold f19_2 at h
  refine XL.succ E0_ok ?_
  refine qQ ?_
  refine rS 1 (qha15 b [(26, ii x26_2), (27, ii x27_2), (28, .bool (decide (x27_2 < x26_2)))]) ?_
  refine dQ ?_
  show XQ _ _ _ _ _ _ _ _
  refine sQ ?_
  cases b1 : (decide (x27_2 < x26_2) : Bool) with
  | true =>
   have h := cT b1 h
   refine iT (.tmp 28) ?_
   refine kQ ?_
   show XQ _ _ _ _ _ _ _ _
   refine sQ ?_
   refine XQ.block (id := 3) (by kernel_rfl) ?_
   refine qQ ?_
   refine rS 2 (qha15 b [(10, ii x27_2), (26, ii x26_2), (27, ii x27_2)]) ?_
   refine dQ ?_
   show XQ _ _ _ _ _ _ _ _
   refine XQ.qtail E0_ok [0, 1, 2, 3, 4, 5, 6, 7, 8, 9, 10, 11, 12, 13] 14 [] (by kernel_rfl) (by kernel_rfl) (by kernel_rfl) ?_
   refine XU.run E0_ok 1 3 [1, 2, 7, 9, 10, 26, 27, 30, 31, 32] rfl (σ' := (qha15 b [(10, ii x27_2), (26, ii x26_2), (27, ii x27_2), (30, .func (.func 47) #[] #[pp 3 0]), (31, s0 0 a.length), (32, ii x27_2)])) (by kernel_rfl) ?_
   cases b2 : (inRow x27_2 a.length : Bool) with
   | false => cases (cF b2 h)
   | true =>
    have h := cT b2 h
    refine XU.rd E0_ok [1, 2, 7, 9, 10, 26, 27, 30, 33] rfl (v := pp 0 ((Int.toNat x27_2) * 1)) (v_idx (s := 1) (x := (src 49 (.tmp 31))) (y := (src 49 (.tmp 32))) (b := 0) (o := 0) (len := a.length) (cap := a.length) (ik := .i64) (i := x27_2) (off := (Int.toNat x27_2) * 1) (d := (some (path 12 33))) (by kernel_rfl) (by kernel_rfl) (by kernel_rfl) b2 (by omega)) (σ' := (qha15 b [(10, ii x27_2), (26, ii x26_2), (27, ii x27_2), (30, .func (.func 47) #[] #[pp 3 0]), (33, pp 0 ((Int.toNat x27_2) * 1))])) (by kernel_rfl) ?_
    refine XU.rd E0_ok [1, 2, 7, 9, 10, 26, 27, 30, 34] rfl (v := ii (List.getD a (Int.toNat x27_2) 0)) (v_load1 (encI_ok .i64) (x := (src 49 (.tmp 33))) (b := 0) (off := (Int.toNat x27_2) * 1) (xs := a) (fz := z0) (e := y0) (es := 1) (d := (some (path 12 34))) (by kernel_rfl) (by kernel_rfl) (by kernel_rfl) (Int.toNat x27_2) 0 0 (by first | with_reducible rfl | omega | rfl) (row_len (inRow_toNat b2) (by simp)) rfl rfl) (σ' := (qha15 b [(10, ii x27_2), (26, ii x26_2), (27, ii x27_2), (30, .func (.func 47) #[] #[pp 3 0]), (34, ii (List.getD a (Int.toNat x27_2) 0))])) (by kernel_rfl) ?_
    obtain ⟨r6, r6_h, h⟩ := bS h
    refine XU.callH E0_ok [1, 2, 7, 9, 10, 26, 27, 35] rfl (K := 47) (args := [ii (List.getD a (Int.toNat x27_2) 0), pp 3 0]) (d := (some (path 12 35))) (V := ii r6) (by kernel_rfl) rfl (KC.quiet E0_ok (args0 := [ii (List.getD a (Int.toNat x27_2) 0), pp 0 0]) (h0 := [(0, rc (encI .i64) lh3_2 (0 + ((rowC (encI .i64) lh3_2).length + 1)) 96 0)]) (n := 1) (V := ii r6) [3] (f47_ok m (0 + ((rowC (encI .i64) lh3_2).length + 1)) (List.getD a (Int.toNat x27_2) 0) lh3_2 r6 r6_h) rfl (by rfl) (by decide) rfl (by kernel_rfl) ⟨⟨_, _, rfl, rfl, .inl ⟨rfl, rwI⟩⟩, trivial⟩) (σ' := (qha15 b [(10, ii x27_2), (26, ii x26_2), (27, ii x27_2), (35, ii r6)])) (by kernel_rfl) ?_
    refine XU.run E0_ok 1 3 [1, 2, 7, 9, 26, 27, 35, 36, 37, 38] rfl (σ' := (qha15 b [(26, ii x26_2), (27, ii x27_2), (35, ii r6), (36, .func (.func 47) #[] #[pp 3 0]), (37, s0 1 b.length), (38, ii x27_2)])) (by kernel_rfl) ?_
    cases b3 : (inRow x27_2 b.length : Bool) with
    | false => cases (cF b3 h)
    | true =>
     have h := cT b3 h
     refine XU.rd E0_ok [1, 2, 7, 9, 26, 27, 35, 36, 39] rfl (v := pp 1 ((Int.toNat x27_2) * 1)) (v_idx (s := 1) (x := (src 49 (.tmp 37))) (y := (src 49 (.tmp 38))) (b := 1) (o := 0) (len := b.length) (cap := b.length) (ik := .i64) (i := x27_2) (off := (Int.toNat x27_2) * 1) (d := (some (path 12 39))) (by kernel_rfl) (by kernel_rfl) (by kernel_rfl) b3 (by omega)) (σ' := (qha15 b [(26, ii x26_2), (27, ii x27_2), (35, ii r6), (36, .func (.func 47) #[] #[pp 3 0]), (39, pp 1 ((Int.toNat x27_2) * 1))])) (by kernel_rfl) ?_
     refine XU.rd E0_ok [1, 2, 7, 9, 26, 27, 35, 36, 40] rfl (v := ii (List.getD b (Int.toNat x27_2) 0)) (v_load1 (encI_ok .i64) (x := (src 49 (.tmp 39))) (b := 1) (off := (Int.toNat x27_2) * 1) (xs := b) (fz := z1) (e := y1) (es := 1) (d := (some (path 12 40))) (by kernel_rfl) (by kernel_rfl) (by kernel_rfl) (Int.toNat x27_2) 0 0 (by first | with_reducible rfl | omega | rfl) (row_len (inRow_toNat b3) (by simp)) rfl rfl) (σ' := (qha15 b [(26, ii x26_2), (27, ii x27_2), (35, ii r6), (36, .func (.func 47) #[] #[pp 3 0]), (40, ii (List.getD b (Int.toNat x27_2) 0))])) (by kernel_rfl) ?_
     refine XU.run E0_ok 1 1 [1, 2, 7, 9, 26, 27, 35, 36, 41] rfl (σ' := (qha15 b [(26, ii x26_2), (27, ii x27_2), (35, ii r6), (36, .func (.func 47) #[] #[pp 3 0]), (41, ii (w64 (9 + (List.getD b (Int.toNat x27_2) 0))))])) (by kernel_rfl) ?_
     obtain ⟨r7, r7_h, h⟩ := bS h
     refine XU.callH E0_ok [1, 2, 7, 9, 26, 27, 35, 42] rfl (K := 47) (args := [ii (w64 (9 + (List.getD b (Int.toNat x27_2) 0))), pp 3 0]) (d := (some (path 12 42))) (V := ii r7) (by kernel_rfl) rfl (KC.quiet E0_ok (args0 := [ii (w64 (9 + (List.getD b (Int.toNat x27_2) 0))), pp 0 0]) (h0 := [(0, rc (encI .i64) lh3_2 (0 + ((rowC (encI .i64) lh3_2).length + 1)) 96 0)]) (n := 1) (V := ii r7) [3] (f47_ok m (0 + ((rowC (encI .i64) lh3_2).length + 1)) (w64 (9 + (List.getD b (Int.toNat x27_2) 0))) lh3_2 r7 r7_h) rfl (by rfl) (by decide) rfl (by kernel_rfl) ⟨⟨_, _, rfl, rfl, .inl ⟨rfl, rwI⟩⟩, trivial⟩) (σ' := (qha15 b [(26, ii x26_2), (27, ii x27_2), (35, ii r6), (42, ii r7)])) (by kernel_rfl) ?_
     cases b4 : (inRow r6 18 : Bool) with
     | false => cases (cF b4 h)
     | true =>
      have h := cT b4 h
      refine XU.rd E0_ok [1, 2, 7, 9, 26, 27, 42, 43] rfl (v := pp 3 ((Int.toNat r6) * 1)) (v_idxA (s := 1) (len := 18) (x := (src 49 (.tmp 7))) (y := (src 49 (.tmp 35))) (b := 3) (o := 0) (ik := .i64) (i := r6) (off := (Int.toNat r6) * 1) (d := (some (path 12 43))) (by kernel_rfl) (by kernel_rfl) (by kernel_rfl) b4 (by omega)) (σ' := (qha15 b [(26, ii x26_2), (27, ii x27_2), (42, ii r7), (43, pp 3 ((Int.toNat r6) * 1))])) (by kernel_rfl) ?_
      refine XU.done (by kernel_rfl) ?_
      show XR _ _ _ _ _ _ _ _ _
      cases b5 : (decide (Int.toNat r6 < lh3_2.length) : Bool) with
      | false => cases (cF b5 h)
      | true =>
       have h := cT b5 h
       refine XR.ef E0_ok [1, 2, 7, 9, 26, 27] rfl (e_store (encI_ok .i64) (size := 1) (x := (src 49 (.tmp 43))) (y := (src 49 (.tmp 42))) (b := 3) (off := (Int.toNat r6) * 1) (xs := lh3_2) (e := 96) (es := 0) (d := none) (h' := ((4, .cells [.func (.func 47) #[] #[pp 3 0]] 0 94 0) :: (3, rc (encI .i64) (List.set lh3_2 (Int.toNat r6) r7) 0 96 0) :: qha16 a b y0 y1 z0 z1 [])) (w := ii r7) (ws := [ii r7]) (a := r7) (by kernel_rfl) (by kernel_rfl) (by kernel_rfl) (Int.toNat r6) 0 0 (by first | with_reducible rfl | omega | rfl) (row_len b5 (by simp)) (by kernel_rfl) rfl rfl rfl rfl rfl (by kernel_rfl)) (σ' := (qha15 b [(26, ii x26_2), (27, ii x27_2)])) (by kernel_rfl) ?_
       refine dQ ?_
       show XQ _ _ _ _ _ _ _ _
       refine rQ ?_
       refine rS 2 (qha15 b [(26, ii x26_2), (27, ii (w64 (x27_2 + 1)))]) ?_
       refine dQ ?_
       show XL _ _ _ _ _ _ _ _ _
       refine XL.ren (σ' := (qha15 b [(26, ii x26_2), (27, ii (w64 (x27_2 + 1)))])) (h' := ((4, .cells [.func (.func 47) #[] #[pp 3 0]] 0 94 0) :: (3, rc (encI .i64) (List.set lh3_2 (Int.toNat r6) r7) 0 96 0) :: qha16 a b y0 y1 z0 z1 [])) (c' := 5) [0, 1, 2, 3, 4] (by decide) rfl ⟨rfl, rfl, rfl, rfl, rfl, rfl, trivial⟩ ⟨⟨_, _, rfl, rfl, .inr ⟨_, _, _, _, rfl, rfl⟩⟩, ⟨_, _, rfl, rfl, .inl ⟨rfl, rwI⟩⟩, ⟨_, _, rfl, rfl, .inr ⟨_, _, _, _, rfl, rfl⟩⟩, ⟨_, _, rfl, rfl, .inl ⟨rfl, rwI⟩⟩, ⟨_, _, rfl, rfl, .inl ⟨rfl, rwI⟩⟩, trivial⟩ rfl ?_
       refine XL.conv (f19_2_ok m fuel z0 y0 a z1 y1 b x26_2 (w64 (x27_2 + 1)) (List.set lh3_2 (Int.toNat r6) r7) o h Q hQ) (by first | with_reducible rfl | simp | rfl)
  | false =>
   have h := cF b1 h
   refine iF (.tmp 28) ?_
   refine XQ.ren (σ' := [(2, pp 2 0), (9, pp 3 0)]) (h' := ((4, rc (encI .i64) lh3_2 0 96 0) :: (3, .cells [.func (.func 47) #[] #[pp 4 0]] 0 94 0) :: qha16 a b y0 y1 z0 z1 [])) (c' := 5) [0, 1, 2, 4, 3] (by decide) rfl ⟨rfl, rfl, trivial⟩ ⟨⟨_, _, rfl, rfl, .inl ⟨rfl, rwI⟩⟩, ⟨_, _, rfl, rfl, .inr ⟨_, _, _, _, rfl, rfl⟩⟩, ⟨_, _, rfl, rfl, .inr ⟨_, _, _, _, rfl, rfl⟩⟩, ⟨_, _, rfl, rfl, .inl ⟨rfl, rwI⟩⟩, ⟨_, _, rfl, rfl, .inl ⟨rfl, rwI⟩⟩, trivial⟩ rfl ?_
   refine XQ.exit (i := 2) (by kernel_rfl) ?_
   cases h
   exact hQ
def f19_3 (m : Nat) : Nat → List Int → List Int → (List Int) → Int → Int → List (Int × Int) → List Int → Option ((List (Int × Int)) × (List Int))
 | 0, _, _, _, _, _, _, _ => none
 | fuel + 1, a, b, o2, x7_3, x8_3, mh6_3, lh7_3 =>
  cond (decide (x8_3 < x7_3)) (
   cond (inRow x8_3 a.length) (
    (f47 m (List.getD a (Int.toNat x8_3) 0) o2).bind fun r12 =>
     cond (!(hasM mh6_3 r12)) (
      cond (fitsB (lh7_3.length + 1) 8) (
       f19_3 m fuel a b o2 x7_3 (w64 (x8_3 + 1)) (putM mh6_3 r12 ((mh6_3.length : Nat) : Int)) (lh7_3 ++ [((mh6_3.length : Nat) : Int)])
      ) none
     ) (
      cond (fitsB (lh7_3.length + 1) 8) (
       f19_3 m fuel a b o2 x7_3 (w64 (x8_3 + 1)) mh6_3 (lh7_3 ++ [getM 0 mh6_3 r12])
      ) none
     )
   ) none
  ) (
   some (mh6_3, lh7_3)
  )
abbrev qha17 (a : List Int) (b : List Int) (y0 : Nat) (y1 : Nat) (z0 : Nat) (z1 : Nat) (t : Heap) : Heap := (2, .cells [s0 0 a.length] 0 23 0) :: (1, rc (encI .i64) b z1 y1 1) :: (0, rc (encI .i64) a z0 y0 1) :: t
theorem f19_3_ok (m : Nat) : ∀ (fuel : Nat) (z0 : Nat) (y0 : Nat) (a : List Int) (z1 : Nat) (y1 : Nat) (b : List Int) (o2 : (List Int)) (x7_3 : Int) (x8_3 : Int) (mh6_3 : List (Int × Int)) (lh7_3 : List Int) (o : ((List (Int × Int)) × (List Int))), f19_3 m fuel a b o2 x7_3 x8_3 mh6_3 lh7_3 = some o → ∀ Q : QP, Q (.exit 0) [(5, pp 5 0)] ((7, rI o.2) :: (6, .imap (imC (Value.int .i64) o.1)) :: (5, .cells [.map (some 6), s0 7 o.2.length] 0 114 0) :: (4, rc (encI .i64) o2 0 96 0) :: (3, .cells [.func (.func 47) #[] #[pp 4 0]] 0 94 0) :: qha17 a b y0 y1 z0 z1 []) 8 → XL E0 18 5 fuel f19_L3 [(1, .func (.func 48) #[] #[pp 3 0, pp 2 0]), (5, pp 5 0), (7, ii x7_3), (8, ii x8_3)] ((7, rI lh7_3) :: (6, .imap (imC (Value.int .i64) mh6_3)) :: (5, .cells [.map (some 6), s0 7 lh7_3.length] 0 114 0) :: (4, rc (encI .i64) o2 0 96 0) :: (3, .cells [.func (.func 47) #[] #[pp 4 0]] 0 94 0) :: qha17 a b y0 y1 z0 z1 []) 8 Q
 | 0, z0, y0, a, z1, y1, b, o2, x7_3, x8_3, mh6_3, lh7_3, o, h, Q, hQ => by cases h
 | fuel + 1, z0, y0, a, z1, y1, b, o2, x7_3, x8_3, mh6_3, lh7_3, o, h, Q, hQ => by
  unfold f19_3 at h
  refine XL.succ E0_ok ?_
  refine qQ ?_
  refine rS 1 [(1, .func (.func 48) #[] #[pp 3 0, pp 2 0]), (5, pp 5 0), (7, ii x7_3), (8, ii x8_3), (9, .bool (decide (x8_3 < x7_3)))] ?_
  refine dQ ?_
  show XQ _ _ _ _ _ _ _ _
  refine sQ ?_
  cases b1 : (decide (x8_3 < x7_3) : Bool) with
  | true =>
   have h := cT b1 h
   refine iT (.tmp 9) ?_
   refine kQ ?_
   show XQ _ _ _ _ _ _ _ _
   refine sQ ?_
   refine XQ.block (id := 1) (by kernel_rfl) ?_
   refine qQ ?_
   refine rS 2 [(1, .func (.func 48) #[] #[pp 3 0, pp 2 0]), (5, pp 5 0), (6, ii x8_3), (7, ii x7_3), (8, ii x8_3)] ?_
   refine dQ ?_
   show XQ _ _ _ _ _ _ _ _
   refine rQ ?_
   refine rS 2 [(1, .func (.func 48) #[] #[pp 3 0, pp 2 0]), (5, pp 5 0), (7, ii x7_3), (8, ii x8_3), (11, .func (.func 48) #[] #[pp 3 0, pp 2 0]), (12, ii x8_3)] ?_
   refine XR.callK E0_ok [1, 5, 7, 8, 13] rfl (K := 48) (args := [ii x8_3, pp 3 0, pp 2 0]) (d := (some (path 12 13))) (by kernel_rfl) ?_
   refine KC.bodyN E0_ok (F := Proofs.Tryz.f48) (by kernel_rfl) (code := f19_C48) (by kernel_rfl) (nt := 11) (by kernel_rfl) (rs := [.tmp 4]) (by kernel_rfl) (by kernel_rfl) (σ := [(0, ii x8_3), (1, pp 3 0), (2, pp 2 0)]) (by kernel_rfl) ?_
   refine qQ ?_
   refine rS 1 [(0, ii x8_3), (1, pp 3 0), (2, pp 2 0)] ?_
   refine dQ ?_
   show XQ _ _ _ _ _ _ _ _
   refine sQ ?_
   refine XQ.quiet E0_ok (by kernel_rfl) (by kernel_rfl) ?_
   refine XU.run E0_ok 1 3 [5, 6, 7] rfl (σ' := [(5, .func (.func 47) #[] #[pp 4 0]), (6, s0 0 a.length), (7, ii x8_3)]) (by kernel_rfl) ?_
   cases b2 : (inRow x8_3 a.length : Bool) with
   | false => cases (cF b2 h)
   | true =>
    have h := cT b2 h
    refine XU.rd E0_ok [5, 8] rfl (v := pp 0 ((Int.toNat x8_3) * 1)) (v_idx (s := 1) (x := (src 11 (.tmp 6))) (y := (src 11 (.tmp 7))) (b := 0) (o := 0) (len := a.length) (cap := a.length) (ik := .i64) (i := x8_3) (off := (Int.toNat x8_3) * 1) (d := (some (path 12 8))) (by kernel_rfl) (by kernel_rfl) (by kernel_rfl) b2 (by omega)) (σ' := [(5, .func (.func 47) #[] #[pp 4 0]), (8, pp 0 ((Int.toNat x8_3) * 1))]) (by kernel_rfl) ?_
    refine XU.rd E0_ok [5, 9] rfl (v := ii (List.getD a (Int.toNat x8_3) 0)) (v_load1 (encI_ok .i64) (x := (src 11 (.tmp 8))) (b := 0) (off := (Int.toNat x8_3) * 1) (xs := a) (fz := z0) (e := y0) (es := 1) (d := (some (path 12 9))) (by kernel_rfl) (by kernel_rfl) (by kernel_rfl) (Int.toNat x8_3) 0 0 (by first | with_reducible rfl | omega | rfl) (row_len (inRow_toNat b2) (by simp)) rfl rfl) (σ' := [(5, .func (.func 47) #[] #[pp 4 0]), (9, ii (List.getD a (Int.toNat x8_3) 0))]) (by kernel_rfl) ?_
    obtain ⟨r12, r12_h, h⟩ := bS h
    refine XU.callH E0_ok [10] rfl (K := 47) (args := [ii (List.getD a (Int.toNat x8_3) 0), pp 4 0]) (d := (some (path 12 10))) (V := ii r12) (by kernel_rfl) rfl (KC.quiet E0_ok (args0 := [ii (List.getD a (Int.toNat x8_3) 0), pp 0 0]) (h0 := [(0, rc (encI .i64) o2 (0 + ((rowC (encI .i64) o2).length + 1)) 96 0)]) (n := 1) (V := ii r12) [4] (f47_ok m (0 + ((rowC (encI .i64) o2).length + 1)) (List.getD a (Int.toNat x8_3) 0) o2 r12 r12_h) rfl (by rfl) (by decide) rfl (by kernel_rfl) ⟨⟨_, _, rfl, rfl, .inl ⟨rfl, rwI⟩⟩, trivial⟩) (σ' := [(10, ii r12)]) (by kernel_rfl) ?_
    refine XU.run E0_ok 1 1 [4] rfl (σ' := [(4, ii r12)]) (by kernel_rfl) ?_
    refine XU.done (by kernel_rfl) ?_
    show XQ _ _ _ _ _ _ _ _
    refine XQ.ret (by kernel_rfl) ?_
    refine ⟨fun i q => (by cases q), ii r12, (by kernel_rfl), ?_⟩
    refine XR.conv (σ' := [(1, .func (.func 48) #[] #[pp 3 0, pp 2 0]), (5, pp 5 0), (7, ii x7_3), (8, ii x8_3), (13, ii r12)]) (h' := ((7, rI lh7_3) :: (6, .imap (imC (Value.int .i64) mh6_3)) :: (5, .cells [.map (some 6), s0 7 lh7_3.length] 0 114 0) :: (4, rc (encI .i64) o2 0 96 0) :: (3, .cells [.func (.func 47) #[] #[pp 4 0]] 0 94 0) :: qha17 a b y0 y1 z0 z1 [])) (c' := 8) ?_ (by kernel_rfl)
    refine XR.callK E0_ok [1, 5, 7, 8] rfl (K := 65) (args := [pp 5 0, ii r12]) (d := (some (path 12 14))) (by kernel_rfl) ?_
    refine KC.bodyN E0_ok (F := Proofs.Tryz.f65) (by kernel_rfl) (code := f19_C65) (by kernel_rfl) (nt := 47) (by kernel_rfl) (rs := []) (by kernel_rfl) (by kernel_rfl) (σ := [(0, pp 5 0), (1, ii r12)]) (by kernel_rfl) ?_
    refine sQ ?_
    refine qQ ?_
    refine rS 5 [(0, pp 5 0), (1, ii r12), (10, .bool false)] ?_
    refine dQ ?_
    show XQ _ _ _ _ _ _ _ _
    refine iF (.tmp 10) ?_
    refine kQ ?_
    show XQ _ _ _ _ _ _ _ _
    refine qQ ?_
    refine rS 5 [(0, pp 5 0), (1, ii r12), (19, .map (some 6)), (20, ii r12)] ?_
    refine XR.rd E0_ok [0, 1, 21] rfl (v := .tuple #[ii (getM 0 mh6_3 r12), .bool (hasM mh6_3 r12)]) (v_mgeto (Value.int .i64) (x := (src 47 (.tmp 19))) (i := (src 47 (.tmp 20))) (z := .int .i64 0) (d := (some (path 12 21))) (b := 6) (k := r12) (l := mh6_3) (d0 := 0) (by kernel_rfl) (by kernel_rfl) (by kernel_rfl) (by kernel_rfl) rfl rfl rfl) (σ' := [(0, pp 5 0), (1, ii r12), (21, .tuple #[ii (getM 0 mh6_3 r12), .bool (hasM mh6_3 r12)])]) (by kernel_rfl) ?_
    refine rS 5 [(0, pp 5 0), (1, ii r12), (4, ii (getM 0 mh6_3 r12)), (5, .bool (hasM mh6_3 r12))] ?_
    refine dQ ?_
    show XQ _ _ _ _ _ _ _ _
    refine sQ ?_
    refine qQ ?_
    refine rS 2 [(0, pp 5 0), (1, ii r12), (4, ii (getM 0 mh6_3 r12)), (25, .bool (!(hasM mh6_3 r12)))] ?_
    refine dQ ?_
    show XQ _ _ _ _ _ _ _ _
    cases b3 : (!(hasM mh6_3 r12) : Bool) with
    | true =>
     have h := cT b3 h
     refine iT (.tmp 25) ?_
     refine qQ ?_
     refine rS 4 [(0, pp 5 0), (1, ii r12), (29, .map (some 6))] ?_
     refine XR.rd E0_ok [0, 1, 30] rfl (v := ii ((mh6_3.length : Nat) : Int)) (v_mlen (x := (src 47 (.tmp 29))) (d := (some (path 12 30))) (b := 6) (es := imC (Value.int .i64) mh6_3) (n := mh6_3.length) (by kernel_rfl) (by kernel_rfl) (by kernel_rfl) (imC_len _ _)) (σ' := [(0, pp 5 0), (1, ii r12), (30, ii ((mh6_3.length : Nat) : Int))]) (by kernel_rfl) ?_
     refine rS 1 [(0, pp 5 0), (1, ii r12), (4, ii ((mh6_3.length : Nat) : Int))] ?_
     refine dQ ?_
     show XQ _ _ _ _ _ _ _ _
     refine rQ ?_
     refine rS 6 [(0, pp 5 0), (4, ii ((mh6_3.length : Nat) : Int)), (34, .map (some 6)), (35, ii r12), (36, ii ((mh6_3.length : Nat) : Int))] ?_
     refine XR.ef E0_ok [0, 4] rfl (e_mput (Value.int .i64) (m := (src 47 (.tmp 34))) (i := (src 47 (.tmp 35))) (x := (src 47 (.tmp 36))) (d := none) (b := 6) (k := r12) (l := mh6_3) (a := ((mh6_3.length : Nat) : Int)) (h' := ((7, rI lh7_3) :: (6, .imap (imC (Value.int .i64) (putM mh6_3 r12 ((mh6_3.length : Nat) : Int)))) :: (5, .cells [.map (some 6), s0 7 lh7_3.length] 0 114 0) :: (4, rc (encI .i64) o2 0 96 0) :: (3, .cells [.func (.func 47) #[] #[pp 4 0]] 0 94 0) :: qha17 a b y0 y1 z0 z1 [])) (by kernel_rfl) (by kernel_rfl) (by kernel_rfl) (by kernel_rfl) (by kernel_rfl) rfl rfl) (σ' := [(0, pp 5 0), (4, ii ((mh6_3.length : Nat) : Int))]) (by kernel_rfl) ?_
     refine dQ ?_
     show XQ _ _ _ _ _ _ _ _
     refine rQ ?_
     refine rT 7 [(37, pp 5 0), (41, s0 7 lh7_3.length), (43, s0 8 1)] ((8, .cells [ii ((mh6_3.length : Nat) : Int)] 0 3 1) :: (7, rI lh7_3) :: (6, .imap (imC (Value.int .i64) (putM mh6_3 r12 ((mh6_3.length : Nat) : Int)))) :: (5, .cells [.map (some 6), s0 7 lh7_3.length] 0 114 0) :: (4, rc (encI .i64) o2 0 96 0) :: (3, .cells [.func (.func 47) #[] #[pp 4 0]] 0 94 0) :: qha17 a b y0 y1 z0 z1 []) 9 ?_
     cases b4 : (fitsB (lh7_3.length + 1) 8 : Bool) with
     | false => cases (cF b4 h)
     | true =>
      have h := cT b4 h
      refine XR.ef E0_ok [37, 44] rfl (e_append (encI_ok .i64) (bytes := 8) (e := 3) (x := (src 47 (.tmp 41))) (y := (src 47 (.tmp 43))) (b := 7) (len := lh7_3.length) (cap := lh7_3.length) (xs := lh7_3) (m := 0) (ys := [((mh6_3.length : Nat) : Int)]) (d := (some (path 12 44))) (n' := (lh7_3 ++ [((mh6_3.length : Nat) : Int)]).length) (h' := ((9, rI (lh7_3 ++ [((mh6_3.length : Nat) : Int)])) :: (8, .cells [ii ((mh6_3.length : Nat) : Int)] 0 3 1) :: (6, .imap (imC (Value.int .i64) (putM mh6_3 r12 ((mh6_3.length : Nat) : Int)))) :: (5, .cells [.map (some 6), s0 7 lh7_3.length] 0 114 0) :: (4, rc (encI .i64) o2 0 96 0) :: (3, .cells [.func (.func 47) #[] #[pp 4 0]] 0 94 0) :: qha17 a b y0 y1 z0 z1 [])) (by kernel_rfl) (by kernel_rfl) (by kernel_rfl) (by kernel_rfl) rfl (by simp) (by simp) b4 (by simp) (by kernel_rfl)) (σ' := [(37, pp 5 0), (44, s0 9 ((lh7_3 ++ [((mh6_3.length : Nat) : Int)]).length))]) (by kernel_rfl) ?_
      refine rT 3 [] ((9, rI (lh7_3 ++ [((mh6_3.length : Nat) : Int)])) :: (8, .cells [ii ((mh6_3.length : Nat) : Int)] 0 3 1) :: (6, .imap (imC (Value.int .i64) (putM mh6_3 r12 ((mh6_3.length : Nat) : Int)))) :: (5, .cells [.map (some 6), s0 9 ((lh7_3 ++ [((mh6_3.length : Nat) : Int)]).length)] 0 114 0) :: (4, rc (encI .i64) o2 0 96 0) :: (3, .cells [.func (.func 47) #[] #[pp 4 0]] 0 94 0) :: qha17 a b y0 y1 z0 z1 []) 10 ?_
      refine dQ ?_
      refine ⟨fun i q => (by cases q), .tuple #[], (by kernel_rfl), ?_⟩
      refine XR.conv (σ' := [(1, .func (.func 48) #[] #[pp 3 0, pp 2 0]), (5, pp 5 0), (7, ii x7_3), (8, ii x8_3)]) (h' := ((9, rI (lh7_3 ++ [((mh6_3.length : Nat) : Int)])) :: (8, .cells [ii ((mh6_3.length : Nat) : Int)] 0 3 1) :: (6, .imap (imC (Value.int .i64) (putM mh6_3 r12 ((mh6_3.length : Nat) : Int)))) :: (5, .cells [.map (some 6), s0 9 ((lh7_3 ++ [((mh6_3.length : Nat) : Int)]).length)] 0 114 0) :: (4, rc (encI .i64) o2 0 96 0) :: (3, .cells [.func (.func 47) #[] #[pp 4 0]] 0 94 0) :: qha17 a b y0 y1 z0 z1 [])) (c' := 10) ?_ (by kernel_rfl)
      refine dQ ?_
      show XQ _ _ _ _ _ _ _ _
      refine rQ ?_
      refine rS 2 [(1, .func (.func 48) #[] #[pp 3 0, pp 2 0]), (5, pp 5 0), (7, ii x7_3), (8, ii (w64 (x8_3 + 1)))] ?_
      refine dQ ?_
      show XL _ _ _ _ _ _ _ _ _
      refine XL.ren (σ' := [(1, .func (.func 48) #[] #[pp 3 0, pp 2 0]), (5, pp 5 0), (7, ii x7_3), (8, ii (w64 (x8_3 + 1)))]) (h' := ((7, rI (lh7_3 ++ [((mh6_3.length : Nat) : Int)])) :: (6, .imap (imC (Value.int .i64) (putM mh6_3 r12 ((mh6_3.length : Nat) : Int)))) :: (5, .cells [.map (some 6), s0 7 ((lh7_3 ++ [((mh6_3.length : Nat) : Int)]).length)] 0 114 0) :: (4, rc (encI .i64) o2 0 96 0) :: (3, .cells [.func (.func 47) #[] #[pp 4 0]] 0 94 0) :: qha17 a b y0 y1 z0 z1 [])) (c' := 8) [0, 1, 2, 3, 4, 5, 6, 9] (by decide) rfl ⟨rfl, rfl, rfl, rfl, trivial⟩ ⟨⟨_, _, rfl, rfl, .inl ⟨rfl, rwI⟩⟩, ⟨_, _, rfl, rfl, .inl ⟨rfl, trivial⟩⟩, ⟨_, _, rfl, rfl, .inr ⟨_, _, _, _, rfl, rfl⟩⟩, ⟨_, _, rfl, rfl, .inl ⟨rfl, rwI⟩⟩, ⟨_, _, rfl, rfl, .inr ⟨_, _, _, _, rfl, rfl⟩⟩, ⟨_, _, rfl, rfl, .inr ⟨_, _, _, _, rfl, rfl⟩⟩, ⟨_, _, rfl, rfl, .inl ⟨rfl, rwI⟩⟩, ⟨_, _, rfl, rfl, .inl ⟨rfl, rwI⟩⟩, trivial⟩ rfl ?_
      refine XL.conv (f19_3_ok m fuel z0 y0 a z1 y1 b o2 x7_3 (w64 (x8_3 + 1)) (putM mh6_3 r12 ((mh6_3.length : Nat) : Int)) (lh7_3 ++ [((mh6_3.length : Nat) : Int)]) o h Q hQ) (by first | with_reducible rfl | simp | rfl)
    | false =>
     have h := cF b3 h
     refine iF (.tmp 25) ?_
     refine kQ ?_
     show XQ _ _ _ _ _ _ _ _
     refine rQ ?_
     refine rT 7 [(37, pp 5 0), (41, s0 7 lh7_3.length), (43, s0 8 1)] ((8, .cells [ii (getM 0 mh6_3 r12)] 0 3 1) :: (7, rI lh7_3) :: (6, .imap (imC (Value.int .i64) mh6_3)) :: (5, .cells [.map (some 6), s0 7 lh7_3.length] 0 114 0) :: (4, rc (encI .i64) o2 0 96 0) :: (3, .cells [.func (.func 47) #[] #[pp 4 0]] 0 94 0) :: qha17 a b y0 y1 z0 z1 []) 9 ?_
     cases b5 : (fitsB (lh7_3.length + 1) 8 : Bool) with
     | false => cases (cF b5 h)
     | true =>
      have h := cT b5 h
      refine XR.ef E0_ok [37, 44] rfl (e_append (encI_ok .i64) (bytes := 8) (e := 3) (x := (src 47 (.tmp 41))) (y := (src 47 (.tmp 43))) (b := 7) (len := lh7_3.length) (cap := lh7_3.length) (xs := lh7_3) (m := 0) (ys := [getM 0 mh6_3 r12]) (d := (some (path 12 44))) (n' := (lh7_3 ++ [getM 0 mh6_3 r12]).length) (h' := ((9, rI (lh7_3 ++ [getM 0 mh6_3 r12])) :: (8, .cells [ii (getM 0 mh6_3 r12)] 0 3 1) :: (6, .imap (imC (Value.int .i64) mh6_3)) :: (5, .cells [.map (some 6), s0 7 lh7_3.length] 0 114 0) :: (4, rc (encI .i64) o2 0 96 0) :: (3, .cells [.func (.func 47) #[] #[pp 4 0]] 0 94 0) :: qha17 a b y0 y1 z0 z1 [])) (by kernel_rfl) (by kernel_rfl) (by kernel_rfl) (by kernel_rfl) rfl (by simp) (by simp) b5 (by simp) (by kernel_rfl)) (σ' := [(37, pp 5 0), (44, s0 9 ((lh7_3 ++ [getM 0 mh6_3 r12]).length))]) (by kernel_rfl) ?_
      refine rT 3 [] ((9, rI (lh7_3 ++ [getM 0 mh6_3 r12])) :: (8, .cells [ii (getM 0 mh6_3 r12)] 0 3 1) :: (6, .imap (imC (Value.int .i64) mh6_3)) :: (5, .cells [.map (some 6), s0 9 ((lh7_3 ++ [getM 0 mh6_3 r12]).length)] 0 114 0) :: (4, rc (encI .i64) o2 0 96 0) :: (3, .cells [.func (.func 47) #[] #[pp 4 0]] 0 94 0) :: qha17 a b y0 y1 z0 z1 []) 10 ?_
      refine dQ ?_
      refine ⟨fun i q => (by cases q), .tuple #[], (by kernel_rfl), ?_⟩
      refine XR.conv (σ' := [(1, .func (.func 48) #[] #[pp 3 0, pp 2 0]), (5, pp 5 0), (7, ii x7_3), (8, ii x8_3)]) (h' := ((9, rI (lh7_3 ++ [getM 0 mh6_3 r12])) :: (8, .cells [ii (getM 0 mh6_3 r12)] 0 3 1) :: (6, .imap (imC (Value.int .i64) mh6_3)) :: (5, .cells [.map (some 6), s0 9 ((lh7_3 ++ [getM 0 mh6_3 r12]).length)] 0 114 0) :: (4, rc (encI .i64) o2 0 96 0) :: (3, .cells [.func (.func 47) #[] #[pp 4 0]] 0 94 0) :: qha17 a b y0 y1 z0 z1 [])) (c' := 10) ?_ (by kernel_rfl)
      refine dQ ?_
      show XQ _ _ _ _ _ _ _ _
      refine rQ ?_
      refine rS 2 [(1, .func (.func 48) #[] #[pp 3 0, pp 2 0]), (5, pp 5 0), (7, ii x7_3), (8, ii (w64 (x8_3 + 1)))] ?_
      refine dQ ?_
      show XL _ _ _ _ _ _ _ _ _
      refine XL.ren (σ' := [(1, .func (.func 48) #[] #[pp 3 0, pp 2 0]), (5, pp 5 0), (7, ii x7_3), (8, ii (w64 (x8_3 + 1)))]) (h' := ((7, rI (lh7_3 ++ [getM 0 mh6_3 r12])) :: (6, .imap (imC (Value.int .i64) mh6_3)) :: (5, .cells [.map (some 6), s0 7 ((lh7_3 ++ [getM 0 mh6_3 r12]).length)] 0 114 0) :: (4, rc (encI .i64) o2 0 96 0) :: (3, .cells [.func (.func 47) #[] #[pp 4 0]] 0 94 0) :: qha17 a b y0 y1 z0 z1 [])) (c' := 8) [0, 1, 2, 3, 4, 5, 6, 9] (by decide) rfl ⟨rfl, rfl, rfl, rfl, trivial⟩ ⟨⟨_, _, rfl, rfl, .inl ⟨rfl, rwI⟩⟩, ⟨_, _, rfl, rfl, .inl ⟨rfl, trivial⟩⟩, ⟨_, _, rfl, rfl, .inr ⟨_, _, _, _, rfl, rfl⟩⟩, ⟨_, _, rfl, rfl, .inl ⟨rfl, rwI⟩⟩, ⟨_, _, rfl, rfl, .inr ⟨_, _, _, _, rfl, rfl⟩⟩, ⟨_, _, rfl, rfl, .inr ⟨_, _, _, _, rfl, rfl⟩⟩, ⟨_, _, rfl, rfl, .inl ⟨rfl, rwI⟩⟩, ⟨_, _, rfl, rfl, .inl ⟨rfl, rwI⟩⟩, trivial⟩ rfl ?_
      refine XL.conv (f19_3_ok m fuel z0 y0 a z1 y1 b o2 x7_3 (w64 (x8_3 + 1)) mh6_3 (lh7_3 ++ [getM 0 mh6_3 r12]) o h Q hQ) (by first | with_reducible rfl | simp | rfl)
  | false =>
   have h := cF b1 h
   refine iF (.tmp 9) ?_
   refine XQ.ren (σ' := [(5, pp 5 0)]) (h' := ((7, rI lh7_3) :: (6, .imap (imC (Value.int .i64) mh6_3)) :: (5, .cells [.map (some 6), s0 7 lh7_3.length] 0 114 0) :: (4, rc (encI .i64) o2 0 96 0) :: (3, .cells [.func (.func 47) #[] #[pp 4 0]] 0 94 0) :: qha17 a b y0 y1 z0 z1 [])) (c' := 8) [0, 1, 2, 3, 4, 5, 6, 7] (by decide) rfl ⟨rfl, trivial⟩ ⟨⟨_, _, rfl, rfl, .inl ⟨rfl, rwI⟩⟩, ⟨_, _, rfl, rfl, .inl ⟨rfl, trivial⟩⟩, ⟨_, _, rfl, rfl, .inr ⟨_, _, _, _, rfl, rfl⟩⟩, ⟨_, _, rfl, rfl, .inl ⟨rfl, rwI⟩⟩, ⟨_, _, rfl, rfl, .inr ⟨_, _, _, _, rfl, rfl⟩⟩, ⟨_, _, rfl, rfl, .inr ⟨_, _, _, _, rfl, rfl⟩⟩, ⟨_, _, rfl, rfl, .inl ⟨rfl, rwI⟩⟩, ⟨_, _, rfl, rfl, .inl ⟨rfl, rwI⟩⟩, trivial⟩ rfl ?_
   refine XQ.exit (i := 0) (by kernel_rfl) ?_
   cases h
   exact hQ
def f19_4 (m : Nat) : Nat → List Int → List Int → (List Int) → Int → Int → List (Int × Int) → List Int → Option ((List (Int × Int)) × (List Int))
 | 0, _, _, _, _, _, _, _ => none
 | fuel + 1, a, b, o2, x7_4, x8_4, mh6_4, lh7_4 =>
  cond (decide (x8_4 < x7_4)) (
   cond (inRow x8_4 a.length) (
    (f47 m (List.getD a (Int.toNat x8_4) 0) o2).bind fun r15 =>
     cond (!(hasM mh6_4 r15)) (
      cond (fitsB (lh7_4.length + 1) 8) (
       f19_4 m fuel a b o2 x7_4 (w64 (x8_4 + 1)) (putM mh6_4 r15 ((mh6_4.length : Nat) : Int)) (lh7_4 ++ [((mh6_4.length : Nat) : Int)])
      ) none
     ) (
      cond (fitsB (lh7_4.length + 1) 8) (
       f19_4 m fuel a b o2 x7_4 (w64 (x8_4 + 1)) mh6_4 (lh7_4 ++ [getM 0 mh6_4 r15])
      ) none
     )
   ) none
  ) (
   some (mh6_4, lh7_4)
  )
abbrev qha18 (a : List Int) (b : List Int) (y0 : Nat) (y1 : Nat) (z0 : Nat) (z1 : Nat) (t : Heap) : Heap := (2, .cells [s0 0 a.length] 0 23 0) :: (1, rc (encI .i64) b z1 y1 1) :: (0, rc (encI .i64) a z0 y0 1) :: t
theorem f19_4_ok (m : Nat) : ∀ (fuel : Nat) (z0 : Nat) (y0 : Nat) (a : List Int) (z1 : Nat) (y1 : Nat) (b : List Int) (o2 : (List Int)) (x7_4 : Int) (x8_4 : Int) (mh6_4 : List (Int × Int)) (lh7_4 : List Int) (o : ((List (Int × Int)) × (List Int))), f19_4 m fuel a b o2 x7_4 x8_4 mh6_4 lh7_4 = some o → ∀ Q : QP, Q (.exit 0) [(5, pp 5 0)] ((7, rI o.2) :: (6, .imap (imC (Value.int .i64) o.1)) :: (5, .cells [.map (some 6), s0 7 o.2.length] 0 114 0) :: (4, rc (encI .i64) o2 0 96 0) :: (3, .cells [.func (.func 47) #[] #[pp 4 0]] 0 94 0) :: qha18 a b y0 y1 z0 z1 []) 8 → XL E0 18 5 fuel f19_L3 [(1, .func (.func 48) #[] #[pp 3 0, pp 2 0]), (5, pp 5 0), (7, ii x7_4), (8, ii x8_4)] ((7, rI lh7_4) :: (6, .imap (imC (Value.int .i64) mh6_4)) :: (5, .cells [.map (some 6), s0 7 lh7_4.length] 0 114 0) :: (4, rc (encI .i64) o2 0 96 0) :: (3, .cells [.func (.func 47) #[] #[pp 4 0]] 0 94 0) :: qha18 a b y0 y1 z0 z1 []) 8 Q
 | 0, z0, y0, a, z1, y1, b, o2, x7_4, x8_4, mh6_4, lh7_4, o, h, Q, hQ => by cases h
 | fuel + 1, z0, y0, a, z1, y1, b, o2, x7_4, x8_4, mh6_4, lh7_4, o, h, Q, hQ => by
  unfold f19_4 at h
  refine XL.succ E0_ok ?_
  refine qQ ?_
  refine rS 1 [(1, .func (.func 48) #[] #[pp 3 0, pp 2 0]), (5, pp 5 0), (7, ii x7_4), (8, ii x8_4), (9, .bool (decide (x8_4 < x7_4)))] ?_
  refine dQ ?_
  show XQ _ _ _ _ _ _ _ _
  refine sQ ?_
  cases b1 : (decide (x8_4 < x7_4) : Bool) with
  | true =>
   have h := cT b1 h
   refine iT (.tmp 9) ?_
   refine kQ ?_
   show XQ _ _ _ _ _ _ _ _
   refine sQ ?_
   refine XQ.block (id := 1) (by kernel_rfl) ?_
   refine qQ ?_
   refine rS 2 [(1, .func (.func 48) #[] #[pp 3 0, pp 2 0]), (5, pp 5 0), (6, ii x8_4), (7, ii x7_4), (8, ii x8_4)] ?_
   refine dQ ?_
   show XQ _ _ _ _ _ _ _ _
   refine rQ ?_
   refine rS 2 [(1, .func (.func 48) #[] #[pp 3 0, pp 2 0]), (5, pp 5 0), (7, ii x7_4), (8, ii x8_4), (11, .func (.func 48) #[] #[pp 3 0, pp 2 0]), (12, ii x8_4)] ?_
   refine XR.callK E0_ok [1, 5, 7, 8, 13] rfl (K := 48) (args := [ii x8_4, pp 3 0, pp 2 0]) (d := (some (path 12 13))) (by kernel_rfl) ?_
   refine KC.bodyN E0_ok (F := Proofs.Tryz.f48) (by kernel_rfl) (code := f19_C48) (by kernel_rfl) (nt := 11) (by kernel_rfl) (rs := [.tmp 4]) (by kernel_rfl) (by kernel_rfl) (σ := [(0, ii x8_4), (1, pp 3 0), (2, pp 2 0)]) (by kernel_rfl) ?_
   refine qQ ?_
   refine rS 1 [(0, ii x8_4), (1, pp 3 0), (2, pp 2 0)] ?_
   refine dQ ?_
   show XQ _ _ _ _ _ _ _ _
   refine sQ ?_
   refine XQ.quiet E0_ok (by kernel_rfl) (by kernel_rfl) ?_
   refine XU.run E0_ok 1 3 [5, 6, 7] rfl (σ' := [(5, .func (.func 47) #[] #[pp 4 0]), (6, s0 0 a.length), (7, ii x8_4)]) (by kernel_rfl) ?_
   cases b2 : (inRow x8_4 a.length : Bool) with
   | false => cases (cF b2 h)
   | true =>
    have h := cT b2 h
    refine XU.rd E0_ok [5, 8] rfl (v := pp 0 ((Int.toNat x8_4) * 1)) (v_idx (s := 1) (x := (src 11 (.tmp 6))) (y := (src 11 (.tmp 7))) (b := 0) (o := 0) (len := a.length) (cap := a.length) (ik := .i64) (i := x8_4) (off := (Int.toNat x8_4) * 1) (d := (some (path 12 8))) (by kernel_rfl) (by kernel_rfl) (by kernel_rfl) b2 (by omega)) (σ' := [(5, .func (.func 47) #[] #[pp 4 0]), (8, pp 0 ((Int.toNat x8_4) * 1))]) (by kernel_rfl) ?_
    refine XU.rd E0_ok [5, 9] rfl (v := ii (List.getD a (Int.toNat x8_4) 0)) (v_load1 (encI_ok .i64) (x := (src 11 (.tmp 8))) (b := 0) (off := (Int.toNat x8_4) * 1) (xs := a) (fz := z0) (e := y0) (es := 1) (d := (some (path 12 9))) (by kernel_rfl) (by kernel_rfl) (by kernel_rfl) (Int.toNat x8_4) 0 0 (by first | with_reducible rfl | omega | rfl) (row_len (inRow_toNat b2) (by simp)) rfl rfl) (σ' := [(5, .func (.func 47) #[] #[pp 4 0]), (9, ii (List.getD a (Int.toNat x8_4) 0))]) (by kernel_rfl) ?_
    obtain ⟨r15, r15_h, h⟩ := bS h
    refine XU.callH E0_ok [10] rfl (K := 47) (args := [ii (List.getD a (Int.toNat x8_4) 0), pp 4 0]) (d := (some (path 12 10))) (V := ii r15) (by kernel_rfl) rfl (KC.quiet E0_ok (args0 := [ii (List.getD a (Int.toNat x8_4) 0), pp 0 0]) (h0 := [(0, rc (encI .i64) o2 (0 + ((rowC (encI .i64) o2).length + 1)) 96 0)]) (n := 1) (V := ii r15) [4] (f47_ok m (0 + ((rowC (encI .i64) o2).length + 1)) (List.getD a (Int.toNat x8_4) 0) o2 r15 r15_h) rfl (by rfl) (by decide) rfl (by kernel_rfl) ⟨⟨_, _, rfl, rfl, .inl ⟨rfl, rwI⟩⟩, trivial⟩) (σ' := [(10, ii r15)]) (by kernel_rfl) ?_
    refine XU.run E0_ok 1 1 [4] rfl (σ' := [(4, ii r15)]) (by kernel_rfl) ?_
    refine XU.done (by kernel_rfl) ?_
    show XQ _ _ _ _ _ _ _ _
    refine XQ.ret (by kernel_rfl) ?_
    refine ⟨fun i q => (by cases q), ii r15, (by kernel_rfl), ?_⟩
    refine XR.conv (σ' := [(1, .func (.func 48) #[] #[pp 3 0, pp 2 0]), (5, pp 5 0), (7, ii x7_4), (8, ii x8_4), (13, ii r15)]) (h' := ((7, rI lh7_4) :: (6, .imap (imC (Value.int .i64) mh6_4)) :: (5, .cells [.map (some 6), s0 7 lh7_4.length] 0 114 0) :: (4, rc (encI .i64) o2 0 96 0) :: (3, .cells [.func (.func 47) #[] #[pp 4 0]] 0 94 0) :: qha18 a b y0 y1 z0 z1 [])) (c' := 8) ?_ (by kernel_rfl)
    refine XR.callK E0_ok [1, 5, 7, 8] rfl (K := 65) (args := [pp 5 0, ii r15]) (d := (some (path 12 14))) (by kernel_rfl) ?_
    refine KC.bodyN E0_ok (F := Proofs.Tryz.f65) (by kernel_rfl) (code := f19_C65) (by kernel_rfl) (nt := 47) (by kernel_rfl) (rs := []) (by kernel_rfl) (by kernel_rfl) (σ := [(0, pp 5 0), (1, ii r15)]) (by kernel_rfl) ?_
    refine sQ ?_
    refine qQ ?_
    refine rS 5 [(0, pp 5 0), (1, ii r15), (10, .bool false)] ?_
    refine dQ ?_
    show XQ _ _ _ _ _ _ _ _
    refine iF (.tmp 10) ?_
    refine kQ ?_
    show XQ _ _ _ _ _ _ _ _
    refine qQ ?_
    refine rS 5 [(0, pp 5 0), (1, ii r15), (19, .map (some 6)), (20, ii r15)] ?_
    refine XR.rd E0_ok [0, 1, 21] rfl (v := .tuple #[ii (getM 0 mh6_4 r15), .bool (hasM mh6_4 r15)]) (v_mgeto (Value.int .i64) (x := (src 47 (.tmp 19))) (i := (src 47 (.tmp 20))) (z := .int .i64 0) (d := (some (path 12 21))) (b := 6) (k := r15) (l := mh6_4) (d0 := 0) (by kernel_rfl) (by kernel_rfl) (by kernel_rfl) (by kernel_rfl) rfl rfl rfl) (σ' := [(0, pp 5 0), (1, ii r15), (21, .tuple #[ii (getM 0 mh6_4 r15), .bool (hasM mh6_4 r15)])]) (by kernel_rfl) ?_
    refine rS 5 [(0, pp 5 0), (1, ii r15), (4, ii (getM 0 mh6_4 r15)), (5, .bool (hasM mh6_4 r15))] ?_
    refine dQ ?_
    show XQ _ _ _ _ _ _ _ _
    refine sQ ?_
    refine qQ ?_
    refine rS 2 [(0, pp 5 0), (1, ii r15), (4, ii (getM 0 mh6_4 r15)), (25, .bool (!(hasM mh6_4 r15)))] ?_
    refine dQ ?_
    show XQ _ _ _ _ _ _ _ _
    cases b3 : (!(hasM mh6_4 r15) : Bool) with
    | true =>
     have h := cT b3 h
     refine iT (.tmp 25) ?_
     refine qQ ?_
     refine rS 4 [(0, pp 5 0), (1, ii r15), (29, .map (some 6))] ?_
     refine XR.rd E0_ok [0, 1, 30] rfl (v := ii ((mh6_4.length : Nat) : Int)) (v_mlen (x := (src 47 (.tmp 29))) (d := (some (path 12 30))) (b := 6) (es := imC (Value.int .i64) mh6_4) (n := mh6_4.length) (by kernel_rfl) (by kernel_rfl) (by kernel_rfl) (imC_len _ _)) (σ' := [(0, pp 5 0), (1, ii r15), (30, ii ((mh6_4.length : Nat) : Int))]) (by kernel_rfl) ?_
     refine rS 1 [(0, pp 5 0), (1, ii r15), (4, ii ((mh6_4.length : Nat) : Int))] ?_
     refine dQ ?_
     show XQ _ _ _ _ _ _ _ _
     refine rQ ?_
     refine rS 6 [(0, pp 5 0), (4, ii ((mh6_4.length : Nat) : Int)), (34, .map (some 6)), (35, ii r15), (36, ii ((mh6_4.length : Nat) : Int))] ?_
     refine XR.ef E0_ok [0, 4] rfl (e_mput (Value.int .i64) (m := (src 47 (.tmp 34))) (i := (src 47 (.tmp 35))) (x := (src 47 (.tmp 36))) (d := none) (b := 6) (k := r15) (l := mh6_4) (a := ((mh6_4.length : Nat) : Int)) (h' := ((7, rI lh7_4) :: (6, .imap (imC (Value.int .i64) (putM mh6_4 r15 ((mh6_4.length : Nat) : Int)))) :: (5, .cells [.map (some 6), s0 7 lh7_4.length] 0 114 0) :: (4, rc (encI .i64) o2 0 96 0) :: (3, .cells [.func (.func 47) #[] #[pp 4 0]] 0 94 0) :: qha18 a b y0 y1 z0 z1 [])) (by kernel_rfl) (by kernel_rfl) (by kernel_rfl) (by kernel_rfl) (by kernel_rfl) rfl rfl) (σ' := [(0, pp 5 0), (4, ii ((mh6_4.length : Nat) : Int))]) (by kernel_rfl) ?_
     refine dQ ?_
     show XQ _ _ _ _ _ _ _ _
     refine rQ ?_
     refine rT 7 [(37, pp 5 0), (41, s0 7 lh7_4.length), (43, s0 8 1)] ((8, .cells [ii ((mh6_4.length : Nat) : Int)] 0 3 1) :: (7, rI lh7_4) :: (6, .imap (imC (Value.int .i64) (putM mh6_4 r15 ((mh6_4.length : Nat) : Int)))) :: (5, .cells [.map (some 6), s0 7 lh7_4.length] 0 114 0) :: (4, rc (encI .i64) o2 0 96 0) :: (3, .cells [.func (.func 47) #[] #[pp 4 0]] 0 94 0) :: qha18 a b y0 y1 z0 z1 []) 9 ?_
     cases b4 : (fitsB (lh7_4.length + 1) 8 : Bool) with
     | false => cases (cF b4 h)
     | true =>
      have h := cT b4 h
      refine XR.ef E0_ok [37, 44] rfl (e_append (encI_ok .i64) (bytes := 8) (e := 3) (x := (src 47 (.tmp 41))) (y := (src 47 (.tmp 43))) (b := 7) (len := lh7_4.length) (cap := lh7_4.length) (xs := lh7_4) (m := 0) (ys := [((mh6_4.length : Nat) : Int)]) (d := (some (path 12 44))) (n' := (lh7_4 ++ [((mh6_4.length : Nat) : Int)]).length) (h' := ((9, rI (lh7_4 ++ [((mh6_4.length : Nat) : Int)])) :: (8, .cells [ii ((mh6_4.length : Nat) : Int)] 0 3 1) :: (6, .imap (imC (Value.int .i64) (putM mh6_4 r15 ((mh6_4.length : Nat) : Int)))) :: (5, .cells [.map (some 6), s0 7 lh7_4.length] 0 114 0) :: (4, rc (encI .i64) o2 0 96 0) :: (3, .cells [.func (.func 47) #[] #[pp 4 0]] 0 94 0) :: qha18 a b y0 y1 z0 z1 [])) (by kernel_rfl) (by kernel_rfl) (by kernel_rfl) (by kernel_rfl) rfl (by simp) (by simp) b4 (by simp) (by kernel_rfl)) (σ' := [(37, pp 5 0), (44, s0 9 ((lh7_4 ++ [((mh6_4.length : Nat) : Int)]).length))]) (by kernel_rfl) ?_
      refine rT 3 [] ((9, rI (lh7_4 ++ [((mh6_4.length : Nat) : Int)])) :: (8, .cells [ii ((mh6_4.length : Nat) : Int)] 0 3 1) :: (6, .imap (imC (Value.int .i64) (putM mh6_4 r15 ((mh6_4.length : Nat) : Int)))) :: (5, .cells [.map (some 6), s0 9 ((lh7_4 ++ [((mh6_4.length : Nat) : Int)]).length)] 0 114 0) :: (4, rc (encI .i64) o2 0 96 0) :: (3, .cells [.func (.func 47) #[] #[pp 4 0]] 0 94 0) :: qha18 a b y0 y1 z0 z1 []) 10 ?_
      refine dQ ?_
      refine ⟨fun i q => (by cases q), .tuple #[], (by kernel_rfl), ?_⟩
      refine XR.conv (σ' := [(1, .func (.func 48) #[] #[pp 3 0, pp 2 0]), (5, pp 5 0), (7, ii x7_4), (8, ii x8_4)]) (h' := ((9, rI (lh7_4 ++ [((mh6_4.length : Nat) : Int)])) :: (8, .cells [ii ((mh6_4.length : Nat) : Int)] 0 3 1) :: (6, .imap (imC (Value.int .i64) (putM mh6_4 r15 ((mh6_4.length : Nat) : Int)))) :: (5, .cells [.map (some 6), s0 9 ((lh7_4 ++ [((mh6_4.length : Nat) : Int)]).length)] 0 114 0) :: (4, rc (encI .i64) o2 0 96 0) :: (3, .cells [.func (.func 47) #[] #[pp 4 0]] 0 94 0) :: qha18 a b y0 y1 z0 z1 [])) (c' := 10) ?_ (by kernel_rfl)
      refine dQ ?_
      show XQ _ _ _ _ _ _ _ _
      refine rQ ?_
      refine rS 2 [(1, .func (.func 48) #[] #[pp 3 0, pp 2 0]), (5, pp 5 0), (7, ii x7_4), (8, ii (w64 (x8_4 + 1)))] ?_
      refine dQ ?_
      show XL _ _ _ _ _ _ _ _ _
      refine XL.ren (σ' := [(1, .func (.func 48) #[] #[pp 3 0, pp 2 0]), (5, pp 5 0), (7, ii x7_4), (8, ii (w64 (x8_4 + 1)))]) (h' := ((7, rI (lh7_4 ++ [((mh6_4.length : Nat) : Int)])) :: (6, .imap (imC (Value.int .i64) (putM mh6_4 r15 ((mh6_4.length : Nat) : Int)))) :: (5, .cells [.map (some 6), s0 7 ((lh7_4 ++ [((mh6_4.length : Nat) : Int)]).length)] 0 114 0) :: (4, rc (encI .i64) o2 0 96 0) :: (3, .cells [.func (.func 47) #[] #[pp 4 0]] 0 94 0) :: qha18 a b y0 y1 z0 z1 [])) (c' := 8) [0, 1, 2, 3, 4, 5, 6, 9] (by decide) rfl ⟨rfl, rfl, rfl, rfl, trivial⟩ ⟨⟨_, _, rfl, rfl, .inl ⟨rfl, rwI⟩⟩, ⟨_, _, rfl, rfl, .inl ⟨rfl, trivial⟩⟩, ⟨_, _, rfl, rfl, .inr ⟨_, _, _, _, rfl, rfl⟩⟩, ⟨_, _, rfl, rfl, .inl ⟨rfl, rwI⟩⟩, ⟨_, _, rfl, rfl, .inr ⟨_, _, _, _, rfl, rfl⟩⟩, ⟨_, _, rfl, rfl, .inr ⟨_, _, _, _, rfl, rfl⟩⟩, ⟨_, _, rfl, rfl, .inl ⟨rfl, rwI⟩⟩, ⟨_, _, rfl, rfl, .inl ⟨rfl, rwI⟩⟩, trivial⟩ rfl ?_
      refine XL.conv (f19_4_ok m fuel z0 y0 a z1 y1 b o2 x7_4 (w64 (x8_4 + 1)) (putM mh6_4 r15 ((mh6_4.length : Nat) : Int)) (lh7_4 ++ [((mh6_4.length : Nat) : Int)]) o h Q hQ) (by first | with_reducible rfl | simp | rfl)
    | false =>
     have h := cF b3 h
     refine iF (.tmp 25) ?_
     refine kQ ?_
     show XQ _ _ _ _ _ _ _ _
     refine rQ ?_
     refine rT 7 [(37, pp 5 0), (41, s0 7 lh7_4.length), (43, s0 8 1)] ((8, .cells [ii (getM 0 mh6_4 r15)] 0 3 1) :: (7, rI lh7_4) :: (6, .imap (imC (Value.int .i64) mh6_4)) :: (5, .cells [.map (some 6), s0 7 lh7_4.length] 0 114 0) :: (4, rc (encI .i64) o2 0 96 0) :: (3, .cells [.func (.func 47) #[] #[pp 4 0]] 0 94 0) :: qha18 a b y0 y1 z0 z1 []) 9 ?_
     cases b5 : (fitsB (lh7_4.length + 1) 8 : Bool) with
     | false => cases (cF b5 h)
     | true =>
      have h := cT b5 h
      refine XR.ef E0_ok [37, 44] rfl (e_append (encI_ok .i64) (bytes := 8) (e := 3) (x := (src 47 (.tmp 41))) (y := (src 47 (.tmp 43))) (b := 7) (len := lh7_4.length) (cap := lh7_4.length) (xs := lh7_4) (m := 0) (ys := [getM 0 mh6_4 r15]) (d := (some (path 12 44))) (n' := (lh7_4 ++ [getM 0 mh6_4 r15]).length) (h' := ((9, rI (lh7_4 ++ [getM 0 mh6_4 r15])) :: (8, .cells [ii (getM 0 mh6_4 r15)] 0 3 1) :: (6, .imap (imC (Value.int .i64) mh6_4)) :: (5, .cells [.map (some 6), s0 7 lh7_4.length] 0 114 0) :: (4, rc (encI .i64) o2 0 96 0) :: (3, .cells [.func (.func 47) #[] #[pp 4 0]] 0 94 0) :: qha18 a b y0 y1 z0 z1 [])) (by kernel_rfl) (by kernel_rfl) (by kernel_rfl) (by kernel_rfl) rfl (by simp) (by simp) b5 (by simp) (by kernel_rfl)) (σ' := [(37, pp 5 0), (44, s0 9 ((lh7_4 ++ [getM 0 mh6_4 r15]).length))]) (by kernel_rfl) ?_
      refine rT 3 [] ((9, rI (lh7_4 ++ [getM 0 mh6_4 r15])) :: (8, .cells [ii (getM 0 mh6_4 r15)] 0 3 1) :: (6, .imap (imC (Value.int .i64) mh6_4)) :: (5, .cells [.map (some 6), s0 9 ((lh7_4 ++ [getM 0 mh6_4 r15]).length)] 0 114 0) :: (4, rc (encI .i64) o2 0 96 0) :: (3, .cells [.func (.func 47) #[] #[pp 4 0]] 0 94 0) :: qha18 a b y0 y1 z0 z1 []) 10 ?_
      refine dQ ?_
      refine ⟨fun i q => (by cases q), .tuple #[], (by kernel_rfl), ?_⟩
      refine XR.conv (σ' := [(1, .func (.func 48) #[] #[pp 3 0, pp 2 0]), (5, pp 5 0), (7, ii x7_4), (8, ii x8_4)]) (h' := ((9, rI (lh7_4 ++ [getM 0 mh6_4 r15])) :: (8, .cells [ii (getM 0 mh6_4 r15)] 0 3 1) :: (6, .imap (imC (Value.int .i64) mh6_4)) :: (5, .cells [.map (some 6), s0 9 ((lh7_4 ++ [getM 0 mh6_4 r15]).length)] 0 114 0) :: (4, rc (encI .i64) o2 0 96 0) :: (3, .cells [.func (.func 47) #[] #[pp 4 0]] 0 94 0) :: qha18 a b y0 y1 z0 z1 [])) (c' := 10) ?_ (by kernel_rfl)
      refine dQ ?_
      show XQ _ _ _ _ _ _ _ _
      refine rQ ?_
      refine rS 2 [(1, .func (.func 48) #[] #[pp 3 0, pp 2 0]), (5, pp 5 0), (7, ii x7_4), (8, ii (w64 (x8_4 + 1)))] ?_
      refine dQ ?_
      show XL _ _ _ _ _ _ _ _ _
      refine XL.ren (σ' := [(1, .func (.func 48) #[] #[pp 3 0, pp 2 0]), (5, pp 5 0), (7, ii x7_4), (8, ii (w64 (x8_4 + 1)))]) (h' := ((7, rI (lh7_4 ++ [getM 0 mh6_4 r15])) :: (6, .imap (imC (Value.int .i64) mh6_4)) :: (5, .cells [.map (some 6), s0 7 ((lh7_4 ++ [getM 0 mh6_4 r15]).length)] 0 114 0) :: (4, rc (encI .i64) o2 0 96 0) :: (3, .cells [.func (.func 47) #[] #[pp 4 0]] 0 94 0) :: qha18 a b y0 y1 z0 z1 [])) (c' := 8) [0, 1, 2, 3, 4, 5, 6, 9] (by decide) rfl ⟨rfl, rfl, rfl, rfl, trivial⟩ ⟨⟨_, _, rfl, rfl, .inl ⟨rfl, rwI⟩⟩, ⟨_, _, rfl, rfl, .inl ⟨rfl, trivial⟩⟩, ⟨_, _, rfl, rfl, .inr ⟨_, _, _, _, rfl, rfl⟩⟩, ⟨_, _, rfl, rfl, .inl ⟨rfl, rwI⟩⟩, ⟨_, _, rfl, rfl, .inr ⟨_, _, _, _, rfl, rfl⟩⟩, ⟨_, _, rfl, rfl, .inr ⟨_, _, _, _, rfl, rfl⟩⟩, ⟨_, _, rfl, rfl, .inl ⟨rfl, rwI⟩⟩, ⟨_, _, rfl, rfl, .inl ⟨rfl, rwI⟩⟩, trivial⟩ rfl ?_
      refine XL.conv (f19_4_ok m fuel z0 y0 a z1 y1 b o2 x7_4 (w64 (x8_4 + 1)) mh6_4 (lh7_4 ++ [getM 0 mh6_4 r15]) o h Q hQ) (by first | with_reducible rfl | simp | rfl)
  | false =>
   have h := cF b1 h
   refine iF (.tmp 9) ?_
   refine XQ.ren (σ' := [(5, pp 5 0)]) (h' := ((7, rI lh7_4) :: (6, .imap (imC (Value.int .i64) mh6_4)) :: (5, .cells [.map (some 6), s0 7 lh7_4.length] 0 114 0) :: (4, rc (encI .i64) o2 0 96 0) :: (3, .cells [.func (.func 47) #[] #[pp 4 0]] 0 94 0) :: qha18 a b y0 y1 z0 z1 [])) (c' := 8) [0, 1, 2, 3, 4, 5, 6, 7] (by decide) rfl ⟨rfl, trivial⟩ ⟨⟨_, _, rfl, rfl, .inl ⟨rfl, rwI⟩⟩, ⟨_, _, rfl, rfl, .inl ⟨rfl, trivial⟩⟩, ⟨_, _, rfl, rfl, .inr ⟨_, _, _, _, rfl, rfl⟩⟩, ⟨_, _, rfl, rfl, .inl ⟨rfl, rwI⟩⟩, ⟨_, _, rfl, rfl, .inr ⟨_, _, _, _, rfl, rfl⟩⟩, ⟨_, _, rfl, rfl, .inr ⟨_, _, _, _, rfl, rfl⟩⟩, ⟨_, _, rfl, rfl, .inl ⟨rfl, rwI⟩⟩, ⟨_, _, rfl, rfl, .inl ⟨rfl, rwI⟩⟩, trivial⟩ rfl ?_
   refine XQ.exit (i := 0) (by kernel_rfl) ?_
   cases h
   exact hQ
def f19 (m : Nat) (a : List Int) (b : List Int) : Option ((List Int) × Int) :=
 (f46 m a b).bind fun r1 =>
  cond (r1 != 0) (
   some ([], r1)
  ) (
   (f19_1 m m a b 0 [0, 0, 0, 0, 0, 0, 0, 0, 0, 0, 0, 0, 0, 0, 0, 0, 0, 0]).bind fun o1 =>
    (f19_2 m m a b ((a.length : Nat) : Int) 0 o1).bind fun o2 =>
     cond (decide ((0 : Int) < ((a.length : Nat) : Int))) (
      cond (inRow 0 a.length) (
       (f47 m (List.getD a 0 0) o2).bind fun r9 =>
        cond (!(hasM ([] : List (Int × Int)) r9)) (
         (f19_3 m m a b o2 ((a.length : Nat) : Int) 1 (putM [] r9 ((0 : Nat) : Int)) [((0 : Nat) : Int)]).bind fun o3 =>
          some (o3.2, 0)
        ) (
         (f19_4 m m a b o2 ((a.length : Nat) : Int) 1 [] [getM 0 ([] : List (Int × Int)) r9]).bind fun o4 =>
          some (o4.2, 0)
        )
      ) none
     ) (
      some ([], 0)
     )
  )
set_option maxHeartbeats 8000000 in
abbrev qha19 (a : List Int) (b : List Int) (y0 : Nat) (y1 : Nat) (z0 : Nat) (z1 : Nat) (t : Heap) : Heap := (2, .cells [s0 0 a.length] 0 23 0) :: (1, rc (encI .i64) b z1 y1 1) :: (0, rc (encI .i64) a z0 y0 1) :: t
abbrev qha20 (a : List Int) (t : St) : St := (5, pp 5 0) :: (7, ii ((a.length : Nat) : Int)) :: t
theorem f19_ok (m : Nat) (z0 : Nat) (y0 : Nat) (z1 : Nat) (y1 : Nat) (a : List Int) (b : List Int) (o : (List Int) × Int) (h : f19 m a b = some o) : KC E0 19 [s0 0 a.length, s0 1 b.length] [(1, rc (encI .i64) b z1 y1 1), (0, rc (encI .i64) a z0 y0 1)] 2 (fun v h' c' => v = .tuple #[s0 2 o.1.length, ii o.2] ∧ h' = [(2, rI o.1)] ++ [(1, rc (encI .i64) b z1 y1 1), (0, rc (encI .i64) a z0 y0 1)] ∧ c' = 3) := by
 refine KC.bodyN E0_ok (F := Proofs.Tryz.f19) (by kernel_rfl) (code := f19_C19) (by kernel_rfl) (nt := 49) (by kernel_rfl) (rs := [.tmp 4, .tmp 5]) (by kernel_rfl) (by kernel_rfl) (σ := [(0, s0 0 a.length), (1, s0 1 b.length)]) (by kernel_rfl) ?_
 unfold f19 at h
 refine qQ ?_
 refine rT 3 [(1, s0 1 b.length), (2, pp 2 0)] (qha19 a b y0 y1 z0 z1 []) 3 ?_
 refine dQ ?_
 show XQ _ _ _ _ _ _ _ _
 refine sQ ?_
 refine qQ ?_
 refine rS 2 [(1, s0 1 b.length), (2, pp 2 0), (11, s0 0 a.length), (12, s0 1 b.length)] ?_
 obtain ⟨r1, r1_h, h⟩ := bS h
 refine XR.call E0_ok [1, 2, 13] rfl (K := 46) (args := [s0 0 a.length, s0 1 b.length]) (d := (some (path 12 13))) (by kernel_rfl) (KQ.call (KC.quiet E0_ok (args0 := [s0 0 a.length, s0 1 b.length]) (h0 := [(1, rc (encI .i64) b (z1 + ((rowC (encI .i64) b).length + 1)) y1 1), (0, rc (encI .i64) a (z0 + ((rowC (encI .i64) a).length + 1)) y0 1)]) (n := 2) (V := ii r1) [0, 1] (f46_ok m (z0 + ((rowC (encI .i64) a).length + 1)) y0 (z1 + ((rowC (encI .i64) b).length + 1)) y1 a b r1 r1_h) rfl (by rfl) (by decide) rfl (by kernel_rfl) ⟨⟨_, _, rfl, rfl, .inl ⟨rfl, rwI⟩⟩, ⟨_, _, rfl, rfl, .inl ⟨rfl, rwI⟩⟩, trivial⟩) rfl) ?_
 rintro _ _ _ ⟨rfl, rfl, rfl⟩
 refine XR.conv (σ' := [(1, s0 1 b.length), (2, pp 2 0), (13, ii r1)]) (h' := (qha19 a b y0 y1 z0 z1 [])) (c' := 3) ?_ (by kernel_rfl)
 refine rS 1 [(1, s0 1 b.length), (2, pp 2 0), (6, ii r1)] ?_
 refine nQ id ?_
 refine rS 2 [(1, s0 1 b.length), (2, pp 2 0), (6, ii r1), (15, .bool (r1 != 0))] ?_
 refine dQ ?_
 show XQ _ _ _ _ _ _ _ _
 cases b1 : (r1 != 0 : Bool) with
 | true =>
  have h := cT b1 h
  refine iT (.tmp 15) ?_
  refine qQ ?_
  refine rS 3 [(4, .slice none 0 0), (5, ii r1)] ?_
  refine dQ ?_
  show XQ _ _ _ _ _ _ _ _
  refine XQ.ghost 3 1 rfl (σ' := [(4, s0 3 0), (5, ii r1)]) (h' := (qha19 a b y0 y1 z0 z1 [])) ⟨rfl, rfl, trivial⟩ ⟨⟨_, rfl, .inl rfl⟩, ⟨_, rfl, .inl rfl⟩, ⟨_, rfl, .inl rfl⟩, trivial⟩ ?_
  refine XQ.conv (σ' := [(4, s0 3 0), (5, ii r1)]) (h' := ((3, rI []) :: qha19 a b y0 y1 z0 z1 [])) (c' := 4) ?_ (by kernel_rfl)
  refine XQ.ren (σ' := [(4, s0 2 0), (5, ii r1)]) (h' := [(2, rI []), (1, rc (encI .i64) b z1 y1 1), (0, rc (encI .i64) a z0 y0 1)]) (c' := 3) [0, 1, 3] (by decide) rfl ⟨rfl, rfl, trivial⟩ ⟨⟨_, _, rfl, rfl, .inl ⟨rfl, rwI⟩⟩, ⟨_, _, rfl, rfl, .inl ⟨rfl, rwI⟩⟩, ⟨_, _, rfl, rfl, .inl ⟨rfl, rwI⟩⟩, trivial⟩ rfl ?_
  refine XQ.ret (by kernel_rfl) ?_
  have h := Option.some.inj h
  subst h
  exact ⟨fun i q => (by cases q), .tuple #[s0 2 0, ii r1], (by kernel_rfl), (by kernel_rfl), (by kernel_rfl), rfl⟩
 | false =>
  have h := cF b1 h
  refine iF (.tmp 15) ?_
  refine kQ ?_
  show XQ _ _ _ _ _ _ _ _
  refine qQ ?_
  refine rT 1 [(1, s0 1 b.length), (2, pp 2 0), (7, pp 3 0)] ((3, .cells [ii 0, ii 0, ii 0, ii 0, ii 0, ii 0, ii 0, ii 0, ii 0, ii 0, ii 0, ii 0, ii 0, ii 0, ii 0, ii 0, ii 0, ii 0] 0 96 0) :: qha19 a b y0 y1 z0 z1 []) 4 ?_
  refine dQ ?_
  show XQ _ _ _ _ _ _ _ _
  refine sQ ?_
  refine qQ ?_
  refine rS 1 [(1, s0 1 b.length), (2, pp 2 0), (7, pp 3 0), (17, ii 0)] ?_
  refine dQ ?_
  show XQ _ _ _ _ _ _ _ _
  refine XQ.block (id := 0) (by kernel_rfl) ?_
  refine XQ.loop m (by kernel_rfl) ?_
  obtain ⟨o1, o1_h, h⟩ := bS h
  refine XL.ren (σ' := [(1, s0 1 b.length), (2, pp 2 0), (7, pp 3 0), (17, ii 0)]) (h' := ((3, .cells [ii 0, ii 0, ii 0, ii 0, ii 0, ii 0, ii 0, ii 0, ii 0, ii 0, ii 0, ii 0, ii 0, ii 0, ii 0, ii 0, ii 0, ii 0] 0 96 0) :: qha19 a b y0 y1 z0 z1 [])) (c' := 4) [0, 1, 2, 3] (by decide) rfl ⟨rfl, rfl, rfl, rfl, trivial⟩ ⟨⟨_, _, rfl, rfl, .inr ⟨_, _, _, _, rfl, rfl⟩⟩, ⟨_, _, rfl, rfl, .inr ⟨_, _, _, _, rfl, rfl⟩⟩, ⟨_, _, rfl, rfl, .inl ⟨rfl, rwI⟩⟩, ⟨_, _, rfl, rfl, .inl ⟨rfl, rwI⟩⟩, trivial⟩ rfl ?_
  refine XL.conv (σ' := [(1, s0 1 b.length), (2, pp 2 0), (7, pp 3 0), (17, ii 0)]) (h' := ((3, rc (encI .i64) [0, 0, 0, 0, 0, 0, 0, 0, 0, 0, 0, 0, 0, 0, 0, 0, 0, 0] 0 96 0) :: qha19 a b y0 y1 z0 z1 [])) (c' := 4) ?_ (by kernel_rfl)
  refine XL.conv (f19_1_ok m m z0 y0 a z1 y1 b 0 [0, 0, 0, 0, 0, 0, 0, 0, 0, 0, 0, 0, 0, 0, 0, 0, 0, 0] o1 o1_h _ ?_) (by first | with_reducible rfl | simp | rfl)
  show XQ _ _ _ _ _ _ _ _
  refine qQ ?_
  refine rT 3 [(1, s0 1 b.length), (2, pp 2 0), (7, pp 3 0), (9, pp 4 0)] ((4, .cells [.func (.func 47) #[] #[pp 3 0]] 0 94 0) :: (3, rc (encI .i64) o1 0 96 0) :: qha19 a b y0 y1 z0 z1 []) 5 ?_
  refine dQ ?_
  show XQ _ _ _ _ _ _ _ _
  refine sQ ?_
  refine qQ ?_
  refine rS 3 [(1, s0 1 b.length), (2, pp 2 0), (7, pp 3 0), (9, pp 4 0), (26, ii ((a.length : Nat) : Int)), (27, ii 0)] ?_
  refine dQ ?_
  show XQ _ _ _ _ _ _ _ _
  refine XQ.block (id := 2) (by kernel_rfl) ?_
  refine XQ.loop m (by kernel_rfl) ?_
  obtain ⟨o2, o2_h, h⟩ := bS h
  refine XL.ren (σ' := [(1, s0 1 b.length), (2, pp 2 0), (7, pp 3 0), (9, pp 4 0), (26, ii ((a.length : Nat) : Int)), (27, ii 0)]) (h' := ((4, .cells [.func (.func 47) #[] #[pp 3 0]] 0 94 0) :: (3, rc (encI .i64) o1 0 96 0) :: qha19 a b y0 y1 z0 z1 [])) (c' := 5) [0, 1, 2, 3, 4] (by decide) rfl ⟨rfl, rfl, rfl, rfl, rfl, rfl, trivial⟩ ⟨⟨_, _, rfl, rfl, .inr ⟨_, _, _, _, rfl, rfl⟩⟩, ⟨_, _, rfl, rfl, .inl ⟨rfl, rwI⟩⟩, ⟨_, _, rfl, rfl, .inr ⟨_, _, _, _, rfl, rfl⟩⟩, ⟨_, _, rfl, rfl, .inl ⟨rfl, rwI⟩⟩, ⟨_, _, rfl, rfl, .inl ⟨rfl, rwI⟩⟩, trivial⟩ rfl ?_
  refine XL.conv (f19_2_ok m m z0 y0 a z1 y1 b ((a.length : Nat) : Int) 0 o1 o2 o2_h _ ?_) (by first | with_reducible rfl | simp | rfl)
  show XQ _ _ _ _ _ _ _ _
  refine qQ ?_
  refine rS 3 [(46, ii ((a.length : Nat) : Int)), (47, .func (.func 48) #[] #[pp 3 0, pp 2 0])] ?_
  refine XR.callK E0_ok [48] rfl (K := 44) (args := [ii ((a.length : Nat) : Int), .func (.func 48) #[] #[pp 3 0, pp 2 0]]) (d := (some (path 12 48))) (by kernel_rfl) ?_
  refine KC.bodyN E0_ok (F := Proofs.Tryz.f44) (by kernel_rfl) (code := f19_C44) (by kernel_rfl) (nt := 18) (by kernel_rfl) (rs := [.tmp 4]) (by kernel_rfl) (by kernel_rfl) (σ := [(0, ii ((a.length : Nat) : Int)), (1, .func (.func 48) #[] #[pp 3 0, pp 2 0])]) (by kernel_rfl) ?_
  refine qQ ?_
  refine rS 1 [(0, ii ((a.length : Nat) : Int)), (1, .func (.func 48) #[] #[pp 3 0, pp 2 0])] ?_
  refine nQ id ?_
  refine rT 1 [(0, ii ((a.length : Nat) : Int)), (1, .func (.func 48) #[] #[pp 3 0, pp 2 0]), (5, pp 5 0)] ((5, .cells [.map none, .slice none 0 0] 0 114 0) :: (4, rc (encI .i64) o2 0 96 0) :: (3, .cells [.func (.func 47) #[] #[pp 4 0]] 0 94 0) :: qha19 a b y0 y1 z0 z1 []) 6 ?_
  refine dQ ?_
  show XQ _ _ _ _ _ _ _ _
  refine XQ.ghost 3 1 rfl (σ' := [(0, ii ((a.length : Nat) : Int)), (1, .func (.func 48) #[] #[pp 3 0, pp 2 0]), (5, pp 5 0)]) (h' := ((5, .cells [.map none, s0 6 0] 0 114 0) :: (4, rc (encI .i64) o2 0 96 0) :: (3, .cells [.func (.func 47) #[] #[pp 4 0]] 0 94 0) :: qha19 a b y0 y1 z0 z1 [])) ⟨rfl, rfl, rfl, trivial⟩ ⟨⟨_, rfl, .inr ⟨_, _, _, _, rfl, rfl⟩⟩, ⟨_, rfl, .inl rfl⟩, ⟨_, rfl, .inl rfl⟩, ⟨_, rfl, .inl rfl⟩, ⟨_, rfl, .inl rfl⟩, ⟨_, rfl, .inl rfl⟩, trivial⟩ ?_
  refine XQ.conv (σ' := [(0, ii ((a.length : Nat) : Int)), (1, .func (.func 48) #[] #[pp 3 0, pp 2 0]), (5, pp 5 0)]) (h' := ((6, rI []) :: (5, .cells [.map none, s0 6 0] 0 114 0) :: (4, rc (encI .i64) o2 0 96 0) :: (3, .cells [.func (.func 47) #[] #[pp 4 0]] 0 94 0) :: qha19 a b y0 y1 z0 z1 [])) (c' := 7) ?_ (by kernel_rfl)
  refine sQ ?_
  refine qQ ?_
  refine rS 2 ((1, .func (.func 48) #[] #[pp 3 0, pp 2 0]) :: qha20 a [(8, ii 0)]) ?_
  refine dQ ?_
  show XQ _ _ _ _ _ _ _ _
  refine XQ.block (id := 0) (by kernel_rfl) ?_
  refine XQ.loop (m + 1) (by kernel_rfl) ?_
  refine XL.succ E0_ok ?_
  refine qQ ?_
  refine rS 1 ((1, .func (.func 48) #[] #[pp 3 0, pp 2 0]) :: qha20 a [(8, ii 0), (9, .bool (decide ((0 : Int) < ((a.length : Nat) : Int))))]) ?_
  refine dQ ?_
  show XQ _ _ _ _ _ _ _ _
  refine sQ ?_
  cases b4 : (decide ((0 : Int) < ((a.length : Nat) : Int)) : Bool) with
  | true =>
   have h := cT b4 h
   refine iT (.tmp 9) ?_
   refine kQ ?_
   show XQ _ _ _ _ _ _ _ _
   refine sQ ?_
   refine XQ.block (id := 1) (by kernel_rfl) ?_
   refine qQ ?_
   refine rS 2 [(1, .func (.func 48) #[] #[pp 3 0, pp 2 0]), (5, pp 5 0), (6, ii 0), (7, ii ((a.length : Nat) : Int)), (8, ii 0)] ?_
   refine dQ ?_
   show XQ _ _ _ _ _ _ _ _
   refine rQ ?_
   refine rS 2 ((1, .func (.func 48) #[] #[pp 3 0, pp 2 0]) :: qha20 a [(8, ii 0), (11, .func (.func 48) #[] #[pp 3 0, pp 2 0]), (12, ii 0)]) ?_
   refine XR.callK E0_ok [1, 5, 7, 8, 13] rfl (K := 48) (args := [ii 0, pp 3 0, pp 2 0]) (d := (some (path 12 13))) (by kernel_rfl) ?_
   refine KC.bodyN E0_ok (F := Proofs.Tryz.f48) (by kernel_rfl) (code := f19_C48) (by kernel_rfl) (nt := 11) (by kernel_rfl) (rs := [.tmp 4]) (by kernel_rfl) (by kernel_rfl) (σ := [(0, ii 0), (1, pp 3 0), (2, pp 2 0)]) (by kernel_rfl) ?_
   refine qQ ?_
   refine rS 1 [(0, ii 0), (1, pp 3 0), (2, pp 2 0)] ?_
   refine dQ ?_
   show XQ _ _ _ _ _ _ _ _
   refine sQ ?_
   refine XQ.quiet E0_ok (by kernel_rfl) (by kernel_rfl) ?_
   refine XU.run E0_ok 1 3 [5, 6, 7] rfl (σ' := [(5, .func (.func 47) #[] #[pp 4 0]), (6, s0 0 a.length), (7, ii 0)]) (by kernel_rfl) ?_
   cases b5 : (inRow 0 a.length : Bool) with
   | false => cases (cF b5 h)
   | true =>
    have h := cT b5 h
    refine XU.rd E0_ok [5, 8] rfl (v := pp 0 (0 * 1)) (v_idx (s := 1) (x := (src 11 (.tmp 6))) (y := (src 11 (.tmp 7))) (b := 0) (o := 0) (len := a.length) (cap := a.length) (ik := .i64) (i := 0) (off := 0 * 1) (d := (some (path 12 8))) (by kernel_rfl) (by kernel_rfl) (by kernel_rfl) b5 (by omega)) (σ' := [(5, .func (.func 47) #[] #[pp 4 0]), (8, pp 0 (0 * 1))]) (by kernel_rfl) ?_
    refine XU.rd E0_ok [5, 9] rfl (v := ii (List.getD a 0 0)) (v_load1 (encI_ok .i64) (x := (src 11 (.tmp 8))) (b := 0) (off := 0 * 1) (xs := a) (fz := z0) (e := y0) (es := 1) (d := (some (path 12 9))) (by kernel_rfl) (by kernel_rfl) (by kernel_rfl) 0 0 0 (by first | with_reducible rfl | omega | rfl) (row_len (inRow_toNat b5) (by simp)) rfl rfl) (σ' := [(5, .func (.func 47) #[] #[pp 4 0]), (9, ii (List.getD a 0 0))]) (by kernel_rfl) ?_
    obtain ⟨r9, r9_h, h⟩ := bS h
    refine XU.callH E0_ok [10] rfl (K := 47) (args := [ii (List.getD a 0 0), pp 4 0]) (d := (some (path 12 10))) (V := ii r9) (by kernel_rfl) rfl (KC.quiet E0_ok (args0 := [ii (List.getD a 0 0), pp 0 0]) (h0 := [(0, rc (encI .i64) o2 (0 + ((rowC (encI .i64) o2).length + 1)) 96 0)]) (n := 1) (V := ii r9) [4] (f47_ok m (0 + ((rowC (encI .i64) o2).length + 1)) (List.getD a 0 0) o2 r9 r9_h) rfl (by rfl) (by decide) rfl (by kernel_rfl) ⟨⟨_, _, rfl, rfl, .inl ⟨rfl, rwI⟩⟩, trivial⟩) (σ' := [(10, ii r9)]) (by kernel_rfl) ?_
    refine XU.run E0_ok 1 1 [4] rfl (σ' := [(4, ii r9)]) (by kernel_rfl) ?_
    refine XU.done (by kernel_rfl) ?_
    show XQ _ _ _ _ _ _ _ _
    refine XQ.ret (by kernel_rfl) ?_
    refine ⟨fun i q => (by cases q), ii r9, (by kernel_rfl), ?_⟩
    refine XR.conv (σ' := ((1, .func (.func 48) #[] #[pp 3 0, pp 2 0]) :: qha20 a [(8, ii 0), (13, ii r9)])) (h' := ((6, rI []) :: (5, .cells [.map none, s0 6 0] 0 114 0) :: (4, rc (encI .i64) o2 0 96 0) :: (3, .cells [.func (.func 47) #[] #[pp 4 0]] 0 94 0) :: qha19 a b y0 y1 z0 z1 [])) (c' := 7) ?_ (by kernel_rfl)
    refine XR.callK E0_ok [1, 5, 7, 8] rfl (K := 65) (args := [pp 5 0, ii r9]) (d := (some (path 12 14))) (by kernel_rfl) ?_
    refine KC.bodyN E0_ok (F := Proofs.Tryz.f65) (by kernel_rfl) (code := f19_C65) (by kernel_rfl) (nt := 47) (by kernel_rfl) (rs := []) (by kernel_rfl) (by kernel_rfl) (σ := [(0, pp 5 0), (1, ii r9)]) (by kernel_rfl) ?_
    refine sQ ?_
    refine qQ ?_
    refine rS 5 [(0, pp 5 0), (1, ii r9), (10, .bool true)] ?_
    refine dQ ?_
    show XQ _ _ _ _ _ _ _ _
    refine iT (.tmp 10) ?_
    refine rQ ?_
    refine rT 5 [(0, pp 5 0), (1, ii r9)] ((7, .imap (imC (Value.int .i64) [])) :: (6, rI []) :: (5, .cells [.map (some 7), s0 6 0] 0 114 0) :: (4, rc (encI .i64) o2 0 96 0) :: (3, .cells [.func (.func 47) #[] #[pp 4 0]] 0 94 0) :: qha19 a b y0 y1 z0 z1 []) 8 ?_
    refine nQ id ?_
    refine rS 5 [(0, pp 5 0), (1, ii r9), (19, .map (some 7)), (20, ii r9)] ?_
    refine XR.rd E0_ok [0, 1, 21] rfl (v := .tuple #[ii (getM 0 ([] : List (Int × Int)) r9), .bool (hasM ([] : List (Int × Int)) r9)]) (v_mgeto (Value.int .i64) (x := (src 47 (.tmp 19))) (i := (src 47 (.tmp 20))) (z := .int .i64 0) (d := (some (path 12 21))) (b := 7) (k := r9) (l := ([] : List (Int × Int))) (d0 := 0) (by kernel_rfl) (by kernel_rfl) (by kernel_rfl) (by kernel_rfl) rfl rfl rfl) (σ' := [(0, pp 5 0), (1, ii r9), (21, .tuple #[ii (getM 0 ([] : List (Int × Int)) r9), .bool (hasM ([] : List (Int × Int)) r9)])]) (by kernel_rfl) ?_
    refine rS 5 [(0, pp 5 0), (1, ii r9), (4, ii (getM 0 ([] : List (Int × Int)) r9)), (5, .bool (hasM ([] : List (Int × Int)) r9))] ?_
    refine dQ ?_
    show XQ _ _ _ _ _ _ _ _
    refine sQ ?_
    refine qQ ?_
    refine rS 2 [(0, pp 5 0), (1, ii r9), (4, ii (getM 0 ([] : List (Int × Int)) r9)), (25, .bool (!(hasM ([] : List (Int × Int)) r9)))] ?_
    refine dQ ?_
    show XQ _ _ _ _ _ _ _ _
    cases b6 : (!(hasM ([] : List (Int × Int)) r9) : Bool) with
    | true =>
     have h := cT b6 h
     refine iT (.tmp 25) ?_
     refine qQ ?_
     refine rS 4 [(0, pp 5 0), (1, ii r9), (29, .map (some 7))] ?_
     refine XR.rd E0_ok [0, 1, 30] rfl (v := ii ((0 : Nat) : Int)) (v_mlen (x := (src 47 (.tmp 29))) (d := (some (path 12 30))) (b := 7) (es := imC (Value.int .i64) ([] : List (Int × Int))) (n := 0) (by kernel_rfl) (by kernel_rfl) (by kernel_rfl) rfl) (σ' := [(0, pp 5 0), (1, ii r9), (30, ii ((0 : Nat) : Int))]) (by kernel_rfl) ?_
     refine rS 1 [(0, pp 5 0), (1, ii r9), (4, ii ((0 : Nat) : Int))] ?_
     refine dQ ?_
     show XQ _ _ _ _ _ _ _ _
     refine rQ ?_
     refine rS 6 [(0, pp 5 0), (4, ii ((0 : Nat) : Int)), (34, .map (some 7)), (35, ii r9), (36, ii ((0 : Nat) : Int))] ?_
     refine XR.ef E0_ok [0, 4] rfl (e_mput (Value.int .i64) (m := (src 47 (.tmp 34))) (i := (src 47 (.tmp 35))) (x := (src 47 (.tmp 36))) (d := none) (b := 7) (k := r9) (l := []) (a := ((0 : Nat) : Int)) (h' := ((7, .imap (imC (Value.int .i64) (putM [] r9 ((0 : Nat) : Int)))) :: (6, rI []) :: (5, .cells [.map (some 7), s0 6 0] 0 114 0) :: (4, rc (encI .i64) o2 0 96 0) :: (3, .cells [.func (.func 47) #[] #[pp 4 0]] 0 94 0) :: qha19 a b y0 y1 z0 z1 [])) (by kernel_rfl) (by kernel_rfl) (by kernel_rfl) (by kernel_rfl) (by kernel_rfl) rfl rfl) (σ' := [(0, pp 5 0), (4, ii ((0 : Nat) : Int))]) (by kernel_rfl) ?_
     refine dQ ?_
     show XQ _ _ _ _ _ _ _ _
     refine rQ ?_
     refine rT 7 [(37, pp 5 0), (41, s0 6 0), (43, s0 8 1)] ((8, .cells [ii ((0 : Nat) : Int)] 0 3 1) :: (7, .imap (imC (Value.int .i64) (putM [] r9 ((0 : Nat) : Int)))) :: (6, rI []) :: (5, .cells [.map (some 7), s0 6 0] 0 114 0) :: (4, rc (encI .i64) o2 0 96 0) :: (3, .cells [.func (.func 47) #[] #[pp 4 0]] 0 94 0) :: qha19 a b y0 y1 z0 z1 []) 9 ?_
     refine XR.ef E0_ok [37, 44] rfl (e_append (encI_ok .i64) (bytes := 8) (e := 3) (x := (src 47 (.tmp 41))) (y := (src 47 (.tmp 43))) (b := 6) (len := 0) (cap := 0) (xs := []) (m := 0) (ys := [((0 : Nat) : Int)]) (d := (some (path 12 44))) (n' := 1) (h' := ((9, rI [((0 : Nat) : Int)]) :: (8, .cells [ii ((0 : Nat) : Int)] 0 3 1) :: (7, .imap (imC (Value.int .i64) (putM [] r9 ((0 : Nat) : Int)))) :: (5, .cells [.map (some 7), s0 6 0] 0 114 0) :: (4, rc (encI .i64) o2 0 96 0) :: (3, .cells [.func (.func 47) #[] #[pp 4 0]] 0 94 0) :: qha19 a b y0 y1 z0 z1 [])) (by kernel_rfl) (by kernel_rfl) (by kernel_rfl) (by kernel_rfl) rfl (by simp) (by simp) (show (fitsB (0 + 1) 8) = true by first | rfl | simp) (by simp) (by kernel_rfl)) (σ' := [(37, pp 5 0), (44, s0 9 1)]) (by kernel_rfl) ?_
     refine rT 3 [] ((9, rI [((0 : Nat) : Int)]) :: (8, .cells [ii ((0 : Nat) : Int)] 0 3 1) :: (7, .imap (imC (Value.int .i64) (putM [] r9 ((0 : Nat) : Int)))) :: (5, .cells [.map (some 7), s0 9 1] 0 114 0) :: (4, rc (encI .i64) o2 0 96 0) :: (3, .cells [.func (.func 47) #[] #[pp 4 0]] 0 94 0) :: qha19 a b y0 y1 z0 z1 []) 10 ?_
     refine dQ ?_
     refine ⟨fun i q => (by cases q), .tuple #[], (by kernel_rfl), ?_⟩
     refine XR.conv (σ' := ((1, .func (.func 48) #[] #[pp 3 0, pp 2 0]) :: qha20 a [(8, ii 0)])) (h' := ((9, rI [((0 : Nat) : Int)]) :: (8, .cells [ii ((0 : Nat) : Int)] 0 3 1) :: (7, .imap (imC (Value.int .i64) (putM [] r9 ((0 : Nat) : Int)))) :: (5, .cells [.map (some 7), s0 9 1] 0 114 0) :: (4, rc (encI .i64) o2 0 96 0) :: (3, .cells [.func (.func 47) #[] #[pp 4 0]] 0 94 0) :: qha19 a b y0 y1 z0 z1 [])) (c' := 10) ?_ (by kernel_rfl)
     refine dQ ?_
     show XQ _ _ _ _ _ _ _ _
     refine rQ ?_
     refine rS 2 ((1, .func (.func 48) #[] #[pp 3 0, pp 2 0]) :: qha20 a [(8, ii 1)]) ?_
     refine dQ ?_
     show XL _ _ _ _ _ _ _ _ _
     obtain ⟨o3, o3_h, h⟩ := bS h
     refine XL.ren (σ' := ((1, .func (.func 48) #[] #[pp 3 0, pp 2 0]) :: qha20 a [(8, ii 1)])) (h' := ((7, rI [((0 : Nat) : Int)]) :: (6, .imap (imC (Value.int .i64) (putM [] r9 ((0 : Nat) : Int)))) :: (5, .cells [.map (some 6), s0 7 1] 0 114 0) :: (4, rc (encI .i64) o2 0 96 0) :: (3, .cells [.func (.func 47) #[] #[pp 4 0]] 0 94 0) :: qha19 a b y0 y1 z0 z1 [])) (c' := 8) [0, 1, 2, 3, 4, 5, 7, 9] (by decide) rfl ⟨rfl, rfl, rfl, rfl, trivial⟩ ⟨⟨_, _, rfl, rfl, .inl ⟨rfl, rwI⟩⟩, ⟨_, _, rfl, rfl, .inl ⟨rfl, trivial⟩⟩, ⟨_, _, rfl, rfl, .inr ⟨_, _, _, _, rfl, rfl⟩⟩, ⟨_, _, rfl, rfl, .inl ⟨rfl, rwI⟩⟩, ⟨_, _, rfl, rfl, .inr ⟨_, _, _, _, rfl, rfl⟩⟩, ⟨_, _, rfl, rfl, .inr ⟨_, _, _, _, rfl, rfl⟩⟩, ⟨_, _, rfl, rfl, .inl ⟨rfl, rwI⟩⟩, ⟨_, _, rfl, rfl, .inl ⟨rfl, rwI⟩⟩, trivial⟩ rfl ?_
     refine XL.conv (f19_3_ok m m z0 y0 a z1 y1 b o2 ((a.length : Nat) : Int) 1 (putM [] r9 ((0 : Nat) : Int)) [((0 : Nat) : Int)] o3 o3_h _ ?_) (by first | with_reducible rfl | simp | rfl)
     show XQ _ _ _ _ _ _ _ _
     refine qQ ?_
     refine rS 3 [(4, s0 7 o3.2.length)] ?_
     refine dQ ?_
     show XQ _ _ _ _ _ _ _ _
     refine XQ.ret (by kernel_rfl) ?_
     refine ⟨fun i q => (by cases q), s0 7 o3.2.length, (by kernel_rfl), ?_⟩
     refine XR.conv (σ' := [(48, s0 7 o3.2.length)]) (h' := ((7, rI o3.2) :: (6, .imap (imC (Value.int .i64) o3.1)) :: (5, .cells [.map (some 6), s0 7 o3.2.length] 0 114 0) :: (4, rc (encI .i64) o2 0 96 0) :: (3, .cells [.func (.func 47) #[] #[pp 4 0]] 0 94 0) :: qha19 a b y0 y1 z0 z1 [])) (c' := 8) ?_ (by kernel_rfl)
     refine rS 2 [(4, s0 7 o3.2.length), (5, ii 0)] ?_
     refine dQ ?_
     show XQ _ _ _ _ _ _ _ _
     refine XQ.ren (σ' := [(4, s0 2 o3.2.length), (5, ii 0)]) (h' := [(2, rI o3.2), (1, rc (encI .i64) b z1 y1 1), (0, rc (encI .i64) a z0 y0 1)]) (c' := 3) [0, 1, 7] (by decide) rfl ⟨rfl, rfl, trivial⟩ ⟨⟨_, _, rfl, rfl, .inl ⟨rfl, rwI⟩⟩, ⟨_, _, rfl, rfl, .inl ⟨rfl, rwI⟩⟩, ⟨_, _, rfl, rfl, .inl ⟨rfl, rwI⟩⟩, trivial⟩ rfl ?_
     refine XQ.ret (by kernel_rfl) ?_
     have h := Option.some.inj h
     subst h
     exact ⟨fun i q => (by cases q), .tuple #[s0 2 o3.2.length, ii 0], (by kernel_rfl), (by kernel_rfl), (by kernel_rfl), rfl⟩
    | false =>
     have h := cF b6 h
     refine iF (.tmp 25) ?_
     refine kQ ?_
     show XQ _ _ _ _ _ _ _ _
     refine rQ ?_
     refine rT 7 [(37, pp 5 0), (41, s0 6 0), (43, s0 8 1)] ((8, .cells [ii (getM 0 ([] : List (Int × Int)) r9)] 0 3 1) :: (7, .imap (imC (Value.int .i64) [])) :: (6, rI []) :: (5, .cells [.map (some 7), s0 6 0] 0 114 0) :: (4, rc (encI .i64) o2 0 96 0) :: (3, .cells [.func (.func 47) #[] #[pp 4 0]] 0 94 0) :: qha19 a b y0 y1 z0 z1 []) 9 ?_
     refine XR.ef E0_ok [37, 44] rfl (e_append (encI_ok .i64) (bytes := 8) (e := 3) (x := (src 47 (.tmp 41))) (y := (src 47 (.tmp 43))) (b := 6) (len := 0) (cap := 0) (xs := []) (m := 0) (ys := [getM 0 ([] : List (Int × Int)) r9]) (d := (some (path 12 44))) (n' := 1) (h' := ((9, rI [getM 0 ([] : List (Int × Int)) r9]) :: (8, .cells [ii (getM 0 ([] : List (Int × Int)) r9)] 0 3 1) :: (7, .imap (imC (Value.int .i64) [])) :: (5, .cells [.map (some 7), s0 6 0] 0 114 0) :: (4, rc (encI .i64) o2 0 96 0) :: (3, .cells [.func (.func 47) #[] #[pp 4 0]] 0 94 0) :: qha19 a b y0 y1 z0 z1 [])) (by kernel_rfl) (by kernel_rfl) (by kernel_rfl) (by kernel_rfl) rfl (by simp) (by simp) (show (fitsB (0 + 1) 8) = true by first | rfl | simp) (by simp) (by kernel_rfl)) (σ' := [(37, pp 5 0), (44, s0 9 1)]) (by kernel_rfl) ?_
     refine rT 3 [] ((9, rI [getM 0 ([] : List (Int × Int)) r9]) :: (8, .cells [ii (getM 0 ([] : List (Int × Int)) r9)] 0 3 1) :: (7, .imap (imC (Value.int .i64) [])) :: (5, .cells [.map (some 7), s0 9 1] 0 114 0) :: (4, rc (encI .i64) o2 0 96 0) :: (3, .cells [.func (.func 47) #[] #[pp 4 0]] 0 94 0) :: qha19 a b y0 y1 z0 z1 []) 10 ?_
     refine dQ ?_
     refine ⟨fun i q => (by cases q), .tuple #[], (by kernel_rfl), ?_⟩
     refine XR.conv (σ' := ((1, .func (.func 48) #[] #[pp 3 0, pp 2 0]) :: qha20 a [(8, ii 0)])) (h' := ((9, rI [getM 0 ([] : List (Int × Int)) r9]) :: (8, .cells [ii (getM 0 ([] : List (Int × Int)) r9)] 0 3 1) :: (7, .imap (imC (Value.int .i64) [])) :: (5, .cells [.map (some 7), s0 9 1] 0 114 0) :: (4, rc (encI .i64) o2 0 96 0) :: (3, .cells [.func (.func 47) #[] #[pp 4 0]] 0 94 0) :: qha19 a b y0 y1 z0 z1 [])) (c' := 10) ?_ (by kernel_rfl)
     refine dQ ?_
     show XQ _ _ _ _ _ _ _ _
     refine rQ ?_
     refine rS 2 ((1, .func (.func 48) #[] #[pp 3 0, pp 2 0]) :: qha20 a [(8, ii 1)]) ?_
     refine dQ ?_
     show XL _ _ _ _ _ _ _ _ _
     obtain ⟨o4, o4_h, h⟩ := bS h
     refine XL.ren (σ' := ((1, .func (.func 48) #[] #[pp 3 0, pp 2 0]) :: qha20 a [(8, ii 1)])) (h' := ((7, rI [getM 0 ([] : List (Int × Int)) r9]) :: (6, .imap (imC (Value.int .i64) [])) :: (5, .cells [.map (some 6), s0 7 1] 0 114 0) :: (4, rc (encI .i64) o2 0 96 0) :: (3, .cells [.func (.func 47) #[] #[pp 4 0]] 0 94 0) :: qha19 a b y0 y1 z0 z1 [])) (c' := 8) [0, 1, 2, 3, 4, 5, 7, 9] (by decide) rfl ⟨rfl, rfl, rfl, rfl, trivial⟩ ⟨⟨_, _, rfl, rfl, .inl ⟨rfl, rwI⟩⟩, ⟨_, _, rfl, rfl, .inl ⟨rfl, trivial⟩⟩, ⟨_, _, rfl, rfl, .inr ⟨_, _, _, _, rfl, rfl⟩⟩, ⟨_, _, rfl, rfl, .inl ⟨rfl, rwI⟩⟩, ⟨_, _, rfl, rfl, .inr ⟨_, _, _, _, rfl, rfl⟩⟩, ⟨_, _, rfl, rfl, .inr ⟨_, _, _, _, rfl, rfl⟩⟩, ⟨_, _, rfl, rfl, .inl ⟨rfl, rwI⟩⟩, ⟨_, _, rfl, rfl, .inl ⟨rfl, rwI⟩⟩, trivial⟩ rfl ?_
     refine XL.conv (f19_4_ok m m z0 y0 a z1 y1 b o2 ((a.length : Nat) : Int) 1 [] [getM 0 ([] : List (Int × Int)) r9] o4 o4_h _ ?_) (by first | with_reducible rfl | simp | rfl)
     show XQ _ _ _ _ _ _ _ _
     refine qQ ?_
     refine rS 3 [(4, s0 7 o4.2.length)] ?_
     refine dQ ?_
     show XQ _ _ _ _ _ _ _ _
     refine XQ.ret (by kernel_rfl) ?_
     refine ⟨fun i q => (by cases q), s0 7 o4.2.length, (by kernel_rfl), ?_⟩
     refine XR.conv (σ' := [(48, s0 7 o4.2.length)]) (h' := ((7, rI o4.2) :: (6, .imap (imC (Value.int .i64) o4.1)) :: (5, .cells [.map (some 6), s0 7 o4.2.length] 0 114 0) :: (4, rc (encI .i64) o2 0 96 0) :: (3, .cells [.func (.func 47) #[] #[pp 4 0]] 0 94 0) :: qha19 a b y0 y1 z0 z1 [])) (c' := 8) ?_ (by kernel_rfl)
     refine rS 2 [(4, s0 7 o4.2.length), (5, ii 0)] ?_
     refine dQ ?_
     show XQ _ _ _ _ _ _ _ _
     refine XQ.ren (σ' := [(4, s0 2 o4.2.length), (5, ii 0)]) (h' := [(2, rI o4.2), (1, rc (encI .i64) b z1 y1 1), (0, rc (encI .i64) a z0 y0 1)]) (c' := 3) [0, 1, 7] (by decide) rfl ⟨rfl, rfl, trivial⟩ ⟨⟨_, _, rfl, rfl, .inl ⟨rfl, rwI⟩⟩, ⟨_, _, rfl, rfl, .inl ⟨rfl, rwI⟩⟩, ⟨_, _, rfl, rfl, .inl ⟨rfl, rwI⟩⟩, trivial⟩ rfl ?_
     refine XQ.ret (by kernel_rfl) ?_
     have h := Option.some.inj h
     subst h
     exact ⟨fun i q => (by cases q), .tuple #[s0 2 o4.2.length, ii 0], (by kernel_rfl), (by kernel_rfl), (by kernel_rfl), rfl⟩
  | false =>
   have h := cF b4 h
   refine iF (.tmp 9) ?_
   refine XQ.exit (i := 0) (by kernel_rfl) ?_
   show XQ _ _ _ _ _ _ _ _
   refine qQ ?_
   refine rS 3 [(4, s0 6 0)] ?_
   refine dQ ?_
   show XQ _ _ _ _ _ _ _ _
   refine XQ.ret (by kernel_rfl) ?_
   refine ⟨fun i q => (by cases q), s0 6 0, (by kernel_rfl), ?_⟩
   refine XR.conv (σ' := [(48, s0 6 0)]) (h' := ((6, rI []) :: (5, .cells [.map none, s0 6 0] 0 114 0) :: (4, rc (encI .i64) o2 0 96 0) :: (3, .cells [.func (.func 47) #[] #[pp 4 0]] 0 94 0) :: qha19 a b y0 y1 z0 z1 [])) (c' := 7) ?_ (by kernel_rfl)
   refine rS 2 [(4, s0 6 0), (5, ii 0)] ?_
   refine dQ ?_
   show XQ _ _ _ _ _ _ _ _
   refine XQ.ren (σ' := [(4, s0 2 0), (5, ii 0)]) (h' := [(2, rI []), (1, rc (encI .i64) b z1 y1 1), (0, rc (encI .i64) a z0 y0 1)]) (c' := 3) [0, 1, 6] (by decide) rfl ⟨rfl, rfl, trivial⟩ ⟨⟨_, _, rfl, rfl, .inl ⟨rfl, rwI⟩⟩, ⟨_, _, rfl, rfl, .inl ⟨rfl, rwI⟩⟩, ⟨_, _, rfl, rfl, .inl ⟨rfl, rwI⟩⟩, trivial⟩ rfl ?_
   refine XQ.ret (by kernel_rfl) ?_
   have h := Option.some.inj h
   subst h
   exact ⟨fun i q => (by cases q), .tuple #[s0 2 0, ii 0], (by kernel_rfl), (by kernel_rfl), (by kernel_rfl), rfl⟩
noncomputable def f50_C50 : Code := Proofs.Tryz.f50.body.getD .skip
noncomputable def f50_C66 : Code := Proofs.Tryz.f66.body.getD .skip
noncomputable def f50_C67 : Code := Proofs.Tryz.f67.body.getD .skip
noncomputable def f50_C88 : Code := Proofs.Tryz.f88.body.getD .skip
noncomputable def f50_L1 : Code := lft (lft (rgt (lft (rgt (rgt f50_C66)))))
def f50_1 (m : Nat) : Nat → List Int → List Int → Int → Int → List (List Int × Int) → List Int → Option ((List (List Int × Int)) × (List Int))
 | 0, _, _, _, _, _, _ => none
 | fuel + 1, a, b, x7_1, x8_1, mh5_1, lh6_1 =>
  cond (decide (x8_1 < x7_1)) (
   cond (inRow x8_1 a.length) (
    cond (inRow x8_1 b.length) (
     cond (Nat.beq [List.getD a (Int.toNat x8_1) 0, List.getD b (Int.toNat x8_1) 0].length 2 && lensA 2 mh5_1) (
      cond (!(hasA mh5_1 [List.getD a (Int.toNat x8_1) 0, List.getD b (Int.toNat x8_1) 0])) (
       cond (fitsB (lh6_1.length + 1) 8) (
        f50_1 m fuel a b x7_1 (w64 (x8_1 + 1)) (putA mh5_1 [List.getD a (Int.toNat x8_1) 0, List.getD b (Int.toNat x8_1) 0] ((mh5_1.length : Nat) : Int)) (lh6_1 ++ [((mh5_1.length : Nat) : Int)])
       ) none
      ) (
       cond (fitsB (lh6_1.length + 1) 8) (
        f50_1 m fuel a b x7_1 (w64 (x8_1 + 1)) mh5_1 (lh6_1 ++ [getA 0 mh5_1 [List.getD a (Int.toNat x8_1) 0, List.getD b (Int.toNat x8_1) 0]])
       ) none
      )
     ) none
    ) none
   ) none
  ) (
   some (mh5_1, lh6_1)
  )
abbrev qha21 (a : List Int) (b : List Int) (y0 : Nat) (y1 : Nat) (z0 : Nat) (z1 : Nat) (t : Heap) : Heap := (3, .cells [s0 1 b.length] 0 23 0) :: (2, .cells [s0 0 a.length] 0 23 0) :: (1, rc (encI .i64) b z1 y1 1) :: (0, rc (encI .i64) a z0 y0 1) :: t
theorem f50_1_ok (m : Nat) : ∀ (fuel : Nat) (z0 : Nat) (y0 : Nat) (a : List Int) (z1 : Nat) (y1 : Nat) (b : List Int) (x7_1 : Int) (x8_1 : Int) (mh5_1 : List (List Int × Int)) (lh6_1 : List Int) (o : ((List (List Int × Int)) × (List Int))), f50_1 m fuel a b x7_1 x8_1 mh5_1 lh6_1 = some o → ∀ Q : QP, Q (.exit 0) [(5, pp 4 0)] ((6, rI o.2) :: (5, iM o.1) :: (4, .cells [.map (some 5), s0 6 o.2.length] 0 144 0) :: qha21 a b y0 y1 z0 z1 []) 7 → XL E0 18 4 fuel f50_L1 [(1, .func (.func 67) #[] #[pp 2 0, pp 3 0]), (5, pp 4 0), (7, ii x7_1), (8, ii x8_1)] ((6, rI lh6_1) :: (5, iM mh5_1) :: (4, .cells [.map (some 5), s0 6 lh6_1.length] 0 144 0) :: qha21 a b y0 y1 z0 z1 []) 7 Q
 | 0, z0, y0, a, z1, y1, b, x7_1, x8_1, mh5_1, lh6_1, o, h, Q, hQ => by cases h
 | fuel + 1, z0, y0, a, z1, y1, b, x7_1, x8_1, mh5_1, lh6_1, o, h, Q, hQ => by
  unfold f50_1 at h
  refine XL.succ E0_ok ?_
  refine qQ ?_
  refine rS 1 [(1, .func (.func 67) #[] #[pp 2 0, pp 3 0]), (5, pp 4 0), (7, ii x7_1), (8, ii x8_1), (9, .bool (decide (x8_1 < x7_1)))] ?_
  refine dQ ?_
  show XQ _ _ _ _ _ _ _ _
  refine sQ ?_
  cases b1 : (decide (x8_1 < x7_1) : Bool) with
  | true =>
   have h := cT b1 h
   refine iT (.tmp 9) ?_
   refine kQ ?_
   show XQ _ _ _ _ _ _ _ _
   refine sQ ?_
   refine XQ.block (id := 1) (by kernel_rfl) ?_
   refine qQ ?_
   refine rS 2 [(1, .func (.func 67) #[] #[pp 2 0, pp 3 0]), (5, pp 4 0), (6, ii x8_1), (7, ii x7_1), (8, ii x8_1)] ?_
   refine dQ ?_
   show XQ _ _ _ _ _ _ _ _
   refine rQ ?_
   refine rS 2 [(1, .func (.func 67) #[] #[pp 2 0, pp 3 0]), (5, pp 4 0), (7, ii x7_1), (8, ii x8_1), (11, .func (.func 67) #[] #[pp 2 0, pp 3 0]), (12, ii x8_1)] ?_
   refine XR.callK E0_ok [1, 5, 7, 8, 13] rfl (K := 67) (args := [ii x8_1, pp 2 0, pp 3 0]) (d := (some (path 12 13))) (by kernel_rfl) ?_
   refine KC.bodyN E0_ok (F := Proofs.Tryz.f67) (by kernel_rfl) (code := f50_C67) (by kernel_rfl) (nt := 14) (by kernel_rfl) (rs := [.cell 4 118]) (by kernel_rfl) (by kernel_rfl) (σ := [(0, ii x8_1), (1, pp 2 0), (2, pp 3 0)]) (by kernel_rfl) ?_
   refine qQ ?_
   refine rT 1 [(0, ii x8_1), (1, pp 2 0), (2, pp 3 0), (4, pp 7 0)] ((7, .cells [ii 0, ii 0] 0 118 0) :: (6, rI lh6_1) :: (5, iM mh5_1) :: (4, .cells [.map (some 5), s0 6 lh6_1.length] 0 144 0) :: qha21 a b y0 y1 z0 z1 []) 8 ?_
   refine dQ ?_
   show XQ _ _ _ _ _ _ _ _
   refine sQ ?_
   refine XQ.tail E0_ok 9 (by kernel_rfl) (by kernel_rfl) ?_
   refine XS.step E0_ok 2 rfl [0, 2, 4, 5, 6] rfl (σ' := [(0, ii x8_1), (2, pp 3 0), (4, pp 7 0), (5, s0 0 a.length), (6, ii x8_1)]) (by kernel_rfl) ?_
   cases b2 : (inRow x8_1 a.length : Bool) with
   | false => cases (cF b2 h)
   | true =>
    have h := cT b2 h
    refine XS.rd E0_ok rfl [0, 2, 4, 7] rfl (v := pp 0 ((Int.toNat x8_1) * 1)) (v_idx (s := 1) (x := (src 14 (.tmp 5))) (y := (src 14 (.tmp 6))) (b := 0) (o := 0) (len := a.length) (cap := a.length) (ik := .i64) (i := x8_1) (off := (Int.toNat x8_1) * 1) (d := (some (path 12 7))) (by kernel_rfl) (by kernel_rfl) (by kernel_rfl) b2 (by omega)) (σ' := [(0, ii x8_1), (2, pp 3 0), (4, pp 7 0), (7, pp 0 ((Int.toNat x8_1) * 1))]) (by kernel_rfl) ?_
    refine XS.rd E0_ok rfl [0, 2, 4, 8] rfl (v := ii (List.getD a (Int.toNat x8_1) 0)) (v_load1 (encI_ok .i64) (x := (src 14 (.tmp 7))) (b := 0) (off := (Int.toNat x8_1) * 1) (xs := a) (fz := z0) (e := y0) (es := 1) (d := (some (path 12 8))) (by kernel_rfl) (by kernel_rfl) (by kernel_rfl) (Int.toNat x8_1) 0 0 (by first | with_reducible rfl | omega | rfl) (row_len (inRow_toNat b2) (by simp)) rfl rfl) (σ' := [(0, ii x8_1), (2, pp 3 0), (4, pp 7 0), (8, ii (List.getD a (Int.toNat x8_1) 0))]) (by kernel_rfl) ?_
    refine XS.step E0_ok 2 rfl [4, 8, 9, 10] rfl (σ' := [(4, pp 7 0), (8, ii (List.getD a (Int.toNat x8_1) 0)), (9, s0 1 b.length), (10, ii x8_1)]) (by kernel_rfl) ?_
    cases b3 : (inRow x8_1 b.length : Bool) with
    | false => cases (cF b3 h)
    | true =>
     have h := cT b3 h
     refine XS.rd E0_ok rfl [4, 8, 11] rfl (v := pp 1 ((Int.toNat x8_1) * 1)) (v_idx (s := 1) (x := (src 14 (.tmp 9))) (y := (src 14 (.tmp 10))) (b := 1) (o := 0) (len := b.length) (cap := b.length) (ik := .i64) (i := x8_1) (off := (Int.toNat x8_1) * 1) (d := (some (path 12 11))) (by kernel_rfl) (by kernel_rfl) (by kernel_rfl) b3 (by omega)) (σ' := [(4, pp 7 0), (8, ii (List.getD a (Int.toNat x8_1) 0)), (11, pp 1 ((Int.toNat x8_1) * 1))]) (by kernel_rfl) ?_
     refine XS.rd E0_ok rfl [4, 8, 12] rfl (v := ii (List.getD b (Int.toNat x8_1) 0)) (v_load1 (encI_ok .i64) (x := (src 14 (.tmp 11))) (b := 1) (off := (Int.toNat x8_1) * 1) (xs := b) (fz := z1) (e := y1) (es := 1) (d := (some (path 12 12))) (by kernel_rfl) (by kernel_rfl) (by kernel_rfl) (Int.toNat x8_1) 0 0 (by first | with_reducible rfl | omega | rfl) (row_len (inRow_toNat b3) (by simp)) rfl rfl) (σ' := [(4, pp 7 0), (8, ii (List.getD a (Int.toNat x8_1) 0)), (12, ii (List.getD b (Int.toNat x8_1) 0))]) (by kernel_rfl) ?_
     refine XS.step E0_ok 1 rfl [4, 13] rfl (σ' := [(4, pp 7 0), (13, .agg #[ii (List.getD a (Int.toNat x8_1) 0), ii (List.getD b (Int.toNat x8_1) 0)])]) (by kernel_rfl) ?_
     refine XS.done (by kernel_rfl) ?_
     refine rT 1 [(4, pp 7 0)] ((7, .cells [ii (List.getD a (Int.toNat x8_1) 0), ii (List.getD b (Int.toNat x8_1) 0)] 0 118 0) :: (6, rI lh6_1) :: (5, iM mh5_1) :: (4, .cells [.map (some 5), s0 6 lh6_1.length] 0 144 0) :: qha21 a b y0 y1 z0 z1 []) 8 ?_
     refine dQ ?_
     show XQ _ _ _ _ _ _ _ _
     refine XQ.ret (by kernel_rfl) ?_
     refine ⟨fun i q => (by cases q), .agg #[ii (List.getD a (Int.toNat x8_1) 0), ii (List.getD b (Int.toNat x8_1) 0)], (by kernel_rfl), ?_⟩
     refine XR.conv (σ' := [(1, .func (.func 67) #[] #[pp 2 0, pp 3 0]), (5, pp 4 0), (7, ii x7_1), (8, ii x8_1), (13, .agg #[ii (List.getD a (Int.toNat x8_1) 0), ii (List.getD b (Int.toNat x8_1) 0)])]) (h' := ((7, .cells [ii (List.getD a (Int.toNat x8_1) 0), ii (List.getD b (Int.toNat x8_1) 0)] 0 118 0) :: (6, rI lh6_1) :: (5, iM mh5_1) :: (4, .cells [.map (some 5), s0 6 lh6_1.length] 0 144 0) :: qha21 a b y0 y1 z0 z1 [])) (c' := 8) ?_ (by kernel_rfl)
     refine XR.callK E0_ok [1, 5, 7, 8] rfl (K := 88) (args := [pp 4 0, .agg #[ii (List.getD a (Int.toNat x8_1) 0), ii (List.getD b (Int.toNat x8_1) 0)]]) (d := (some (path 12 14))) (by kernel_rfl) ?_
     refine KC.bodyN E0_ok (F := Proofs.Tryz.f88) (by kernel_rfl) (code := f50_C88) (by kernel_rfl) (nt := 47) (by kernel_rfl) (rs := []) (by kernel_rfl) (by kernel_rfl) (σ := [(0, pp 4 0), (1, .agg #[ii (List.getD a (Int.toNat x8_1) 0), ii (List.getD b (Int.toNat x8_1) 0)])]) (by kernel_rfl) ?_
     refine qQ ?_
     refine rT 1 [(0, pp 4 0), (3, pp 8 0)] ((8, .cells [ii (List.getD a (Int.toNat x8_1) 0), ii (List.getD b (Int.toNat x8_1) 0)] 0 118 0) :: (7, .cells [ii (List.getD a (Int.toNat x8_1) 0), ii (List.getD b (Int.toNat x8_1) 0)] 0 118 0) :: (6, rI lh6_1) :: (5, iM mh5_1) :: (4, .cells [.map (some 5), s0 6 lh6_1.length] 0 144 0) :: qha21 a b y0 y1 z0 z1 []) 9 ?_
     refine dQ ?_
     show XQ _ _ _ _ _ _ _ _
     refine sQ ?_
     refine qQ ?_
     refine rS 5 [(0, pp 4 0), (3, pp 8 0), (10, .bool false)] ?_
     refine dQ ?_
     show XQ _ _ _ _ _ _ _ _
     refine iF (.tmp 10) ?_
     refine kQ ?_
     show XQ _ _ _ _ _ _ _ _
     refine sQ ?_
     refine XQ.quiet E0_ok (by kernel_rfl) (by kernel_rfl) ?_
     refine XU.run E0_ok 1 5 [0, 3, 19, 20] rfl (σ' := [(0, pp 4 0), (3, pp 8 0), (19, .map (some 5)), (20, .agg #[ii (List.getD a (Int.toNat x8_1) 0), ii (List.getD b (Int.toNat x8_1) 0)])]) (by kernel_rfl) ?_
     cases b4 : (Nat.beq [List.getD a (Int.toNat x8_1) 0, List.getD b (Int.toNat x8_1) 0].length 2 && lensA 2 mh5_1 : Bool) with
     | false => cases (cF b4 h)
     | true =>
      have h := cT b4 h
      refine XU.rd E0_ok [0, 3, 21] rfl (v := .tuple #[ii (getA 0 mh5_1 [List.getD a (Int.toNat x8_1) 0, List.getD b (Int.toNat x8_1) 0]), .bool (hasA mh5_1 [List.getD a (Int.toNat x8_1) 0, List.getD b (Int.toNat x8_1) 0])]) (v_mgetAo (Value.int .i64) (n := 2) (x := (src 47 (.tmp 19))) (i := (src 47 (.tmp 20))) (z := .int .i64 0) (d := (some (path 12 21))) (b := 5) (k := [List.getD a (Int.toNat x8_1) 0, List.getD b (Int.toNat x8_1) 0]) (l := mh5_1) (d0 := 0) (by kernel_rfl) (by kernel_rfl) (by kernel_rfl) rfl (by kernel_rfl) b4 rfl rfl rfl) (σ' := [(0, pp 4 0), (3, pp 8 0), (21, .tuple #[ii (getA 0 mh5_1 [List.getD a (Int.toNat x8_1) 0, List.getD b (Int.toNat x8_1) 0]), .bool (hasA mh5_1 [List.getD a (Int.toNat x8_1) 0, List.getD b (Int.toNat x8_1) 0])])]) (by kernel_rfl) ?_
      refine XU.run E0_ok 1 5 [0, 3, 4, 5] rfl (σ' := [(0, pp 4 0), (3, pp 8 0), (4, ii (getA 0 mh5_1 [List.getD a (Int.toNat x8_1) 0, List.getD b (Int.toNat x8_1) 0])), (5, .bool (hasA mh5_1 [List.getD a (Int.toNat x8_1) 0, List.getD b (Int.toNat x8_1) 0]))]) (by kernel_rfl) ?_
      refine XU.done (by kernel_rfl) ?_
      show XQ _ _ _ _ _ _ _ _
      refine sQ ?_
      refine qQ ?_
      refine rS 2 [(0, pp 4 0), (3, pp 8 0), (4, ii (getA 0 mh5_1 [List.getD a (Int.toNat x8_1) 0, List.getD b (Int.toNat x8_1) 0])), (25, .bool (!(hasA mh5_1 [List.getD a (Int.toNat x8_1) 0, List.getD b (Int.toNat x8_1) 0])))] ?_
      refine dQ ?_
      show XQ _ _ _ _ _ _ _ _
      cases b5 : (!(hasA mh5_1 [List.getD a (Int.toNat x8_1) 0, List.getD b (Int.toNat x8_1) 0]) : Bool) with
      | true =>
       have h := cT b5 h
       refine iT (.tmp 25) ?_
       refine qQ ?_
       refine rS 4 [(0, pp 4 0), (3, pp 8 0), (29, .map (some 5))] ?_
       refine XR.rd E0_ok [0, 3, 30] rfl (v := ii ((mh5_1.length : Nat) : Int)) (v_mlen (x := (src 47 (.tmp 29))) (d := (some (path 12 30))) (b := 5) (es := imA (Value.int .i64) mh5_1) (n := mh5_1.length) (by kernel_rfl) (by kernel_rfl) (by kernel_rfl) (imA_len _ _)) (σ' := [(0, pp 4 0), (3, pp 8 0), (30, ii ((mh5_1.length : Nat) : Int))]) (by kernel_rfl) ?_
       refine rS 1 [(0, pp 4 0), (3, pp 8 0), (4, ii ((mh5_1.length : Nat) : Int))] ?_
       refine dQ ?_
       show XQ _ _ _ _ _ _ _ _
       refine XQ.tail E0_ok 6 (by kernel_rfl) (by kernel_rfl) ?_
       refine XS.step E0_ok 6 rfl [0, 4, 34, 35, 36] rfl (σ' := [(0, pp 4 0), (4, ii ((mh5_1.length : Nat) : Int)), (34, .map (some 5)), (35, .agg #[ii (List.getD a (Int.toNat x8_1) 0), ii (List.getD b (Int.toNat x8_1) 0)]), (36, ii ((mh5_1.length : Nat) : Int))]) (by kernel_rfl) ?_
       refine XS.done (by kernel_rfl) ?_
       refine XR.ef E0_ok [0, 4] rfl (e_mputA (Value.int .i64) (n := 2) (m := (src 47 (.tmp 34))) (i := (src 47 (.tmp 35))) (x := (src 47 (.tmp 36))) (d := none) (b := 5) (k := [List.getD a (Int.toNat x8_1) 0, List.getD b (Int.toNat x8_1) 0]) (l := mh5_1) (a := ((mh5_1.length : Nat) : Int)) (h' := ((8, .cells [ii (List.getD a (Int.toNat x8_1) 0), ii (List.getD b (Int.toNat x8_1) 0)] 0 118 0) :: (7, .cells [ii (List.getD a (Int.toNat x8_1) 0), ii (List.getD b (Int.toNat x8_1) 0)] 0 118 0) :: (6, rI lh6_1) :: (5, iM (putA mh5_1 [List.getD a (Int.toNat x8_1) 0, List.getD b (Int.toNat x8_1) 0] ((mh5_1.length : Nat) : Int))) :: (4, .cells [.map (some 5), s0 6 lh6_1.length] 0 144 0) :: qha21 a b y0 y1 z0 z1 [])) (by kernel_rfl) (by kernel_rfl) (by kernel_rfl) rfl (by kernel_rfl) b4 (by kernel_rfl) rfl rfl) (σ' := [(0, pp 4 0), (4, ii ((mh5_1.length : Nat) : Int))]) (by kernel_rfl) ?_
       refine dQ ?_
       show XQ _ _ _ _ _ _ _ _
       refine rQ ?_
       refine rT 7 [(37, pp 4 0), (41, s0 6 lh6_1.length), (43, s0 9 1)] ((9, .cells [ii ((mh5_1.length : Nat) : Int)] 0 3 1) :: (8, .cells [ii (List.getD a (Int.toNat x8_1) 0), ii (List.getD b (Int.toNat x8_1) 0)] 0 118 0) :: (7, .cells [ii (List.getD a (Int.toNat x8_1) 0), ii (List.getD b (Int.toNat x8_1) 0)] 0 118 0) :: (6, rI lh6_1) :: (5, iM (putA mh5_1 [List.getD a (Int.toNat x8_1) 0, List.getD b (Int.toNat x8_1) 0] ((mh5_1.length : Nat) : Int))) :: (4, .cells [.map (some 5), s0 6 lh6_1.length] 0 144 0) :: qha21 a b y0 y1 z0 z1 []) 10 ?_
       cases b6 : (fitsB (lh6_1.length + 1) 8 : Bool) with
       | false => cases (cF b6 h)
       | true =>
        have h := cT b6 h
        refine XR.ef E0_ok [37, 44] rfl (e_append (encI_ok .i64) (bytes := 8) (e := 3) (x := (src 47 (.tmp 41))) (y := (src 47 (.tmp 43))) (b := 6) (len := lh6_1.length) (cap := lh6_1.length) (xs := lh6_1) (m := 0) (ys := [((mh5_1.length : Nat) : Int)]) (d := (some (path 12 44))) (n' := (lh6_1 ++ [((mh5_1.length : Nat) : Int)]).length) (h' := ((10, rI (lh6_1 ++ [((mh5_1.length : Nat) : Int)])) :: (9, .cells [ii ((mh5_1.length : Nat) : Int)] 0 3 1) :: (8, .cells [ii (List.getD a (Int.toNat x8_1) 0), ii (List.getD b (Int.toNat x8_1) 0)] 0 118 0) :: (7, .cells [ii (List.getD a (Int.toNat x8_1) 0), ii (List.getD b (Int.toNat x8_1) 0)] 0 118 0) :: (5, iM (putA mh5_1 [List.getD a (Int.toNat x8_1) 0, List.getD b (Int.toNat x8_1) 0] ((mh5_1.length : Nat) : Int))) :: (4, .cells [.map (some 5), s0 6 lh6_1.length] 0 144 0) :: qha21 a b y0 y1 z0 z1 [])) (by kernel_rfl) (by kernel_rfl) (by kernel_rfl) (by kernel_rfl) rfl (by simp) (by simp) b6 (by simp) (by kernel_rfl)) (σ' := [(37, pp 4 0), (44, s0 10 ((lh6_1 ++ [((mh5_1.length : Nat) : Int)]).length))]) (by kernel_rfl) ?_
        refine rT 3 [] ((10, rI (lh6_1 ++ [((mh5_1.length : Nat) : Int)])) :: (9, .cells [ii ((mh5_1.length : Nat) : Int)] 0 3 1) :: (8, .cells [ii (List.getD a (Int.toNat x8_1) 0), ii (List.getD b (Int.toNat x8_1) 0)] 0 118 0) :: (7, .cells [ii (List.getD a (Int.toNat x8_1) 0), ii (List.getD b (Int.toNat x8_1) 0)] 0 118 0) :: (5, iM (putA mh5_1 [List.getD a (Int.toNat x8_1) 0, List.getD b (Int.toNat x8_1) 0] ((mh5_1.length : Nat) : Int))) :: (4, .cells [.map (some 5), s0 10 ((lh6_1 ++ [((mh5_1.length : Nat) : Int)]).length)] 0 144 0) :: qha21 a b y0 y1 z0 z1 []) 11 ?_
        refine dQ ?_
        refine ⟨fun i q => (by cases q), .tuple #[], (by kernel_rfl), ?_⟩
        refine XR.conv (σ' := [(1, .func (.func 67) #[] #[pp 2 0, pp 3 0]), (5, pp 4 0), (7, ii x7_1), (8, ii x8_1)]) (h' := ((10, rI (lh6_1 ++ [((mh5_1.length : Nat) : Int)])) :: (9, .cells [ii ((mh5_1.length : Nat) : Int)] 0 3 1) :: (8, .cells [ii (List.getD a (Int.toNat x8_1) 0), ii (List.getD b (Int.toNat x8_1) 0)] 0 118 0) :: (7, .cells [ii (List.getD a (Int.toNat x8_1) 0), ii (List.getD b (Int.toNat x8_1) 0)] 0 118 0) :: (5, iM (putA mh5_1 [List.getD a (Int.toNat x8_1) 0, List.getD b (Int.toNat x8_1) 0] ((mh5_1.length : Nat) : Int))) :: (4, .cells [.map (some 5), s0 10 ((lh6_1 ++ [((mh5_1.length : Nat) : Int)]).length)] 0 144 0) :: qha21 a b y0 y1 z0 z1 [])) (c' := 11) ?_ (by kernel_rfl)
        refine dQ ?_
        show XQ _ _ _ _ _ _ _ _
        refine rQ ?_
        refine rS 2 [(1, .func (.func 67) #[] #[pp 2 0, pp 3 0]), (5, pp 4 0), (7, ii x7_1), (8, ii (w64 (x8_1 + 1)))] ?_
        refine dQ ?_
        show XL _ _ _ _ _ _ _ _ _
        refine XL.ren (σ' := [(1, .func (.func 67) #[] #[pp 2 0, pp 3 0]), (5, pp 4 0), (7, ii x7_1), (8, ii (w64 (x8_1 + 1)))]) (h' := ((6, rI (lh6_1 ++ [((mh5_1.length : Nat) : Int)])) :: (5, iM (putA mh5_1 [List.getD a (Int.toNat x8_1) 0, List.getD b (Int.toNat x8_1) 0] ((mh5_1.length : Nat) : Int))) :: (4, .cells [.map (some 5), s0 6 ((lh6_1 ++ [((mh5_1.length : Nat) : Int)]).length)] 0 144 0) :: qha21 a b y0 y1 z0 z1 [])) (c' := 7) [0, 1, 2, 3, 4, 5, 10] (by decide) rfl ⟨rfl, rfl, rfl, rfl, trivial⟩ ⟨⟨_, _, rfl, rfl, .inl ⟨rfl, rwI⟩⟩, ⟨_, _, rfl, rfl, .inl ⟨rfl, trivial⟩⟩, ⟨_, _, rfl, rfl, .inr ⟨_, _, _, _, rfl, rfl⟩⟩, ⟨_, _, rfl, rfl, .inr ⟨_, _, _, _, rfl, rfl⟩⟩, ⟨_, _, rfl, rfl, .inr ⟨_, _, _, _, rfl, rfl⟩⟩, ⟨_, _, rfl, rfl, .inl ⟨rfl, rwI⟩⟩, ⟨_, _, rfl, rfl, .inl ⟨rfl, rwI⟩⟩, trivial⟩ rfl ?_
        refine XL.conv (f50_1_ok m fuel z0 y0 a z1 y1 b x7_1 (w64 (x8_1 + 1)) (putA mh5_1 [List.getD a (Int.toNat x8_1) 0, List.getD b (Int.toNat x8_1) 0] ((mh5_1.length : Nat) : Int)) (lh6_1 ++ [((mh5_1.length : Nat) : Int)]) o h Q hQ) (by first | with_reducible rfl | simp | rfl)
      | false =>
       have h := cF b5 h
       refine iF (.tmp 25) ?_
       refine kQ ?_
       show XQ _ _ _ _ _ _ _ _
       refine rQ ?_
       refine rT 7 [(37, pp 4 0), (41, s0 6 lh6_1.length), (43, s0 9 1)] ((9, .cells [ii (getA 0 mh5_1 [List.getD a (Int.toNat x8_1) 0, List.getD b (Int.toNat x8_1) 0])] 0 3 1) :: (8, .cells [ii (List.getD a (Int.toNat x8_1) 0), ii (List.getD b (Int.toNat x8_1) 0)] 0 118 0) :: (7, .cells [ii (List.getD a (Int.toNat x8_1) 0), ii (List.getD b (Int.toNat x8_1) 0)] 0 118 0) :: (6, rI lh6_1) :: (5, iM mh5_1) :: (4, .cells [.map (some 5), s0 6 lh6_1.length] 0 144 0) :: qha21 a b y0 y1 z0 z1 []) 10 ?_
       cases b7 : (fitsB (lh6_1.length + 1) 8 : Bool) with
       | false => cases (cF b7 h)
       | true =>
        have h := cT b7 h
        refine XR.ef E0_ok [37, 44] rfl (e_append (encI_ok .i64) (bytes := 8) (e := 3) (x := (src 47 (.tmp 41))) (y := (src 47 (.tmp 43))) (b := 6) (len := lh6_1.length) (cap := lh6_1.length) (xs := lh6_1) (m := 0) (ys := [getA 0 mh5_1 [List.getD a (Int.toNat x8_1) 0, List.getD b (Int.toNat x8_1) 0]]) (d := (some (path 12 44))) (n' := (lh6_1 ++ [getA 0 mh5_1 [List.getD a (Int.toNat x8_1) 0, List.getD b (Int.toNat x8_1) 0]]).length) (h' := ((10, rI (lh6_1 ++ [getA 0 mh5_1 [List.getD a (Int.toNat x8_1) 0, List.getD b (Int.toNat x8_1) 0]])) :: (9, .cells [ii (getA 0 mh5_1 [List.getD a (Int.toNat x8_1) 0, List.getD b (Int.toNat x8_1) 0])] 0 3 1) :: (8, .cells [ii (List.getD a (Int.toNat x8_1) 0), ii (List.getD b (Int.toNat x8_1) 0)] 0 118 0) :: (7, .cells [ii (List.getD a (Int.toNat x8_1) 0), ii (List.getD b (Int.toNat x8_1) 0)] 0 118 0) :: (5, iM mh5_1) :: (4, .cells [.map (some 5), s0 6 lh6_1.length] 0 144 0) :: qha21 a b y0 y1 z0 z1 [])) (by kernel_rfl) (by kernel_rfl) (by kernel_rfl) (by kernel_rfl) rfl (by simp) (by simp) b7 (by simp) (by kernel_rfl)) (σ' := [(37, pp 4 0), (44, s0 10 ((lh6_1 ++ [getA 0 mh5_1 [List.getD a (Int.toNat x8_1) 0, List.getD b (Int.toNat x8_1) 0]]).length))]) (by kernel_rfl) ?_
        refine rT 3 [] ((10, rI (lh6_1 ++ [getA 0 mh5_1 [List.getD a (Int.toNat x8_1) 0, List.getD b (Int.toNat x8_1) 0]])) :: (9, .cells [ii (getA 0 mh5_1 [List.getD a (Int.toNat x8_1) 0, List.getD b (Int.toNat x8_1) 0])] 0 3 1) :: (8, .cells [ii (List.getD a (Int.toNat x8_1) 0), ii (List.getD b (Int.toNat x8_1) 0)] 0 118 0) :: (7, .cells [ii (List.getD a (Int.toNat x8_1) 0), ii (List.getD b (Int.toNat x8_1) 0)] 0 118 0) :: (5, iM mh5_1) :: (4, .cells [.map (some 5), s0 10 ((lh6_1 ++ [getA 0 mh5_1 [List.getD a (Int.toNat x8_1) 0, List.getD b (Int.toNat x8_1) 0]]).length)] 0 144 0) :: qha21 a b y0 y1 z0 z1 []) 11 ?_
        refine dQ ?_
        refine ⟨fun i q => (by cases q), .tuple #[], (by kernel_rfl), ?_⟩
        refine XR.conv (σ' := [(1, .func (.func 67) #[] #[pp 2 0, pp 3 0]), (5, pp 4 0), (7, ii x7_1), (8, ii x8_1)]) (h' := ((10, rI (lh6_1 ++ [getA 0 mh5_1 [List.getD a (Int.toNat x8_1) 0, List.getD b (Int.toNat x8_1) 0]])) :: (9, .cells [ii (getA 0 mh5_1 [List.getD a (Int.toNat x8_1) 0, List.getD b (Int.toNat x8_1) 0])] 0 3 1) :: (8, .cells [ii (List.getD a (Int.toNat x8_1) 0), ii (List.getD b (Int.toNat x8_1) 0)] 0 118 0) :: (7, .cells [ii (List.getD a (Int.toNat x8_1) 0), ii (List.getD b (Int.toNat x8_1) 0)] 0 118 0) :: (5, iM mh5_1) :: (4, .cells [.map (some 5), s0 10 ((lh6_1 ++ [getA 0 mh5_1 [List.getD a (Int.toNat x8_1) 0, List.getD b (Int.toNat x8_1) 0]]).length)] 0 144 0) :: qha21 a b y0 y1 z0 z1 [])) (c' := 11) ?_ (by kernel_rfl)
        refine dQ ?_
        show XQ _ _ _ _ _ _ _ _
        refine rQ ?_
        refine rS 2 [(1, .func (.func 67) #[] #[pp 2 0, pp 3 0]), (5, pp 4 0), (7, ii x7_1), (8, ii (w64 (x8_1 + 1)))] ?_
        refine dQ ?_
        show XL _ _ _ _ _ _ _ _ _
        refine XL.ren (σ' := [(1, .func (.func 67) #[] #[pp 2 0, pp 3 0]), (5, pp 4 0), (7, ii x7_1), (8, ii (w64 (x8_1 + 1)))]) (h' := ((6, rI (lh6_1 ++ [getA 0 mh5_1 [List.getD a (Int.toNat x8_1) 0, List.getD b (Int.toNat x8_1) 0]])) :: (5, iM mh5_1) :: (4, .cells [.map (some 5), s0 6 ((lh6_1 ++ [getA 0 mh5_1 [List.getD a (Int.toNat x8_1) 0, List.getD b (Int.toNat x8_1) 0]]).length)] 0 144 0) :: qha21 a b y0 y1 z0 z1 [])) (c' := 7) [0, 1, 2, 3, 4, 5, 10] (by decide) rfl ⟨rfl, rfl, rfl, rfl, trivial⟩ ⟨⟨_, _, rfl, rfl, .inl ⟨rfl, rwI⟩⟩, ⟨_, _, rfl, rfl, .inl ⟨rfl, trivial⟩⟩, ⟨_, _, rfl, rfl, .inr ⟨_, _, _, _, rfl, rfl⟩⟩, ⟨_, _, rfl, rfl, .inr ⟨_, _, _, _, rfl, rfl⟩⟩, ⟨_, _, rfl, rfl, .inr ⟨_, _, _, _, rfl, rfl⟩⟩, ⟨_, _, rfl, rfl, .inl ⟨rfl, rwI⟩⟩, ⟨_, _, rfl, rfl, .inl ⟨rfl, rwI⟩⟩, trivial⟩ rfl ?_
        refine XL.conv (f50_1_ok m fuel z0 y0 a z1 y1 b x7_1 (w64 (x8_1 + 1)) mh5_1 (lh6_1 ++ [getA 0 mh5_1 [List.getD a (Int.toNat x8_1) 0, List.getD b (Int.toNat x8_1) 0]]) o h Q hQ) (by first | with_reducible rfl | simp | rfl)
  | false =>
   have h := cF b1 h
   refine iF (.tmp 9) ?_
   refine XQ.ren (σ' := [(5, pp 4 0)]) (h' := ((6, rI lh6_1) :: (5, iM mh5_1) :: (4, .cells [.map (some 5), s0 6 lh6_1.length] 0 144 0) :: qha21 a b y0 y1 z0 z1 [])) (c' := 7) [0, 1, 2, 3, 4, 5, 6] (by decide) rfl ⟨rfl, trivial⟩ ⟨⟨_, _, rfl, rfl, .inl ⟨rfl, rwI⟩⟩, ⟨_, _, rfl, rfl, .inl ⟨rfl, trivial⟩⟩, ⟨_, _, rfl, rfl, .inr ⟨_, _, _, _, rfl, rfl⟩⟩, ⟨_, _, rfl, rfl, .inr ⟨_, _, _, _, rfl, rfl⟩⟩, ⟨_, _, rfl, rfl, .inr ⟨_, _, _, _, rfl, rfl⟩⟩, ⟨_, _, rfl, rfl, .inl ⟨rfl, rwI⟩⟩, ⟨_, _, rfl, rfl, .inl ⟨rfl, rwI⟩⟩, trivial⟩ rfl ?_
   refine XQ.exit (i := 0) (by kernel_rfl) ?_
   cases h
   exact hQ
def f50_2 (m : Nat) : Nat → List Int → List Int → Int → Int → List (List Int × Int) → List Int → Option ((List (List Int × Int)) × (List Int))
 | 0, _, _, _, _, _, _ => none
 | fuel + 1, a, b, x7_2, x8_2, mh5_2, lh6_2 =>
  cond (decide (x8_2 < x7_2)) (
   cond (inRow x8_2 a.length) (
    cond (inRow x8_2 b.length) (
     cond (Nat.beq [List.getD a (Int.toNat x8_2) 0, List.getD b (Int.toNat x8_2) 0].length 2 && lensA 2 mh5_2) (
      cond (!(hasA mh5_2 [List.getD a (Int.toNat x8_2) 0, List.getD b (Int.toNat x8_2) 0])) (
       cond (fitsB (lh6_2.length + 1) 8) (
        f50_2 m fuel a b x7_2 (w64 (x8_2 + 1)) (putA mh5_2 [List.getD a (Int.toNat x8_2) 0, List.getD b (Int.toNat x8_2) 0] ((mh5_2.length : Nat) : Int)) (lh6_2 ++ [((mh5_2.length : Nat) : Int)])
       ) none
      ) (
       cond (fitsB (lh6_2.length + 1) 8) (
        f50_2 m fuel a b x7_2 (w64 (x8_2 + 1)) mh5_2 (lh6_2 ++ [getA 0 mh5_2 [List.getD a (Int.toNat x8_2) 0, List.getD b (Int.toNat x8_2) 0]])
       ) none
      )
     ) none
    ) none
   ) none
  ) (
   some (mh5_2, lh6_2)
  )
abbrev qha22 (a : List Int) (b : List Int) (y0 : Nat) (y1 : Nat) (z0 : Nat) (z1 : Nat) (t : Heap) : Heap := (3, .cells [s0 1 b.length] 0 23 0) :: (2, .cells [s0 0 a.length] 0 23 0) :: (1, rc (encI .i64) b z1 y1 1) :: (0, rc (encI .i64) a z0 y0 1) :: t
theorem f50_2_ok (m : Nat) : ∀ (fuel : Nat) (z0 : Nat) (y0 : Nat) (a : List Int) (z1 : Nat) (y1 : Nat) (b : List Int) (x7_2 : Int) (x8_2 : Int) (mh5_2 : List (List Int × Int)) (lh6_2 : List Int) (o : ((List (List Int × Int)) × (List Int))), f50_2 m fuel a b x7_2 x8_2 mh5_2 lh6_2 = some o → ∀ Q : QP, Q (.exit 0) [(5, pp 4 0)] ((6, rI o.2) :: (5, iM o.1) :: (4, .cells [.map (some 5), s0 6 o.2.length] 0 144 0) :: qha22 a b y0 y1 z0 z1 []) 7 → XL E0 18 4 fuel f50_L1 [(1, .func (.func 67) #[] #[pp 2 0, pp 3 0]), (5, pp 4 0), (7, ii x7_2), (8, ii x8_2)] ((6, rI lh6_2) :: (5, iM mh5_2) :: (4, .cells [.map (some 5), s0 6 lh6_2.length] 0 144 0) :: qha22 a b y0 y1 z0 z1 []) 7 Q
 | 0, z0, y0, a, z1, y1, b, x7_2, x8_2, mh5_2, lh6_2, o, h, Q, hQ => by cases h
 | fuel + 1, z0, y0, a, z1, y1, b, x7_2, x8_2, mh5_2, lh6_2, o, h, Q, hQ => by
  unfold f50_2 at h
  refine XL.succ E0_ok ?_
  refine qQ ?_
  refine rS 1 [(1, .func (.func 67) #[] #[pp 2 0, pp 3 0]), (5, pp 4 0), (7, ii x7_2), (8, ii x8_2), (9, .bool (decide (x8_2 < x7_2)))] ?_
  refine dQ ?_
  show XQ _ _ _ _ _ _ _ _
  refine sQ ?_
  cases b1 : (decide (x8_2 < x7_2) : Bool) with
  | true =>
   have h := cT b1 h
   refine iT (.tmp 9) ?_
   refine kQ ?_
   show XQ _ _ _ _ _ _ _ _
   refine sQ ?_
   refine XQ.block (id := 1) (by kernel_rfl) ?_
   refine qQ ?_
   refine rS 2 [(1, .func (.func 67) #[] #[pp 2 0, pp 3 0]), (5, pp 4 0), (6, ii x8_2), (7, ii x7_2), (8, ii x8_2)] ?_
   refine dQ ?_
   show XQ _ _ _ _ _ _ _ _
   refine rQ ?_
   refine rS 2 [(1, .func (.func 67) #[] #[pp 2 0, pp 3 0]), (5, pp 4 0), (7, ii x7_2), (8, ii x8_2), (11, .func (.func 67) #[] #[pp 2 0, pp 3 0]), (12, ii x8_2)] ?_
   refine XR.callK E0_ok [1, 5, 7, 8, 13] rfl (K := 67) (args := [ii x8_2, pp 2 0, pp 3 0]) (d := (some (path 12 13))) (by kernel_rfl) ?_
   refine KC.bodyN E0_ok (F := Proofs.Tryz.f67) (by kernel_rfl) (code := f50_C67) (by kernel_rfl) (nt := 14) (by kernel_rfl) (rs := [.cell 4 118]) (by kernel_rfl) (by kernel_rfl) (σ := [(0, ii x8_2), (1, pp 2 0), (2, pp 3 0)]) (by kernel_rfl) ?_
   refine qQ ?_
   refine rT 1 [(0, ii x8_2), (1, pp 2 0), (2, pp 3 0), (4, pp 7 0)] ((7, .cells [ii 0, ii 0] 0 118 0) :: (6, rI lh6_2) :: (5, iM mh5_2) :: (4, .cells [.map (some 5), s0 6 lh6_2.length] 0 144 0) :: qha22 a b y0 y1 z0 z1 []) 8 ?_
   refine dQ ?_
   show XQ _ _ _ _ _ _ _ _
   refine sQ ?_
   refine XQ.tail E0_ok 9 (by kernel_rfl) (by kernel_rfl) ?_
   refine XS.step E0_ok 2 rfl [0, 2, 4, 5, 6] rfl (σ' := [(0, ii x8_2), (2, pp 3 0), (4, pp 7 0), (5, s0 0 a.length), (6, ii x8_2)]) (by kernel_rfl) ?_
   cases b2 : (inRow x8_2 a.length : Bool) with
   | false => cases (cF b2 h)
   | true =>
    have h := cT b2 h
    refine XS.rd E0_ok rfl [0, 2, 4, 7] rfl (v := pp 0 ((Int.toNat x8_2) * 1)) (v_idx (s := 1) (x := (src 14 (.tmp 5))) (y := (src 14 (.tmp 6))) (b := 0) (o := 0) (len := a.length) (cap := a.length) (ik := .i64) (i := x8_2) (off := (Int.toNat x8_2) * 1) (d := (some (path 12 7))) (by kernel_rfl) (by kernel_rfl) (by kernel_rfl) b2 (by omega)) (σ' := [(0, ii x8_2), (2, pp 3 0), (4, pp 7 0), (7, pp 0 ((Int.toNat x8_2) * 1))]) (by kernel_rfl) ?_
    refine XS.rd E0_ok rfl [0, 2, 4, 8] rfl (v := ii (List.getD a (Int.toNat x8_2) 0)) (v_load1 (encI_ok .i64) (x := (src 14 (.tmp 7))) (b := 0) (off := (Int.toNat x8_2) * 1) (xs := a) (fz := z0) (e := y0) (es := 1) (d := (some (path 12 8))) (by kernel_rfl) (by kernel_rfl) (by kernel_rfl) (Int.toNat x8_2) 0 0 (by first | with_reducible rfl | omega | rfl) (row_len (inRow_toNat b2) (by simp)) rfl rfl) (σ' := [(0, ii x8_2), (2, pp 3 0), (4, pp 7 0), (8, ii (List.getD a (Int.toNat x8_2) 0))]) (by kernel_rfl) ?_
    refine XS.step E0_ok 2 rfl [4, 8, 9, 10] rfl (σ' := [(4, pp 7 0), (8, ii (List.getD a (Int.toNat x8_2) 0)), (9, s0 1 b.length), (10, ii x8_2)]) (by kernel_rfl) ?_
    cases b3 : (inRow x8_2 b.length : Bool) with
    | false => cases (cF b3 h)
    | true =>
     have h := cT b3 h
     refine XS.rd E0_ok rfl [4, 8, 11] rfl (v := pp 1 ((Int.toNat x8_2) * 1)) (v_idx (s := 1) (x := (src 14 (.tmp 9))) (y := (src 14 (.tmp 10))) (b := 1) (o := 0) (len := b.length) (cap := b.length) (ik := .i64) (i := x8_2) (off := (Int.toNat x8_2) * 1) (d := (some (path 12 11))) (by kernel_rfl) (by kernel_rfl) (by kernel_rfl) b3 (by omega)) (σ' := [(4, pp 7 0), (8, ii (List.getD a (Int.toNat x8_2) 0)), (11, pp 1 ((Int.toNat x8_2) * 1))]) (by kernel_rfl) ?_
     refine XS.rd E0_ok rfl [4, 8, 12] rfl (v := ii (List.getD b (Int.toNat x8_2) 0)) (v_load1 (encI_ok .i64) (x := (src 14 (.tmp 11))) (b := 1) (off := (Int.toNat x8_2) * 1) (xs := b) (fz := z1) (e := y1) (es := 1) (d := (some (path 12 12))) (by kernel_rfl) (by kernel_rfl) (by kernel_rfl) (Int.toNat x8_2) 0 0 (by first | with_reducible rfl | omega | rfl) (row_len (inRow_toNat b3) (by simp)) rfl rfl) (σ' := [(4, pp 7 0), (8, ii (List.getD a (Int.toNat x8_2) 0)), (12, ii (List.getD b (Int.toNat x8_2) 0))]) (by kernel_rfl) ?_
     refine XS.step E0_ok 1 rfl [4, 13] rfl (σ' := [(4, pp 7 0), (13, .agg #[ii (List.getD a (Int.toNat x8_2) 0), ii (List.getD b (Int.toNat x8_2) 0)])]) (by kernel_rfl) ?_
     refine XS.done (by kernel_rfl) ?_
     refine rT 1 [(4, pp 7 0)] ((7, .cells [ii (List.getD a (Int.toNat x8_2) 0), ii (List.getD b (Int.toNat x8_2) 0)] 0 118 0) :: (6, rI lh6_2) :: (5, iM mh5_2) :: (4, .cells [.map (some 5), s0 6 lh6_2.length] 0 144 0) :: qha22 a b y0 y1 z0 z1 []) 8 ?_
     refine dQ ?_
     show XQ _ _ _ _ _ _ _ _
     refine XQ.ret (by kernel_rfl) ?_
     refine ⟨fun i q => (by cases q), .agg #[ii (List.getD a (Int.toNat x8_2) 0), ii (List.getD b (Int.toNat x8_2) 0)], (by kernel_rfl), ?_⟩
     refine XR.conv (σ' := [(1, .func (.func 67) #[] #[pp 2 0, pp 3 0]), (5, pp 4 0), (7, ii x7_2), (8, ii x8_2), (13, .agg #[ii (List.getD a (Int.toNat x8_2) 0), ii (List.getD b (Int.toNat x8_2) 0)])]) (h' := ((7, .cells [ii (List.getD a (Int.toNat x8_2) 0), ii (List.getD b (Int.toNat x8_2) 0)] 0 118 0) :: (6, rI lh6_2) :: (5, iM mh5_2) :: (4, .cells [.map (some 5), s0 6 lh6_2.length] 0 144 0) :: qha22 a b y0 y1 z0 z1 [])) (c' := 8) ?_ (by kernel_rfl)
     refine XR.callK E0_ok [1, 5, 7, 8] rfl (K := 88) (args := [pp 4 0, .agg #[ii (List.getD a (Int.toNat x8_2) 0), ii (List.getD b (Int.toNat x8_2) 0)]]) (d := (some (path 12 14))) (by kernel_rfl) ?_
     refine KC.bodyN E0_ok (F := Proofs.Tryz.f88) (by kernel_rfl) (code := f50_C88) (by kernel_rfl) (nt := 47) (by kernel_rfl) (rs := []) (by kernel_rfl) (by kernel_rfl) (σ := [(0, pp 4 0), (1, .agg #[ii (List.getD a (Int.toNat x8_2) 0), ii (List.getD b (Int.toNat x8_2) 0)])]) (by kernel_rfl) ?_
     refine qQ ?_
     refine rT 1 [(0, pp 4 0), (3, pp 8 0)] ((8, .cells [ii (List.getD a (Int.toNat x8_2) 0), ii (List.getD b (Int.toNat x8_2) 0)] 0 118 0) :: (7, .cells [ii (List.getD a (Int.toNat x8_2) 0), ii (List.getD b (Int.toNat x8_2) 0)] 0 118 0) :: (6, rI lh6_2) :: (5, iM mh5_2) :: (4, .cells [.map (some 5), s0 6 lh6_2.length] 0 144 0) :: qha22 a b y0 y1 z0 z1 []) 9 ?_
     refine dQ ?_
     show XQ _ _ _ _ _ _ _ _
     refine sQ ?_
     refine qQ ?_
     refine rS 5 [(0, pp 4 0), (3, pp 8 0), (10, .bool false)] ?_
     refine dQ ?_
     show XQ _ _ _ _ _ _ _ _
     refine iF (.tmp 10) ?_
     refine kQ ?_
     show XQ _ _ _ _ _ _ _ _
     refine sQ ?_
     refine XQ.quiet E0_ok (by kernel_rfl) (by kernel_rfl) ?_
     refine XU.run E0_ok 1 5 [0, 3, 19, 20] rfl (σ' := [(0, pp 4 0), (3, pp 8 0), (19, .map (some 5)), (20, .agg #[ii (List.getD a (Int.toNat x8_2) 0), ii (List.getD b (Int.toNat x8_2) 0)])]) (by kernel_rfl) ?_
     cases b4 : (Nat.beq [List.getD a (Int.toNat x8_2) 0, List.getD b (Int.toNat x8_2) 0].length 2 && lensA 2 mh5_2 : Bool) with
     | false => cases (cF b4 h)
     | true =>
      have h := cT b4 h
      refine XU.rd E0_ok [0, 3, 21] rfl (v := .tuple #[ii (getA 0 mh5_2 [List.getD a (Int.toNat x8_2) 0, List.getD b (Int.toNat x8_2) 0]), .bool (hasA mh5_2 [List.getD a (Int.toNat x8_2) 0, List.getD b (Int.toNat x8_2) 0])]) (v_mgetAo (Value.int .i64) (n := 2) (x := (src 47 (.tmp 19))) (i := (src 47 (.tmp 20))) (z := .int .i64 0) (d := (some (path 12 21))) (b := 5) (k := [List.getD a (Int.toNat x8_2) 0, List.getD b (Int.toNat x8_2) 0]) (l := mh5_2) (d0 := 0) (by kernel_rfl) (by kernel_rfl) (by kernel_rfl) rfl (by kernel_rfl) b4 rfl rfl rfl) (σ' := [(0, pp 4 0), (3, pp 8 0), (21, .tuple #[ii (getA 0 mh5_2 [List.getD a (Int.toNat x8_2) 0, List.getD b (Int.toNat x8_2) 0]), .bool (hasA mh5_2 [List.getD a (Int.toNat x8_2) 0, List.getD b (Int.toNat x8_2) 0])])]) (by kernel_rfl) ?_
      refine XU.run E0_ok 1 5 [0, 3, 4, 5] rfl (σ' := [(0, pp 4 0), (3, pp 8 0), (4, ii (getA 0 mh5_2 [List.getD a (Int.toNat x8_2) 0, List.getD b (Int.toNat x8_2) 0])), (5, .bool (hasA mh5_2 [List.getD a (Int.toNat x8_2) 0, List.getD b (Int.toNat x8_2) 0]))]) (by kernel_rfl) ?_
      refine XU.done (by kernel_rfl) ?_
      show XQ _ _ _ _ _ _ _ _
      refine sQ ?_
      refine qQ ?_
      refine rS 2 [(0, pp 4 0), (3, pp 8 0), (4, ii (getA 0 mh5_2 [List.getD a (Int.toNat x8_2) 0, List.getD b (Int.toNat x8_2) 0])), (25, .bool (!(hasA mh5_2 [List.getD a (Int.toNat x8_2) 0, List.getD b (Int.toNat x8_2) 0])))] ?_
      refine dQ ?_
      show XQ _ _ _ _ _ _ _ _
      cases b5 : (!(hasA mh5_2 [List.getD a (Int.toNat x8_2) 0, List.getD b (Int.toNat x8_2) 0]) : Bool) with
      | true =>
       have h := cT b5 h
       refine iT (.tmp 25) ?_
       refine qQ ?_
       refine rS 4 [(0, pp 4 0), (3, pp 8 0), (29, .map (some 5))] ?_
       refine XR.rd E0_ok [0, 3, 30] rfl (v := ii ((mh5_2.length : Nat) : Int)) (v_mlen (x := (src 47 (.tmp 29))) (d := (some (path 12 30))) (b := 5) (es := imA (Value.int .i64) mh5_2) (n := mh5_2.length) (by kernel_rfl) (by kernel_rfl) (by kernel_rfl) (imA_len _ _)) (σ' := [(0, pp 4 0), (3, pp 8 0), (30, ii ((mh5_2.length : Nat) : Int))]) (by kernel_rfl) ?_
       refine rS 1 [(0, pp 4 0), (3, pp 8 0), (4, ii ((mh5_2.length : Nat) : Int))] ?_
       refine dQ ?_
       show XQ _ _ _ _ _ _ _ _
       refine XQ.tail E0_ok 6 (by kernel_rfl) (by kernel_rfl) ?_
       refine XS.step E0_ok 6 rfl [0, 4, 34, 35, 36] rfl (σ' := [(0, pp 4 0), (4, ii ((mh5_2.length : Nat) : Int)), (34, .map (some 5)), (35, .agg #[ii (List.getD a (Int.toNat x8_2) 0), ii (List.getD b (Int.toNat x8_2) 0)]), (36, ii ((mh5_2.length : Nat) : Int))]) (by kernel_rfl) ?_
       refine XS.done (by kernel_rfl) ?_
       refine XR.ef E0_ok [0, 4] rfl (e_mputA (Value.int .i64) (n := 2) (m := (src 47 (.tmp 34))) (i := (src 47 (.tmp 35))) (x := (src 47 (.tmp 36))) (d := none) (b := 5) (k := [List.getD a (Int.toNat x8_2) 0, List.getD b (Int.toNat x8_2) 0]) (l := mh5_2) (a := ((mh5_2.length : Nat) : Int)) (h' := ((8, .cells [ii (List.getD a (Int.toNat x8_2) 0), ii (List.getD b (Int.toNat x8_2) 0)] 0 118 0) :: (7, .cells [ii (List.getD a (Int.toNat x8_2) 0), ii (List.getD b (Int.toNat x8_2) 0)] 0 118 0) :: (6, rI lh6_2) :: (5, iM (putA mh5_2 [List.getD a (Int.toNat x8_2) 0, List.getD b (Int.toNat x8_2) 0] ((mh5_2.length : Nat) : Int))) :: (4, .cells [.map (some 5), s0 6 lh6_2.length] 0 144 0) :: qha22 a b y0 y1 z0 z1 [])) (by kernel_rfl) (by kernel_rfl) (by kernel_rfl) rfl (by kernel_rfl) b4 (by kernel_rfl) rfl rfl) (σ' := [(0, pp 4 0), (4, ii ((mh5_2.length : Nat) : Int))]) (by kernel_rfl) ?_
       refine dQ ?_
       show XQ _ _ _ _ _ _ _ _
       refine rQ ?_
       refine rT 7 [(37, pp 4 0), (41, s0 6 lh6_2.length), (43, s0 9 1)] ((9, .cells [ii ((mh5_2.length : Nat) : Int)] 0 3 1) :: (8, .cells [ii (List.getD a (Int.toNat x8_2) 0), ii (List.getD b (Int.toNat x8_2) 0)] 0 118 0) :: (7, .cells [ii (List.getD a (Int.toNat x8_2) 0), ii (List.getD b (Int.toNat x8_2) 0)] 0 118 0) :: (6, rI lh6_2) :: (5, iM (putA mh5_2 [List.getD a (Int.toNat x8_2) 0, List.getD b (Int.toNat x8_2) 0] ((mh5_2.length : Nat) : Int))) :: (4, .cells [.map (some 5), s0 6 lh6_2.length] 0 144 0) :: qha22 a b y0 y1 z0 z1 []) 10 ?_
       cases b6 : (fitsB (lh6_2.length + 1) 8 : Bool) with
       | false => cases (cF b6 h)
       | true =>
        have h := cT b6 h
        refine XR.ef E0_ok [37, 44] rfl (e_append (encI_ok .i64) (bytes := 8) (e := 3) (x := (src 47 (.tmp 41))) (y := (src 47 (.tmp 43))) (b := 6) (len := lh6_2.length) (cap := lh6_2.length) (xs := lh6_2) (m := 0) (ys := [((mh5_2.length : Nat) : Int)]) (d := (some (path 12 44))) (n' := (lh6_2 ++ [((mh5_2.length : Nat) : Int)]).length) (h' := ((10, rI (lh6_2 ++ [((mh5_2.length : Nat) : Int)])) :: (9, .cells [ii ((mh5_2.length : Nat) : Int)] 0 3 1) :: (8, .cells [ii (List.getD a (Int.toNat x8_2) 0), ii (List.getD b (Int.toNat x8_2) 0)] 0 118 0) :: (7, .cells [ii (List.getD a (Int.toNat x8_2) 0), ii (List.getD b (Int.toNat x8_2) 0)] 0 118 0) :: (5, iM (putA mh5_2 [List.getD a (Int.toNat x8_2) 0, List.getD b (Int.toNat x8_2) 0] ((mh5_2.length : Nat) : Int))) :: (4, .cells [.map (some 5), s0 6 lh6_2.length] 0 144 0) :: qha22 a b y0 y1 z0 z1 [])) (by kernel_rfl) (by kernel_rfl) (by kernel_rfl) (by kernel_rfl) rfl (by simp) (by simp) b6 (by simp) (by kernel_rfl)) (σ' := [(37, pp 4 0), (44, s0 10 ((lh6_2 ++ [((mh5_2.length : Nat) : Int)]).length))]) (by kernel_rfl) ?_
        refine rT 3 [] ((10, rI (lh6_2 ++ [((mh5_2.length : Nat) : Int)])) :: (9, .cells [ii ((mh5_2.length : Nat) : Int)] 0 3 1) :: (8, .cells [ii (List.getD a (Int.toNat x8_2) 0), ii (List.getD b (Int.toNat x8_2) 0)] 0 118 0) :: (7, .cells [ii (List.getD a (Int.toNat x8_2) 0), ii (List.getD b (Int.toNat x8_2) 0)] 0 118 0) :: (5, iM (putA mh5_2 [List.getD a (Int.toNat x8_2) 0, List.getD b (Int.toNat x8_2) 0] ((mh5_2.length : Nat) : Int))) :: (4, .cells [.map (some 5), s0 10 ((lh6_2 ++ [((mh5_2.length : Nat) : Int)]).length)] 0 144 0) :: qha22 a b y0 y1 z0 z1 []) 11 ?_
        refine dQ ?_
        refine ⟨fun i q => (by cases q), .tuple #[], (by kernel_rfl), ?_⟩
        refine XR.conv (σ' := [(1, .func (.func 67) #[] #[pp 2 0, pp 3 0]), (5, pp 4 0), (7, ii x7_2), (8, ii x8_2)]) (h' := ((10, rI (lh6_2 ++ [((mh5_2.length : Nat) : Int)])) :: (9, .cells [ii ((mh5_2.length : Nat) : Int)] 0 3 1) :: (8, .cells [ii (List.getD a (Int.toNat x8_2) 0), ii (List.getD b (Int.toNat x8_2) 0)] 0 118 0) :: (7, .cells [ii (List.getD a (Int.toNat x8_2) 0), ii (List.getD b (Int.toNat x8_2) 0)] 0 118 0) :: (5, iM (putA mh5_2 [List.getD a (Int.toNat x8_2) 0, List.getD b (Int.toNat x8_2) 0] ((mh5_2.length : Nat) : Int))) :: (4, .cells [.map (some 5), s0 10 ((lh6_2 ++ [((mh5_2.length : Nat) : Int)]).length)] 0 144 0) :: qha22 a b y0 y1 z0 z1 [])) (c' := 11) ?_ (by kernel_rfl)
        refine dQ ?_
        show XQ _ _ _ _ _ _ _ _
        refine rQ ?_
        refine rS 2 [(1, .func (.func 67) #[] #[pp 2 0, pp 3 0]), (5, pp 4 0), (7, ii x7_2), (8, ii (w64 (x8_2 + 1)))] ?_
        refine dQ ?_
        show XL _ _ _ _ _ _ _ _ _
        refine XL.ren (σ' := [(1, .func (.func 67) #[] #[pp 2 0, pp 3 0]), (5, pp 4 0), (7, ii x7_2), (8, ii (w64 (x8_2 + 1)))]) (h' := ((6, rI (lh6_2 ++ [((mh5_2.length : Nat) : Int)])) :: (5, iM (putA mh5_2 [List.getD a (Int.toNat x8_2) 0, List.getD b (Int.toNat x8_2) 0] ((mh5_2.length : Nat) : Int))) :: (4, .cells [.map (some 5), s0 6 ((lh6_2 ++ [((mh5_2.length : Nat) : Int)]).length)] 0 144 0) :: qha22 a b y0 y1 z0 z1 [])) (c' := 7) [0, 1, 2, 3, 4, 5, 10] (by decide) rfl ⟨rfl, rfl, rfl, rfl, trivial⟩ ⟨⟨_, _, rfl, rfl, .inl ⟨rfl, rwI⟩⟩, ⟨_, _, rfl, rfl, .inl ⟨rfl, trivial⟩⟩, ⟨_, _, rfl, rfl, .inr ⟨_, _, _, _, rfl, rfl⟩⟩, ⟨_, _, rfl, rfl, .inr ⟨_, _, _, _, rfl, rfl⟩⟩, ⟨_, _, rfl, rfl, .inr ⟨_, _, _, _, rfl, rfl⟩⟩, ⟨_, _, rfl, rfl, .inl ⟨rfl, rwI⟩⟩, ⟨_, _, rfl, rfl, .inl ⟨rfl, rwI⟩⟩, trivial⟩ rfl ?_
        refine XL.conv (f50_2_ok m fuel z0 y0 a z1 y1 b x7_2 (w64 (x8_2 + 1)) (putA mh5_2 [List.getD a (Int.toNat x8_2) 0, List.getD b (Int.toNat x8_2) 0] ((mh5_2.length : Nat) : Int)) (lh6_2 ++ [((mh5_2.length : Nat) : Int)]) o h Q hQ) (by first | with_reducible rfl | simp | rfl)
      | false =>
       have h := cF b5 h
       refine iF (.tmp 25) ?_
       refine kQ ?_
       show XQ _ _ _ _ _ _ _ _
       refine rQ ?_
       refine rT 7 [(37, pp 4 0), (41, s0 6 lh6_2.length), (43, s0 9 1)] ((9, .cells [ii (getA 0 mh5_2 [List.getD a (Int.toNat x8_2) 0, List.getD b (Int.toNat x8_2) 0])] 0 3 1) :: (8, .cells [ii (List.getD a (Int.toNat x8_2) 0), ii (List.getD b (Int.toNat x8_2) 0)] 0 118 0) :: (7, .cells [ii (List.getD a (Int.toNat x8_2) 0), ii (List.getD b (Int.toNat x8_2) 0)] 0 118 0) :: (6, rI lh6_2) :: (5, iM mh5_2) :: (4, .cells [.map (some 5), s0 6 lh6_2.length] 0 144 0) :: qha22 a b y0 y1 z0 z1 []) 10 ?_
       cases b7 : (fitsB (lh6_2.length + 1) 8 : Bool) with
       | false => cases (cF b7 h)
       | true =>
        have h := cT b7 h
        refine XR.ef E0_ok [37, 44] rfl (e_append (encI_ok .i64) (bytes := 8) (e := 3) (x := (src 47 (.tmp 41))) (y := (src 47 (.tmp 43))) (b := 6) (len := lh6_2.length) (cap := lh6_2.length) (xs := lh6_2) (m := 0) (ys := [getA 0 mh5_2 [List.getD a (Int.toNat x8_2) 0, List.getD b (Int.toNat x8_2) 0]]) (d := (some (path 12 44))) (n' := (lh6_2 ++ [getA 0 mh5_2 [List.getD a (Int.toNat x8_2) 0, List.getD b (Int.toNat x8_2) 0]]).length) (h' := ((10, rI (lh6_2 ++ [getA 0 mh5_2 [List.getD a (Int.toNat x8_2) 0, List.getD b (Int.toNat x8_2) 0]])) :: (9, .cells [ii (getA 0 mh5_2 [List.getD a (Int.toNat x8_2) 0, List.getD b (Int.toNat x8_2) 0])] 0 3 1) :: (8, .cells [ii (List.getD a (Int.toNat x8_2) 0), ii (List.getD b (Int.toNat x8_2) 0)] 0 118 0) :: (7, .cells [ii (List.getD a (Int.toNat x8_2) 0), ii (List.getD b (Int.toNat x8_2) 0)] 0 118 0) :: (5, iM mh5_2) :: (4, .cells [.map (some 5), s0 6 lh6_2.length] 0 144 0) :: qha22 a b y0 y1 z0 z1 [])) (by kernel_rfl) (by kernel_rfl) (by kernel_rfl) (by kernel_rfl) rfl (by simp) (by simp) b7 (by simp) (by kernel_rfl)) (σ' := [(37, pp 4 0), (44, s0 10 ((lh6_2 ++ [getA 0 mh5_2 [List.getD a (Int.toNat x8_2) 0, List.getD b (Int.toNat x8_2) 0]]).length))]) (by kernel_rfl) ?_
        refine rT 3 [] ((10, rI (lh6_2 ++ [getA 0 mh5_2 [List.getD a (Int.toNat x8_2) 0, List.getD b (Int.toNat x8_2) 0]])) :: (9, .cells [ii (getA 0 mh5_2 [List.getD a (Int.toNat x8_2) 0, List.getD b (Int.toNat x8_2) 0])] 0 3 1) :: (8, .cells [ii (List.getD a (Int.toNat x8_2) 0), ii (List.getD b (Int.toNat x8_2) 0)] 0 118 0) :: (7, .cells [ii (List.getD a (Int.toNat x8_2) 0), ii (List.getD b (Int.toNat x8_2) 0)] 0 118 0) :: (5, iM mh5_2) :: (4, .cells [.map (some 5), s0 10 ((lh6_2 ++ [getA 0 mh5_2 [List.getD a (Int.toNat x8_2) 0, List.getD b (Int.toNat x8_2) 0]]).length)] 0 144 0) :: qha22 a b y0 y1 z0 z1 []) 11 ?_
        refine dQ ?_
        refine ⟨fun i q => (by cases q), .tuple #[], (by kernel_rfl), ?_⟩
        refine XR.conv (σ' := [(1, .func (.func 67) #[] #[pp 2 0, pp 3 0]), (5, pp 4 0), (7, ii x7_2), (8, ii x8_2)]) (h' := ((10, rI (lh6_2 ++ [getA 0 mh5_2 [List.getD a (Int.toNat x8_2) 0, List.getD b (Int.toNat x8_2) 0]])) :: (9, .cells [ii (getA 0 mh5_2 [List.getD a (Int.toNat x8_2) 0, List.getD b (Int.toNat x8_2) 0])] 0 3 1) :: (8, .cells [ii (List.getD a (Int.toNat x8_2) 0), ii (List.getD b (Int.toNat x8_2) 0)] 0 118 0) :: (7, .cells [ii (List.getD a (Int.toNat x8_2) 0), ii (List.getD b (Int.toNat x8_2) 0)] 0 118 0) :: (5, iM mh5_2) :: (4, .cells [.map (some 5), s0 10 ((lh6_2 ++ [getA 0 mh5_2 [List.getD a (Int.toNat x8_2) 0, List.getD b (Int.toNat x8_2) 0]]).length)] 0 144 0) :: qha22 a b y0 y1 z0 z1 [])) (c' := 11) ?_ (by kernel_rfl)
        refine dQ ?_
        show XQ _ _ _ _ _ _ _ _
        refine rQ ?_
        refine rS 2 [(1, .func (.func 67) #[] #[pp 2 0, pp 3 0]), (5, pp 4 0), (7, ii x7_2), (8, ii (w64 (x8_2 + 1)))] ?_
        refine dQ ?_
        show XL _ _ _ _ _ _ _ _ _
        refine XL.ren (σ' := [(1, .func (.func 67) #[] #[pp 2 0, pp 3 0]), (5, pp 4 0), (7, ii x7_2), (8, ii (w64 (x8_2 + 1)))]) (h' := ((6, rI (lh6_2 ++ [getA 0 mh5_2 [List.getD a (Int.toNat x8_2) 0, List.getD b (Int.toNat x8_2) 0]])) :: (5, iM mh5_2) :: (4, .cells [.map (some 5), s0 6 ((lh6_2 ++ [getA 0 mh5_2 [List.getD a (Int.toNat x8_2) 0, List.getD b (Int.toNat x8_2) 0]]).length)] 0 144 0) :: qha22 a b y0 y1 z0 z1 [])) (c' := 7) [0, 1, 2, 3, 4, 5, 10] (by decide) rfl ⟨rfl, rfl, rfl, rfl, trivial⟩ ⟨⟨_, _, rfl, rfl, .inl ⟨rfl, rwI⟩⟩, ⟨_, _, rfl, rfl, .inl ⟨rfl, trivial⟩⟩, ⟨_, _, rfl, rfl, .inr ⟨_, _, _, _, rfl, rfl⟩⟩, ⟨_, _, rfl, rfl, .inr ⟨_, _, _, _, rfl, rfl⟩⟩, ⟨_, _, rfl, rfl, .inr ⟨_, _, _, _, rfl, rfl⟩⟩, ⟨_, _, rfl, rfl, .inl ⟨rfl, rwI⟩⟩, ⟨_, _, rfl, rfl, .inl ⟨rfl, rwI⟩⟩, trivial⟩ rfl ?_
        refine XL.conv (f50_2_ok m fuel z0 y0 a z1 y1 b x7_2 (w64 (x8_2 + 1)) mh5_2 (lh6_2 ++ [getA 0 mh5_2 [List.getD a (Int.toNat x8_2) 0, List.getD b (Int.toNat x8_2) 0]]) o h Q hQ) (by first | with_reducible rfl | simp | rfl)
  | false =>
   have h := cF b1 h
   refine iF (.tmp 9) ?_
   refine XQ.ren (σ' := [(5, pp 4 0)]) (h' := ((6, rI lh6_2) :: (5, iM mh5_2) :: (4, .cells [.map (some 5), s0 6 lh6_2.length] 0 144 0) :: qha22 a b y0 y1 z0 z1 [])) (c' := 7) [0, 1, 2, 3, 4, 5, 6] (by decide) rfl ⟨rfl, trivial⟩ ⟨⟨_, _, rfl, rfl, .inl ⟨rfl, rwI⟩⟩, ⟨_, _, rfl, rfl, .inl ⟨rfl, trivial⟩⟩, ⟨_, _, rfl, rfl, .inr ⟨_, _, _, _, rfl, rfl⟩⟩, ⟨_, _, rfl, rfl, .inr ⟨_, _, _, _, rfl, rfl⟩⟩, ⟨_, _, rfl, rfl, .inr ⟨_, _, _, _, rfl, rfl⟩⟩, ⟨_, _, rfl, rfl, .inl ⟨rfl, rwI⟩⟩, ⟨_, _, rfl, rfl, .inl ⟨rfl, rwI⟩⟩, trivial⟩ rfl ?_
   refine XQ.exit (i := 0) (by kernel_rfl) ?_
   cases h
   exact hQ
def f50 (m : Nat) (a : List Int) (b : List Int) : Option (List Int) :=
 cond (decide ((0 : Int) < ((a.length : Nat) : Int))) (
  cond (inRow 0 a.length) (
   cond (inRow 0 b.length) (
    cond (Nat.beq [List.getD a 0 0, List.getD b 0 0].length 2 && lensA (α := Int) 2 []) (
     cond (!(hasA (α := Int) [] [List.getD a 0 0, List.getD b 0 0])) (
      (f50_1 m m a b ((a.length : Nat) : Int) 1 (putA (α := Int) [] [List.getD a 0 0, List.getD b 0 0] ((0 : Nat) : Int)) [((0 : Nat) : Int)]).bind fun o1 =>
       some (o1.2)
     ) (
      (f50_2 m m a b ((a.length : Nat) : Int) 1 [] [getA (α := Int) 0 [] [List.getD a 0 0, List.getD b 0 0]]).bind fun o2 =>
       some (o2.2)
     )
    ) none
   ) none
  ) none
 ) (
  some ([])
 )
set_option maxHeartbeats 8000000 in
abbrev qha23 (a : List Int) (b : List Int) (y0 : Nat) (y1 : Nat) (z0 : Nat) (z1 : Nat) (t : Heap) : Heap := (3, .cells [s0 1 b.length] 0 23 0) :: (2, .cells [s0 0 a.length] 0 23 0) :: (1, rc (encI .i64) b z1 y1 1) :: (0, rc (encI .i64) a z0 y0 1) :: t
abbrev qha24 (a : List Int) (t : St) : St := (5, pp 4 0) :: (7, ii ((a.length : Nat) : Int)) :: t
theorem f50_ok (m : Nat) (z0 : Nat) (y0 : Nat) (z1 : Nat) (y1 : Nat) (a : List Int) (b : List Int) (o : List Int) (h : f50 m a b = some o) : KC E0 50 [s0 0 a.length, s0 1 b.length] [(1, rc (encI .i64) b z1 y1 1), (0, rc (encI .i64) a z0 y0 1)] 2 (fun v h' c' => v = s0 2 o.length ∧ h' = [(2, rI o)] ++ [(1, rc (encI .i64) b z1 y1 1), (0, rc (encI .i64) a z0 y0 1)] ∧ c' = 3) := by
 refine KC.bodyN E0_ok (F := Proofs.Tryz.f50) (by kernel_rfl) (code := f50_C50) (by kernel_rfl) (nt := 9) (by kernel_rfl) (rs := [.tmp 4]) (by kernel_rfl) (by kernel_rfl) (σ := [(0, s0 0 a.length), (1, s0 1 b.length)]) (by kernel_rfl) ?_
 unfold f50 at h
 refine qQ ?_
 refine rT 3 [(2, pp 2 0), (3, pp 3 0)] (qha23 a b y0 y1 z0 z1 []) 4 ?_
 refine nQ id ?_
 refine rS 3 [(6, ii ((a.length : Nat) : Int)), (7, .func (.func 67) #[] #[pp 2 0, pp 3 0])] ?_
 refine XR.callK E0_ok [8] rfl (K := 66) (args := [ii ((a.length : Nat) : Int), .func (.func 67) #[] #[pp 2 0, pp 3 0]]) (d := (some (path 12 8))) (by kernel_rfl) ?_
 refine KC.bodyN E0_ok (F := Proofs.Tryz.f66) (by kernel_rfl) (code := f50_C66) (by kernel_rfl) (nt := 18) (by kernel_rfl) (rs := [.tmp 4]) (by kernel_rfl) (by kernel_rfl) (σ := [(0, ii ((a.length : Nat) : Int)), (1, .func (.func 67) #[] #[pp 2 0, pp 3 0])]) (by kernel_rfl) ?_
 refine qQ ?_
 refine rS 1 [(0, ii ((a.length : Nat) : Int)), (1, .func (.func 67) #[] #[pp 2 0, pp 3 0])] ?_
 refine nQ id ?_
 refine rT 1 [(0, ii ((a.length : Nat) : Int)), (1, .func (.func 67) #[] #[pp 2 0, pp 3 0]), (5, pp 4 0)] ((4, .cells [.map none, .slice none 0 0] 0 144 0) :: qha23 a b y0 y1 z0 z1 []) 5 ?_
 refine dQ ?_
 show XQ _ _ _ _ _ _ _ _
 refine XQ.ghost 3 1 rfl (σ' := [(0, ii ((a.length : Nat) : Int)), (1, .func (.func 67) #[] #[pp 2 0, pp 3 0]), (5, pp 4 0)]) (h' := ((4, .cells [.map none, s0 5 0] 0 144 0) :: qha23 a b y0 y1 z0 z1 [])) ⟨rfl, rfl, rfl, trivial⟩ ⟨⟨_, rfl, .inr ⟨_, _, _, _, rfl, rfl⟩⟩, ⟨_, rfl, .inl rfl⟩, ⟨_, rfl, .inl rfl⟩, ⟨_, rfl, .inl rfl⟩, ⟨_, rfl, .inl rfl⟩, trivial⟩ ?_
 refine XQ.conv (σ' := [(0, ii ((a.length : Nat) : Int)), (1, .func (.func 67) #[] #[pp 2 0, pp 3 0]), (5, pp 4 0)]) (h' := ((5, rI []) :: (4, .cells [.map none, s0 5 0] 0 144 0) :: qha23 a b y0 y1 z0 z1 [])) (c' := 6) ?_ (by kernel_rfl)
 refine sQ ?_
 refine qQ ?_
 refine rS 2 ((1, .func (.func 67) #[] #[pp 2 0, pp 3 0]) :: qha24 a [(8, ii 0)]) ?_
 refine dQ ?_
 show XQ _ _ _ _ _ _ _ _
 refine XQ.block (id := 0) (by kernel_rfl) ?_
 refine XQ.loop (m + 1) (by kernel_rfl) ?_
 refine XL.succ E0_ok ?_
 refine qQ ?_
 refine rS 1 ((1, .func (.func 67) #[] #[pp 2 0, pp 3 0]) :: qha24 a [(8, ii 0), (9, .bool (decide ((0 : Int) < ((a.length : Nat) : Int))))]) ?_
 refine dQ ?_
 show XQ _ _ _ _ _ _ _ _
 refine sQ ?_
 cases b1 : (decide ((0 : Int) < ((a.length : Nat) : Int)) : Bool) with
 | true =>
  have h := cT b1 h
  refine iT (.tmp 9) ?_
  refine kQ ?_
  show XQ _ _ _ _ _ _ _ _
  refine sQ ?_
  refine XQ.block (id := 1) (by kernel_rfl) ?_
  refine qQ ?_
  refine rS 2 [(1, .func (.func 67) #[] #[pp 2 0, pp 3 0]), (5, pp 4 0), (6, ii 0), (7, ii ((a.length : Nat) : Int)), (8, ii 0)] ?_
  refine dQ ?_
  show XQ _ _ _ _ _ _ _ _
  refine rQ ?_
  refine rS 2 ((1, .func (.func 67) #[] #[pp 2 0, pp 3 0]) :: qha24 a [(8, ii 0), (11, .func (.func 67) #[] #[pp 2 0, pp 3 0]), (12, ii 0)]) ?_
  refine XR.callK E0_ok [1, 5, 7, 8, 13] rfl (K := 67) (args := [ii 0, pp 2 0, pp 3 0]) (d := (some (path 12 13))) (by kernel_rfl) ?_
  refine KC.bodyN E0_ok (F := Proofs.Tryz.f67) (by kernel_rfl) (code := f50_C67) (by kernel_rfl) (nt := 14) (by kernel_rfl) (rs := [.cell 4 118]) (by kernel_rfl) (by kernel_rfl) (σ := [(0, ii 0), (1, pp 2 0), (2, pp 3 0)]) (by kernel_rfl) ?_
  refine qQ ?_
  refine rT 1 [(0, ii 0), (1, pp 2 0), (2, pp 3 0), (4, pp 6 0)] ((6, .cells [ii 0, ii 0] 0 118 0) :: (5, rI []) :: (4, .cells [.map none, s0 5 0] 0 144 0) :: qha23 a b y0 y1 z0 z1 []) 7 ?_
  refine dQ ?_
  show XQ _ _ _ _ _ _ _ _
  refine sQ ?_
  refine XQ.tail E0_ok 9 (by kernel_rfl) (by kernel_rfl) ?_
  refine XS.step E0_ok 2 rfl [0, 2, 4, 5, 6] rfl (σ' := [(0, ii 0), (2, pp 3 0), (4, pp 6 0), (5, s0 0 a.length), (6, ii 0)]) (by kernel_rfl) ?_
  cases b2 : (inRow 0 a.length : Bool) with
  | false => cases (cF b2 h)
  | true =>
   have h := cT b2 h
   refine XS.rd E0_ok rfl [0, 2, 4, 7] rfl (v := pp 0 (0 * 1)) (v_idx (s := 1) (x := (src 14 (.tmp 5))) (y := (src 14 (.tmp 6))) (b := 0) (o := 0) (len := a.length) (cap := a.length) (ik := .i64) (i := 0) (off := 0 * 1) (d := (some (path 12 7))) (by kernel_rfl) (by kernel_rfl) (by kernel_rfl) b2 (by omega)) (σ' := [(0, ii 0), (2, pp 3 0), (4, pp 6 0), (7, pp 0 (0 * 1))]) (by kernel_rfl) ?_
   refine XS.rd E0_ok rfl [0, 2, 4, 8] rfl (v := ii (List.getD a 0 0)) (v_load1 (encI_ok .i64) (x := (src 14 (.tmp 7))) (b := 0) (off := 0 * 1) (xs := a) (fz := z0) (e := y0) (es := 1) (d := (some (path 12 8))) (by kernel_rfl) (by kernel_rfl) (by kernel_rfl) 0 0 0 (by first | with_reducible rfl | omega | rfl) (row_len (inRow_toNat b2) (by simp)) rfl rfl) (σ' := [(0, ii 0), (2, pp 3 0), (4, pp 6 0), (8, ii (List.getD a 0 0))]) (by kernel_rfl) ?_
   refine XS.step E0_ok 2 rfl [4, 8, 9, 10] rfl (σ' := [(4, pp 6 0), (8, ii (List.getD a 0 0)), (9, s0 1 b.length), (10, ii 0)]) (by kernel_rfl) ?_
   cases b3 : (inRow 0 b.length : Bool) with
   | false => cases (cF b3 h)
   | true =>
    have h := cT b3 h
    refine XS.rd E0_ok rfl [4, 8, 11] rfl (v := pp 1 (0 * 1)) (v_idx (s := 1) (x := (src 14 (.tmp 9))) (y := (src 14 (.tmp 10))) (b := 1) (o := 0) (len := b.length) (cap := b.length) (ik := .i64) (i := 0) (off := 0 * 1) (d := (some (path 12 11))) (by kernel_rfl) (by kernel_rfl) (by kernel_rfl) b3 (by omega)) (σ' := [(4, pp 6 0), (8, ii (List.getD a 0 0)), (11, pp 1 (0 * 1))]) (by kernel_rfl) ?_
    refine XS.rd E0_ok rfl [4, 8, 12] rfl (v := ii (List.getD b 0 0)) (v_load1 (encI_ok .i64) (x := (src 14 (.tmp 11))) (b := 1) (off := 0 * 1) (xs := b) (fz := z1) (e := y1) (es := 1) (d := (some (path 12 12))) (by kernel_rfl) (by kernel_rfl) (by kernel_rfl) 0 0 0 (by first | with_reducible rfl | omega | rfl) (row_len (inRow_toNat b3) (by simp)) rfl rfl) (σ' := [(4, pp 6 0), (8, ii (List.getD a 0 0)), (12, ii (List.getD b 0 0))]) (by kernel_rfl) ?_
    refine XS.step E0_ok 1 rfl [4, 13] rfl (σ' := [(4, pp 6 0), (13, .agg #[ii (List.getD a 0 0), ii (List.getD b 0 0)])]) (by kernel_rfl) ?_
    refine XS.done (by kernel_rfl) ?_
    refine rT 1 [(4, pp 6 0)] ((6, .cells [ii (List.getD a 0 0), ii (List.getD b 0 0)] 0 118 0) :: (5, rI []) :: (4, .cells [.map none, s0 5 0] 0 144 0) :: qha23 a b y0 y1 z0 z1 []) 7 ?_
    refine dQ ?_
    show XQ _ _ _ _ _ _ _ _
    refine XQ.ret (by kernel_rfl) ?_
    refine ⟨fun i q => (by cases q), .agg #[ii (List.getD a 0 0), ii (List.getD b 0 0)], (by kernel_rfl), ?_⟩
    refine XR.conv (σ' := ((1, .func (.func 67) #[] #[pp 2 0, pp 3 0]) :: qha24 a [(8, ii 0), (13, .agg #[ii (List.getD a 0 0), ii (List.getD b 0 0)])])) (h' := ((6, .cells [ii (List.getD a 0 0), ii (List.getD b 0 0)] 0 118 0) :: (5, rI []) :: (4, .cells [.map none, s0 5 0] 0 144 0) :: qha23 a b y0 y1 z0 z1 [])) (c' := 7) ?_ (by kernel_rfl)
    refine XR.callK E0_ok [1, 5, 7, 8] rfl (K := 88) (args := [pp 4 0, .agg #[ii (List.getD a 0 0), ii (List.getD b 0 0)]]) (d := (some (path 12 14))) (by kernel_rfl) ?_
    refine KC.bodyN E0_ok (F := Proofs.Tryz.f88) (by kernel_rfl) (code := f50_C88) (by kernel_rfl) (nt := 47) (by kernel_rfl) (rs := []) (by kernel_rfl) (by kernel_rfl) (σ := [(0, pp 4 0), (1, .agg #[ii (List.getD a 0 0), ii (List.getD b 0 0)])]) (by kernel_rfl) ?_
    refine qQ ?_
    refine rT 1 [(0, pp 4 0), (3, pp 7 0)] ((7, .cells [ii (List.getD a 0 0), ii (List.getD b 0 0)] 0 118 0) :: (6, .cells [ii (List.getD a 0 0), ii (List.getD b 0 0)] 0 118 0) :: (5, rI []) :: (4, .cells [.map none, s0 5 0] 0 144 0) :: qha23 a b y0 y1 z0 z1 []) 8 ?_
    refine dQ ?_
    show XQ _ _ _ _ _ _ _ _
    refine sQ ?_
    refine qQ ?_
    refine rS 5 [(0, pp 4 0), (3, pp 7 0), (10, .bool true)] ?_
    refine dQ ?_
    show XQ _ _ _ _ _ _ _ _
    refine iT (.tmp 10) ?_
    refine rQ ?_
    refine rT 5 [(0, pp 4 0), (3, pp 7 0)] ((8, iM []) :: (7, .cells [ii (List.getD a 0 0), ii (List.getD b 0 0)] 0 118 0) :: (6, .cells [ii (List.getD a 0 0), ii (List.getD b 0 0)] 0 118 0) :: (5, rI []) :: (4, .cells [.map (some 8), s0 5 0] 0 144 0) :: qha23 a b y0 y1 z0 z1 []) 9 ?_
    refine dQ ?_
    show XQ _ _ _ _ _ _ _ _
    refine sQ ?_
    refine XQ.quiet E0_ok (by kernel_rfl) (by kernel_rfl) ?_
    refine XU.run E0_ok 1 5 [0, 3, 19, 20] rfl (σ' := [(0, pp 4 0), (3, pp 7 0), (19, .map (some 8)), (20, .agg #[ii (List.getD a 0 0), ii (List.getD b 0 0)])]) (by kernel_rfl) ?_
    cases b4 : (Nat.beq [List.getD a 0 0, List.getD b 0 0].length 2 && lensA (α := Int) 2 [] : Bool) with
    | false => cases (cF b4 h)
    | true =>
     have h := cT b4 h
     refine XU.rd E0_ok [0, 3, 21] rfl (v := .tuple #[ii (getA (α := Int) 0 [] [List.getD a 0 0, List.getD b 0 0]), .bool (hasA (α := Int) [] [List.getD a 0 0, List.getD b 0 0])]) (v_mgetAo (Value.int .i64) (n := 2) (x := (src 47 (.tmp 19))) (i := (src 47 (.tmp 20))) (z := .int .i64 0) (d := (some (path 12 21))) (b := 8) (k := [List.getD a 0 0, List.getD b 0 0]) (l := []) (d0 := 0) (by kernel_rfl) (by kernel_rfl) (by kernel_rfl) rfl (by kernel_rfl) b4 rfl rfl rfl) (σ' := [(0, pp 4 0), (3, pp 7 0), (21, .tuple #[ii (getA (α := Int) 0 [] [List.getD a 0 0, List.getD b 0 0]), .bool (hasA (α := Int) [] [List.getD a 0 0, List.getD b 0 0])])]) (by kernel_rfl) ?_
     refine XU.run E0_ok 1 5 [0, 3, 4, 5] rfl (σ' := [(0, pp 4 0), (3, pp 7 0), (4, ii (getA (α := Int) 0 [] [List.getD a 0 0, List.getD b 0 0])), (5, .bool (hasA (α := Int) [] [List.getD a 0 0, List.getD b 0 0]))]) (by kernel_rfl) ?_
     refine XU.done (by kernel_rfl) ?_
     show XQ _ _ _ _ _ _ _ _
     refine sQ ?_
     refine qQ ?_
     refine rS 2 [(0, pp 4 0), (3, pp 7 0), (4, ii (getA (α := Int) 0 [] [List.getD a 0 0, List.getD b 0 0])), (25, .bool (!(hasA (α := Int) [] [List.getD a 0 0, List.getD b 0 0])))] ?_
     refine dQ ?_
     show XQ _ _ _ _ _ _ _ _
     cases b5 : (!(hasA (α := Int) [] [List.getD a 0 0, List.getD b 0 0]) : Bool) with
     | true =>
      have h := cT b5 h
      refine iT (.tmp 25) ?_
      refine qQ ?_
      refine rS 4 [(0, pp 4 0), (3, pp 7 0), (29, .map (some 8))] ?_
      refine XR.rd E0_ok [0, 3, 30] rfl (v := ii ((0 : Nat) : Int)) (v_mlen (x := (src 47 (.tmp 29))) (d := (some (path 12 30))) (b := 8) (es := imA (Value.int .i64) ([] : List (List Int × Int))) (n := 0) (by kernel_rfl) (by kernel_rfl) (by kernel_rfl) rfl) (σ' := [(0, pp 4 0), (3, pp 7 0), (30, ii ((0 : Nat) : Int))]) (by kernel_rfl) ?_
      refine rS 1 [(0, pp 4 0), (3, pp 7 0), (4, ii ((0 : Nat) : Int))] ?_
      refine dQ ?_
      show XQ _ _ _ _ _ _ _ _
      refine XQ.tail E0_ok 6 (by kernel_rfl) (by kernel_rfl) ?_
      refine XS.step E0_ok 6 rfl [0, 4, 34, 35, 36] rfl (σ' := [(0, pp 4 0), (4, ii ((0 : Nat) : Int)), (34, .map (some 8)), (35, .agg #[ii (List.getD a 0 0), ii (List.getD b 0 0)]), (36, ii ((0 : Nat) : Int))]) (by kernel_rfl) ?_
      refine XS.done (by kernel_rfl) ?_
      refine XR.ef E0_ok [0, 4] rfl (e_mputA (Value.int .i64) (n := 2) (m := (src 47 (.tmp 34))) (i := (src 47 (.tmp 35))) (x := (src 47 (.tmp 36))) (d := none) (b := 8) (k := [List.getD a 0 0, List.getD b 0 0]) (l := []) (a := ((0 : Nat) : Int)) (h' := ((8, iM (putA (α := Int) [] [List.getD a 0 0, List.getD b 0 0] ((0 : Nat) : Int))) :: (7, .cells [ii (List.getD a 0 0), ii (List.getD b 0 0)] 0 118 0) :: (6, .cells [ii (List.getD a 0 0), ii (List.getD b 0 0)] 0 118 0) :: (5, rI []) :: (4, .cells [.map (some 8), s0 5 0] 0 144 0) :: qha23 a b y0 y1 z0 z1 [])) (by kernel_rfl) (by kernel_rfl) (by kernel_rfl) rfl (by kernel_rfl) b4 (by kernel_rfl) rfl rfl) (σ' := [(0, pp 4 0), (4, ii ((0 : Nat) : Int))]) (by kernel_rfl) ?_
      refine dQ ?_
      show XQ _ _ _ _ _ _ _ _
      refine rQ ?_
      refine rT 7 [(37, pp 4 0), (41, s0 5 0), (43, s0 9 1)] ((9, .cells [ii ((0 : Nat) : Int)] 0 3 1) :: (8, iM (putA (α := Int) [] [List.getD a 0 0, List.getD b 0 0] ((0 : Nat) : Int))) :: (7, .cells [ii (List.getD a 0 0), ii (List.getD b 0 0)] 0 118 0) :: (6, .cells [ii (List.getD a 0 0), ii (List.getD b 0 0)] 0 118 0) :: (5, rI []) :: (4, .cells [.map (some 8), s0 5 0] 0 144 0) :: qha23 a b y0 y1 z0 z1 []) 10 ?_
      refine XR.ef E0_ok [37, 44] rfl (e_append (encI_ok .i64) (bytes := 8) (e := 3) (x := (src 47 (.tmp 41))) (y := (src 47 (.tmp 43))) (b := 5) (len := 0) (cap := 0) (xs := []) (m := 0) (ys := [((0 : Nat) : Int)]) (d := (some (path 12 44))) (n' := 1) (h' := ((10, rI [((0 : Nat) : Int)]) :: (9, .cells [ii ((0 : Nat) : Int)] 0 3 1) :: (8, iM (putA (α := Int) [] [List.getD a 0 0, List.getD b 0 0] ((0 : Nat) : Int))) :: (7, .cells [ii (List.getD a 0 0), ii (List.getD b 0 0)] 0 118 0) :: (6, .cells [ii (List.getD a 0 0), ii (List.getD b 0 0)] 0 118 0) :: (4, .cells [.map (some 8), s0 5 0] 0 144 0) :: qha23 a b y0 y1 z0 z1 [])) (by kernel_rfl) (by kernel_rfl) (by kernel_rfl) (by kernel_rfl) rfl (by simp) (by simp) (show (fitsB (0 + 1) 8) = true by first | rfl | simp) (by simp) (by kernel_rfl)) (σ' := [(37, pp 4 0), (44, s0 10 1)]) (by kernel_rfl) ?_
      refine rT 3 [] ((10, rI [((0 : Nat) : Int)]) :: (9, .cells [ii ((0 : Nat) : Int)] 0 3 1) :: (8, iM (putA (α := Int) [] [List.getD a 0 0, List.getD b 0 0] ((0 : Nat) : Int))) :: (7, .cells [ii (List.getD a 0 0), ii (List.getD b 0 0)] 0 118 0) :: (6, .cells [ii (List.getD a 0 0), ii (List.getD b 0 0)] 0 118 0) :: (4, .cells [.map (some 8), s0 10 1] 0 144 0) :: qha23 a b y0 y1 z0 z1 []) 11 ?_
      refine dQ ?_
      refine ⟨fun i q => (by cases q), .tuple #[], (by kernel_rfl), ?_⟩
      refine XR.conv (σ' := ((1, .func (.func 67) #[] #[pp 2 0, pp 3 0]) :: qha24 a [(8, ii 0)])) (h' := ((10, rI [((0 : Nat) : Int)]) :: (9, .cells [ii ((0 : Nat) : Int)] 0 3 1) :: (8, iM (putA (α := Int) [] [List.getD a 0 0, List.getD b 0 0] ((0 : Nat) : Int))) :: (7, .cells [ii (List.getD a 0 0), ii (List.getD b 0 0)] 0 118 0) :: (6, .cells [ii (List.getD a 0 0), ii (List.getD b 0 0)] 0 118 0) :: (4, .cells [.map (some 8), s0 10 1] 0 144 0) :: qha23 a b y0 y1 z0 z1 [])) (c' := 11) ?_ (by kernel_rfl)
      refine dQ ?_
      show XQ _ _ _ _ _ _ _ _
      refine rQ ?_
      refine rS 2 ((1, .func (.func 67) #[] #[pp 2 0, pp 3 0]) :: qha24 a [(8, ii 1)]) ?_
      refine dQ ?_
      show XL _ _ _ _ _ _ _ _ _
      obtain ⟨o1, o1_h, h⟩ := bS h
      refine XL.ren (σ' := ((1, .func (.func 67) #[] #[pp 2 0, pp 3 0]) :: qha24 a [(8, ii 1)])) (h' := ((6, rI [((0 : Nat) : Int)]) :: (5, iM (putA (α := Int) [] [List.getD a 0 0, List.getD b 0 0] ((0 : Nat) : Int))) :: (4, .cells [.map (some 5), s0 6 1] 0 144 0) :: qha23 a b y0 y1 z0 z1 [])) (c' := 7) [0, 1, 2, 3, 4, 8, 10] (by decide) rfl ⟨rfl, rfl, rfl, rfl, trivial⟩ ⟨⟨_, _, rfl, rfl, .inl ⟨rfl, rwI⟩⟩, ⟨_, _, rfl, rfl, .inl ⟨rfl, trivial⟩⟩, ⟨_, _, rfl, rfl, .inr ⟨_, _, _, _, rfl, rfl⟩⟩, ⟨_, _, rfl, rfl, .inr ⟨_, _, _, _, rfl, rfl⟩⟩, ⟨_, _, rfl, rfl, .inr ⟨_, _, _, _, rfl, rfl⟩⟩, ⟨_, _, rfl, rfl, .inl ⟨rfl, rwI⟩⟩, ⟨_, _, rfl, rfl, .inl ⟨rfl, rwI⟩⟩, trivial⟩ rfl ?_
      refine XL.conv (f50_1_ok m m z0 y0 a z1 y1 b ((a.length : Nat) : Int) 1 (putA (α := Int) [] [List.getD a 0 0, List.getD b 0 0] ((0 : Nat) : Int)) [((0 : Nat) : Int)] o1 o1_h _ ?_) (by first | with_reducible rfl | simp | rfl)
      show XQ _ _ _ _ _ _ _ _
      refine qQ ?_
      refine rS 3 [(4, s0 6 o1.2.length)] ?_
      refine dQ ?_
      show XQ _ _ _ _ _ _ _ _
      refine XQ.ret (by kernel_rfl) ?_
      refine ⟨fun i q => (by cases q), s0 6 o1.2.length, (by kernel_rfl), ?_⟩
      refine XR.conv (σ' := [(8, s0 6 o1.2.length)]) (h' := ((6, rI o1.2) :: (5, iM o1.1) :: (4, .cells [.map (some 5), s0 6 o1.2.length] 0 144 0) :: qha23 a b y0 y1 z0 z1 [])) (c' := 7) ?_ (by kernel_rfl)
      refine rS 1 [(4, s0 6 o1.2.length)] ?_
      refine dQ ?_
      show XQ _ _ _ _ _ _ _ _
      refine XQ.ren (σ' := [(4, s0 2 o1.2.length)]) (h' := [(2, rI o1.2), (1, rc (encI .i64) b z1 y1 1), (0, rc (encI .i64) a z0 y0 1)]) (c' := 3) [0, 1, 6] (by decide) rfl ⟨rfl, trivial⟩ ⟨⟨_, _, rfl, rfl, .inl ⟨rfl, rwI⟩⟩, ⟨_, _, rfl, rfl, .inl ⟨rfl, rwI⟩⟩, ⟨_, _, rfl, rfl, .inl ⟨rfl, rwI⟩⟩, trivial⟩ rfl ?_
      refine XQ.ret (by kernel_rfl) ?_
      have h := Option.some.inj h
      subst h
      exact ⟨fun i q => (by cases q), s0 2 o1.2.length, (by kernel_rfl), (by kernel_rfl), (by kernel_rfl), rfl⟩
     | false =>
      have h := cF b5 h
      refine iF (.tmp 25) ?_
      refine kQ ?_
      show XQ _ _ _ _ _ _ _ _
      refine rQ ?_
      refine rT 7 [(37, pp 4 0), (41, s0 5 0), (43, s0 9 1)] ((9, .cells [ii (getA (α := Int) 0 [] [List.getD a 0 0, List.getD b 0 0])] 0 3 1) :: (8, iM []) :: (7, .cells [ii (List.getD a 0 0), ii (List.getD b 0 0)] 0 118 0) :: (6, .cells [ii (List.getD a 0 0), ii (List.getD b 0 0)] 0 118 0) :: (5, rI []) :: (4, .cells [.map (some 8), s0 5 0] 0 144 0) :: qha23 a b y0 y1 z0 z1 []) 10 ?_
      refine XR.ef E0_ok [37, 44] rfl (e_append (encI_ok .i64) (bytes := 8) (e := 3) (x := (src 47 (.tmp 41))) (y := (src 47 (.tmp 43))) (b := 5) (len := 0) (cap := 0) (xs := []) (m := 0) (ys := [getA (α := Int) 0 [] [List.getD a 0 0, List.getD b 0 0]]) (d := (some (path 12 44))) (n' := 1) (h' := ((10, rI [getA (α := Int) 0 [] [List.getD a 0 0, List.getD b 0 0]]) :: (9, .cells [ii (getA (α := Int) 0 [] [List.getD a 0 0, List.getD b 0 0])] 0 3 1) :: (8, iM []) :: (7, .cells [ii (List.getD a 0 0), ii (List.getD b 0 0)] 0 118 0) :: (6, .cells [ii (List.getD a 0 0), ii (List.getD b 0 0)] 0 118 0) :: (4, .cells [.map (some 8), s0 5 0] 0 144 0) :: qha23 a b y0 y1 z0 z1 [])) (by kernel_rfl) (by kernel_rfl) (by kernel_rfl) (by kernel_rfl) rfl (by simp) (by simp) (show (fitsB (0 + 1) 8) = true by first | rfl | simp) (by simp) (by kernel_rfl)) (σ' := [(37, pp 4 0), (44, s0 10 1)]) (by kernel_rfl) ?_
      refine rT 3 [] ((10, rI [getA (α := Int) 0 [] [List.getD a 0 0, List.getD b 0 0]]) :: (9, .cells [ii (getA (α := Int) 0 [] [List.getD a 0 0, List.getD b 0 0])] 0 3 1) :: (8, iM []) :: (7, .cells [ii (List.getD a 0 0), ii (List.getD b 0 0)] 0 118 0) :: (6, .cells [ii (List.getD a 0 0), ii (List.getD b 0 0)] 0 118 0) :: (4, .cells [.map (some 8), s0 10 1] 0 144 0) :: qha23 a b y0 y1 z0 z1 []) 11 ?_
      refine dQ ?_
      refine ⟨fun i q => (by cases q), .tuple #[], (by kernel_rfl), ?_⟩
      refine XR.conv (σ' := ((1, .func (.func 67) #[] #[pp 2 0, pp 3 0]) :: qha24 a [(8, ii 0)])) (h' := ((10, rI [getA (α := Int) 0 [] [List.getD a 0 0, List.getD b 0 0]]) :: (9, .cells [ii (getA (α := Int) 0 [] [List.getD a 0 0, List.getD b 0 0])] 0 3 1) :: (8, iM []) :: (7, .cells [ii (List.getD a 0 0), ii (List.getD b 0 0)] 0 118 0) :: (6, .cells [ii (List.getD a 0 0), ii (List.getD b 0 0)] 0 118 0) :: (4, .cells [.map (some 8), s0 10 1] 0 144 0) :: qha23 a b y0 y1 z0 z1 [])) (c' := 11) ?_ (by kernel_rfl)
      refine dQ ?_
      show XQ _ _ _ _ _ _ _ _
      refine rQ ?_
      refine rS 2 ((1, .func (.func 67) #[] #[pp 2 0, pp 3 0]) :: qha24 a [(8, ii 1)]) ?_
      refine dQ ?_
      show XL _ _ _ _ _ _ _ _ _
      obtain ⟨o2, o2_h, h⟩ := bS h
      refine XL.ren (σ' := ((1, .func (.func 67) #[] #[pp 2 0, pp 3 0]) :: qha24 a [(8, ii 1)])) (h' := ((6, rI [getA (α := Int) 0 [] [List.getD a 0 0, List.getD b 0 0]]) :: (5, iM []) :: (4, .cells [.map (some 5), s0 6 1] 0 144 0) :: qha23 a b y0 y1 z0 z1 [])) (c' := 7) [0, 1, 2, 3, 4, 8, 10] (by decide) rfl ⟨rfl, rfl, rfl, rfl, trivial⟩ ⟨⟨_, _, rfl, rfl, .inl ⟨rfl, rwI⟩⟩, ⟨_, _, rfl, rfl, .inl ⟨rfl, trivial⟩⟩, ⟨_, _, rfl, rfl, .inr ⟨_, _, _, _, rfl, rfl⟩⟩, ⟨_, _, rfl, rfl, .inr ⟨_, _, _, _, rfl, rfl⟩⟩, ⟨_, _, rfl, rfl, .inr ⟨_, _, _, _, rfl, rfl⟩⟩, ⟨_, _, rfl, rfl, .inl ⟨rfl, rwI⟩⟩, ⟨_, _, rfl, rfl, .inl ⟨rfl, rwI⟩⟩, trivial⟩ rfl ?_
      refine XL.conv (f50_2_ok m m z0 y0 a z1 y1 b ((a.length : Nat) : Int) 1 [] [getA (α := Int) 0 [] [List.getD a 0 0, List.getD b 0 0]] o2 o2_h _ ?_) (by first | with_reducible rfl | simp | rfl)
      show XQ _ _ _ _ _ _ _ _
      refine qQ ?_
      refine rS 3 [(4, s0 6 o2.2.length)] ?_
      refine dQ ?_
      show XQ _ _ _ _ _ _ _ _
      refine XQ.ret (by kernel_rfl) ?_
      refine ⟨fun i q => (by cases q), s0 6 o2.2.length, (by kernel_rfl), ?_⟩
      refine XR.conv (σ' := [(8, s0 6 o2.2.length)]) (h' := ((6, rI o2.2) :: (5, iM o2.1) :: (4, .cells [.map (some 5), s0 6 o2.2.length] 0 144 0) :: qha23 a b y0 y1 z0 z1 [])) (c' := 7) ?_ (by kernel_rfl)
      refine rS 1 [(4, s0 6 o2.2.length)] ?_
      refine dQ ?_
      show XQ _ _ _ _ _ _ _ _
      refine XQ.ren (σ' := [(4, s0 2 o2.2.length)]) (h' := [(2, rI o2.2), (1, rc (encI .i64) b z1 y1 1), (0, rc (encI .i64) a z0 y0 1)]) (c' := 3) [0, 1, 6] (by decide) rfl ⟨rfl, trivial⟩ ⟨⟨_, _, rfl, rfl, .inl ⟨rfl, rwI⟩⟩, ⟨_, _, rfl, rfl, .inl ⟨rfl, rwI⟩⟩, ⟨_, _, rfl, rfl, .inl ⟨rfl, rwI⟩⟩, trivial⟩ rfl ?_
      refine XQ.ret (by kernel_rfl) ?_
      have h := Option.some.inj h
      subst h
      exact ⟨fun i q => (by cases q), s0 2 o2.2.length, (by kernel_rfl), (by kernel_rfl), (by kernel_rfl), rfl⟩
 | false =>
  have h := cF b1 h
  refine iF (.tmp 9) ?_
  refine XQ.exit (i := 0) (by kernel_rfl) ?_
  show XQ _ _ _ _ _ _ _ _
  refine qQ ?_
  refine rS 3 [(4, s0 5 0)] ?_
  refine dQ ?_
  show XQ _ _ _ _ _ _ _ _
  refine XQ.ret (by kernel_rfl) ?_
  refine ⟨fun i q => (by cases q), s0 5 0, (by kernel_rfl), ?_⟩
  refine XR.conv (σ' := [(8, s0 5 0)]) (h' := ((5, rI []) :: (4, .cells [.map none, s0 5 0] 0 144 0) :: qha23 a b y0 y1 z0 z1 [])) (c' := 6) ?_ (by kernel_rfl)
  refine rS 1 [(4, s0 5 0)] ?_
  refine dQ ?_
  show XQ _ _ _ _ _ _ _ _
  refine XQ.ren (σ' := [(4, s0 2 0)]) (h' := [(2, rI []), (1, rc (encI .i64) b z1 y1 1), (0, rc (encI .i64) a z0 y0 1)]) (c' := 3) [0, 1, 5] (by decide) rfl ⟨rfl, trivial⟩ ⟨⟨_, _, rfl, rfl, .inl ⟨rfl, rwI⟩⟩, ⟨_, _, rfl, rfl, .inl ⟨rfl, rwI⟩⟩, ⟨_, _, rfl, rfl, .inl ⟨rfl, rwI⟩⟩, trivial⟩ rfl ?_
  refine XQ.ret (by kernel_rfl) ?_
  have h := Option.some.inj h
  subst h
  exact ⟨fun i q => (by cases q), s0 2 0, (by kernel_rfl), (by kernel_rfl), (by kernel_rfl), rfl⟩
noncomputable def f20_C20 : Code := Proofs.Tryz.f20.body.getD .skip
def f20 (m : Nat) (a : List Int) (b : List Int) : Option (Bool × Int) :=
 (f46 m a b).bind fun r1 =>
  cond (r1 != 0) (
   some (false, r1)
  ) (
   (f50 m a b).bind fun r2 =>
    (f49 m r2 a).bind fun r3 =>
     some (r3, 0)
  )
set_option maxHeartbeats 8000000 in
theorem f20_ok (m : Nat) (z0 : Nat) (y0 : Nat) (z1 : Nat) (y1 : Nat) (a : List Int) (b : List Int) (o : Bool × Int) (h : f20 m a b = some o) : KC E0 20 [s0 0 a.length, s0 1 b.length] [(1, rc (encI .i64) b z1 y1 1), (0, rc (encI .i64) a z0 y0 1)] 2 (fun v _ _ => v = .tuple #[.bool o.1, ii o.2]) := by
 refine KC.bodyN E0_ok (F := Proofs.Tryz.f20) (by kernel_rfl) (code := f20_C20) (by kernel_rfl) (nt := 18) (by kernel_rfl) (rs := [.tmp 4, .tmp 5]) (by kernel_rfl) (by kernel_rfl) (σ := [(0, s0 0 a.length), (1, s0 1 b.length)]) (by kernel_rfl) ?_
 unfold f20 at h
 refine qQ ?_
 refine rS 2 [(0, s0 0 a.length), (1, s0 1 b.length)] ?_
 refine dQ ?_
 show XQ _ _ _ _ _ _ _ _
 refine sQ ?_
 refine qQ ?_
 refine rS 2 [(0, s0 0 a.length), (1, s0 1 b.length), (7, s0 0 a.length), (8, s0 1 b.length)] ?_
 obtain ⟨r1, r1_h, h⟩ := bS h
 refine XR.call E0_ok [0, 1, 9] rfl (K := 46) (args := [s0 0 a.length, s0 1 b.length]) (d := (some (path 12 9))) (by kernel_rfl) (KQ.call (KC.quiet E0_ok (args0 := [s0 0 a.length, s0 1 b.length]) (h0 := [(1, rc (encI .i64) b (z1 + ((rowC (encI .i64) b).length + 1)) y1 1), (0, rc (encI .i64) a (z0 + ((rowC (encI .i64) a).length + 1)) y0 1)]) (n := 2) (V := ii r1) [0, 1] (f46_ok m (z0 + ((rowC (encI .i64) a).length + 1)) y0 (z1 + ((rowC (encI .i64) b).length + 1)) y1 a b r1 r1_h) rfl (by rfl) (by decide) rfl (by kernel_rfl) ⟨⟨_, _, rfl, rfl, .inl ⟨rfl, rwI⟩⟩, ⟨_, _, rfl, rfl, .inl ⟨rfl, rwI⟩⟩, trivial⟩) rfl) ?_
 rintro _ _ _ ⟨rfl, rfl, rfl⟩
 refine XR.conv (σ' := [(0, s0 0 a.length), (1, s0 1 b.length), (9, ii r1)]) (h' := [(1, rc (encI .i64) b z1 y1 1), (0, rc (encI .i64) a z0 y0 1)]) (c' := 2) ?_ (by kernel_rfl)
 refine rS 1 [(0, s0 0 a.length), (1, s0 1 b.length), (6, ii r1)] ?_
 refine nQ id ?_
 refine rS 2 [(0, s0 0 a.length), (1, s0 1 b.length), (6, ii r1), (11, .bool (r1 != 0))] ?_
 refine dQ ?_
 show XQ _ _ _ _ _ _ _ _
 cases b1 : (r1 != 0 : Bool) with
 | true =>
  have h := cT b1 h
  refine iT (.tmp 11) ?_
  refine qQ ?_
  refine rS 3 [(4, .bool false), (5, ii r1)] ?_
  refine dQ ?_
  show XQ _ _ _ _ _ _ _ _
  refine XQ.ret (by kernel_rfl) ?_
  have h := Option.some.inj h
  subst h
  exact ⟨fun i q => (by cases q), .tuple #[.bool false, ii r1], (by kernel_rfl), rfl⟩
 | false =>
  have h := cF b1 h
  refine iF (.tmp 11) ?_
  refine kQ ?_
  show XQ _ _ _ _ _ _ _ _
  refine qQ ?_
  refine rS 2 [(0, s0 0 a.length), (13, s0 0 a.length), (14, s0 1 b.length)] ?_
  obtain ⟨r2, r2_h, h⟩ := bS h
  refine XR.call E0_ok [0, 15] rfl (K := 50) (args := [s0 0 a.length, s0 1 b.length]) (d := (some (path 12 15))) (by kernel_rfl) (KC.liftH (n0 := 2) (m := 1) (args0 := [s0 0 a.length, s0 1 b.length]) (h0 := [(1, rc (encI .i64) b (z1 + ((rowC (encI .i64) b).length + 1)) y1 1), (0, rc (encI .i64) a (z0 + ((rowC (encI .i64) a).length + 1)) y0 1)]) (V := s0 2 r2.length) (V2 := s0 2 r2.length) (H := [(2, rI r2)]) (H2 := [(2, rI r2)]) [0, 1] [3, 4, 2] (f50_ok m (z0 + ((rowC (encI .i64) a).length + 1)) y0 (z1 + ((rowC (encI .i64) b).length + 1)) y1 a b r2 r2_h) (by rfl) (by decide) rfl (by kernel_rfl) ⟨⟨_, _, rfl, rfl, .inl ⟨rfl, rwI⟩⟩, ⟨_, _, rfl, rfl, .inl ⟨rfl, rwI⟩⟩, trivial⟩ (by decide) (by decide) (by kernel_rfl) ⟨⟨_, _, rfl, rfl, .inl ⟨rfl, rwI⟩⟩, trivial⟩ (by rfl)) ?_
  rintro _ _ _ ⟨rfl, rfl, rfl⟩
  refine XR.conv (σ' := [(0, s0 0 a.length), (15, s0 2 r2.length)]) (h' := [(2, rI r2), (1, rc (encI .i64) b z1 y1 1), (0, rc (encI .i64) a z0 y0 1)]) (c' := 3) ?_ (by kernel_rfl)
  refine rS 1 [(15, s0 2 r2.length), (16, s0 0 a.length)] ?_
  obtain ⟨r3, r3_h, h⟩ := bS h
  refine XR.call E0_ok [17] rfl (K := 49) (args := [s0 2 r2.length, s0 0 a.length]) (d := (some (path 12 17))) (by kernel_rfl) (KQ.call (KC.quiet E0_ok (args0 := [s0 0 r2.length, s0 1 a.length]) (h0 := [(1, rc (encI .i64) a (z0 + ((rowC (encI .i64) a).length + 1)) y0 1), (0, rc (encI .i64) r2 (0 + ((rowC (encI .i64) r2).length + 1)) 3 1)]) (n := 2) (V := .bool r3) [2, 0] (f49_ok m (0 + ((rowC (encI .i64) r2).length + 1)) 3 (z0 + ((rowC (encI .i64) a).length + 1)) y0 r2 a r3 r3_h) rfl (by rfl) (by decide) rfl (by kernel_rfl) ⟨⟨_, _, rfl, rfl, .inl ⟨rfl, rwI⟩⟩, ⟨_, _, rfl, rfl, .inl ⟨rfl, rwI⟩⟩, trivial⟩) rfl) ?_
  rintro _ _ _ ⟨rfl, rfl, rfl⟩
  refine XR.conv (σ' := [(17, .bool r3)]) (h' := [(2, rI r2), (1, rc (encI .i64) b z1 y1 1), (0, rc (encI .i64) a z0 y0 1)]) (c' := 3) ?_ (by kernel_rfl)
  refine rS 2 [(4, .bool r3), (5, ii 0)] ?_
  refine dQ ?_
  show XQ _ _ _ _ _ _ _ _
  refine XQ.ret (by kernel_rfl) ?_
  have h := Option.some.inj h
  subst h
  exact ⟨fun i q => (by cases q), .tuple #[.bool r3, ii 0], (by kernel_rfl), rfl⟩
end Go.Xm
