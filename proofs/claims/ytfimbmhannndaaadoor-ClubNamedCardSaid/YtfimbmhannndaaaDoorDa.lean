/- What these functions of the program compute, as functions in Lean, and the proofs that they do: club.within, vitolaref12.in, club.Check, vitolaref12.Check, vitolaref12.sum, club.stands. Conditions: the library's variables hold what their texts lay. -/
import Derived.Test.YtfimbmhannndaaaDoorZk
import Derived.Test.YtfimbmhannndaaaDoorZx
import Derived.Test.YtfimbmhannndaaaDoorWa
import Derived.Test.YtfimbmhannndaaaDoorMy
namespace Go.Xm
open Go.RowKit
set_option linter.unusedVariables false
set_option linter.unusedSimpArgs false
set_option maxRecDepth 20000
noncomputable def f65_C65 : Code := Proofs.Tryd.f65.body.getD .skip
def f65 (m : Nat) (a : Int) (b : Int) (c : Int) : Option (Bool) :=
 cond (decide (b ≤ a)) (
  some (decide (a ≤ c))
 ) (
  some (false)
 )
theorem f65_ok (m : Nat) (a : Int) (b : Int) (c : Int) (o : Bool) (h : f65 m a b c = some o) (w : World) (hI : seatInv w) : Calls Proofs.Tryd.prog 65 #[ii a, ii b, ii c] w fun e w' => e = .returned (.bool o) ∧ Below w.heap.size w w' := by
 refine KC.calls (E := E0) (args := [ii a, ii b, ii c]) (v := .bool o) rfl rfl (KC.bodyN E0_ok (F := Proofs.Tryd.f65) (by kernel_rfl) (code := f65_C65) (by kernel_rfl) (nt := 15) (by kernel_rfl) (rs := [.tmp 6]) (by kernel_rfl) (by kernel_rfl) (σ := [(0, ii a), (1, ii b), (2, ii c)]) (by kernel_rfl) ?_) w (seatInv_size hI) hI
 unfold f65 at h
 refine qQ ?_
 refine rS 1 [(0, ii a), (1, ii b), (2, ii c)] ?_
 refine nQ id ?_
 refine rS 4 [(0, ii a), (2, ii c), (10, .bool (decide (b ≤ a)))] ?_
 cases b1 : (decide (b ≤ a) : Bool) with
 | true =>
  have h := cT b1 h
  refine rS 5 [(6, .bool (decide (a ≤ c)))] ?_
  refine dQ ?_
  show XQ _ _ _ _ _ _ _ _
  refine XQ.ret (by kernel_rfl) ?_
  have h := Option.some.inj h
  subst h
  exact ⟨fun i q => (by cases q), .bool (decide (a ≤ c)), (by kernel_rfl), rfl⟩
 | false =>
  have h := cF b1 h
  refine rS 5 [(6, .bool false)] ?_
  refine dQ ?_
  show XQ _ _ _ _ _ _ _ _
  refine XQ.ret (by kernel_rfl) ?_
  have h := Option.some.inj h
  subst h
  exact ⟨fun i q => (by cases q), .bool false, (by kernel_rfl), rfl⟩
def f66 (m : Nat) (a : Int) (b : Int) (c : Int) : Option (Bool) :=
 cond (decide (a ≥ b)) (
  some (decide (a ≤ c))
 ) (
  some (false)
 )
noncomputable def f21_C21 : Code := Proofs.Tryd.f21.body.getD .skip
noncomputable def f21_C68 : Code := Proofs.Tryd.f68.body.getD .skip
noncomputable def f21_C93 : Code := Proofs.Tryd.f93.body.getD .skip
noncomputable def f21_C69 : Code := Proofs.Tryd.f69.body.getD .skip
noncomputable def f21_L1 : Code := lft (lft (rgt (lft (rgt f21_C93))))
inductive Of21_1 where
 | r (x4_r1 : Int) (xh1_0_r1 : Int)
 | x0 (xh1_0_x01 : Int)
def f21_1 (m : Nat) : Nat → List Int → Int → Int → Int → Option Of21_1
 | 0, _, _, _, _ => none
 | fuel + 1, a, x7_1, x8_1, xh1_0_1 =>
  cond (decide (x8_1 < x7_1)) (
   cond (inRow x8_1 a.length) (
    (f65 m (List.getD a (Int.toNat x8_1) 0) 0 (w64 (xh1_0_1 - 1))).bind fun r3 =>
     cond (!r3) (
      some (.r x8_1 xh1_0_1)
     ) (
      f21_1 m fuel a x7_1 (w64 (x8_1 + 1)) xh1_0_1
     )
   ) none
  ) (
   some (.x0 xh1_0_1)
  )
theorem f21_1_ok (m : Nat) : ∀ (fuel : Nat) (z0 : Nat) (y0 : Nat) (a : List Int) (x7_1 : Int) (x8_1 : Int) (xh1_0_1 : Int) (o : Of21_1), f21_1 m fuel a x7_1 x8_1 xh1_0_1 = some o → ∀ Q : QP, (match o with | .r x4_r1 xh1_0_r1 => Q .ret [(4, ii x4_r1)] [(1, .cells [ii xh1_0_r1] 0 3 0), (0, rc (encI .i64) a z0 y0 1)] 2 | .x0 xh1_0_x01 => Q (.exit 0) [] [(1, .cells [ii xh1_0_x01] 0 3 0), (0, rc (encI .i64) a z0 y0 1)] 2) → XL E0 19 2 fuel f21_L1 [(0, s0 0 a.length), (1, .func (.func 69) #[] #[pp 1 0]), (7, ii x7_1), (8, ii x8_1)] [(1, .cells [ii xh1_0_1] 0 3 0), (0, rc (encI .i64) a z0 y0 1)] 2 Q
 | 0, z0, y0, a, x7_1, x8_1, xh1_0_1, o, h, Q, hQ => by cases h
 | fuel + 1, z0, y0, a, x7_1, x8_1, xh1_0_1, o, h, Q, hQ => by
  unfold f21_1 at h
  refine XL.succ E0_ok ?_
  refine qQ ?_
  refine rS 1 [(0, s0 0 a.length), (1, .func (.func 69) #[] #[pp 1 0]), (7, ii x7_1), (8, ii x8_1), (9, .bool (decide (x8_1 < x7_1)))] ?_
  refine dQ ?_
  show XQ _ _ _ _ _ _ _ _
  refine sQ ?_
  cases b1 : (decide (x8_1 < x7_1) : Bool) with
  | true =>
   have h := cT b1 h
   refine iT (.tmp 9) ?_
   refine kQ ?_
   show XQ _ _ _ _ _ _ _ _
   refine sQ ?_
   refine XQ.block (id := 1) (by kernel_rfl) ?_
   refine qQ ?_
   refine rS 2 [(0, s0 0 a.length), (1, .func (.func 69) #[] #[pp 1 0]), (5, ii x8_1), (7, ii x7_1), (8, ii x8_1)] ?_
   refine nQ id ?_
   refine rS 3 [(0, s0 0 a.length), (1, .func (.func 69) #[] #[pp 1 0]), (5, ii x8_1), (7, ii x7_1), (8, ii x8_1), (11, .func (.func 69) #[] #[pp 1 0]), (12, s0 0 a.length), (13, ii x8_1)] ?_
   cases b2 : (inRow x8_1 a.length : Bool) with
   | false => cases (cF b2 h)
   | true =>
    have h := cT b2 h
    refine XR.rd E0_ok [0, 1, 5, 7, 8, 11, 14] rfl (v := pp 0 ((Int.toNat x8_1) * 1)) (v_idx (s := 1) (x := (src 19 (.tmp 12))) (y := (src 19 (.tmp 13))) (b := 0) (o := 0) (len := a.length) (cap := a.length) (ik := .i64) (i := x8_1) (off := (Int.toNat x8_1) * 1) (d := (some (path 12 14))) (by kernel_rfl) (by kernel_rfl) (by kernel_rfl) b2 (by omega)) (σ' := [(0, s0 0 a.length), (1, .func (.func 69) #[] #[pp 1 0]), (5, ii x8_1), (7, ii x7_1), (8, ii x8_1), (11, .func (.func 69) #[] #[pp 1 0]), (14, pp 0 ((Int.toNat x8_1) * 1))]) (by kernel_rfl) ?_
    refine XR.rd E0_ok [0, 1, 5, 7, 8, 11, 15] rfl (v := ii (List.getD a (Int.toNat x8_1) 0)) (v_load1 (encI_ok .i64) (x := (src 19 (.tmp 14))) (b := 0) (off := (Int.toNat x8_1) * 1) (xs := a) (fz := z0) (e := y0) (es := 1) (d := (some (path 12 15))) (by kernel_rfl) (by kernel_rfl) (by kernel_rfl) (Int.toNat x8_1) 0 0 (by first | rfl | omega) (row_len (inRow_toNat b2) (by simp)) rfl rfl) (σ' := [(0, s0 0 a.length), (1, .func (.func 69) #[] #[pp 1 0]), (5, ii x8_1), (7, ii x7_1), (8, ii x8_1), (11, .func (.func 69) #[] #[pp 1 0]), (15, ii (List.getD a (Int.toNat x8_1) 0))]) (by kernel_rfl) ?_
    refine XR.callK E0_ok [0, 1, 5, 7, 8, 16] rfl (K := 69) (args := [ii (List.getD a (Int.toNat x8_1) 0), pp 1 0]) (d := (some (path 12 16))) (by kernel_rfl) ?_
    refine KC.bodyN E0_ok (F := Proofs.Tryd.f69) (by kernel_rfl) (code := f21_C69) (by kernel_rfl) (nt := 9) (by kernel_rfl) (rs := [.tmp 3]) (by kernel_rfl) (by kernel_rfl) (σ := [(0, ii (List.getD a (Int.toNat x8_1) 0)), (1, pp 1 0)]) (by kernel_rfl) ?_
    refine qQ ?_
    refine rS 1 [(0, ii (List.getD a (Int.toNat x8_1) 0)), (1, pp 1 0)] ?_
    refine nQ id ?_
    refine rS 3 [(4, ii (List.getD a (Int.toNat x8_1) 0)), (6, ii (w64 (xh1_0_1 - 1)))] ?_
    obtain ⟨r3, r3_h, h⟩ := bS h
    refine XR.call E0_ok [7] rfl (K := 65) (args := [ii (List.getD a (Int.toNat x8_1) 0), ii 0, ii (w64 (xh1_0_1 - 1))]) (d := (some (path 12 7))) (by kernel_rfl) (KC.of_calls E0_ok (F := Proofs.Tryd.f65) (v := .bool r3) (by kernel_rfl) rfl rfl (fun w hI => f65_ok m (List.getD a (Int.toNat x8_1) 0) 0 (w64 (xh1_0_1 - 1)) r3 r3_h w hI)) ?_
    rintro _ _ _ ⟨rfl, rfl, rfl⟩
    refine XR.conv (σ' := [(7, .bool r3)]) (h' := [(1, .cells [ii xh1_0_1] 0 3 0), (0, rc (encI .i64) a z0 y0 1)]) (c' := 2) ?_ (by kernel_rfl)
    refine rS 2 [(3, .bool (!r3))] ?_
    refine dQ ?_
    show XQ _ _ _ _ _ _ _ _
    refine XQ.ret (by kernel_rfl) ?_
    refine ⟨fun i q => (by cases q), .bool (!r3), (by kernel_rfl), ?_⟩
    refine XR.conv (σ' := [(0, s0 0 a.length), (1, .func (.func 69) #[] #[pp 1 0]), (5, ii x8_1), (7, ii x7_1), (8, ii x8_1), (16, .bool (!r3))]) (h' := [(1, .cells [ii xh1_0_1] 0 3 0), (0, rc (encI .i64) a z0 y0 1)]) (c' := 2) ?_ (by kernel_rfl)
    refine dQ ?_
    show XQ _ _ _ _ _ _ _ _
    cases b3 : (!r3 : Bool) with
    | true =>
     have h := cT b3 h
     refine iT (.tmp 16) ?_
     refine qQ ?_
     refine rS 2 [(4, ii x8_1)] ?_
     refine dQ ?_
     show XQ _ _ _ _ _ _ _ _
     refine XQ.ren (σ' := [(4, ii x8_1)]) (h' := [(1, .cells [ii xh1_0_1] 0 3 0), (0, rc (encI .i64) a z0 y0 1)]) (c' := 2) [0, 1] (by decide) rfl ⟨rfl, trivial⟩ ⟨⟨_, _, rfl, rfl, .inr ⟨_, _, _, _, rfl, rfl⟩⟩, ⟨_, _, rfl, rfl, .inl ⟨rfl, rwI⟩⟩, trivial⟩ rfl ?_
     refine XQ.ret (by kernel_rfl) ?_
     cases h
     exact hQ
    | false =>
     have h := cF b3 h
     refine iF (.tmp 16) ?_
     refine kQ ?_
     show XQ _ _ _ _ _ _ _ _
     refine rQ ?_
     refine rS 2 [(0, s0 0 a.length), (1, .func (.func 69) #[] #[pp 1 0]), (7, ii x7_1), (8, ii (w64 (x8_1 + 1)))] ?_
     refine dQ ?_
     show XL _ _ _ _ _ _ _ _ _
     refine XL.ren (σ' := [(0, s0 0 a.length), (1, .func (.func 69) #[] #[pp 1 0]), (7, ii x7_1), (8, ii (w64 (x8_1 + 1)))]) (h' := [(1, .cells [ii xh1_0_1] 0 3 0), (0, rc (encI .i64) a z0 y0 1)]) (c' := 2) [0, 1] (by decide) rfl ⟨rfl, rfl, rfl, rfl, trivial⟩ ⟨⟨_, _, rfl, rfl, .inr ⟨_, _, _, _, rfl, rfl⟩⟩, ⟨_, _, rfl, rfl, .inl ⟨rfl, rwI⟩⟩, trivial⟩ rfl ?_
     refine XL.conv (f21_1_ok m fuel z0 y0 a x7_1 (w64 (x8_1 + 1)) xh1_0_1 o h Q hQ) (by first | rfl | simp)
  | false =>
   have h := cF b1 h
   refine iF (.tmp 9) ?_
   refine XQ.ren (σ' := []) (h' := [(1, .cells [ii xh1_0_1] 0 3 0), (0, rc (encI .i64) a z0 y0 1)]) (c' := 2) [0, 1] (by decide) rfl trivial ⟨⟨_, _, rfl, rfl, .inr ⟨_, _, _, _, rfl, rfl⟩⟩, ⟨_, _, rfl, rfl, .inl ⟨rfl, rwI⟩⟩, trivial⟩ rfl ?_
   refine XQ.exit (i := 0) (by kernel_rfl) ?_
   cases h
   exact hQ
def f21 (m : Nat) (a : List Int) : Option (Int) :=
 cond (((a.length : Nat) : Int) == 0) (
  some (4)
 ) (
  cond (decide (((a.length : Nat) : Int) > 8)) (
   some (3)
  ) (
   (f21_1 m m a ((a.length : Nat) : Int) 0 ((a.length : Nat) : Int)).bind fun o1 =>
    match o1 with
    | .r x4_r1 xh1_0_r1 =>
     cond (decide (x4_r1 ≥ 0)) (
      some (1)
     ) (
      some (0)
     )
    | .x0 xh1_0_x01 =>
     some (0)
  )
 )
theorem f21_ok (m : Nat) (z0 : Nat) (y0 : Nat) (a : List Int) (o : Int) (h : f21 m a = some o) : KC E0 21 [s0 0 a.length] [(0, rc (encI .i64) a z0 y0 1)] 1 (fun v _ _ => v = ii o) := by
 refine KC.bodyN E0_ok (F := Proofs.Tryd.f21) (by kernel_rfl) (code := f21_C21) (by kernel_rfl) (nt := 16) (by kernel_rfl) (rs := [.tmp 2]) (by kernel_rfl) (by kernel_rfl) (σ := [(0, s0 0 a.length)]) (by kernel_rfl) ?_
 unfold f21 at h
 refine qQ ?_
 refine rS 1 [(0, s0 0 a.length)] ?_
 refine nQ id ?_
 refine rT 4 [(0, s0 0 a.length), (3, pp 1 0)] [(1, .cells [ii ((a.length : Nat) : Int)] 0 3 0), (0, rc (encI .i64) a z0 y0 1)] 2 ?_
 refine dQ ?_
 show XQ _ _ _ _ _ _ _ _
 refine sQ ?_
 refine XQ.block (id := 0) (by kernel_rfl) ?_
 refine qQ ?_
 refine rS 3 [(0, s0 0 a.length), (3, pp 1 0), (6, .bool (((a.length : Nat) : Int) == 0))] ?_
 refine dQ ?_
 show XQ _ _ _ _ _ _ _ _
 cases b1 : (((a.length : Nat) : Int) == 0 : Bool) with
 | true =>
  have h := cT b1 h
  refine iT (.tmp 6) ?_
  refine qQ ?_
  refine rS 1 [(2, ii 4)] ?_
  refine dQ ?_
  show XQ _ _ _ _ _ _ _ _
  refine XQ.ret (by kernel_rfl) ?_
  have h := Option.some.inj h
  subst h
  exact ⟨fun i q => (by cases q), ii 4, (by kernel_rfl), rfl⟩
 | false =>
  have h := cF b1 h
  refine iF (.tmp 6) ?_
  refine qQ ?_
  refine rS 3 [(0, s0 0 a.length), (3, pp 1 0), (9, .bool (decide (((a.length : Nat) : Int) > 8)))] ?_
  refine dQ ?_
  show XQ _ _ _ _ _ _ _ _
  cases b2 : (decide (((a.length : Nat) : Int) > 8) : Bool) with
  | true =>
   have h := cT b2 h
   refine iT (.tmp 9) ?_
   refine qQ ?_
   refine rS 1 [(2, ii 3)] ?_
   refine dQ ?_
   show XQ _ _ _ _ _ _ _ _
   refine XQ.ret (by kernel_rfl) ?_
   have h := Option.some.inj h
   subst h
   exact ⟨fun i q => (by cases q), ii 3, (by kernel_rfl), rfl⟩
  | false =>
   have h := cF b2 h
   refine iF (.tmp 9) ?_
   refine qQ ?_
   refine rS 2 [(13, s0 0 a.length), (14, .func (.func 69) #[] #[pp 1 0])] ?_
   refine XR.callK E0_ok [15] rfl (K := 68) (args := [s0 0 a.length, .func (.func 69) #[] #[pp 1 0]]) (d := (some (path 12 15))) (by kernel_rfl) ?_
   refine KC.bodyN E0_ok (F := Proofs.Tryd.f68) (by kernel_rfl) (code := f21_C68) (by kernel_rfl) (nt := 9) (by kernel_rfl) (rs := [.tmp 4]) (by kernel_rfl) (by kernel_rfl) (σ := [(0, s0 0 a.length), (1, .func (.func 69) #[] #[pp 1 0])]) (by kernel_rfl) ?_
   refine qQ ?_
   refine rS 1 [(0, s0 0 a.length), (1, .func (.func 69) #[] #[pp 1 0])] ?_
   refine nQ id ?_
   refine rS 2 [(5, s0 0 a.length), (6, .func (.func 69) #[] #[pp 1 0])] ?_
   refine XR.callK E0_ok [7] rfl (K := 93) (args := [s0 0 a.length, .func (.func 69) #[] #[pp 1 0]]) (d := (some (path 12 7))) (by kernel_rfl) ?_
   refine KC.bodyN E0_ok (F := Proofs.Tryd.f93) (by kernel_rfl) (code := f21_C93) (by kernel_rfl) (nt := 19) (by kernel_rfl) (rs := [.tmp 4]) (by kernel_rfl) (by kernel_rfl) (σ := [(0, s0 0 a.length), (1, .func (.func 69) #[] #[pp 1 0])]) (by kernel_rfl) ?_
   refine qQ ?_
   refine rS 1 [(0, s0 0 a.length), (1, .func (.func 69) #[] #[pp 1 0])] ?_
   refine dQ ?_
   show XQ _ _ _ _ _ _ _ _
   refine sQ ?_
   refine qQ ?_
   refine rS 3 [(0, s0 0 a.length), (1, .func (.func 69) #[] #[pp 1 0]), (7, ii ((a.length : Nat) : Int)), (8, ii 0)] ?_
   refine dQ ?_
   show XQ _ _ _ _ _ _ _ _
   refine XQ.block (id := 0) (by kernel_rfl) ?_
   refine XQ.loop m (by kernel_rfl) ?_
   obtain ⟨o1, o1_h, h⟩ := bS h
   refine XL.ren (σ' := [(0, s0 0 a.length), (1, .func (.func 69) #[] #[pp 1 0]), (7, ii ((a.length : Nat) : Int)), (8, ii 0)]) (h' := [(1, .cells [ii ((a.length : Nat) : Int)] 0 3 0), (0, rc (encI .i64) a z0 y0 1)]) (c' := 2) [0, 1] (by decide) rfl ⟨rfl, rfl, rfl, rfl, trivial⟩ ⟨⟨_, _, rfl, rfl, .inr ⟨_, _, _, _, rfl, rfl⟩⟩, ⟨_, _, rfl, rfl, .inl ⟨rfl, rwI⟩⟩, trivial⟩ rfl ?_
   cases o1 with
   | r x4_r1 xh1_0_r1 =>
    dsimp only at h
    refine XL.conv (f21_1_ok m m z0 y0 a ((a.length : Nat) : Int) 0 ((a.length : Nat) : Int) (.r x4_r1 xh1_0_r1) o1_h _ ?_) (by first | rfl | simp)
    refine ⟨fun i q => (by cases q), ii x4_r1, (by kernel_rfl), ?_⟩
    refine XR.conv (σ' := [(7, ii x4_r1)]) (h' := [(1, .cells [ii xh1_0_r1] 0 3 0), (0, rc (encI .i64) a z0 y0 1)]) (c' := 2) ?_ (by kernel_rfl)
    refine rS 2 [(4, .bool (decide (x4_r1 ≥ 0)))] ?_
    refine dQ ?_
    show XQ _ _ _ _ _ _ _ _
    refine XQ.ret (by kernel_rfl) ?_
    refine ⟨fun i q => (by cases q), .bool (decide (x4_r1 ≥ 0)), (by kernel_rfl), ?_⟩
    refine XR.conv (σ' := [(15, .bool (decide (x4_r1 ≥ 0)))]) (h' := [(1, .cells [ii xh1_0_r1] 0 3 0), (0, rc (encI .i64) a z0 y0 1)]) (c' := 2) ?_ (by kernel_rfl)
    refine rS 1 [(12, .bool (decide (x4_r1 ≥ 0)))] ?_
    refine dQ ?_
    show XQ _ _ _ _ _ _ _ _
    cases b4 : (decide (x4_r1 ≥ 0) : Bool) with
    | true =>
     have h := cT b4 h
     refine iT (.tmp 12) ?_
     refine qQ ?_
     refine rS 1 [(2, ii 1)] ?_
     refine dQ ?_
     show XQ _ _ _ _ _ _ _ _
     refine XQ.ret (by kernel_rfl) ?_
     have h := Option.some.inj h
     subst h
     exact ⟨fun i q => (by cases q), ii 1, (by kernel_rfl), rfl⟩
    | false =>
     have h := cF b4 h
     refine iF (.tmp 12) ?_
     refine kQ ?_
     show XQ _ _ _ _ _ _ _ _
     refine qQ ?_
     refine rS 1 [(2, ii 0)] ?_
     refine dQ ?_
     show XQ _ _ _ _ _ _ _ _
     refine XQ.ret (by kernel_rfl) ?_
     have h := Option.some.inj h
     subst h
     exact ⟨fun i q => (by cases q), ii 0, (by kernel_rfl), rfl⟩
   | x0 xh1_0_x01 =>
    dsimp only at h
    refine XL.conv (f21_1_ok m m z0 y0 a ((a.length : Nat) : Int) 0 ((a.length : Nat) : Int) (.x0 xh1_0_x01) o1_h _ ?_) (by first | rfl | simp)
    show XQ _ _ _ _ _ _ _ _
    refine qQ ?_
    refine rS 1 [(4, ii (-1))] ?_
    refine dQ ?_
    show XQ _ _ _ _ _ _ _ _
    refine XQ.ret (by kernel_rfl) ?_
    refine ⟨fun i q => (by cases q), ii (-1), (by kernel_rfl), ?_⟩
    refine XR.conv (σ' := [(7, ii (-1))]) (h' := [(1, .cells [ii xh1_0_x01] 0 3 0), (0, rc (encI .i64) a z0 y0 1)]) (c' := 2) ?_ (by kernel_rfl)
    refine rS 2 [(4, .bool false)] ?_
    refine dQ ?_
    show XQ _ _ _ _ _ _ _ _
    refine XQ.ret (by kernel_rfl) ?_
    refine ⟨fun i q => (by cases q), .bool false, (by kernel_rfl), ?_⟩
    refine XR.conv (σ' := [(15, .bool false)]) (h' := [(1, .cells [ii xh1_0_x01] 0 3 0), (0, rc (encI .i64) a z0 y0 1)]) (c' := 2) ?_ (by kernel_rfl)
    refine rS 1 [(12, .bool false)] ?_
    refine dQ ?_
    show XQ _ _ _ _ _ _ _ _
    refine iF (.tmp 12) ?_
    refine kQ ?_
    show XQ _ _ _ _ _ _ _ _
    refine qQ ?_
    refine rS 1 [(2, ii 0)] ?_
    refine dQ ?_
    show XQ _ _ _ _ _ _ _ _
    refine XQ.ret (by kernel_rfl) ?_
    have h := Option.some.inj h
    subst h
    exact ⟨fun i q => (by cases q), ii 0, (by kernel_rfl), rfl⟩
inductive Of22_1 where
 | r
 | x0
def f63_1 (m : Nat) : Nat → List Int → Int → Int → Option Int
 | 0, _, _, _ => none
 | fuel + 1, a, x3_1, x4_1 =>
  cond (decide (x4_1 < ((a.length : Nat) : Int))) (
   cond (inRow x4_1 a.length) (
    f63_1 m fuel a (w64 (x3_1 + (List.getD a (Int.toNat x4_1) 0))) (w64 (x4_1 + 1))
   ) none
  ) (
   some (x3_1)
  )
noncomputable def f62_C62 : Code := Proofs.Tryd.f62.body.getD .skip
noncomputable def f62_L1 : Code := lft (lft (rgt (lft (rgt (rgt f62_C62)))))
def f62_1 (m : Nat) : Nat → List Int → Int → Int → Int → Int → Option Int
 | 0, _, _, _, _, _ => none
 | fuel + 1, a, b, x5_1, x14_1, x15_1 =>
  cond (decide (x15_1 < x14_1)) (
   cond (inRow x15_1 a.length) (
    f62_1 m fuel a b (cond (decide (x15_1 < b)) (w64 (x5_1 + (List.getD a (Int.toNat x15_1) 0))) (w64 (x5_1 - (iMin (List.getD a (Int.toNat x15_1) 0) b)))) x14_1 (w64 (x15_1 + 1))
   ) none
  ) (
   some (x5_1)
  )
theorem f62_1_ok (m : Nat) : ∀ (fuel : Nat) (z0 : Nat) (y0 : Nat) (a : List Int) (b : Int) (x5_1 : Int) (x14_1 : Int) (x15_1 : Int) (o : Int), f62_1 m fuel a b x5_1 x14_1 x15_1 = some o → ∀ Q : QP, Q (.exit 0) [(5, ii o)] [(0, rc (encI .i64) a z0 y0 1)] 1 → XL E0 34 1 fuel f62_L1 [(1, ii b), (5, ii x5_1), (13, s0 0 a.length), (14, ii x14_1), (15, ii x15_1)] [(0, rc (encI .i64) a z0 y0 1)] 1 Q
 | 0, z0, y0, a, b, x5_1, x14_1, x15_1, o, h, Q, hQ => by cases h
 | fuel + 1, z0, y0, a, b, x5_1, x14_1, x15_1, o, h, Q, hQ => by
  unfold f62_1 at h
  refine XL.succ E0_ok ?_
  refine qQ ?_
  refine rS 1 [(1, ii b), (5, ii x5_1), (13, s0 0 a.length), (14, ii x14_1), (15, ii x15_1), (16, .bool (decide (x15_1 < x14_1)))] ?_
  refine dQ ?_
  show XQ _ _ _ _ _ _ _ _
  refine sQ ?_
  cases b1 : (decide (x15_1 < x14_1) : Bool) with
  | true =>
   have h := cT b1 h
   refine iT (.tmp 16) ?_
   refine kQ ?_
   show XQ _ _ _ _ _ _ _ _
   refine sQ ?_
   refine XQ.block (id := 1) (by kernel_rfl) ?_
   refine qQ ?_
   refine rS 1 [(1, ii b), (5, ii x5_1), (13, s0 0 a.length), (14, ii x14_1), (15, ii x15_1), (17, ii x15_1)] ?_
   cases b2 : (inRow x15_1 a.length : Bool) with
   | false => cases (cF b2 h)
   | true =>
    have h := cT b2 h
    refine XR.rd E0_ok [1, 5, 13, 14, 15, 17, 18] rfl (v := pp 0 ((Int.toNat x15_1) * 1)) (v_idx (s := 1) (x := (src 34 (.tmp 13))) (y := (src 34 (.tmp 15))) (b := 0) (o := 0) (len := a.length) (cap := a.length) (ik := .i64) (i := x15_1) (off := (Int.toNat x15_1) * 1) (d := (some (path 12 18))) (by kernel_rfl) (by kernel_rfl) (by kernel_rfl) b2 (by omega)) (σ' := [(1, ii b), (5, ii x5_1), (13, s0 0 a.length), (14, ii x14_1), (15, ii x15_1), (17, ii x15_1), (18, pp 0 ((Int.toNat x15_1) * 1))]) (by kernel_rfl) ?_
    refine XR.rd E0_ok [1, 5, 13, 14, 15, 17, 19] rfl (v := ii (List.getD a (Int.toNat x15_1) 0)) (v_load1 (encI_ok .i64) (x := (src 34 (.tmp 18))) (b := 0) (off := (Int.toNat x15_1) * 1) (xs := a) (fz := z0) (e := y0) (es := 1) (d := (some (path 12 19))) (by kernel_rfl) (by kernel_rfl) (by kernel_rfl) (Int.toNat x15_1) 0 0 (by first | rfl | omega) (row_len (inRow_toNat b2) (by simp)) rfl rfl) (σ' := [(1, ii b), (5, ii x5_1), (13, s0 0 a.length), (14, ii x14_1), (15, ii x15_1), (17, ii x15_1), (19, ii (List.getD a (Int.toNat x15_1) 0))]) (by kernel_rfl) ?_
    refine rS 2 [(1, ii b), (5, ii x5_1), (6, ii x15_1), (7, ii (List.getD a (Int.toNat x15_1) 0)), (13, s0 0 a.length), (14, ii x14_1), (15, ii x15_1)] ?_
    refine nQ id ?_
    refine rS 3 [(1, ii b), (5, ii x5_1), (7, ii (List.getD a (Int.toNat x15_1) 0)), (13, s0 0 a.length), (14, ii x14_1), (15, ii x15_1), (22, .bool (decide (x15_1 < b)))] ?_
    refine dQ ?_
    show XQ _ _ _ _ _ _ _ _
    refine XQ.meetC (σ' := [(1, ii b), (5, ii (cond (decide (x15_1 < b)) (w64 (x5_1 + (List.getD a (Int.toNat x15_1) 0))) (w64 (x5_1 - (iMin (List.getD a (Int.toNat x15_1) 0) b))))), (13, s0 0 a.length), (14, ii x14_1), (15, ii x15_1)]) (h' := [(0, rc (encI .i64) a z0 y0 1)]) (c' := 1) ?_ ?_
    rotate_left
    ·refine XQ.cond (s := (.tmp 22)) (b := decide (x15_1 < b)) (by kernel_rfl) (by kernel_rfl) (fun b3 => ?_) (fun b3 => ?_)
     ·refine rQ ?_
      refine rS 4 [(1, ii b), (5, ii (w64 (x5_1 + (List.getD a (Int.toNat x15_1) 0)))), (13, s0 0 a.length), (14, ii x14_1), (15, ii x15_1)] ?_
      refine dQ ?_
      refine ⟨rfl, ?_, ?_⟩
      ·try rw [b3]
       exact ⟨rfl, rfl, rfl, rfl, rfl, trivial⟩
      ·try rw [b3]
       kernel_rfl
     ·refine rQ ?_
      refine rS 6 [(1, ii b), (5, ii (w64 (x5_1 - (iMin (List.getD a (Int.toNat x15_1) 0) b)))), (13, s0 0 a.length), (14, ii x14_1), (15, ii x15_1)] ?_
      refine dQ ?_
      refine ⟨rfl, ?_, ?_⟩
      ·try rw [b3]
       exact ⟨rfl, rfl, rfl, rfl, rfl, trivial⟩
      ·try rw [b3]
       kernel_rfl
    show XQ _ _ _ _ _ _ _ _
    refine rQ ?_
    refine rS 2 [(1, ii b), (5, ii (cond (decide (x15_1 < b)) (w64 (x5_1 + (List.getD a (Int.toNat x15_1) 0))) (w64 (x5_1 - (iMin (List.getD a (Int.toNat x15_1) 0) b))))), (13, s0 0 a.length), (14, ii x14_1), (15, ii (w64 (x15_1 + 1)))] ?_
    refine dQ ?_
    show XL _ _ _ _ _ _ _ _ _
    refine XL.ren (σ' := [(1, ii b), (5, ii (cond (decide (x15_1 < b)) (w64 (x5_1 + (List.getD a (Int.toNat x15_1) 0))) (w64 (x5_1 - (iMin (List.getD a (Int.toNat x15_1) 0) b))))), (13, s0 0 a.length), (14, ii x14_1), (15, ii (w64 (x15_1 + 1)))]) (h' := [(0, rc (encI .i64) a z0 y0 1)]) (c' := 1) [0] (by decide) rfl ⟨rfl, rfl, rfl, rfl, rfl, trivial⟩ ⟨⟨_, _, rfl, rfl, .inl ⟨rfl, rwI⟩⟩, trivial⟩ rfl ?_
    refine XL.conv (f62_1_ok m fuel z0 y0 a b (cond (decide (x15_1 < b)) (w64 (x5_1 + (List.getD a (Int.toNat x15_1) 0))) (w64 (x5_1 - (iMin (List.getD a (Int.toNat x15_1) 0) b)))) x14_1 (w64 (x15_1 + 1)) o h Q hQ) (by first | rfl | simp)
  | false =>
   have h := cF b1 h
   refine iF (.tmp 16) ?_
   refine XQ.ren (σ' := [(5, ii x5_1)]) (h' := [(0, rc (encI .i64) a z0 y0 1)]) (c' := 1) [0] (by decide) rfl ⟨rfl, trivial⟩ ⟨⟨_, _, rfl, rfl, .inl ⟨rfl, rwI⟩⟩, trivial⟩ rfl ?_
   refine XQ.exit (i := 0) (by kernel_rfl) ?_
   cases h
   exact hQ
def f62 (m : Nat) (a : List Int) (b : Int) : Option (Bool) :=
 (f62_1 m m a b (w64 ((w64 (0 - b)) * (w64 (b - 1)))) ((a.length : Nat) : Int) 0).bind fun o1 =>
  some (decide (o1 > 0))
theorem f62_ok (m : Nat) (z0 : Nat) (y0 : Nat) (a : List Int) (b : Int) (o : Bool) (h : f62 m a b = some o) : KC E0 62 [s0 0 a.length, ii b] [(0, rc (encI .i64) a z0 y0 1)] 1 (fun v _ _ => v = .bool o) := by
 refine KC.bodyN E0_ok (F := Proofs.Tryd.f62) (by kernel_rfl) (code := f62_C62) (by kernel_rfl) (nt := 34) (by kernel_rfl) (rs := [.tmp 4]) (by kernel_rfl) (by kernel_rfl) (σ := [(0, s0 0 a.length), (1, ii b)]) (by kernel_rfl) ?_
 unfold f62 at h
 refine qQ ?_
 refine rS 1 [(0, s0 0 a.length), (1, ii b)] ?_
 refine nQ id ?_
 refine rS 6 [(0, s0 0 a.length), (1, ii b), (5, ii (w64 ((w64 (0 - b)) * (w64 (b - 1)))))] ?_
 refine dQ ?_
 show XQ _ _ _ _ _ _ _ _
 refine sQ ?_
 refine qQ ?_
 refine rS 3 [(1, ii b), (5, ii (w64 ((w64 (0 - b)) * (w64 (b - 1))))), (13, s0 0 a.length), (14, ii ((a.length : Nat) : Int)), (15, ii 0)] ?_
 refine dQ ?_
 show XQ _ _ _ _ _ _ _ _
 refine XQ.block (id := 0) (by kernel_rfl) ?_
 refine XQ.loop m (by kernel_rfl) ?_
 obtain ⟨o1, o1_h, h⟩ := bS h
 refine XL.ren (σ' := [(1, ii b), (5, ii (w64 ((w64 (0 - b)) * (w64 (b - 1))))), (13, s0 0 a.length), (14, ii ((a.length : Nat) : Int)), (15, ii 0)]) (h' := [(0, rc (encI .i64) a z0 y0 1)]) (c' := 1) [0] (by decide) rfl ⟨rfl, rfl, rfl, rfl, rfl, trivial⟩ ⟨⟨_, _, rfl, rfl, .inl ⟨rfl, rwI⟩⟩, trivial⟩ rfl ?_
 refine XL.conv (f62_1_ok m m z0 y0 a b (w64 ((w64 (0 - b)) * (w64 (b - 1)))) ((a.length : Nat) : Int) 0 o1 o1_h _ ?_) (by first | rfl | simp)
 show XQ _ _ _ _ _ _ _ _
 refine qQ ?_
 refine rS 3 [(4, .bool (decide (o1 > 0)))] ?_
 refine dQ ?_
 show XQ _ _ _ _ _ _ _ _
 refine XQ.ret (by kernel_rfl) ?_
 have h := Option.some.inj h
 subst h
 exact ⟨fun i q => (by cases q), .bool (decide (o1 > 0)), (by kernel_rfl), rfl⟩
end Go.Xm
