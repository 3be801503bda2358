/- What these functions of the program compute, as functions in Lean, and the proofs that they do: club.within, vitolaref12.in, club.Check, vitolaref12.Check, vitolaref12.sum, club.stands. Conditions: the library's variables hold what their texts lay. -/
import Derived.Test.YtfimbmhannndaaaDoorZk
import Derived.Test.YtfimbmhannndaaaDoorWa
import Derived.Test.YtfimbmhannndaaaDoorMy
namespace Go.Xm
open Go.RowKit
set_option linter.unusedVariables false
set_option linter.unusedSimpArgs false
set_option maxRecDepth 20000
noncomputable def f65_C65 : Code := Proofs.Tryd.f65.body.getD .skip
def f65 (m : Nat) (a : Int) (b : Int) (c : Int) : Option (Bool) :=
 cond (decide (b ≤ a)) (
  some (decide (a ≤ c))
 ) (
  some (false)
 )
theorem f65_ok (m : Nat) (a : Int) (b : Int) (c : Int) (o : Bool) (h : f65 m a b c = some o) (w : World) (hI : seatInv w) : Calls Proofs.Tryd.prog 65 #[ii a, ii b, ii c] w fun e w' => e = .returned (.bool o) ∧ Below w.heap.size w w' := by
 refine KC.calls (E := E0) (args := [ii a, ii b, ii c]) (v := .bool o) rfl rfl (KC.bodyN E0_ok (F := Proofs.Tryd.f65) (by kernel_rfl) (code := f65_C65) (by kernel_rfl) (nt := 15) (by kernel_rfl) (rs := [.tmp 6]) (by kernel_rfl) (by kernel_rfl) (σ := [(0, ii a), (1, ii b), (2, ii c)]) (by kernel_rfl) ?_) w (seatInv_size hI) hI
 unfold f65 at h
 refine qQ ?_
 refine rS 1 [(0, ii a), (1, ii b), (2, ii c)] ?_
 refine nQ id ?_
 refine rS 4 [(0, ii a), (2, ii c), (10, .bool (decide (b ≤ a)))] ?_
 cases b1 : (decide (b ≤ a) : Bool) with
 | true =>
  have h := cT b1 h
  refine rS 5 [(6, .bool (decide (a ≤ c)))] ?_
  refine dQ ?_
  show XQ _ _ _ _ _ _ _ _
  refine XQ.ret (by kernel_rfl) ?_
  have h := Option.some.inj h
  subst h
  exact ⟨fun i q => (by cases q), .bool (decide (a ≤ c)), (by kernel_rfl), rfl⟩
 | false =>
  have h := cF b1 h
  refine rS 5 [(6, .bool false)] ?_
  refine dQ ?_
  show XQ _ _ _ _ _ _ _ _
  refine XQ.ret (by kernel_rfl) ?_
  have h := Option.some.inj h
  subst h
  exact ⟨fun i q => (by cases q), .bool false, (by kernel_rfl), rfl⟩
noncomputable def f21_C21 : Code := Proofs.Tryd.f21.body.getD .skip
noncomputable def f21_C68 : Code := Proofs.Tryd.f68.body.getD .skip
noncomputable def f21_C93 : Code := Proofs.Tryd.f93.body.getD .skip
noncomputable def f21_C69 : Code := Proofs.Tryd.f69.body.getD .skip
noncomputable def f21_L1 : Code := lft (lft (rgt (lft (rgt f21_C93))))
inductive Of21_1 where
 | r (x4_r1 : Int) (xh1_0_r1 : Int)
 | x0 (xh1_0_x01 : Int)
def f21_1 (m : Nat) : Nat → List Int → Int → Int → Int → Option Of21_1
 | 0, _, _, _, _ => none
 | fuel + 1, a, x7_1, x8_1, xh1_0_1 =>
  cond (decide (x8_1 < x7_1)) (
   cond (inRow x8_1 a.length) (
    (f65 m (List.getD a (Int.toNat x8_1) 0) 0 (w64 (xh1_0_1 - 1))).bind fun r3 =>
     cond (!r3) (
      some (.r x8_1 xh1_0_1)
     ) (
      f21_1 m fuel a x7_1 (w64 (x8_1 + 1)) xh1_0_1
     )
   ) none
  ) (
   some (.x0 xh1_0_1)
  )
theorem f21_1_ok (m : Nat) : ∀ (fuel : Nat) (z0 : Nat) (y0 : Nat) (a : List Int) (x7_1 : Int) (x8_1 : Int) (xh1_0_1 : Int) (o : Of21_1), f21_1 m fuel a x7_1 x8_1 xh1_0_1 = some o → ∀ Q : QP, (match o with | .r x4_r1 xh1_0_r1 => Q .ret [(4, ii x4_r1)] [(1, .cells [ii xh1_0_r1] 0 3 0), (0, rc (encI .i64) a z0 y0 1)] 2 | .x0 xh1_0_x01 => Q (.exit 0) [] [(1, .cells [ii xh1_0_x01] 0 3 0), (0, rc (encI .i64) a z0 y0 1)] 2) → XL E0 19 2 fuel f21_L1 [(0, s0 0 a.length), (1, .func (.func 69) #[] #[pp 1 0]), (7, ii x7_1), (8, ii x8_1)] [(1, .cells [ii xh1_0_1] 0 3 0), (0, rc (encI .i64) a z0 y0 1)] 2 Q
 | 0, z0, y0, a, x7_1, x8_1, xh1_0_1, o, h, Q, hQ => by cases h
 | fuel + 1, z0, y0, a, x7_1, x8_1, xh1_0_1, o, h, Q, hQ => by
  unfold f21_1 at h
  refine XL.succ E0_ok ?_
  refine qQ ?_
  refine rS 1 [(0, s0 0 a.length), (1, .func (.func 69) #[] #[pp 1 0]), (7, ii x7_1), (8, ii x8_1), (9, .bool (decide (x8_1 < x7_1)))] ?_
  refine dQ ?_
  show XQ _ _ _ _ _ _ _ _
  refine sQ ?_
  cases b1 : (decide (x8_1 < x7_1) : Bool) with
  | true =>
   have h := cT b1 h
   refine iT (.tmp 9) ?_
   refine kQ ?_
   show XQ _ _ _ _ _ _ _ _
   refine sQ ?_
   refine XQ.block (id := 1) (by kernel_rfl) ?_
   refine qQ ?_
   refine rS 2 [(0, s0 0 a.length), (1, .func (.func 69) #[] #[pp 1 0]), (5, ii x8_1), (7, ii x7_1), (8, ii x8_1)] ?_
   refine nQ id ?_
   refine rS 3 [(0, s0 0 a.length), (1, .func (.func 69) #[] #[pp 1 0]), (5, ii x8_1), (7, ii x7_1), (8, ii x8_1), (11, .func (.func 69) #[] #[pp 1 0]), (12, s0 0 a.length), (13, ii x8_1)] ?_
   cases b2 : (inRow x8_1 a.length : Bool) with
   | false => cases (cF b2 h)
   | true =>
    have h := cT b2 h
    refine XR.rd E0_ok [0, 1, 5, 7, 8, 11, 14] rfl (v := pp 0 ((Int.toNat x8_1) * 1)) (v_idx (s := 1) (x := (src 19 (.tmp 12))) (y := (src 19 (.tmp 13))) (b := 0) (o := 0) (len := a.length) (cap := a.length) (ik := .i64) (i := x8_1) (off := (Int.toNat x8_1) * 1) (d := (some (path 12 14))) (by kernel_rfl) (by kernel_rfl) (by kernel_rfl) b2 (by omega)) (σ' := [(0, s0 0 a.length), (1, .func (.func 69) #[] #[pp 1 0]), (5, ii x8_1), (7, ii x7_1), (8, ii x8_1), (11, .func (.func 69) #[] #[pp 1 0]), (14, pp 0 ((Int.toNat x8_1) * 1))]) (by kernel_rfl) ?_
    refine XR.rd E0_ok [0, 1, 5, 7, 8, 11, 15] rfl (v := ii (List.getD a (Int.toNat x8_1) 0)) (v_load1 (encI_ok .i64) (x := (src 19 (.tmp 14))) (b := 0) (off := (Int.toNat x8_1) * 1) (xs := a) (fz := z0) (e := y0) (es := 1) (d := (some (path 12 15))) (by kernel_rfl) (by kernel_rfl) (by kernel_rfl) (Int.toNat x8_1) 0 0 (by first | rfl | omega) (row_len (inRow_toNat b2) (by simp)) rfl rfl) (σ' := [(0, s0 0 a.length), (1, .func (.func 69) #[] #[pp 1 0]), (5, ii x8_1), (7, ii x7_1), (8, ii x8_1), (11, .func (.func 69) #[] #[pp 1 0]), (15, ii (List.getD a (Int.toNat x8_1) 0))]) (by kernel_rfl) ?_
    refine XR.callK E0_ok [0, 1, 5, 7, 8, 16] rfl (K := 69) (args := [ii (List.getD a (Int.toNat x8_1) 0), pp 1 0]) (d := (some (path 12 16))) (by kernel_rfl) ?_
    refine KC.bodyN E0_ok (F := Proofs.Tryd.f69) (by kernel_rfl) (code := f21_C69) (by kernel_rfl) (nt := 9) (by kernel_rfl) (rs := [.tmp 3]) (by kernel_rfl) (by kernel_rfl) (σ := [(0, ii (List.getD a (Int.toNat x8_1) 0)), (1, pp 1 0)]) (by kernel_rfl) ?_
    refine qQ ?_
    refine rS 1 [(0, ii (List.getD a (Int.toNat x8_1) 0)), (1, pp 1 0)] ?_
    refine nQ id ?_
    refine rS 3 [(4, ii (List.getD a (Int.toNat x8_1) 0)), (6, ii (w64 (xh1_0_1 - 1)))] ?_
    obtain ⟨r3, r3_h, h⟩ := bS h
    refine XR.call E0_ok [7] rfl (K := 65) (args := [ii (List.getD a (Int.toNat x8_1) 0), ii 0, ii (w64 (xh1_0_1 - 1))]) (d := (some (path 12 7))) (by kernel_rfl) (KC.of_calls E0_ok (F := Proofs.Tryd.f65) (v := .bool r3) (by kernel_rfl) rfl rfl (fun w hI => f65_ok m (List.getD a (Int.toNat x8_1) 0) 0 (w64 (xh1_0_1 - 1)) r3 r3_h w hI)) ?_
    rintro _ _ _ ⟨rfl, rfl, rfl⟩
    refine XR.conv (σ' := [(7, .bool r3)]) (h' := [(1, .cells [ii xh1_0_1] 0 3 0), (0, rc (encI .i64) a z0 y0 1)]) (c' := 2) ?_ (by kernel_rfl)
    refine rS 2 [(3, .bool (!r3))] ?_
    refine dQ ?_
    show XQ _ _ _ _ _ _ _ _
    refine XQ.ret (by kernel_rfl) ?_
    refine ⟨fun i q => (by cases q), .bool (!r3), (by kernel_rfl), ?_⟩
    refine XR.conv (σ' := [(0, s0 0 a.length), (1, .func (.func 69) #[] #[pp 1 0]), (5, ii x8_1), (7, ii x7_1), (8, ii x8_1), (16, .bool (!r3))]) (h' := [(1, .cells [ii xh1_0_1] 0 3 0), (0, rc (encI .i64) a z0 y0 1)]) (c' := 2) ?_ (by kernel_rfl)
    refine dQ ?_
    show XQ _ _ _ _ _ _ _ _
    cases b3 : (!r3 : Bool) with
    | true =>
     have h := cT b3 h
     refine iT (.tmp 16) ?_
     refine qQ ?_
     refine rS 2 [(4, ii x8_1)] ?_
     refine dQ ?_
     show XQ _ _ _ _ _ _ _ _
     refine XQ.ren (σ' := [(4, ii x8_1)]) (h' := [(1, .cells [ii xh1_0_1] 0 3 0), (0, rc (encI .i64) a z0 y0 1)]) (c' := 2) [0, 1] (by decide) rfl ⟨rfl, trivial⟩ ⟨⟨_, _, rfl, rfl, .inr ⟨_, _, _, _, rfl, rfl⟩⟩, ⟨_, _, rfl, rfl, .inl ⟨rfl, rwI⟩⟩, trivial⟩ rfl ?_
     refine XQ.ret (by kernel_rfl) ?_
     cases h
     exact hQ
    | false =>
     have h := cF b3 h
     refine iF (.tmp 16) ?_
     refine kQ ?_
     show XQ _ _ _ _ _ _ _ _
     refine rQ ?_
     refine rS 2 [(0, s0 0 a.length), (1, .func (.func 69) #[] #[pp 1 0]), (7, ii x7_1), (8, ii (w64 (x8_1 + 1)))] ?_
     refine dQ ?_
     show XL _ _ _ _ _ _ _ _ _
     refine XL.ren (σ' := [(0, s0 0 a.length), (1, .func (.func 69) #[] #[pp 1 0]), (7, ii x7_1), (8, ii (w64 (x8_1 + 1)))]) (h' := [(1, .cells [ii xh1_0_1] 0 3 0), (0, rc (encI .i64) a z0 y0 1)]) (c' := 2) [0, 1] (by decide) rfl ⟨rfl, rfl, rfl, rfl, trivial⟩ ⟨⟨_, _, rfl, rfl, .inr ⟨_, _, _, _, rfl, rfl⟩⟩, ⟨_, _, rfl, rfl, .inl ⟨rfl, rwI⟩⟩, trivial⟩ rfl ?_
     refine XL.conv (f21_1_ok m fuel z0 y0 a x7_1 (w64 (x8_1 + 1)) xh1_0_1 o h Q hQ) (by first | rfl | simp)
  | false =>
   have h := cF b1 h
   refine iF (.tmp 9) ?_
   refine XQ.ren (σ' := []) (h' := [(1, .cells [ii xh1_0_1] 0 3 0), (0, rc (encI .i64) a z0 y0 1)]) (c' := 2) [0, 1] (by decide) rfl trivial ⟨⟨_, _, rfl, rfl, .inr ⟨_, _, _, _, rfl, rfl⟩⟩, ⟨_, _, rfl, rfl, .inl ⟨rfl, rwI⟩⟩, trivial⟩ rfl ?_
   refine XQ.exit (i := 0) (by kernel_rfl) ?_
   cases h
   exact hQ
def f21 (m : Nat) (a : List Int) : Option (Int) :=
 cond (((a.length : Nat) : Int) == 0) (
  some (4)
 ) (
  cond (decide (((a.length : Nat) : Int) > 8)) (
   some (3)
  ) (
   (f21_1 m m a ((a.length : Nat) : Int) 0 ((a.length : Nat) : Int)).bind fun o1 =>
    match o1 with
    | .r x4_r1 xh1_0_r1 =>
     cond (decide (x4_r1 ≥ 0)) (
      some (1)
     ) (
      some (0)
     )
    | .x0 xh1_0_x01 =>
     some (0)
  )
 )
theorem f21_ok (m : Nat) (z0 : Nat) (y0 : Nat) (a : List Int) (o : Int) (h : f21 m a = some o) : KC E0 21 [s0 0 a.length] [(0, rc (encI .i64) a z0 y0 1)] 1 (fun v _ _ => v = ii o) := by
 refine KC.bodyN E0_ok (F := Proofs.Tryd.f21) (by kernel_rfl) (code := f21_C21) (by kernel_rfl) (nt := 16) (by kernel_rfl) (rs := [.tmp 2]) (by kernel_rfl) (by kernel_rfl) (σ := [(0, s0 0 a.length)]) (by kernel_rfl) ?_
 unfold f21 at h
 refine qQ ?_
 refine rS 1 [(0, s0 0 a.length)] ?_
 refine nQ id ?_
 refine rT 4 [(0, s0 0 a.length), (3, pp 1 0)] [(1, .cells [ii ((a.length : Nat) : Int)] 0 3 0), (0, rc (encI .i64) a z0 y0 1)] 2 ?_
 refine dQ ?_
 show XQ _ _ _ _ _ _ _ _
 refine sQ ?_
 refine XQ.block (id := 0) (by kernel_rfl) ?_
 refine qQ ?_
 refine rS 3 [(0, s0 0 a.length), (3, pp 1 0), (6, .bool (((a.length : Nat) : Int) == 0))] ?_
 refine dQ ?_
 show XQ _ _ _ _ _ _ _ _
 cases b1 : (((a.length : Nat) : Int) == 0 : Bool) with
 | true =>
  have h := cT b1 h
  refine iT (.tmp 6) ?_
  refine qQ ?_
  refine rS 1 [(2, ii 4)] ?_
  refine dQ ?_
  show XQ _ _ _ _ _ _ _ _
  refine XQ.ret (by kernel_rfl) ?_
  have h := Option.some.inj h
  subst h
  exact ⟨fun i q => (by cases q), ii 4, (by kernel_rfl), rfl⟩
 | false =>
  have h := cF b1 h
  refine iF (.tmp 6) ?_
  refine qQ ?_
  refine rS 3 [(0, s0 0 a.length), (3, pp 1 0), (9, .bool (decide (((a.length : Nat) : Int) > 8)))] ?_
  refine dQ ?_
  show XQ _ _ _ _ _ _ _ _
  cases b2 : (decide (((a.length : Nat) : Int) > 8) : Bool) with
  | true =>
   have h := cT b2 h
   refine iT (.tmp 9) ?_
   refine qQ ?_
   refine rS 1 [(2, ii 3)] ?_
   refine dQ ?_
   show XQ _ _ _ _ _ _ _ _
   refine XQ.ret (by kernel_rfl) ?_
   have h := Option.some.inj h
   subst h
   exact ⟨fun i q => (by cases q), ii 3, (by kernel_rfl), rfl⟩
  | false =>
   have h := cF b2 h
   refine iF (.tmp 9) ?_
   refine qQ ?_
   refine rS 2 [(13, s0 0 a.length), (14, .func (.func 69) #[] #[pp 1 0])] ?_
   refine XR.callK E0_ok [15] rfl (K := 68) (args := [s0 0 a.length, .func (.func 69) #[] #[pp 1 0]]) (d := (some (path 12 15))) (by kernel_rfl) ?_
   refine KC.bodyN E0_ok (F := Proofs.Tryd.f68) (by kernel_rfl) (code := f21_C68) (by kernel_rfl) (nt := 9) (by kernel_rfl) (rs := [.tmp 4]) (by kernel_rfl) (by kernel_rfl) (σ := [(0, s0 0 a.length), (1, .func (.func 69) #[] #[pp 1 0])]) (by kernel_rfl) ?_
   refine qQ ?_
   refine rS 1 [(0, s0 0 a.length), (1, .func (.func 69) #[] #[pp 1 0])] ?_
   refine nQ id ?_
   refine rS 2 [(5, s0 0 a.length), (6, .func (.func 69) #[] #[pp 1 0])] ?_
   refine XR.callK E0_ok [7] rfl (K := 93) (args := [s0 0 a.length, .func (.func 69) #[] #[pp 1 0]]) (d := (some (path 12 7))) (by kernel_rfl) ?_
   refine KC.bodyN E0_ok (F := Proofs.Tryd.f93) (by kernel_rfl) (code := f21_C93) (by kernel_rfl) (nt := 19) (by kernel_rfl) (rs := [.tmp 4]) (by kernel_rfl) (by kernel_rfl) (σ := [(0, s0 0 a.length), (1, .func (.func 69) #[] #[pp 1 0])]) (by kernel_rfl) ?_
   refine qQ ?_
   refine rS 1 [(0, s0 0 a.length), (1, .func (.func 69) #[] #[pp 1 0])] ?_
   refine dQ ?_
   show XQ _ _ _ _ _ _ _ _
   refine sQ ?_
   refine qQ ?_
   refine rS 3 [(0, s0 0 a.length), (1, .func (.func 69) #[] #[pp 1 0]), (7, ii ((a.length : Nat) : Int)), (8, ii 0)] ?_
   refine dQ ?_
   show XQ _ _ _ _ _ _ _ _
   refine XQ.block (id := 0) (by kernel_rfl) ?_
   refine XQ.loop m (by kernel_rfl) ?_
   obtain ⟨o1, o1_h, h⟩ := bS h
   refine XL.ren (σ' := [(0, s0 0 a.length), (1, .func (.func 69) #[] #[pp 1 0]), (7, ii ((a.length : Nat) : Int)), (8, ii 0)]) (h' := [(1, .cells [ii ((a.length : Nat) : Int)] 0 3 0), (0, rc (encI .i64) a z0 y0 1)]) (c' := 2) [0, 1] (by decide) rfl ⟨rfl, rfl, rfl, rfl, trivial⟩ ⟨⟨_, _, rfl, rfl, .inr ⟨_, _, _, _, rfl, rfl⟩⟩, ⟨_, _, rfl, rfl, .inl ⟨rfl, rwI⟩⟩, trivial⟩ rfl ?_
   cases o1 with
   | r x4_r1 xh1_0_r1 =>
    dsimp only at h
    refine XL.conv (f21_1_ok m m z0 y0 a ((a.length : Nat) : Int) 0 ((a.length : Nat) : Int) (.r x4_r1 xh1_0_r1) o1_h _ ?_) (by first | rfl | simp)
    refine ⟨fun i q => (by cases q), ii x4_r1, (by kernel_rfl), ?_⟩
    refine XR.conv (σ' := [(7, ii x4_r1)]) (h' := [(1, .cells [ii xh1_0_r1] 0 3 0), (0, rc (encI .i64) a z0 y0 1)]) (c' := 2) ?_ (by kernel_rfl)
    refine rS 2 [(4, .bool (decide (x4_r1 ≥ 0)))] ?_
    refine dQ ?_
    show XQ _ _ _ _ _ _ _ _
    refine XQ.ret (by kernel_rfl) ?_
    refine ⟨fun i q => (by cases q), .bool (decide (x4_r1 ≥ 0)), (by kernel_rfl), ?_⟩
    refine XR.conv (σ' := [(15, .bool (decide (x4_r1 ≥ 0)))]) (h' := [(1, .cells [ii xh1_0_r1] 0 3 0), (0, rc (encI .i64) a z0 y0 1)]) (c' := 2) ?_ (by kernel_rfl)
    refine rS 1 [(12, .bool (decide (x4_r1 ≥ 0)))] ?_
    refine dQ ?_
    show XQ _ _ _ _ _ _ _ _
    cases b4 : (decide (x4_r1 ≥ 0) : Bool) with
    | true =>
     have h := cT b4 h
     refine iT (.tmp 12) ?_
     refine qQ ?_
     refine rS 1 [(2, ii 1)] ?_
     refine dQ ?_
     show XQ _ _ _ _ _ _ _ _
     refine XQ.ret (by kernel_rfl) ?_
     have h := Option.some.inj h
     subst h
     exact ⟨fun i q => (by cases q), ii 1, (by kernel_rfl), rfl⟩
    | false =>
     have h := cF b4 h
     refine iF (.tmp 12) ?_
     refine kQ ?_
     show XQ _ _ _ _ _ _ _ _
     refine qQ ?_
     refine rS 1 [(2, ii 0)] ?_
     refine dQ ?_
     show XQ _ _ _ _ _ _ _ _
     refine XQ.ret (by kernel_rfl) ?_
     have h := Option.some.inj h
     subst h
     exact ⟨fun i q => (by cases q), ii 0, (by kernel_rfl), rfl⟩
   | x0 xh1_0_x01 =>
    dsimp only at h
    refine XL.conv (f21_1_ok m m z0 y0 a ((a.length : Nat) : Int) 0 ((a.length : Nat) : Int) (.x0 xh1_0_x01) o1_h _ ?_) (by first | rfl | simp)
    show XQ _ _ _ _ _ _ _ _
    refine qQ ?_
    refine rS 1 [(4, ii (-1))] ?_
    refine dQ ?_
    show XQ _ _ _ _ _ _ _ _
    refine XQ.ret (by kernel_rfl) ?_
    refine ⟨fun i q => (by cases q), ii (-1), (by kernel_rfl), ?_⟩
    refine XR.conv (σ' := [(7, ii (-1))]) (h' := [(1, .cells [ii xh1_0_x01] 0 3 0), (0, rc (encI .i64) a z0 y0 1)]) (c' := 2) ?_ (by kernel_rfl)
    refine rS 2 [(4, .bool false)] ?_
    refine dQ ?_
    show XQ _ _ _ _ _ _ _ _
    refine XQ.ret (by kernel_rfl) ?_
    refine ⟨fun i q => (by cases q), .bool false, (by kernel_rfl), ?_⟩
    refine XR.conv (σ' := [(15, .bool false)]) (h' := [(1, .cells [ii xh1_0_x01] 0 3 0), (0, rc (encI .i64) a z0 y0 1)]) (c' := 2) ?_ (by kernel_rfl)
    refine rS 1 [(12, .bool false)] ?_
    refine dQ ?_
    show XQ _ _ _ _ _ _ _ _
    refine iF (.tmp 12) ?_
    refine kQ ?_
    show XQ _ _ _ _ _ _ _ _
    refine qQ ?_
    refine rS 1 [(2, ii 0)] ?_
    refine dQ ?_
    show XQ _ _ _ _ _ _ _ _
    refine XQ.ret (by kernel_rfl) ?_
    have h := Option.some.inj h
    subst h
    exact ⟨fun i q => (by cases q), ii 0, (by kernel_rfl), rfl⟩
inductive Of22_1 where
 | r
 | x0
end Go.Xm
namespace Go.Xm
open Go.RowKit
set_option linter.unusedVariables false
set_option linter.unusedSimpArgs false
set_option maxRecDepth 20000
inductive Of64_1 where
 | r (x2_r1 : Int)
 | x0
end Go.Xm
namespace Go.Xm
open Go.RowKit
set_option linter.unusedVariables false
set_option linter.unusedSimpArgs false
set_option maxRecDepth 20000
noncomputable def f61_C61 : Code := Proofs.Tryd.f61.body.getD .skip
noncomputable def f61_C82 : Code := Proofs.Tryd.f82.body.getD .skip
noncomputable def f61_C83 : Code := Proofs.Tryd.f83.body.getD .skip
noncomputable def f61_L1 : Code := lft (lft (rgt f61_C83))
def f61_1 (m : Nat) : Nat → List Int → Int → Int → List Int → Option (List Int)
 | 0, _, _, _, _ => none
 | fuel + 1, a, x2_1, x3_1, lh2_1 =>
  cond (decide (x2_1 < x3_1)) (
   cond (inRow x3_1 lh2_1.length) (
    cond (inRow x2_1 lh2_1.length) (
     f61_1 m fuel a (w64 (x2_1 + 1)) (w64 (x3_1 - 1)) (List.set (List.set lh2_1 (Int.toNat x2_1) (List.getD lh2_1 (Int.toNat x3_1) 0)) (Int.toNat x3_1) (List.getD lh2_1 (Int.toNat x2_1) 0))
    ) none
   ) none
  ) (
   some (lh2_1)
  )
theorem f61_1_ok (m : Nat) : ∀ (fuel : Nat) (z0 : Nat) (y0 : Nat) (a : List Int) (x2_1 : Int) (x3_1 : Int) (lh2_1 : List Int) (o : (List Int)), f61_1 m fuel a x2_1 x3_1 lh2_1 = some o → ∀ Q : QP, Q (.exit 0) [] [(2, rc (encI .i64) o 0 3 1), (1, .cells [s0 0 a.length] 0 22 0), (0, rc (encI .i64) a z0 y0 1)] 3 → XL E0 28 3 fuel f61_L1 [(0, s0 2 lh2_1.length), (2, ii x2_1), (3, ii x3_1)] [(2, rc (encI .i64) lh2_1 0 3 1), (1, .cells [s0 0 a.length] 0 22 0), (0, rc (encI .i64) a z0 y0 1)] 3 Q
 | 0, z0, y0, a, x2_1, x3_1, lh2_1, o, h, Q, hQ => by cases h
 | fuel + 1, z0, y0, a, x2_1, x3_1, lh2_1, o, h, Q, hQ => by
  unfold f61_1 at h
  refine XL.succ E0_ok ?_
  refine sQ ?_
  refine qQ ?_
  refine rS 3 [(0, s0 2 lh2_1.length), (2, ii x2_1), (3, ii x3_1), (9, .bool (decide (x2_1 < x3_1)))] ?_
  refine dQ ?_
  show XQ _ _ _ _ _ _ _ _
  cases b1 : (decide (x2_1 < x3_1) : Bool) with
  | true =>
   have h := cT b1 h
   refine iT (.tmp 9) ?_
   refine kQ ?_
   show XQ _ _ _ _ _ _ _ _
   refine sQ ?_
   refine XQ.block (id := 1) (by kernel_rfl) ?_
   refine XQ.preP E0_ok [2, 3] [0, 1, 4, 5, 6, 7, 8, 9, 10, 11, 12] 13 [14, 15] (by kernel_rfl) (by kernel_rfl) (by kernel_rfl) ?_
   refine XP.step E0_ok 2 [0, 2, 3, 16, 17] rfl (σ' := [(0, s0 2 lh2_1.length), (2, ii x2_1), (3, ii x3_1), (16, s0 2 lh2_1.length), (17, ii x3_1)]) (by kernel_rfl) ?_
   refine XP.done (by kernel_rfl) ?_
   show XS _ _ _ _ _ _ _ _ _ _
   refine XS.step E0_ok 4 rfl [0, 2, 3, 14, 15, 16, 17, 18, 19] rfl (σ' := [(0, s0 2 lh2_1.length), (2, ii x2_1), (3, ii x3_1), (14, s0 2 lh2_1.length), (15, ii x2_1), (16, s0 2 lh2_1.length), (17, ii x3_1), (18, s0 2 lh2_1.length), (19, ii x3_1)]) (by kernel_rfl) ?_
   cases b2 : (inRow x3_1 lh2_1.length : Bool) with
   | false => cases (cF b2 h)
   | true =>
    have h := cT b2 h
    refine XS.rd E0_ok rfl [0, 2, 3, 14, 15, 16, 17, 20] rfl (v := pp 2 ((Int.toNat x3_1) * 1)) (v_idx (s := 1) (x := (src 28 (.tmp 18))) (y := (src 28 (.tmp 19))) (b := 2) (o := 0) (len := lh2_1.length) (cap := lh2_1.length) (ik := .i64) (i := x3_1) (off := (Int.toNat x3_1) * 1) (d := (some (path 12 20))) (by kernel_rfl) (by kernel_rfl) (by kernel_rfl) b2 (by omega)) (σ' := [(0, s0 2 lh2_1.length), (2, ii x2_1), (3, ii x3_1), (14, s0 2 lh2_1.length), (15, ii x2_1), (16, s0 2 lh2_1.length), (17, ii x3_1), (20, pp 2 ((Int.toNat x3_1) * 1))]) (by kernel_rfl) ?_
    refine XS.rd E0_ok rfl [0, 2, 3, 14, 15, 16, 17, 21] rfl (v := ii (List.getD lh2_1 (Int.toNat x3_1) 0)) (v_load1 (encI_ok .i64) (x := (src 28 (.tmp 20))) (b := 2) (off := (Int.toNat x3_1) * 1) (xs := lh2_1) (fz := 0) (e := 3) (es := 1) (d := (some (path 12 21))) (by kernel_rfl) (by kernel_rfl) (by kernel_rfl) (Int.toNat x3_1) 0 0 (by first | rfl | omega) (row_len (inRow_toNat b2) (by simp)) rfl rfl) (σ' := [(0, s0 2 lh2_1.length), (2, ii x2_1), (3, ii x3_1), (14, s0 2 lh2_1.length), (15, ii x2_1), (16, s0 2 lh2_1.length), (17, ii x3_1), (21, ii (List.getD lh2_1 (Int.toNat x3_1) 0))]) (by kernel_rfl) ?_
    refine XS.step E0_ok 2 rfl [0, 2, 3, 14, 15, 16, 17, 21, 22, 23] rfl (σ' := [(0, s0 2 lh2_1.length), (2, ii x2_1), (3, ii x3_1), (14, s0 2 lh2_1.length), (15, ii x2_1), (16, s0 2 lh2_1.length), (17, ii x3_1), (21, ii (List.getD lh2_1 (Int.toNat x3_1) 0)), (22, s0 2 lh2_1.length), (23, ii x2_1)]) (by kernel_rfl) ?_
    cases b3 : (inRow x2_1 lh2_1.length : Bool) with
    | false => cases (cF b3 h)
    | true =>
     have h := cT b3 h
     refine XS.rd E0_ok rfl [0, 2, 3, 14, 15, 16, 17, 21, 24] rfl (v := pp 2 ((Int.toNat x2_1) * 1)) (v_idx (s := 1) (x := (src 28 (.tmp 22))) (y := (src 28 (.tmp 23))) (b := 2) (o := 0) (len := lh2_1.length) (cap := lh2_1.length) (ik := .i64) (i := x2_1) (off := (Int.toNat x2_1) * 1) (d := (some (path 12 24))) (by kernel_rfl) (by kernel_rfl) (by kernel_rfl) b3 (by omega)) (σ' := [(0, s0 2 lh2_1.length), (2, ii x2_1), (3, ii x3_1), (14, s0 2 lh2_1.length), (15, ii x2_1), (16, s0 2 lh2_1.length), (17, ii x3_1), (21, ii (List.getD lh2_1 (Int.toNat x3_1) 0)), (24, pp 2 ((Int.toNat x2_1) * 1))]) (by kernel_rfl) ?_
     refine XS.rd E0_ok rfl [0, 2, 3, 14, 15, 16, 17, 21, 25] rfl (v := ii (List.getD lh2_1 (Int.toNat x2_1) 0)) (v_load1 (encI_ok .i64) (x := (src 28 (.tmp 24))) (b := 2) (off := (Int.toNat x2_1) * 1) (xs := lh2_1) (fz := 0) (e := 3) (es := 1) (d := (some (path 12 25))) (by kernel_rfl) (by kernel_rfl) (by kernel_rfl) (Int.toNat x2_1) 0 0 (by first | rfl | omega) (row_len (inRow_toNat b3) (by simp)) rfl rfl) (σ' := [(0, s0 2 lh2_1.length), (2, ii x2_1), (3, ii x3_1), (14, s0 2 lh2_1.length), (15, ii x2_1), (16, s0 2 lh2_1.length), (17, ii x3_1), (21, ii (List.getD lh2_1 (Int.toNat x3_1) 0)), (25, ii (List.getD lh2_1 (Int.toNat x2_1) 0))]) (by kernel_rfl) ?_
     refine XS.rd E0_ok rfl [0, 2, 3, 16, 17, 21, 25, 26] rfl (v := pp 2 ((Int.toNat x2_1) * 1)) (v_idx (s := 1) (x := (src 28 (.tmp 14))) (y := (src 28 (.tmp 15))) (b := 2) (o := 0) (len := lh2_1.length) (cap := lh2_1.length) (ik := .i64) (i := x2_1) (off := (Int.toNat x2_1) * 1) (d := (some (path 12 26))) (by kernel_rfl) (by kernel_rfl) (by kernel_rfl) b3 (by omega)) (σ' := [(0, s0 2 lh2_1.length), (2, ii x2_1), (3, ii x3_1), (16, s0 2 lh2_1.length), (17, ii x3_1), (21, ii (List.getD lh2_1 (Int.toNat x3_1) 0)), (25, ii (List.getD lh2_1 (Int.toNat x2_1) 0)), (26, pp 2 ((Int.toNat x2_1) * 1))]) (by kernel_rfl) ?_
     refine XS.done (by kernel_rfl) ?_
     refine XR.ef E0_ok [0, 2, 3, 16, 17, 25] rfl (e_store (encI_ok .i64) (size := 1) (x := (src 28 (.tmp 26))) (y := (src 28 (.tmp 21))) (b := 2) (off := (Int.toNat x2_1) * 1) (xs := lh2_1) (e := 3) (es := 1) (d := none) (h' := [(2, rc (encI .i64) (List.set lh2_1 (Int.toNat x2_1) (List.getD lh2_1 (Int.toNat x3_1) 0)) 0 3 1), (1, .cells [s0 0 a.length] 0 22 0), (0, rc (encI .i64) a z0 y0 1)]) (w := ii (List.getD lh2_1 (Int.toNat x3_1) 0)) (ws := [ii (List.getD lh2_1 (Int.toNat x3_1) 0)]) (a := List.getD lh2_1 (Int.toNat x3_1) 0) (by kernel_rfl) (by kernel_rfl) (by kernel_rfl) (Int.toNat x2_1) 0 0 (by first | rfl | omega) (row_len (inRow_toNat b3) (by simp)) (by kernel_rfl) rfl rfl rfl rfl rfl (by kernel_rfl)) (σ' := [(0, s0 2 lh2_1.length), (2, ii x2_1), (3, ii x3_1), (16, s0 2 lh2_1.length), (17, ii x3_1), (25, ii (List.getD lh2_1 (Int.toNat x2_1) 0))]) (by kernel_rfl) ?_
     refine XR.rd E0_ok [0, 2, 3, 25, 27] rfl (v := pp 2 ((Int.toNat x3_1) * 1)) (v_idx (s := 1) (x := (src 28 (.tmp 16))) (y := (src 28 (.tmp 17))) (b := 2) (o := 0) (len := lh2_1.length) (cap := lh2_1.length) (ik := .i64) (i := x3_1) (off := (Int.toNat x3_1) * 1) (d := (some (path 12 27))) (by kernel_rfl) (by kernel_rfl) (by kernel_rfl) b2 (by omega)) (σ' := [(0, s0 2 lh2_1.length), (2, ii x2_1), (3, ii x3_1), (25, ii (List.getD lh2_1 (Int.toNat x2_1) 0)), (27, pp 2 ((Int.toNat x3_1) * 1))]) (by kernel_rfl) ?_
     refine XR.ef E0_ok [0, 2, 3] rfl (e_store (encI_ok .i64) (size := 1) (x := (src 28 (.tmp 27))) (y := (src 28 (.tmp 25))) (b := 2) (off := (Int.toNat x3_1) * 1) (xs := List.set lh2_1 (Int.toNat x2_1) (List.getD lh2_1 (Int.toNat x3_1) 0)) (e := 3) (es := 1) (d := none) (h' := [(2, rc (encI .i64) (List.set (List.set lh2_1 (Int.toNat x2_1) (List.getD lh2_1 (Int.toNat x3_1) 0)) (Int.toNat x3_1) (List.getD lh2_1 (Int.toNat x2_1) 0)) 0 3 1), (1, .cells [s0 0 a.length] 0 22 0), (0, rc (encI .i64) a z0 y0 1)]) (w := ii (List.getD lh2_1 (Int.toNat x2_1) 0)) (ws := [ii (List.getD lh2_1 (Int.toNat x2_1) 0)]) (a := List.getD lh2_1 (Int.toNat x2_1) 0) (by kernel_rfl) (by kernel_rfl) (by kernel_rfl) (Int.toNat x3_1) 0 0 (by first | rfl | omega) (row_len (inRow_toNat b2) (by simp)) (by kernel_rfl) rfl rfl rfl rfl rfl (by kernel_rfl)) (σ' := [(0, s0 2 lh2_1.length), (2, ii x2_1), (3, ii x3_1)]) (by kernel_rfl) ?_
     refine dQ ?_
     show XQ _ _ _ _ _ _ _ _
     refine rQ ?_
     refine rS 6 [(0, s0 2 lh2_1.length), (2, ii (w64 (x2_1 + 1))), (3, ii (w64 (x3_1 - 1)))] ?_
     refine dQ ?_
     show XL _ _ _ _ _ _ _ _ _
     refine XL.ren (σ' := [(0, s0 2 lh2_1.length), (2, ii (w64 (x2_1 + 1))), (3, ii (w64 (x3_1 - 1)))]) (h' := [(2, rc (encI .i64) (List.set (List.set lh2_1 (Int.toNat x2_1) (List.getD lh2_1 (Int.toNat x3_1) 0)) (Int.toNat x3_1) (List.getD lh2_1 (Int.toNat x2_1) 0)) 0 3 1), (1, .cells [s0 0 a.length] 0 22 0), (0, rc (encI .i64) a z0 y0 1)]) (c' := 3) [0, 1, 2] (by decide) rfl ⟨rfl, rfl, rfl, trivial⟩ ⟨⟨_, _, rfl, rfl, .inl ⟨rfl, rwI⟩⟩, ⟨_, _, rfl, rfl, .inr ⟨_, _, _, _, rfl, rfl⟩⟩, ⟨_, _, rfl, rfl, .inl ⟨rfl, rwI⟩⟩, trivial⟩ rfl ?_
     refine XL.conv (f61_1_ok m fuel z0 y0 a (w64 (x2_1 + 1)) (w64 (x3_1 - 1)) (List.set (List.set lh2_1 (Int.toNat x2_1) (List.getD lh2_1 (Int.toNat x3_1) 0)) (Int.toNat x3_1) (List.getD lh2_1 (Int.toNat x2_1) 0)) o h Q hQ) (by first | rfl | simp)
  | false =>
   have h := cF b1 h
   refine iF (.tmp 9) ?_
   refine XQ.ren (σ' := []) (h' := [(2, rc (encI .i64) lh2_1 0 3 1), (1, .cells [s0 0 a.length] 0 22 0), (0, rc (encI .i64) a z0 y0 1)]) (c' := 3) [0, 1, 2] (by decide) rfl trivial ⟨⟨_, _, rfl, rfl, .inl ⟨rfl, rwI⟩⟩, ⟨_, _, rfl, rfl, .inr ⟨_, _, _, _, rfl, rfl⟩⟩, ⟨_, _, rfl, rfl, .inl ⟨rfl, rwI⟩⟩, trivial⟩ rfl ?_
   refine XQ.exit (i := 0) (by kernel_rfl) ?_
   cases h
   exact hQ
def f61 (m : Nat) (a : List Int) : Option (List Int) :=
 cond (Nat.ble a.length 1000000) (
  (f61_1 m m a 0 (w64 ((((sortI a).length : Nat) : Int) - 1)) (sortI a)).bind fun o1 =>
   cond (decide ((sortI a).length = o1.length)) (
    some (o1)
   ) none
 ) none
theorem f61_ok (m : Nat) (z0 : Nat) (y0 : Nat) (a : List Int) (o : List Int) (h : f61 m a = some o) : KC E0 61 [s0 0 a.length] [(0, rc (encI .i64) a z0 y0 1)] 1 (fun v h' c' => v = s0 1 o.length ∧ h' = [(1, rc (encI .i64) o 0 3 1)] ++ [(0, rc (encI .i64) a z0 y0 1)] ∧ c' = 2) := by
 refine KC.bodyN E0_ok (F := Proofs.Tryd.f61) (by kernel_rfl) (code := f61_C61) (by kernel_rfl) (nt := 10) (by kernel_rfl) (rs := [.tmp 2]) (by kernel_rfl) (by kernel_rfl) (σ := [(0, s0 0 a.length)]) (by kernel_rfl) ?_
 unfold f61 at h
 refine qQ ?_
 refine rS 1 [(0, s0 0 a.length)] ?_
 refine nQ id ?_
 refine rS 1 [(4, s0 0 a.length)] ?_
 refine XR.callK E0_ok [5] rfl (K := 82) (args := [s0 0 a.length]) (d := (some (path 12 5))) (by kernel_rfl) ?_
 refine KC.bodyN E0_ok (F := Proofs.Tryd.f82) (by kernel_rfl) (code := f61_C82) (by kernel_rfl) (nt := 4) (by kernel_rfl) (rs := [.tmp 2]) (by kernel_rfl) (by kernel_rfl) (σ := [(0, s0 0 a.length)]) (by kernel_rfl) ?_
 refine qQ ?_
 refine rT 2 [(1, pp 1 0)] [(1, .cells [s0 0 a.length] 0 22 0), (0, rc (encI .i64) a z0 y0 1)] 2 ?_
 refine nQ id ?_
 refine rS 2 [(2, .func (.func 105) #[] #[pp 1 0])] ?_
 refine dQ ?_
 show XQ _ _ _ _ _ _ _ _
 refine XQ.ret (by kernel_rfl) ?_
 refine ⟨fun i q => (by cases q), .func (.func 105) #[] #[pp 1 0], (by kernel_rfl), ?_⟩
 refine XR.conv (σ' := [(5, .func (.func 105) #[] #[pp 1 0])]) (h' := [(1, .cells [s0 0 a.length] 0 22 0), (0, rc (encI .i64) a z0 y0 1)]) (c' := 2) ?_ (by kernel_rfl)
 cases b1 : (Nat.ble a.length 1000000 : Bool) with
 | false => cases (cF b1 h)
 | true =>
  have h := cT b1 h
  refine XR.call E0_ok [6] rfl (K := 81) (args := [.func (.func 105) #[] #[pp 1 0]]) (d := (some (path 12 6))) (by kernel_rfl) (sorted_row (c := 2) (b := 1) (V := s0 0 a.length) (ys := a) (n := a.length) (fz1 := 0) (e1 := 22) (es1 := 0) (by kernel_rfl) rfl (fetch_all (encI_ok .i64) (ys := a) (fz := z0) (e := y0) (es := 1) (by kernel_rfl) (by simp) (Nat.le_refl _)) b1) ?_
  rintro _ _ _ ⟨rfl, rfl, rfl⟩
  refine XR.conv (σ' := [(6, s0 2 ((sortI a).length))]) (h' := [(2, rc (encI .i64) (sortI a) 0 3 1), (1, .cells [s0 0 a.length] 0 22 0), (0, rc (encI .i64) a z0 y0 1)]) (c' := 3) ?_ (by kernel_rfl)
  refine rS 1 [(3, s0 2 ((sortI a).length))] ?_
  refine nQ id ?_
  refine rS 1 [(3, s0 2 ((sortI a).length)), (7, s0 2 ((sortI a).length))] ?_
  refine XR.callK E0_ok [3] rfl (K := 83) (args := [s0 2 ((sortI a).length)]) (d := (some (path 12 8))) (by kernel_rfl) ?_
  refine KC.bodyN E0_ok (F := Proofs.Tryd.f83) (by kernel_rfl) (code := f61_C83) (by kernel_rfl) (nt := 28) (by kernel_rfl) (rs := []) (by kernel_rfl) (by kernel_rfl) (σ := [(0, s0 2 ((sortI a).length))]) (by kernel_rfl) ?_
  refine qQ ?_
  refine rS 5 [(0, s0 2 ((sortI a).length)), (2, ii 0), (3, ii (w64 ((((sortI a).length : Nat) : Int) - 1)))] ?_
  refine dQ ?_
  show XQ _ _ _ _ _ _ _ _
  refine XQ.block (id := 0) (by kernel_rfl) ?_
  refine XQ.loop m (by kernel_rfl) ?_
  obtain ⟨o1, o1_h, h⟩ := bS h
  refine XL.ren (σ' := [(0, s0 2 ((sortI a).length)), (2, ii 0), (3, ii (w64 ((((sortI a).length : Nat) : Int) - 1)))]) (h' := [(2, rc (encI .i64) (sortI a) 0 3 1), (1, .cells [s0 0 a.length] 0 22 0), (0, rc (encI .i64) a z0 y0 1)]) (c' := 3) [0, 1, 2] (by decide) rfl ⟨rfl, rfl, rfl, trivial⟩ ⟨⟨_, _, rfl, rfl, .inl ⟨rfl, rwI⟩⟩, ⟨_, _, rfl, rfl, .inr ⟨_, _, _, _, rfl, rfl⟩⟩, ⟨_, _, rfl, rfl, .inl ⟨rfl, rwI⟩⟩, trivial⟩ rfl ?_
  refine XL.conv (f61_1_ok m m z0 y0 a 0 (w64 ((((sortI a).length : Nat) : Int) - 1)) (sortI a) o1 o1_h _ ?_) (by first | rfl | simp)
  refine ⟨fun i q => (by cases q), .tuple #[], (by kernel_rfl), ?_⟩
  refine XR.conv (σ' := [(3, s0 2 ((sortI a).length))]) (h' := [(2, rc (encI .i64) o1 0 3 1), (1, .cells [s0 0 a.length] 0 22 0), (0, rc (encI .i64) a z0 y0 1)]) (c' := 3) ?_ (by kernel_rfl)
  cases b3 : (decide ((sortI a).length = o1.length) : Bool) with
  | false => cases (cF b3 h)
  | true =>
   have h := cT b3 h
   refine XR.conv (σ' := [(3, s0 2 o1.length)]) (h' := [(2, rc (encI .i64) o1 0 3 1), (1, .cells [s0 0 a.length] 0 22 0), (0, rc (encI .i64) a z0 y0 1)]) (c' := 3) ?_ (by rw [of_decide_eq_true b3])
   refine nQ id ?_
   refine rS 2 [(2, s0 2 o1.length)] ?_
   refine dQ ?_
   show XQ _ _ _ _ _ _ _ _
   refine XQ.ren (σ' := [(2, s0 1 o1.length)]) (h' := [(1, rc (encI .i64) o1 0 3 1), (0, rc (encI .i64) a z0 y0 1)]) (c' := 2) [0, 2] (by decide) rfl ⟨rfl, trivial⟩ ⟨⟨_, _, rfl, rfl, .inl ⟨rfl, rwI⟩⟩, ⟨_, _, rfl, rfl, .inl ⟨rfl, rwI⟩⟩, trivial⟩ rfl ?_
   refine XQ.ret (by kernel_rfl) ?_
   have h := Option.some.inj h
   subst h
   exact ⟨fun i q => (by cases q), s0 1 o1.length, (by kernel_rfl), (by kernel_rfl), (by kernel_rfl), rfl⟩
noncomputable def f59_C59 : Code := Proofs.Tryd.f59.body.getD .skip
noncomputable def f59_C61 : Code := Proofs.Tryd.f61.body.getD .skip
noncomputable def f59_C82 : Code := Proofs.Tryd.f82.body.getD .skip
noncomputable def f59_C83 : Code := Proofs.Tryd.f83.body.getD .skip
noncomputable def f59_L1 : Code := lft (lft (lft (rgt (rgt f59_C59))))
noncomputable def f59_L2 : Code := lft (lft (rgt (lft (rgt (rgt (rgt (lft (rgt f59_L1))))))))
noncomputable def f59_L3 : Code := lft (lft (rgt f59_C83))
inductive Of59_2 where
 | r
 | x2 (n3_x22 : Nat) (c3_x22 : Nat) (lh1_x22 : List Int)
def f59_2 (m : Nat) : Nat → List Int → Nat → Nat → Int → Int → List Int → Option Of59_2
 | 0, _, _, _, _, _, _ => none
 | fuel + 1, a, n3_2, c3_2, x23_2, x24_2, lh1_2 =>
  cond (decide (x24_2 < x23_2)) (
   cond (inRow x24_2 n3_2) (
    cond (decide (1 + (Int.toNat x24_2) < lh1_2.length)) (
     cond (decide ((List.getD (List.set lh1_2 (1 + (Int.toNat x24_2)) (w64 ((List.getD lh1_2 (1 + (Int.toNat x24_2)) 0) - 1))) (1 + (Int.toNat x24_2)) 0) < 0)) (
      some (.r)
     ) (
      f59_2 m fuel a n3_2 c3_2 x23_2 (w64 (x24_2 + 1)) (List.set lh1_2 (1 + (Int.toNat x24_2)) (w64 ((List.getD lh1_2 (1 + (Int.toNat x24_2)) 0) - 1)))
     )
    ) none
   ) none
  ) (
   some (.x2 n3_2 c3_2 lh1_2)
  )
theorem f59_2_ok (m : Nat) : ∀ (fuel : Nat) (z0 : Nat) (y0 : Nat) (a : List Int) (n3_2 : Nat) (c3_2 : Nat) (x23_2 : Int) (x24_2 : Int) (lh1_2 : List Int) (o : Of59_2), f59_2 m fuel a n3_2 c3_2 x23_2 x24_2 lh1_2 = some o → ∀ Q : QP, (match o with | .r => Q .ret [(2, .bool false)] [(0, rc (encI .i64) a z0 y0 1)] 1 | .x2 n3_x22 c3_x22 lh1_x22 => Q (.exit 2) [(3, sl 1 (1 * 1) n3_x22 c3_x22)] [(1, rc (encI .i64) lh1_x22 0 3 1), (0, rc (encI .i64) a z0 y0 1)] 2) → XL E0 41 1 fuel f59_L2 [(3, sl 1 (1 * 1) n3_2 c3_2), (23, ii x23_2), (24, ii x24_2)] [(1, rc (encI .i64) lh1_2 0 3 1), (0, rc (encI .i64) a z0 y0 1)] 2 Q
 | 0, z0, y0, a, n3_2, c3_2, x23_2, x24_2, lh1_2, o, h, Q, hQ => by cases h
 | fuel + 1, z0, y0, a, n3_2, c3_2, x23_2, x24_2, lh1_2, o, h, Q, hQ => by
  unfold f59_2 at h
  refine XL.succ E0_ok ?_
  refine qQ ?_
  refine rS 1 [(3, sl 1 (1 * 1) n3_2 c3_2), (23, ii x23_2), (24, ii x24_2), (25, .bool (decide (x24_2 < x23_2)))] ?_
  refine dQ ?_
  show XQ _ _ _ _ _ _ _ _
  refine sQ ?_
  cases b1 : (decide (x24_2 < x23_2) : Bool) with
  | true =>
   have h := cT b1 h
   refine iT (.tmp 25) ?_
   refine kQ ?_
   show XQ _ _ _ _ _ _ _ _
   refine sQ ?_
   refine XQ.block (id := 3) (by kernel_rfl) ?_
   refine qQ ?_
   refine rS 2 [(3, sl 1 (1 * 1) n3_2 c3_2), (5, ii x24_2), (23, ii x23_2), (24, ii x24_2)] ?_
   refine nQ id ?_
   refine rS 2 [(3, sl 1 (1 * 1) n3_2 c3_2), (5, ii x24_2), (23, ii x23_2), (24, ii x24_2), (27, sl 1 (1 * 1) n3_2 c3_2), (28, ii x24_2)] ?_
   cases b2 : (inRow x24_2 n3_2 : Bool) with
   | false => cases (cF b2 h)
   | true =>
    have h := cT b2 h
    refine XR.rd E0_ok [3, 5, 23, 24, 27, 28, 29] rfl (v := pp 1 ((1 + (Int.toNat x24_2)) * 1)) (v_idx (s := 1) (x := (src 41 (.tmp 27))) (y := (src 41 (.tmp 28))) (b := 1) (o := 1 * 1) (len := n3_2) (cap := c3_2) (ik := .i64) (i := x24_2) (off := (1 + (Int.toNat x24_2)) * 1) (d := (some (path 12 29))) (by kernel_rfl) (by kernel_rfl) (by kernel_rfl) b2 (by omega)) (σ' := [(3, sl 1 (1 * 1) n3_2 c3_2), (5, ii x24_2), (23, ii x23_2), (24, ii x24_2), (27, sl 1 (1 * 1) n3_2 c3_2), (28, ii x24_2), (29, pp 1 ((1 + (Int.toNat x24_2)) * 1))]) (by kernel_rfl) ?_
    cases b3 : (decide (1 + (Int.toNat x24_2) < lh1_2.length) : Bool) with
    | false => cases (cF b3 h)
    | true =>
     have h := cT b3 h
     refine XR.rd E0_ok [3, 5, 23, 24, 27, 28, 30] rfl (v := ii (List.getD lh1_2 (1 + (Int.toNat x24_2)) 0)) (v_load1 (encI_ok .i64) (x := (src 41 (.tmp 29))) (b := 1) (off := (1 + (Int.toNat x24_2)) * 1) (xs := lh1_2) (fz := 0) (e := 3) (es := 1) (d := (some (path 12 30))) (by kernel_rfl) (by kernel_rfl) (by kernel_rfl) (1 + (Int.toNat x24_2)) 0 0 (by first | rfl | omega) (row_len b3 (by simp)) rfl rfl) (σ' := [(3, sl 1 (1 * 1) n3_2 c3_2), (5, ii x24_2), (23, ii x23_2), (24, ii x24_2), (27, sl 1 (1 * 1) n3_2 c3_2), (28, ii x24_2), (30, ii (List.getD lh1_2 (1 + (Int.toNat x24_2)) 0))]) (by kernel_rfl) ?_
     refine rS 1 [(3, sl 1 (1 * 1) n3_2 c3_2), (5, ii x24_2), (23, ii x23_2), (24, ii x24_2), (27, sl 1 (1 * 1) n3_2 c3_2), (28, ii x24_2), (31, ii (w64 ((List.getD lh1_2 (1 + (Int.toNat x24_2)) 0) - 1)))] ?_
     refine XR.rd E0_ok [3, 5, 23, 24, 31, 32] rfl (v := pp 1 ((1 + (Int.toNat x24_2)) * 1)) (v_idx (s := 1) (x := (src 41 (.tmp 27))) (y := (src 41 (.tmp 28))) (b := 1) (o := 1 * 1) (len := n3_2) (cap := c3_2) (ik := .i64) (i := x24_2) (off := (1 + (Int.toNat x24_2)) * 1) (d := (some (path 12 32))) (by kernel_rfl) (by kernel_rfl) (by kernel_rfl) b2 (by omega)) (σ' := [(3, sl 1 (1 * 1) n3_2 c3_2), (5, ii x24_2), (23, ii x23_2), (24, ii x24_2), (31, ii (w64 ((List.getD lh1_2 (1 + (Int.toNat x24_2)) 0) - 1))), (32, pp 1 ((1 + (Int.toNat x24_2)) * 1))]) (by kernel_rfl) ?_
     refine XR.ef E0_ok [3, 5, 23, 24] rfl (e_store (encI_ok .i64) (size := 1) (x := (src 41 (.tmp 32))) (y := (src 41 (.tmp 31))) (b := 1) (off := (1 + (Int.toNat x24_2)) * 1) (xs := lh1_2) (e := 3) (es := 1) (d := none) (h' := [(1, rc (encI .i64) (List.set lh1_2 (1 + (Int.toNat x24_2)) (w64 ((List.getD lh1_2 (1 + (Int.toNat x24_2)) 0) - 1))) 0 3 1), (0, rc (encI .i64) a z0 y0 1)]) (w := ii (w64 ((List.getD lh1_2 (1 + (Int.toNat x24_2)) 0) - 1))) (ws := [ii (w64 ((List.getD lh1_2 (1 + (Int.toNat x24_2)) 0) - 1))]) (a := w64 ((List.getD lh1_2 (1 + (Int.toNat x24_2)) 0) - 1)) (by kernel_rfl) (by kernel_rfl) (by kernel_rfl) (1 + (Int.toNat x24_2)) 0 0 (by first | rfl | omega) (row_len b3 (by simp)) (by kernel_rfl) rfl rfl rfl rfl rfl (by kernel_rfl)) (σ' := [(3, sl 1 (1 * 1) n3_2 c3_2), (5, ii x24_2), (23, ii x23_2), (24, ii x24_2)]) (by kernel_rfl) ?_
     refine nQ id ?_
     refine rS 2 [(3, sl 1 (1 * 1) n3_2 c3_2), (23, ii x23_2), (24, ii x24_2), (33, sl 1 (1 * 1) n3_2 c3_2), (34, ii x24_2)] ?_
     refine XR.rd E0_ok [3, 23, 24, 35] rfl (v := pp 1 ((1 + (Int.toNat x24_2)) * 1)) (v_idx (s := 1) (x := (src 41 (.tmp 33))) (y := (src 41 (.tmp 34))) (b := 1) (o := 1 * 1) (len := n3_2) (cap := c3_2) (ik := .i64) (i := x24_2) (off := (1 + (Int.toNat x24_2)) * 1) (d := (some (path 12 35))) (by kernel_rfl) (by kernel_rfl) (by kernel_rfl) b2 (by omega)) (σ' := [(3, sl 1 (1 * 1) n3_2 c3_2), (23, ii x23_2), (24, ii x24_2), (35, pp 1 ((1 + (Int.toNat x24_2)) * 1))]) (by kernel_rfl) ?_
     refine XR.rd E0_ok [3, 23, 24, 36] rfl (v := ii (List.getD (List.set lh1_2 (1 + (Int.toNat x24_2)) (w64 ((List.getD lh1_2 (1 + (Int.toNat x24_2)) 0) - 1))) (1 + (Int.toNat x24_2)) 0)) (v_load1 (encI_ok .i64) (x := (src 41 (.tmp 35))) (b := 1) (off := (1 + (Int.toNat x24_2)) * 1) (xs := List.set lh1_2 (1 + (Int.toNat x24_2)) (w64 ((List.getD lh1_2 (1 + (Int.toNat x24_2)) 0) - 1))) (fz := 0) (e := 3) (es := 1) (d := (some (path 12 36))) (by kernel_rfl) (by kernel_rfl) (by kernel_rfl) (1 + (Int.toNat x24_2)) 0 0 (by first | rfl | omega) (row_len b3 (by simp)) rfl rfl) (σ' := [(3, sl 1 (1 * 1) n3_2 c3_2), (23, ii x23_2), (24, ii x24_2), (36, ii (List.getD (List.set lh1_2 (1 + (Int.toNat x24_2)) (w64 ((List.getD lh1_2 (1 + (Int.toNat x24_2)) 0) - 1))) (1 + (Int.toNat x24_2)) 0))]) (by kernel_rfl) ?_
     refine rS 1 [(3, sl 1 (1 * 1) n3_2 c3_2), (23, ii x23_2), (24, ii x24_2), (37, .bool (decide ((List.getD (List.set lh1_2 (1 + (Int.toNat x24_2)) (w64 ((List.getD lh1_2 (1 + (Int.toNat x24_2)) 0) - 1))) (1 + (Int.toNat x24_2)) 0) < 0)))] ?_
     refine dQ ?_
     show XQ _ _ _ _ _ _ _ _
     cases b4 : (decide ((List.getD (List.set lh1_2 (1 + (Int.toNat x24_2)) (w64 ((List.getD lh1_2 (1 + (Int.toNat x24_2)) 0) - 1))) (1 + (Int.toNat x24_2)) 0) < 0) : Bool) with
     | true =>
      have h := cT b4 h
      refine iT (.tmp 37) ?_
      refine qQ ?_
      refine rS 1 [(2, .bool false)] ?_
      refine dQ ?_
      show XQ _ _ _ _ _ _ _ _
      refine XQ.ren (σ' := [(2, .bool false)]) (h' := [(0, rc (encI .i64) a z0 y0 1)]) (c' := 1) [0] (by decide) rfl ⟨rfl, trivial⟩ ⟨⟨_, _, rfl, rfl, .inl ⟨rfl, rwI⟩⟩, trivial⟩ rfl ?_
      refine XQ.ret (by kernel_rfl) ?_
      cases h
      exact hQ
     | false =>
      have h := cF b4 h
      refine iF (.tmp 37) ?_
      refine kQ ?_
      show XQ _ _ _ _ _ _ _ _
      refine rQ ?_
      refine rS 2 [(3, sl 1 (1 * 1) n3_2 c3_2), (23, ii x23_2), (24, ii (w64 (x24_2 + 1)))] ?_
      refine dQ ?_
      show XL _ _ _ _ _ _ _ _ _
      refine XL.ren (σ' := [(3, sl 1 (1 * 1) n3_2 c3_2), (23, ii x23_2), (24, ii (w64 (x24_2 + 1)))]) (h' := [(1, rc (encI .i64) (List.set lh1_2 (1 + (Int.toNat x24_2)) (w64 ((List.getD lh1_2 (1 + (Int.toNat x24_2)) 0) - 1))) 0 3 1), (0, rc (encI .i64) a z0 y0 1)]) (c' := 2) [0, 1] (by decide) rfl ⟨rfl, rfl, rfl, trivial⟩ ⟨⟨_, _, rfl, rfl, .inl ⟨rfl, rwI⟩⟩, ⟨_, _, rfl, rfl, .inl ⟨rfl, rwI⟩⟩, trivial⟩ rfl ?_
      refine XL.conv (f59_2_ok m fuel z0 y0 a n3_2 c3_2 x23_2 (w64 (x24_2 + 1)) (List.set lh1_2 (1 + (Int.toNat x24_2)) (w64 ((List.getD lh1_2 (1 + (Int.toNat x24_2)) 0) - 1))) o h Q hQ) (by first | rfl | simp)
  | false =>
   have h := cF b1 h
   refine iF (.tmp 25) ?_
   refine XQ.ren (σ' := [(3, sl 1 (1 * 1) n3_2 c3_2)]) (h' := [(1, rc (encI .i64) lh1_2 0 3 1), (0, rc (encI .i64) a z0 y0 1)]) (c' := 2) [0, 1] (by decide) rfl ⟨rfl, trivial⟩ ⟨⟨_, _, rfl, rfl, .inl ⟨rfl, rwI⟩⟩, ⟨_, _, rfl, rfl, .inl ⟨rfl, rwI⟩⟩, trivial⟩ rfl ?_
   refine XQ.exit (i := 2) (by kernel_rfl) ?_
   cases h
   exact hQ
def f59_3 (m : Nat) : Nat → List Int → Nat → Nat → List Int → Int → Int → List Int → Option (List Int)
 | 0, _, _, _, _, _, _, _ => none
 | fuel + 1, a, n3_x22, c3_x22, lh1_x22, x2_3, x3_3, lh3_3 =>
  cond (decide (x2_3 < x3_3)) (
   cond (inRow x3_3 lh3_3.length) (
    cond (inRow x2_3 lh3_3.length) (
     f59_3 m fuel a n3_x22 c3_x22 lh1_x22 (w64 (x2_3 + 1)) (w64 (x3_3 - 1)) (List.set (List.set lh3_3 (Int.toNat x2_3) (List.getD lh3_3 (Int.toNat x3_3) 0)) (Int.toNat x3_3) (List.getD lh3_3 (Int.toNat x2_3) 0))
    ) none
   ) none
  ) (
   some (lh3_3)
  )
theorem f59_3_ok (m : Nat) : ∀ (fuel : Nat) (z0 : Nat) (y0 : Nat) (a : List Int) (n3_x22 : Nat) (c3_x22 : Nat) (lh1_x22 : List Int) (x2_3 : Int) (x3_3 : Int) (lh3_3 : List Int) (o : (List Int)), f59_3 m fuel a n3_x22 c3_x22 lh1_x22 x2_3 x3_3 lh3_3 = some o → ∀ Q : QP, Q (.exit 0) [] [(3, rc (encI .i64) o 0 3 1), (2, .cells [sl 1 (1 * 1) n3_x22 c3_x22] 0 22 0), (1, rc (encI .i64) lh1_x22 0 3 1), (0, rc (encI .i64) a z0 y0 1)] 4 → XL E0 28 4 fuel f59_L3 [(0, s0 3 lh3_3.length), (2, ii x2_3), (3, ii x3_3)] [(3, rc (encI .i64) lh3_3 0 3 1), (2, .cells [sl 1 (1 * 1) n3_x22 c3_x22] 0 22 0), (1, rc (encI .i64) lh1_x22 0 3 1), (0, rc (encI .i64) a z0 y0 1)] 4 Q
 | 0, z0, y0, a, n3_x22, c3_x22, lh1_x22, x2_3, x3_3, lh3_3, o, h, Q, hQ => by cases h
 | fuel + 1, z0, y0, a, n3_x22, c3_x22, lh1_x22, x2_3, x3_3, lh3_3, o, h, Q, hQ => by
  unfold f59_3 at h
  refine XL.succ E0_ok ?_
  refine sQ ?_
  refine qQ ?_
  refine rS 3 [(0, s0 3 lh3_3.length), (2, ii x2_3), (3, ii x3_3), (9, .bool (decide (x2_3 < x3_3)))] ?_
  refine dQ ?_
  show XQ _ _ _ _ _ _ _ _
  cases b1 : (decide (x2_3 < x3_3) : Bool) with
  | true =>
   have h := cT b1 h
   refine iT (.tmp 9) ?_
   refine kQ ?_
   show XQ _ _ _ _ _ _ _ _
   refine sQ ?_
   refine XQ.block (id := 1) (by kernel_rfl) ?_
   refine XQ.preP E0_ok [2, 3] [0, 1, 4, 5, 6, 7, 8, 9, 10, 11, 12] 13 [14, 15] (by kernel_rfl) (by kernel_rfl) (by kernel_rfl) ?_
   refine XP.step E0_ok 2 [0, 2, 3, 16, 17] rfl (σ' := [(0, s0 3 lh3_3.length), (2, ii x2_3), (3, ii x3_3), (16, s0 3 lh3_3.length), (17, ii x3_3)]) (by kernel_rfl) ?_
   refine XP.done (by kernel_rfl) ?_
   show XS _ _ _ _ _ _ _ _ _ _
   refine XS.step E0_ok 4 rfl [0, 2, 3, 14, 15, 16, 17, 18, 19] rfl (σ' := [(0, s0 3 lh3_3.length), (2, ii x2_3), (3, ii x3_3), (14, s0 3 lh3_3.length), (15, ii x2_3), (16, s0 3 lh3_3.length), (17, ii x3_3), (18, s0 3 lh3_3.length), (19, ii x3_3)]) (by kernel_rfl) ?_
   cases b2 : (inRow x3_3 lh3_3.length : Bool) with
   | false => cases (cF b2 h)
   | true =>
    have h := cT b2 h
    refine XS.rd E0_ok rfl [0, 2, 3, 14, 15, 16, 17, 20] rfl (v := pp 3 ((Int.toNat x3_3) * 1)) (v_idx (s := 1) (x := (src 28 (.tmp 18))) (y := (src 28 (.tmp 19))) (b := 3) (o := 0) (len := lh3_3.length) (cap := lh3_3.length) (ik := .i64) (i := x3_3) (off := (Int.toNat x3_3) * 1) (d := (some (path 12 20))) (by kernel_rfl) (by kernel_rfl) (by kernel_rfl) b2 (by omega)) (σ' := [(0, s0 3 lh3_3.length), (2, ii x2_3), (3, ii x3_3), (14, s0 3 lh3_3.length), (15, ii x2_3), (16, s0 3 lh3_3.length), (17, ii x3_3), (20, pp 3 ((Int.toNat x3_3) * 1))]) (by kernel_rfl) ?_
    refine XS.rd E0_ok rfl [0, 2, 3, 14, 15, 16, 17, 21] rfl (v := ii (List.getD lh3_3 (Int.toNat x3_3) 0)) (v_load1 (encI_ok .i64) (x := (src 28 (.tmp 20))) (b := 3) (off := (Int.toNat x3_3) * 1) (xs := lh3_3) (fz := 0) (e := 3) (es := 1) (d := (some (path 12 21))) (by kernel_rfl) (by kernel_rfl) (by kernel_rfl) (Int.toNat x3_3) 0 0 (by first | rfl | omega) (row_len (inRow_toNat b2) (by simp)) rfl rfl) (σ' := [(0, s0 3 lh3_3.length), (2, ii x2_3), (3, ii x3_3), (14, s0 3 lh3_3.length), (15, ii x2_3), (16, s0 3 lh3_3.length), (17, ii x3_3), (21, ii (List.getD lh3_3 (Int.toNat x3_3) 0))]) (by kernel_rfl) ?_
    refine XS.step E0_ok 2 rfl [0, 2, 3, 14, 15, 16, 17, 21, 22, 23] rfl (σ' := [(0, s0 3 lh3_3.length), (2, ii x2_3), (3, ii x3_3), (14, s0 3 lh3_3.length), (15, ii x2_3), (16, s0 3 lh3_3.length), (17, ii x3_3), (21, ii (List.getD lh3_3 (Int.toNat x3_3) 0)), (22, s0 3 lh3_3.length), (23, ii x2_3)]) (by kernel_rfl) ?_
    cases b3 : (inRow x2_3 lh3_3.length : Bool) with
    | false => cases (cF b3 h)
    | true =>
     have h := cT b3 h
     refine XS.rd E0_ok rfl [0, 2, 3, 14, 15, 16, 17, 21, 24] rfl (v := pp 3 ((Int.toNat x2_3) * 1)) (v_idx (s := 1) (x := (src 28 (.tmp 22))) (y := (src 28 (.tmp 23))) (b := 3) (o := 0) (len := lh3_3.length) (cap := lh3_3.length) (ik := .i64) (i := x2_3) (off := (Int.toNat x2_3) * 1) (d := (some (path 12 24))) (by kernel_rfl) (by kernel_rfl) (by kernel_rfl) b3 (by omega)) (σ' := [(0, s0 3 lh3_3.length), (2, ii x2_3), (3, ii x3_3), (14, s0 3 lh3_3.length), (15, ii x2_3), (16, s0 3 lh3_3.length), (17, ii x3_3), (21, ii (List.getD lh3_3 (Int.toNat x3_3) 0)), (24, pp 3 ((Int.toNat x2_3) * 1))]) (by kernel_rfl) ?_
     refine XS.rd E0_ok rfl [0, 2, 3, 14, 15, 16, 17, 21, 25] rfl (v := ii (List.getD lh3_3 (Int.toNat x2_3) 0)) (v_load1 (encI_ok .i64) (x := (src 28 (.tmp 24))) (b := 3) (off := (Int.toNat x2_3) * 1) (xs := lh3_3) (fz := 0) (e := 3) (es := 1) (d := (some (path 12 25))) (by kernel_rfl) (by kernel_rfl) (by kernel_rfl) (Int.toNat x2_3) 0 0 (by first | rfl | omega) (row_len (inRow_toNat b3) (by simp)) rfl rfl) (σ' := [(0, s0 3 lh3_3.length), (2, ii x2_3), (3, ii x3_3), (14, s0 3 lh3_3.length), (15, ii x2_3), (16, s0 3 lh3_3.length), (17, ii x3_3), (21, ii (List.getD lh3_3 (Int.toNat x3_3) 0)), (25, ii (List.getD lh3_3 (Int.toNat x2_3) 0))]) (by kernel_rfl) ?_
     refine XS.rd E0_ok rfl [0, 2, 3, 16, 17, 21, 25, 26] rfl (v := pp 3 ((Int.toNat x2_3) * 1)) (v_idx (s := 1) (x := (src 28 (.tmp 14))) (y := (src 28 (.tmp 15))) (b := 3) (o := 0) (len := lh3_3.length) (cap := lh3_3.length) (ik := .i64) (i := x2_3) (off := (Int.toNat x2_3) * 1) (d := (some (path 12 26))) (by kernel_rfl) (by kernel_rfl) (by kernel_rfl) b3 (by omega)) (σ' := [(0, s0 3 lh3_3.length), (2, ii x2_3), (3, ii x3_3), (16, s0 3 lh3_3.length), (17, ii x3_3), (21, ii (List.getD lh3_3 (Int.toNat x3_3) 0)), (25, ii (List.getD lh3_3 (Int.toNat x2_3) 0)), (26, pp 3 ((Int.toNat x2_3) * 1))]) (by kernel_rfl) ?_
     refine XS.done (by kernel_rfl) ?_
     refine XR.ef E0_ok [0, 2, 3, 16, 17, 25] rfl (e_store (encI_ok .i64) (size := 1) (x := (src 28 (.tmp 26))) (y := (src 28 (.tmp 21))) (b := 3) (off := (Int.toNat x2_3) * 1) (xs := lh3_3) (e := 3) (es := 1) (d := none) (h' := [(3, rc (encI .i64) (List.set lh3_3 (Int.toNat x2_3) (List.getD lh3_3 (Int.toNat x3_3) 0)) 0 3 1), (2, .cells [sl 1 (1 * 1) n3_x22 c3_x22] 0 22 0), (1, rc (encI .i64) lh1_x22 0 3 1), (0, rc (encI .i64) a z0 y0 1)]) (w := ii (List.getD lh3_3 (Int.toNat x3_3) 0)) (ws := [ii (List.getD lh3_3 (Int.toNat x3_3) 0)]) (a := List.getD lh3_3 (Int.toNat x3_3) 0) (by kernel_rfl) (by kernel_rfl) (by kernel_rfl) (Int.toNat x2_3) 0 0 (by first | rfl | omega) (row_len (inRow_toNat b3) (by simp)) (by kernel_rfl) rfl rfl rfl rfl rfl (by kernel_rfl)) (σ' := [(0, s0 3 lh3_3.length), (2, ii x2_3), (3, ii x3_3), (16, s0 3 lh3_3.length), (17, ii x3_3), (25, ii (List.getD lh3_3 (Int.toNat x2_3) 0))]) (by kernel_rfl) ?_
     refine XR.rd E0_ok [0, 2, 3, 25, 27] rfl (v := pp 3 ((Int.toNat x3_3) * 1)) (v_idx (s := 1) (x := (src 28 (.tmp 16))) (y := (src 28 (.tmp 17))) (b := 3) (o := 0) (len := lh3_3.length) (cap := lh3_3.length) (ik := .i64) (i := x3_3) (off := (Int.toNat x3_3) * 1) (d := (some (path 12 27))) (by kernel_rfl) (by kernel_rfl) (by kernel_rfl) b2 (by omega)) (σ' := [(0, s0 3 lh3_3.length), (2, ii x2_3), (3, ii x3_3), (25, ii (List.getD lh3_3 (Int.toNat x2_3) 0)), (27, pp 3 ((Int.toNat x3_3) * 1))]) (by kernel_rfl) ?_
     refine XR.ef E0_ok [0, 2, 3] rfl (e_store (encI_ok .i64) (size := 1) (x := (src 28 (.tmp 27))) (y := (src 28 (.tmp 25))) (b := 3) (off := (Int.toNat x3_3) * 1) (xs := List.set lh3_3 (Int.toNat x2_3) (List.getD lh3_3 (Int.toNat x3_3) 0)) (e := 3) (es := 1) (d := none) (h' := [(3, rc (encI .i64) (List.set (List.set lh3_3 (Int.toNat x2_3) (List.getD lh3_3 (Int.toNat x3_3) 0)) (Int.toNat x3_3) (List.getD lh3_3 (Int.toNat x2_3) 0)) 0 3 1), (2, .cells [sl 1 (1 * 1) n3_x22 c3_x22] 0 22 0), (1, rc (encI .i64) lh1_x22 0 3 1), (0, rc (encI .i64) a z0 y0 1)]) (w := ii (List.getD lh3_3 (Int.toNat x2_3) 0)) (ws := [ii (List.getD lh3_3 (Int.toNat x2_3) 0)]) (a := List.getD lh3_3 (Int.toNat x2_3) 0) (by kernel_rfl) (by kernel_rfl) (by kernel_rfl) (Int.toNat x3_3) 0 0 (by first | rfl | omega) (row_len (inRow_toNat b2) (by simp)) (by kernel_rfl) rfl rfl rfl rfl rfl (by kernel_rfl)) (σ' := [(0, s0 3 lh3_3.length), (2, ii x2_3), (3, ii x3_3)]) (by kernel_rfl) ?_
     refine dQ ?_
     show XQ _ _ _ _ _ _ _ _
     refine rQ ?_
     refine rS 6 [(0, s0 3 lh3_3.length), (2, ii (w64 (x2_3 + 1))), (3, ii (w64 (x3_3 - 1)))] ?_
     refine dQ ?_
     show XL _ _ _ _ _ _ _ _ _
     refine XL.ren (σ' := [(0, s0 3 lh3_3.length), (2, ii (w64 (x2_3 + 1))), (3, ii (w64 (x3_3 - 1)))]) (h' := [(3, rc (encI .i64) (List.set (List.set lh3_3 (Int.toNat x2_3) (List.getD lh3_3 (Int.toNat x3_3) 0)) (Int.toNat x3_3) (List.getD lh3_3 (Int.toNat x2_3) 0)) 0 3 1), (2, .cells [sl 1 (1 * 1) n3_x22 c3_x22] 0 22 0), (1, rc (encI .i64) lh1_x22 0 3 1), (0, rc (encI .i64) a z0 y0 1)]) (c' := 4) [0, 1, 2, 3] (by decide) rfl ⟨rfl, rfl, rfl, trivial⟩ ⟨⟨_, _, rfl, rfl, .inl ⟨rfl, rwI⟩⟩, ⟨_, _, rfl, rfl, .inr ⟨_, _, _, _, rfl, rfl⟩⟩, ⟨_, _, rfl, rfl, .inl ⟨rfl, rwI⟩⟩, ⟨_, _, rfl, rfl, .inl ⟨rfl, rwI⟩⟩, trivial⟩ rfl ?_
     refine XL.conv (f59_3_ok m fuel z0 y0 a n3_x22 c3_x22 lh1_x22 (w64 (x2_3 + 1)) (w64 (x3_3 - 1)) (List.set (List.set lh3_3 (Int.toNat x2_3) (List.getD lh3_3 (Int.toNat x3_3) 0)) (Int.toNat x3_3) (List.getD lh3_3 (Int.toNat x2_3) 0)) o h Q hQ) (by first | rfl | simp)
  | false =>
   have h := cF b1 h
   refine iF (.tmp 9) ?_
   refine XQ.ren (σ' := []) (h' := [(3, rc (encI .i64) lh3_3 0 3 1), (2, .cells [sl 1 (1 * 1) n3_x22 c3_x22] 0 22 0), (1, rc (encI .i64) lh1_x22 0 3 1), (0, rc (encI .i64) a z0 y0 1)]) (c' := 4) [0, 1, 2, 3] (by decide) rfl trivial ⟨⟨_, _, rfl, rfl, .inl ⟨rfl, rwI⟩⟩, ⟨_, _, rfl, rfl, .inr ⟨_, _, _, _, rfl, rfl⟩⟩, ⟨_, _, rfl, rfl, .inl ⟨rfl, rwI⟩⟩, ⟨_, _, rfl, rfl, .inl ⟨rfl, rwI⟩⟩, trivial⟩ rfl ?_
   refine XQ.exit (i := 0) (by kernel_rfl) ?_
   cases h
   exact hQ
inductive Of59_1 where
 | r
 | x0
def f59_1 (m : Nat) : Nat → List Int → List Int → Option Of59_1
 | 0, _, _ => none
 | fuel + 1, a, lh1_1 =>
  cond (decide (((lh1_1.length : Nat) : Int) > 0)) (
   cond (inRow 0 lh1_1.length) (
    cond (cutOK 1 ((lh1_1.length : Nat) : Int) ((lh1_1.length : Nat) : Int) lh1_1.length) (
     cond (decide ((List.getD lh1_1 0 0) > ((lh1_1.length - 1 : Nat) : Int))) (
      some (.r)
     ) (
      cond (cutOK 0 (List.getD lh1_1 0 0) ((lh1_1.length - 1 : Nat) : Int) (lh1_1.length - 1)) (
       (f59_2 m m a (lh1_1.length - 1) (lh1_1.length - 1) ((Int.toNat (List.getD lh1_1 0 0) : Nat) : Int) 0 lh1_1).bind fun o2 =>
        match o2 with
        | .r =>
         some (.r)
        | .x2 n3_x22 c3_x22 lh1_x22 =>
         cond (decide (n3_x22 ≤ c3_x22)) (
          cond (decide (1 + n3_x22 ≤ lh1_x22.length)) (
           cond (Nat.ble (List.take n3_x22 (List.drop 1 lh1_x22)).length 1000000) (
            (f59_3 m m a n3_x22 c3_x22 lh1_x22 0 (w64 ((((sortI (List.take n3_x22 (List.drop 1 lh1_x22))).length : Nat) : Int) - 1)) (sortI (List.take n3_x22 (List.drop 1 lh1_x22)))).bind fun o3 =>
             cond (decide ((sortI (List.take n3_x22 (List.drop 1 lh1_x22))).length = o3.length)) (
              f59_1 m fuel a o3
             ) none
           ) none
          ) none
         ) none
      ) none
     )
    ) none
   ) none
  ) (
   some (.x0)
  )
theorem f59_1_ok (m : Nat) : ∀ (fuel : Nat) (z0 : Nat) (y0 : Nat) (a : List Int) (lh1_1 : List Int) (o : Of59_1), f59_1 m fuel a lh1_1 = some o → ∀ Q : QP, (match o with | .r => Q .ret [(2, .bool false)] [(0, rc (encI .i64) a z0 y0 1)] 1 | .x0 => Q (.exit 0) [] [(0, rc (encI .i64) a z0 y0 1)] 1) → XL E0 41 1 fuel f59_L1 [(3, s0 1 lh1_1.length)] [(1, rc (encI .i64) lh1_1 0 3 1), (0, rc (encI .i64) a z0 y0 1)] 2 Q
 | 0, z0, y0, a, lh1_1, o, h, Q, hQ => by cases h
 | fuel + 1, z0, y0, a, lh1_1, o, h, Q, hQ => by
  unfold f59_1 at h
  refine XL.succ E0_ok ?_
  refine sQ ?_
  refine qQ ?_
  refine rS 3 [(3, s0 1 lh1_1.length), (10, .bool (decide (((lh1_1.length : Nat) : Int) > 0)))] ?_
  refine dQ ?_
  show XQ _ _ _ _ _ _ _ _
  cases b1 : (decide (((lh1_1.length : Nat) : Int) > 0) : Bool) with
  | true =>
   have h := cT b1 h
   refine iT (.tmp 10) ?_
   refine kQ ?_
   show XQ _ _ _ _ _ _ _ _
   refine XQ.block (id := 1) (by kernel_rfl) ?_
   refine qQ ?_
   refine rS 1 [(3, s0 1 lh1_1.length), (11, s0 1 lh1_1.length)] ?_
   cases b2 : (inRow 0 lh1_1.length : Bool) with
   | false => cases (cF b2 h)
   | true =>
    have h := cT b2 h
    refine XR.rd E0_ok [3, 12] rfl (v := pp 1 (0 * 1)) (v_idx (s := 1) (x := (src 41 (.tmp 11))) (y := (src 41 (.const (ii 0)))) (b := 1) (o := 0) (len := lh1_1.length) (cap := lh1_1.length) (ik := .i64) (i := 0) (off := 0 * 1) (d := (some (path 12 12))) (by kernel_rfl) (by kernel_rfl) (by kernel_rfl) b2 (by omega)) (σ' := [(3, s0 1 lh1_1.length), (12, pp 1 (0 * 1))]) (by kernel_rfl) ?_
    refine XR.rd E0_ok [3, 13] rfl (v := ii (List.getD lh1_1 0 0)) (v_load1 (encI_ok .i64) (x := (src 41 (.tmp 12))) (b := 1) (off := 0 * 1) (xs := lh1_1) (fz := 0) (e := 3) (es := 1) (d := (some (path 12 13))) (by kernel_rfl) (by kernel_rfl) (by kernel_rfl) 0 0 0 (by first | rfl | omega) (row_len (inRow_toNat b2) (by simp)) rfl rfl) (σ' := [(3, s0 1 lh1_1.length), (13, ii (List.getD lh1_1 0 0))]) (by kernel_rfl) ?_
    refine rS 1 [(3, s0 1 lh1_1.length), (4, ii (List.getD lh1_1 0 0))] ?_
    refine nQ id ?_
    refine rS 1 [(4, ii (List.getD lh1_1 0 0)), (14, s0 1 lh1_1.length)] ?_
    cases b3 : (cutOK 1 ((lh1_1.length : Nat) : Int) ((lh1_1.length : Nat) : Int) lh1_1.length : Bool) with
    | false => cases (cF b3 h)
    | true =>
     have h := cT b3 h
     refine XR.rd E0_ok [4, 15] rfl (v := sl 1 (1 * 1) (lh1_1.length - 1) (lh1_1.length - 1)) (v_cut (nt := 41) (s := 1) (x := (src 41 (.tmp 14))) (lo := (some (.const (ii 1)))) (hi := none) (mx := none) (b := 1) (o := 0) (len := lh1_1.length) (cap := lh1_1.length) (l := (some 1)) (u := none) (m := none) (cs := rowC (encI .i64) lh1_1) (fz := 0) (e := 3) (es := 1) (o' := 1 * 1) (len' := lh1_1.length - 1) (cap' := lh1_1.length - 1) (d := (some (path 12 15))) (by kernel_rfl) (by kernel_rfl) (by kernel_rfl) (by kernel_rfl) (by kernel_rfl) (by kernel_rfl) (by kernel_rfl) rfl b3 (by simp only [Option.getD_none, Option.getD_some] <;> omega) (by simp only [Option.getD_none, Option.getD_some] <;> omega) (by simp only [Option.getD_none, Option.getD_some] <;> omega)) (σ' := [(4, ii (List.getD lh1_1 0 0)), (15, sl 1 (1 * 1) (lh1_1.length - 1) (lh1_1.length - 1))]) (by kernel_rfl) ?_
     refine rS 1 [(3, sl 1 (1 * 1) (lh1_1.length - 1) (lh1_1.length - 1)), (4, ii (List.getD lh1_1 0 0))] ?_
     refine dQ ?_
     show XQ _ _ _ _ _ _ _ _
     refine sQ ?_
     refine qQ ?_
     refine rS 4 [(3, sl 1 (1 * 1) (lh1_1.length - 1) (lh1_1.length - 1)), (4, ii (List.getD lh1_1 0 0)), (19, .bool (decide ((List.getD lh1_1 0 0) > ((lh1_1.length - 1 : Nat) : Int))))] ?_
     refine dQ ?_
     show XQ _ _ _ _ _ _ _ _
     cases b4 : (decide ((List.getD lh1_1 0 0) > ((lh1_1.length - 1 : Nat) : Int)) : Bool) with
     | true =>
      have h := cT b4 h
      refine iT (.tmp 19) ?_
      refine qQ ?_
      refine rS 1 [(2, .bool false)] ?_
      refine dQ ?_
      show XQ _ _ _ _ _ _ _ _
      refine XQ.ren (σ' := [(2, .bool false)]) (h' := [(0, rc (encI .i64) a z0 y0 1)]) (c' := 1) [0] (by decide) rfl ⟨rfl, trivial⟩ ⟨⟨_, _, rfl, rfl, .inl ⟨rfl, rwI⟩⟩, trivial⟩ rfl ?_
      refine XQ.ret (by kernel_rfl) ?_
      cases h
      exact hQ
     | false =>
      have h := cF b4 h
      refine iF (.tmp 19) ?_
      refine kQ ?_
      show XQ _ _ _ _ _ _ _ _
      refine sQ ?_
      refine qQ ?_
      refine rS 2 [(3, sl 1 (1 * 1) (lh1_1.length - 1) (lh1_1.length - 1)), (20, sl 1 (1 * 1) (lh1_1.length - 1) (lh1_1.length - 1)), (21, ii (List.getD lh1_1 0 0))] ?_
      cases b5 : (cutOK 0 (List.getD lh1_1 0 0) ((lh1_1.length - 1 : Nat) : Int) (lh1_1.length - 1) : Bool) with
      | false => cases (cF b5 h)
      | true =>
       have h := cT b5 h
       refine XR.rd E0_ok [3, 22] rfl (v := sl 1 (1 * 1) (Int.toNat (List.getD lh1_1 0 0)) (lh1_1.length - 1)) (v_cut (nt := 41) (s := 1) (x := (src 41 (.tmp 20))) (lo := none) (hi := (some (.tmp 21))) (mx := none) (b := 1) (o := 1 * 1) (len := lh1_1.length - 1) (cap := lh1_1.length - 1) (l := none) (u := (some (List.getD lh1_1 0 0))) (m := none) (cs := rowC (encI .i64) lh1_1) (fz := 0) (e := 3) (es := 1) (o' := 1 * 1) (len' := Int.toNat (List.getD lh1_1 0 0)) (cap' := lh1_1.length - 1) (d := (some (path 12 22))) (by kernel_rfl) (by kernel_rfl) (by kernel_rfl) (by kernel_rfl) (by kernel_rfl) (by kernel_rfl) (by kernel_rfl) rfl b5 (by simp only [Option.getD_none, Option.getD_some] <;> omega) (by simp only [Option.getD_none, Option.getD_some] <;> omega) (by simp only [Option.getD_none, Option.getD_some] <;> omega)) (σ' := [(3, sl 1 (1 * 1) (lh1_1.length - 1) (lh1_1.length - 1)), (22, sl 1 (1 * 1) (Int.toNat (List.getD lh1_1 0 0)) (lh1_1.length - 1))]) (by kernel_rfl) ?_
       refine rS 2 [(3, sl 1 (1 * 1) (lh1_1.length - 1) (lh1_1.length - 1)), (23, ii ((Int.toNat (List.getD lh1_1 0 0) : Nat) : Int)), (24, ii 0)] ?_
       refine dQ ?_
       show XQ _ _ _ _ _ _ _ _
       refine XQ.block (id := 2) (by kernel_rfl) ?_
       refine XQ.loop m (by kernel_rfl) ?_
       obtain ⟨o2, o2_h, h⟩ := bS h
       refine XL.ren (σ' := [(3, sl 1 (1 * 1) (lh1_1.length - 1) (lh1_1.length - 1)), (23, ii ((Int.toNat (List.getD lh1_1 0 0) : Nat) : Int)), (24, ii 0)]) (h' := [(1, rc (encI .i64) lh1_1 0 3 1), (0, rc (encI .i64) a z0 y0 1)]) (c' := 2) [0, 1] (by decide) rfl ⟨rfl, rfl, rfl, trivial⟩ ⟨⟨_, _, rfl, rfl, .inl ⟨rfl, rwI⟩⟩, ⟨_, _, rfl, rfl, .inl ⟨rfl, rwI⟩⟩, trivial⟩ rfl ?_
       cases o2 with
       | r =>
        dsimp only at h
        refine XL.conv (f59_2_ok m m z0 y0 a (lh1_1.length - 1) (lh1_1.length - 1) ((Int.toNat (List.getD lh1_1 0 0) : Nat) : Int) 0 lh1_1 (.r) o2_h _ ?_) (by first | rfl | simp)
        cases h
        exact hQ
       | x2 n3_x22 c3_x22 lh1_x22 =>
        dsimp only at h
        refine XL.conv (f59_2_ok m m z0 y0 a (lh1_1.length - 1) (lh1_1.length - 1) ((Int.toNat (List.getD lh1_1 0 0) : Nat) : Int) 0 lh1_1 (.x2 n3_x22 c3_x22 lh1_x22) o2_h _ ?_) (by first | rfl | simp)
        show XQ _ _ _ _ _ _ _ _
        refine rQ ?_
        refine rS 1 [(39, sl 1 (1 * 1) n3_x22 c3_x22)] ?_
        refine XR.callK E0_ok [40] rfl (K := 61) (args := [sl 1 (1 * 1) n3_x22 c3_x22]) (d := (some (path 12 40))) (by kernel_rfl) ?_
        refine KC.bodyN E0_ok (F := Proofs.Tryd.f61) (by kernel_rfl) (code := f59_C61) (by kernel_rfl) (nt := 10) (by kernel_rfl) (rs := [.tmp 2]) (by kernel_rfl) (by kernel_rfl) (σ := [(0, sl 1 (1 * 1) n3_x22 c3_x22)]) (by kernel_rfl) ?_
        refine qQ ?_
        refine rS 1 [(0, sl 1 (1 * 1) n3_x22 c3_x22)] ?_
        refine nQ id ?_
        refine rS 1 [(4, sl 1 (1 * 1) n3_x22 c3_x22)] ?_
        refine XR.callK E0_ok [5] rfl (K := 82) (args := [sl 1 (1 * 1) n3_x22 c3_x22]) (d := (some (path 12 5))) (by kernel_rfl) ?_
        refine KC.bodyN E0_ok (F := Proofs.Tryd.f82) (by kernel_rfl) (code := f59_C82) (by kernel_rfl) (nt := 4) (by kernel_rfl) (rs := [.tmp 2]) (by kernel_rfl) (by kernel_rfl) (σ := [(0, sl 1 (1 * 1) n3_x22 c3_x22)]) (by kernel_rfl) ?_
        refine qQ ?_
        refine rT 2 [(1, pp 2 0)] [(2, .cells [sl 1 (1 * 1) n3_x22 c3_x22] 0 22 0), (1, rc (encI .i64) lh1_x22 0 3 1), (0, rc (encI .i64) a z0 y0 1)] 3 ?_
        refine nQ id ?_
        refine rS 2 [(2, .func (.func 105) #[] #[pp 2 0])] ?_
        refine dQ ?_
        show XQ _ _ _ _ _ _ _ _
        refine XQ.ret (by kernel_rfl) ?_
        refine ⟨fun i q => (by cases q), .func (.func 105) #[] #[pp 2 0], (by kernel_rfl), ?_⟩
        refine XR.conv (σ' := [(5, .func (.func 105) #[] #[pp 2 0])]) (h' := [(2, .cells [sl 1 (1 * 1) n3_x22 c3_x22] 0 22 0), (1, rc (encI .i64) lh1_x22 0 3 1), (0, rc (encI .i64) a z0 y0 1)]) (c' := 3) ?_ (by kernel_rfl)
        cases b7 : (decide (n3_x22 ≤ c3_x22) : Bool) with
        | false => cases (cF b7 h)
        | true =>
         have h := cT b7 h
         cases b8 : (decide (1 + n3_x22 ≤ lh1_x22.length) : Bool) with
         | false => cases (cF b8 h)
         | true =>
          have h := cT b8 h
          cases b9 : (Nat.ble (List.take n3_x22 (List.drop 1 lh1_x22)).length 1000000 : Bool) with
          | false => cases (cF b9 h)
          | true =>
           have h := cT b9 h
           refine XR.call E0_ok [6] rfl (K := 81) (args := [.func (.func 105) #[] #[pp 2 0]]) (d := (some (path 12 6))) (by kernel_rfl) (sorted_row (c := 3) (b := 2) (V := sl 1 (1 * 1) n3_x22 c3_x22) (ys := List.take n3_x22 (List.drop 1 lh1_x22)) (n := n3_x22) (fz1 := 0) (e1 := 22) (es1 := 0) (by kernel_rfl) rfl (fetch_row (encI_ok .i64) (ys := lh1_x22) (fz := 0) (e := 3) (es := 1) (by kernel_rfl) 1 n3_x22 n3_x22 c3_x22 rfl (Nat.ble_eq_true_of_le (of_decide_eq_true b7)) (of_decide_eq_true b8) rfl) b9) ?_
           rintro _ _ _ ⟨rfl, rfl, rfl⟩
           refine XR.conv (σ' := [(6, s0 3 ((sortI (List.take n3_x22 (List.drop 1 lh1_x22))).length))]) (h' := [(3, rc (encI .i64) (sortI (List.take n3_x22 (List.drop 1 lh1_x22))) 0 3 1), (2, .cells [sl 1 (1 * 1) n3_x22 c3_x22] 0 22 0), (1, rc (encI .i64) lh1_x22 0 3 1), (0, rc (encI .i64) a z0 y0 1)]) (c' := 4) ?_ (by kernel_rfl)
           refine rS 1 [(3, s0 3 ((sortI (List.take n3_x22 (List.drop 1 lh1_x22))).length))] ?_
           refine nQ id ?_
           refine rS 1 [(3, s0 3 ((sortI (List.take n3_x22 (List.drop 1 lh1_x22))).length)), (7, s0 3 ((sortI (List.take n3_x22 (List.drop 1 lh1_x22))).length))] ?_
           refine XR.callK E0_ok [3] rfl (K := 83) (args := [s0 3 ((sortI (List.take n3_x22 (List.drop 1 lh1_x22))).length)]) (d := (some (path 12 8))) (by kernel_rfl) ?_
           refine KC.bodyN E0_ok (F := Proofs.Tryd.f83) (by kernel_rfl) (code := f59_C83) (by kernel_rfl) (nt := 28) (by kernel_rfl) (rs := []) (by kernel_rfl) (by kernel_rfl) (σ := [(0, s0 3 ((sortI (List.take n3_x22 (List.drop 1 lh1_x22))).length))]) (by kernel_rfl) ?_
           refine qQ ?_
           refine rS 5 [(0, s0 3 ((sortI (List.take n3_x22 (List.drop 1 lh1_x22))).length)), (2, ii 0), (3, ii (w64 ((((sortI (List.take n3_x22 (List.drop 1 lh1_x22))).length : Nat) : Int) - 1)))] ?_
           refine dQ ?_
           show XQ _ _ _ _ _ _ _ _
           refine XQ.block (id := 0) (by kernel_rfl) ?_
           refine XQ.loop m (by kernel_rfl) ?_
           obtain ⟨o3, o3_h, h⟩ := bS h
           refine XL.ren (σ' := [(0, s0 3 ((sortI (List.take n3_x22 (List.drop 1 lh1_x22))).length)), (2, ii 0), (3, ii (w64 ((((sortI (List.take n3_x22 (List.drop 1 lh1_x22))).length : Nat) : Int) - 1)))]) (h' := [(3, rc (encI .i64) (sortI (List.take n3_x22 (List.drop 1 lh1_x22))) 0 3 1), (2, .cells [sl 1 (1 * 1) n3_x22 c3_x22] 0 22 0), (1, rc (encI .i64) lh1_x22 0 3 1), (0, rc (encI .i64) a z0 y0 1)]) (c' := 4) [0, 1, 2, 3] (by decide) rfl ⟨rfl, rfl, rfl, trivial⟩ ⟨⟨_, _, rfl, rfl, .inl ⟨rfl, rwI⟩⟩, ⟨_, _, rfl, rfl, .inr ⟨_, _, _, _, rfl, rfl⟩⟩, ⟨_, _, rfl, rfl, .inl ⟨rfl, rwI⟩⟩, ⟨_, _, rfl, rfl, .inl ⟨rfl, rwI⟩⟩, trivial⟩ rfl ?_
           refine XL.conv (f59_3_ok m m z0 y0 a n3_x22 c3_x22 lh1_x22 0 (w64 ((((sortI (List.take n3_x22 (List.drop 1 lh1_x22))).length : Nat) : Int) - 1)) (sortI (List.take n3_x22 (List.drop 1 lh1_x22))) o3 o3_h _ ?_) (by first | rfl | simp)
           refine ⟨fun i q => (by cases q), .tuple #[], (by kernel_rfl), ?_⟩
           refine XR.conv (σ' := [(3, s0 3 ((sortI (List.take n3_x22 (List.drop 1 lh1_x22))).length))]) (h' := [(3, rc (encI .i64) o3 0 3 1), (2, .cells [sl 1 (1 * 1) n3_x22 c3_x22] 0 22 0), (1, rc (encI .i64) lh1_x22 0 3 1), (0, rc (encI .i64) a z0 y0 1)]) (c' := 4) ?_ (by kernel_rfl)
           cases b11 : (decide ((sortI (List.take n3_x22 (List.drop 1 lh1_x22))).length = o3.length) : Bool) with
           | false => cases (cF b11 h)
           | true =>
            have h := cT b11 h
            refine XR.conv (σ' := [(3, s0 3 o3.length)]) (h' := [(3, rc (encI .i64) o3 0 3 1), (2, .cells [sl 1 (1 * 1) n3_x22 c3_x22] 0 22 0), (1, rc (encI .i64) lh1_x22 0 3 1), (0, rc (encI .i64) a z0 y0 1)]) (c' := 4) ?_ (by rw [of_decide_eq_true b11])
            refine nQ id ?_
            refine rS 2 [(2, s0 3 o3.length)] ?_
            refine dQ ?_
            show XQ _ _ _ _ _ _ _ _
            refine XQ.ret (by kernel_rfl) ?_
            refine ⟨fun i q => (by cases q), s0 3 o3.length, (by kernel_rfl), ?_⟩
            refine XR.conv (σ' := [(40, s0 3 o3.length)]) (h' := [(3, rc (encI .i64) o3 0 3 1), (2, .cells [sl 1 (1 * 1) n3_x22 c3_x22] 0 22 0), (1, rc (encI .i64) lh1_x22 0 3 1), (0, rc (encI .i64) a z0 y0 1)]) (c' := 4) ?_ (by kernel_rfl)
            refine rS 1 [(3, s0 3 o3.length)] ?_
            refine dQ ?_
            show XL _ _ _ _ _ _ _ _ _
            refine XL.ren (σ' := [(3, s0 1 o3.length)]) (h' := [(1, rc (encI .i64) o3 0 3 1), (0, rc (encI .i64) a z0 y0 1)]) (c' := 2) [0, 3] (by decide) rfl ⟨rfl, trivial⟩ ⟨⟨_, _, rfl, rfl, .inl ⟨rfl, rwI⟩⟩, ⟨_, _, rfl, rfl, .inl ⟨rfl, rwI⟩⟩, trivial⟩ rfl ?_
            refine XL.conv (f59_1_ok m fuel z0 y0 a o3 o h Q hQ) (by first | rfl | simp)
  | false =>
   have h := cF b1 h
   refine iF (.tmp 10) ?_
   refine XQ.ren (σ' := []) (h' := [(0, rc (encI .i64) a z0 y0 1)]) (c' := 1) [0] (by decide) rfl trivial ⟨⟨_, _, rfl, rfl, .inl ⟨rfl, rwI⟩⟩, trivial⟩ rfl ?_
   refine XQ.exit (i := 0) (by kernel_rfl) ?_
   cases h
   exact hQ
def f59 (m : Nat) (a : List Int) : Option (Bool) :=
 (f61 m a).bind fun r1 =>
  (f59_1 m m a r1).bind fun o1 =>
   match o1 with
   | .r =>
    some (false)
   | .x0 =>
    some (true)
theorem f59_ok (m : Nat) (z0 : Nat) (y0 : Nat) (a : List Int) (o : Bool) (h : f59 m a = some o) : KC E0 59 [s0 0 a.length] [(0, rc (encI .i64) a z0 y0 1)] 1 (fun v _ _ => v = .bool o) := by
 refine KC.bodyN E0_ok (F := Proofs.Tryd.f59) (by kernel_rfl) (code := f59_C59) (by kernel_rfl) (nt := 41) (by kernel_rfl) (rs := [.tmp 2]) (by kernel_rfl) (by kernel_rfl) (σ := [(0, s0 0 a.length)]) (by kernel_rfl) ?_
 unfold f59 at h
 refine qQ ?_
 refine rS 1 [(0, s0 0 a.length)] ?_
 refine nQ id ?_
 refine rS 1 [(6, s0 0 a.length)] ?_
 obtain ⟨r1, r1_h, h⟩ := bS h
 refine XR.call E0_ok [7] rfl (K := 61) (args := [s0 0 a.length]) (d := (some (path 12 7))) (by kernel_rfl) (KC.liftH (n0 := 1) (m := 1) (args0 := [s0 0 a.length]) (h0 := [(0, rc (encI .i64) a (z0 + ((rowC (encI .i64) a).length + 1)) y0 1)]) (V := s0 1 r1.length) (V2 := s0 1 r1.length) (H := [(1, rc (encI .i64) r1 0 3 1)]) (H2 := [(1, rc (encI .i64) r1 0 3 1)]) [0] [2, 1] (f61_ok m (z0 + ((rowC (encI .i64) a).length + 1)) y0 a r1 r1_h) (by rfl) (by decide) rfl (by kernel_rfl) ⟨⟨_, _, rfl, rfl, .inl ⟨rfl, rwI⟩⟩, trivial⟩ (by decide) (by decide) (by kernel_rfl) ⟨⟨_, _, rfl, rfl, .inl ⟨rfl, rwI⟩⟩, trivial⟩ (by rfl)) ?_
 rintro _ _ _ ⟨rfl, rfl, rfl⟩
 refine XR.conv (σ' := [(7, s0 1 r1.length)]) (h' := [(1, rc (encI .i64) r1 0 3 1), (0, rc (encI .i64) a z0 y0 1)]) (c' := 2) ?_ (by kernel_rfl)
 refine rS 1 [(3, s0 1 r1.length)] ?_
 refine dQ ?_
 show XQ _ _ _ _ _ _ _ _
 refine sQ ?_
 refine XQ.block (id := 0) (by kernel_rfl) ?_
 refine XQ.loop m (by kernel_rfl) ?_
 obtain ⟨o1, o1_h, h⟩ := bS h
 refine XL.ren (σ' := [(3, s0 1 r1.length)]) (h' := [(1, rc (encI .i64) r1 0 3 1), (0, rc (encI .i64) a z0 y0 1)]) (c' := 2) [0, 1] (by decide) rfl ⟨rfl, trivial⟩ ⟨⟨_, _, rfl, rfl, .inl ⟨rfl, rwI⟩⟩, ⟨_, _, rfl, rfl, .inl ⟨rfl, rwI⟩⟩, trivial⟩ rfl ?_
 cases o1 with
 | r =>
  dsimp only at h
  refine XL.conv (f59_1_ok m m z0 y0 a r1 (.r) o1_h _ ?_) (by first | rfl | simp)
  have h := Option.some.inj h
  subst h
  exact ⟨fun i q => (by cases q), .bool false, (by kernel_rfl), rfl⟩
 | x0 =>
  dsimp only at h
  refine XL.conv (f59_1_ok m m z0 y0 a r1 (.x0) o1_h _ ?_) (by first | rfl | simp)
  show XQ _ _ _ _ _ _ _ _
  refine qQ ?_
  refine rS 1 [(2, .bool true)] ?_
  refine dQ ?_
  show XQ _ _ _ _ _ _ _ _
  refine XQ.ret (by kernel_rfl) ?_
  have h := Option.some.inj h
  subst h
  exact ⟨fun i q => (by cases q), .bool true, (by kernel_rfl), rfl⟩
end Go.Xm
namespace Go.Xm
open Go.RowKit
set_option linter.unusedVariables false
set_option linter.unusedSimpArgs false
set_option maxRecDepth 20000
end Go.Xm
