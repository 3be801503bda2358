/- What these functions of the program compute, as functions in Lean, and the proofs that they do: club.within, vitolaref12.in, club.Check, vitolaref12.Check, vitolaref12.sum, club.stands. Conditions: the library's variables hold what their texts lay. -/
import Derived.Test.YtfimbmhannndaaaDoorZk
import Derived.Test.YtfimbmhannndaaaDoorWa
import Derived.Test.YtfimbmhannndaaaDoorMy
namespace Go.Xm
open Go.RowKit
set_option linter.unusedVariables false
set_option linter.unusedSimpArgs false
set_option maxRecDepth 20000
noncomputable def f65_C65 : Code := Proofs.Tryd.f65.body.getD .skip
def f65 (m : Nat) (a : Int) (b : Int) (c : Int) : Option (Bool) :=
 cond (decide (b ≤ a)) (
  some (decide (a ≤ c))
 ) (
  some (false)
 )
theorem f65_ok (m : Nat) (a : Int) (b : Int) (c : Int) (o : Bool) (h : f65 m a b c = some o) (w : World) (hI : seatInv w) : Calls Proofs.Tryd.prog 65 #[ii a, ii b, ii c] w fun e w' => e = .returned (.bool o) ∧ Below w.heap.size w w' := by
 refine KC.calls (E := E0) (args := [ii a, ii b, ii c]) (v := .bool o) rfl rfl (KC.bodyN E0_ok (F := Proofs.Tryd.f65) (by kernel_rfl) (code := f65_C65) (by kernel_rfl) (nt := 15) (by kernel_rfl) (rs := [.tmp 6]) (by kernel_rfl) (by kernel_rfl) (σ := [(0, ii a), (1, ii b), (2, ii c)]) (by kernel_rfl) ?_) w (seatInv_size hI) hI
 unfold f65 at h
 refine qQ ?_
 refine rS 1 [(0, ii a), (1, ii b), (2, ii c)] ?_
 refine nQ id ?_
 refine rS 4 [(0, ii a), (2, ii c), (10, .bool (decide (b ≤ a)))] ?_
 cases b1 : (decide (b ≤ a) : Bool) with
 | true =>
  have h := cT b1 h
  refine rS 5 [(6, .bool (decide (a ≤ c)))] ?_
  refine dQ ?_
  show XQ _ _ _ _ _ _ _ _
  refine XQ.ret (by kernel_rfl) ?_
  have h := Option.some.inj h
  subst h
  exact ⟨fun i q => (by cases q), .bool (decide (a ≤ c)), (by kernel_rfl), rfl⟩
 | false =>
  have h := cF b1 h
  refine rS 5 [(6, .bool false)] ?_
  refine dQ ?_
  show XQ _ _ _ _ _ _ _ _
  refine XQ.ret (by kernel_rfl) ?_
  have h := Option.some.inj h
  subst h
  exact ⟨fun i q => (by cases q), .bool false, (by kernel_rfl), rfl⟩
noncomputable def f66_C66 : Code := Proofs.Tryd.f66.body.getD .skip
def f66 (m : Nat) (a : Int) (b : Int) (c : Int) : Option (Bool) :=
 cond (decide (a ≥ b)) (
  some (decide (a ≤ c))
 ) (
  some (false)
 )
theorem f66_ok (m : Nat) (a : Int) (b : Int) (c : Int) (o : Bool) (h : f66 m a b c = some o) (w : World) (hI : seatInv w) : Calls Proofs.Tryd.prog 66 #[ii a, ii b, ii c] w fun e w' => e = .returned (.bool o) ∧ Below w.heap.size w w' := by
 refine KC.calls (E := E0) (args := [ii a, ii b, ii c]) (v := .bool o) rfl rfl (KC.bodyN E0_ok (F := Proofs.Tryd.f66) (by kernel_rfl) (code := f66_C66) (by kernel_rfl) (nt := 15) (by kernel_rfl) (rs := [.tmp 6]) (by kernel_rfl) (by kernel_rfl) (σ := [(0, ii a), (1, ii b), (2, ii c)]) (by kernel_rfl) ?_) w (seatInv_size hI) hI
 unfold f66 at h
 refine qQ ?_
 refine rS 1 [(0, ii a), (1, ii b), (2, ii c)] ?_
 refine nQ id ?_
 refine rS 4 [(0, ii a), (2, ii c), (10, .bool (decide (a ≥ b)))] ?_
 cases b1 : (decide (a ≥ b) : Bool) with
 | true =>
  have h := cT b1 h
  refine rS 5 [(6, .bool (decide (a ≤ c)))] ?_
  refine dQ ?_
  show XQ _ _ _ _ _ _ _ _
  refine XQ.ret (by kernel_rfl) ?_
  have h := Option.some.inj h
  subst h
  exact ⟨fun i q => (by cases q), .bool (decide (a ≤ c)), (by kernel_rfl), rfl⟩
 | false =>
  have h := cF b1 h
  refine rS 5 [(6, .bool false)] ?_
  refine dQ ?_
  show XQ _ _ _ _ _ _ _ _
  refine XQ.ret (by kernel_rfl) ?_
  have h := Option.some.inj h
  subst h
  exact ⟨fun i q => (by cases q), .bool false, (by kernel_rfl), rfl⟩
noncomputable def f21_C21 : Code := Proofs.Tryd.f21.body.getD .skip
noncomputable def f21_C68 : Code := Proofs.Tryd.f68.body.getD .skip
noncomputable def f21_C93 : Code := Proofs.Tryd.f93.body.getD .skip
noncomputable def f21_C69 : Code := Proofs.Tryd.f69.body.getD .skip
noncomputable def f21_L1 : Code := lft (lft (rgt (lft (rgt f21_C93))))
inductive Of21_1 where
 | r (x4_r1 : Int) (xh1_0_r1 : Int)
 | x0 (xh1_0_x01 : Int)
def f21_1 (m : Nat) : Nat → List Int → Int → Int → Int → Option Of21_1
 | 0, _, _, _, _ => none
 | fuel + 1, a, x7_1, x8_1, xh1_0_1 =>
  cond (decide (x8_1 < x7_1)) (
   cond (inRow x8_1 a.length) (
    (f65 m (List.getD a (Int.toNat x8_1) 0) 0 (w64 (xh1_0_1 - 1))).bind fun r3 =>
     cond (!r3) (
      some (.r x8_1 xh1_0_1)
     ) (
      f21_1 m fuel a x7_1 (w64 (x8_1 + 1)) xh1_0_1
     )
   ) none
  ) (
   some (.x0 xh1_0_1)
  )
theorem f21_1_ok (m : Nat) : ∀ (fuel : Nat) (z0 : Nat) (y0 : Nat) (a : List Int) (x7_1 : Int) (x8_1 : Int) (xh1_0_1 : Int) (o : Of21_1), f21_1 m fuel a x7_1 x8_1 xh1_0_1 = some o → ∀ Q : QP, (match o with | .r x4_r1 xh1_0_r1 => Q .ret [(4, ii x4_r1)] [(1, .cells [ii xh1_0_r1] 0 3 0), (0, rc (encI .i64) a z0 y0 1)] 2 | .x0 xh1_0_x01 => Q (.exit 0) [] [(1, .cells [ii xh1_0_x01] 0 3 0), (0, rc (encI .i64) a z0 y0 1)] 2) → XL E0 19 2 fuel f21_L1 [(0, s0 0 a.length), (1, .func (.func 69) #[] #[pp 1 0]), (7, ii x7_1), (8, ii x8_1)] [(1, .cells [ii xh1_0_1] 0 3 0), (0, rc (encI .i64) a z0 y0 1)] 2 Q
 | 0, z0, y0, a, x7_1, x8_1, xh1_0_1, o, h, Q, hQ => by cases h
 | fuel + 1, z0, y0, a, x7_1, x8_1, xh1_0_1, o, h, Q, hQ => by
  unfold f21_1 at h
  refine XL.succ E0_ok ?_
  refine qQ ?_
  refine rS 1 [(0, s0 0 a.length), (1, .func (.func 69) #[] #[pp 1 0]), (7, ii x7_1), (8, ii x8_1), (9, .bool (decide (x8_1 < x7_1)))] ?_
  refine dQ ?_
  show XQ _ _ _ _ _ _ _ _
  refine sQ ?_
  cases b1 : (decide (x8_1 < x7_1) : Bool) with
  | true =>
   have h := cT b1 h
   refine iT (.tmp 9) ?_
   refine kQ ?_
   show XQ _ _ _ _ _ _ _ _
   refine sQ ?_
   refine XQ.block (id := 1) (by kernel_rfl) ?_
   refine qQ ?_
   refine rS 2 [(0, s0 0 a.length), (1, .func (.func 69) #[] #[pp 1 0]), (5, ii x8_1), (7, ii x7_1), (8, ii x8_1)] ?_
   refine nQ id ?_
   refine rS 3 [(0, s0 0 a.length), (1, .func (.func 69) #[] #[pp 1 0]), (5, ii x8_1), (7, ii x7_1), (8, ii x8_1), (11, .func (.func 69) #[] #[pp 1 0]), (12, s0 0 a.length), (13, ii x8_1)] ?_
   cases b2 : (inRow x8_1 a.length : Bool) with
   | false => cases (cF b2 h)
   | true =>
    have h := cT b2 h
    refine XR.rd E0_ok [0, 1, 5, 7, 8, 11, 14] rfl (v := pp 0 ((Int.toNat x8_1) * 1)) (v_idx (s := 1) (x := (src 19 (.tmp 12))) (y := (src 19 (.tmp 13))) (b := 0) (o := 0) (len := a.length) (cap := a.length) (ik := .i64) (i := x8_1) (off := (Int.toNat x8_1) * 1) (d := (some (path 12 14))) (by kernel_rfl) (by kernel_rfl) (by kernel_rfl) b2 (by omega)) (σ' := [(0, s0 0 a.length), (1, .func (.func 69) #[] #[pp 1 0]), (5, ii x8_1), (7, ii x7_1), (8, ii x8_1), (11, .func (.func 69) #[] #[pp 1 0]), (14, pp 0 ((Int.toNat x8_1) * 1))]) (by kernel_rfl) ?_
    refine XR.rd E0_ok [0, 1, 5, 7, 8, 11, 15] rfl (v := ii (List.getD a (Int.toNat x8_1) 0)) (v_load1 (encI_ok .i64) (x := (src 19 (.tmp 14))) (b := 0) (off := (Int.toNat x8_1) * 1) (xs := a) (fz := z0) (e := y0) (es := 1) (d := (some (path 12 15))) (by kernel_rfl) (by kernel_rfl) (by kernel_rfl) (Int.toNat x8_1) 0 0 (by first | rfl | omega) (row_len (inRow_toNat b2) (by simp)) rfl rfl) (σ' := [(0, s0 0 a.length), (1, .func (.func 69) #[] #[pp 1 0]), (5, ii x8_1), (7, ii x7_1), (8, ii x8_1), (11, .func (.func 69) #[] #[pp 1 0]), (15, ii (List.getD a (Int.toNat x8_1) 0))]) (by kernel_rfl) ?_
    refine XR.callK E0_ok [0, 1, 5, 7, 8, 16] rfl (K := 69) (args := [ii (List.getD a (Int.toNat x8_1) 0), pp 1 0]) (d := (some (path 12 16))) (by kernel_rfl) ?_
    refine KC.bodyN E0_ok (F := Proofs.Tryd.f69) (by kernel_rfl) (code := f21_C69) (by kernel_rfl) (nt := 9) (by kernel_rfl) (rs := [.tmp 3]) (by kernel_rfl) (by kernel_rfl) (σ := [(0, ii (List.getD a (Int.toNat x8_1) 0)), (1, pp 1 0)]) (by kernel_rfl) ?_
    refine qQ ?_
    refine rS 1 [(0, ii (List.getD a (Int.toNat x8_1) 0)), (1, pp 1 0)] ?_
    refine nQ id ?_
    refine rS 3 [(4, ii (List.getD a (Int.toNat x8_1) 0)), (6, ii (w64 (xh1_0_1 - 1)))] ?_
    obtain ⟨r3, r3_h, h⟩ := bS h
    refine XR.call E0_ok [7] rfl (K := 65) (args := [ii (List.getD a (Int.toNat x8_1) 0), ii 0, ii (w64 (xh1_0_1 - 1))]) (d := (some (path 12 7))) (by kernel_rfl) (KC.of_calls E0_ok (F := Proofs.Tryd.f65) (v := .bool r3) (by kernel_rfl) rfl rfl (fun w hI => f65_ok m (List.getD a (Int.toNat x8_1) 0) 0 (w64 (xh1_0_1 - 1)) r3 r3_h w hI)) ?_
    rintro _ _ _ ⟨rfl, rfl, rfl⟩
    refine XR.conv (σ' := [(7, .bool r3)]) (h' := [(1, .cells [ii xh1_0_1] 0 3 0), (0, rc (encI .i64) a z0 y0 1)]) (c' := 2) ?_ (by kernel_rfl)
    refine rS 2 [(3, .bool (!r3))] ?_
    refine dQ ?_
    show XQ _ _ _ _ _ _ _ _
    refine XQ.ret (by kernel_rfl) ?_
    refine ⟨fun i q => (by cases q), .bool (!r3), (by kernel_rfl), ?_⟩
    refine XR.conv (σ' := [(0, s0 0 a.length), (1, .func (.func 69) #[] #[pp 1 0]), (5, ii x8_1), (7, ii x7_1), (8, ii x8_1), (16, .bool (!r3))]) (h' := [(1, .cells [ii xh1_0_1] 0 3 0), (0, rc (encI .i64) a z0 y0 1)]) (c' := 2) ?_ (by kernel_rfl)
    refine dQ ?_
    show XQ _ _ _ _ _ _ _ _
    cases b3 : (!r3 : Bool) with
    | true =>
     have h := cT b3 h
     refine iT (.tmp 16) ?_
     refine qQ ?_
     refine rS 2 [(4, ii x8_1)] ?_
     refine dQ ?_
     show XQ _ _ _ _ _ _ _ _
     refine XQ.ren (σ' := [(4, ii x8_1)]) (h' := [(1, .cells [ii xh1_0_1] 0 3 0), (0, rc (encI .i64) a z0 y0 1)]) (c' := 2) [0, 1] (by decide) rfl ⟨rfl, trivial⟩ ⟨⟨_, _, rfl, rfl, .inr ⟨_, _, _, _, rfl, rfl⟩⟩, ⟨_, _, rfl, rfl, .inl ⟨rfl, rwI⟩⟩, trivial⟩ rfl ?_
     refine XQ.ret (by kernel_rfl) ?_
     cases h
     exact hQ
    | false =>
     have h := cF b3 h
     refine iF (.tmp 16) ?_
     refine kQ ?_
     show XQ _ _ _ _ _ _ _ _
     refine rQ ?_
     refine rS 2 [(0, s0 0 a.length), (1, .func (.func 69) #[] #[pp 1 0]), (7, ii x7_1), (8, ii (w64 (x8_1 + 1)))] ?_
     refine dQ ?_
     show XL _ _ _ _ _ _ _ _ _
     refine XL.ren (σ' := [(0, s0 0 a.length), (1, .func (.func 69) #[] #[pp 1 0]), (7, ii x7_1), (8, ii (w64 (x8_1 + 1)))]) (h' := [(1, .cells [ii xh1_0_1] 0 3 0), (0, rc (encI .i64) a z0 y0 1)]) (c' := 2) [0, 1] (by decide) rfl ⟨rfl, rfl, rfl, rfl, trivial⟩ ⟨⟨_, _, rfl, rfl, .inr ⟨_, _, _, _, rfl, rfl⟩⟩, ⟨_, _, rfl, rfl, .inl ⟨rfl, rwI⟩⟩, trivial⟩ rfl ?_
     refine XL.conv (f21_1_ok m fuel z0 y0 a x7_1 (w64 (x8_1 + 1)) xh1_0_1 o h Q hQ) (by first | rfl | simp)
  | false =>
   have h := cF b1 h
   refine iF (.tmp 9) ?_
   refine XQ.ren (σ' := []) (h' := [(1, .cells [ii xh1_0_1] 0 3 0), (0, rc (encI .i64) a z0 y0 1)]) (c' := 2) [0, 1] (by decide) rfl trivial ⟨⟨_, _, rfl, rfl, .inr ⟨_, _, _, _, rfl, rfl⟩⟩, ⟨_, _, rfl, rfl, .inl ⟨rfl, rwI⟩⟩, trivial⟩ rfl ?_
   refine XQ.exit (i := 0) (by kernel_rfl) ?_
   cases h
   exact hQ
def f21 (m : Nat) (a : List Int) : Option (Int) :=
 cond (((a.length : Nat) : Int) == 0) (
  some (4)
 ) (
  cond (decide (((a.length : Nat) : Int) > 8)) (
   some (3)
  ) (
   (f21_1 m m a ((a.length : Nat) : Int) 0 ((a.length : Nat) : Int)).bind fun o1 =>
    match o1 with
    | .r x4_r1 xh1_0_r1 =>
     cond (decide (x4_r1 ≥ 0)) (
      some (1)
     ) (
      some (0)
     )
    | .x0 xh1_0_x01 =>
     some (0)
  )
 )
theorem f21_ok (m : Nat) (z0 : Nat) (y0 : Nat) (a : List Int) (o : Int) (h : f21 m a = some o) : KC E0 21 [s0 0 a.length] [(0, rc (encI .i64) a z0 y0 1)] 1 (fun v _ _ => v = ii o) := by
 refine KC.bodyN E0_ok (F := Proofs.Tryd.f21) (by kernel_rfl) (code := f21_C21) (by kernel_rfl) (nt := 16) (by kernel_rfl) (rs := [.tmp 2]) (by kernel_rfl) (by kernel_rfl) (σ := [(0, s0 0 a.length)]) (by kernel_rfl) ?_
 unfold f21 at h
 refine qQ ?_
 refine rS 1 [(0, s0 0 a.length)] ?_
 refine nQ id ?_
 refine rT 4 [(0, s0 0 a.length), (3, pp 1 0)] [(1, .cells [ii ((a.length : Nat) : Int)] 0 3 0), (0, rc (encI .i64) a z0 y0 1)] 2 ?_
 refine dQ ?_
 show XQ _ _ _ _ _ _ _ _
 refine sQ ?_
 refine XQ.block (id := 0) (by kernel_rfl) ?_
 refine qQ ?_
 refine rS 3 [(0, s0 0 a.length), (3, pp 1 0), (6, .bool (((a.length : Nat) : Int) == 0))] ?_
 refine dQ ?_
 show XQ _ _ _ _ _ _ _ _
 cases b1 : (((a.length : Nat) : Int) == 0 : Bool) with
 | true =>
  have h := cT b1 h
  refine iT (.tmp 6) ?_
  refine qQ ?_
  refine rS 1 [(2, ii 4)] ?_
  refine dQ ?_
  show XQ _ _ _ _ _ _ _ _
  refine XQ.ret (by kernel_rfl) ?_
  have h := Option.some.inj h
  subst h
  exact ⟨fun i q => (by cases q), ii 4, (by kernel_rfl), rfl⟩
 | false =>
  have h := cF b1 h
  refine iF (.tmp 6) ?_
  refine qQ ?_
  refine rS 3 [(0, s0 0 a.length), (3, pp 1 0), (9, .bool (decide (((a.length : Nat) : Int) > 8)))] ?_
  refine dQ ?_
  show XQ _ _ _ _ _ _ _ _
  cases b2 : (decide (((a.length : Nat) : Int) > 8) : Bool) with
  | true =>
   have h := cT b2 h
   refine iT (.tmp 9) ?_
   refine qQ ?_
   refine rS 1 [(2, ii 3)] ?_
   refine dQ ?_
   show XQ _ _ _ _ _ _ _ _
   refine XQ.ret (by kernel_rfl) ?_
   have h := Option.some.inj h
   subst h
   exact ⟨fun i q => (by cases q), ii 3, (by kernel_rfl), rfl⟩
  | false =>
   have h := cF b2 h
   refine iF (.tmp 9) ?_
   refine qQ ?_
   refine rS 2 [(13, s0 0 a.length), (14, .func (.func 69) #[] #[pp 1 0])] ?_
   refine XR.callK E0_ok [15] rfl (K := 68) (args := [s0 0 a.length, .func (.func 69) #[] #[pp 1 0]]) (d := (some (path 12 15))) (by kernel_rfl) ?_
   refine KC.bodyN E0_ok (F := Proofs.Tryd.f68) (by kernel_rfl) (code := f21_C68) (by kernel_rfl) (nt := 9) (by kernel_rfl) (rs := [.tmp 4]) (by kernel_rfl) (by kernel_rfl) (σ := [(0, s0 0 a.length), (1, .func (.func 69) #[] #[pp 1 0])]) (by kernel_rfl) ?_
   refine qQ ?_
   refine rS 1 [(0, s0 0 a.length), (1, .func (.func 69) #[] #[pp 1 0])] ?_
   refine nQ id ?_
   refine rS 2 [(5, s0 0 a.length), (6, .func (.func 69) #[] #[pp 1 0])] ?_
   refine XR.callK E0_ok [7] rfl (K := 93) (args := [s0 0 a.length, .func (.func 69) #[] #[pp 1 0]]) (d := (some (path 12 7))) (by kernel_rfl) ?_
   refine KC.bodyN E0_ok (F := Proofs.Tryd.f93) (by kernel_rfl) (code := f21_C93) (by kernel_rfl) (nt := 19) (by kernel_rfl) (rs := [.tmp 4]) (by kernel_rfl) (by kernel_rfl) (σ := [(0, s0 0 a.length), (1, .func (.func 69) #[] #[pp 1 0])]) (by kernel_rfl) ?_
   refine qQ ?_
   refine rS 1 [(0, s0 0 a.length), (1, .func (.func 69) #[] #[pp 1 0])] ?_
   refine dQ ?_
   show XQ _ _ _ _ _ _ _ _
   refine sQ ?_
   refine qQ ?_
   refine rS 3 [(0, s0 0 a.length), (1, .func (.func 69) #[] #[pp 1 0]), (7, ii ((a.length : Nat) : Int)), (8, ii 0)] ?_
   refine dQ ?_
   show XQ _ _ _ _ _ _ _ _
   refine XQ.block (id := 0) (by kernel_rfl) ?_
   refine XQ.loop m (by kernel_rfl) ?_
   obtain ⟨o1, o1_h, h⟩ := bS h
   refine XL.ren (σ' := [(0, s0 0 a.length), (1, .func (.func 69) #[] #[pp 1 0]), (7, ii ((a.length : Nat) : Int)), (8, ii 0)]) (h' := [(1, .cells [ii ((a.length : Nat) : Int)] 0 3 0), (0, rc (encI .i64) a z0 y0 1)]) (c' := 2) [0, 1] (by decide) rfl ⟨rfl, rfl, rfl, rfl, trivial⟩ ⟨⟨_, _, rfl, rfl, .inr ⟨_, _, _, _, rfl, rfl⟩⟩, ⟨_, _, rfl, rfl, .inl ⟨rfl, rwI⟩⟩, trivial⟩ rfl ?_
   cases o1 with
   | r x4_r1 xh1_0_r1 =>
    dsimp only at h
    refine XL.conv (f21_1_ok m m z0 y0 a ((a.length : Nat) : Int) 0 ((a.length : Nat) : Int) (.r x4_r1 xh1_0_r1) o1_h _ ?_) (by first | rfl | simp)
    refine ⟨fun i q => (by cases q), ii x4_r1, (by kernel_rfl), ?_⟩
    refine XR.conv (σ' := [(7, ii x4_r1)]) (h' := [(1, .cells [ii xh1_0_r1] 0 3 0), (0, rc (encI .i64) a z0 y0 1)]) (c' := 2) ?_ (by kernel_rfl)
    refine rS 2 [(4, .bool (decide (x4_r1 ≥ 0)))] ?_
    refine dQ ?_
    show XQ _ _ _ _ _ _ _ _
    refine XQ.ret (by kernel_rfl) ?_
    refine ⟨fun i q => (by cases q), .bool (decide (x4_r1 ≥ 0)), (by kernel_rfl), ?_⟩
    refine XR.conv (σ' := [(15, .bool (decide (x4_r1 ≥ 0)))]) (h' := [(1, .cells [ii xh1_0_r1] 0 3 0), (0, rc (encI .i64) a z0 y0 1)]) (c' := 2) ?_ (by kernel_rfl)
    refine rS 1 [(12, .bool (decide (x4_r1 ≥ 0)))] ?_
    refine dQ ?_
    show XQ _ _ _ _ _ _ _ _
    cases b4 : (decide (x4_r1 ≥ 0) : Bool) with
    | true =>
     have h := cT b4 h
     refine iT (.tmp 12) ?_
     refine qQ ?_
     refine rS 1 [(2, ii 1)] ?_
     refine dQ ?_
     show XQ _ _ _ _ _ _ _ _
     refine XQ.ret (by kernel_rfl) ?_
     have h := Option.some.inj h
     subst h
     exact ⟨fun i q => (by cases q), ii 1, (by kernel_rfl), rfl⟩
    | false =>
     have h := cF b4 h
     refine iF (.tmp 12) ?_
     refine kQ ?_
     show XQ _ _ _ _ _ _ _ _
     refine qQ ?_
     refine rS 1 [(2, ii 0)] ?_
     refine dQ ?_
     show XQ _ _ _ _ _ _ _ _
     refine XQ.ret (by kernel_rfl) ?_
     have h := Option.some.inj h
     subst h
     exact ⟨fun i q => (by cases q), ii 0, (by kernel_rfl), rfl⟩
   | x0 xh1_0_x01 =>
    dsimp only at h
    refine XL.conv (f21_1_ok m m z0 y0 a ((a.length : Nat) : Int) 0 ((a.length : Nat) : Int) (.x0 xh1_0_x01) o1_h _ ?_) (by first | rfl | simp)
    show XQ _ _ _ _ _ _ _ _
    refine qQ ?_
    refine rS 1 [(4, ii (-1))] ?_
    refine dQ ?_
    show XQ _ _ _ _ _ _ _ _
    refine XQ.ret (by kernel_rfl) ?_
    refine ⟨fun i q => (by cases q), ii (-1), (by kernel_rfl), ?_⟩
    refine XR.conv (σ' := [(7, ii (-1))]) (h' := [(1, .cells [ii xh1_0_x01] 0 3 0), (0, rc (encI .i64) a z0 y0 1)]) (c' := 2) ?_ (by kernel_rfl)
    refine rS 2 [(4, .bool false)] ?_
    refine dQ ?_
    show XQ _ _ _ _ _ _ _ _
    refine XQ.ret (by kernel_rfl) ?_
    refine ⟨fun i q => (by cases q), .bool false, (by kernel_rfl), ?_⟩
    refine XR.conv (σ' := [(15, .bool false)]) (h' := [(1, .cells [ii xh1_0_x01] 0 3 0), (0, rc (encI .i64) a z0 y0 1)]) (c' := 2) ?_ (by kernel_rfl)
    refine rS 1 [(12, .bool false)] ?_
    refine dQ ?_
    show XQ _ _ _ _ _ _ _ _
    refine iF (.tmp 12) ?_
    refine kQ ?_
    show XQ _ _ _ _ _ _ _ _
    refine qQ ?_
    refine rS 1 [(2, ii 0)] ?_
    refine dQ ?_
    show XQ _ _ _ _ _ _ _ _
    refine XQ.ret (by kernel_rfl) ?_
    have h := Option.some.inj h
    subst h
    exact ⟨fun i q => (by cases q), ii 0, (by kernel_rfl), rfl⟩
noncomputable def f22_C22 : Code := Proofs.Tryd.f22.body.getD .skip
noncomputable def f22_L1 : Code := lft (lft (rgt (lft (rgt (rgt (rgt f22_C22))))))
inductive Of22_1 where
 | r
 | x0
def f22_1 (m : Nat) : Nat → List Int → Int → Option Of22_1
 | 0, _, _ => none
 | fuel + 1, a, x3_1 =>
  cond (decide (x3_1 < ((a.length : Nat) : Int))) (
   cond (inRow x3_1 a.length) (
    (f66 m (List.getD a (Int.toNat x3_1) 0) 0 (w64 (((a.length : Nat) : Int) - 1))).bind fun r3 =>
     cond (!r3) (
      some (.r)
     ) (
      f22_1 m fuel a (w64 (x3_1 + 1))
     )
   ) none
  ) (
   some (.x0)
  )
theorem f22_1_ok (m : Nat) : ∀ (fuel : Nat) (z0 : Nat) (y0 : Nat) (a : List Int) (x3_1 : Int) (o : Of22_1), f22_1 m fuel a x3_1 = some o → ∀ Q : QP, (match o with | .r => Q .ret [(2, ii 1)] [(0, rc (encI .i64) a z0 y0 1)] 1 | .x0 => Q (.exit 0) [] [(0, rc (encI .i64) a z0 y0 1)] 1) → XL E0 25 1 fuel f22_L1 [(0, s0 0 a.length), (3, ii x3_1)] [(0, rc (encI .i64) a z0 y0 1)] 1 Q
 | 0, z0, y0, a, x3_1, o, h, Q, hQ => by cases h
 | fuel + 1, z0, y0, a, x3_1, o, h, Q, hQ => by
  unfold f22_1 at h
  refine XL.succ E0_ok ?_
  refine sQ ?_
  refine qQ ?_
  refine rS 4 [(0, s0 0 a.length), (3, ii x3_1), (13, .bool (decide (x3_1 < ((a.length : Nat) : Int))))] ?_
  refine dQ ?_
  show XQ _ _ _ _ _ _ _ _
  cases b1 : (decide (x3_1 < ((a.length : Nat) : Int)) : Bool) with
  | true =>
   have h := cT b1 h
   refine iT (.tmp 13) ?_
   refine kQ ?_
   show XQ _ _ _ _ _ _ _ _
   refine sQ ?_
   refine XQ.block (id := 1) (by kernel_rfl) ?_
   refine qQ ?_
   refine rS 2 [(0, s0 0 a.length), (3, ii x3_1), (16, s0 0 a.length), (17, ii x3_1)] ?_
   cases b2 : (inRow x3_1 a.length : Bool) with
   | false => cases (cF b2 h)
   | true =>
    have h := cT b2 h
    refine XR.rd E0_ok [0, 3, 18] rfl (v := pp 0 ((Int.toNat x3_1) * 1)) (v_idx (s := 1) (x := (src 25 (.tmp 16))) (y := (src 25 (.tmp 17))) (b := 0) (o := 0) (len := a.length) (cap := a.length) (ik := .i64) (i := x3_1) (off := (Int.toNat x3_1) * 1) (d := (some (path 12 18))) (by kernel_rfl) (by kernel_rfl) (by kernel_rfl) b2 (by omega)) (σ' := [(0, s0 0 a.length), (3, ii x3_1), (18, pp 0 ((Int.toNat x3_1) * 1))]) (by kernel_rfl) ?_
    refine XR.rd E0_ok [0, 3, 19] rfl (v := ii (List.getD a (Int.toNat x3_1) 0)) (v_load1 (encI_ok .i64) (x := (src 25 (.tmp 18))) (b := 0) (off := (Int.toNat x3_1) * 1) (xs := a) (fz := z0) (e := y0) (es := 1) (d := (some (path 12 19))) (by kernel_rfl) (by kernel_rfl) (by kernel_rfl) (Int.toNat x3_1) 0 0 (by first | rfl | omega) (row_len (inRow_toNat b2) (by simp)) rfl rfl) (σ' := [(0, s0 0 a.length), (3, ii x3_1), (19, ii (List.getD a (Int.toNat x3_1) 0))]) (by kernel_rfl) ?_
    refine rS 3 [(0, s0 0 a.length), (3, ii x3_1), (19, ii (List.getD a (Int.toNat x3_1) 0)), (22, ii (w64 (((a.length : Nat) : Int) - 1)))] ?_
    obtain ⟨r3, r3_h, h⟩ := bS h
    refine XR.call E0_ok [0, 3, 23] rfl (K := 66) (args := [ii (List.getD a (Int.toNat x3_1) 0), ii 0, ii (w64 (((a.length : Nat) : Int) - 1))]) (d := (some (path 12 23))) (by kernel_rfl) (KC.of_calls E0_ok (F := Proofs.Tryd.f66) (v := .bool r3) (by kernel_rfl) rfl rfl (fun w hI => f66_ok m (List.getD a (Int.toNat x3_1) 0) 0 (w64 (((a.length : Nat) : Int) - 1)) r3 r3_h w hI)) ?_
    rintro _ _ _ ⟨rfl, rfl, rfl⟩
    refine XR.conv (σ' := [(0, s0 0 a.length), (3, ii x3_1), (23, .bool r3)]) (h' := [(0, rc (encI .i64) a z0 y0 1)]) (c' := 1) ?_ (by kernel_rfl)
    refine rS 1 [(0, s0 0 a.length), (3, ii x3_1), (24, .bool (!r3))] ?_
    refine dQ ?_
    show XQ _ _ _ _ _ _ _ _
    cases b3 : (!r3 : Bool) with
    | true =>
     have h := cT b3 h
     refine iT (.tmp 24) ?_
     refine qQ ?_
     refine rS 1 [(2, ii 1)] ?_
     refine dQ ?_
     show XQ _ _ _ _ _ _ _ _
     refine XQ.ren (σ' := [(2, ii 1)]) (h' := [(0, rc (encI .i64) a z0 y0 1)]) (c' := 1) [0] (by decide) rfl ⟨rfl, trivial⟩ ⟨⟨_, _, rfl, rfl, .inl ⟨rfl, rwI⟩⟩, trivial⟩ rfl ?_
     refine XQ.ret (by kernel_rfl) ?_
     cases h
     exact hQ
    | false =>
     have h := cF b3 h
     refine iF (.tmp 24) ?_
     refine kQ ?_
     show XQ _ _ _ _ _ _ _ _
     refine rQ ?_
     refine rS 3 [(0, s0 0 a.length), (3, ii (w64 (x3_1 + 1)))] ?_
     refine dQ ?_
     show XL _ _ _ _ _ _ _ _ _
     refine XL.ren (σ' := [(0, s0 0 a.length), (3, ii (w64 (x3_1 + 1)))]) (h' := [(0, rc (encI .i64) a z0 y0 1)]) (c' := 1) [0] (by decide) rfl ⟨rfl, rfl, trivial⟩ ⟨⟨_, _, rfl, rfl, .inl ⟨rfl, rwI⟩⟩, trivial⟩ rfl ?_
     refine XL.conv (f22_1_ok m fuel z0 y0 a (w64 (x3_1 + 1)) o h Q hQ) (by first | rfl | simp)
  | false =>
   have h := cF b1 h
   refine iF (.tmp 13) ?_
   refine XQ.ren (σ' := []) (h' := [(0, rc (encI .i64) a z0 y0 1)]) (c' := 1) [0] (by decide) rfl trivial ⟨⟨_, _, rfl, rfl, .inl ⟨rfl, rwI⟩⟩, trivial⟩ rfl ?_
   refine XQ.exit (i := 0) (by kernel_rfl) ?_
   cases h
   exact hQ
def f22 (m : Nat) (a : List Int) : Option (Int) :=
 cond (((a.length : Nat) : Int) == 0) (
  some (4)
 ) (
  cond (decide (((a.length : Nat) : Int) > 8)) (
   some (3)
  ) (
   (f22_1 m m a 0).bind fun o1 =>
    match o1 with
    | .r =>
     some (1)
    | .x0 =>
     some (0)
  )
 )
theorem f22_ok (m : Nat) (z0 : Nat) (y0 : Nat) (a : List Int) (o : Int) (h : f22 m a = some o) : KC E0 22 [s0 0 a.length] [(0, rc (encI .i64) a z0 y0 1)] 1 (fun v _ _ => v = ii o) := by
 refine KC.bodyN E0_ok (F := Proofs.Tryd.f22) (by kernel_rfl) (code := f22_C22) (by kernel_rfl) (nt := 25) (by kernel_rfl) (rs := [.tmp 2]) (by kernel_rfl) (by kernel_rfl) (σ := [(0, s0 0 a.length)]) (by kernel_rfl) ?_
 unfold f22 at h
 refine qQ ?_
 refine rS 1 [(0, s0 0 a.length)] ?_
 refine dQ ?_
 show XQ _ _ _ _ _ _ _ _
 refine sQ ?_
 refine qQ ?_
 refine rS 3 [(0, s0 0 a.length), (6, .bool (((a.length : Nat) : Int) == 0))] ?_
 refine dQ ?_
 show XQ _ _ _ _ _ _ _ _
 cases b1 : (((a.length : Nat) : Int) == 0 : Bool) with
 | true =>
  have h := cT b1 h
  refine iT (.tmp 6) ?_
  refine qQ ?_
  refine rS 1 [(2, ii 4)] ?_
  refine dQ ?_
  show XQ _ _ _ _ _ _ _ _
  refine XQ.ret (by kernel_rfl) ?_
  have h := Option.some.inj h
  subst h
  exact ⟨fun i q => (by cases q), ii 4, (by kernel_rfl), rfl⟩
 | false =>
  have h := cF b1 h
  refine iF (.tmp 6) ?_
  refine kQ ?_
  show XQ _ _ _ _ _ _ _ _
  refine sQ ?_
  refine qQ ?_
  refine rS 3 [(0, s0 0 a.length), (9, .bool (decide (((a.length : Nat) : Int) > 8)))] ?_
  refine dQ ?_
  show XQ _ _ _ _ _ _ _ _
  cases b2 : (decide (((a.length : Nat) : Int) > 8) : Bool) with
  | true =>
   have h := cT b2 h
   refine iT (.tmp 9) ?_
   refine qQ ?_
   refine rS 1 [(2, ii 3)] ?_
   refine dQ ?_
   show XQ _ _ _ _ _ _ _ _
   refine XQ.ret (by kernel_rfl) ?_
   have h := Option.some.inj h
   subst h
   exact ⟨fun i q => (by cases q), ii 3, (by kernel_rfl), rfl⟩
  | false =>
   have h := cF b2 h
   refine iF (.tmp 9) ?_
   refine kQ ?_
   show XQ _ _ _ _ _ _ _ _
   refine sQ ?_
   refine qQ ?_
   refine rS 1 [(0, s0 0 a.length), (3, ii 0)] ?_
   refine dQ ?_
   show XQ _ _ _ _ _ _ _ _
   refine XQ.block (id := 0) (by kernel_rfl) ?_
   refine XQ.loop m (by kernel_rfl) ?_
   obtain ⟨o1, o1_h, h⟩ := bS h
   refine XL.ren (σ' := [(0, s0 0 a.length), (3, ii 0)]) (h' := [(0, rc (encI .i64) a z0 y0 1)]) (c' := 1) [0] (by decide) rfl ⟨rfl, rfl, trivial⟩ ⟨⟨_, _, rfl, rfl, .inl ⟨rfl, rwI⟩⟩, trivial⟩ rfl ?_
   cases o1 with
   | r =>
    dsimp only at h
    refine XL.conv (f22_1_ok m m z0 y0 a 0 (.r) o1_h _ ?_) (by first | rfl | simp)
    have h := Option.some.inj h
    subst h
    exact ⟨fun i q => (by cases q), ii 1, (by kernel_rfl), rfl⟩
   | x0 =>
    dsimp only at h
    refine XL.conv (f22_1_ok m m z0 y0 a 0 (.x0) o1_h _ ?_) (by first | rfl | simp)
    show XQ _ _ _ _ _ _ _ _
    refine qQ ?_
    refine rS 1 [(2, ii 0)] ?_
    refine dQ ?_
    show XQ _ _ _ _ _ _ _ _
    refine XQ.ret (by kernel_rfl) ?_
    have h := Option.some.inj h
    subst h
    exact ⟨fun i q => (by cases q), ii 0, (by kernel_rfl), rfl⟩
noncomputable def f63_C63 : Code := Proofs.Tryd.f63.body.getD .skip
noncomputable def f63_L1 : Code := lft (lft (rgt (lft (rgt (rgt f63_C63)))))
def f63_1 (m : Nat) : Nat → List Int → Int → Int → Option Int
 | 0, _, _, _ => none
 | fuel + 1, a, x3_1, x4_1 =>
  cond (decide (x4_1 < ((a.length : Nat) : Int))) (
   cond (inRow x4_1 a.length) (
    f63_1 m fuel a (w64 (x3_1 + (List.getD a (Int.toNat x4_1) 0))) (w64 (x4_1 + 1))
   ) none
  ) (
   some (x3_1)
  )
theorem f63_1_ok (m : Nat) : ∀ (fuel : Nat) (z0 : Nat) (y0 : Nat) (a : List Int) (x3_1 : Int) (x4_1 : Int) (o : Int), f63_1 m fuel a x3_1 x4_1 = some o → ∀ Q : QP, Q (.exit 0) [(3, ii o)] [(0, rc (encI .i64) a z0 y0 1)] 1 → XL E0 18 1 fuel f63_L1 [(0, s0 0 a.length), (3, ii x3_1), (4, ii x4_1)] [(0, rc (encI .i64) a z0 y0 1)] 1 Q
 | 0, z0, y0, a, x3_1, x4_1, o, h, Q, hQ => by cases h
 | fuel + 1, z0, y0, a, x3_1, x4_1, o, h, Q, hQ => by
  unfold f63_1 at h
  refine XL.succ E0_ok ?_
  refine sQ ?_
  refine qQ ?_
  refine rS 4 [(0, s0 0 a.length), (3, ii x3_1), (4, ii x4_1), (8, .bool (decide (x4_1 < ((a.length : Nat) : Int))))] ?_
  refine dQ ?_
  show XQ _ _ _ _ _ _ _ _
  cases b1 : (decide (x4_1 < ((a.length : Nat) : Int)) : Bool) with
  | true =>
   have h := cT b1 h
   refine iT (.tmp 8) ?_
   refine kQ ?_
   show XQ _ _ _ _ _ _ _ _
   refine sQ ?_
   refine XQ.block (id := 1) (by kernel_rfl) ?_
   refine rQ ?_
   refine rS 3 [(0, s0 0 a.length), (4, ii x4_1), (11, ii x3_1), (12, s0 0 a.length), (13, ii x4_1)] ?_
   cases b2 : (inRow x4_1 a.length : Bool) with
   | false => cases (cF b2 h)
   | true =>
    have h := cT b2 h
    refine XR.rd E0_ok [0, 4, 11, 14] rfl (v := pp 0 ((Int.toNat x4_1) * 1)) (v_idx (s := 1) (x := (src 18 (.tmp 12))) (y := (src 18 (.tmp 13))) (b := 0) (o := 0) (len := a.length) (cap := a.length) (ik := .i64) (i := x4_1) (off := (Int.toNat x4_1) * 1) (d := (some (path 12 14))) (by kernel_rfl) (by kernel_rfl) (by kernel_rfl) b2 (by omega)) (σ' := [(0, s0 0 a.length), (4, ii x4_1), (11, ii x3_1), (14, pp 0 ((Int.toNat x4_1) * 1))]) (by kernel_rfl) ?_
    refine XR.rd E0_ok [0, 4, 11, 15] rfl (v := ii (List.getD a (Int.toNat x4_1) 0)) (v_load1 (encI_ok .i64) (x := (src 18 (.tmp 14))) (b := 0) (off := (Int.toNat x4_1) * 1) (xs := a) (fz := z0) (e := y0) (es := 1) (d := (some (path 12 15))) (by kernel_rfl) (by kernel_rfl) (by kernel_rfl) (Int.toNat x4_1) 0 0 (by first | rfl | omega) (row_len (inRow_toNat b2) (by simp)) rfl rfl) (σ' := [(0, s0 0 a.length), (4, ii x4_1), (11, ii x3_1), (15, ii (List.getD a (Int.toNat x4_1) 0))]) (by kernel_rfl) ?_
    refine rS 2 [(0, s0 0 a.length), (3, ii (w64 (x3_1 + (List.getD a (Int.toNat x4_1) 0)))), (4, ii x4_1)] ?_
    refine dQ ?_
    show XQ _ _ _ _ _ _ _ _
    refine rQ ?_
    refine rS 3 [(0, s0 0 a.length), (3, ii (w64 (x3_1 + (List.getD a (Int.toNat x4_1) 0)))), (4, ii (w64 (x4_1 + 1)))] ?_
    refine dQ ?_
    show XL _ _ _ _ _ _ _ _ _
    refine XL.ren (σ' := [(0, s0 0 a.length), (3, ii (w64 (x3_1 + (List.getD a (Int.toNat x4_1) 0)))), (4, ii (w64 (x4_1 + 1)))]) (h' := [(0, rc (encI .i64) a z0 y0 1)]) (c' := 1) [0] (by decide) rfl ⟨rfl, rfl, rfl, trivial⟩ ⟨⟨_, _, rfl, rfl, .inl ⟨rfl, rwI⟩⟩, trivial⟩ rfl ?_
    refine XL.conv (f63_1_ok m fuel z0 y0 a (w64 (x3_1 + (List.getD a (Int.toNat x4_1) 0))) (w64 (x4_1 + 1)) o h Q hQ) (by first | rfl | simp)
  | false =>
   have h := cF b1 h
   refine iF (.tmp 8) ?_
   refine XQ.ren (σ' := [(3, ii x3_1)]) (h' := [(0, rc (encI .i64) a z0 y0 1)]) (c' := 1) [0] (by decide) rfl ⟨rfl, trivial⟩ ⟨⟨_, _, rfl, rfl, .inl ⟨rfl, rwI⟩⟩, trivial⟩ rfl ?_
   refine XQ.exit (i := 0) (by kernel_rfl) ?_
   cases h
   exact hQ
def f63 (m : Nat) (a : List Int) : Option (Int) :=
 (f63_1 m m a 0 0).bind fun o1 =>
  some (o1)
theorem f63_ok (m : Nat) (z0 : Nat) (y0 : Nat) (a : List Int) (o : Int) (h : f63 m a = some o) : KC E0 63 [s0 0 a.length] [(0, rc (encI .i64) a z0 y0 1)] 1 (fun v _ _ => v = ii o) := by
 refine KC.bodyN E0_ok (F := Proofs.Tryd.f63) (by kernel_rfl) (code := f63_C63) (by kernel_rfl) (nt := 18) (by kernel_rfl) (rs := [.tmp 2]) (by kernel_rfl) (by kernel_rfl) (σ := [(0, s0 0 a.length)]) (by kernel_rfl) ?_
 unfold f63 at h
 refine qQ ?_
 refine rS 1 [(0, s0 0 a.length)] ?_
 refine nQ id ?_
 refine rS 1 [(0, s0 0 a.length), (3, ii 0)] ?_
 refine dQ ?_
 show XQ _ _ _ _ _ _ _ _
 refine sQ ?_
 refine qQ ?_
 refine rS 1 [(0, s0 0 a.length), (3, ii 0), (4, ii 0)] ?_
 refine dQ ?_
 show XQ _ _ _ _ _ _ _ _
 refine XQ.block (id := 0) (by kernel_rfl) ?_
 refine XQ.loop m (by kernel_rfl) ?_
 obtain ⟨o1, o1_h, h⟩ := bS h
 refine XL.ren (σ' := [(0, s0 0 a.length), (3, ii 0), (4, ii 0)]) (h' := [(0, rc (encI .i64) a z0 y0 1)]) (c' := 1) [0] (by decide) rfl ⟨rfl, rfl, rfl, trivial⟩ ⟨⟨_, _, rfl, rfl, .inl ⟨rfl, rwI⟩⟩, trivial⟩ rfl ?_
 refine XL.conv (f63_1_ok m m z0 y0 a 0 0 o1 o1_h _ ?_) (by first | rfl | simp)
 show XQ _ _ _ _ _ _ _ _
 refine qQ ?_
 refine rS 2 [(2, ii o1)] ?_
 refine dQ ?_
 show XQ _ _ _ _ _ _ _ _
 refine XQ.ret (by kernel_rfl) ?_
 have h := Option.some.inj h
 subst h
 exact ⟨fun i q => (by cases q), ii o1, (by kernel_rfl), rfl⟩
end Go.Xm
namespace Go.Xm
open Go.RowKit
set_option linter.unusedVariables false
set_option linter.unusedSimpArgs false
set_option maxRecDepth 20000
noncomputable def f92_C92 : Code := Proofs.Tryd.f92.body.getD .skip
noncomputable def f92_L1 : Code := lft (lft (rgt (lft (rgt (rgt f92_C92)))))
noncomputable def f92_L2 : Code := lft (lft (rgt (lft (lft (rgt f92_L1)))))
def f92_2 (m : Nat) : Nat → List Int → Int → Int → List Int → Option (List Int)
 | 0, _, _, _, _ => none
 | fuel + 1, a, x4_1, x5_2, lh1_2 =>
  cond (decide (x5_2 > 0)) (
   cond (inRow x5_2 lh1_2.length) (
    cond (inRow (w64 (x5_2 - 1)) lh1_2.length) (
     cond (decide ((List.getD lh1_2 (Int.toNat x5_2) 0) > (List.getD lh1_2 (Int.toNat (w64 (x5_2 - 1))) 0))) (
      f92_2 m fuel a x4_1 (w64 (x5_2 - 1)) (List.set (List.set lh1_2 (Int.toNat x5_2) (List.getD lh1_2 (Int.toNat (w64 (x5_2 - 1))) 0)) (Int.toNat (w64 (x5_2 - 1))) (List.getD lh1_2 (Int.toNat x5_2) 0))
     ) (
      some (lh1_2)
     )
    ) none
   ) none
  ) (
   some (lh1_2)
  )

abbrev qdb1 (lh1_2 : List Int) (x4_1 : Int) (x5_2 : Int) (t : St) : St := (3, s0 1 lh1_2.length) :: (4, ii x4_1) :: (5, ii x5_2) :: (32, s0 1 lh1_2.length) :: (33, ii x5_2) :: (34, s0 1 lh1_2.length) :: (36, ii (w64 (x5_2 - 1))) :: t
theorem f92_2_ok (m : Nat) : ∀ (fuel : Nat) (z0 : Nat) (y0 : Nat) (a : List Int) (x4_1 : Int) (x5_2 : Int) (lh1_2 : List Int) (o : (List Int)), f92_2 m fuel a x4_1 x5_2 lh1_2 = some o → ∀ Q : QP, Q (.exit 2) [(3, s0 1 o.length), (4, ii x4_1)] [(1, rI o), (0, rc (encI .i64) a z0 y0 1)] 2 → XL E0 49 1 fuel f92_L2 [(3, s0 1 lh1_2.length), (4, ii x4_1), (5, ii x5_2)] [(1, rI lh1_2), (0, rc (encI .i64) a z0 y0 1)] 2 Q
 | 0, z0, y0, a, x4_1, x5_2, lh1_2, o, h, Q, hQ => by cases h
 | fuel + 1, z0, y0, a, x4_1, x5_2, lh1_2, o, h, Q, hQ => by
  unfold f92_2 at h
  refine XL.succ E0_ok ?_
  refine sQ ?_
  refine sQ ?_
  refine XQ.quiet E0_ok (by kernel_rfl) (by kernel_rfl) ?_
  refine XU.run E0_ok 1 3 [3, 4, 5, 18] rfl (σ' := [(3, s0 1 lh1_2.length), (4, ii x4_1), (5, ii x5_2), (18, .bool (decide (x5_2 > 0)))]) (by kernel_rfl) ?_
  cases b1 : (decide (x5_2 > 0) : Bool) with
  | true =>
   have h := cT b1 h
   refine XU.run E0_ok 1 2 [3, 4, 5, 18, 19, 20] rfl (σ' := [(3, s0 1 lh1_2.length), (4, ii x4_1), (5, ii x5_2), (18, .bool true), (19, s0 1 lh1_2.length), (20, ii x5_2)]) (by kernel_rfl) ?_
   cases b2 : (inRow x5_2 lh1_2.length : Bool) with
   | false => cases (cF b2 h)
   | true =>
    have h := cT b2 h
    refine XU.rd E0_ok [3, 4, 5, 18, 21] rfl (v := pp 1 ((Int.toNat x5_2) * 1)) (v_idx (s := 1) (x := (src 49 (.tmp 19))) (y := (src 49 (.tmp 20))) (b := 1) (o := 0) (len := lh1_2.length) (cap := lh1_2.length) (ik := .i64) (i := x5_2) (off := (Int.toNat x5_2) * 1) (d := (some (path 12 21))) (by kernel_rfl) (by kernel_rfl) (by kernel_rfl) b2 (by omega)) (σ' := [(3, s0 1 lh1_2.length), (4, ii x4_1), (5, ii x5_2), (18, .bool true), (21, pp 1 ((Int.toNat x5_2) * 1))]) (by kernel_rfl) ?_
    refine XU.rd E0_ok [3, 4, 5, 18, 22] rfl (v := ii (List.getD lh1_2 (Int.toNat x5_2) 0)) (v_load1 (encI_ok .i64) (x := (src 49 (.tmp 21))) (b := 1) (off := (Int.toNat x5_2) * 1) (xs := lh1_2) (fz := 0) (e := 3) (es := 1) (d := (some (path 12 22))) (by kernel_rfl) (by kernel_rfl) (by kernel_rfl) (Int.toNat x5_2) 0 0 (by first | rfl | omega) (row_len (inRow_toNat b2) (by simp)) rfl rfl) (σ' := [(3, s0 1 lh1_2.length), (4, ii x4_1), (5, ii x5_2), (18, .bool true), (22, ii (List.getD lh1_2 (Int.toNat x5_2) 0))]) (by kernel_rfl) ?_
    refine XU.run E0_ok 1 3 [3, 4, 5, 18, 22, 23, 25] rfl (σ' := [(3, s0 1 lh1_2.length), (4, ii x4_1), (5, ii x5_2), (18, .bool true), (22, ii (List.getD lh1_2 (Int.toNat x5_2) 0)), (23, s0 1 lh1_2.length), (25, ii (w64 (x5_2 - 1)))]) (by kernel_rfl) ?_
    cases b3 : (inRow (w64 (x5_2 - 1)) lh1_2.length : Bool) with
    | false => cases (cF b3 h)
    | true =>
     have h := cT b3 h
     refine XU.rd E0_ok [3, 4, 5, 18, 22, 26] rfl (v := pp 1 ((Int.toNat (w64 (x5_2 - 1))) * 1)) (v_idx (s := 1) (x := (src 49 (.tmp 23))) (y := (src 49 (.tmp 25))) (b := 1) (o := 0) (len := lh1_2.length) (cap := lh1_2.length) (ik := .i64) (i := w64 (x5_2 - 1)) (off := (Int.toNat (w64 (x5_2 - 1))) * 1) (d := (some (path 12 26))) (by kernel_rfl) (by kernel_rfl) (by kernel_rfl) b3 (by omega)) (σ' := [(3, s0 1 lh1_2.length), (4, ii x4_1), (5, ii x5_2), (18, .bool true), (22, ii (List.getD lh1_2 (Int.toNat x5_2) 0)), (26, pp 1 ((Int.toNat (w64 (x5_2 - 1))) * 1))]) (by kernel_rfl) ?_
     refine XU.rd E0_ok [3, 4, 5, 18, 22, 27] rfl (v := ii (List.getD lh1_2 (Int.toNat (w64 (x5_2 - 1))) 0)) (v_load1 (encI_ok .i64) (x := (src 49 (.tmp 26))) (b := 1) (off := (Int.toNat (w64 (x5_2 - 1))) * 1) (xs := lh1_2) (fz := 0) (e := 3) (es := 1) (d := (some (path 12 27))) (by kernel_rfl) (by kernel_rfl) (by kernel_rfl) (Int.toNat (w64 (x5_2 - 1))) 0 0 (by first | rfl | omega) (row_len (inRow_toNat b3) (by simp)) rfl rfl) (σ' := [(3, s0 1 lh1_2.length), (4, ii x4_1), (5, ii x5_2), (18, .bool true), (22, ii (List.getD lh1_2 (Int.toNat x5_2) 0)), (27, ii (List.getD lh1_2 (Int.toNat (w64 (x5_2 - 1))) 0))]) (by kernel_rfl) ?_
     refine XU.run E0_ok 1 2 [3, 4, 5, 29] rfl (σ' := [(3, s0 1 lh1_2.length), (4, ii x4_1), (5, ii x5_2), (29, .bool (decide ((List.getD lh1_2 (Int.toNat x5_2) 0) > (List.getD lh1_2 (Int.toNat (w64 (x5_2 - 1))) 0))))]) (by kernel_rfl) ?_
     refine XU.done (by kernel_rfl) ?_
     show XQ _ _ _ _ _ _ _ _
     cases b4 : (decide ((List.getD lh1_2 (Int.toNat x5_2) 0) > (List.getD lh1_2 (Int.toNat (w64 (x5_2 - 1))) 0)) : Bool) with
     | true =>
      have h := cT b4 h
      refine iT (.tmp 29) ?_
      refine kQ ?_
      show XQ _ _ _ _ _ _ _ _
      refine sQ ?_
      refine XQ.block (id := 3) (by kernel_rfl) ?_
      refine XQ.preP E0_ok [2, 3, 4] [0, 1, 5, 6, 7, 8, 9, 10, 11, 12, 13, 14] 15 [16, 17] (by kernel_rfl) (by kernel_rfl) (by kernel_rfl) ?_
      refine XP.step E0_ok 3 [3, 4, 5, 34, 36] rfl (σ' := [(3, s0 1 lh1_2.length), (4, ii x4_1), (5, ii x5_2), (34, s0 1 lh1_2.length), (36, ii (w64 (x5_2 - 1)))]) (by kernel_rfl) ?_
      refine XP.done (by kernel_rfl) ?_
      show XS _ _ _ _ _ _ _ _ _ _
      refine XS.step E0_ok 5 rfl [3, 4, 5, 32, 33, 34, 36, 37, 39] rfl (σ' := (qdb1 lh1_2 x4_1 x5_2 [(37, s0 1 lh1_2.length), (39, ii (w64 (x5_2 - 1)))])) (by kernel_rfl) ?_
      refine XS.rd E0_ok rfl [3, 4, 5, 32, 33, 34, 36, 40] rfl (v := pp 1 ((Int.toNat (w64 (x5_2 - 1))) * 1)) (v_idx (s := 1) (x := (src 49 (.tmp 37))) (y := (src 49 (.tmp 39))) (b := 1) (o := 0) (len := lh1_2.length) (cap := lh1_2.length) (ik := .i64) (i := w64 (x5_2 - 1)) (off := (Int.toNat (w64 (x5_2 - 1))) * 1) (d := (some (path 12 40))) (by kernel_rfl) (by kernel_rfl) (by kernel_rfl) b3 (by omega)) (σ' := (qdb1 lh1_2 x4_1 x5_2 [(40, pp 1 ((Int.toNat (w64 (x5_2 - 1))) * 1))])) (by kernel_rfl) ?_
      refine XS.rd E0_ok rfl [3, 4, 5, 32, 33, 34, 36, 41] rfl (v := ii (List.getD lh1_2 (Int.toNat (w64 (x5_2 - 1))) 0)) (v_load1 (encI_ok .i64) (x := (src 49 (.tmp 40))) (b := 1) (off := (Int.toNat (w64 (x5_2 - 1))) * 1) (xs := lh1_2) (fz := 0) (e := 3) (es := 1) (d := (some (path 12 41))) (by kernel_rfl) (by kernel_rfl) (by kernel_rfl) (Int.toNat (w64 (x5_2 - 1))) 0 0 (by first | rfl | omega) (row_len (inRow_toNat b3) (by simp)) rfl rfl) (σ' := (qdb1 lh1_2 x4_1 x5_2 [(41, ii (List.getD lh1_2 (Int.toNat (w64 (x5_2 - 1))) 0))])) (by kernel_rfl) ?_
      refine XS.step E0_ok 2 rfl [3, 4, 5, 32, 33, 34, 36, 41, 42, 43] rfl (σ' := (qdb1 lh1_2 x4_1 x5_2 [(41, ii (List.getD lh1_2 (Int.toNat (w64 (x5_2 - 1))) 0)), (42, s0 1 lh1_2.length), (43, ii x5_2)])) (by kernel_rfl) ?_
      refine XS.rd E0_ok rfl [3, 4, 5, 32, 33, 34, 36, 41, 44] rfl (v := pp 1 ((Int.toNat x5_2) * 1)) (v_idx (s := 1) (x := (src 49 (.tmp 42))) (y := (src 49 (.tmp 43))) (b := 1) (o := 0) (len := lh1_2.length) (cap := lh1_2.length) (ik := .i64) (i := x5_2) (off := (Int.toNat x5_2) * 1) (d := (some (path 12 44))) (by kernel_rfl) (by kernel_rfl) (by kernel_rfl) b2 (by omega)) (σ' := (qdb1 lh1_2 x4_1 x5_2 [(41, ii (List.getD lh1_2 (Int.toNat (w64 (x5_2 - 1))) 0)), (44, pp 1 ((Int.toNat x5_2) * 1))])) (by kernel_rfl) ?_
      refine XS.rd E0_ok rfl [3, 4, 5, 32, 33, 34, 36, 41, 45] rfl (v := ii (List.getD lh1_2 (Int.toNat x5_2) 0)) (v_load1 (encI_ok .i64) (x := (src 49 (.tmp 44))) (b := 1) (off := (Int.toNat x5_2) * 1) (xs := lh1_2) (fz := 0) (e := 3) (es := 1) (d := (some (path 12 45))) (by kernel_rfl) (by kernel_rfl) (by kernel_rfl) (Int.toNat x5_2) 0 0 (by first | rfl | omega) (row_len (inRow_toNat b2) (by simp)) rfl rfl) (σ' := (qdb1 lh1_2 x4_1 x5_2 [(41, ii (List.getD lh1_2 (Int.toNat (w64 (x5_2 - 1))) 0)), (45, ii (List.getD lh1_2 (Int.toNat x5_2) 0))])) (by kernel_rfl) ?_
      refine XS.rd E0_ok rfl [3, 4, 5, 34, 36, 41, 45, 46] rfl (v := pp 1 ((Int.toNat x5_2) * 1)) (v_idx (s := 1) (x := (src 49 (.tmp 32))) (y := (src 49 (.tmp 33))) (b := 1) (o := 0) (len := lh1_2.length) (cap := lh1_2.length) (ik := .i64) (i := x5_2) (off := (Int.toNat x5_2) * 1) (d := (some (path 12 46))) (by kernel_rfl) (by kernel_rfl) (by kernel_rfl) b2 (by omega)) (σ' := [(3, s0 1 lh1_2.length), (4, ii x4_1), (5, ii x5_2), (34, s0 1 lh1_2.length), (36, ii (w64 (x5_2 - 1))), (41, ii (List.getD lh1_2 (Int.toNat (w64 (x5_2 - 1))) 0)), (45, ii (List.getD lh1_2 (Int.toNat x5_2) 0)), (46, pp 1 ((Int.toNat x5_2) * 1))]) (by kernel_rfl) ?_
      refine XS.done (by kernel_rfl) ?_
      refine XR.ef E0_ok [3, 4, 5, 34, 36, 45] rfl (e_store (encI_ok .i64) (size := 1) (x := (src 49 (.tmp 46))) (y := (src 49 (.tmp 41))) (b := 1) (off := (Int.toNat x5_2) * 1) (xs := lh1_2) (e := 3) (es := 1) (d := none) (h' := [(1, rI (List.set lh1_2 (Int.toNat x5_2) (List.getD lh1_2 (Int.toNat (w64 (x5_2 - 1))) 0))), (0, rc (encI .i64) a z0 y0 1)]) (w := ii (List.getD lh1_2 (Int.toNat (w64 (x5_2 - 1))) 0)) (ws := [ii (List.getD lh1_2 (Int.toNat (w64 (x5_2 - 1))) 0)]) (a := List.getD lh1_2 (Int.toNat (w64 (x5_2 - 1))) 0) (by kernel_rfl) (by kernel_rfl) (by kernel_rfl) (Int.toNat x5_2) 0 0 (by first | rfl | omega) (row_len (inRow_toNat b2) (by simp)) (by kernel_rfl) rfl rfl rfl rfl rfl (by kernel_rfl)) (σ' := [(3, s0 1 lh1_2.length), (4, ii x4_1), (5, ii x5_2), (34, s0 1 lh1_2.length), (36, ii (w64 (x5_2 - 1))), (45, ii (List.getD lh1_2 (Int.toNat x5_2) 0))]) (by kernel_rfl) ?_
      refine XR.rd E0_ok [3, 4, 5, 45, 47] rfl (v := pp 1 ((Int.toNat (w64 (x5_2 - 1))) * 1)) (v_idx (s := 1) (x := (src 49 (.tmp 34))) (y := (src 49 (.tmp 36))) (b := 1) (o := 0) (len := lh1_2.length) (cap := lh1_2.length) (ik := .i64) (i := w64 (x5_2 - 1)) (off := (Int.toNat (w64 (x5_2 - 1))) * 1) (d := (some (path 12 47))) (by kernel_rfl) (by kernel_rfl) (by kernel_rfl) b3 (by omega)) (σ' := [(3, s0 1 lh1_2.length), (4, ii x4_1), (5, ii x5_2), (45, ii (List.getD lh1_2 (Int.toNat x5_2) 0)), (47, pp 1 ((Int.toNat (w64 (x5_2 - 1))) * 1))]) (by kernel_rfl) ?_
      refine XR.ef E0_ok [3, 4, 5] rfl (e_store (encI_ok .i64) (size := 1) (x := (src 49 (.tmp 47))) (y := (src 49 (.tmp 45))) (b := 1) (off := (Int.toNat (w64 (x5_2 - 1))) * 1) (xs := List.set lh1_2 (Int.toNat x5_2) (List.getD lh1_2 (Int.toNat (w64 (x5_2 - 1))) 0)) (e := 3) (es := 1) (d := none) (h' := [(1, rI (List.set (List.set lh1_2 (Int.toNat x5_2) (List.getD lh1_2 (Int.toNat (w64 (x5_2 - 1))) 0)) (Int.toNat (w64 (x5_2 - 1))) (List.getD lh1_2 (Int.toNat x5_2) 0))), (0, rc (encI .i64) a z0 y0 1)]) (w := ii (List.getD lh1_2 (Int.toNat x5_2) 0)) (ws := [ii (List.getD lh1_2 (Int.toNat x5_2) 0)]) (a := List.getD lh1_2 (Int.toNat x5_2) 0) (by kernel_rfl) (by kernel_rfl) (by kernel_rfl) (Int.toNat (w64 (x5_2 - 1))) 0 0 (by first | rfl | omega) (row_len (inRow_toNat b3) (by simp)) (by kernel_rfl) rfl rfl rfl rfl rfl (by kernel_rfl)) (σ' := [(3, s0 1 lh1_2.length), (4, ii x4_1), (5, ii x5_2)]) (by kernel_rfl) ?_
      refine dQ ?_
      show XQ _ _ _ _ _ _ _ _
      refine rQ ?_
      refine rS 3 [(3, s0 1 lh1_2.length), (4, ii x4_1), (5, ii (w64 (x5_2 - 1)))] ?_
      refine dQ ?_
      show XL _ _ _ _ _ _ _ _ _
      refine XL.ren (σ' := [(3, s0 1 lh1_2.length), (4, ii x4_1), (5, ii (w64 (x5_2 - 1)))]) (h' := [(1, rI (List.set (List.set lh1_2 (Int.toNat x5_2) (List.getD lh1_2 (Int.toNat (w64 (x5_2 - 1))) 0)) (Int.toNat (w64 (x5_2 - 1))) (List.getD lh1_2 (Int.toNat x5_2) 0))), (0, rc (encI .i64) a z0 y0 1)]) (c' := 2) [0, 1] (by decide) rfl ⟨rfl, rfl, rfl, trivial⟩ ⟨⟨_, _, rfl, rfl, .inl ⟨rfl, rwI⟩⟩, ⟨_, _, rfl, rfl, .inl ⟨rfl, rwI⟩⟩, trivial⟩ rfl ?_
      refine XL.conv (f92_2_ok m fuel z0 y0 a x4_1 (w64 (x5_2 - 1)) (List.set (List.set lh1_2 (Int.toNat x5_2) (List.getD lh1_2 (Int.toNat (w64 (x5_2 - 1))) 0)) (Int.toNat (w64 (x5_2 - 1))) (List.getD lh1_2 (Int.toNat x5_2) 0)) o h Q hQ) (by first | rfl | simp)
     | false =>
      have h := cF b4 h
      refine iF (.tmp 29) ?_
      refine XQ.ren (σ' := [(3, s0 1 lh1_2.length), (4, ii x4_1)]) (h' := [(1, rI lh1_2), (0, rc (encI .i64) a z0 y0 1)]) (c' := 2) [0, 1] (by decide) rfl ⟨rfl, rfl, trivial⟩ ⟨⟨_, _, rfl, rfl, .inl ⟨rfl, rwI⟩⟩, ⟨_, _, rfl, rfl, .inl ⟨rfl, rwI⟩⟩, trivial⟩ rfl ?_
      refine XQ.exit (i := 2) (by kernel_rfl) ?_
      cases h
      exact hQ
  | false =>
   have h := cF b1 h
   refine XU.run E0_ok 1 11 [3, 4, 5, 29] rfl (σ' := [(3, s0 1 lh1_2.length), (4, ii x4_1), (5, ii x5_2), (29, .bool false)]) (by kernel_rfl) ?_
   refine XU.done (by kernel_rfl) ?_
   show XQ _ _ _ _ _ _ _ _
   refine iF (.tmp 29) ?_
   refine XQ.ren (σ' := [(3, s0 1 lh1_2.length), (4, ii x4_1)]) (h' := [(1, rI lh1_2), (0, rc (encI .i64) a z0 y0 1)]) (c' := 2) [0, 1] (by decide) rfl ⟨rfl, rfl, trivial⟩ ⟨⟨_, _, rfl, rfl, .inl ⟨rfl, rwI⟩⟩, ⟨_, _, rfl, rfl, .inl ⟨rfl, rwI⟩⟩, trivial⟩ rfl ?_
   refine XQ.exit (i := 2) (by kernel_rfl) ?_
   cases h
   exact hQ
def f92_1 (m : Nat) : Nat → List Int → Int → List Int → Option (List Int)
 | 0, _, _, _ => none
 | fuel + 1, a, x4_1, lh1_1 =>
  cond (decide (x4_1 < ((lh1_1.length : Nat) : Int))) (
   (f92_2 m m a x4_1 x4_1 lh1_1).bind fun o2 =>
    f92_1 m fuel a (w64 (x4_1 + 1)) o2
  ) (
   some (lh1_1)
  )
theorem f92_1_ok (m : Nat) : ∀ (fuel : Nat) (z0 : Nat) (y0 : Nat) (a : List Int) (x4_1 : Int) (lh1_1 : List Int) (o : (List Int)), f92_1 m fuel a x4_1 lh1_1 = some o → ∀ Q : QP, Q (.exit 0) [(3, s0 1 o.length)] [(1, rI o), (0, rc (encI .i64) a z0 y0 1)] 2 → XL E0 49 1 fuel f92_L1 [(3, s0 1 lh1_1.length), (4, ii x4_1)] [(1, rI lh1_1), (0, rc (encI .i64) a z0 y0 1)] 2 Q
 | 0, z0, y0, a, x4_1, lh1_1, o, h, Q, hQ => by cases h
 | fuel + 1, z0, y0, a, x4_1, lh1_1, o, h, Q, hQ => by
  unfold f92_1 at h
  refine XL.succ E0_ok ?_
  refine sQ ?_
  refine qQ ?_
  refine rS 4 [(3, s0 1 lh1_1.length), (4, ii x4_1), (12, .bool (decide (x4_1 < ((lh1_1.length : Nat) : Int))))] ?_
  refine dQ ?_
  show XQ _ _ _ _ _ _ _ _
  cases b1 : (decide (x4_1 < ((lh1_1.length : Nat) : Int)) : Bool) with
  | true =>
   have h := cT b1 h
   refine iT (.tmp 12) ?_
   refine kQ ?_
   show XQ _ _ _ _ _ _ _ _
   refine sQ ?_
   refine XQ.block (id := 1) (by kernel_rfl) ?_
   refine qQ ?_
   refine rS 2 [(3, s0 1 lh1_1.length), (4, ii x4_1), (5, ii x4_1)] ?_
   refine dQ ?_
   show XQ _ _ _ _ _ _ _ _
   refine XQ.block (id := 2) (by kernel_rfl) ?_
   refine XQ.loop m (by kernel_rfl) ?_
   obtain ⟨o2, o2_h, h⟩ := bS h
   refine XL.ren (σ' := [(3, s0 1 lh1_1.length), (4, ii x4_1), (5, ii x4_1)]) (h' := [(1, rI lh1_1), (0, rc (encI .i64) a z0 y0 1)]) (c' := 2) [0, 1] (by decide) rfl ⟨rfl, rfl, rfl, trivial⟩ ⟨⟨_, _, rfl, rfl, .inl ⟨rfl, rwI⟩⟩, ⟨_, _, rfl, rfl, .inl ⟨rfl, rwI⟩⟩, trivial⟩ rfl ?_
   refine XL.conv (f92_2_ok m m z0 y0 a x4_1 x4_1 lh1_1 o2 o2_h _ ?_) (by first | rfl | simp)
   show XQ _ _ _ _ _ _ _ _
   refine rQ ?_
   refine rS 3 [(3, s0 1 o2.length), (4, ii (w64 (x4_1 + 1)))] ?_
   refine dQ ?_
   show XL _ _ _ _ _ _ _ _ _
   refine XL.ren (σ' := [(3, s0 1 o2.length), (4, ii (w64 (x4_1 + 1)))]) (h' := [(1, rI o2), (0, rc (encI .i64) a z0 y0 1)]) (c' := 2) [0, 1] (by decide) rfl ⟨rfl, rfl, trivial⟩ ⟨⟨_, _, rfl, rfl, .inl ⟨rfl, rwI⟩⟩, ⟨_, _, rfl, rfl, .inl ⟨rfl, rwI⟩⟩, trivial⟩ rfl ?_
   refine XL.conv (f92_1_ok m fuel z0 y0 a (w64 (x4_1 + 1)) o2 o h Q hQ) (by first | rfl | simp)
  | false =>
   have h := cF b1 h
   refine iF (.tmp 12) ?_
   refine XQ.ren (σ' := [(3, s0 1 lh1_1.length)]) (h' := [(1, rI lh1_1), (0, rc (encI .i64) a z0 y0 1)]) (c' := 2) [0, 1] (by decide) rfl ⟨rfl, trivial⟩ ⟨⟨_, _, rfl, rfl, .inl ⟨rfl, rwI⟩⟩, ⟨_, _, rfl, rfl, .inl ⟨rfl, rwI⟩⟩, trivial⟩ rfl ?_
   refine XQ.exit (i := 0) (by kernel_rfl) ?_
   cases h
   exact hQ
def f92 (m : Nat) (a : List Int) : Option (List Int) :=
 cond (fitsB (0 + a.length) 8) (
  (f92_1 m m a 0 a).bind fun o1 =>
   some (o1)
 ) none
theorem f92_ok (m : Nat) (z0 : Nat) (y0 : Nat) (a : List Int) (o : List Int) (h : f92 m a = some o) : KC E0 92 [s0 0 a.length] [(0, rc (encI .i64) a z0 y0 1)] 1 (fun v h' c' => v = s0 1 o.length ∧ h' = [(1, rI o)] ++ [(0, rc (encI .i64) a z0 y0 1)] ∧ c' = 2) := by
 refine KC.bodyN E0_ok (F := Proofs.Tryd.f92) (by kernel_rfl) (code := f92_C92) (by kernel_rfl) (nt := 49) (by kernel_rfl) (rs := [.tmp 2]) (by kernel_rfl) (by kernel_rfl) (σ := [(0, s0 0 a.length)]) (by kernel_rfl) ?_
 unfold f92 at h
 refine qQ ?_
 refine rS 1 [(0, s0 0 a.length)] ?_
 refine nQ id ?_
 refine rT 2 [(6, s0 1 0), (7, s0 0 a.length)] [(1, rI []), (0, rc (encI .i64) a z0 y0 1)] 2 ?_
 cases b1 : (fitsB (0 + a.length) 8 : Bool) with
 | false => cases (cF b1 h)
 | true =>
  have h := cT b1 h
  refine XR.efX E0_ok [8] rfl (d := (some (path 12 8))) (f := eAppend false 1 8 3 (src 49 (.tmp 6)) (src 49 (.tmp 7))) (by kernel_rfl) (fun _ => eAppendA_ok) (e_appendA (encI_ok .i64) (bytes := 8) (e := 3) (x := (src 49 (.tmp 6))) (y := (src 49 (.tmp 7))) (b := 1) (len := 0) (cap := 0) (xs := []) (n := a.length) (ys := a) (n' := a.length) (h' := [(2, rI a), (0, rc (encI .i64) a z0 y0 1)]) (Y := s0 0 a.length) (by kernel_rfl) (by kernel_rfl) (by kernel_rfl) (fetch_all (encI_ok .i64) (ys := a) (fz := z0) (e := y0) (es := 1) (by kernel_rfl) (by simp) (Nat.le_refl _)) (by simp) rfl (by simp) (by simp) b1 (by first | (simp; done) | (simp; omega)) (by kernel_rfl)) (σ' := [(8, s0 2 a.length)]) (by kernel_rfl) ?_
  refine rS 1 [(3, s0 2 a.length)] ?_
  refine dQ ?_
  show XQ _ _ _ _ _ _ _ _
  refine sQ ?_
  refine qQ ?_
  refine rS 1 [(3, s0 2 a.length), (4, ii 0)] ?_
  refine dQ ?_
  show XQ _ _ _ _ _ _ _ _
  refine XQ.block (id := 0) (by kernel_rfl) ?_
  refine XQ.loop m (by kernel_rfl) ?_
  obtain ⟨o1, o1_h, h⟩ := bS h
  refine XL.ren (σ' := [(3, s0 1 a.length), (4, ii 0)]) (h' := [(1, rI a), (0, rc (encI .i64) a z0 y0 1)]) (c' := 2) [0, 2] (by decide) rfl ⟨rfl, rfl, trivial⟩ ⟨⟨_, _, rfl, rfl, .inl ⟨rfl, rwI⟩⟩, ⟨_, _, rfl, rfl, .inl ⟨rfl, rwI⟩⟩, trivial⟩ rfl ?_
  refine XL.conv (f92_1_ok m m z0 y0 a 0 a o1 o1_h _ ?_) (by first | rfl | simp)
  show XQ _ _ _ _ _ _ _ _
  refine qQ ?_
  refine rS 2 [(2, s0 1 o1.length)] ?_
  refine dQ ?_
  show XQ _ _ _ _ _ _ _ _
  refine XQ.ren (σ' := [(2, s0 1 o1.length)]) (h' := [(1, rI o1), (0, rc (encI .i64) a z0 y0 1)]) (c' := 2) [0, 1] (by decide) rfl ⟨rfl, trivial⟩ ⟨⟨_, _, rfl, rfl, .inl ⟨rfl, rwI⟩⟩, ⟨_, _, rfl, rfl, .inl ⟨rfl, rwI⟩⟩, trivial⟩ rfl ?_
  refine XQ.ret (by kernel_rfl) ?_
  have h := Option.some.inj h
  subst h
  exact ⟨fun i q => (by cases q), s0 1 o1.length, (by kernel_rfl), (by kernel_rfl), (by kernel_rfl), rfl⟩
noncomputable def f67_C67 : Code := Proofs.Tryd.f67.body.getD .skip
noncomputable def f67_C63 : Code := Proofs.Tryd.f63.body.getD .skip
noncomputable def f67_L1 : Code := lft (lft (rgt (lft (rgt (rgt (rgt f67_C67))))))
noncomputable def f67_L2 : Code := lft (lft (rgt (lft (rgt (rgt f67_C63)))))
def f67_1 (m : Nat) : Nat → List Int → Int → Int → Int → List Int → Option (Int × (List Int))
 | 0, _, _, _, _, _ => none
 | fuel + 1, a, b, x6_1, x7_1, lh1_1 =>
  cond (decide (x7_1 < ((lh1_1.length : Nat) : Int))) (
   cond (inRow x7_1 lh1_1.length) (
    f67_1 m fuel a b (w64 (x6_1 + (iMin (List.getD lh1_1 (Int.toNat x7_1) 0) b))) (w64 (x7_1 + 1)) lh1_1
   ) none
  ) (
   some (x6_1, lh1_1)
  )
theorem f67_1_ok (m : Nat) : ∀ (fuel : Nat) (z0 : Nat) (y0 : Nat) (a : List Int) (b : Int) (x6_1 : Int) (x7_1 : Int) (lh1_1 : List Int) (o : (Int × (List Int))), f67_1 m fuel a b x6_1 x7_1 lh1_1 = some o → ∀ Q : QP, Q (.exit 0) [(1, ii b), (5, s0 1 o.2.length), (6, ii o.1)] [(1, rI o.2), (0, rc (encI .i64) a z0 y0 1)] 2 → XL E0 35 1 fuel f67_L1 [(1, ii b), (5, s0 1 lh1_1.length), (6, ii x6_1), (7, ii x7_1)] [(1, rI lh1_1), (0, rc (encI .i64) a z0 y0 1)] 2 Q
 | 0, z0, y0, a, b, x6_1, x7_1, lh1_1, o, h, Q, hQ => by cases h
 | fuel + 1, z0, y0, a, b, x6_1, x7_1, lh1_1, o, h, Q, hQ => by
  unfold f67_1 at h
  refine XL.succ E0_ok ?_
  refine sQ ?_
  refine qQ ?_
  refine rS 4 [(1, ii b), (5, s0 1 lh1_1.length), (6, ii x6_1), (7, ii x7_1), (18, .bool (decide (x7_1 < ((lh1_1.length : Nat) : Int))))] ?_
  refine dQ ?_
  show XQ _ _ _ _ _ _ _ _
  cases b1 : (decide (x7_1 < ((lh1_1.length : Nat) : Int)) : Bool) with
  | true =>
   have h := cT b1 h
   refine iT (.tmp 18) ?_
   refine kQ ?_
   show XQ _ _ _ _ _ _ _ _
   refine sQ ?_
   refine XQ.block (id := 1) (by kernel_rfl) ?_
   refine rQ ?_
   refine rS 3 [(1, ii b), (5, s0 1 lh1_1.length), (7, ii x7_1), (21, ii x6_1), (22, s0 1 lh1_1.length), (23, ii x7_1)] ?_
   cases b2 : (inRow x7_1 lh1_1.length : Bool) with
   | false => cases (cF b2 h)
   | true =>
    have h := cT b2 h
    refine XR.rd E0_ok [1, 5, 7, 21, 24] rfl (v := pp 1 ((Int.toNat x7_1) * 1)) (v_idx (s := 1) (x := (src 35 (.tmp 22))) (y := (src 35 (.tmp 23))) (b := 1) (o := 0) (len := lh1_1.length) (cap := lh1_1.length) (ik := .i64) (i := x7_1) (off := (Int.toNat x7_1) * 1) (d := (some (path 12 24))) (by kernel_rfl) (by kernel_rfl) (by kernel_rfl) b2 (by omega)) (σ' := [(1, ii b), (5, s0 1 lh1_1.length), (7, ii x7_1), (21, ii x6_1), (24, pp 1 ((Int.toNat x7_1) * 1))]) (by kernel_rfl) ?_
    refine XR.rd E0_ok [1, 5, 7, 21, 25] rfl (v := ii (List.getD lh1_1 (Int.toNat x7_1) 0)) (v_load1 (encI_ok .i64) (x := (src 35 (.tmp 24))) (b := 1) (off := (Int.toNat x7_1) * 1) (xs := lh1_1) (fz := 0) (e := 3) (es := 1) (d := (some (path 12 25))) (by kernel_rfl) (by kernel_rfl) (by kernel_rfl) (Int.toNat x7_1) 0 0 (by first | rfl | omega) (row_len (inRow_toNat b2) (by simp)) rfl rfl) (σ' := [(1, ii b), (5, s0 1 lh1_1.length), (7, ii x7_1), (21, ii x6_1), (25, ii (List.getD lh1_1 (Int.toNat x7_1) 0))]) (by kernel_rfl) ?_
    refine rS 4 [(1, ii b), (5, s0 1 lh1_1.length), (6, ii (w64 (x6_1 + (iMin (List.getD lh1_1 (Int.toNat x7_1) 0) b)))), (7, ii x7_1)] ?_
    refine dQ ?_
    show XQ _ _ _ _ _ _ _ _
    refine rQ ?_
    refine rS 3 [(1, ii b), (5, s0 1 lh1_1.length), (6, ii (w64 (x6_1 + (iMin (List.getD lh1_1 (Int.toNat x7_1) 0) b)))), (7, ii (w64 (x7_1 + 1)))] ?_
    refine dQ ?_
    show XL _ _ _ _ _ _ _ _ _
    refine XL.ren (σ' := [(1, ii b), (5, s0 1 lh1_1.length), (6, ii (w64 (x6_1 + (iMin (List.getD lh1_1 (Int.toNat x7_1) 0) b)))), (7, ii (w64 (x7_1 + 1)))]) (h' := [(1, rI lh1_1), (0, rc (encI .i64) a z0 y0 1)]) (c' := 2) [0, 1] (by decide) rfl ⟨rfl, rfl, rfl, rfl, trivial⟩ ⟨⟨_, _, rfl, rfl, .inl ⟨rfl, rwI⟩⟩, ⟨_, _, rfl, rfl, .inl ⟨rfl, rwI⟩⟩, trivial⟩ rfl ?_
    refine XL.conv (f67_1_ok m fuel z0 y0 a b (w64 (x6_1 + (iMin (List.getD lh1_1 (Int.toNat x7_1) 0) b))) (w64 (x7_1 + 1)) lh1_1 o h Q hQ) (by first | rfl | simp)
  | false =>
   have h := cF b1 h
   refine iF (.tmp 18) ?_
   refine XQ.ren (σ' := [(1, ii b), (5, s0 1 lh1_1.length), (6, ii x6_1)]) (h' := [(1, rI lh1_1), (0, rc (encI .i64) a z0 y0 1)]) (c' := 2) [0, 1] (by decide) rfl ⟨rfl, rfl, rfl, trivial⟩ ⟨⟨_, _, rfl, rfl, .inl ⟨rfl, rwI⟩⟩, ⟨_, _, rfl, rfl, .inl ⟨rfl, rwI⟩⟩, trivial⟩ rfl ?_
   refine XQ.exit (i := 0) (by kernel_rfl) ?_
   cases h
   exact hQ
def f67_2 (m : Nat) : Nat → List Int → Nat → Int → Int → List Int → Option (Int × (List Int))
 | 0, _, _, _, _, _ => none
 | fuel + 1, a, n0_2, x3_2, x4_2, lh1_2 =>
  cond (decide (x4_2 < ((n0_2 : Nat) : Int))) (
   cond (inRow x4_2 n0_2) (
    cond (decide (Int.toNat x4_2 < lh1_2.length)) (
     f67_2 m fuel a n0_2 (w64 (x3_2 + (List.getD lh1_2 (Int.toNat x4_2) 0))) (w64 (x4_2 + 1)) lh1_2
    ) none
   ) none
  ) (
   some (x3_2, lh1_2)
  )
theorem f67_2_ok (m : Nat) : ∀ (fuel : Nat) (z0 : Nat) (y0 : Nat) (a : List Int) (n0_2 : Nat) (x3_2 : Int) (x4_2 : Int) (lh1_2 : List Int) (o : (Int × (List Int))), f67_2 m fuel a n0_2 x3_2 x4_2 lh1_2 = some o → ∀ Q : QP, Q (.exit 0) [(3, ii o.1)] [(1, rI o.2), (0, rc (encI .i64) a z0 y0 1)] 2 → XL E0 18 2 fuel f67_L2 [(0, sl 1 0 n0_2 lh1_2.length), (3, ii x3_2), (4, ii x4_2)] [(1, rI lh1_2), (0, rc (encI .i64) a z0 y0 1)] 2 Q
 | 0, z0, y0, a, n0_2, x3_2, x4_2, lh1_2, o, h, Q, hQ => by cases h
 | fuel + 1, z0, y0, a, n0_2, x3_2, x4_2, lh1_2, o, h, Q, hQ => by
  unfold f67_2 at h
  refine XL.succ E0_ok ?_
  refine sQ ?_
  refine qQ ?_
  refine rS 4 [(0, sl 1 0 n0_2 lh1_2.length), (3, ii x3_2), (4, ii x4_2), (8, .bool (decide (x4_2 < ((n0_2 : Nat) : Int))))] ?_
  refine dQ ?_
  show XQ _ _ _ _ _ _ _ _
  cases b1 : (decide (x4_2 < ((n0_2 : Nat) : Int)) : Bool) with
  | true =>
   have h := cT b1 h
   refine iT (.tmp 8) ?_
   refine kQ ?_
   show XQ _ _ _ _ _ _ _ _
   refine sQ ?_
   refine XQ.block (id := 1) (by kernel_rfl) ?_
   refine rQ ?_
   refine rS 3 [(0, sl 1 0 n0_2 lh1_2.length), (4, ii x4_2), (11, ii x3_2), (12, sl 1 0 n0_2 lh1_2.length), (13, ii x4_2)] ?_
   cases b2 : (inRow x4_2 n0_2 : Bool) with
   | false => cases (cF b2 h)
   | true =>
    have h := cT b2 h
    refine XR.rd E0_ok [0, 4, 11, 14] rfl (v := pp 1 ((Int.toNat x4_2) * 1)) (v_idx (s := 1) (x := (src 18 (.tmp 12))) (y := (src 18 (.tmp 13))) (b := 1) (o := 0) (len := n0_2) (cap := lh1_2.length) (ik := .i64) (i := x4_2) (off := (Int.toNat x4_2) * 1) (d := (some (path 12 14))) (by kernel_rfl) (by kernel_rfl) (by kernel_rfl) b2 (by omega)) (σ' := [(0, sl 1 0 n0_2 lh1_2.length), (4, ii x4_2), (11, ii x3_2), (14, pp 1 ((Int.toNat x4_2) * 1))]) (by kernel_rfl) ?_
    cases b3 : (decide (Int.toNat x4_2 < lh1_2.length) : Bool) with
    | false => cases (cF b3 h)
    | true =>
     have h := cT b3 h
     refine XR.rd E0_ok [0, 4, 11, 15] rfl (v := ii (List.getD lh1_2 (Int.toNat x4_2) 0)) (v_load1 (encI_ok .i64) (x := (src 18 (.tmp 14))) (b := 1) (off := (Int.toNat x4_2) * 1) (xs := lh1_2) (fz := 0) (e := 3) (es := 1) (d := (some (path 12 15))) (by kernel_rfl) (by kernel_rfl) (by kernel_rfl) (Int.toNat x4_2) 0 0 (by first | rfl | omega) (row_len b3 (by simp)) rfl rfl) (σ' := [(0, sl 1 0 n0_2 lh1_2.length), (4, ii x4_2), (11, ii x3_2), (15, ii (List.getD lh1_2 (Int.toNat x4_2) 0))]) (by kernel_rfl) ?_
     refine rS 2 [(0, sl 1 0 n0_2 lh1_2.length), (3, ii (w64 (x3_2 + (List.getD lh1_2 (Int.toNat x4_2) 0)))), (4, ii x4_2)] ?_
     refine dQ ?_
     show XQ _ _ _ _ _ _ _ _
     refine rQ ?_
     refine rS 3 [(0, sl 1 0 n0_2 lh1_2.length), (3, ii (w64 (x3_2 + (List.getD lh1_2 (Int.toNat x4_2) 0)))), (4, ii (w64 (x4_2 + 1)))] ?_
     refine dQ ?_
     show XL _ _ _ _ _ _ _ _ _
     refine XL.ren (σ' := [(0, sl 1 0 n0_2 lh1_2.length), (3, ii (w64 (x3_2 + (List.getD lh1_2 (Int.toNat x4_2) 0)))), (4, ii (w64 (x4_2 + 1)))]) (h' := [(1, rI lh1_2), (0, rc (encI .i64) a z0 y0 1)]) (c' := 2) [0, 1] (by decide) rfl ⟨rfl, rfl, rfl, trivial⟩ ⟨⟨_, _, rfl, rfl, .inl ⟨rfl, rwI⟩⟩, ⟨_, _, rfl, rfl, .inl ⟨rfl, rwI⟩⟩, trivial⟩ rfl ?_
     refine XL.conv (f67_2_ok m fuel z0 y0 a n0_2 (w64 (x3_2 + (List.getD lh1_2 (Int.toNat x4_2) 0))) (w64 (x4_2 + 1)) lh1_2 o h Q hQ) (by first | rfl | simp)
  | false =>
   have h := cF b1 h
   refine iF (.tmp 8) ?_
   refine XQ.ren (σ' := [(3, ii x3_2)]) (h' := [(1, rI lh1_2), (0, rc (encI .i64) a z0 y0 1)]) (c' := 2) [0, 1] (by decide) rfl ⟨rfl, trivial⟩ ⟨⟨_, _, rfl, rfl, .inl ⟨rfl, rwI⟩⟩, ⟨_, _, rfl, rfl, .inl ⟨rfl, rwI⟩⟩, trivial⟩ rfl ?_
   refine XQ.exit (i := 0) (by kernel_rfl) ?_
   cases h
   exact hQ
def f67 (m : Nat) (a : List Int) (b : Int) : Option (Bool) :=
 (f92 m a).bind fun r1 =>
  (f67_1 m m a b (w64 (b * (w64 (b - 1)))) b r1).bind fun o1 =>
   cond (cutOK 0 b ((o1.2.length : Nat) : Int) o1.2.length) (
    (f67_2 m m a (Int.toNat b) 0 0 o1.2).bind fun o2 =>
     some (decide (o2.1 > o1.1))
   ) none
theorem f67_ok (m : Nat) (z0 : Nat) (y0 : Nat) (a : List Int) (b : Int) (o : Bool) (h : f67 m a b = some o) : KC E0 67 [s0 0 a.length, ii b] [(0, rc (encI .i64) a z0 y0 1)] 1 (fun v _ _ => v = .bool o) := by
 refine KC.bodyN E0_ok (F := Proofs.Tryd.f67) (by kernel_rfl) (code := f67_C67) (by kernel_rfl) (nt := 35) (by kernel_rfl) (rs := [.tmp 4]) (by kernel_rfl) (by kernel_rfl) (σ := [(0, s0 0 a.length), (1, ii b)]) (by kernel_rfl) ?_
 unfold f67 at h
 refine qQ ?_
 refine rS 1 [(0, s0 0 a.length), (1, ii b)] ?_
 refine nQ id ?_
 refine rS 1 [(1, ii b), (8, s0 0 a.length)] ?_
 obtain ⟨r1, r1_h, h⟩ := bS h
 refine XR.call E0_ok [1, 9] rfl (K := 92) (args := [s0 0 a.length]) (d := (some (path 12 9))) (by kernel_rfl) (KC.liftH (n0 := 1) (m := 1) (args0 := [s0 0 a.length]) (h0 := [(0, rc (encI .i64) a (z0 + ((rowC (encI .i64) a).length + 1)) y0 1)]) (V := s0 1 r1.length) (V2 := s0 1 r1.length) (H := [(1, rI r1)]) (H2 := [(1, rI r1)]) [0] [2, 1] (f92_ok m (z0 + ((rowC (encI .i64) a).length + 1)) y0 a r1 r1_h) (by rfl) (by decide) rfl (by kernel_rfl) ⟨⟨_, _, rfl, rfl, .inl ⟨rfl, rwI⟩⟩, trivial⟩ (by decide) (by decide) (by kernel_rfl) ⟨⟨_, _, rfl, rfl, .inl ⟨rfl, rwI⟩⟩, trivial⟩ (by rfl)) ?_
 rintro _ _ _ ⟨rfl, rfl, rfl⟩
 refine XR.conv (σ' := [(1, ii b), (9, s0 1 r1.length)]) (h' := [(1, rI r1), (0, rc (encI .i64) a z0 y0 1)]) (c' := 2) ?_ (by kernel_rfl)
 refine rS 1 [(1, ii b), (5, s0 1 r1.length)] ?_
 refine nQ id ?_
 refine rS 5 [(1, ii b), (5, s0 1 r1.length), (6, ii (w64 (b * (w64 (b - 1)))))] ?_
 refine dQ ?_
 show XQ _ _ _ _ _ _ _ _
 refine sQ ?_
 refine qQ ?_
 refine rS 2 [(1, ii b), (5, s0 1 r1.length), (6, ii (w64 (b * (w64 (b - 1))))), (7, ii b)] ?_
 refine dQ ?_
 show XQ _ _ _ _ _ _ _ _
 refine XQ.block (id := 0) (by kernel_rfl) ?_
 refine XQ.loop m (by kernel_rfl) ?_
 obtain ⟨o1, o1_h, h⟩ := bS h
 refine XL.ren (σ' := [(1, ii b), (5, s0 1 r1.length), (6, ii (w64 (b * (w64 (b - 1))))), (7, ii b)]) (h' := [(1, rI r1), (0, rc (encI .i64) a z0 y0 1)]) (c' := 2) [0, 1] (by decide) rfl ⟨rfl, rfl, rfl, rfl, trivial⟩ ⟨⟨_, _, rfl, rfl, .inl ⟨rfl, rwI⟩⟩, ⟨_, _, rfl, rfl, .inl ⟨rfl, rwI⟩⟩, trivial⟩ rfl ?_
 refine XL.conv (f67_1_ok m m z0 y0 a b (w64 (b * (w64 (b - 1)))) b r1 o1 o1_h _ ?_) (by first | rfl | simp)
 show XQ _ _ _ _ _ _ _ _
 refine qQ ?_
 refine rS 2 [(6, ii o1.1), (29, s0 1 o1.2.length), (30, ii b)] ?_
 cases b2 : (cutOK 0 b ((o1.2.length : Nat) : Int) o1.2.length : Bool) with
 | false => cases (cF b2 h)
 | true =>
  have h := cT b2 h
  refine XR.rd E0_ok [6, 31] rfl (v := sl 1 0 (Int.toNat b) o1.2.length) (v_cut (nt := 35) (s := 1) (x := (src 35 (.tmp 29))) (lo := none) (hi := (some (.tmp 30))) (mx := none) (b := 1) (o := 0) (len := o1.2.length) (cap := o1.2.length) (l := none) (u := (some b)) (m := none) (cs := rowC (encI .i64) o1.2) (fz := 0) (e := 3) (es := 1) (o' := 0) (len' := Int.toNat b) (cap' := o1.2.length) (d := (some (path 12 31))) (by kernel_rfl) (by kernel_rfl) (by kernel_rfl) (by kernel_rfl) (by kernel_rfl) (by kernel_rfl) (by kernel_rfl) rfl b2 (by simp only [Option.getD_none, Option.getD_some] <;> omega) (by simp only [Option.getD_none, Option.getD_some] <;> omega) (by simp only [Option.getD_none, Option.getD_some] <;> omega)) (σ' := [(6, ii o1.1), (31, sl 1 0 (Int.toNat b) o1.2.length)]) (by kernel_rfl) ?_
  refine XR.callK E0_ok [6, 32] rfl (K := 63) (args := [sl 1 0 (Int.toNat b) o1.2.length]) (d := (some (path 12 32))) (by kernel_rfl) ?_
  refine KC.bodyN E0_ok (F := Proofs.Tryd.f63) (by kernel_rfl) (code := f67_C63) (by kernel_rfl) (nt := 18) (by kernel_rfl) (rs := [.tmp 2]) (by kernel_rfl) (by kernel_rfl) (σ := [(0, sl 1 0 (Int.toNat b) o1.2.length)]) (by kernel_rfl) ?_
  refine qQ ?_
  refine rS 1 [(0, sl 1 0 (Int.toNat b) o1.2.length)] ?_
  refine nQ id ?_
  refine rS 1 [(0, sl 1 0 (Int.toNat b) o1.2.length), (3, ii 0)] ?_
  refine dQ ?_
  show XQ _ _ _ _ _ _ _ _
  refine sQ ?_
  refine qQ ?_
  refine rS 1 [(0, sl 1 0 (Int.toNat b) o1.2.length), (3, ii 0), (4, ii 0)] ?_
  refine dQ ?_
  show XQ _ _ _ _ _ _ _ _
  refine XQ.block (id := 0) (by kernel_rfl) ?_
  refine XQ.loop m (by kernel_rfl) ?_
  obtain ⟨o2, o2_h, h⟩ := bS h
  refine XL.ren (σ' := [(0, sl 1 0 (Int.toNat b) o1.2.length), (3, ii 0), (4, ii 0)]) (h' := [(1, rI o1.2), (0, rc (encI .i64) a z0 y0 1)]) (c' := 2) [0, 1] (by decide) rfl ⟨rfl, rfl, rfl, trivial⟩ ⟨⟨_, _, rfl, rfl, .inl ⟨rfl, rwI⟩⟩, ⟨_, _, rfl, rfl, .inl ⟨rfl, rwI⟩⟩, trivial⟩ rfl ?_
  refine XL.conv (f67_2_ok m m z0 y0 a (Int.toNat b) 0 0 o1.2 o2 o2_h _ ?_) (by first | rfl | simp)
  show XQ _ _ _ _ _ _ _ _
  refine qQ ?_
  refine rS 2 [(2, ii o2.1)] ?_
  refine dQ ?_
  show XQ _ _ _ _ _ _ _ _
  refine XQ.ret (by kernel_rfl) ?_
  refine ⟨fun i q => (by cases q), ii o2.1, (by kernel_rfl), ?_⟩
  refine XR.conv (σ' := [(6, ii o1.1), (32, ii o2.1)]) (h' := [(1, rI o2.2), (0, rc (encI .i64) a z0 y0 1)]) (c' := 2) ?_ (by kernel_rfl)
  refine rS 3 [(4, .bool (decide (o2.1 > o1.1)))] ?_
  refine dQ ?_
  show XQ _ _ _ _ _ _ _ _
  refine XQ.ret (by kernel_rfl) ?_
  have h := Option.some.inj h
  subst h
  exact ⟨fun i q => (by cases q), .bool (decide (o2.1 > o1.1)), (by kernel_rfl), rfl⟩
noncomputable def f64_C64 : Code := Proofs.Tryd.f64.body.getD .skip
noncomputable def f64_L1 : Code := lft (lft (rgt (lft (rgt f64_C64))))
inductive Of64_1 where
 | r (x2_r1 : Int)
 | x0
def f64_1 (m : Nat) : Nat → List Int → Int → Option Of64_1
 | 0, _, _ => none
 | fuel + 1, a, x3_1 =>
  cond (decide (x3_1 ≤ ((a.length : Nat) : Int))) (
   (f67 m a x3_1).bind fun r3 =>
    cond (r3) (
     some (.r x3_1)
    ) (
     f64_1 m fuel a (w64 (x3_1 + 1))
    )
  ) (
   some (.x0)
  )
theorem f64_1_ok (m : Nat) : ∀ (fuel : Nat) (z0 : Nat) (y0 : Nat) (a : List Int) (x3_1 : Int) (o : Of64_1), f64_1 m fuel a x3_1 = some o → ∀ Q : QP, (match o with | .r x2_r1 => Q .ret [(2, ii x2_r1)] [(0, rc (encI .i64) a z0 y0 1)] 1 | .x0 => Q (.exit 0) [] [(0, rc (encI .i64) a z0 y0 1)] 1) → XL E0 14 1 fuel f64_L1 [(0, s0 0 a.length), (3, ii x3_1)] [(0, rc (encI .i64) a z0 y0 1)] 1 Q
 | 0, z0, y0, a, x3_1, o, h, Q, hQ => by cases h
 | fuel + 1, z0, y0, a, x3_1, o, h, Q, hQ => by
  unfold f64_1 at h
  refine XL.succ E0_ok ?_
  refine sQ ?_
  refine qQ ?_
  refine rS 4 [(0, s0 0 a.length), (3, ii x3_1), (7, .bool (decide (x3_1 ≤ ((a.length : Nat) : Int))))] ?_
  refine dQ ?_
  show XQ _ _ _ _ _ _ _ _
  cases b1 : (decide (x3_1 ≤ ((a.length : Nat) : Int)) : Bool) with
  | true =>
   have h := cT b1 h
   refine iT (.tmp 7) ?_
   refine kQ ?_
   show XQ _ _ _ _ _ _ _ _
   refine sQ ?_
   refine XQ.block (id := 1) (by kernel_rfl) ?_
   refine qQ ?_
   refine rS 2 [(0, s0 0 a.length), (3, ii x3_1), (10, s0 0 a.length), (11, ii x3_1)] ?_
   obtain ⟨r3, r3_h, h⟩ := bS h
   refine XR.call E0_ok [0, 3, 12] rfl (K := 67) (args := [s0 0 a.length, ii x3_1]) (d := (some (path 12 12))) (by kernel_rfl) (KQ.call (KC.quiet E0_ok (args0 := [s0 0 a.length, ii x3_1]) (h0 := [(0, rc (encI .i64) a (z0 + ((rowC (encI .i64) a).length + 1)) y0 1)]) (n := 1) (V := .bool r3) [0] (f67_ok m (z0 + ((rowC (encI .i64) a).length + 1)) y0 a x3_1 r3 r3_h) rfl (by rfl) (by decide) rfl (by kernel_rfl) ⟨⟨_, _, rfl, rfl, .inl ⟨rfl, rwI⟩⟩, trivial⟩) rfl) ?_
   rintro _ _ _ ⟨rfl, rfl, rfl⟩
   refine XR.conv (σ' := [(0, s0 0 a.length), (3, ii x3_1), (12, .bool r3)]) (h' := [(0, rc (encI .i64) a z0 y0 1)]) (c' := 1) ?_ (by kernel_rfl)
   refine dQ ?_
   show XQ _ _ _ _ _ _ _ _
   cases b2 : (r3 : Bool) with
   | true =>
    have h := cT b2 h
    refine iT (.tmp 12) ?_
    refine qQ ?_
    refine rS 2 [(2, ii x3_1)] ?_
    refine dQ ?_
    show XQ _ _ _ _ _ _ _ _
    refine XQ.ren (σ' := [(2, ii x3_1)]) (h' := [(0, rc (encI .i64) a z0 y0 1)]) (c' := 1) [0] (by decide) rfl ⟨rfl, trivial⟩ ⟨⟨_, _, rfl, rfl, .inl ⟨rfl, rwI⟩⟩, trivial⟩ rfl ?_
    refine XQ.ret (by kernel_rfl) ?_
    cases h
    exact hQ
   | false =>
    have h := cF b2 h
    refine iF (.tmp 12) ?_
    refine kQ ?_
    show XQ _ _ _ _ _ _ _ _
    refine rQ ?_
    refine rS 3 [(0, s0 0 a.length), (3, ii (w64 (x3_1 + 1)))] ?_
    refine dQ ?_
    show XL _ _ _ _ _ _ _ _ _
    refine XL.ren (σ' := [(0, s0 0 a.length), (3, ii (w64 (x3_1 + 1)))]) (h' := [(0, rc (encI .i64) a z0 y0 1)]) (c' := 1) [0] (by decide) rfl ⟨rfl, rfl, trivial⟩ ⟨⟨_, _, rfl, rfl, .inl ⟨rfl, rwI⟩⟩, trivial⟩ rfl ?_
    refine XL.conv (f64_1_ok m fuel z0 y0 a (w64 (x3_1 + 1)) o h Q hQ) (by first | rfl | simp)
  | false =>
   have h := cF b1 h
   refine iF (.tmp 7) ?_
   refine XQ.ren (σ' := []) (h' := [(0, rc (encI .i64) a z0 y0 1)]) (c' := 1) [0] (by decide) rfl trivial ⟨⟨_, _, rfl, rfl, .inl ⟨rfl, rwI⟩⟩, trivial⟩ rfl ?_
   refine XQ.exit (i := 0) (by kernel_rfl) ?_
   cases h
   exact hQ
def f64 (m : Nat) (a : List Int) : Option (Int) :=
 (f64_1 m m a 1).bind fun o1 =>
  match o1 with
  | .r x2_r1 =>
   some (x2_r1)
  | .x0 =>
   some (0)
theorem f64_ok (m : Nat) (z0 : Nat) (y0 : Nat) (a : List Int) (o : Int) (h : f64 m a = some o) : KC E0 64 [s0 0 a.length] [(0, rc (encI .i64) a z0 y0 1)] 1 (fun v _ _ => v = ii o) := by
 refine KC.bodyN E0_ok (F := Proofs.Tryd.f64) (by kernel_rfl) (code := f64_C64) (by kernel_rfl) (nt := 14) (by kernel_rfl) (rs := [.tmp 2]) (by kernel_rfl) (by kernel_rfl) (σ := [(0, s0 0 a.length)]) (by kernel_rfl) ?_
 unfold f64 at h
 refine qQ ?_
 refine rS 1 [(0, s0 0 a.length)] ?_
 refine dQ ?_
 show XQ _ _ _ _ _ _ _ _
 refine sQ ?_
 refine qQ ?_
 refine rS 1 [(0, s0 0 a.length), (3, ii 1)] ?_
 refine dQ ?_
 show XQ _ _ _ _ _ _ _ _
 refine XQ.block (id := 0) (by kernel_rfl) ?_
 refine XQ.loop m (by kernel_rfl) ?_
 obtain ⟨o1, o1_h, h⟩ := bS h
 refine XL.ren (σ' := [(0, s0 0 a.length), (3, ii 1)]) (h' := [(0, rc (encI .i64) a z0 y0 1)]) (c' := 1) [0] (by decide) rfl ⟨rfl, rfl, trivial⟩ ⟨⟨_, _, rfl, rfl, .inl ⟨rfl, rwI⟩⟩, trivial⟩ rfl ?_
 cases o1 with
 | r x2_r1 =>
  dsimp only at h
  refine XL.conv (f64_1_ok m m z0 y0 a 1 (.r x2_r1) o1_h _ ?_) (by first | rfl | simp)
  have h := Option.some.inj h
  subst h
  exact ⟨fun i q => (by cases q), ii x2_r1, (by kernel_rfl), rfl⟩
 | x0 =>
  dsimp only at h
  refine XL.conv (f64_1_ok m m z0 y0 a 1 (.x0) o1_h _ ?_) (by first | rfl | simp)
  show XQ _ _ _ _ _ _ _ _
  refine qQ ?_
  refine rS 1 [(2, ii 0)] ?_
  refine dQ ?_
  show XQ _ _ _ _ _ _ _ _
  refine XQ.ret (by kernel_rfl) ?_
  have h := Option.some.inj h
  subst h
  exact ⟨fun i q => (by cases q), ii 0, (by kernel_rfl), rfl⟩
noncomputable def f60_C60 : Code := Proofs.Tryd.f60.body.getD .skip
def f60 (m : Nat) (a : List Int) : Option (Bool) :=
 (f63 m a).bind fun r1 =>
  cond ((Int.tmod r1 2) == 0) (
   (f64 m a).bind fun r2 =>
    some (r2 == 0)
  ) (
   some (false)
  )
theorem f60_ok (m : Nat) (z0 : Nat) (y0 : Nat) (a : List Int) (o : Bool) (h : f60 m a = some o) : KC E0 60 [s0 0 a.length] [(0, rc (encI .i64) a z0 y0 1)] 1 (fun v _ _ => v = .bool o) := by
 refine KC.bodyN E0_ok (F := Proofs.Tryd.f60) (by kernel_rfl) (code := f60_C60) (by kernel_rfl) (nt := 12) (by kernel_rfl) (rs := [.tmp 2]) (by kernel_rfl) (by kernel_rfl) (σ := [(0, s0 0 a.length)]) (by kernel_rfl) ?_
 unfold f60 at h
 refine qQ ?_
 refine rS 1 [(0, s0 0 a.length)] ?_
 refine nQ id ?_
 refine rS 1 [(0, s0 0 a.length), (3, s0 0 a.length)] ?_
 obtain ⟨r1, r1_h, h⟩ := bS h
 refine XR.call E0_ok [0, 4] rfl (K := 63) (args := [s0 0 a.length]) (d := (some (path 12 4))) (by kernel_rfl) (KQ.call (KC.quiet E0_ok (args0 := [s0 0 a.length]) (h0 := [(0, rc (encI .i64) a (z0 + ((rowC (encI .i64) a).length + 1)) y0 1)]) (n := 1) (V := ii r1) [0] (f63_ok m (z0 + ((rowC (encI .i64) a).length + 1)) y0 a r1 r1_h) rfl (by rfl) (by decide) rfl (by kernel_rfl) ⟨⟨_, _, rfl, rfl, .inl ⟨rfl, rwI⟩⟩, trivial⟩) rfl) ?_
 rintro _ _ _ ⟨rfl, rfl, rfl⟩
 refine XR.conv (σ' := [(0, s0 0 a.length), (4, ii r1)]) (h' := [(0, rc (encI .i64) a z0 y0 1)]) (c' := 1) ?_ (by kernel_rfl)
 refine rS 3 [(0, s0 0 a.length), (7, .bool ((Int.tmod r1 2) == 0))] ?_
 cases b1 : ((Int.tmod r1 2) == 0 : Bool) with
 | true =>
  have h := cT b1 h
  refine rS 1 [(7, .bool true), (8, s0 0 a.length)] ?_
  obtain ⟨r2, r2_h, h⟩ := bS h
  refine XR.call E0_ok [7, 9] rfl (K := 64) (args := [s0 0 a.length]) (d := (some (path 12 9))) (by kernel_rfl) (KQ.call (KC.quiet E0_ok (args0 := [s0 0 a.length]) (h0 := [(0, rc (encI .i64) a (z0 + ((rowC (encI .i64) a).length + 1)) y0 1)]) (n := 1) (V := ii r2) [0] (f64_ok m (z0 + ((rowC (encI .i64) a).length + 1)) y0 a r2 r2_h) rfl (by rfl) (by decide) rfl (by kernel_rfl) ⟨⟨_, _, rfl, rfl, .inl ⟨rfl, rwI⟩⟩, trivial⟩) rfl) ?_
  rintro _ _ _ ⟨rfl, rfl, rfl⟩
  refine XR.conv (σ' := [(7, .bool true), (9, ii r2)]) (h' := [(0, rc (encI .i64) a z0 y0 1)]) (c' := 1) ?_ (by kernel_rfl)
  refine rS 3 [(2, .bool (r2 == 0))] ?_
  refine dQ ?_
  show XQ _ _ _ _ _ _ _ _
  refine XQ.ret (by kernel_rfl) ?_
  have h := Option.some.inj h
  subst h
  exact ⟨fun i q => (by cases q), .bool (r2 == 0), (by kernel_rfl), rfl⟩
 | false =>
  have h := cF b1 h
  refine rS 5 [(2, .bool false)] ?_
  refine dQ ?_
  show XQ _ _ _ _ _ _ _ _
  refine XQ.ret (by kernel_rfl) ?_
  have h := Option.some.inj h
  subst h
  exact ⟨fun i q => (by cases q), .bool false, (by kernel_rfl), rfl⟩
end Go.Xm
namespace Go.Xm
open Go.RowKit
set_option linter.unusedVariables false
set_option linter.unusedSimpArgs false
set_option maxRecDepth 20000
noncomputable def f61_C61 : Code := Proofs.Tryd.f61.body.getD .skip
noncomputable def f61_C82 : Code := Proofs.Tryd.f82.body.getD .skip
noncomputable def f61_C83 : Code := Proofs.Tryd.f83.body.getD .skip
noncomputable def f61_L1 : Code := lft (lft (rgt f61_C83))
def f61_1 (m : Nat) : Nat → List Int → Int → Int → List Int → Option (List Int)
 | 0, _, _, _, _ => none
 | fuel + 1, a, x2_1, x3_1, lh2_1 =>
  cond (decide (x2_1 < x3_1)) (
   cond (inRow x3_1 lh2_1.length) (
    cond (inRow x2_1 lh2_1.length) (
     f61_1 m fuel a (w64 (x2_1 + 1)) (w64 (x3_1 - 1)) (List.set (List.set lh2_1 (Int.toNat x2_1) (List.getD lh2_1 (Int.toNat x3_1) 0)) (Int.toNat x3_1) (List.getD lh2_1 (Int.toNat x2_1) 0))
    ) none
   ) none
  ) (
   some (lh2_1)
  )

abbrev qdc1 (lh2_1 : List Int) (x2_1 : Int) (x3_1 : Int) (t : St) : St := (0, s0 2 lh2_1.length) :: (2, ii x2_1) :: (3, ii x3_1) :: (14, s0 2 lh2_1.length) :: (15, ii x2_1) :: (16, s0 2 lh2_1.length) :: (17, ii x3_1) :: t
theorem f61_1_ok (m : Nat) : ∀ (fuel : Nat) (z0 : Nat) (y0 : Nat) (a : List Int) (x2_1 : Int) (x3_1 : Int) (lh2_1 : List Int) (o : (List Int)), f61_1 m fuel a x2_1 x3_1 lh2_1 = some o → ∀ Q : QP, Q (.exit 0) [] [(2, rI o), (1, .cells [s0 0 a.length] 0 22 0), (0, rc (encI .i64) a z0 y0 1)] 3 → XL E0 28 3 fuel f61_L1 [(0, s0 2 lh2_1.length), (2, ii x2_1), (3, ii x3_1)] [(2, rI lh2_1), (1, .cells [s0 0 a.length] 0 22 0), (0, rc (encI .i64) a z0 y0 1)] 3 Q
 | 0, z0, y0, a, x2_1, x3_1, lh2_1, o, h, Q, hQ => by cases h
 | fuel + 1, z0, y0, a, x2_1, x3_1, lh2_1, o, h, Q, hQ => by
  unfold f61_1 at h
  refine XL.succ E0_ok ?_
  refine sQ ?_
  refine qQ ?_
  refine rS 3 [(0, s0 2 lh2_1.length), (2, ii x2_1), (3, ii x3_1), (9, .bool (decide (x2_1 < x3_1)))] ?_
  refine dQ ?_
  show XQ _ _ _ _ _ _ _ _
  cases b1 : (decide (x2_1 < x3_1) : Bool) with
  | true =>
   have h := cT b1 h
   refine iT (.tmp 9) ?_
   refine kQ ?_
   show XQ _ _ _ _ _ _ _ _
   refine sQ ?_
   refine XQ.block (id := 1) (by kernel_rfl) ?_
   refine XQ.preP E0_ok [2, 3] [0, 1, 4, 5, 6, 7, 8, 9, 10, 11, 12] 13 [14, 15] (by kernel_rfl) (by kernel_rfl) (by kernel_rfl) ?_
   refine XP.step E0_ok 2 [0, 2, 3, 16, 17] rfl (σ' := [(0, s0 2 lh2_1.length), (2, ii x2_1), (3, ii x3_1), (16, s0 2 lh2_1.length), (17, ii x3_1)]) (by kernel_rfl) ?_
   refine XP.done (by kernel_rfl) ?_
   show XS _ _ _ _ _ _ _ _ _ _
   refine XS.step E0_ok 4 rfl [0, 2, 3, 14, 15, 16, 17, 18, 19] rfl (σ' := (qdc1 lh2_1 x2_1 x3_1 [(18, s0 2 lh2_1.length), (19, ii x3_1)])) (by kernel_rfl) ?_
   cases b2 : (inRow x3_1 lh2_1.length : Bool) with
   | false => cases (cF b2 h)
   | true =>
    have h := cT b2 h
    refine XS.rd E0_ok rfl [0, 2, 3, 14, 15, 16, 17, 20] rfl (v := pp 2 ((Int.toNat x3_1) * 1)) (v_idx (s := 1) (x := (src 28 (.tmp 18))) (y := (src 28 (.tmp 19))) (b := 2) (o := 0) (len := lh2_1.length) (cap := lh2_1.length) (ik := .i64) (i := x3_1) (off := (Int.toNat x3_1) * 1) (d := (some (path 12 20))) (by kernel_rfl) (by kernel_rfl) (by kernel_rfl) b2 (by omega)) (σ' := (qdc1 lh2_1 x2_1 x3_1 [(20, pp 2 ((Int.toNat x3_1) * 1))])) (by kernel_rfl) ?_
    refine XS.rd E0_ok rfl [0, 2, 3, 14, 15, 16, 17, 21] rfl (v := ii (List.getD lh2_1 (Int.toNat x3_1) 0)) (v_load1 (encI_ok .i64) (x := (src 28 (.tmp 20))) (b := 2) (off := (Int.toNat x3_1) * 1) (xs := lh2_1) (fz := 0) (e := 3) (es := 1) (d := (some (path 12 21))) (by kernel_rfl) (by kernel_rfl) (by kernel_rfl) (Int.toNat x3_1) 0 0 (by first | rfl | omega) (row_len (inRow_toNat b2) (by simp)) rfl rfl) (σ' := (qdc1 lh2_1 x2_1 x3_1 [(21, ii (List.getD lh2_1 (Int.toNat x3_1) 0))])) (by kernel_rfl) ?_
    refine XS.step E0_ok 2 rfl [0, 2, 3, 14, 15, 16, 17, 21, 22, 23] rfl (σ' := (qdc1 lh2_1 x2_1 x3_1 [(21, ii (List.getD lh2_1 (Int.toNat x3_1) 0)), (22, s0 2 lh2_1.length), (23, ii x2_1)])) (by kernel_rfl) ?_
    cases b3 : (inRow x2_1 lh2_1.length : Bool) with
    | false => cases (cF b3 h)
    | true =>
     have h := cT b3 h
     refine XS.rd E0_ok rfl [0, 2, 3, 14, 15, 16, 17, 21, 24] rfl (v := pp 2 ((Int.toNat x2_1) * 1)) (v_idx (s := 1) (x := (src 28 (.tmp 22))) (y := (src 28 (.tmp 23))) (b := 2) (o := 0) (len := lh2_1.length) (cap := lh2_1.length) (ik := .i64) (i := x2_1) (off := (Int.toNat x2_1) * 1) (d := (some (path 12 24))) (by kernel_rfl) (by kernel_rfl) (by kernel_rfl) b3 (by omega)) (σ' := (qdc1 lh2_1 x2_1 x3_1 [(21, ii (List.getD lh2_1 (Int.toNat x3_1) 0)), (24, pp 2 ((Int.toNat x2_1) * 1))])) (by kernel_rfl) ?_
     refine XS.rd E0_ok rfl [0, 2, 3, 14, 15, 16, 17, 21, 25] rfl (v := ii (List.getD lh2_1 (Int.toNat x2_1) 0)) (v_load1 (encI_ok .i64) (x := (src 28 (.tmp 24))) (b := 2) (off := (Int.toNat x2_1) * 1) (xs := lh2_1) (fz := 0) (e := 3) (es := 1) (d := (some (path 12 25))) (by kernel_rfl) (by kernel_rfl) (by kernel_rfl) (Int.toNat x2_1) 0 0 (by first | rfl | omega) (row_len (inRow_toNat b3) (by simp)) rfl rfl) (σ' := (qdc1 lh2_1 x2_1 x3_1 [(21, ii (List.getD lh2_1 (Int.toNat x3_1) 0)), (25, ii (List.getD lh2_1 (Int.toNat x2_1) 0))])) (by kernel_rfl) ?_
     refine XS.rd E0_ok rfl [0, 2, 3, 16, 17, 21, 25, 26] rfl (v := pp 2 ((Int.toNat x2_1) * 1)) (v_idx (s := 1) (x := (src 28 (.tmp 14))) (y := (src 28 (.tmp 15))) (b := 2) (o := 0) (len := lh2_1.length) (cap := lh2_1.length) (ik := .i64) (i := x2_1) (off := (Int.toNat x2_1) * 1) (d := (some (path 12 26))) (by kernel_rfl) (by kernel_rfl) (by kernel_rfl) b3 (by omega)) (σ' := [(0, s0 2 lh2_1.length), (2, ii x2_1), (3, ii x3_1), (16, s0 2 lh2_1.length), (17, ii x3_1), (21, ii (List.getD lh2_1 (Int.toNat x3_1) 0)), (25, ii (List.getD lh2_1 (Int.toNat x2_1) 0)), (26, pp 2 ((Int.toNat x2_1) * 1))]) (by kernel_rfl) ?_
     refine XS.done (by kernel_rfl) ?_
     refine XR.ef E0_ok [0, 2, 3, 16, 17, 25] rfl (e_store (encI_ok .i64) (size := 1) (x := (src 28 (.tmp 26))) (y := (src 28 (.tmp 21))) (b := 2) (off := (Int.toNat x2_1) * 1) (xs := lh2_1) (e := 3) (es := 1) (d := none) (h' := [(2, rI (List.set lh2_1 (Int.toNat x2_1) (List.getD lh2_1 (Int.toNat x3_1) 0))), (1, .cells [s0 0 a.length] 0 22 0), (0, rc (encI .i64) a z0 y0 1)]) (w := ii (List.getD lh2_1 (Int.toNat x3_1) 0)) (ws := [ii (List.getD lh2_1 (Int.toNat x3_1) 0)]) (a := List.getD lh2_1 (Int.toNat x3_1) 0) (by kernel_rfl) (by kernel_rfl) (by kernel_rfl) (Int.toNat x2_1) 0 0 (by first | rfl | omega) (row_len (inRow_toNat b3) (by simp)) (by kernel_rfl) rfl rfl rfl rfl rfl (by kernel_rfl)) (σ' := [(0, s0 2 lh2_1.length), (2, ii x2_1), (3, ii x3_1), (16, s0 2 lh2_1.length), (17, ii x3_1), (25, ii (List.getD lh2_1 (Int.toNat x2_1) 0))]) (by kernel_rfl) ?_
     refine XR.rd E0_ok [0, 2, 3, 25, 27] rfl (v := pp 2 ((Int.toNat x3_1) * 1)) (v_idx (s := 1) (x := (src 28 (.tmp 16))) (y := (src 28 (.tmp 17))) (b := 2) (o := 0) (len := lh2_1.length) (cap := lh2_1.length) (ik := .i64) (i := x3_1) (off := (Int.toNat x3_1) * 1) (d := (some (path 12 27))) (by kernel_rfl) (by kernel_rfl) (by kernel_rfl) b2 (by omega)) (σ' := [(0, s0 2 lh2_1.length), (2, ii x2_1), (3, ii x3_1), (25, ii (List.getD lh2_1 (Int.toNat x2_1) 0)), (27, pp 2 ((Int.toNat x3_1) * 1))]) (by kernel_rfl) ?_
     refine XR.ef E0_ok [0, 2, 3] rfl (e_store (encI_ok .i64) (size := 1) (x := (src 28 (.tmp 27))) (y := (src 28 (.tmp 25))) (b := 2) (off := (Int.toNat x3_1) * 1) (xs := List.set lh2_1 (Int.toNat x2_1) (List.getD lh2_1 (Int.toNat x3_1) 0)) (e := 3) (es := 1) (d := none) (h' := [(2, rI (List.set (List.set lh2_1 (Int.toNat x2_1) (List.getD lh2_1 (Int.toNat x3_1) 0)) (Int.toNat x3_1) (List.getD lh2_1 (Int.toNat x2_1) 0))), (1, .cells [s0 0 a.length] 0 22 0), (0, rc (encI .i64) a z0 y0 1)]) (w := ii (List.getD lh2_1 (Int.toNat x2_1) 0)) (ws := [ii (List.getD lh2_1 (Int.toNat x2_1) 0)]) (a := List.getD lh2_1 (Int.toNat x2_1) 0) (by kernel_rfl) (by kernel_rfl) (by kernel_rfl) (Int.toNat x3_1) 0 0 (by first | rfl | omega) (row_len (inRow_toNat b2) (by simp)) (by kernel_rfl) rfl rfl rfl rfl rfl (by kernel_rfl)) (σ' := [(0, s0 2 lh2_1.length), (2, ii x2_1), (3, ii x3_1)]) (by kernel_rfl) ?_
     refine dQ ?_
     show XQ _ _ _ _ _ _ _ _
     refine rQ ?_
     refine rS 6 [(0, s0 2 lh2_1.length), (2, ii (w64 (x2_1 + 1))), (3, ii (w64 (x3_1 - 1)))] ?_
     refine dQ ?_
     show XL _ _ _ _ _ _ _ _ _
     refine XL.ren (σ' := [(0, s0 2 lh2_1.length), (2, ii (w64 (x2_1 + 1))), (3, ii (w64 (x3_1 - 1)))]) (h' := [(2, rI (List.set (List.set lh2_1 (Int.toNat x2_1) (List.getD lh2_1 (Int.toNat x3_1) 0)) (Int.toNat x3_1) (List.getD lh2_1 (Int.toNat x2_1) 0))), (1, .cells [s0 0 a.length] 0 22 0), (0, rc (encI .i64) a z0 y0 1)]) (c' := 3) [0, 1, 2] (by decide) rfl ⟨rfl, rfl, rfl, trivial⟩ ⟨⟨_, _, rfl, rfl, .inl ⟨rfl, rwI⟩⟩, ⟨_, _, rfl, rfl, .inr ⟨_, _, _, _, rfl, rfl⟩⟩, ⟨_, _, rfl, rfl, .inl ⟨rfl, rwI⟩⟩, trivial⟩ rfl ?_
     refine XL.conv (f61_1_ok m fuel z0 y0 a (w64 (x2_1 + 1)) (w64 (x3_1 - 1)) (List.set (List.set lh2_1 (Int.toNat x2_1) (List.getD lh2_1 (Int.toNat x3_1) 0)) (Int.toNat x3_1) (List.getD lh2_1 (Int.toNat x2_1) 0)) o h Q hQ) (by first | rfl | simp)
  | false =>
   have h := cF b1 h
   refine iF (.tmp 9) ?_
   refine XQ.ren (σ' := []) (h' := [(2, rI lh2_1), (1, .cells [s0 0 a.length] 0 22 0), (0, rc (encI .i64) a z0 y0 1)]) (c' := 3) [0, 1, 2] (by decide) rfl trivial ⟨⟨_, _, rfl, rfl, .inl ⟨rfl, rwI⟩⟩, ⟨_, _, rfl, rfl, .inr ⟨_, _, _, _, rfl, rfl⟩⟩, ⟨_, _, rfl, rfl, .inl ⟨rfl, rwI⟩⟩, trivial⟩ rfl ?_
   refine XQ.exit (i := 0) (by kernel_rfl) ?_
   cases h
   exact hQ
def f61 (m : Nat) (a : List Int) : Option (List Int) :=
 cond (Nat.ble a.length 1000000) (
  (f61_1 m m a 0 (w64 ((((sortI a).length : Nat) : Int) - 1)) (sortI a)).bind fun o1 =>
   cond (decide ((sortI a).length = o1.length)) (
    some (o1)
   ) none
 ) none
theorem f61_ok (m : Nat) (z0 : Nat) (y0 : Nat) (a : List Int) (o : List Int) (h : f61 m a = some o) : KC E0 61 [s0 0 a.length] [(0, rc (encI .i64) a z0 y0 1)] 1 (fun v h' c' => v = s0 1 o.length ∧ h' = [(1, rI o)] ++ [(0, rc (encI .i64) a z0 y0 1)] ∧ c' = 2) := by
 refine KC.bodyN E0_ok (F := Proofs.Tryd.f61) (by kernel_rfl) (code := f61_C61) (by kernel_rfl) (nt := 10) (by kernel_rfl) (rs := [.tmp 2]) (by kernel_rfl) (by kernel_rfl) (σ := [(0, s0 0 a.length)]) (by kernel_rfl) ?_
 unfold f61 at h
 refine qQ ?_
 refine rS 1 [(0, s0 0 a.length)] ?_
 refine nQ id ?_
 refine rS 1 [(4, s0 0 a.length)] ?_
 refine XR.callK E0_ok [5] rfl (K := 82) (args := [s0 0 a.length]) (d := (some (path 12 5))) (by kernel_rfl) ?_
 refine KC.bodyN E0_ok (F := Proofs.Tryd.f82) (by kernel_rfl) (code := f61_C82) (by kernel_rfl) (nt := 4) (by kernel_rfl) (rs := [.tmp 2]) (by kernel_rfl) (by kernel_rfl) (σ := [(0, s0 0 a.length)]) (by kernel_rfl) ?_
 refine qQ ?_
 refine rT 2 [(1, pp 1 0)] [(1, .cells [s0 0 a.length] 0 22 0), (0, rc (encI .i64) a z0 y0 1)] 2 ?_
 refine nQ id ?_
 refine rS 2 [(2, .func (.func 105) #[] #[pp 1 0])] ?_
 refine dQ ?_
 show XQ _ _ _ _ _ _ _ _
 refine XQ.ret (by kernel_rfl) ?_
 refine ⟨fun i q => (by cases q), .func (.func 105) #[] #[pp 1 0], (by kernel_rfl), ?_⟩
 refine XR.conv (σ' := [(5, .func (.func 105) #[] #[pp 1 0])]) (h' := [(1, .cells [s0 0 a.length] 0 22 0), (0, rc (encI .i64) a z0 y0 1)]) (c' := 2) ?_ (by kernel_rfl)
 cases b1 : (Nat.ble a.length 1000000 : Bool) with
 | false => cases (cF b1 h)
 | true =>
  have h := cT b1 h
  refine XR.call E0_ok [6] rfl (K := 81) (args := [.func (.func 105) #[] #[pp 1 0]]) (d := (some (path 12 6))) (by kernel_rfl) (sorted_row (c := 2) (b := 1) (V := s0 0 a.length) (ys := a) (n := a.length) (fz1 := 0) (e1 := 22) (es1 := 0) (by kernel_rfl) rfl (fetch_all (encI_ok .i64) (ys := a) (fz := z0) (e := y0) (es := 1) (by kernel_rfl) (by simp) (Nat.le_refl _)) b1) ?_
  rintro _ _ _ ⟨rfl, rfl, rfl⟩
  refine XR.conv (σ' := [(6, s0 2 ((sortI a).length))]) (h' := [(2, rI (sortI a)), (1, .cells [s0 0 a.length] 0 22 0), (0, rc (encI .i64) a z0 y0 1)]) (c' := 3) ?_ (by kernel_rfl)
  refine rS 1 [(3, s0 2 ((sortI a).length))] ?_
  refine nQ id ?_
  refine rS 1 [(3, s0 2 ((sortI a).length)), (7, s0 2 ((sortI a).length))] ?_
  refine XR.callK E0_ok [3] rfl (K := 83) (args := [s0 2 ((sortI a).length)]) (d := (some (path 12 8))) (by kernel_rfl) ?_
  refine KC.bodyN E0_ok (F := Proofs.Tryd.f83) (by kernel_rfl) (code := f61_C83) (by kernel_rfl) (nt := 28) (by kernel_rfl) (rs := []) (by kernel_rfl) (by kernel_rfl) (σ := [(0, s0 2 ((sortI a).length))]) (by kernel_rfl) ?_
  refine qQ ?_
  refine rS 5 [(0, s0 2 ((sortI a).length)), (2, ii 0), (3, ii (w64 ((((sortI a).length : Nat) : Int) - 1)))] ?_
  refine dQ ?_
  show XQ _ _ _ _ _ _ _ _
  refine XQ.block (id := 0) (by kernel_rfl) ?_
  refine XQ.loop m (by kernel_rfl) ?_
  obtain ⟨o1, o1_h, h⟩ := bS h
  refine XL.ren (σ' := [(0, s0 2 ((sortI a).length)), (2, ii 0), (3, ii (w64 ((((sortI a).length : Nat) : Int) - 1)))]) (h' := [(2, rI (sortI a)), (1, .cells [s0 0 a.length] 0 22 0), (0, rc (encI .i64) a z0 y0 1)]) (c' := 3) [0, 1, 2] (by decide) rfl ⟨rfl, rfl, rfl, trivial⟩ ⟨⟨_, _, rfl, rfl, .inl ⟨rfl, rwI⟩⟩, ⟨_, _, rfl, rfl, .inr ⟨_, _, _, _, rfl, rfl⟩⟩, ⟨_, _, rfl, rfl, .inl ⟨rfl, rwI⟩⟩, trivial⟩ rfl ?_
  refine XL.conv (f61_1_ok m m z0 y0 a 0 (w64 ((((sortI a).length : Nat) : Int) - 1)) (sortI a) o1 o1_h _ ?_) (by first | rfl | simp)
  refine ⟨fun i q => (by cases q), .tuple #[], (by kernel_rfl), ?_⟩
  refine XR.conv (σ' := [(3, s0 2 ((sortI a).length))]) (h' := [(2, rI o1), (1, .cells [s0 0 a.length] 0 22 0), (0, rc (encI .i64) a z0 y0 1)]) (c' := 3) ?_ (by kernel_rfl)
  cases b3 : (decide ((sortI a).length = o1.length) : Bool) with
  | false => cases (cF b3 h)
  | true =>
   have h := cT b3 h
   refine XR.conv (σ' := [(3, s0 2 o1.length)]) (h' := [(2, rI o1), (1, .cells [s0 0 a.length] 0 22 0), (0, rc (encI .i64) a z0 y0 1)]) (c' := 3) ?_ (by rw [of_decide_eq_true b3])
   refine nQ id ?_
   refine rS 2 [(2, s0 2 o1.length)] ?_
   refine dQ ?_
   show XQ _ _ _ _ _ _ _ _
   refine XQ.ren (σ' := [(2, s0 1 o1.length)]) (h' := [(1, rI o1), (0, rc (encI .i64) a z0 y0 1)]) (c' := 2) [0, 2] (by decide) rfl ⟨rfl, trivial⟩ ⟨⟨_, _, rfl, rfl, .inl ⟨rfl, rwI⟩⟩, ⟨_, _, rfl, rfl, .inl ⟨rfl, rwI⟩⟩, trivial⟩ rfl ?_
   refine XQ.ret (by kernel_rfl) ?_
   have h := Option.some.inj h
   subst h
   exact ⟨fun i q => (by cases q), s0 1 o1.length, (by kernel_rfl), (by kernel_rfl), (by kernel_rfl), rfl⟩
noncomputable def f59_C59 : Code := Proofs.Tryd.f59.body.getD .skip
noncomputable def f59_C61 : Code := Proofs.Tryd.f61.body.getD .skip
noncomputable def f59_C82 : Code := Proofs.Tryd.f82.body.getD .skip
noncomputable def f59_C83 : Code := Proofs.Tryd.f83.body.getD .skip
noncomputable def f59_L1 : Code := lft (lft (lft (rgt (rgt f59_C59))))
noncomputable def f59_L2 : Code := lft (lft (rgt (lft (rgt (rgt (rgt (lft (rgt f59_L1))))))))
noncomputable def f59_L3 : Code := lft (lft (rgt f59_C83))
inductive Of59_2 where
 | r
 | x2 (n3_x22 : Nat) (c3_x22 : Nat) (lh1_x22 : List Int)
def f59_2 (m : Nat) : Nat → List Int → Nat → Nat → Int → Int → List Int → Option Of59_2
 | 0, _, _, _, _, _, _ => none
 | fuel + 1, a, n3_2, c3_2, x23_2, x24_2, lh1_2 =>
  cond (decide (x24_2 < x23_2)) (
   cond (inRow x24_2 n3_2) (
    cond (decide (1 + (Int.toNat x24_2) < lh1_2.length)) (
     cond (decide ((List.getD (List.set lh1_2 (1 + (Int.toNat x24_2)) (w64 ((List.getD lh1_2 (1 + (Int.toNat x24_2)) 0) - 1))) (1 + (Int.toNat x24_2)) 0) < 0)) (
      some (.r)
     ) (
      f59_2 m fuel a n3_2 c3_2 x23_2 (w64 (x24_2 + 1)) (List.set lh1_2 (1 + (Int.toNat x24_2)) (w64 ((List.getD lh1_2 (1 + (Int.toNat x24_2)) 0) - 1)))
     )
    ) none
   ) none
  ) (
   some (.x2 n3_2 c3_2 lh1_2)
  )
theorem f59_2_ok (m : Nat) : ∀ (fuel : Nat) (z0 : Nat) (y0 : Nat) (a : List Int) (n3_2 : Nat) (c3_2 : Nat) (x23_2 : Int) (x24_2 : Int) (lh1_2 : List Int) (o : Of59_2), f59_2 m fuel a n3_2 c3_2 x23_2 x24_2 lh1_2 = some o → ∀ Q : QP, (match o with | .r => Q .ret [(2, .bool false)] [(0, rc (encI .i64) a z0 y0 1)] 1 | .x2 n3_x22 c3_x22 lh1_x22 => Q (.exit 2) [(3, sl 1 (1 * 1) n3_x22 c3_x22)] [(1, rI lh1_x22), (0, rc (encI .i64) a z0 y0 1)] 2) → XL E0 41 1 fuel f59_L2 [(3, sl 1 (1 * 1) n3_2 c3_2), (23, ii x23_2), (24, ii x24_2)] [(1, rI lh1_2), (0, rc (encI .i64) a z0 y0 1)] 2 Q
 | 0, z0, y0, a, n3_2, c3_2, x23_2, x24_2, lh1_2, o, h, Q, hQ => by cases h
 | fuel + 1, z0, y0, a, n3_2, c3_2, x23_2, x24_2, lh1_2, o, h, Q, hQ => by
  unfold f59_2 at h
  refine XL.succ E0_ok ?_
  refine qQ ?_
  refine rS 1 [(3, sl 1 (1 * 1) n3_2 c3_2), (23, ii x23_2), (24, ii x24_2), (25, .bool (decide (x24_2 < x23_2)))] ?_
  refine dQ ?_
  show XQ _ _ _ _ _ _ _ _
  refine sQ ?_
  cases b1 : (decide (x24_2 < x23_2) : Bool) with
  | true =>
   have h := cT b1 h
   refine iT (.tmp 25) ?_
   refine kQ ?_
   show XQ _ _ _ _ _ _ _ _
   refine sQ ?_
   refine XQ.block (id := 3) (by kernel_rfl) ?_
   refine qQ ?_
   refine rS 2 [(3, sl 1 (1 * 1) n3_2 c3_2), (5, ii x24_2), (23, ii x23_2), (24, ii x24_2)] ?_
   refine nQ id ?_
   refine rS 2 [(3, sl 1 (1 * 1) n3_2 c3_2), (5, ii x24_2), (23, ii x23_2), (24, ii x24_2), (27, sl 1 (1 * 1) n3_2 c3_2), (28, ii x24_2)] ?_
   cases b2 : (inRow x24_2 n3_2 : Bool) with
   | false => cases (cF b2 h)
   | true =>
    have h := cT b2 h
    refine XR.rd E0_ok [3, 5, 23, 24, 27, 28, 29] rfl (v := pp 1 ((1 + (Int.toNat x24_2)) * 1)) (v_idx (s := 1) (x := (src 41 (.tmp 27))) (y := (src 41 (.tmp 28))) (b := 1) (o := 1 * 1) (len := n3_2) (cap := c3_2) (ik := .i64) (i := x24_2) (off := (1 + (Int.toNat x24_2)) * 1) (d := (some (path 12 29))) (by kernel_rfl) (by kernel_rfl) (by kernel_rfl) b2 (by omega)) (σ' := [(3, sl 1 (1 * 1) n3_2 c3_2), (5, ii x24_2), (23, ii x23_2), (24, ii x24_2), (27, sl 1 (1 * 1) n3_2 c3_2), (28, ii x24_2), (29, pp 1 ((1 + (Int.toNat x24_2)) * 1))]) (by kernel_rfl) ?_
    cases b3 : (decide (1 + (Int.toNat x24_2) < lh1_2.length) : Bool) with
    | false => cases (cF b3 h)
    | true =>
     have h := cT b3 h
     refine XR.rd E0_ok [3, 5, 23, 24, 27, 28, 30] rfl (v := ii (List.getD lh1_2 (1 + (Int.toNat x24_2)) 0)) (v_load1 (encI_ok .i64) (x := (src 41 (.tmp 29))) (b := 1) (off := (1 + (Int.toNat x24_2)) * 1) (xs := lh1_2) (fz := 0) (e := 3) (es := 1) (d := (some (path 12 30))) (by kernel_rfl) (by kernel_rfl) (by kernel_rfl) (1 + (Int.toNat x24_2)) 0 0 (by first | rfl | omega) (row_len b3 (by simp)) rfl rfl) (σ' := [(3, sl 1 (1 * 1) n3_2 c3_2), (5, ii x24_2), (23, ii x23_2), (24, ii x24_2), (27, sl 1 (1 * 1) n3_2 c3_2), (28, ii x24_2), (30, ii (List.getD lh1_2 (1 + (Int.toNat x24_2)) 0))]) (by kernel_rfl) ?_
     refine rS 1 [(3, sl 1 (1 * 1) n3_2 c3_2), (5, ii x24_2), (23, ii x23_2), (24, ii x24_2), (27, sl 1 (1 * 1) n3_2 c3_2), (28, ii x24_2), (31, ii (w64 ((List.getD lh1_2 (1 + (Int.toNat x24_2)) 0) - 1)))] ?_
     refine XR.rd E0_ok [3, 5, 23, 24, 31, 32] rfl (v := pp 1 ((1 + (Int.toNat x24_2)) * 1)) (v_idx (s := 1) (x := (src 41 (.tmp 27))) (y := (src 41 (.tmp 28))) (b := 1) (o := 1 * 1) (len := n3_2) (cap := c3_2) (ik := .i64) (i := x24_2) (off := (1 + (Int.toNat x24_2)) * 1) (d := (some (path 12 32))) (by kernel_rfl) (by kernel_rfl) (by kernel_rfl) b2 (by omega)) (σ' := [(3, sl 1 (1 * 1) n3_2 c3_2), (5, ii x24_2), (23, ii x23_2), (24, ii x24_2), (31, ii (w64 ((List.getD lh1_2 (1 + (Int.toNat x24_2)) 0) - 1))), (32, pp 1 ((1 + (Int.toNat x24_2)) * 1))]) (by kernel_rfl) ?_
     refine XR.ef E0_ok [3, 5, 23, 24] rfl (e_store (encI_ok .i64) (size := 1) (x := (src 41 (.tmp 32))) (y := (src 41 (.tmp 31))) (b := 1) (off := (1 + (Int.toNat x24_2)) * 1) (xs := lh1_2) (e := 3) (es := 1) (d := none) (h' := [(1, rI (List.set lh1_2 (1 + (Int.toNat x24_2)) (w64 ((List.getD lh1_2 (1 + (Int.toNat x24_2)) 0) - 1)))), (0, rc (encI .i64) a z0 y0 1)]) (w := ii (w64 ((List.getD lh1_2 (1 + (Int.toNat x24_2)) 0) - 1))) (ws := [ii (w64 ((List.getD lh1_2 (1 + (Int.toNat x24_2)) 0) - 1))]) (a := w64 ((List.getD lh1_2 (1 + (Int.toNat x24_2)) 0) - 1)) (by kernel_rfl) (by kernel_rfl) (by kernel_rfl) (1 + (Int.toNat x24_2)) 0 0 (by first | rfl | omega) (row_len b3 (by simp)) (by kernel_rfl) rfl rfl rfl rfl rfl (by kernel_rfl)) (σ' := [(3, sl 1 (1 * 1) n3_2 c3_2), (5, ii x24_2), (23, ii x23_2), (24, ii x24_2)]) (by kernel_rfl) ?_
     refine nQ id ?_
     refine rS 2 [(3, sl 1 (1 * 1) n3_2 c3_2), (23, ii x23_2), (24, ii x24_2), (33, sl 1 (1 * 1) n3_2 c3_2), (34, ii x24_2)] ?_
     refine XR.rd E0_ok [3, 23, 24, 35] rfl (v := pp 1 ((1 + (Int.toNat x24_2)) * 1)) (v_idx (s := 1) (x := (src 41 (.tmp 33))) (y := (src 41 (.tmp 34))) (b := 1) (o := 1 * 1) (len := n3_2) (cap := c3_2) (ik := .i64) (i := x24_2) (off := (1 + (Int.toNat x24_2)) * 1) (d := (some (path 12 35))) (by kernel_rfl) (by kernel_rfl) (by kernel_rfl) b2 (by omega)) (σ' := [(3, sl 1 (1 * 1) n3_2 c3_2), (23, ii x23_2), (24, ii x24_2), (35, pp 1 ((1 + (Int.toNat x24_2)) * 1))]) (by kernel_rfl) ?_
     refine XR.rd E0_ok [3, 23, 24, 36] rfl (v := ii (List.getD (List.set lh1_2 (1 + (Int.toNat x24_2)) (w64 ((List.getD lh1_2 (1 + (Int.toNat x24_2)) 0) - 1))) (1 + (Int.toNat x24_2)) 0)) (v_load1 (encI_ok .i64) (x := (src 41 (.tmp 35))) (b := 1) (off := (1 + (Int.toNat x24_2)) * 1) (xs := List.set lh1_2 (1 + (Int.toNat x24_2)) (w64 ((List.getD lh1_2 (1 + (Int.toNat x24_2)) 0) - 1))) (fz := 0) (e := 3) (es := 1) (d := (some (path 12 36))) (by kernel_rfl) (by kernel_rfl) (by kernel_rfl) (1 + (Int.toNat x24_2)) 0 0 (by first | rfl | omega) (row_len b3 (by simp)) rfl rfl) (σ' := [(3, sl 1 (1 * 1) n3_2 c3_2), (23, ii x23_2), (24, ii x24_2), (36, ii (List.getD (List.set lh1_2 (1 + (Int.toNat x24_2)) (w64 ((List.getD lh1_2 (1 + (Int.toNat x24_2)) 0) - 1))) (1 + (Int.toNat x24_2)) 0))]) (by kernel_rfl) ?_
     refine rS 1 [(3, sl 1 (1 * 1) n3_2 c3_2), (23, ii x23_2), (24, ii x24_2), (37, .bool (decide ((List.getD (List.set lh1_2 (1 + (Int.toNat x24_2)) (w64 ((List.getD lh1_2 (1 + (Int.toNat x24_2)) 0) - 1))) (1 + (Int.toNat x24_2)) 0) < 0)))] ?_
     refine dQ ?_
     show XQ _ _ _ _ _ _ _ _
     cases b4 : (decide ((List.getD (List.set lh1_2 (1 + (Int.toNat x24_2)) (w64 ((List.getD lh1_2 (1 + (Int.toNat x24_2)) 0) - 1))) (1 + (Int.toNat x24_2)) 0) < 0) : Bool) with
     | true =>
      have h := cT b4 h
      refine iT (.tmp 37) ?_
      refine qQ ?_
      refine rS 1 [(2, .bool false)] ?_
      refine dQ ?_
      show XQ _ _ _ _ _ _ _ _
      refine XQ.ren (σ' := [(2, .bool false)]) (h' := [(0, rc (encI .i64) a z0 y0 1)]) (c' := 1) [0] (by decide) rfl ⟨rfl, trivial⟩ ⟨⟨_, _, rfl, rfl, .inl ⟨rfl, rwI⟩⟩, trivial⟩ rfl ?_
      refine XQ.ret (by kernel_rfl) ?_
      cases h
      exact hQ
     | false =>
      have h := cF b4 h
      refine iF (.tmp 37) ?_
      refine kQ ?_
      show XQ _ _ _ _ _ _ _ _
      refine rQ ?_
      refine rS 2 [(3, sl 1 (1 * 1) n3_2 c3_2), (23, ii x23_2), (24, ii (w64 (x24_2 + 1)))] ?_
      refine dQ ?_
      show XL _ _ _ _ _ _ _ _ _
      refine XL.ren (σ' := [(3, sl 1 (1 * 1) n3_2 c3_2), (23, ii x23_2), (24, ii (w64 (x24_2 + 1)))]) (h' := [(1, rI (List.set lh1_2 (1 + (Int.toNat x24_2)) (w64 ((List.getD lh1_2 (1 + (Int.toNat x24_2)) 0) - 1)))), (0, rc (encI .i64) a z0 y0 1)]) (c' := 2) [0, 1] (by decide) rfl ⟨rfl, rfl, rfl, trivial⟩ ⟨⟨_, _, rfl, rfl, .inl ⟨rfl, rwI⟩⟩, ⟨_, _, rfl, rfl, .inl ⟨rfl, rwI⟩⟩, trivial⟩ rfl ?_
      refine XL.conv (f59_2_ok m fuel z0 y0 a n3_2 c3_2 x23_2 (w64 (x24_2 + 1)) (List.set lh1_2 (1 + (Int.toNat x24_2)) (w64 ((List.getD lh1_2 (1 + (Int.toNat x24_2)) 0) - 1))) o h Q hQ) (by first | rfl | simp)
  | false =>
   have h := cF b1 h
   refine iF (.tmp 25) ?_
   refine XQ.ren (σ' := [(3, sl 1 (1 * 1) n3_2 c3_2)]) (h' := [(1, rI lh1_2), (0, rc (encI .i64) a z0 y0 1)]) (c' := 2) [0, 1] (by decide) rfl ⟨rfl, trivial⟩ ⟨⟨_, _, rfl, rfl, .inl ⟨rfl, rwI⟩⟩, ⟨_, _, rfl, rfl, .inl ⟨rfl, rwI⟩⟩, trivial⟩ rfl ?_
   refine XQ.exit (i := 2) (by kernel_rfl) ?_
   cases h
   exact hQ
def f59_3 (m : Nat) : Nat → List Int → Nat → Nat → List Int → Int → Int → List Int → Option (List Int)
 | 0, _, _, _, _, _, _, _ => none
 | fuel + 1, a, n3_x22, c3_x22, lh1_x22, x2_3, x3_3, lh3_3 =>
  cond (decide (x2_3 < x3_3)) (
   cond (inRow x3_3 lh3_3.length) (
    cond (inRow x2_3 lh3_3.length) (
     f59_3 m fuel a n3_x22 c3_x22 lh1_x22 (w64 (x2_3 + 1)) (w64 (x3_3 - 1)) (List.set (List.set lh3_3 (Int.toNat x2_3) (List.getD lh3_3 (Int.toNat x3_3) 0)) (Int.toNat x3_3) (List.getD lh3_3 (Int.toNat x2_3) 0))
    ) none
   ) none
  ) (
   some (lh3_3)
  )

abbrev qdc2 (lh3_3 : List Int) (x2_3 : Int) (x3_3 : Int) (t : St) : St := (0, s0 3 lh3_3.length) :: (2, ii x2_3) :: (3, ii x3_3) :: (14, s0 3 lh3_3.length) :: (15, ii x2_3) :: (16, s0 3 lh3_3.length) :: (17, ii x3_3) :: t
theorem f59_3_ok (m : Nat) : ∀ (fuel : Nat) (z0 : Nat) (y0 : Nat) (a : List Int) (n3_x22 : Nat) (c3_x22 : Nat) (lh1_x22 : List Int) (x2_3 : Int) (x3_3 : Int) (lh3_3 : List Int) (o : (List Int)), f59_3 m fuel a n3_x22 c3_x22 lh1_x22 x2_3 x3_3 lh3_3 = some o → ∀ Q : QP, Q (.exit 0) [] [(3, rI o), (2, .cells [sl 1 (1 * 1) n3_x22 c3_x22] 0 22 0), (1, rI lh1_x22), (0, rc (encI .i64) a z0 y0 1)] 4 → XL E0 28 4 fuel f59_L3 [(0, s0 3 lh3_3.length), (2, ii x2_3), (3, ii x3_3)] [(3, rI lh3_3), (2, .cells [sl 1 (1 * 1) n3_x22 c3_x22] 0 22 0), (1, rI lh1_x22), (0, rc (encI .i64) a z0 y0 1)] 4 Q
 | 0, z0, y0, a, n3_x22, c3_x22, lh1_x22, x2_3, x3_3, lh3_3, o, h, Q, hQ => by cases h
 | fuel + 1, z0, y0, a, n3_x22, c3_x22, lh1_x22, x2_3, x3_3, lh3_3, o, h, Q, hQ => by
  unfold f59_3 at h
  refine XL.succ E0_ok ?_
  refine sQ ?_
  refine qQ ?_
  refine rS 3 [(0, s0 3 lh3_3.length), (2, ii x2_3), (3, ii x3_3), (9, .bool (decide (x2_3 < x3_3)))] ?_
  refine dQ ?_
  show XQ _ _ _ _ _ _ _ _
  cases b1 : (decide (x2_3 < x3_3) : Bool) with
  | true =>
   have h := cT b1 h
   refine iT (.tmp 9) ?_
   refine kQ ?_
   show XQ _ _ _ _ _ _ _ _
   refine sQ ?_
   refine XQ.block (id := 1) (by kernel_rfl) ?_
   refine XQ.preP E0_ok [2, 3] [0, 1, 4, 5, 6, 7, 8, 9, 10, 11, 12] 13 [14, 15] (by kernel_rfl) (by kernel_rfl) (by kernel_rfl) ?_
   refine XP.step E0_ok 2 [0, 2, 3, 16, 17] rfl (σ' := [(0, s0 3 lh3_3.length), (2, ii x2_3), (3, ii x3_3), (16, s0 3 lh3_3.length), (17, ii x3_3)]) (by kernel_rfl) ?_
   refine XP.done (by kernel_rfl) ?_
   show XS _ _ _ _ _ _ _ _ _ _
   refine XS.step E0_ok 4 rfl [0, 2, 3, 14, 15, 16, 17, 18, 19] rfl (σ' := (qdc2 lh3_3 x2_3 x3_3 [(18, s0 3 lh3_3.length), (19, ii x3_3)])) (by kernel_rfl) ?_
   cases b2 : (inRow x3_3 lh3_3.length : Bool) with
   | false => cases (cF b2 h)
   | true =>
    have h := cT b2 h
    refine XS.rd E0_ok rfl [0, 2, 3, 14, 15, 16, 17, 20] rfl (v := pp 3 ((Int.toNat x3_3) * 1)) (v_idx (s := 1) (x := (src 28 (.tmp 18))) (y := (src 28 (.tmp 19))) (b := 3) (o := 0) (len := lh3_3.length) (cap := lh3_3.length) (ik := .i64) (i := x3_3) (off := (Int.toNat x3_3) * 1) (d := (some (path 12 20))) (by kernel_rfl) (by kernel_rfl) (by kernel_rfl) b2 (by omega)) (σ' := (qdc2 lh3_3 x2_3 x3_3 [(20, pp 3 ((Int.toNat x3_3) * 1))])) (by kernel_rfl) ?_
    refine XS.rd E0_ok rfl [0, 2, 3, 14, 15, 16, 17, 21] rfl (v := ii (List.getD lh3_3 (Int.toNat x3_3) 0)) (v_load1 (encI_ok .i64) (x := (src 28 (.tmp 20))) (b := 3) (off := (Int.toNat x3_3) * 1) (xs := lh3_3) (fz := 0) (e := 3) (es := 1) (d := (some (path 12 21))) (by kernel_rfl) (by kernel_rfl) (by kernel_rfl) (Int.toNat x3_3) 0 0 (by first | rfl | omega) (row_len (inRow_toNat b2) (by simp)) rfl rfl) (σ' := (qdc2 lh3_3 x2_3 x3_3 [(21, ii (List.getD lh3_3 (Int.toNat x3_3) 0))])) (by kernel_rfl) ?_
    refine XS.step E0_ok 2 rfl [0, 2, 3, 14, 15, 16, 17, 21, 22, 23] rfl (σ' := (qdc2 lh3_3 x2_3 x3_3 [(21, ii (List.getD lh3_3 (Int.toNat x3_3) 0)), (22, s0 3 lh3_3.length), (23, ii x2_3)])) (by kernel_rfl) ?_
    cases b3 : (inRow x2_3 lh3_3.length : Bool) with
    | false => cases (cF b3 h)
    | true =>
     have h := cT b3 h
     refine XS.rd E0_ok rfl [0, 2, 3, 14, 15, 16, 17, 21, 24] rfl (v := pp 3 ((Int.toNat x2_3) * 1)) (v_idx (s := 1) (x := (src 28 (.tmp 22))) (y := (src 28 (.tmp 23))) (b := 3) (o := 0) (len := lh3_3.length) (cap := lh3_3.length) (ik := .i64) (i := x2_3) (off := (Int.toNat x2_3) * 1) (d := (some (path 12 24))) (by kernel_rfl) (by kernel_rfl) (by kernel_rfl) b3 (by omega)) (σ' := (qdc2 lh3_3 x2_3 x3_3 [(21, ii (List.getD lh3_3 (Int.toNat x3_3) 0)), (24, pp 3 ((Int.toNat x2_3) * 1))])) (by kernel_rfl) ?_
     refine XS.rd E0_ok rfl [0, 2, 3, 14, 15, 16, 17, 21, 25] rfl (v := ii (List.getD lh3_3 (Int.toNat x2_3) 0)) (v_load1 (encI_ok .i64) (x := (src 28 (.tmp 24))) (b := 3) (off := (Int.toNat x2_3) * 1) (xs := lh3_3) (fz := 0) (e := 3) (es := 1) (d := (some (path 12 25))) (by kernel_rfl) (by kernel_rfl) (by kernel_rfl) (Int.toNat x2_3) 0 0 (by first | rfl | omega) (row_len (inRow_toNat b3) (by simp)) rfl rfl) (σ' := (qdc2 lh3_3 x2_3 x3_3 [(21, ii (List.getD lh3_3 (Int.toNat x3_3) 0)), (25, ii (List.getD lh3_3 (Int.toNat x2_3) 0))])) (by kernel_rfl) ?_
     refine XS.rd E0_ok rfl [0, 2, 3, 16, 17, 21, 25, 26] rfl (v := pp 3 ((Int.toNat x2_3) * 1)) (v_idx (s := 1) (x := (src 28 (.tmp 14))) (y := (src 28 (.tmp 15))) (b := 3) (o := 0) (len := lh3_3.length) (cap := lh3_3.length) (ik := .i64) (i := x2_3) (off := (Int.toNat x2_3) * 1) (d := (some (path 12 26))) (by kernel_rfl) (by kernel_rfl) (by kernel_rfl) b3 (by omega)) (σ' := [(0, s0 3 lh3_3.length), (2, ii x2_3), (3, ii x3_3), (16, s0 3 lh3_3.length), (17, ii x3_3), (21, ii (List.getD lh3_3 (Int.toNat x3_3) 0)), (25, ii (List.getD lh3_3 (Int.toNat x2_3) 0)), (26, pp 3 ((Int.toNat x2_3) * 1))]) (by kernel_rfl) ?_
     refine XS.done (by kernel_rfl) ?_
     refine XR.ef E0_ok [0, 2, 3, 16, 17, 25] rfl (e_store (encI_ok .i64) (size := 1) (x := (src 28 (.tmp 26))) (y := (src 28 (.tmp 21))) (b := 3) (off := (Int.toNat x2_3) * 1) (xs := lh3_3) (e := 3) (es := 1) (d := none) (h' := [(3, rI (List.set lh3_3 (Int.toNat x2_3) (List.getD lh3_3 (Int.toNat x3_3) 0))), (2, .cells [sl 1 (1 * 1) n3_x22 c3_x22] 0 22 0), (1, rI lh1_x22), (0, rc (encI .i64) a z0 y0 1)]) (w := ii (List.getD lh3_3 (Int.toNat x3_3) 0)) (ws := [ii (List.getD lh3_3 (Int.toNat x3_3) 0)]) (a := List.getD lh3_3 (Int.toNat x3_3) 0) (by kernel_rfl) (by kernel_rfl) (by kernel_rfl) (Int.toNat x2_3) 0 0 (by first | rfl | omega) (row_len (inRow_toNat b3) (by simp)) (by kernel_rfl) rfl rfl rfl rfl rfl (by kernel_rfl)) (σ' := [(0, s0 3 lh3_3.length), (2, ii x2_3), (3, ii x3_3), (16, s0 3 lh3_3.length), (17, ii x3_3), (25, ii (List.getD lh3_3 (Int.toNat x2_3) 0))]) (by kernel_rfl) ?_
     refine XR.rd E0_ok [0, 2, 3, 25, 27] rfl (v := pp 3 ((Int.toNat x3_3) * 1)) (v_idx (s := 1) (x := (src 28 (.tmp 16))) (y := (src 28 (.tmp 17))) (b := 3) (o := 0) (len := lh3_3.length) (cap := lh3_3.length) (ik := .i64) (i := x3_3) (off := (Int.toNat x3_3) * 1) (d := (some (path 12 27))) (by kernel_rfl) (by kernel_rfl) (by kernel_rfl) b2 (by omega)) (σ' := [(0, s0 3 lh3_3.length), (2, ii x2_3), (3, ii x3_3), (25, ii (List.getD lh3_3 (Int.toNat x2_3) 0)), (27, pp 3 ((Int.toNat x3_3) * 1))]) (by kernel_rfl) ?_
     refine XR.ef E0_ok [0, 2, 3] rfl (e_store (encI_ok .i64) (size := 1) (x := (src 28 (.tmp 27))) (y := (src 28 (.tmp 25))) (b := 3) (off := (Int.toNat x3_3) * 1) (xs := List.set lh3_3 (Int.toNat x2_3) (List.getD lh3_3 (Int.toNat x3_3) 0)) (e := 3) (es := 1) (d := none) (h' := [(3, rI (List.set (List.set lh3_3 (Int.toNat x2_3) (List.getD lh3_3 (Int.toNat x3_3) 0)) (Int.toNat x3_3) (List.getD lh3_3 (Int.toNat x2_3) 0))), (2, .cells [sl 1 (1 * 1) n3_x22 c3_x22] 0 22 0), (1, rI lh1_x22), (0, rc (encI .i64) a z0 y0 1)]) (w := ii (List.getD lh3_3 (Int.toNat x2_3) 0)) (ws := [ii (List.getD lh3_3 (Int.toNat x2_3) 0)]) (a := List.getD lh3_3 (Int.toNat x2_3) 0) (by kernel_rfl) (by kernel_rfl) (by kernel_rfl) (Int.toNat x3_3) 0 0 (by first | rfl | omega) (row_len (inRow_toNat b2) (by simp)) (by kernel_rfl) rfl rfl rfl rfl rfl (by kernel_rfl)) (σ' := [(0, s0 3 lh3_3.length), (2, ii x2_3), (3, ii x3_3)]) (by kernel_rfl) ?_
     refine dQ ?_
     show XQ _ _ _ _ _ _ _ _
     refine rQ ?_
     refine rS 6 [(0, s0 3 lh3_3.length), (2, ii (w64 (x2_3 + 1))), (3, ii (w64 (x3_3 - 1)))] ?_
     refine dQ ?_
     show XL _ _ _ _ _ _ _ _ _
     refine XL.ren (σ' := [(0, s0 3 lh3_3.length), (2, ii (w64 (x2_3 + 1))), (3, ii (w64 (x3_3 - 1)))]) (h' := [(3, rI (List.set (List.set lh3_3 (Int.toNat x2_3) (List.getD lh3_3 (Int.toNat x3_3) 0)) (Int.toNat x3_3) (List.getD lh3_3 (Int.toNat x2_3) 0))), (2, .cells [sl 1 (1 * 1) n3_x22 c3_x22] 0 22 0), (1, rI lh1_x22), (0, rc (encI .i64) a z0 y0 1)]) (c' := 4) [0, 1, 2, 3] (by decide) rfl ⟨rfl, rfl, rfl, trivial⟩ ⟨⟨_, _, rfl, rfl, .inl ⟨rfl, rwI⟩⟩, ⟨_, _, rfl, rfl, .inr ⟨_, _, _, _, rfl, rfl⟩⟩, ⟨_, _, rfl, rfl, .inl ⟨rfl, rwI⟩⟩, ⟨_, _, rfl, rfl, .inl ⟨rfl, rwI⟩⟩, trivial⟩ rfl ?_
     refine XL.conv (f59_3_ok m fuel z0 y0 a n3_x22 c3_x22 lh1_x22 (w64 (x2_3 + 1)) (w64 (x3_3 - 1)) (List.set (List.set lh3_3 (Int.toNat x2_3) (List.getD lh3_3 (Int.toNat x3_3) 0)) (Int.toNat x3_3) (List.getD lh3_3 (Int.toNat x2_3) 0)) o h Q hQ) (by first | rfl | simp)
  | false =>
   have h := cF b1 h
   refine iF (.tmp 9) ?_
   refine XQ.ren (σ' := []) (h' := [(3, rI lh3_3), (2, .cells [sl 1 (1 * 1) n3_x22 c3_x22] 0 22 0), (1, rI lh1_x22), (0, rc (encI .i64) a z0 y0 1)]) (c' := 4) [0, 1, 2, 3] (by decide) rfl trivial ⟨⟨_, _, rfl, rfl, .inl ⟨rfl, rwI⟩⟩, ⟨_, _, rfl, rfl, .inr ⟨_, _, _, _, rfl, rfl⟩⟩, ⟨_, _, rfl, rfl, .inl ⟨rfl, rwI⟩⟩, ⟨_, _, rfl, rfl, .inl ⟨rfl, rwI⟩⟩, trivial⟩ rfl ?_
   refine XQ.exit (i := 0) (by kernel_rfl) ?_
   cases h
   exact hQ
inductive Of59_1 where
 | r
 | x0
def f59_1 (m : Nat) : Nat → List Int → List Int → Option Of59_1
 | 0, _, _ => none
 | fuel + 1, a, lh1_1 =>
  cond (decide (((lh1_1.length : Nat) : Int) > 0)) (
   cond (inRow 0 lh1_1.length) (
    cond (cutOK 1 ((lh1_1.length : Nat) : Int) ((lh1_1.length : Nat) : Int) lh1_1.length) (
     cond (decide ((List.getD lh1_1 0 0) > ((lh1_1.length - 1 : Nat) : Int))) (
      some (.r)
     ) (
      cond (cutOK 0 (List.getD lh1_1 0 0) ((lh1_1.length - 1 : Nat) : Int) (lh1_1.length - 1)) (
       (f59_2 m m a (lh1_1.length - 1) (lh1_1.length - 1) ((Int.toNat (List.getD lh1_1 0 0) : Nat) : Int) 0 lh1_1).bind fun o2 =>
        match o2 with
        | .r =>
         some (.r)
        | .x2 n3_x22 c3_x22 lh1_x22 =>
         cond (decide (n3_x22 ≤ c3_x22)) (
          cond (decide (1 + n3_x22 ≤ lh1_x22.length)) (
           cond (Nat.ble (List.take n3_x22 (List.drop 1 lh1_x22)).length 1000000) (
            (f59_3 m m a n3_x22 c3_x22 lh1_x22 0 (w64 ((((sortI (List.take n3_x22 (List.drop 1 lh1_x22))).length : Nat) : Int) - 1)) (sortI (List.take n3_x22 (List.drop 1 lh1_x22)))).bind fun o3 =>
             cond (decide ((sortI (List.take n3_x22 (List.drop 1 lh1_x22))).length = o3.length)) (
              f59_1 m fuel a o3
             ) none
           ) none
          ) none
         ) none
      ) none
     )
    ) none
   ) none
  ) (
   some (.x0)
  )
theorem f59_1_ok (m : Nat) : ∀ (fuel : Nat) (z0 : Nat) (y0 : Nat) (a : List Int) (lh1_1 : List Int) (o : Of59_1), f59_1 m fuel a lh1_1 = some o → ∀ Q : QP, (match o with | .r => Q .ret [(2, .bool false)] [(0, rc (encI .i64) a z0 y0 1)] 1 | .x0 => Q (.exit 0) [] [(0, rc (encI .i64) a z0 y0 1)] 1) → XL E0 41 1 fuel f59_L1 [(3, s0 1 lh1_1.length)] [(1, rI lh1_1), (0, rc (encI .i64) a z0 y0 1)] 2 Q
 | 0, z0, y0, a, lh1_1, o, h, Q, hQ => by cases h
 | fuel + 1, z0, y0, a, lh1_1, o, h, Q, hQ => by
  unfold f59_1 at h
  refine XL.succ E0_ok ?_
  refine sQ ?_
  refine qQ ?_
  refine rS 3 [(3, s0 1 lh1_1.length), (10, .bool (decide (((lh1_1.length : Nat) : Int) > 0)))] ?_
  refine dQ ?_
  show XQ _ _ _ _ _ _ _ _
  cases b1 : (decide (((lh1_1.length : Nat) : Int) > 0) : Bool) with
  | true =>
   have h := cT b1 h
   refine iT (.tmp 10) ?_
   refine kQ ?_
   show XQ _ _ _ _ _ _ _ _
   refine XQ.block (id := 1) (by kernel_rfl) ?_
   refine qQ ?_
   refine rS 1 [(3, s0 1 lh1_1.length), (11, s0 1 lh1_1.length)] ?_
   cases b2 : (inRow 0 lh1_1.length : Bool) with
   | false => cases (cF b2 h)
   | true =>
    have h := cT b2 h
    refine XR.rd E0_ok [3, 12] rfl (v := pp 1 (0 * 1)) (v_idx (s := 1) (x := (src 41 (.tmp 11))) (y := (src 41 (.const (ii 0)))) (b := 1) (o := 0) (len := lh1_1.length) (cap := lh1_1.length) (ik := .i64) (i := 0) (off := 0 * 1) (d := (some (path 12 12))) (by kernel_rfl) (by kernel_rfl) (by kernel_rfl) b2 (by omega)) (σ' := [(3, s0 1 lh1_1.length), (12, pp 1 (0 * 1))]) (by kernel_rfl) ?_
    refine XR.rd E0_ok [3, 13] rfl (v := ii (List.getD lh1_1 0 0)) (v_load1 (encI_ok .i64) (x := (src 41 (.tmp 12))) (b := 1) (off := 0 * 1) (xs := lh1_1) (fz := 0) (e := 3) (es := 1) (d := (some (path 12 13))) (by kernel_rfl) (by kernel_rfl) (by kernel_rfl) 0 0 0 (by first | rfl | omega) (row_len (inRow_toNat b2) (by simp)) rfl rfl) (σ' := [(3, s0 1 lh1_1.length), (13, ii (List.getD lh1_1 0 0))]) (by kernel_rfl) ?_
    refine rS 1 [(3, s0 1 lh1_1.length), (4, ii (List.getD lh1_1 0 0))] ?_
    refine nQ id ?_
    refine rS 1 [(4, ii (List.getD lh1_1 0 0)), (14, s0 1 lh1_1.length)] ?_
    cases b3 : (cutOK 1 ((lh1_1.length : Nat) : Int) ((lh1_1.length : Nat) : Int) lh1_1.length : Bool) with
    | false => cases (cF b3 h)
    | true =>
     have h := cT b3 h
     refine XR.rd E0_ok [4, 15] rfl (v := sl 1 (1 * 1) (lh1_1.length - 1) (lh1_1.length - 1)) (v_cut (nt := 41) (s := 1) (x := (src 41 (.tmp 14))) (lo := (some (.const (ii 1)))) (hi := none) (mx := none) (b := 1) (o := 0) (len := lh1_1.length) (cap := lh1_1.length) (l := (some 1)) (u := none) (m := none) (cs := rowC (encI .i64) lh1_1) (fz := 0) (e := 3) (es := 1) (o' := 1 * 1) (len' := lh1_1.length - 1) (cap' := lh1_1.length - 1) (d := (some (path 12 15))) (by kernel_rfl) (by kernel_rfl) (by kernel_rfl) (by kernel_rfl) (by kernel_rfl) (by kernel_rfl) (by kernel_rfl) rfl b3 (by simp only [Option.getD_none, Option.getD_some] <;> omega) (by simp only [Option.getD_none, Option.getD_some] <;> omega) (by simp only [Option.getD_none, Option.getD_some] <;> omega)) (σ' := [(4, ii (List.getD lh1_1 0 0)), (15, sl 1 (1 * 1) (lh1_1.length - 1) (lh1_1.length - 1))]) (by kernel_rfl) ?_
     refine rS 1 [(3, sl 1 (1 * 1) (lh1_1.length - 1) (lh1_1.length - 1)), (4, ii (List.getD lh1_1 0 0))] ?_
     refine dQ ?_
     show XQ _ _ _ _ _ _ _ _
     refine sQ ?_
     refine qQ ?_
     refine rS 4 [(3, sl 1 (1 * 1) (lh1_1.length - 1) (lh1_1.length - 1)), (4, ii (List.getD lh1_1 0 0)), (19, .bool (decide ((List.getD lh1_1 0 0) > ((lh1_1.length - 1 : Nat) : Int))))] ?_
     refine dQ ?_
     show XQ _ _ _ _ _ _ _ _
     cases b4 : (decide ((List.getD lh1_1 0 0) > ((lh1_1.length - 1 : Nat) : Int)) : Bool) with
     | true =>
      have h := cT b4 h
      refine iT (.tmp 19) ?_
      refine qQ ?_
      refine rS 1 [(2, .bool false)] ?_
      refine dQ ?_
      show XQ _ _ _ _ _ _ _ _
      refine XQ.ren (σ' := [(2, .bool false)]) (h' := [(0, rc (encI .i64) a z0 y0 1)]) (c' := 1) [0] (by decide) rfl ⟨rfl, trivial⟩ ⟨⟨_, _, rfl, rfl, .inl ⟨rfl, rwI⟩⟩, trivial⟩ rfl ?_
      refine XQ.ret (by kernel_rfl) ?_
      cases h
      exact hQ
     | false =>
      have h := cF b4 h
      refine iF (.tmp 19) ?_
      refine kQ ?_
      show XQ _ _ _ _ _ _ _ _
      refine sQ ?_
      refine qQ ?_
      refine rS 2 [(3, sl 1 (1 * 1) (lh1_1.length - 1) (lh1_1.length - 1)), (20, sl 1 (1 * 1) (lh1_1.length - 1) (lh1_1.length - 1)), (21, ii (List.getD lh1_1 0 0))] ?_
      cases b5 : (cutOK 0 (List.getD lh1_1 0 0) ((lh1_1.length - 1 : Nat) : Int) (lh1_1.length - 1) : Bool) with
      | false => cases (cF b5 h)
      | true =>
       have h := cT b5 h
       refine XR.rd E0_ok [3, 22] rfl (v := sl 1 (1 * 1) (Int.toNat (List.getD lh1_1 0 0)) (lh1_1.length - 1)) (v_cut (nt := 41) (s := 1) (x := (src 41 (.tmp 20))) (lo := none) (hi := (some (.tmp 21))) (mx := none) (b := 1) (o := 1 * 1) (len := lh1_1.length - 1) (cap := lh1_1.length - 1) (l := none) (u := (some (List.getD lh1_1 0 0))) (m := none) (cs := rowC (encI .i64) lh1_1) (fz := 0) (e := 3) (es := 1) (o' := 1 * 1) (len' := Int.toNat (List.getD lh1_1 0 0)) (cap' := lh1_1.length - 1) (d := (some (path 12 22))) (by kernel_rfl) (by kernel_rfl) (by kernel_rfl) (by kernel_rfl) (by kernel_rfl) (by kernel_rfl) (by kernel_rfl) rfl b5 (by simp only [Option.getD_none, Option.getD_some] <;> omega) (by simp only [Option.getD_none, Option.getD_some] <;> omega) (by simp only [Option.getD_none, Option.getD_some] <;> omega)) (σ' := [(3, sl 1 (1 * 1) (lh1_1.length - 1) (lh1_1.length - 1)), (22, sl 1 (1 * 1) (Int.toNat (List.getD lh1_1 0 0)) (lh1_1.length - 1))]) (by kernel_rfl) ?_
       refine rS 2 [(3, sl 1 (1 * 1) (lh1_1.length - 1) (lh1_1.length - 1)), (23, ii ((Int.toNat (List.getD lh1_1 0 0) : Nat) : Int)), (24, ii 0)] ?_
       refine dQ ?_
       show XQ _ _ _ _ _ _ _ _
       refine XQ.block (id := 2) (by kernel_rfl) ?_
       refine XQ.loop m (by kernel_rfl) ?_
       obtain ⟨o2, o2_h, h⟩ := bS h
       refine XL.ren (σ' := [(3, sl 1 (1 * 1) (lh1_1.length - 1) (lh1_1.length - 1)), (23, ii ((Int.toNat (List.getD lh1_1 0 0) : Nat) : Int)), (24, ii 0)]) (h' := [(1, rI lh1_1), (0, rc (encI .i64) a z0 y0 1)]) (c' := 2) [0, 1] (by decide) rfl ⟨rfl, rfl, rfl, trivial⟩ ⟨⟨_, _, rfl, rfl, .inl ⟨rfl, rwI⟩⟩, ⟨_, _, rfl, rfl, .inl ⟨rfl, rwI⟩⟩, trivial⟩ rfl ?_
       cases o2 with
       | r =>
        dsimp only at h
        refine XL.conv (f59_2_ok m m z0 y0 a (lh1_1.length - 1) (lh1_1.length - 1) ((Int.toNat (List.getD lh1_1 0 0) : Nat) : Int) 0 lh1_1 (.r) o2_h _ ?_) (by first | rfl | simp)
        cases h
        exact hQ
       | x2 n3_x22 c3_x22 lh1_x22 =>
        dsimp only at h
        refine XL.conv (f59_2_ok m m z0 y0 a (lh1_1.length - 1) (lh1_1.length - 1) ((Int.toNat (List.getD lh1_1 0 0) : Nat) : Int) 0 lh1_1 (.x2 n3_x22 c3_x22 lh1_x22) o2_h _ ?_) (by first | rfl | simp)
        show XQ _ _ _ _ _ _ _ _
        refine rQ ?_
        refine rS 1 [(39, sl 1 (1 * 1) n3_x22 c3_x22)] ?_
        refine XR.callK E0_ok [40] rfl (K := 61) (args := [sl 1 (1 * 1) n3_x22 c3_x22]) (d := (some (path 12 40))) (by kernel_rfl) ?_
        refine KC.bodyN E0_ok (F := Proofs.Tryd.f61) (by kernel_rfl) (code := f59_C61) (by kernel_rfl) (nt := 10) (by kernel_rfl) (rs := [.tmp 2]) (by kernel_rfl) (by kernel_rfl) (σ := [(0, sl 1 (1 * 1) n3_x22 c3_x22)]) (by kernel_rfl) ?_
        refine qQ ?_
        refine rS 1 [(0, sl 1 (1 * 1) n3_x22 c3_x22)] ?_
        refine nQ id ?_
        refine rS 1 [(4, sl 1 (1 * 1) n3_x22 c3_x22)] ?_
        refine XR.callK E0_ok [5] rfl (K := 82) (args := [sl 1 (1 * 1) n3_x22 c3_x22]) (d := (some (path 12 5))) (by kernel_rfl) ?_
        refine KC.bodyN E0_ok (F := Proofs.Tryd.f82) (by kernel_rfl) (code := f59_C82) (by kernel_rfl) (nt := 4) (by kernel_rfl) (rs := [.tmp 2]) (by kernel_rfl) (by kernel_rfl) (σ := [(0, sl 1 (1 * 1) n3_x22 c3_x22)]) (by kernel_rfl) ?_
        refine qQ ?_
        refine rT 2 [(1, pp 2 0)] [(2, .cells [sl 1 (1 * 1) n3_x22 c3_x22] 0 22 0), (1, rI lh1_x22), (0, rc (encI .i64) a z0 y0 1)] 3 ?_
        refine nQ id ?_
        refine rS 2 [(2, .func (.func 105) #[] #[pp 2 0])] ?_
        refine dQ ?_
        show XQ _ _ _ _ _ _ _ _
        refine XQ.ret (by kernel_rfl) ?_
        refine ⟨fun i q => (by cases q), .func (.func 105) #[] #[pp 2 0], (by kernel_rfl), ?_⟩
        refine XR.conv (σ' := [(5, .func (.func 105) #[] #[pp 2 0])]) (h' := [(2, .cells [sl 1 (1 * 1) n3_x22 c3_x22] 0 22 0), (1, rI lh1_x22), (0, rc (encI .i64) a z0 y0 1)]) (c' := 3) ?_ (by kernel_rfl)
        cases b7 : (decide (n3_x22 ≤ c3_x22) : Bool) with
        | false => cases (cF b7 h)
        | true =>
         have h := cT b7 h
         cases b8 : (decide (1 + n3_x22 ≤ lh1_x22.length) : Bool) with
         | false => cases (cF b8 h)
         | true =>
          have h := cT b8 h
          cases b9 : (Nat.ble (List.take n3_x22 (List.drop 1 lh1_x22)).length 1000000 : Bool) with
          | false => cases (cF b9 h)
          | true =>
           have h := cT b9 h
           refine XR.call E0_ok [6] rfl (K := 81) (args := [.func (.func 105) #[] #[pp 2 0]]) (d := (some (path 12 6))) (by kernel_rfl) (sorted_row (c := 3) (b := 2) (V := sl 1 (1 * 1) n3_x22 c3_x22) (ys := List.take n3_x22 (List.drop 1 lh1_x22)) (n := n3_x22) (fz1 := 0) (e1 := 22) (es1 := 0) (by kernel_rfl) rfl (fetch_row (encI_ok .i64) (ys := lh1_x22) (fz := 0) (e := 3) (es := 1) (by kernel_rfl) 1 n3_x22 n3_x22 c3_x22 rfl (Nat.ble_eq_true_of_le (of_decide_eq_true b7)) (of_decide_eq_true b8) rfl) b9) ?_
           rintro _ _ _ ⟨rfl, rfl, rfl⟩
           refine XR.conv (σ' := [(6, s0 3 ((sortI (List.take n3_x22 (List.drop 1 lh1_x22))).length))]) (h' := [(3, rI (sortI (List.take n3_x22 (List.drop 1 lh1_x22)))), (2, .cells [sl 1 (1 * 1) n3_x22 c3_x22] 0 22 0), (1, rI lh1_x22), (0, rc (encI .i64) a z0 y0 1)]) (c' := 4) ?_ (by kernel_rfl)
           refine rS 1 [(3, s0 3 ((sortI (List.take n3_x22 (List.drop 1 lh1_x22))).length))] ?_
           refine nQ id ?_
           refine rS 1 [(3, s0 3 ((sortI (List.take n3_x22 (List.drop 1 lh1_x22))).length)), (7, s0 3 ((sortI (List.take n3_x22 (List.drop 1 lh1_x22))).length))] ?_
           refine XR.callK E0_ok [3] rfl (K := 83) (args := [s0 3 ((sortI (List.take n3_x22 (List.drop 1 lh1_x22))).length)]) (d := (some (path 12 8))) (by kernel_rfl) ?_
           refine KC.bodyN E0_ok (F := Proofs.Tryd.f83) (by kernel_rfl) (code := f59_C83) (by kernel_rfl) (nt := 28) (by kernel_rfl) (rs := []) (by kernel_rfl) (by kernel_rfl) (σ := [(0, s0 3 ((sortI (List.take n3_x22 (List.drop 1 lh1_x22))).length))]) (by kernel_rfl) ?_
           refine qQ ?_
           refine rS 5 [(0, s0 3 ((sortI (List.take n3_x22 (List.drop 1 lh1_x22))).length)), (2, ii 0), (3, ii (w64 ((((sortI (List.take n3_x22 (List.drop 1 lh1_x22))).length : Nat) : Int) - 1)))] ?_
           refine dQ ?_
           show XQ _ _ _ _ _ _ _ _
           refine XQ.block (id := 0) (by kernel_rfl) ?_
           refine XQ.loop m (by kernel_rfl) ?_
           obtain ⟨o3, o3_h, h⟩ := bS h
           refine XL.ren (σ' := [(0, s0 3 ((sortI (List.take n3_x22 (List.drop 1 lh1_x22))).length)), (2, ii 0), (3, ii (w64 ((((sortI (List.take n3_x22 (List.drop 1 lh1_x22))).length : Nat) : Int) - 1)))]) (h' := [(3, rI (sortI (List.take n3_x22 (List.drop 1 lh1_x22)))), (2, .cells [sl 1 (1 * 1) n3_x22 c3_x22] 0 22 0), (1, rI lh1_x22), (0, rc (encI .i64) a z0 y0 1)]) (c' := 4) [0, 1, 2, 3] (by decide) rfl ⟨rfl, rfl, rfl, trivial⟩ ⟨⟨_, _, rfl, rfl, .inl ⟨rfl, rwI⟩⟩, ⟨_, _, rfl, rfl, .inr ⟨_, _, _, _, rfl, rfl⟩⟩, ⟨_, _, rfl, rfl, .inl ⟨rfl, rwI⟩⟩, ⟨_, _, rfl, rfl, .inl ⟨rfl, rwI⟩⟩, trivial⟩ rfl ?_
           refine XL.conv (f59_3_ok m m z0 y0 a n3_x22 c3_x22 lh1_x22 0 (w64 ((((sortI (List.take n3_x22 (List.drop 1 lh1_x22))).length : Nat) : Int) - 1)) (sortI (List.take n3_x22 (List.drop 1 lh1_x22))) o3 o3_h _ ?_) (by first | rfl | simp)
           refine ⟨fun i q => (by cases q), .tuple #[], (by kernel_rfl), ?_⟩
           refine XR.conv (σ' := [(3, s0 3 ((sortI (List.take n3_x22 (List.drop 1 lh1_x22))).length))]) (h' := [(3, rI o3), (2, .cells [sl 1 (1 * 1) n3_x22 c3_x22] 0 22 0), (1, rI lh1_x22), (0, rc (encI .i64) a z0 y0 1)]) (c' := 4) ?_ (by kernel_rfl)
           cases b11 : (decide ((sortI (List.take n3_x22 (List.drop 1 lh1_x22))).length = o3.length) : Bool) with
           | false => cases (cF b11 h)
           | true =>
            have h := cT b11 h
            refine XR.conv (σ' := [(3, s0 3 o3.length)]) (h' := [(3, rI o3), (2, .cells [sl 1 (1 * 1) n3_x22 c3_x22] 0 22 0), (1, rI lh1_x22), (0, rc (encI .i64) a z0 y0 1)]) (c' := 4) ?_ (by rw [of_decide_eq_true b11])
            refine nQ id ?_
            refine rS 2 [(2, s0 3 o3.length)] ?_
            refine dQ ?_
            show XQ _ _ _ _ _ _ _ _
            refine XQ.ret (by kernel_rfl) ?_
            refine ⟨fun i q => (by cases q), s0 3 o3.length, (by kernel_rfl), ?_⟩
            refine XR.conv (σ' := [(40, s0 3 o3.length)]) (h' := [(3, rI o3), (2, .cells [sl 1 (1 * 1) n3_x22 c3_x22] 0 22 0), (1, rI lh1_x22), (0, rc (encI .i64) a z0 y0 1)]) (c' := 4) ?_ (by kernel_rfl)
            refine rS 1 [(3, s0 3 o3.length)] ?_
            refine dQ ?_
            show XL _ _ _ _ _ _ _ _ _
            refine XL.ren (σ' := [(3, s0 1 o3.length)]) (h' := [(1, rI o3), (0, rc (encI .i64) a z0 y0 1)]) (c' := 2) [0, 3] (by decide) rfl ⟨rfl, trivial⟩ ⟨⟨_, _, rfl, rfl, .inl ⟨rfl, rwI⟩⟩, ⟨_, _, rfl, rfl, .inl ⟨rfl, rwI⟩⟩, trivial⟩ rfl ?_
            refine XL.conv (f59_1_ok m fuel z0 y0 a o3 o h Q hQ) (by first | rfl | simp)
  | false =>
   have h := cF b1 h
   refine iF (.tmp 10) ?_
   refine XQ.ren (σ' := []) (h' := [(0, rc (encI .i64) a z0 y0 1)]) (c' := 1) [0] (by decide) rfl trivial ⟨⟨_, _, rfl, rfl, .inl ⟨rfl, rwI⟩⟩, trivial⟩ rfl ?_
   refine XQ.exit (i := 0) (by kernel_rfl) ?_
   cases h
   exact hQ
def f59 (m : Nat) (a : List Int) : Option (Bool) :=
 (f61 m a).bind fun r1 =>
  (f59_1 m m a r1).bind fun o1 =>
   match o1 with
   | .r =>
    some (false)
   | .x0 =>
    some (true)
theorem f59_ok (m : Nat) (z0 : Nat) (y0 : Nat) (a : List Int) (o : Bool) (h : f59 m a = some o) : KC E0 59 [s0 0 a.length] [(0, rc (encI .i64) a z0 y0 1)] 1 (fun v _ _ => v = .bool o) := by
 refine KC.bodyN E0_ok (F := Proofs.Tryd.f59) (by kernel_rfl) (code := f59_C59) (by kernel_rfl) (nt := 41) (by kernel_rfl) (rs := [.tmp 2]) (by kernel_rfl) (by kernel_rfl) (σ := [(0, s0 0 a.length)]) (by kernel_rfl) ?_
 unfold f59 at h
 refine qQ ?_
 refine rS 1 [(0, s0 0 a.length)] ?_
 refine nQ id ?_
 refine rS 1 [(6, s0 0 a.length)] ?_
 obtain ⟨r1, r1_h, h⟩ := bS h
 refine XR.call E0_ok [7] rfl (K := 61) (args := [s0 0 a.length]) (d := (some (path 12 7))) (by kernel_rfl) (KC.liftH (n0 := 1) (m := 1) (args0 := [s0 0 a.length]) (h0 := [(0, rc (encI .i64) a (z0 + ((rowC (encI .i64) a).length + 1)) y0 1)]) (V := s0 1 r1.length) (V2 := s0 1 r1.length) (H := [(1, rI r1)]) (H2 := [(1, rI r1)]) [0] [2, 1] (f61_ok m (z0 + ((rowC (encI .i64) a).length + 1)) y0 a r1 r1_h) (by rfl) (by decide) rfl (by kernel_rfl) ⟨⟨_, _, rfl, rfl, .inl ⟨rfl, rwI⟩⟩, trivial⟩ (by decide) (by decide) (by kernel_rfl) ⟨⟨_, _, rfl, rfl, .inl ⟨rfl, rwI⟩⟩, trivial⟩ (by rfl)) ?_
 rintro _ _ _ ⟨rfl, rfl, rfl⟩
 refine XR.conv (σ' := [(7, s0 1 r1.length)]) (h' := [(1, rI r1), (0, rc (encI .i64) a z0 y0 1)]) (c' := 2) ?_ (by kernel_rfl)
 refine rS 1 [(3, s0 1 r1.length)] ?_
 refine dQ ?_
 show XQ _ _ _ _ _ _ _ _
 refine sQ ?_
 refine XQ.block (id := 0) (by kernel_rfl) ?_
 refine XQ.loop m (by kernel_rfl) ?_
 obtain ⟨o1, o1_h, h⟩ := bS h
 refine XL.ren (σ' := [(3, s0 1 r1.length)]) (h' := [(1, rI r1), (0, rc (encI .i64) a z0 y0 1)]) (c' := 2) [0, 1] (by decide) rfl ⟨rfl, trivial⟩ ⟨⟨_, _, rfl, rfl, .inl ⟨rfl, rwI⟩⟩, ⟨_, _, rfl, rfl, .inl ⟨rfl, rwI⟩⟩, trivial⟩ rfl ?_
 cases o1 with
 | r =>
  dsimp only at h
  refine XL.conv (f59_1_ok m m z0 y0 a r1 (.r) o1_h _ ?_) (by first | rfl | simp)
  have h := Option.some.inj h
  subst h
  exact ⟨fun i q => (by cases q), .bool false, (by kernel_rfl), rfl⟩
 | x0 =>
  dsimp only at h
  refine XL.conv (f59_1_ok m m z0 y0 a r1 (.x0) o1_h _ ?_) (by first | rfl | simp)
  show XQ _ _ _ _ _ _ _ _
  refine qQ ?_
  refine rS 1 [(2, .bool true)] ?_
  refine dQ ?_
  show XQ _ _ _ _ _ _ _ _
  refine XQ.ret (by kernel_rfl) ?_
  have h := Option.some.inj h
  subst h
  exact ⟨fun i q => (by cases q), .bool true, (by kernel_rfl), rfl⟩
end Go.Xm
namespace Go.Xm
open Go.RowKit
set_option linter.unusedVariables false
set_option linter.unusedSimpArgs false
set_option maxRecDepth 20000
end Go.Xm
