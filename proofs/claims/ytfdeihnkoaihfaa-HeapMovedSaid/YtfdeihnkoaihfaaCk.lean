/- What these functions of the program compute, as functions in Lean, and the proofs that they do: vitolalaw02.HeapMoved. Conditions: none. -/
import Derived.Test.YtfdeihnkoaihfaaZx
import Derived.Test.YtfdeihnkoaihfaaBf
import Derived.Test.YtfdeihnkoaihfaaBp
import Derived.Test.YtfdeihnkoaihfaaBt
import Derived.Test.YtfdeihnkoaihfaaBu
import Derived.Test.YtfdeihnkoaihfaaCf
import Derived.Test.YtfdeihnkoaihfaaCg
import Derived.Test.YtfdeihnkoaihfaaBb
import Derived.Test.YtfdeihnkoaihfaaMr
namespace Go.Xm
open Go.RowKit
set_option linter.unusedVariables false
set_option linter.unusedSimpArgs false
set_option maxRecDepth 20000
noncomputable def f10_C10 : Code := Proofs.Try.f10.body.getD .skip
noncomputable def f10_C46 : Code := Proofs.Try.f46.body.getD .skip
noncomputable def f10_L1 : Code := lft (lft (rgt (lft (rgt (rgt (rgt (rgt (rgt (rgt (rgt (rgt (rgt f10_C10))))))))))))
noncomputable def f10_L2 : Code := lft (lft (rgt (lft (rgt (rgt (rgt (rgt (rgt (rgt (rgt (rgt (rgt (rgt (rgt (rgt (rgt (rgt (rgt (rgt (rgt f10_C10))))))))))))))))))))
noncomputable def f10_L3 : Code := lft (lft (rgt (lft (rgt (rgt (rgt (rgt (rgt (rgt (rgt (rgt (rgt (rgt (rgt (rgt (rgt (rgt (rgt (rgt (rgt (rgt (rgt f10_C10))))))))))))))))))))))
noncomputable def f10_L4 : Code := lft (lft (rgt f10_C46))
inductive Of10_1 where
 | r
 | x0 (x11_x01 : Int) (x12_x01 : Int) (x19_x01 : Int) (x20_x01 : Int) (x21_x01 : Int) (x22_x01 : Int) (x23_x01 : Int) (lh0_x01 : List (Int × Int)) (lh1_x01 : List (Int × Int))
def f10_1 (m : Nat) : Nat → Int → Int → Int → Int → Int → Int → Int → Int → Int → Int → List (Int × Int) → List (Int × Int) → List Int → List Int → Option Of10_1
 | 0, _, _, _, _, _, _, _, _, _, _, _, _, _, _ => none
 | fuel + 1, e, x11_1, x12_1, x19_1, x20_1, x21_1, x22_1, x23_1, x96_1, x97_1, lh0_1, lh1_1, lh2_1, lh3_1 =>
  cond (decide (x97_1 < x96_1)) (
   cond (inRow x97_1 lh3_1.length) (
    cond (inRow x97_1 lh2_1.length) (
     cond ((List.getD lh3_1 (Int.toNat x97_1) 0) != (w64 ((List.getD lh2_1 (Int.toNat x97_1) 0) + x12_1))) (
      some (.r)
     ) (
      f10_1 m fuel e x11_1 x12_1 x19_1 x20_1 x21_1 x22_1 x23_1 x96_1 (w64 (x97_1 + 1)) lh0_1 lh1_1 lh2_1 lh3_1
     )
    ) none
   ) none
  ) (
   some (.x0 x11_1 x12_1 x19_1 x20_1 x21_1 x22_1 x23_1 lh0_1 lh1_1)
  )
theorem f10_1_ok (m : Nat) : ∀ (fuel : Nat) (e : Int) (x11_1 : Int) (x12_1 : Int) (x19_1 : Int) (x20_1 : Int) (x21_1 : Int) (x22_1 : Int) (x23_1 : Int) (x96_1 : Int) (x97_1 : Int) (lh0_1 : List (Int × Int)) (lh1_1 : List (Int × Int)) (lh2_1 : List Int) (lh3_1 : List Int) (o : Of10_1), f10_1 m fuel e x11_1 x12_1 x19_1 x20_1 x21_1 x22_1 x23_1 x96_1 x97_1 lh0_1 lh1_1 lh2_1 lh3_1 = some o → ∀ Q : QP, (match o with | .r => Q .ret [(10, .bool false)] [] 0 | .x0 x11_x01 x12_x01 x19_x01 x20_x01 x21_x01 x22_x01 x23_x01 lh0_x01 lh1_x01 => Q (.exit 0) [(4, .int .u8 e), (11, ii x11_x01), (12, ii x12_x01), (13, s0 0 lh0_x01.length), (14, s0 1 lh1_x01.length), (19, ii x19_x01), (20, ii x20_x01), (21, ii x21_x01), (22, ii x22_x01), (23, ii x23_x01)] [(1, rc encP lh1_x01 0 61 2), (0, rc encP lh0_x01 0 61 2)] 2) → XL E0 318 0 fuel f10_L1 [(4, .int .u8 e), (11, ii x11_1), (12, ii x12_1), (13, s0 0 lh0_1.length), (14, s0 1 lh1_1.length), (15, s0 2 lh2_1.length), (17, s0 3 lh3_1.length), (19, ii x19_1), (20, ii x20_1), (21, ii x21_1), (22, ii x22_1), (23, ii x23_1), (96, ii x96_1), (97, ii x97_1)] [(3, rc (encI .i64) lh3_1 0 3 1), (2, rc (encI .i64) lh2_1 0 3 1), (1, rc encP lh1_1 0 61 2), (0, rc encP lh0_1 0 61 2)] 4 Q
 | 0, e, x11_1, x12_1, x19_1, x20_1, x21_1, x22_1, x23_1, x96_1, x97_1, lh0_1, lh1_1, lh2_1, lh3_1, o, h, Q, hQ => by cases h
 | fuel + 1, e, x11_1, x12_1, x19_1, x20_1, x21_1, x22_1, x23_1, x96_1, x97_1, lh0_1, lh1_1, lh2_1, lh3_1, o, h, Q, hQ => by
  unfold f10_1 at h
  refine XL.succ E0_ok ?_
  refine qQ ?_
  refine rS 1 [(4, .int .u8 e), (11, ii x11_1), (12, ii x12_1), (13, s0 0 lh0_1.length), (14, s0 1 lh1_1.length), (15, s0 2 lh2_1.length), (17, s0 3 lh3_1.length), (19, ii x19_1), (20, ii x20_1), (21, ii x21_1), (22, ii x22_1), (23, ii x23_1), (96, ii x96_1), (97, ii x97_1), (98, .bool (decide (x97_1 < x96_1)))] ?_
  refine dQ ?_
  show XQ _ _ _ _ _ _ _ _
  refine sQ ?_
  cases b1 : (decide (x97_1 < x96_1) : Bool) with
  | true =>
   have h := cT b1 h
   refine iT (.tmp 98) ?_
   refine kQ ?_
   show XQ _ _ _ _ _ _ _ _
   refine sQ ?_
   refine XQ.block (id := 1) (by kernel_rfl) ?_
   refine qQ ?_
   refine rS 2 [(4, .int .u8 e), (11, ii x11_1), (12, ii x12_1), (13, s0 0 lh0_1.length), (14, s0 1 lh1_1.length), (15, s0 2 lh2_1.length), (17, s0 3 lh3_1.length), (19, ii x19_1), (20, ii x20_1), (21, ii x21_1), (22, ii x22_1), (23, ii x23_1), (25, ii x97_1), (96, ii x96_1), (97, ii x97_1)] ?_
   refine dQ ?_
   show XQ _ _ _ _ _ _ _ _
   refine sQ ?_
   refine XQ.quiet E0_ok (by kernel_rfl) (by kernel_rfl) ?_
   refine XU.run E0_ok 1 2 [4, 11, 12, 13, 14, 15, 17, 19, 20, 21, 22, 23, 25, 96, 97, 100, 101] rfl (σ' := [(4, .int .u8 e), (11, ii x11_1), (12, ii x12_1), (13, s0 0 lh0_1.length), (14, s0 1 lh1_1.length), (15, s0 2 lh2_1.length), (17, s0 3 lh3_1.length), (19, ii x19_1), (20, ii x20_1), (21, ii x21_1), (22, ii x22_1), (23, ii x23_1), (25, ii x97_1), (96, ii x96_1), (97, ii x97_1), (100, s0 3 lh3_1.length), (101, ii x97_1)]) (by kernel_rfl) ?_
   cases b2 : (inRow x97_1 lh3_1.length : Bool) with
   | false => cases (cF b2 h)
   | true =>
    have h := cT b2 h
    refine XU.rd E0_ok [4, 11, 12, 13, 14, 15, 17, 19, 20, 21, 22, 23, 25, 96, 97, 102] rfl (v := pp 3 ((Int.toNat x97_1) * 1)) (v_idx (s := 1) (x := (src 318 (.tmp 100))) (y := (src 318 (.tmp 101))) (b := 3) (o := 0) (len := lh3_1.length) (cap := lh3_1.length) (ik := .i64) (i := x97_1) (off := (Int.toNat x97_1) * 1) (d := (some (path 12 102))) (by kernel_rfl) (by kernel_rfl) (by kernel_rfl) b2 (by omega)) (σ' := [(4, .int .u8 e), (11, ii x11_1), (12, ii x12_1), (13, s0 0 lh0_1.length), (14, s0 1 lh1_1.length), (15, s0 2 lh2_1.length), (17, s0 3 lh3_1.length), (19, ii x19_1), (20, ii x20_1), (21, ii x21_1), (22, ii x22_1), (23, ii x23_1), (25, ii x97_1), (96, ii x96_1), (97, ii x97_1), (102, pp 3 ((Int.toNat x97_1) * 1))]) (by kernel_rfl) ?_
    refine XU.rd E0_ok [4, 11, 12, 13, 14, 15, 17, 19, 20, 21, 22, 23, 25, 96, 97, 103] rfl (v := ii (List.getD lh3_1 (Int.toNat x97_1) 0)) (v_load1 (encI_ok .i64) (x := (src 318 (.tmp 102))) (b := 3) (off := (Int.toNat x97_1) * 1) (xs := lh3_1) (fz := 0) (e := 3) (es := 1) (d := (some (path 12 103))) (by kernel_rfl) (by kernel_rfl) (by kernel_rfl) (Int.toNat x97_1) 0 0 (by first | rfl | omega) (row_len (inRow_toNat b2) (by simp)) rfl rfl) (σ' := [(4, .int .u8 e), (11, ii x11_1), (12, ii x12_1), (13, s0 0 lh0_1.length), (14, s0 1 lh1_1.length), (15, s0 2 lh2_1.length), (17, s0 3 lh3_1.length), (19, ii x19_1), (20, ii x20_1), (21, ii x21_1), (22, ii x22_1), (23, ii x23_1), (25, ii x97_1), (96, ii x96_1), (97, ii x97_1), (103, ii (List.getD lh3_1 (Int.toNat x97_1) 0))]) (by kernel_rfl) ?_
    refine XU.run E0_ok 1 2 [4, 11, 12, 13, 14, 15, 17, 19, 20, 21, 22, 23, 96, 97, 103, 104, 105] rfl (σ' := [(4, .int .u8 e), (11, ii x11_1), (12, ii x12_1), (13, s0 0 lh0_1.length), (14, s0 1 lh1_1.length), (15, s0 2 lh2_1.length), (17, s0 3 lh3_1.length), (19, ii x19_1), (20, ii x20_1), (21, ii x21_1), (22, ii x22_1), (23, ii x23_1), (96, ii x96_1), (97, ii x97_1), (103, ii (List.getD lh3_1 (Int.toNat x97_1) 0)), (104, s0 2 lh2_1.length), (105, ii x97_1)]) (by kernel_rfl) ?_
    cases b3 : (inRow x97_1 lh2_1.length : Bool) with
    | false => cases (cF b3 h)
    | true =>
     have h := cT b3 h
     refine XU.rd E0_ok [4, 11, 12, 13, 14, 15, 17, 19, 20, 21, 22, 23, 96, 97, 103, 106] rfl (v := pp 2 ((Int.toNat x97_1) * 1)) (v_idx (s := 1) (x := (src 318 (.tmp 104))) (y := (src 318 (.tmp 105))) (b := 2) (o := 0) (len := lh2_1.length) (cap := lh2_1.length) (ik := .i64) (i := x97_1) (off := (Int.toNat x97_1) * 1) (d := (some (path 12 106))) (by kernel_rfl) (by kernel_rfl) (by kernel_rfl) b3 (by omega)) (σ' := [(4, .int .u8 e), (11, ii x11_1), (12, ii x12_1), (13, s0 0 lh0_1.length), (14, s0 1 lh1_1.length), (15, s0 2 lh2_1.length), (17, s0 3 lh3_1.length), (19, ii x19_1), (20, ii x20_1), (21, ii x21_1), (22, ii x22_1), (23, ii x23_1), (96, ii x96_1), (97, ii x97_1), (103, ii (List.getD lh3_1 (Int.toNat x97_1) 0)), (106, pp 2 ((Int.toNat x97_1) * 1))]) (by kernel_rfl) ?_
     refine XU.rd E0_ok [4, 11, 12, 13, 14, 15, 17, 19, 20, 21, 22, 23, 96, 97, 103, 107] rfl (v := ii (List.getD lh2_1 (Int.toNat x97_1) 0)) (v_load1 (encI_ok .i64) (x := (src 318 (.tmp 106))) (b := 2) (off := (Int.toNat x97_1) * 1) (xs := lh2_1) (fz := 0) (e := 3) (es := 1) (d := (some (path 12 107))) (by kernel_rfl) (by kernel_rfl) (by kernel_rfl) (Int.toNat x97_1) 0 0 (by first | rfl | omega) (row_len (inRow_toNat b3) (by simp)) rfl rfl) (σ' := [(4, .int .u8 e), (11, ii x11_1), (12, ii x12_1), (13, s0 0 lh0_1.length), (14, s0 1 lh1_1.length), (15, s0 2 lh2_1.length), (17, s0 3 lh3_1.length), (19, ii x19_1), (20, ii x20_1), (21, ii x21_1), (22, ii x22_1), (23, ii x23_1), (96, ii x96_1), (97, ii x97_1), (103, ii (List.getD lh3_1 (Int.toNat x97_1) 0)), (107, ii (List.getD lh2_1 (Int.toNat x97_1) 0))]) (by kernel_rfl) ?_
     refine XU.run E0_ok 1 3 [4, 11, 12, 13, 14, 15, 17, 19, 20, 21, 22, 23, 96, 97, 110] rfl (σ' := [(4, .int .u8 e), (11, ii x11_1), (12, ii x12_1), (13, s0 0 lh0_1.length), (14, s0 1 lh1_1.length), (15, s0 2 lh2_1.length), (17, s0 3 lh3_1.length), (19, ii x19_1), (20, ii x20_1), (21, ii x21_1), (22, ii x22_1), (23, ii x23_1), (96, ii x96_1), (97, ii x97_1), (110, .bool ((List.getD lh3_1 (Int.toNat x97_1) 0) != (w64 ((List.getD lh2_1 (Int.toNat x97_1) 0) + x12_1))))]) (by kernel_rfl) ?_
     refine XU.done (by kernel_rfl) ?_
     show XQ _ _ _ _ _ _ _ _
     cases b4 : ((List.getD lh3_1 (Int.toNat x97_1) 0) != (w64 ((List.getD lh2_1 (Int.toNat x97_1) 0) + x12_1)) : Bool) with
     | true =>
      have h := cT b4 h
      refine iT (.tmp 110) ?_
      refine qQ ?_
      refine rS 1 [(10, .bool false)] ?_
      refine dQ ?_
      show XQ _ _ _ _ _ _ _ _
      refine XQ.ren (σ' := [(10, .bool false)]) (h' := []) (c' := 0) [] (by decide) rfl ⟨rfl, trivial⟩ trivial rfl ?_
      refine XQ.ret (by kernel_rfl) ?_
      cases h
      exact hQ
     | false =>
      have h := cF b4 h
      refine iF (.tmp 110) ?_
      refine kQ ?_
      show XQ _ _ _ _ _ _ _ _
      refine rQ ?_
      refine rS 2 [(4, .int .u8 e), (11, ii x11_1), (12, ii x12_1), (13, s0 0 lh0_1.length), (14, s0 1 lh1_1.length), (15, s0 2 lh2_1.length), (17, s0 3 lh3_1.length), (19, ii x19_1), (20, ii x20_1), (21, ii x21_1), (22, ii x22_1), (23, ii x23_1), (96, ii x96_1), (97, ii (w64 (x97_1 + 1)))] ?_
      refine dQ ?_
      show XL _ _ _ _ _ _ _ _ _
      refine XL.ren (σ' := [(4, .int .u8 e), (11, ii x11_1), (12, ii x12_1), (13, s0 0 lh0_1.length), (14, s0 1 lh1_1.length), (15, s0 2 lh2_1.length), (17, s0 3 lh3_1.length), (19, ii x19_1), (20, ii x20_1), (21, ii x21_1), (22, ii x22_1), (23, ii x23_1), (96, ii x96_1), (97, ii (w64 (x97_1 + 1)))]) (h' := [(3, rc (encI .i64) lh3_1 0 3 1), (2, rc (encI .i64) lh2_1 0 3 1), (1, rc encP lh1_1 0 61 2), (0, rc encP lh0_1 0 61 2)]) (c' := 4) [0, 1, 2, 3] (by decide) rfl ⟨rfl, rfl, rfl, rfl, rfl, rfl, rfl, rfl, rfl, rfl, rfl, rfl, rfl, rfl, trivial⟩ ⟨⟨_, _, rfl, rfl, .inl ⟨rfl, rwI⟩⟩, ⟨_, _, rfl, rfl, .inl ⟨rfl, rwI⟩⟩, ⟨_, _, rfl, rfl, .inl ⟨rfl, rwP⟩⟩, ⟨_, _, rfl, rfl, .inl ⟨rfl, rwP⟩⟩, trivial⟩ rfl ?_
      refine XL.conv (f10_1_ok m fuel e x11_1 x12_1 x19_1 x20_1 x21_1 x22_1 x23_1 x96_1 (w64 (x97_1 + 1)) lh0_1 lh1_1 lh2_1 lh3_1 o h Q hQ) (by first | rfl | simp)
  | false =>
   have h := cF b1 h
   refine iF (.tmp 98) ?_
   refine XQ.ren (σ' := [(4, .int .u8 e), (11, ii x11_1), (12, ii x12_1), (13, s0 0 lh0_1.length), (14, s0 1 lh1_1.length), (19, ii x19_1), (20, ii x20_1), (21, ii x21_1), (22, ii x22_1), (23, ii x23_1)]) (h' := [(1, rc encP lh1_1 0 61 2), (0, rc encP lh0_1 0 61 2)]) (c' := 2) [0, 1] (by decide) rfl ⟨rfl, rfl, rfl, rfl, rfl, rfl, rfl, rfl, rfl, rfl, trivial⟩ ⟨⟨_, _, rfl, rfl, .inl ⟨rfl, rwP⟩⟩, ⟨_, _, rfl, rfl, .inl ⟨rfl, rwP⟩⟩, trivial⟩ rfl ?_
   refine XQ.exit (i := 0) (by kernel_rfl) ?_
   cases h
   exact hQ
inductive Of10_2 where
 | r
 | x2 (lh1_x22 : List Int)
def f10_2 (m : Nat) : Nat → Int → Int → Int → List (Int × Int) → Int → Int → List Int → List Int → Option Of10_2
 | 0, _, _, _, _, _, _, _, _ => none
 | fuel + 1, e, x11_x01, x12_x01, lh0_x01, x190_2, x191_2, lh1_2, lh2_2 =>
  cond (decide (x191_2 < x190_2)) (
   cond (inRow x191_2 lh2_2.length) (
    cond (inRow x191_2 lh1_2.length) (
     cond ((List.getD lh2_2 (Int.toNat x191_2) 0) != (w64 ((List.getD lh1_2 (Int.toNat x191_2) 0) + x12_x01))) (
      some (.r)
     ) (
      f10_2 m fuel e x11_x01 x12_x01 lh0_x01 x190_2 (w64 (x191_2 + 1)) lh1_2 lh2_2
     )
    ) none
   ) none
  ) (
   some (.x2 lh1_2)
  )
theorem f10_2_ok (m : Nat) : ∀ (fuel : Nat) (e : Int) (x11_x01 : Int) (x12_x01 : Int) (lh0_x01 : List (Int × Int)) (x190_2 : Int) (x191_2 : Int) (lh1_2 : List Int) (lh2_2 : List Int) (o : Of10_2), f10_2 m fuel e x11_x01 x12_x01 lh0_x01 x190_2 x191_2 lh1_2 lh2_2 = some o → ∀ Q : QP, (match o with | .r => Q .ret [(10, .bool false)] [] 0 | .x2 lh1_x22 => Q (.exit 2) [(4, .int .u8 e), (11, ii x11_x01), (13, s0 0 lh0_x01.length), (28, s0 1 lh1_x22.length)] [(1, rc (encI .i64) lh1_x22 0 3 1), (0, rc encP lh0_x01 0 61 2)] 2) → XL E0 318 0 fuel f10_L2 [(4, .int .u8 e), (11, ii x11_x01), (12, ii x12_x01), (13, s0 0 lh0_x01.length), (28, s0 1 lh1_2.length), (29, s0 2 lh2_2.length), (190, ii x190_2), (191, ii x191_2)] [(2, rc (encI .i64) lh2_2 0 3 1), (1, rc (encI .i64) lh1_2 0 3 1), (0, rc encP lh0_x01 0 61 2)] 3 Q
 | 0, e, x11_x01, x12_x01, lh0_x01, x190_2, x191_2, lh1_2, lh2_2, o, h, Q, hQ => by cases h
 | fuel + 1, e, x11_x01, x12_x01, lh0_x01, x190_2, x191_2, lh1_2, lh2_2, o, h, Q, hQ => by
  unfold f10_2 at h
  refine XL.succ E0_ok ?_
  refine qQ ?_
  refine rS 1 [(4, .int .u8 e), (11, ii x11_x01), (12, ii x12_x01), (13, s0 0 lh0_x01.length), (28, s0 1 lh1_2.length), (29, s0 2 lh2_2.length), (190, ii x190_2), (191, ii x191_2), (192, .bool (decide (x191_2 < x190_2)))] ?_
  refine dQ ?_
  show XQ _ _ _ _ _ _ _ _
  refine sQ ?_
  cases b1 : (decide (x191_2 < x190_2) : Bool) with
  | true =>
   have h := cT b1 h
   refine iT (.tmp 192) ?_
   refine kQ ?_
   show XQ _ _ _ _ _ _ _ _
   refine sQ ?_
   refine XQ.block (id := 3) (by kernel_rfl) ?_
   refine qQ ?_
   refine rS 2 [(4, .int .u8 e), (11, ii x11_x01), (12, ii x12_x01), (13, s0 0 lh0_x01.length), (28, s0 1 lh1_2.length), (29, s0 2 lh2_2.length), (30, ii x191_2), (190, ii x190_2), (191, ii x191_2)] ?_
   refine dQ ?_
   show XQ _ _ _ _ _ _ _ _
   refine sQ ?_
   refine XQ.quiet E0_ok (by kernel_rfl) (by kernel_rfl) ?_
   refine XU.run E0_ok 1 2 [4, 11, 12, 13, 28, 29, 30, 190, 191, 194, 195] rfl (σ' := [(4, .int .u8 e), (11, ii x11_x01), (12, ii x12_x01), (13, s0 0 lh0_x01.length), (28, s0 1 lh1_2.length), (29, s0 2 lh2_2.length), (30, ii x191_2), (190, ii x190_2), (191, ii x191_2), (194, s0 2 lh2_2.length), (195, ii x191_2)]) (by kernel_rfl) ?_
   cases b2 : (inRow x191_2 lh2_2.length : Bool) with
   | false => cases (cF b2 h)
   | true =>
    have h := cT b2 h
    refine XU.rd E0_ok [4, 11, 12, 13, 28, 29, 30, 190, 191, 196] rfl (v := pp 2 ((Int.toNat x191_2) * 1)) (v_idx (s := 1) (x := (src 318 (.tmp 194))) (y := (src 318 (.tmp 195))) (b := 2) (o := 0) (len := lh2_2.length) (cap := lh2_2.length) (ik := .i64) (i := x191_2) (off := (Int.toNat x191_2) * 1) (d := (some (path 12 196))) (by kernel_rfl) (by kernel_rfl) (by kernel_rfl) b2 (by omega)) (σ' := [(4, .int .u8 e), (11, ii x11_x01), (12, ii x12_x01), (13, s0 0 lh0_x01.length), (28, s0 1 lh1_2.length), (29, s0 2 lh2_2.length), (30, ii x191_2), (190, ii x190_2), (191, ii x191_2), (196, pp 2 ((Int.toNat x191_2) * 1))]) (by kernel_rfl) ?_
    refine XU.rd E0_ok [4, 11, 12, 13, 28, 29, 30, 190, 191, 197] rfl (v := ii (List.getD lh2_2 (Int.toNat x191_2) 0)) (v_load1 (encI_ok .i64) (x := (src 318 (.tmp 196))) (b := 2) (off := (Int.toNat x191_2) * 1) (xs := lh2_2) (fz := 0) (e := 3) (es := 1) (d := (some (path 12 197))) (by kernel_rfl) (by kernel_rfl) (by kernel_rfl) (Int.toNat x191_2) 0 0 (by first | rfl | omega) (row_len (inRow_toNat b2) (by simp)) rfl rfl) (σ' := [(4, .int .u8 e), (11, ii x11_x01), (12, ii x12_x01), (13, s0 0 lh0_x01.length), (28, s0 1 lh1_2.length), (29, s0 2 lh2_2.length), (30, ii x191_2), (190, ii x190_2), (191, ii x191_2), (197, ii (List.getD lh2_2 (Int.toNat x191_2) 0))]) (by kernel_rfl) ?_
    refine XU.run E0_ok 1 2 [4, 11, 12, 13, 28, 29, 190, 191, 197, 198, 199] rfl (σ' := [(4, .int .u8 e), (11, ii x11_x01), (12, ii x12_x01), (13, s0 0 lh0_x01.length), (28, s0 1 lh1_2.length), (29, s0 2 lh2_2.length), (190, ii x190_2), (191, ii x191_2), (197, ii (List.getD lh2_2 (Int.toNat x191_2) 0)), (198, s0 1 lh1_2.length), (199, ii x191_2)]) (by kernel_rfl) ?_
    cases b3 : (inRow x191_2 lh1_2.length : Bool) with
    | false => cases (cF b3 h)
    | true =>
     have h := cT b3 h
     refine XU.rd E0_ok [4, 11, 12, 13, 28, 29, 190, 191, 197, 200] rfl (v := pp 1 ((Int.toNat x191_2) * 1)) (v_idx (s := 1) (x := (src 318 (.tmp 198))) (y := (src 318 (.tmp 199))) (b := 1) (o := 0) (len := lh1_2.length) (cap := lh1_2.length) (ik := .i64) (i := x191_2) (off := (Int.toNat x191_2) * 1) (d := (some (path 12 200))) (by kernel_rfl) (by kernel_rfl) (by kernel_rfl) b3 (by omega)) (σ' := [(4, .int .u8 e), (11, ii x11_x01), (12, ii x12_x01), (13, s0 0 lh0_x01.length), (28, s0 1 lh1_2.length), (29, s0 2 lh2_2.length), (190, ii x190_2), (191, ii x191_2), (197, ii (List.getD lh2_2 (Int.toNat x191_2) 0)), (200, pp 1 ((Int.toNat x191_2) * 1))]) (by kernel_rfl) ?_
     refine XU.rd E0_ok [4, 11, 12, 13, 28, 29, 190, 191, 197, 201] rfl (v := ii (List.getD lh1_2 (Int.toNat x191_2) 0)) (v_load1 (encI_ok .i64) (x := (src 318 (.tmp 200))) (b := 1) (off := (Int.toNat x191_2) * 1) (xs := lh1_2) (fz := 0) (e := 3) (es := 1) (d := (some (path 12 201))) (by kernel_rfl) (by kernel_rfl) (by kernel_rfl) (Int.toNat x191_2) 0 0 (by first | rfl | omega) (row_len (inRow_toNat b3) (by simp)) rfl rfl) (σ' := [(4, .int .u8 e), (11, ii x11_x01), (12, ii x12_x01), (13, s0 0 lh0_x01.length), (28, s0 1 lh1_2.length), (29, s0 2 lh2_2.length), (190, ii x190_2), (191, ii x191_2), (197, ii (List.getD lh2_2 (Int.toNat x191_2) 0)), (201, ii (List.getD lh1_2 (Int.toNat x191_2) 0))]) (by kernel_rfl) ?_
     refine XU.run E0_ok 1 3 [4, 11, 12, 13, 28, 29, 190, 191, 204] rfl (σ' := [(4, .int .u8 e), (11, ii x11_x01), (12, ii x12_x01), (13, s0 0 lh0_x01.length), (28, s0 1 lh1_2.length), (29, s0 2 lh2_2.length), (190, ii x190_2), (191, ii x191_2), (204, .bool ((List.getD lh2_2 (Int.toNat x191_2) 0) != (w64 ((List.getD lh1_2 (Int.toNat x191_2) 0) + x12_x01))))]) (by kernel_rfl) ?_
     refine XU.done (by kernel_rfl) ?_
     show XQ _ _ _ _ _ _ _ _
     cases b4 : ((List.getD lh2_2 (Int.toNat x191_2) 0) != (w64 ((List.getD lh1_2 (Int.toNat x191_2) 0) + x12_x01)) : Bool) with
     | true =>
      have h := cT b4 h
      refine iT (.tmp 204) ?_
      refine qQ ?_
      refine rS 1 [(10, .bool false)] ?_
      refine dQ ?_
      show XQ _ _ _ _ _ _ _ _
      refine XQ.ren (σ' := [(10, .bool false)]) (h' := []) (c' := 0) [] (by decide) rfl ⟨rfl, trivial⟩ trivial rfl ?_
      refine XQ.ret (by kernel_rfl) ?_
      cases h
      exact hQ
     | false =>
      have h := cF b4 h
      refine iF (.tmp 204) ?_
      refine kQ ?_
      show XQ _ _ _ _ _ _ _ _
      refine rQ ?_
      refine rS 2 [(4, .int .u8 e), (11, ii x11_x01), (12, ii x12_x01), (13, s0 0 lh0_x01.length), (28, s0 1 lh1_2.length), (29, s0 2 lh2_2.length), (190, ii x190_2), (191, ii (w64 (x191_2 + 1)))] ?_
      refine dQ ?_
      show XL _ _ _ _ _ _ _ _ _
      refine XL.ren (σ' := [(4, .int .u8 e), (11, ii x11_x01), (12, ii x12_x01), (13, s0 0 lh0_x01.length), (28, s0 1 lh1_2.length), (29, s0 2 lh2_2.length), (190, ii x190_2), (191, ii (w64 (x191_2 + 1)))]) (h' := [(2, rc (encI .i64) lh2_2 0 3 1), (1, rc (encI .i64) lh1_2 0 3 1), (0, rc encP lh0_x01 0 61 2)]) (c' := 3) [0, 1, 2] (by decide) rfl ⟨rfl, rfl, rfl, rfl, rfl, rfl, rfl, rfl, trivial⟩ ⟨⟨_, _, rfl, rfl, .inl ⟨rfl, rwI⟩⟩, ⟨_, _, rfl, rfl, .inl ⟨rfl, rwI⟩⟩, ⟨_, _, rfl, rfl, .inl ⟨rfl, rwP⟩⟩, trivial⟩ rfl ?_
      refine XL.conv (f10_2_ok m fuel e x11_x01 x12_x01 lh0_x01 x190_2 (w64 (x191_2 + 1)) lh1_2 lh2_2 o h Q hQ) (by first | rfl | simp)
  | false =>
   have h := cF b1 h
   refine iF (.tmp 192) ?_
   refine XQ.ren (σ' := [(4, .int .u8 e), (11, ii x11_x01), (13, s0 0 lh0_x01.length), (28, s0 1 lh1_2.length)]) (h' := [(1, rc (encI .i64) lh1_2 0 3 1), (0, rc encP lh0_x01 0 61 2)]) (c' := 2) [0, 1] (by decide) rfl ⟨rfl, rfl, rfl, rfl, trivial⟩ ⟨⟨_, _, rfl, rfl, .inl ⟨rfl, rwI⟩⟩, ⟨_, _, rfl, rfl, .inl ⟨rfl, rwP⟩⟩, trivial⟩ rfl ?_
   refine XQ.exit (i := 2) (by kernel_rfl) ?_
   cases h
   exact hQ
def f10_3 (m : Nat) : Nat → Int → Int → List (Int × Int) → List Int → Int → Int → List (Int × Int) → Option (List (Int × Int))
 | 0, _, _, _, _, _, _, _ => none
 | fuel + 1, e, x11_x01, lh0_x01, lh1_x22, x207_3, x208_3, lh2_3 =>
  cond (decide (x208_3 < x207_3)) (
   cond (((lh0_x01.length : Nat) : Int) != 0) (
    cond (inRow (Int.tmod (w64 (x208_3 + (w64 e))) ((lh0_x01.length : Nat) : Int)) lh0_x01.length) (
     cond (fitsB (lh2_3.length + 1) 16) (
      f10_3 m fuel e x11_x01 lh0_x01 lh1_x22 x207_3 (w64 (x208_3 + 1)) (lh2_3 ++ [(w64 (23 - ((List.getD lh0_x01 (Int.toNat (Int.tmod (w64 (x208_3 + (w64 e))) ((lh0_x01.length : Nat) : Int))) (0, 0)).2)), w64 (23 - ((List.getD lh0_x01 (Int.toNat (Int.tmod (w64 (x208_3 + (w64 e))) ((lh0_x01.length : Nat) : Int))) (0, 0)).1)))])
     ) none
    ) none
   ) none
  ) (
   some (lh2_3)
  )
theorem f10_3_ok (m : Nat) : ∀ (fuel : Nat) (e : Int) (x11_x01 : Int) (lh0_x01 : List (Int × Int)) (lh1_x22 : List Int) (x207_3 : Int) (x208_3 : Int) (lh2_3 : List (Int × Int)) (o : (List (Int × Int))), f10_3 m fuel e x11_x01 lh0_x01 lh1_x22 x207_3 x208_3 lh2_3 = some o → ∀ Q : QP, Q (.exit 4) [(11, ii x11_x01), (13, s0 0 lh0_x01.length), (28, s0 1 lh1_x22.length), (31, s0 2 o.length)] [(2, rc encP o 0 61 2), (1, rc (encI .i64) lh1_x22 0 3 1), (0, rc encP lh0_x01 0 61 2)] 3 → XL E0 318 0 fuel f10_L3 [(4, .int .u8 e), (11, ii x11_x01), (13, s0 0 lh0_x01.length), (28, s0 1 lh1_x22.length), (31, s0 2 lh2_3.length), (207, ii x207_3), (208, ii x208_3)] [(2, rc encP lh2_3 0 61 2), (1, rc (encI .i64) lh1_x22 0 3 1), (0, rc encP lh0_x01 0 61 2)] 3 Q
 | 0, e, x11_x01, lh0_x01, lh1_x22, x207_3, x208_3, lh2_3, o, h, Q, hQ => by cases h
 | fuel + 1, e, x11_x01, lh0_x01, lh1_x22, x207_3, x208_3, lh2_3, o, h, Q, hQ => by
  unfold f10_3 at h
  refine XL.succ E0_ok ?_
  refine qQ ?_
  refine rS 1 [(4, .int .u8 e), (11, ii x11_x01), (13, s0 0 lh0_x01.length), (28, s0 1 lh1_x22.length), (31, s0 2 lh2_3.length), (207, ii x207_3), (208, ii x208_3), (209, .bool (decide (x208_3 < x207_3)))] ?_
  refine dQ ?_
  show XQ _ _ _ _ _ _ _ _
  refine sQ ?_
  cases b1 : (decide (x208_3 < x207_3) : Bool) with
  | true =>
   have h := cT b1 h
   refine iT (.tmp 209) ?_
   refine kQ ?_
   show XQ _ _ _ _ _ _ _ _
   refine sQ ?_
   refine XQ.block (id := 5) (by kernel_rfl) ?_
   refine qQ ?_
   refine rS 2 [(4, .int .u8 e), (11, ii x11_x01), (13, s0 0 lh0_x01.length), (28, s0 1 lh1_x22.length), (31, s0 2 lh2_3.length), (32, ii x208_3), (207, ii x207_3), (208, ii x208_3)] ?_
   refine nQ id ?_
   refine rS 7 [(4, .int .u8 e), (11, ii x11_x01), (13, s0 0 lh0_x01.length), (28, s0 1 lh1_x22.length), (31, s0 2 lh2_3.length), (207, ii x207_3), (208, ii x208_3), (211, s0 0 lh0_x01.length), (215, ii (w64 (x208_3 + (w64 e)))), (217, ii ((lh0_x01.length : Nat) : Int))] ?_
   cases b2 : (((lh0_x01.length : Nat) : Int) != 0 : Bool) with
   | false => cases (cF b2 h)
   | true =>
    have h := cT b2 h
    have e3 : insV (headI ((gsOf E0 318 (opsOf (lft (rgt (lft (lft (rgt (rgt f10_L3)))))))).drop 7) (trS 318 [(4, .int .u8 e), (11, ii x11_x01), (13, s0 0 lh0_x01.length), (28, s0 1 lh1_x22.length), (31, s0 2 lh2_3.length), (207, ii x207_3), (208, ii x208_3), (211, s0 0 lh0_x01.length), (215, ii (w64 (x208_3 + (w64 e)))), (217, ii ((lh0_x01.length : Nat) : Int))])) (trS 318 [(4, .int .u8 e), (11, ii x11_x01), (13, s0 0 lh0_x01.length), (28, s0 1 lh1_x22.length), (31, s0 2 lh2_3.length), (207, ii x207_3), (208, ii x208_3), (211, s0 0 lh0_x01.length), (215, ii (w64 (x208_3 + (w64 e)))), (217, ii ((lh0_x01.length : Nat) : Int))]) [(2, rc encP lh2_3 0 61 2), (1, rc (encI .i64) lh1_x22 0 3 1), (0, rc encP lh0_x01 0 61 2)] = (match (((lh0_x01.length : Nat) : Int) != 0 : Bool) with | true => some (ii (Int.tmod (w64 (x208_3 + (w64 e))) ((lh0_x01.length : Nat) : Int))) | false => none) := by kernel_rfl
    refine XR.rd E0_ok [4, 11, 13, 28, 31, 207, 208, 211, 218] rfl (e3.trans (by rw [b2])) (σ' := [(4, .int .u8 e), (11, ii x11_x01), (13, s0 0 lh0_x01.length), (28, s0 1 lh1_x22.length), (31, s0 2 lh2_3.length), (207, ii x207_3), (208, ii x208_3), (211, s0 0 lh0_x01.length), (218, ii (Int.tmod (w64 (x208_3 + (w64 e))) ((lh0_x01.length : Nat) : Int)))]) (by kernel_rfl) ?_
    cases b4 : (inRow (Int.tmod (w64 (x208_3 + (w64 e))) ((lh0_x01.length : Nat) : Int)) lh0_x01.length : Bool) with
    | false => cases (cF b4 h)
    | true =>
     have h := cT b4 h
     refine XR.rd E0_ok [4, 11, 13, 28, 31, 207, 208, 219] rfl (v := pp 0 ((Int.toNat (Int.tmod (w64 (x208_3 + (w64 e))) ((lh0_x01.length : Nat) : Int))) * 2)) (v_idx (s := 2) (x := (src 318 (.tmp 211))) (y := (src 318 (.tmp 218))) (b := 0) (o := 0) (len := lh0_x01.length) (cap := lh0_x01.length) (ik := .i64) (i := Int.tmod (w64 (x208_3 + (w64 e))) ((lh0_x01.length : Nat) : Int)) (off := (Int.toNat (Int.tmod (w64 (x208_3 + (w64 e))) ((lh0_x01.length : Nat) : Int))) * 2) (d := (some (path 12 219))) (by kernel_rfl) (by kernel_rfl) (by kernel_rfl) b4 (by omega)) (σ' := [(4, .int .u8 e), (11, ii x11_x01), (13, s0 0 lh0_x01.length), (28, s0 1 lh1_x22.length), (31, s0 2 lh2_3.length), (207, ii x207_3), (208, ii x208_3), (219, pp 0 ((Int.toNat (Int.tmod (w64 (x208_3 + (w64 e))) ((lh0_x01.length : Nat) : Int))) * 2))]) (by kernel_rfl) ?_
     refine XR.rd E0_ok [4, 11, 13, 28, 31, 207, 208, 220] rfl (v := .agg #[ii ((List.getD lh0_x01 (Int.toNat (Int.tmod (w64 (x208_3 + (w64 e))) ((lh0_x01.length : Nat) : Int))) (0, 0)).1), ii ((List.getD lh0_x01 (Int.toNat (Int.tmod (w64 (x208_3 + (w64 e))) ((lh0_x01.length : Nat) : Int))) (0, 0)).2)]) (v_loadN encP_ok (x := (src 318 (.tmp 219))) (b := 0) (off := (Int.toNat (Int.tmod (w64 (x208_3 + (w64 e))) ((lh0_x01.length : Nat) : Int))) * 2) (xs := lh0_x01) (fz := 0) (e := 61) (es := 2) (d := (some (path 12 220))) (by kernel_rfl) (by kernel_rfl) (by kernel_rfl) (Int.toNat (Int.tmod (w64 (x208_3 + (w64 e))) ((lh0_x01.length : Nat) : Int))) (0, 0) (by first | rfl | omega) (row_len (inRow_toNat b4) (by simp)) rfl) (σ' := [(4, .int .u8 e), (11, ii x11_x01), (13, s0 0 lh0_x01.length), (28, s0 1 lh1_x22.length), (31, s0 2 lh2_3.length), (207, ii x207_3), (208, ii x208_3), (220, .agg #[ii ((List.getD lh0_x01 (Int.toNat (Int.tmod (w64 (x208_3 + (w64 e))) ((lh0_x01.length : Nat) : Int))) (0, 0)).1), ii ((List.getD lh0_x01 (Int.toNat (Int.tmod (w64 (x208_3 + (w64 e))) ((lh0_x01.length : Nat) : Int))) (0, 0)).2)])]) (by kernel_rfl) ?_
     refine rT 2 [(4, .int .u8 e), (11, ii x11_x01), (13, s0 0 lh0_x01.length), (28, s0 1 lh1_x22.length), (31, s0 2 lh2_3.length), (33, pp 3 0), (207, ii x207_3), (208, ii x208_3)] [(3, .cells [ii ((List.getD lh0_x01 (Int.toNat (Int.tmod (w64 (x208_3 + (w64 e))) ((lh0_x01.length : Nat) : Int))) (0, 0)).1), ii ((List.getD lh0_x01 (Int.toNat (Int.tmod (w64 (x208_3 + (w64 e))) ((lh0_x01.length : Nat) : Int))) (0, 0)).2)] 0 61 0), (2, rc encP lh2_3 0 61 2), (1, rc (encI .i64) lh1_x22 0 3 1), (0, rc encP lh0_x01 0 61 2)] 4 ?_
     refine dQ ?_
     show XQ _ _ _ _ _ _ _ _
     refine rQ ?_
     refine rT 9 [(4, .int .u8 e), (11, ii x11_x01), (13, s0 0 lh0_x01.length), (28, s0 1 lh1_x22.length), (207, ii x207_3), (208, ii x208_3), (221, s0 2 lh2_3.length), (229, s0 4 1)] [(4, .cells [ii (w64 (23 - ((List.getD lh0_x01 (Int.toNat (Int.tmod (w64 (x208_3 + (w64 e))) ((lh0_x01.length : Nat) : Int))) (0, 0)).2))), ii (w64 (23 - ((List.getD lh0_x01 (Int.toNat (Int.tmod (w64 (x208_3 + (w64 e))) ((lh0_x01.length : Nat) : Int))) (0, 0)).1)))] 0 61 2), (3, .cells [ii ((List.getD lh0_x01 (Int.toNat (Int.tmod (w64 (x208_3 + (w64 e))) ((lh0_x01.length : Nat) : Int))) (0, 0)).1), ii ((List.getD lh0_x01 (Int.toNat (Int.tmod (w64 (x208_3 + (w64 e))) ((lh0_x01.length : Nat) : Int))) (0, 0)).2)] 0 61 0), (2, rc encP lh2_3 0 61 2), (1, rc (encI .i64) lh1_x22 0 3 1), (0, rc encP lh0_x01 0 61 2)] 5 ?_
     cases b5 : (fitsB (lh2_3.length + 1) 16 : Bool) with
     | false => cases (cF b5 h)
     | true =>
      have h := cT b5 h
      refine XR.ef E0_ok [4, 11, 13, 28, 207, 208, 230] rfl (e_append encP_ok (bytes := 16) (e := 61) (x := (src 318 (.tmp 221))) (y := (src 318 (.tmp 229))) (b := 2) (len := lh2_3.length) (cap := lh2_3.length) (xs := lh2_3) (m := 0) (ys := [(w64 (23 - ((List.getD lh0_x01 (Int.toNat (Int.tmod (w64 (x208_3 + (w64 e))) ((lh0_x01.length : Nat) : Int))) (0, 0)).2)), w64 (23 - ((List.getD lh0_x01 (Int.toNat (Int.tmod (w64 (x208_3 + (w64 e))) ((lh0_x01.length : Nat) : Int))) (0, 0)).1)))]) (d := (some (path 12 230))) (n' := (lh2_3 ++ [(w64 (23 - ((List.getD lh0_x01 (Int.toNat (Int.tmod (w64 (x208_3 + (w64 e))) ((lh0_x01.length : Nat) : Int))) (0, 0)).2)), w64 (23 - ((List.getD lh0_x01 (Int.toNat (Int.tmod (w64 (x208_3 + (w64 e))) ((lh0_x01.length : Nat) : Int))) (0, 0)).1)))]).length) (h' := [(5, rc encP (lh2_3 ++ [(w64 (23 - ((List.getD lh0_x01 (Int.toNat (Int.tmod (w64 (x208_3 + (w64 e))) ((lh0_x01.length : Nat) : Int))) (0, 0)).2)), w64 (23 - ((List.getD lh0_x01 (Int.toNat (Int.tmod (w64 (x208_3 + (w64 e))) ((lh0_x01.length : Nat) : Int))) (0, 0)).1)))]) 0 61 2), (4, .cells [ii (w64 (23 - ((List.getD lh0_x01 (Int.toNat (Int.tmod (w64 (x208_3 + (w64 e))) ((lh0_x01.length : Nat) : Int))) (0, 0)).2))), ii (w64 (23 - ((List.getD lh0_x01 (Int.toNat (Int.tmod (w64 (x208_3 + (w64 e))) ((lh0_x01.length : Nat) : Int))) (0, 0)).1)))] 0 61 2), (3, .cells [ii ((List.getD lh0_x01 (Int.toNat (Int.tmod (w64 (x208_3 + (w64 e))) ((lh0_x01.length : Nat) : Int))) (0, 0)).1), ii ((List.getD lh0_x01 (Int.toNat (Int.tmod (w64 (x208_3 + (w64 e))) ((lh0_x01.length : Nat) : Int))) (0, 0)).2)] 0 61 0), (1, rc (encI .i64) lh1_x22 0 3 1), (0, rc encP lh0_x01 0 61 2)]) (by kernel_rfl) (by kernel_rfl) (by kernel_rfl) (by kernel_rfl) rfl (by simp) (by simp) b5 (by simp) (by kernel_rfl)) (σ' := [(4, .int .u8 e), (11, ii x11_x01), (13, s0 0 lh0_x01.length), (28, s0 1 lh1_x22.length), (207, ii x207_3), (208, ii x208_3), (230, s0 5 ((lh2_3 ++ [(w64 (23 - ((List.getD lh0_x01 (Int.toNat (Int.tmod (w64 (x208_3 + (w64 e))) ((lh0_x01.length : Nat) : Int))) (0, 0)).2)), w64 (23 - ((List.getD lh0_x01 (Int.toNat (Int.tmod (w64 (x208_3 + (w64 e))) ((lh0_x01.length : Nat) : Int))) (0, 0)).1)))]).length))]) (by kernel_rfl) ?_
      refine rS 1 [(4, .int .u8 e), (11, ii x11_x01), (13, s0 0 lh0_x01.length), (28, s0 1 lh1_x22.length), (31, s0 5 ((lh2_3 ++ [(w64 (23 - ((List.getD lh0_x01 (Int.toNat (Int.tmod (w64 (x208_3 + (w64 e))) ((lh0_x01.length : Nat) : Int))) (0, 0)).2)), w64 (23 - ((List.getD lh0_x01 (Int.toNat (Int.tmod (w64 (x208_3 + (w64 e))) ((lh0_x01.length : Nat) : Int))) (0, 0)).1)))]).length)), (207, ii x207_3), (208, ii x208_3)] ?_
      refine dQ ?_
      show XQ _ _ _ _ _ _ _ _
      refine rQ ?_
      refine rS 2 [(4, .int .u8 e), (11, ii x11_x01), (13, s0 0 lh0_x01.length), (28, s0 1 lh1_x22.length), (31, s0 5 ((lh2_3 ++ [(w64 (23 - ((List.getD lh0_x01 (Int.toNat (Int.tmod (w64 (x208_3 + (w64 e))) ((lh0_x01.length : Nat) : Int))) (0, 0)).2)), w64 (23 - ((List.getD lh0_x01 (Int.toNat (Int.tmod (w64 (x208_3 + (w64 e))) ((lh0_x01.length : Nat) : Int))) (0, 0)).1)))]).length)), (207, ii x207_3), (208, ii (w64 (x208_3 + 1)))] ?_
      refine dQ ?_
      show XL _ _ _ _ _ _ _ _ _
      refine XL.ren (σ' := [(4, .int .u8 e), (11, ii x11_x01), (13, s0 0 lh0_x01.length), (28, s0 1 lh1_x22.length), (31, s0 2 ((lh2_3 ++ [(w64 (23 - ((List.getD lh0_x01 (Int.toNat (Int.tmod (w64 (x208_3 + (w64 e))) ((lh0_x01.length : Nat) : Int))) (0, 0)).2)), w64 (23 - ((List.getD lh0_x01 (Int.toNat (Int.tmod (w64 (x208_3 + (w64 e))) ((lh0_x01.length : Nat) : Int))) (0, 0)).1)))]).length)), (207, ii x207_3), (208, ii (w64 (x208_3 + 1)))]) (h' := [(2, rc encP (lh2_3 ++ [(w64 (23 - ((List.getD lh0_x01 (Int.toNat (Int.tmod (w64 (x208_3 + (w64 e))) ((lh0_x01.length : Nat) : Int))) (0, 0)).2)), w64 (23 - ((List.getD lh0_x01 (Int.toNat (Int.tmod (w64 (x208_3 + (w64 e))) ((lh0_x01.length : Nat) : Int))) (0, 0)).1)))]) 0 61 2), (1, rc (encI .i64) lh1_x22 0 3 1), (0, rc encP lh0_x01 0 61 2)]) (c' := 3) [0, 1, 5] (by decide) rfl ⟨rfl, rfl, rfl, rfl, rfl, rfl, rfl, trivial⟩ ⟨⟨_, _, rfl, rfl, .inl ⟨rfl, rwP⟩⟩, ⟨_, _, rfl, rfl, .inl ⟨rfl, rwI⟩⟩, ⟨_, _, rfl, rfl, .inl ⟨rfl, rwP⟩⟩, trivial⟩ rfl ?_
      refine XL.conv (f10_3_ok m fuel e x11_x01 lh0_x01 lh1_x22 x207_3 (w64 (x208_3 + 1)) (lh2_3 ++ [(w64 (23 - ((List.getD lh0_x01 (Int.toNat (Int.tmod (w64 (x208_3 + (w64 e))) ((lh0_x01.length : Nat) : Int))) (0, 0)).2)), w64 (23 - ((List.getD lh0_x01 (Int.toNat (Int.tmod (w64 (x208_3 + (w64 e))) ((lh0_x01.length : Nat) : Int))) (0, 0)).1)))]) o h Q hQ) (by first | rfl | simp)
  | false =>
   have h := cF b1 h
   refine iF (.tmp 209) ?_
   refine XQ.ren (σ' := [(11, ii x11_x01), (13, s0 0 lh0_x01.length), (28, s0 1 lh1_x22.length), (31, s0 2 lh2_3.length)]) (h' := [(2, rc encP lh2_3 0 61 2), (1, rc (encI .i64) lh1_x22 0 3 1), (0, rc encP lh0_x01 0 61 2)]) (c' := 3) [0, 1, 2] (by decide) rfl ⟨rfl, rfl, rfl, rfl, trivial⟩ ⟨⟨_, _, rfl, rfl, .inl ⟨rfl, rwP⟩⟩, ⟨_, _, rfl, rfl, .inl ⟨rfl, rwI⟩⟩, ⟨_, _, rfl, rfl, .inl ⟨rfl, rwP⟩⟩, trivial⟩ rfl ?_
   refine XQ.exit (i := 4) (by kernel_rfl) ?_
   cases h
   exact hQ
def f10_4 (m : Nat) : Nat → List (Int × Int) → List Int → Int → Int → List (Int × Int) → Option (List (Int × Int))
 | 0, _, _, _, _, _ => none
 | fuel + 1, lh0_x01, lh1_x22, x2_4, x3_4, lh2_4 =>
  cond (decide (x2_4 < x3_4)) (
   cond (inRow x3_4 lh2_4.length) (
    cond (inRow x2_4 lh2_4.length) (
     f10_4 m fuel lh0_x01 lh1_x22 (w64 (x2_4 + 1)) (w64 (x3_4 - 1)) (List.set (List.set lh2_4 (Int.toNat x2_4) ((List.getD lh2_4 (Int.toNat x3_4) (0, 0)).1, (List.getD lh2_4 (Int.toNat x3_4) (0, 0)).2)) (Int.toNat x3_4) ((List.getD lh2_4 (Int.toNat x2_4) (0, 0)).1, (List.getD lh2_4 (Int.toNat x2_4) (0, 0)).2))
    ) none
   ) none
  ) (
   some (lh2_4)
  )
theorem f10_4_ok (m : Nat) : ∀ (fuel : Nat) (lh0_x01 : List (Int × Int)) (lh1_x22 : List Int) (x2_4 : Int) (x3_4 : Int) (lh2_4 : List (Int × Int)) (o : (List (Int × Int))), f10_4 m fuel lh0_x01 lh1_x22 x2_4 x3_4 lh2_4 = some o → ∀ Q : QP, Q (.exit 0) [] [(2, rc encP o 0 61 2), (1, rc (encI .i64) lh1_x22 0 3 1), (0, rc encP lh0_x01 0 61 2)] 3 → XL E0 28 3 fuel f10_L4 [(0, s0 2 lh2_4.length), (2, ii x2_4), (3, ii x3_4)] [(2, rc encP lh2_4 0 61 2), (1, rc (encI .i64) lh1_x22 0 3 1), (0, rc encP lh0_x01 0 61 2)] 3 Q
 | 0, lh0_x01, lh1_x22, x2_4, x3_4, lh2_4, o, h, Q, hQ => by cases h
 | fuel + 1, lh0_x01, lh1_x22, x2_4, x3_4, lh2_4, o, h, Q, hQ => by
  unfold f10_4 at h
  refine XL.succ E0_ok ?_
  refine sQ ?_
  refine qQ ?_
  refine rS 3 [(0, s0 2 lh2_4.length), (2, ii x2_4), (3, ii x3_4), (9, .bool (decide (x2_4 < x3_4)))] ?_
  refine dQ ?_
  show XQ _ _ _ _ _ _ _ _
  cases b1 : (decide (x2_4 < x3_4) : Bool) with
  | true =>
   have h := cT b1 h
   refine iT (.tmp 9) ?_
   refine kQ ?_
   show XQ _ _ _ _ _ _ _ _
   refine sQ ?_
   refine XQ.block (id := 1) (by kernel_rfl) ?_
   refine XQ.preP E0_ok [2, 3] [0, 1, 4, 5, 6, 7, 8, 9, 10, 11, 12] 13 [14, 15] (by kernel_rfl) (by kernel_rfl) (by kernel_rfl) ?_
   refine XP.step E0_ok 2 [0, 2, 3, 16, 17] rfl (σ' := [(0, s0 2 lh2_4.length), (2, ii x2_4), (3, ii x3_4), (16, s0 2 lh2_4.length), (17, ii x3_4)]) (by kernel_rfl) ?_
   refine XP.done (by kernel_rfl) ?_
   show XS _ _ _ _ _ _ _ _ _ _
   refine XS.step E0_ok 4 rfl [0, 2, 3, 14, 15, 16, 17, 18, 19] rfl (σ' := [(0, s0 2 lh2_4.length), (2, ii x2_4), (3, ii x3_4), (14, s0 2 lh2_4.length), (15, ii x2_4), (16, s0 2 lh2_4.length), (17, ii x3_4), (18, s0 2 lh2_4.length), (19, ii x3_4)]) (by kernel_rfl) ?_
   cases b2 : (inRow x3_4 lh2_4.length : Bool) with
   | false => cases (cF b2 h)
   | true =>
    have h := cT b2 h
    refine XS.rd E0_ok rfl [0, 2, 3, 14, 15, 16, 17, 20] rfl (v := pp 2 ((Int.toNat x3_4) * 2)) (v_idx (s := 2) (x := (src 28 (.tmp 18))) (y := (src 28 (.tmp 19))) (b := 2) (o := 0) (len := lh2_4.length) (cap := lh2_4.length) (ik := .i64) (i := x3_4) (off := (Int.toNat x3_4) * 2) (d := (some (path 12 20))) (by kernel_rfl) (by kernel_rfl) (by kernel_rfl) b2 (by omega)) (σ' := [(0, s0 2 lh2_4.length), (2, ii x2_4), (3, ii x3_4), (14, s0 2 lh2_4.length), (15, ii x2_4), (16, s0 2 lh2_4.length), (17, ii x3_4), (20, pp 2 ((Int.toNat x3_4) * 2))]) (by kernel_rfl) ?_
    refine XS.rd E0_ok rfl [0, 2, 3, 14, 15, 16, 17, 21] rfl (v := .agg #[ii ((List.getD lh2_4 (Int.toNat x3_4) (0, 0)).1), ii ((List.getD lh2_4 (Int.toNat x3_4) (0, 0)).2)]) (v_loadN encP_ok (x := (src 28 (.tmp 20))) (b := 2) (off := (Int.toNat x3_4) * 2) (xs := lh2_4) (fz := 0) (e := 61) (es := 2) (d := (some (path 12 21))) (by kernel_rfl) (by kernel_rfl) (by kernel_rfl) (Int.toNat x3_4) (0, 0) (by first | rfl | omega) (row_len (inRow_toNat b2) (by simp)) rfl) (σ' := [(0, s0 2 lh2_4.length), (2, ii x2_4), (3, ii x3_4), (14, s0 2 lh2_4.length), (15, ii x2_4), (16, s0 2 lh2_4.length), (17, ii x3_4), (21, .agg #[ii ((List.getD lh2_4 (Int.toNat x3_4) (0, 0)).1), ii ((List.getD lh2_4 (Int.toNat x3_4) (0, 0)).2)])]) (by kernel_rfl) ?_
    refine XS.step E0_ok 2 rfl [0, 2, 3, 14, 15, 16, 17, 21, 22, 23] rfl (σ' := [(0, s0 2 lh2_4.length), (2, ii x2_4), (3, ii x3_4), (14, s0 2 lh2_4.length), (15, ii x2_4), (16, s0 2 lh2_4.length), (17, ii x3_4), (21, .agg #[ii ((List.getD lh2_4 (Int.toNat x3_4) (0, 0)).1), ii ((List.getD lh2_4 (Int.toNat x3_4) (0, 0)).2)]), (22, s0 2 lh2_4.length), (23, ii x2_4)]) (by kernel_rfl) ?_
    cases b3 : (inRow x2_4 lh2_4.length : Bool) with
    | false => cases (cF b3 h)
    | true =>
     have h := cT b3 h
     refine XS.rd E0_ok rfl [0, 2, 3, 14, 15, 16, 17, 21, 24] rfl (v := pp 2 ((Int.toNat x2_4) * 2)) (v_idx (s := 2) (x := (src 28 (.tmp 22))) (y := (src 28 (.tmp 23))) (b := 2) (o := 0) (len := lh2_4.length) (cap := lh2_4.length) (ik := .i64) (i := x2_4) (off := (Int.toNat x2_4) * 2) (d := (some (path 12 24))) (by kernel_rfl) (by kernel_rfl) (by kernel_rfl) b3 (by omega)) (σ' := [(0, s0 2 lh2_4.length), (2, ii x2_4), (3, ii x3_4), (14, s0 2 lh2_4.length), (15, ii x2_4), (16, s0 2 lh2_4.length), (17, ii x3_4), (21, .agg #[ii ((List.getD lh2_4 (Int.toNat x3_4) (0, 0)).1), ii ((List.getD lh2_4 (Int.toNat x3_4) (0, 0)).2)]), (24, pp 2 ((Int.toNat x2_4) * 2))]) (by kernel_rfl) ?_
     refine XS.rd E0_ok rfl [0, 2, 3, 14, 15, 16, 17, 21, 25] rfl (v := .agg #[ii ((List.getD lh2_4 (Int.toNat x2_4) (0, 0)).1), ii ((List.getD lh2_4 (Int.toNat x2_4) (0, 0)).2)]) (v_loadN encP_ok (x := (src 28 (.tmp 24))) (b := 2) (off := (Int.toNat x2_4) * 2) (xs := lh2_4) (fz := 0) (e := 61) (es := 2) (d := (some (path 12 25))) (by kernel_rfl) (by kernel_rfl) (by kernel_rfl) (Int.toNat x2_4) (0, 0) (by first | rfl | omega) (row_len (inRow_toNat b3) (by simp)) rfl) (σ' := [(0, s0 2 lh2_4.length), (2, ii x2_4), (3, ii x3_4), (14, s0 2 lh2_4.length), (15, ii x2_4), (16, s0 2 lh2_4.length), (17, ii x3_4), (21, .agg #[ii ((List.getD lh2_4 (Int.toNat x3_4) (0, 0)).1), ii ((List.getD lh2_4 (Int.toNat x3_4) (0, 0)).2)]), (25, .agg #[ii ((List.getD lh2_4 (Int.toNat x2_4) (0, 0)).1), ii ((List.getD lh2_4 (Int.toNat x2_4) (0, 0)).2)])]) (by kernel_rfl) ?_
     refine XS.rd E0_ok rfl [0, 2, 3, 16, 17, 21, 25, 26] rfl (v := pp 2 ((Int.toNat x2_4) * 2)) (v_idx (s := 2) (x := (src 28 (.tmp 14))) (y := (src 28 (.tmp 15))) (b := 2) (o := 0) (len := lh2_4.length) (cap := lh2_4.length) (ik := .i64) (i := x2_4) (off := (Int.toNat x2_4) * 2) (d := (some (path 12 26))) (by kernel_rfl) (by kernel_rfl) (by kernel_rfl) b3 (by omega)) (σ' := [(0, s0 2 lh2_4.length), (2, ii x2_4), (3, ii x3_4), (16, s0 2 lh2_4.length), (17, ii x3_4), (21, .agg #[ii ((List.getD lh2_4 (Int.toNat x3_4) (0, 0)).1), ii ((List.getD lh2_4 (Int.toNat x3_4) (0, 0)).2)]), (25, .agg #[ii ((List.getD lh2_4 (Int.toNat x2_4) (0, 0)).1), ii ((List.getD lh2_4 (Int.toNat x2_4) (0, 0)).2)]), (26, pp 2 ((Int.toNat x2_4) * 2))]) (by kernel_rfl) ?_
     refine XS.done (by kernel_rfl) ?_
     refine XR.ef E0_ok [0, 2, 3, 16, 17, 25] rfl (e_store encP_ok (size := 2) (x := (src 28 (.tmp 26))) (y := (src 28 (.tmp 21))) (b := 2) (off := (Int.toNat x2_4) * 2) (xs := lh2_4) (e := 61) (es := 2) (d := none) (h' := [(2, rc encP (List.set lh2_4 (Int.toNat x2_4) ((List.getD lh2_4 (Int.toNat x3_4) (0, 0)).1, (List.getD lh2_4 (Int.toNat x3_4) (0, 0)).2)) 0 61 2), (1, rc (encI .i64) lh1_x22 0 3 1), (0, rc encP lh0_x01 0 61 2)]) (w := .agg #[ii ((List.getD lh2_4 (Int.toNat x3_4) (0, 0)).1), ii ((List.getD lh2_4 (Int.toNat x3_4) (0, 0)).2)]) (ws := [ii ((List.getD lh2_4 (Int.toNat x3_4) (0, 0)).1), ii ((List.getD lh2_4 (Int.toNat x3_4) (0, 0)).2)]) (a := ((List.getD lh2_4 (Int.toNat x3_4) (0, 0)).1, (List.getD lh2_4 (Int.toNat x3_4) (0, 0)).2)) (by kernel_rfl) (by kernel_rfl) (by kernel_rfl) (Int.toNat x2_4) 0 (0, 0) (by first | rfl | omega) (row_len (inRow_toNat b3) (by simp)) (by kernel_rfl) rfl rfl rfl rfl rfl (by kernel_rfl)) (σ' := [(0, s0 2 lh2_4.length), (2, ii x2_4), (3, ii x3_4), (16, s0 2 lh2_4.length), (17, ii x3_4), (25, .agg #[ii ((List.getD lh2_4 (Int.toNat x2_4) (0, 0)).1), ii ((List.getD lh2_4 (Int.toNat x2_4) (0, 0)).2)])]) (by kernel_rfl) ?_
     refine XR.rd E0_ok [0, 2, 3, 25, 27] rfl (v := pp 2 ((Int.toNat x3_4) * 2)) (v_idx (s := 2) (x := (src 28 (.tmp 16))) (y := (src 28 (.tmp 17))) (b := 2) (o := 0) (len := lh2_4.length) (cap := lh2_4.length) (ik := .i64) (i := x3_4) (off := (Int.toNat x3_4) * 2) (d := (some (path 12 27))) (by kernel_rfl) (by kernel_rfl) (by kernel_rfl) b2 (by omega)) (σ' := [(0, s0 2 lh2_4.length), (2, ii x2_4), (3, ii x3_4), (25, .agg #[ii ((List.getD lh2_4 (Int.toNat x2_4) (0, 0)).1), ii ((List.getD lh2_4 (Int.toNat x2_4) (0, 0)).2)]), (27, pp 2 ((Int.toNat x3_4) * 2))]) (by kernel_rfl) ?_
     refine XR.ef E0_ok [0, 2, 3] rfl (e_store encP_ok (size := 2) (x := (src 28 (.tmp 27))) (y := (src 28 (.tmp 25))) (b := 2) (off := (Int.toNat x3_4) * 2) (xs := List.set lh2_4 (Int.toNat x2_4) ((List.getD lh2_4 (Int.toNat x3_4) (0, 0)).1, (List.getD lh2_4 (Int.toNat x3_4) (0, 0)).2)) (e := 61) (es := 2) (d := none) (h' := [(2, rc encP (List.set (List.set lh2_4 (Int.toNat x2_4) ((List.getD lh2_4 (Int.toNat x3_4) (0, 0)).1, (List.getD lh2_4 (Int.toNat x3_4) (0, 0)).2)) (Int.toNat x3_4) ((List.getD lh2_4 (Int.toNat x2_4) (0, 0)).1, (List.getD lh2_4 (Int.toNat x2_4) (0, 0)).2)) 0 61 2), (1, rc (encI .i64) lh1_x22 0 3 1), (0, rc encP lh0_x01 0 61 2)]) (w := .agg #[ii ((List.getD lh2_4 (Int.toNat x2_4) (0, 0)).1), ii ((List.getD lh2_4 (Int.toNat x2_4) (0, 0)).2)]) (ws := [ii ((List.getD lh2_4 (Int.toNat x2_4) (0, 0)).1), ii ((List.getD lh2_4 (Int.toNat x2_4) (0, 0)).2)]) (a := ((List.getD lh2_4 (Int.toNat x2_4) (0, 0)).1, (List.getD lh2_4 (Int.toNat x2_4) (0, 0)).2)) (by kernel_rfl) (by kernel_rfl) (by kernel_rfl) (Int.toNat x3_4) 0 (0, 0) (by first | rfl | omega) (row_len (inRow_toNat b2) (by simp)) (by kernel_rfl) rfl rfl rfl rfl rfl (by kernel_rfl)) (σ' := [(0, s0 2 lh2_4.length), (2, ii x2_4), (3, ii x3_4)]) (by kernel_rfl) ?_
     refine dQ ?_
     show XQ _ _ _ _ _ _ _ _
     refine rQ ?_
     refine rS 6 [(0, s0 2 lh2_4.length), (2, ii (w64 (x2_4 + 1))), (3, ii (w64 (x3_4 - 1)))] ?_
     refine dQ ?_
     show XL _ _ _ _ _ _ _ _ _
     refine XL.ren (σ' := [(0, s0 2 lh2_4.length), (2, ii (w64 (x2_4 + 1))), (3, ii (w64 (x3_4 - 1)))]) (h' := [(2, rc encP (List.set (List.set lh2_4 (Int.toNat x2_4) ((List.getD lh2_4 (Int.toNat x3_4) (0, 0)).1, (List.getD lh2_4 (Int.toNat x3_4) (0, 0)).2)) (Int.toNat x3_4) ((List.getD lh2_4 (Int.toNat x2_4) (0, 0)).1, (List.getD lh2_4 (Int.toNat x2_4) (0, 0)).2)) 0 61 2), (1, rc (encI .i64) lh1_x22 0 3 1), (0, rc encP lh0_x01 0 61 2)]) (c' := 3) [0, 1, 2] (by decide) rfl ⟨rfl, rfl, rfl, trivial⟩ ⟨⟨_, _, rfl, rfl, .inl ⟨rfl, rwP⟩⟩, ⟨_, _, rfl, rfl, .inl ⟨rfl, rwI⟩⟩, ⟨_, _, rfl, rfl, .inl ⟨rfl, rwP⟩⟩, trivial⟩ rfl ?_
     refine XL.conv (f10_4_ok m fuel lh0_x01 lh1_x22 (w64 (x2_4 + 1)) (w64 (x3_4 - 1)) (List.set (List.set lh2_4 (Int.toNat x2_4) ((List.getD lh2_4 (Int.toNat x3_4) (0, 0)).1, (List.getD lh2_4 (Int.toNat x3_4) (0, 0)).2)) (Int.toNat x3_4) ((List.getD lh2_4 (Int.toNat x2_4) (0, 0)).1, (List.getD lh2_4 (Int.toNat x2_4) (0, 0)).2)) o h Q hQ) (by first | rfl | simp)
  | false =>
   have h := cF b1 h
   refine iF (.tmp 9) ?_
   refine XQ.ren (σ' := []) (h' := [(2, rc encP lh2_4 0 61 2), (1, rc (encI .i64) lh1_x22 0 3 1), (0, rc encP lh0_x01 0 61 2)]) (c' := 3) [0, 1, 2] (by decide) rfl trivial ⟨⟨_, _, rfl, rfl, .inl ⟨rfl, rwP⟩⟩, ⟨_, _, rfl, rfl, .inl ⟨rfl, rwI⟩⟩, ⟨_, _, rfl, rfl, .inl ⟨rfl, rwP⟩⟩, trivial⟩ rfl ?_
   refine XQ.exit (i := 0) (by kernel_rfl) ?_
   cases h
   exact hQ
def f10 (m : Nat) (a_0_0 : Int) (a_0_1 : Int) (a_1_0 : Int) (a_1_1 : Int) (a_2_0 : Int) (a_2_1 : Int) (a_3_0 : Int) (a_3_1 : Int) (a_4_0 : Int) (a_4_1 : Int) (a_5_0 : Int) (a_5_1 : Int) (a_6_0 : Int) (a_6_1 : Int) (a_7_0 : Int) (a_7_1 : Int) (b : Int) (c : Int) (d : Int) (e : Int) : Option (Bool) :=
 (f41 m a_0_0 a_0_1 a_1_0 a_1_1 a_2_0 a_2_1 a_3_0 a_3_1 a_4_0 a_4_1 a_5_0 a_5_1 a_6_0 a_6_1 a_7_0 a_7_1 (w64 b) 8 12 0).bind fun r2 =>
  (f41 m a_0_0 a_0_1 a_1_0 a_1_1 a_2_0 a_2_1 a_3_0 a_3_1 a_4_0 a_4_1 a_5_0 a_5_1 a_6_0 a_6_1 a_7_0 a_7_1 (w64 b) 8 12 (Int.tmod (w64 d) 13)).bind fun r3 =>
   (f18 m r2 (w64 (1 + (Int.tmod (w64 c) 3)))).bind fun r4 =>
    (f18 m r3 (w64 (1 + (Int.tmod (w64 c) 3)))).bind fun r5 =>
     (f27 m r2 (w64 (1 + (Int.tmod (w64 c) 3)))).bind fun r6 =>
      (f27 m r3 (w64 (1 + (Int.tmod (w64 c) 3)))).bind fun r7 =>
       cond (r4.2 != r5.2) (
        some (false)
       ) (
        cond (r6.2.2 != r7.2.2) (
         some (false)
        ) (
         cond (((r4.1.length : Nat) : Int) != ((r5.1.length : Nat) : Int)) (
          some (false)
         ) (
          (f10_1 m m e (w64 (1 + (Int.tmod (w64 c) 3))) (Int.tmod (w64 d) 13) r6.1 r6.2.1 r6.2.2 r7.1 r7.2.1 ((r4.1.length : Nat) : Int) 0 r2 r3 r4.1 r5.1).bind fun o1 =>
           match o1 with
           | .r =>
            some (false)
           | .x0 x11_x01 x12_x01 x19_x01 x20_x01 x21_x01 x22_x01 x23_x01 lh0_x01 lh1_x01 =>
            jn (
             cond (x21_x01 == 0) (
              cond (decide (x22_x01 > (w64 (x19_x01 + x12_x01)))) (
               (
                some (false)
               ).map some
              ) (
               cond (x22_x01 == (w64 (x19_x01 + x12_x01))) (
                cond (x23_x01 != (w64 (x20_x01 + x12_x01))) (
                 (
                  some (false)
                 ).map some
                ) (
                 some none
                )
               ) (
                some none
               )
              )
             ) (
              some none
             )
            ) (
             (f31 m lh0_x01 x11_x01).bind fun r8 =>
              (f31 m lh1_x01 x11_x01).bind fun r9 =>
               jn (
                cond (r8.2 != r9.2) (
                 (
                  some (false)
                 ).map some
                ) (
                 cond (r8.2 == 0) (
                  cond (decide (((lh0_x01.length : Nat) : Int) > 0)) (
                   cond (r9.1 != (w64 (r8.1 + x12_x01))) (
                    (
                     some (false)
                    ).map some
                   ) (
                    some none
                   )
                  ) (
                   some none
                  )
                 ) (
                  some none
                 )
                )
               ) (
                (f35 m lh0_x01).bind fun r10 =>
                 (f35 m lh1_x01).bind fun r11 =>
                  cond (r10.2 != 0) (
                   some (false)
                  ) (
                   cond (r11.2 != 0) (
                    some (false)
                   ) (
                    cond (((r10.1.length : Nat) : Int) != ((r11.1.length : Nat) : Int)) (
                     some (false)
                    ) (
                     (f10_2 m m e x11_x01 x12_x01 lh0_x01 ((r10.1.length : Nat) : Int) 0 r10.1 r11.1).bind fun o2 =>
                      match o2 with
                      | .r =>
                       some (false)
                      | .x2 lh1_x22 =>
                       (f10_3 m m e x11_x01 lh0_x01 lh1_x22 ((lh0_x01.length : Nat) : Int) 0 []).bind fun o3 =>
                        (f10_4 m m lh0_x01 lh1_x22 0 (w64 (((o3.length : Nat) : Int) - 1)) o3).bind fun o4 =>
                         cond (decide (o3.length = o4.length)) (
                          (f18 m lh0_x01 x11_x01).bind fun r12 =>
                           (f18 m o4 x11_x01).bind fun r13 =>
                            (f33 m lh0_x01 x11_x01).bind fun r14 =>
                             (f33 m o4 x11_x01).bind fun r15 =>
                              cond (r12.2 != r13.2) (
                               some (false)
                              ) (
                               cond (r14.2 != 0) (
                                some (false)
                               ) (
                                cond (r15.2 != 0) (
                                 some (false)
                                ) (
                                 cond (((r14.1.length : Nat) : Int) != ((r15.1.length : Nat) : Int)) (
                                  some (false)
                                 ) (
                                  (f37 m lh0_x01).bind fun r16 =>
                                   (f37 m o4).bind fun r17 =>
                                    (f35 m o4).bind fun r18 =>
                                     cond (r16.2 == 0) (
                                      cond (r17.2 == 0) (
                                       cond (r18.2 == 0) (
                                        cond (((r16.1.length : Nat) : Int) == ((r17.1.length : Nat) : Int)) (
                                         cond (((r18.1.length : Nat) : Int) == ((lh1_x22.length : Nat) : Int)) (
                                          some (true)
                                         ) (
                                          some (false)
                                         )
                                        ) (
                                         some (false)
                                        )
                                       ) (
                                        some (false)
                                       )
                                      ) (
                                       some (false)
                                      )
                                     ) (
                                      some (false)
                                     )
                                 )
                                )
                               )
                              )
                         ) none
                    )
                   )
                  )
               )
            )
         )
        )
       )
theorem f10_ok (m : Nat) (a_0_0 : Int) (a_0_1 : Int) (a_1_0 : Int) (a_1_1 : Int) (a_2_0 : Int) (a_2_1 : Int) (a_3_0 : Int) (a_3_1 : Int) (a_4_0 : Int) (a_4_1 : Int) (a_5_0 : Int) (a_5_1 : Int) (a_6_0 : Int) (a_6_1 : Int) (a_7_0 : Int) (a_7_1 : Int) (b : Int) (c : Int) (d : Int) (e : Int) (o : Bool) (h : f10 m a_0_0 a_0_1 a_1_0 a_1_1 a_2_0 a_2_1 a_3_0 a_3_1 a_4_0 a_4_1 a_5_0 a_5_1 a_6_0 a_6_1 a_7_0 a_7_1 b c d e = some o) (w : World) (hI : anyInv w) : Calls Proofs.Try.prog 10 #[.agg #[.int .u8 a_0_0, .int .u8 a_0_1, .int .u8 a_1_0, .int .u8 a_1_1, .int .u8 a_2_0, .int .u8 a_2_1, .int .u8 a_3_0, .int .u8 a_3_1, .int .u8 a_4_0, .int .u8 a_4_1, .int .u8 a_5_0, .int .u8 a_5_1, .int .u8 a_6_0, .int .u8 a_6_1, .int .u8 a_7_0, .int .u8 a_7_1], .int .u8 b, .int .u8 c, .int .u8 d, .int .u8 e] w fun e w' => e = .returned (.bool o) ∧ Below w.heap.size w w' := by
 refine KC.calls (E := E0) (args := [.agg #[.int .u8 a_0_0, .int .u8 a_0_1, .int .u8 a_1_0, .int .u8 a_1_1, .int .u8 a_2_0, .int .u8 a_2_1, .int .u8 a_3_0, .int .u8 a_3_1, .int .u8 a_4_0, .int .u8 a_4_1, .int .u8 a_5_0, .int .u8 a_5_1, .int .u8 a_6_0, .int .u8 a_6_1, .int .u8 a_7_0, .int .u8 a_7_1], .int .u8 b, .int .u8 c, .int .u8 d, .int .u8 e]) (v := .bool o) rfl rfl (KC.bodyN E0_ok (F := Proofs.Try.f10) (by kernel_rfl) (code := f10_C10) (by kernel_rfl) (nt := 318) (by kernel_rfl) (rs := [.tmp 10]) (by kernel_rfl) (by kernel_rfl) (σ := [(0, .agg #[.int .u8 a_0_0, .int .u8 a_0_1, .int .u8 a_1_0, .int .u8 a_1_1, .int .u8 a_2_0, .int .u8 a_2_1, .int .u8 a_3_0, .int .u8 a_3_1, .int .u8 a_4_0, .int .u8 a_4_1, .int .u8 a_5_0, .int .u8 a_5_1, .int .u8 a_6_0, .int .u8 a_6_1, .int .u8 a_7_0, .int .u8 a_7_1]), (1, .int .u8 b), (2, .int .u8 c), (3, .int .u8 d), (4, .int .u8 e)]) (by kernel_rfl) ?_) w (anyInv_size hI) hI
 unfold f10 at h
 refine qQ ?_
 refine rT 2 [(1, .int .u8 b), (2, .int .u8 c), (3, .int .u8 d), (4, .int .u8 e), (5, pp 0 0)] [(0, .cells [.int .u8 a_0_0, .int .u8 a_0_1, .int .u8 a_1_0, .int .u8 a_1_1, .int .u8 a_2_0, .int .u8 a_2_1, .int .u8 a_3_0, .int .u8 a_3_1, .int .u8 a_4_0, .int .u8 a_4_1, .int .u8 a_5_0, .int .u8 a_5_1, .int .u8 a_6_0, .int .u8 a_6_1, .int .u8 a_7_0, .int .u8 a_7_1] 0 56 0)] 1 ?_
 refine nQ id ?_
 refine rS 5 [(1, .int .u8 b), (3, .int .u8 d), (4, .int .u8 e), (5, pp 0 0), (11, ii (w64 (1 + (Int.tmod (w64 c) 3))))] ?_
 refine nQ id ?_
 refine rS 4 [(1, .int .u8 b), (4, .int .u8 e), (5, pp 0 0), (11, ii (w64 (1 + (Int.tmod (w64 c) 3)))), (12, ii (Int.tmod (w64 d) 13))] ?_
 refine dQ ?_
 show XQ _ _ _ _ _ _ _ _
 refine sQ ?_
 obtain ⟨r2, r2_h, h⟩ := bS h
 obtain ⟨r3, r3_h, h⟩ := bS h
 refine XQ.preA E0_ok [1, 2, 5, 6, 7] (by kernel_rfl) (g := 6) (listed := #[false, true, true, false, false, true, true, true, false, false, false]) (by kernel_rfl) (by kernel_rfl) (by kernel_rfl) (by kernel_rfl) (by kernel_rfl) (σ' := [(4, .int .u8 e), (11, ii (w64 (1 + (Int.tmod (w64 c) 3)))), (12, ii (Int.tmod (w64 d) 13)), (13, s0 0 r2.length), (14, s0 1 r3.length)]) (h' := [(1, rc encP r3 0 61 2), (0, rc encP r2 0 61 2)]) (c' := 2) ?_ ?_
 ·show XQ _ _ _ _ _ _ _ _
  refine qQ ?_
  refine rS 2 [(4, .int .u8 e), (11, ii (w64 (1 + (Int.tmod (w64 c) 3)))), (12, ii (Int.tmod (w64 d) 13)), (13, s0 0 r2.length), (14, s0 1 r3.length), (55, s0 0 r2.length), (56, ii (w64 (1 + (Int.tmod (w64 c) 3))))] ?_
  obtain ⟨r4, r4_h, h⟩ := bS h
  refine XR.call E0_ok [4, 11, 12, 13, 14, 57] rfl (K := 18) (args := [s0 0 r2.length, ii (w64 (1 + (Int.tmod (w64 c) 3)))]) (d := (some (path 12 57))) (by kernel_rfl) (KC.liftH (n0 := 1) (m := 1) (args0 := [s0 0 r2.length, ii (w64 (1 + (Int.tmod (w64 c) 3)))]) (h0 := [(0, rc encP r2 (0 + ((rowC encP r2).length + 1)) 61 2)]) (V := .tuple #[s0 1 r4.1.length, ii r4.2]) (V2 := .tuple #[s0 2 r4.1.length, ii r4.2]) (H := [(1, rc (encI .i64) r4.1 0 3 1)]) (H2 := [(2, rc (encI .i64) r4.1 0 3 1)]) [0] [2, 3, 1] (f18_ok m (0 + ((rowC encP r2).length + 1)) 61 r2 (w64 (1 + (Int.tmod (w64 c) 3))) r4 r4_h) (by rfl) (by decide) rfl (by kernel_rfl) ⟨⟨_, _, rfl, rfl, .inl ⟨rfl, rwP⟩⟩, trivial⟩ (by decide) (by decide) (by kernel_rfl) ⟨⟨_, _, rfl, rfl, .inl ⟨rfl, rwI⟩⟩, trivial⟩ (by rfl)) ?_
  rintro _ _ _ ⟨rfl, rfl, rfl⟩
  refine XR.conv (σ' := [(4, .int .u8 e), (11, ii (w64 (1 + (Int.tmod (w64 c) 3)))), (12, ii (Int.tmod (w64 d) 13)), (13, s0 0 r2.length), (14, s0 1 r3.length), (57, .tuple #[s0 2 r4.1.length, ii r4.2])]) (h' := [(2, rc (encI .i64) r4.1 0 3 1), (1, rc encP r3 0 61 2), (0, rc encP r2 0 61 2)]) (c' := 3) ?_ (by kernel_rfl)
  refine rS 5 [(4, .int .u8 e), (11, ii (w64 (1 + (Int.tmod (w64 c) 3)))), (12, ii (Int.tmod (w64 d) 13)), (13, s0 0 r2.length), (14, s0 1 r3.length), (15, s0 2 r4.1.length), (16, ii r4.2)] ?_
  refine nQ id ?_
  refine rS 2 [(4, .int .u8 e), (11, ii (w64 (1 + (Int.tmod (w64 c) 3)))), (12, ii (Int.tmod (w64 d) 13)), (13, s0 0 r2.length), (14, s0 1 r3.length), (15, s0 2 r4.1.length), (16, ii r4.2), (61, s0 1 r3.length), (62, ii (w64 (1 + (Int.tmod (w64 c) 3))))] ?_
  obtain ⟨r5, r5_h, h⟩ := bS h
  refine XR.call E0_ok [4, 11, 12, 13, 14, 15, 16, 63] rfl (K := 18) (args := [s0 1 r3.length, ii (w64 (1 + (Int.tmod (w64 c) 3)))]) (d := (some (path 12 63))) (by kernel_rfl) (KC.liftH (n0 := 1) (m := 1) (args0 := [s0 0 r3.length, ii (w64 (1 + (Int.tmod (w64 c) 3)))]) (h0 := [(0, rc encP r3 (0 + ((rowC encP r3).length + 1)) 61 2)]) (V := .tuple #[s0 1 r5.1.length, ii r5.2]) (V2 := .tuple #[s0 3 r5.1.length, ii r5.2]) (H := [(1, rc (encI .i64) r5.1 0 3 1)]) (H2 := [(3, rc (encI .i64) r5.1 0 3 1)]) [1] [2, 3, 4, 1] (f18_ok m (0 + ((rowC encP r3).length + 1)) 61 r3 (w64 (1 + (Int.tmod (w64 c) 3))) r5 r5_h) (by rfl) (by decide) rfl (by kernel_rfl) ⟨⟨_, _, rfl, rfl, .inl ⟨rfl, rwP⟩⟩, trivial⟩ (by decide) (by decide) (by kernel_rfl) ⟨⟨_, _, rfl, rfl, .inl ⟨rfl, rwI⟩⟩, trivial⟩ (by rfl)) ?_
  rintro _ _ _ ⟨rfl, rfl, rfl⟩
  refine XR.conv (σ' := [(4, .int .u8 e), (11, ii (w64 (1 + (Int.tmod (w64 c) 3)))), (12, ii (Int.tmod (w64 d) 13)), (13, s0 0 r2.length), (14, s0 1 r3.length), (15, s0 2 r4.1.length), (16, ii r4.2), (63, .tuple #[s0 3 r5.1.length, ii r5.2])]) (h' := [(3, rc (encI .i64) r5.1 0 3 1), (2, rc (encI .i64) r4.1 0 3 1), (1, rc encP r3 0 61 2), (0, rc encP r2 0 61 2)]) (c' := 4) ?_ (by kernel_rfl)
  refine rS 5 [(4, .int .u8 e), (11, ii (w64 (1 + (Int.tmod (w64 c) 3)))), (12, ii (Int.tmod (w64 d) 13)), (13, s0 0 r2.length), (14, s0 1 r3.length), (15, s0 2 r4.1.length), (16, ii r4.2), (17, s0 3 r5.1.length), (18, ii r5.2)] ?_
  refine nQ id ?_
  refine rS 2 [(4, .int .u8 e), (11, ii (w64 (1 + (Int.tmod (w64 c) 3)))), (12, ii (Int.tmod (w64 d) 13)), (13, s0 0 r2.length), (14, s0 1 r3.length), (15, s0 2 r4.1.length), (16, ii r4.2), (17, s0 3 r5.1.length), (18, ii r5.2), (67, s0 0 r2.length), (68, ii (w64 (1 + (Int.tmod (w64 c) 3))))] ?_
  obtain ⟨r6, r6_h, h⟩ := bS h
  refine XR.call E0_ok [4, 11, 12, 13, 14, 15, 16, 17, 18, 69] rfl (K := 27) (args := [s0 0 r2.length, ii (w64 (1 + (Int.tmod (w64 c) 3)))]) (d := (some (path 12 69))) (by kernel_rfl) (KQ.call (KC.quiet E0_ok (args0 := [s0 0 r2.length, ii (w64 (1 + (Int.tmod (w64 c) 3)))]) (h0 := [(0, rc encP r2 (0 + ((rowC encP r2).length + 1)) 61 2)]) (n := 1) (V := .tuple #[ii r6.1, ii r6.2.1, ii r6.2.2]) [0] (f27_ok m (0 + ((rowC encP r2).length + 1)) 61 r2 (w64 (1 + (Int.tmod (w64 c) 3))) r6 r6_h) rfl (by rfl) (by decide) rfl (by kernel_rfl) ⟨⟨_, _, rfl, rfl, .inl ⟨rfl, rwP⟩⟩, trivial⟩) rfl) ?_
  rintro _ _ _ ⟨rfl, rfl, rfl⟩
  refine XR.conv (σ' := [(4, .int .u8 e), (11, ii (w64 (1 + (Int.tmod (w64 c) 3)))), (12, ii (Int.tmod (w64 d) 13)), (13, s0 0 r2.length), (14, s0 1 r3.length), (15, s0 2 r4.1.length), (16, ii r4.2), (17, s0 3 r5.1.length), (18, ii r5.2), (69, .tuple #[ii r6.1, ii r6.2.1, ii r6.2.2])]) (h' := [(3, rc (encI .i64) r5.1 0 3 1), (2, rc (encI .i64) r4.1 0 3 1), (1, rc encP r3 0 61 2), (0, rc encP r2 0 61 2)]) (c' := 4) ?_ (by kernel_rfl)
  refine rS 7 [(4, .int .u8 e), (11, ii (w64 (1 + (Int.tmod (w64 c) 3)))), (12, ii (Int.tmod (w64 d) 13)), (13, s0 0 r2.length), (14, s0 1 r3.length), (15, s0 2 r4.1.length), (16, ii r4.2), (17, s0 3 r5.1.length), (18, ii r5.2), (19, ii r6.1), (20, ii r6.2.1), (21, ii r6.2.2)] ?_
  refine nQ id ?_
  refine rS 2 [(4, .int .u8 e), (11, ii (w64 (1 + (Int.tmod (w64 c) 3)))), (12, ii (Int.tmod (w64 d) 13)), (13, s0 0 r2.length), (14, s0 1 r3.length), (15, s0 2 r4.1.length), (16, ii r4.2), (17, s0 3 r5.1.length), (18, ii r5.2), (19, ii r6.1), (20, ii r6.2.1), (21, ii r6.2.2), (74, s0 1 r3.length), (75, ii (w64 (1 + (Int.tmod (w64 c) 3))))] ?_
  obtain ⟨r7, r7_h, h⟩ := bS h
  refine XR.call E0_ok [4, 11, 12, 13, 14, 15, 16, 17, 18, 19, 20, 21, 76] rfl (K := 27) (args := [s0 1 r3.length, ii (w64 (1 + (Int.tmod (w64 c) 3)))]) (d := (some (path 12 76))) (by kernel_rfl) (KQ.call (KC.quiet E0_ok (args0 := [s0 0 r3.length, ii (w64 (1 + (Int.tmod (w64 c) 3)))]) (h0 := [(0, rc encP r3 (0 + ((rowC encP r3).length + 1)) 61 2)]) (n := 1) (V := .tuple #[ii r7.1, ii r7.2.1, ii r7.2.2]) [1] (f27_ok m (0 + ((rowC encP r3).length + 1)) 61 r3 (w64 (1 + (Int.tmod (w64 c) 3))) r7 r7_h) rfl (by rfl) (by decide) rfl (by kernel_rfl) ⟨⟨_, _, rfl, rfl, .inl ⟨rfl, rwP⟩⟩, trivial⟩) rfl) ?_
  rintro _ _ _ ⟨rfl, rfl, rfl⟩
  refine XR.conv (σ' := [(4, .int .u8 e), (11, ii (w64 (1 + (Int.tmod (w64 c) 3)))), (12, ii (Int.tmod (w64 d) 13)), (13, s0 0 r2.length), (14, s0 1 r3.length), (15, s0 2 r4.1.length), (16, ii r4.2), (17, s0 3 r5.1.length), (18, ii r5.2), (19, ii r6.1), (20, ii r6.2.1), (21, ii r6.2.2), (76, .tuple #[ii r7.1, ii r7.2.1, ii r7.2.2])]) (h' := [(3, rc (encI .i64) r5.1 0 3 1), (2, rc (encI .i64) r4.1 0 3 1), (1, rc encP r3 0 61 2), (0, rc encP r2 0 61 2)]) (c' := 4) ?_ (by kernel_rfl)
  refine rS 7 [(4, .int .u8 e), (11, ii (w64 (1 + (Int.tmod (w64 c) 3)))), (12, ii (Int.tmod (w64 d) 13)), (13, s0 0 r2.length), (14, s0 1 r3.length), (15, s0 2 r4.1.length), (16, ii r4.2), (17, s0 3 r5.1.length), (18, ii r5.2), (19, ii r6.1), (20, ii r6.2.1), (21, ii r6.2.2), (22, ii r7.1), (23, ii r7.2.1), (24, ii r7.2.2)] ?_
  refine dQ ?_
  show XQ _ _ _ _ _ _ _ _
  refine sQ ?_
  refine qQ ?_
  refine rS 4 [(4, .int .u8 e), (11, ii (w64 (1 + (Int.tmod (w64 c) 3)))), (12, ii (Int.tmod (w64 d) 13)), (13, s0 0 r2.length), (14, s0 1 r3.length), (15, s0 2 r4.1.length), (17, s0 3 r5.1.length), (19, ii r6.1), (20, ii r6.2.1), (21, ii r6.2.2), (22, ii r7.1), (23, ii r7.2.1), (24, ii r7.2.2), (83, .bool (r4.2 != r5.2))] ?_
  cases b1 : (r4.2 != r5.2 : Bool) with
  | true =>
   have h := cT b1 h
   refine rS 11 [(4, .int .u8 e), (11, ii (w64 (1 + (Int.tmod (w64 c) 3)))), (12, ii (Int.tmod (w64 d) 13)), (13, s0 0 r2.length), (14, s0 1 r3.length), (15, s0 2 r4.1.length), (17, s0 3 r5.1.length), (19, ii r6.1), (20, ii r6.2.1), (21, ii r6.2.2), (22, ii r7.1), (23, ii r7.2.1), (94, .bool true)] ?_
   refine dQ ?_
   show XQ _ _ _ _ _ _ _ _
   refine iT (.tmp 94) ?_
   refine qQ ?_
   refine rS 1 [(10, .bool false)] ?_
   refine dQ ?_
   show XQ _ _ _ _ _ _ _ _
   refine XQ.ret (by kernel_rfl) ?_
   have h := Option.some.inj h
   subst h
   exact ⟨fun i q => (by cases q), .bool false, (by kernel_rfl), rfl⟩
  | false =>
   have h := cF b1 h
   refine rS 5 [(4, .int .u8 e), (11, ii (w64 (1 + (Int.tmod (w64 c) 3)))), (12, ii (Int.tmod (w64 d) 13)), (13, s0 0 r2.length), (14, s0 1 r3.length), (15, s0 2 r4.1.length), (17, s0 3 r5.1.length), (19, ii r6.1), (20, ii r6.2.1), (21, ii r6.2.2), (22, ii r7.1), (23, ii r7.2.1), (88, .bool (r6.2.2 != r7.2.2))] ?_
   cases b2 : (r6.2.2 != r7.2.2 : Bool) with
   | true =>
    have h := cT b2 h
    refine rS 6 [(4, .int .u8 e), (11, ii (w64 (1 + (Int.tmod (w64 c) 3)))), (12, ii (Int.tmod (w64 d) 13)), (13, s0 0 r2.length), (14, s0 1 r3.length), (15, s0 2 r4.1.length), (17, s0 3 r5.1.length), (19, ii r6.1), (20, ii r6.2.1), (21, ii r6.2.2), (22, ii r7.1), (23, ii r7.2.1), (94, .bool true)] ?_
    refine dQ ?_
    show XQ _ _ _ _ _ _ _ _
    refine iT (.tmp 94) ?_
    refine qQ ?_
    refine rS 1 [(10, .bool false)] ?_
    refine dQ ?_
    show XQ _ _ _ _ _ _ _ _
    refine XQ.ret (by kernel_rfl) ?_
    have h := Option.some.inj h
    subst h
    exact ⟨fun i q => (by cases q), .bool false, (by kernel_rfl), rfl⟩
   | false =>
    have h := cF b2 h
    refine rS 6 [(4, .int .u8 e), (11, ii (w64 (1 + (Int.tmod (w64 c) 3)))), (12, ii (Int.tmod (w64 d) 13)), (13, s0 0 r2.length), (14, s0 1 r3.length), (15, s0 2 r4.1.length), (17, s0 3 r5.1.length), (19, ii r6.1), (20, ii r6.2.1), (21, ii r6.2.2), (22, ii r7.1), (23, ii r7.2.1), (94, .bool (((r4.1.length : Nat) : Int) != ((r5.1.length : Nat) : Int)))] ?_
    refine dQ ?_
    show XQ _ _ _ _ _ _ _ _
    cases b3 : (((r4.1.length : Nat) : Int) != ((r5.1.length : Nat) : Int) : Bool) with
    | true =>
     have h := cT b3 h
     refine iT (.tmp 94) ?_
     refine qQ ?_
     refine rS 1 [(10, .bool false)] ?_
     refine dQ ?_
     show XQ _ _ _ _ _ _ _ _
     refine XQ.ret (by kernel_rfl) ?_
     have h := Option.some.inj h
     subst h
     exact ⟨fun i q => (by cases q), .bool false, (by kernel_rfl), rfl⟩
    | false =>
     have h := cF b3 h
     refine iF (.tmp 94) ?_
     refine kQ ?_
     show XQ _ _ _ _ _ _ _ _
     refine sQ ?_
     refine qQ ?_
     refine rS 3 [(4, .int .u8 e), (11, ii (w64 (1 + (Int.tmod (w64 c) 3)))), (12, ii (Int.tmod (w64 d) 13)), (13, s0 0 r2.length), (14, s0 1 r3.length), (15, s0 2 r4.1.length), (17, s0 3 r5.1.length), (19, ii r6.1), (20, ii r6.2.1), (21, ii r6.2.2), (22, ii r7.1), (23, ii r7.2.1), (96, ii ((r4.1.length : Nat) : Int)), (97, ii 0)] ?_
     refine dQ ?_
     show XQ _ _ _ _ _ _ _ _
     refine XQ.block (id := 0) (by kernel_rfl) ?_
     refine XQ.loop m (by kernel_rfl) ?_
     obtain ⟨o1, o1_h, h⟩ := bS h
     refine XL.ren (σ' := [(4, .int .u8 e), (11, ii (w64 (1 + (Int.tmod (w64 c) 3)))), (12, ii (Int.tmod (w64 d) 13)), (13, s0 0 r2.length), (14, s0 1 r3.length), (15, s0 2 r4.1.length), (17, s0 3 r5.1.length), (19, ii r6.1), (20, ii r6.2.1), (21, ii r6.2.2), (22, ii r7.1), (23, ii r7.2.1), (96, ii ((r4.1.length : Nat) : Int)), (97, ii 0)]) (h' := [(3, rc (encI .i64) r5.1 0 3 1), (2, rc (encI .i64) r4.1 0 3 1), (1, rc encP r3 0 61 2), (0, rc encP r2 0 61 2)]) (c' := 4) [0, 1, 2, 3] (by decide) rfl ⟨rfl, rfl, rfl, rfl, rfl, rfl, rfl, rfl, rfl, rfl, rfl, rfl, rfl, rfl, trivial⟩ ⟨⟨_, _, rfl, rfl, .inl ⟨rfl, rwI⟩⟩, ⟨_, _, rfl, rfl, .inl ⟨rfl, rwI⟩⟩, ⟨_, _, rfl, rfl, .inl ⟨rfl, rwP⟩⟩, ⟨_, _, rfl, rfl, .inl ⟨rfl, rwP⟩⟩, trivial⟩ rfl ?_
     cases o1 with
     | r =>
      dsimp only at h
      refine XL.conv (f10_1_ok m m e (w64 (1 + (Int.tmod (w64 c) 3))) (Int.tmod (w64 d) 13) r6.1 r6.2.1 r6.2.2 r7.1 r7.2.1 ((r4.1.length : Nat) : Int) 0 r2 r3 r4.1 r5.1 (.r) o1_h _ ?_) (by first | rfl | simp)
      have h := Option.some.inj h
      subst h
      exact ⟨fun i q => (by cases q), .bool false, (by kernel_rfl), rfl⟩
     | x0 x11_x01 x12_x01 x19_x01 x20_x01 x21_x01 x22_x01 x23_x01 lh0_x01 lh1_x01 =>
      dsimp only at h
      refine XL.conv (f10_1_ok m m e (w64 (1 + (Int.tmod (w64 c) 3))) (Int.tmod (w64 d) 13) r6.1 r6.2.1 r6.2.2 r7.1 r7.2.1 ((r4.1.length : Nat) : Int) 0 r2 r3 r4.1 r5.1 (.x0 x11_x01 x12_x01 x19_x01 x20_x01 x21_x01 x22_x01 x23_x01 lh0_x01 lh1_x01) o1_h _ ?_) (by first | rfl | simp)
      show XQ _ _ _ _ _ _ _ _
      refine sQ ?_
      rcases jS h with ⟨h, hr38⟩ | h
      ·refine XQ.mono (Q := fun xe xσ xh xc => xe = .normal ∧ SubI xσ [(4, .int .u8 e), (11, ii x11_x01), (12, ii x12_x01), (13, s0 0 lh0_x01.length), (14, s0 1 lh1_x01.length)] ∧ (xh, xc) = ([(1, rc encP lh1_x01 0 61 2), (0, rc encP lh0_x01 0 61 2)], 2)) ?_ ?_
       ·rintro _ _ _ _ ⟨rfl, hs, q⟩
        cases q
        show XQ _ _ _ _ _ _ _ _
        refine XQ.drop hs ?_
        have h := hr38
        refine qQ ?_
        refine rS 2 [(4, .int .u8 e), (11, ii x11_x01), (12, ii x12_x01), (13, s0 0 lh0_x01.length), (14, s0 1 lh1_x01.length), (136, s0 0 lh0_x01.length), (137, ii x11_x01)] ?_
        obtain ⟨r8, r8_h, h⟩ := bS h
        refine XR.call E0_ok [4, 11, 12, 13, 14, 138] rfl (K := 31) (args := [s0 0 lh0_x01.length, ii x11_x01]) (d := (some (path 12 138))) (by kernel_rfl) (KQ.call (KC.quiet E0_ok (args0 := [s0 0 lh0_x01.length, ii x11_x01]) (h0 := [(0, rc encP lh0_x01 (0 + ((rowC encP lh0_x01).length + 1)) 61 2)]) (n := 1) (V := .tuple #[ii r8.1, ii r8.2]) [0] (f31_ok m (0 + ((rowC encP lh0_x01).length + 1)) 61 lh0_x01 x11_x01 r8 r8_h) rfl (by rfl) (by decide) rfl (by kernel_rfl) ⟨⟨_, _, rfl, rfl, .inl ⟨rfl, rwP⟩⟩, trivial⟩) rfl) ?_
        rintro _ _ _ ⟨rfl, rfl, rfl⟩
        refine XR.conv (σ' := [(4, .int .u8 e), (11, ii x11_x01), (12, ii x12_x01), (13, s0 0 lh0_x01.length), (14, s0 1 lh1_x01.length), (138, .tuple #[ii r8.1, ii r8.2])]) (h' := [(1, rc encP lh1_x01 0 61 2), (0, rc encP lh0_x01 0 61 2)]) (c' := 2) ?_ (by kernel_rfl)
        refine rS 5 [(4, .int .u8 e), (11, ii x11_x01), (12, ii x12_x01), (13, s0 0 lh0_x01.length), (14, s0 1 lh1_x01.length), (16, ii r8.2), (26, ii r8.1)] ?_
        refine nQ id ?_
        refine rS 2 [(4, .int .u8 e), (11, ii x11_x01), (12, ii x12_x01), (13, s0 0 lh0_x01.length), (14, s0 1 lh1_x01.length), (16, ii r8.2), (26, ii r8.1), (142, s0 1 lh1_x01.length), (143, ii x11_x01)] ?_
        obtain ⟨r9, r9_h, h⟩ := bS h
        refine XR.call E0_ok [4, 11, 12, 13, 14, 16, 26, 144] rfl (K := 31) (args := [s0 1 lh1_x01.length, ii x11_x01]) (d := (some (path 12 144))) (by kernel_rfl) (KQ.call (KC.quiet E0_ok (args0 := [s0 0 lh1_x01.length, ii x11_x01]) (h0 := [(0, rc encP lh1_x01 (0 + ((rowC encP lh1_x01).length + 1)) 61 2)]) (n := 1) (V := .tuple #[ii r9.1, ii r9.2]) [1] (f31_ok m (0 + ((rowC encP lh1_x01).length + 1)) 61 lh1_x01 x11_x01 r9 r9_h) rfl (by rfl) (by decide) rfl (by kernel_rfl) ⟨⟨_, _, rfl, rfl, .inl ⟨rfl, rwP⟩⟩, trivial⟩) rfl) ?_
        rintro _ _ _ ⟨rfl, rfl, rfl⟩
        refine XR.conv (σ' := [(4, .int .u8 e), (11, ii x11_x01), (12, ii x12_x01), (13, s0 0 lh0_x01.length), (14, s0 1 lh1_x01.length), (16, ii r8.2), (26, ii r8.1), (144, .tuple #[ii r9.1, ii r9.2])]) (h' := [(1, rc encP lh1_x01 0 61 2), (0, rc encP lh0_x01 0 61 2)]) (c' := 2) ?_ (by kernel_rfl)
        refine rS 5 [(4, .int .u8 e), (11, ii x11_x01), (12, ii x12_x01), (13, s0 0 lh0_x01.length), (14, s0 1 lh1_x01.length), (16, ii r8.2), (18, ii r9.2), (26, ii r8.1), (27, ii r9.1)] ?_
        refine dQ ?_
        show XQ _ _ _ _ _ _ _ _
        refine sQ ?_
        rcases jS h with ⟨h, hr29⟩ | h
        ·refine XQ.mono (Q := fun xe xσ xh xc => xe = .normal ∧ SubI xσ [(4, .int .u8 e), (11, ii x11_x01), (12, ii x12_x01), (13, s0 0 lh0_x01.length), (14, s0 1 lh1_x01.length)] ∧ (xh, xc) = ([(1, rc encP lh1_x01 0 61 2), (0, rc encP lh0_x01 0 61 2)], 2)) ?_ ?_
         ·rintro _ _ _ _ ⟨rfl, hs, q⟩
          cases q
          show XQ _ _ _ _ _ _ _ _
          refine XQ.drop hs ?_
          have h := hr29
          refine qQ ?_
          refine rS 1 [(4, .int .u8 e), (11, ii x11_x01), (12, ii x12_x01), (13, s0 0 lh0_x01.length), (14, s0 1 lh1_x01.length), (167, s0 0 lh0_x01.length)] ?_
          obtain ⟨r10, r10_h, h⟩ := bS h
          refine XR.call E0_ok [4, 11, 12, 13, 14, 168] rfl (K := 35) (args := [s0 0 lh0_x01.length]) (d := (some (path 12 168))) (by kernel_rfl) (KC.liftH (n0 := 1) (m := 1) (args0 := [s0 0 lh0_x01.length]) (h0 := [(0, rc encP lh0_x01 (0 + ((rowC encP lh0_x01).length + 1)) 61 2)]) (V := .tuple #[s0 1 r10.1.length, ii r10.2]) (V2 := .tuple #[s0 2 r10.1.length, ii r10.2]) (H := [(1, rc (encI .i64) r10.1 0 3 1)]) (H2 := [(2, rc (encI .i64) r10.1 0 3 1)]) [0] [2, 3, 1] (f35_ok m (0 + ((rowC encP lh0_x01).length + 1)) 61 lh0_x01 r10 r10_h) (by rfl) (by decide) rfl (by kernel_rfl) ⟨⟨_, _, rfl, rfl, .inl ⟨rfl, rwP⟩⟩, trivial⟩ (by decide) (by decide) (by kernel_rfl) ⟨⟨_, _, rfl, rfl, .inl ⟨rfl, rwI⟩⟩, trivial⟩ (by rfl)) ?_
          rintro _ _ _ ⟨rfl, rfl, rfl⟩
          refine XR.conv (σ' := [(4, .int .u8 e), (11, ii x11_x01), (12, ii x12_x01), (13, s0 0 lh0_x01.length), (14, s0 1 lh1_x01.length), (168, .tuple #[s0 2 r10.1.length, ii r10.2])]) (h' := [(2, rc (encI .i64) r10.1 0 3 1), (1, rc encP lh1_x01 0 61 2), (0, rc encP lh0_x01 0 61 2)]) (c' := 3) ?_ (by kernel_rfl)
          refine rS 5 [(4, .int .u8 e), (11, ii x11_x01), (12, ii x12_x01), (13, s0 0 lh0_x01.length), (14, s0 1 lh1_x01.length), (16, ii r10.2), (28, s0 2 r10.1.length)] ?_
          refine nQ id ?_
          refine rS 1 [(4, .int .u8 e), (11, ii x11_x01), (12, ii x12_x01), (13, s0 0 lh0_x01.length), (16, ii r10.2), (28, s0 2 r10.1.length), (172, s0 1 lh1_x01.length)] ?_
          obtain ⟨r11, r11_h, h⟩ := bS h
          refine XR.call E0_ok [4, 11, 12, 13, 16, 28, 173] rfl (K := 35) (args := [s0 1 lh1_x01.length]) (d := (some (path 12 173))) (by kernel_rfl) (KC.liftH (n0 := 1) (m := 1) (args0 := [s0 0 lh1_x01.length]) (h0 := [(0, rc encP lh1_x01 (0 + ((rowC encP lh1_x01).length + 1)) 61 2)]) (V := .tuple #[s0 1 r11.1.length, ii r11.2]) (V2 := .tuple #[s0 3 r11.1.length, ii r11.2]) (H := [(1, rc (encI .i64) r11.1 0 3 1)]) (H2 := [(3, rc (encI .i64) r11.1 0 3 1)]) [1] [2, 3, 4, 1] (f35_ok m (0 + ((rowC encP lh1_x01).length + 1)) 61 lh1_x01 r11 r11_h) (by rfl) (by decide) rfl (by kernel_rfl) ⟨⟨_, _, rfl, rfl, .inl ⟨rfl, rwP⟩⟩, trivial⟩ (by decide) (by decide) (by kernel_rfl) ⟨⟨_, _, rfl, rfl, .inl ⟨rfl, rwI⟩⟩, trivial⟩ (by rfl)) ?_
          rintro _ _ _ ⟨rfl, rfl, rfl⟩
          refine XR.conv (σ' := [(4, .int .u8 e), (11, ii x11_x01), (12, ii x12_x01), (13, s0 0 lh0_x01.length), (16, ii r10.2), (28, s0 2 r10.1.length), (173, .tuple #[s0 3 r11.1.length, ii r11.2])]) (h' := [(3, rc (encI .i64) r11.1 0 3 1), (2, rc (encI .i64) r10.1 0 3 1), (1, rc encP lh1_x01 0 61 2), (0, rc encP lh0_x01 0 61 2)]) (c' := 4) ?_ (by kernel_rfl)
          refine rS 5 [(4, .int .u8 e), (11, ii x11_x01), (12, ii x12_x01), (13, s0 0 lh0_x01.length), (16, ii r10.2), (18, ii r11.2), (28, s0 2 r10.1.length), (29, s0 3 r11.1.length)] ?_
          refine dQ ?_
          show XQ _ _ _ _ _ _ _ _
          refine sQ ?_
          refine qQ ?_
          refine rS 3 [(4, .int .u8 e), (11, ii x11_x01), (12, ii x12_x01), (13, s0 0 lh0_x01.length), (18, ii r11.2), (28, s0 2 r10.1.length), (29, s0 3 r11.1.length), (178, .bool (r10.2 != 0))] ?_
          cases b5 : (r10.2 != 0 : Bool) with
          | true =>
           have h := cT b5 h
           refine rS 10 [(4, .int .u8 e), (11, ii x11_x01), (12, ii x12_x01), (13, s0 0 lh0_x01.length), (28, s0 2 r10.1.length), (29, s0 3 r11.1.length), (188, .bool true)] ?_
           refine dQ ?_
           show XQ _ _ _ _ _ _ _ _
           refine iT (.tmp 188) ?_
           refine qQ ?_
           refine rS 1 [(10, .bool false)] ?_
           refine dQ ?_
           show XQ _ _ _ _ _ _ _ _
           refine XQ.ret (by kernel_rfl) ?_
           have h := Option.some.inj h
           subst h
           exact ⟨fun i q => (by cases q), .bool false, (by kernel_rfl), rfl⟩
          | false =>
           have h := cF b5 h
           refine rS 4 [(4, .int .u8 e), (11, ii x11_x01), (12, ii x12_x01), (13, s0 0 lh0_x01.length), (28, s0 2 r10.1.length), (29, s0 3 r11.1.length), (182, .bool (r11.2 != 0))] ?_
           cases b6 : (r11.2 != 0 : Bool) with
           | true =>
            have h := cT b6 h
            refine rS 6 [(4, .int .u8 e), (11, ii x11_x01), (12, ii x12_x01), (13, s0 0 lh0_x01.length), (28, s0 2 r10.1.length), (29, s0 3 r11.1.length), (188, .bool true)] ?_
            refine dQ ?_
            show XQ _ _ _ _ _ _ _ _
            refine iT (.tmp 188) ?_
            refine qQ ?_
            refine rS 1 [(10, .bool false)] ?_
            refine dQ ?_
            show XQ _ _ _ _ _ _ _ _
            refine XQ.ret (by kernel_rfl) ?_
            have h := Option.some.inj h
            subst h
            exact ⟨fun i q => (by cases q), .bool false, (by kernel_rfl), rfl⟩
           | false =>
            have h := cF b6 h
            refine rS 6 [(4, .int .u8 e), (11, ii x11_x01), (12, ii x12_x01), (13, s0 0 lh0_x01.length), (28, s0 2 r10.1.length), (29, s0 3 r11.1.length), (188, .bool (((r10.1.length : Nat) : Int) != ((r11.1.length : Nat) : Int)))] ?_
            refine dQ ?_
            show XQ _ _ _ _ _ _ _ _
            cases b7 : (((r10.1.length : Nat) : Int) != ((r11.1.length : Nat) : Int) : Bool) with
            | true =>
             have h := cT b7 h
             refine iT (.tmp 188) ?_
             refine qQ ?_
             refine rS 1 [(10, .bool false)] ?_
             refine dQ ?_
             show XQ _ _ _ _ _ _ _ _
             refine XQ.ret (by kernel_rfl) ?_
             have h := Option.some.inj h
             subst h
             exact ⟨fun i q => (by cases q), .bool false, (by kernel_rfl), rfl⟩
            | false =>
             have h := cF b7 h
             refine iF (.tmp 188) ?_
             refine kQ ?_
             show XQ _ _ _ _ _ _ _ _
             refine sQ ?_
             refine qQ ?_
             refine rS 3 [(4, .int .u8 e), (11, ii x11_x01), (12, ii x12_x01), (13, s0 0 lh0_x01.length), (28, s0 2 r10.1.length), (29, s0 3 r11.1.length), (190, ii ((r10.1.length : Nat) : Int)), (191, ii 0)] ?_
             refine dQ ?_
             show XQ _ _ _ _ _ _ _ _
             refine XQ.block (id := 2) (by kernel_rfl) ?_
             refine XQ.loop m (by kernel_rfl) ?_
             obtain ⟨o2, o2_h, h⟩ := bS h
             refine XL.ren (σ' := [(4, .int .u8 e), (11, ii x11_x01), (12, ii x12_x01), (13, s0 0 lh0_x01.length), (28, s0 1 r10.1.length), (29, s0 2 r11.1.length), (190, ii ((r10.1.length : Nat) : Int)), (191, ii 0)]) (h' := [(2, rc (encI .i64) r11.1 0 3 1), (1, rc (encI .i64) r10.1 0 3 1), (0, rc encP lh0_x01 0 61 2)]) (c' := 3) [0, 2, 3] (by decide) rfl ⟨rfl, rfl, rfl, rfl, rfl, rfl, rfl, rfl, trivial⟩ ⟨⟨_, _, rfl, rfl, .inl ⟨rfl, rwI⟩⟩, ⟨_, _, rfl, rfl, .inl ⟨rfl, rwI⟩⟩, ⟨_, _, rfl, rfl, .inl ⟨rfl, rwP⟩⟩, trivial⟩ rfl ?_
             cases o2 with
             | r =>
              dsimp only at h
              refine XL.conv (f10_2_ok m m e x11_x01 x12_x01 lh0_x01 ((r10.1.length : Nat) : Int) 0 r10.1 r11.1 (.r) o2_h _ ?_) (by first | rfl | simp)
              have h := Option.some.inj h
              subst h
              exact ⟨fun i q => (by cases q), .bool false, (by kernel_rfl), rfl⟩
             | x2 lh1_x22 =>
              dsimp only at h
              refine XL.conv (f10_2_ok m m e x11_x01 x12_x01 lh0_x01 ((r10.1.length : Nat) : Int) 0 r10.1 r11.1 (.x2 lh1_x22) o2_h _ ?_) (by first | rfl | simp)
              show XQ _ _ _ _ _ _ _ _
              refine qQ ?_
              refine rS 1 [(4, .int .u8 e), (11, ii x11_x01), (13, s0 0 lh0_x01.length), (28, s0 1 lh1_x22.length), (31, .slice none 0 0)] ?_
              refine dQ ?_
              show XQ _ _ _ _ _ _ _ _
              refine XQ.ghost 61 2 rfl (σ' := [(4, .int .u8 e), (11, ii x11_x01), (13, s0 0 lh0_x01.length), (28, s0 1 lh1_x22.length), (31, s0 2 0)]) (h' := [(1, rc (encI .i64) lh1_x22 0 3 1), (0, rc encP lh0_x01 0 61 2)]) ⟨rfl, rfl, rfl, rfl, rfl, trivial⟩ ⟨⟨_, rfl, .inl rfl⟩, ⟨_, rfl, .inl rfl⟩, trivial⟩ ?_
              refine XQ.conv (σ' := [(4, .int .u8 e), (11, ii x11_x01), (13, s0 0 lh0_x01.length), (28, s0 1 lh1_x22.length), (31, s0 2 0)]) (h' := [(2, rc encP [] 0 61 2), (1, rc (encI .i64) lh1_x22 0 3 1), (0, rc encP lh0_x01 0 61 2)]) (c' := 3) ?_ (by kernel_rfl)
              refine sQ ?_
              refine qQ ?_
              refine rS 3 [(4, .int .u8 e), (11, ii x11_x01), (13, s0 0 lh0_x01.length), (28, s0 1 lh1_x22.length), (31, s0 2 0), (207, ii ((lh0_x01.length : Nat) : Int)), (208, ii 0)] ?_
              refine dQ ?_
              show XQ _ _ _ _ _ _ _ _
              refine XQ.block (id := 4) (by kernel_rfl) ?_
              refine XQ.loop m (by kernel_rfl) ?_
              obtain ⟨o3, o3_h, h⟩ := bS h
              refine XL.ren (σ' := [(4, .int .u8 e), (11, ii x11_x01), (13, s0 0 lh0_x01.length), (28, s0 1 lh1_x22.length), (31, s0 2 0), (207, ii ((lh0_x01.length : Nat) : Int)), (208, ii 0)]) (h' := [(2, rc encP [] 0 61 2), (1, rc (encI .i64) lh1_x22 0 3 1), (0, rc encP lh0_x01 0 61 2)]) (c' := 3) [0, 1, 2] (by decide) rfl ⟨rfl, rfl, rfl, rfl, rfl, rfl, rfl, trivial⟩ ⟨⟨_, _, rfl, rfl, .inl ⟨rfl, rwP⟩⟩, ⟨_, _, rfl, rfl, .inl ⟨rfl, rwI⟩⟩, ⟨_, _, rfl, rfl, .inl ⟨rfl, rwP⟩⟩, trivial⟩ rfl ?_
              refine XL.conv (f10_3_ok m m e x11_x01 lh0_x01 lh1_x22 ((lh0_x01.length : Nat) : Int) 0 [] o3 o3_h _ ?_) (by first | rfl | simp)
              show XQ _ _ _ _ _ _ _ _
              refine qQ ?_
              refine rS 1 [(11, ii x11_x01), (13, s0 0 lh0_x01.length), (28, s0 1 lh1_x22.length), (31, s0 2 o3.length), (232, s0 2 o3.length)] ?_
              refine XR.callK E0_ok [11, 13, 28, 31] rfl (K := 46) (args := [s0 2 o3.length]) (d := (some (path 12 233))) (by kernel_rfl) ?_
              refine KC.bodyN E0_ok (F := Proofs.Try.f46) (by kernel_rfl) (code := f10_C46) (by kernel_rfl) (nt := 28) (by kernel_rfl) (rs := []) (by kernel_rfl) (by kernel_rfl) (σ := [(0, s0 2 o3.length)]) (by kernel_rfl) ?_
              refine qQ ?_
              refine rS 5 [(0, s0 2 o3.length), (2, ii 0), (3, ii (w64 (((o3.length : Nat) : Int) - 1)))] ?_
              refine dQ ?_
              show XQ _ _ _ _ _ _ _ _
              refine XQ.block (id := 0) (by kernel_rfl) ?_
              refine XQ.loop m (by kernel_rfl) ?_
              obtain ⟨o4, o4_h, h⟩ := bS h
              refine XL.ren (σ' := [(0, s0 2 o3.length), (2, ii 0), (3, ii (w64 (((o3.length : Nat) : Int) - 1)))]) (h' := [(2, rc encP o3 0 61 2), (1, rc (encI .i64) lh1_x22 0 3 1), (0, rc encP lh0_x01 0 61 2)]) (c' := 3) [0, 1, 2] (by decide) rfl ⟨rfl, rfl, rfl, trivial⟩ ⟨⟨_, _, rfl, rfl, .inl ⟨rfl, rwP⟩⟩, ⟨_, _, rfl, rfl, .inl ⟨rfl, rwI⟩⟩, ⟨_, _, rfl, rfl, .inl ⟨rfl, rwP⟩⟩, trivial⟩ rfl ?_
              refine XL.conv (f10_4_ok m m lh0_x01 lh1_x22 0 (w64 (((o3.length : Nat) : Int) - 1)) o3 o4 o4_h _ ?_) (by first | rfl | simp)
              refine ⟨fun i q => (by cases q), .tuple #[], (by kernel_rfl), ?_⟩
              refine XR.conv (σ' := [(11, ii x11_x01), (13, s0 0 lh0_x01.length), (28, s0 1 lh1_x22.length), (31, s0 2 o3.length)]) (h' := [(2, rc encP o4 0 61 2), (1, rc (encI .i64) lh1_x22 0 3 1), (0, rc encP lh0_x01 0 61 2)]) (c' := 3) ?_ (by kernel_rfl)
              cases b11 : (decide (o3.length = o4.length) : Bool) with
              | false => cases (cF b11 h)
              | true =>
               have h := cT b11 h
               refine XR.conv (σ' := [(11, ii x11_x01), (13, s0 0 lh0_x01.length), (28, s0 1 lh1_x22.length), (31, s0 2 o4.length)]) (h' := [(2, rc encP o4 0 61 2), (1, rc (encI .i64) lh1_x22 0 3 1), (0, rc encP lh0_x01 0 61 2)]) (c' := 3) ?_ (by rw [of_decide_eq_true b11])
               refine nQ id ?_
               refine rS 2 [(11, ii x11_x01), (13, s0 0 lh0_x01.length), (28, s0 1 lh1_x22.length), (31, s0 2 o4.length), (235, s0 0 lh0_x01.length), (236, ii x11_x01)] ?_
               obtain ⟨r12, r12_h, h⟩ := bS h
               refine XR.call E0_ok [11, 13, 28, 31, 237] rfl (K := 18) (args := [s0 0 lh0_x01.length, ii x11_x01]) (d := (some (path 12 237))) (by kernel_rfl) (KC.liftH (n0 := 1) (m := 1) (args0 := [s0 0 lh0_x01.length, ii x11_x01]) (h0 := [(0, rc encP lh0_x01 (0 + ((rowC encP lh0_x01).length + 1)) 61 2)]) (V := .tuple #[s0 1 r12.1.length, ii r12.2]) (V2 := .tuple #[s0 3 r12.1.length, ii r12.2]) (H := [(1, rc (encI .i64) r12.1 0 3 1)]) (H2 := [(3, rc (encI .i64) r12.1 0 3 1)]) [0] [2, 3, 4, 1] (f18_ok m (0 + ((rowC encP lh0_x01).length + 1)) 61 lh0_x01 x11_x01 r12 r12_h) (by rfl) (by decide) rfl (by kernel_rfl) ⟨⟨_, _, rfl, rfl, .inl ⟨rfl, rwP⟩⟩, trivial⟩ (by decide) (by decide) (by kernel_rfl) ⟨⟨_, _, rfl, rfl, .inl ⟨rfl, rwI⟩⟩, trivial⟩ (by rfl)) ?_
               rintro _ _ _ ⟨rfl, rfl, rfl⟩
               refine XR.conv (σ' := [(11, ii x11_x01), (13, s0 0 lh0_x01.length), (28, s0 1 lh1_x22.length), (31, s0 2 o4.length), (237, .tuple #[s0 3 r12.1.length, ii r12.2])]) (h' := [(3, rc (encI .i64) r12.1 0 3 1), (2, rc encP o4 0 61 2), (1, rc (encI .i64) lh1_x22 0 3 1), (0, rc encP lh0_x01 0 61 2)]) (c' := 4) ?_ (by kernel_rfl)
               refine rS 4 [(11, ii x11_x01), (13, s0 0 lh0_x01.length), (16, ii r12.2), (28, s0 1 lh1_x22.length), (31, s0 2 o4.length)] ?_
               refine nQ id ?_
               refine rS 2 [(11, ii x11_x01), (13, s0 0 lh0_x01.length), (16, ii r12.2), (28, s0 1 lh1_x22.length), (31, s0 2 o4.length), (241, s0 2 o4.length), (242, ii x11_x01)] ?_
               obtain ⟨r13, r13_h, h⟩ := bS h
               refine XR.call E0_ok [11, 13, 16, 28, 31, 243] rfl (K := 18) (args := [s0 2 o4.length, ii x11_x01]) (d := (some (path 12 243))) (by kernel_rfl) (KC.liftH (n0 := 1) (m := 1) (args0 := [s0 0 o4.length, ii x11_x01]) (h0 := [(0, rc encP o4 (0 + ((rowC encP o4).length + 1)) 61 2)]) (V := .tuple #[s0 1 r13.1.length, ii r13.2]) (V2 := .tuple #[s0 4 r13.1.length, ii r13.2]) (H := [(1, rc (encI .i64) r13.1 0 3 1)]) (H2 := [(4, rc (encI .i64) r13.1 0 3 1)]) [2] [2, 3, 4, 5, 1] (f18_ok m (0 + ((rowC encP o4).length + 1)) 61 o4 x11_x01 r13 r13_h) (by rfl) (by decide) rfl (by kernel_rfl) ⟨⟨_, _, rfl, rfl, .inl ⟨rfl, rwP⟩⟩, trivial⟩ (by decide) (by decide) (by kernel_rfl) ⟨⟨_, _, rfl, rfl, .inl ⟨rfl, rwI⟩⟩, trivial⟩ (by rfl)) ?_
               rintro _ _ _ ⟨rfl, rfl, rfl⟩
               refine XR.conv (σ' := [(11, ii x11_x01), (13, s0 0 lh0_x01.length), (16, ii r12.2), (28, s0 1 lh1_x22.length), (31, s0 2 o4.length), (243, .tuple #[s0 4 r13.1.length, ii r13.2])]) (h' := [(4, rc (encI .i64) r13.1 0 3 1), (3, rc (encI .i64) r12.1 0 3 1), (2, rc encP o4 0 61 2), (1, rc (encI .i64) lh1_x22 0 3 1), (0, rc encP lh0_x01 0 61 2)]) (c' := 5) ?_ (by kernel_rfl)
               refine rS 4 [(11, ii x11_x01), (13, s0 0 lh0_x01.length), (16, ii r12.2), (18, ii r13.2), (28, s0 1 lh1_x22.length), (31, s0 2 o4.length)] ?_
               refine nQ id ?_
               refine rS 2 [(11, ii x11_x01), (13, s0 0 lh0_x01.length), (16, ii r12.2), (18, ii r13.2), (28, s0 1 lh1_x22.length), (31, s0 2 o4.length), (247, s0 0 lh0_x01.length), (248, ii x11_x01)] ?_
               obtain ⟨r14, r14_h, h⟩ := bS h
               refine XR.call E0_ok [11, 13, 16, 18, 28, 31, 249] rfl (K := 33) (args := [s0 0 lh0_x01.length, ii x11_x01]) (d := (some (path 12 249))) (by kernel_rfl) (KC.liftH (n0 := 1) (m := 1) (args0 := [s0 0 lh0_x01.length, ii x11_x01]) (h0 := [(0, rc encP lh0_x01 (0 + ((rowC encP lh0_x01).length + 1)) 61 2)]) (V := .tuple #[s0 1 r14.1.length, ii r14.2]) (V2 := .tuple #[s0 5 r14.1.length, ii r14.2]) (H := [(1, rc (encI .i64) r14.1 0 3 1)]) (H2 := [(5, rc (encI .i64) r14.1 0 3 1)]) [0] [2, 3, 4, 5, 6, 1] (f33_ok m (0 + ((rowC encP lh0_x01).length + 1)) 61 lh0_x01 x11_x01 r14 r14_h) (by rfl) (by decide) rfl (by kernel_rfl) ⟨⟨_, _, rfl, rfl, .inl ⟨rfl, rwP⟩⟩, trivial⟩ (by decide) (by decide) (by kernel_rfl) ⟨⟨_, _, rfl, rfl, .inl ⟨rfl, rwI⟩⟩, trivial⟩ (by rfl)) ?_
               rintro _ _ _ ⟨rfl, rfl, rfl⟩
               refine XR.conv (σ' := [(11, ii x11_x01), (13, s0 0 lh0_x01.length), (16, ii r12.2), (18, ii r13.2), (28, s0 1 lh1_x22.length), (31, s0 2 o4.length), (249, .tuple #[s0 5 r14.1.length, ii r14.2])]) (h' := [(5, rc (encI .i64) r14.1 0 3 1), (4, rc (encI .i64) r13.1 0 3 1), (3, rc (encI .i64) r12.1 0 3 1), (2, rc encP o4 0 61 2), (1, rc (encI .i64) lh1_x22 0 3 1), (0, rc encP lh0_x01 0 61 2)]) (c' := 6) ?_ (by kernel_rfl)
               refine rS 5 [(11, ii x11_x01), (13, s0 0 lh0_x01.length), (16, ii r12.2), (18, ii r13.2), (21, ii r14.2), (28, s0 1 lh1_x22.length), (31, s0 2 o4.length), (34, s0 5 r14.1.length)] ?_
               refine nQ id ?_
               refine rS 2 [(13, s0 0 lh0_x01.length), (16, ii r12.2), (18, ii r13.2), (21, ii r14.2), (28, s0 1 lh1_x22.length), (31, s0 2 o4.length), (34, s0 5 r14.1.length), (253, s0 2 o4.length), (254, ii x11_x01)] ?_
               obtain ⟨r15, r15_h, h⟩ := bS h
               refine XR.call E0_ok [13, 16, 18, 21, 28, 31, 34, 255] rfl (K := 33) (args := [s0 2 o4.length, ii x11_x01]) (d := (some (path 12 255))) (by kernel_rfl) (KC.liftH (n0 := 1) (m := 1) (args0 := [s0 0 o4.length, ii x11_x01]) (h0 := [(0, rc encP o4 (0 + ((rowC encP o4).length + 1)) 61 2)]) (V := .tuple #[s0 1 r15.1.length, ii r15.2]) (V2 := .tuple #[s0 6 r15.1.length, ii r15.2]) (H := [(1, rc (encI .i64) r15.1 0 3 1)]) (H2 := [(6, rc (encI .i64) r15.1 0 3 1)]) [2] [2, 3, 4, 5, 6, 7, 1] (f33_ok m (0 + ((rowC encP o4).length + 1)) 61 o4 x11_x01 r15 r15_h) (by rfl) (by decide) rfl (by kernel_rfl) ⟨⟨_, _, rfl, rfl, .inl ⟨rfl, rwP⟩⟩, trivial⟩ (by decide) (by decide) (by kernel_rfl) ⟨⟨_, _, rfl, rfl, .inl ⟨rfl, rwI⟩⟩, trivial⟩ (by rfl)) ?_
               rintro _ _ _ ⟨rfl, rfl, rfl⟩
               refine XR.conv (σ' := [(13, s0 0 lh0_x01.length), (16, ii r12.2), (18, ii r13.2), (21, ii r14.2), (28, s0 1 lh1_x22.length), (31, s0 2 o4.length), (34, s0 5 r14.1.length), (255, .tuple #[s0 6 r15.1.length, ii r15.2])]) (h' := [(6, rc (encI .i64) r15.1 0 3 1), (5, rc (encI .i64) r14.1 0 3 1), (4, rc (encI .i64) r13.1 0 3 1), (3, rc (encI .i64) r12.1 0 3 1), (2, rc encP o4 0 61 2), (1, rc (encI .i64) lh1_x22 0 3 1), (0, rc encP lh0_x01 0 61 2)]) (c' := 7) ?_ (by kernel_rfl)
               refine rS 5 [(13, s0 0 lh0_x01.length), (16, ii r12.2), (18, ii r13.2), (21, ii r14.2), (24, ii r15.2), (28, s0 1 lh1_x22.length), (31, s0 2 o4.length), (34, s0 5 r14.1.length), (35, s0 6 r15.1.length)] ?_
               refine dQ ?_
               show XQ _ _ _ _ _ _ _ _
               refine sQ ?_
               refine qQ ?_
               refine rS 4 [(13, s0 0 lh0_x01.length), (21, ii r14.2), (24, ii r15.2), (28, s0 1 lh1_x22.length), (31, s0 2 o4.length), (34, s0 5 r14.1.length), (35, s0 6 r15.1.length), (261, .bool (r12.2 != r13.2))] ?_
               cases b12 : (r12.2 != r13.2 : Bool) with
               | true =>
                have h := cT b12 h
                refine rS 14 [(13, s0 0 lh0_x01.length), (28, s0 1 lh1_x22.length), (31, s0 2 o4.length), (275, .bool true)] ?_
                refine dQ ?_
                show XQ _ _ _ _ _ _ _ _
                refine iT (.tmp 275) ?_
                refine qQ ?_
                refine rS 1 [(10, .bool false)] ?_
                refine dQ ?_
                show XQ _ _ _ _ _ _ _ _
                refine XQ.ret (by kernel_rfl) ?_
                have h := Option.some.inj h
                subst h
                exact ⟨fun i q => (by cases q), .bool false, (by kernel_rfl), rfl⟩
               | false =>
                have h := cF b12 h
                refine rS 4 [(13, s0 0 lh0_x01.length), (24, ii r15.2), (28, s0 1 lh1_x22.length), (31, s0 2 o4.length), (34, s0 5 r14.1.length), (35, s0 6 r15.1.length), (265, .bool (r14.2 != 0))] ?_
                cases b13 : (r14.2 != 0 : Bool) with
                | true =>
                 have h := cT b13 h
                 refine rS 10 [(13, s0 0 lh0_x01.length), (28, s0 1 lh1_x22.length), (31, s0 2 o4.length), (275, .bool true)] ?_
                 refine dQ ?_
                 show XQ _ _ _ _ _ _ _ _
                 refine iT (.tmp 275) ?_
                 refine qQ ?_
                 refine rS 1 [(10, .bool false)] ?_
                 refine dQ ?_
                 show XQ _ _ _ _ _ _ _ _
                 refine XQ.ret (by kernel_rfl) ?_
                 have h := Option.some.inj h
                 subst h
                 exact ⟨fun i q => (by cases q), .bool false, (by kernel_rfl), rfl⟩
                | false =>
                 have h := cF b13 h
                 refine rS 4 [(13, s0 0 lh0_x01.length), (28, s0 1 lh1_x22.length), (31, s0 2 o4.length), (34, s0 5 r14.1.length), (35, s0 6 r15.1.length), (269, .bool (r15.2 != 0))] ?_
                 cases b14 : (r15.2 != 0 : Bool) with
                 | true =>
                  have h := cT b14 h
                  refine rS 6 [(13, s0 0 lh0_x01.length), (28, s0 1 lh1_x22.length), (31, s0 2 o4.length), (275, .bool true)] ?_
                  refine dQ ?_
                  show XQ _ _ _ _ _ _ _ _
                  refine iT (.tmp 275) ?_
                  refine qQ ?_
                  refine rS 1 [(10, .bool false)] ?_
                  refine dQ ?_
                  show XQ _ _ _ _ _ _ _ _
                  refine XQ.ret (by kernel_rfl) ?_
                  have h := Option.some.inj h
                  subst h
                  exact ⟨fun i q => (by cases q), .bool false, (by kernel_rfl), rfl⟩
                 | false =>
                  have h := cF b14 h
                  refine rS 6 [(13, s0 0 lh0_x01.length), (28, s0 1 lh1_x22.length), (31, s0 2 o4.length), (275, .bool (((r14.1.length : Nat) : Int) != ((r15.1.length : Nat) : Int)))] ?_
                  refine dQ ?_
                  show XQ _ _ _ _ _ _ _ _
                  cases b15 : (((r14.1.length : Nat) : Int) != ((r15.1.length : Nat) : Int) : Bool) with
                  | true =>
                   have h := cT b15 h
                   refine iT (.tmp 275) ?_
                   refine qQ ?_
                   refine rS 1 [(10, .bool false)] ?_
                   refine dQ ?_
                   show XQ _ _ _ _ _ _ _ _
                   refine XQ.ret (by kernel_rfl) ?_
                   have h := Option.some.inj h
                   subst h
                   exact ⟨fun i q => (by cases q), .bool false, (by kernel_rfl), rfl⟩
                  | false =>
                   have h := cF b15 h
                   refine iF (.tmp 275) ?_
                   refine kQ ?_
                   show XQ _ _ _ _ _ _ _ _
                   refine qQ ?_
                   refine rS 1 [(28, s0 1 lh1_x22.length), (31, s0 2 o4.length), (277, s0 0 lh0_x01.length)] ?_
                   obtain ⟨r16, r16_h, h⟩ := bS h
                   refine XR.call E0_ok [28, 31, 278] rfl (K := 37) (args := [s0 0 lh0_x01.length]) (d := (some (path 12 278))) (by kernel_rfl) (KC.liftH (n0 := 1) (m := 1) (args0 := [s0 0 lh0_x01.length]) (h0 := [(0, rc encP lh0_x01 (0 + ((rowC encP lh0_x01).length + 1)) 61 2)]) (V := .tuple #[s0 1 r16.1.length, ii r16.2]) (V2 := .tuple #[s0 7 r16.1.length, ii r16.2]) (H := [(1, rc (encI .i64) r16.1 0 3 1)]) (H2 := [(7, rc (encI .i64) r16.1 0 3 1)]) [0] [2, 3, 4, 5, 6, 7, 8, 1] (f37_ok m (0 + ((rowC encP lh0_x01).length + 1)) 61 lh0_x01 r16 r16_h) (by rfl) (by decide) rfl (by kernel_rfl) ⟨⟨_, _, rfl, rfl, .inl ⟨rfl, rwP⟩⟩, trivial⟩ (by decide) (by decide) (by kernel_rfl) ⟨⟨_, _, rfl, rfl, .inl ⟨rfl, rwI⟩⟩, trivial⟩ (by rfl)) ?_
                   rintro _ _ _ ⟨rfl, rfl, rfl⟩
                   refine XR.conv (σ' := [(28, s0 1 lh1_x22.length), (31, s0 2 o4.length), (278, .tuple #[s0 7 r16.1.length, ii r16.2])]) (h' := [(7, rc (encI .i64) r16.1 0 3 1), (6, rc (encI .i64) r15.1 0 3 1), (5, rc (encI .i64) r14.1 0 3 1), (4, rc (encI .i64) r13.1 0 3 1), (3, rc (encI .i64) r12.1 0 3 1), (2, rc encP o4 0 61 2), (1, rc (encI .i64) lh1_x22 0 3 1), (0, rc encP lh0_x01 0 61 2)]) (c' := 8) ?_ (by kernel_rfl)
                   refine rS 5 [(21, ii r16.2), (28, s0 1 lh1_x22.length), (31, s0 2 o4.length), (34, s0 7 r16.1.length)] ?_
                   refine nQ id ?_
                   refine rS 1 [(21, ii r16.2), (28, s0 1 lh1_x22.length), (31, s0 2 o4.length), (34, s0 7 r16.1.length), (282, s0 2 o4.length)] ?_
                   obtain ⟨r17, r17_h, h⟩ := bS h
                   refine XR.call E0_ok [21, 28, 31, 34, 283] rfl (K := 37) (args := [s0 2 o4.length]) (d := (some (path 12 283))) (by kernel_rfl) (KC.liftH (n0 := 1) (m := 1) (args0 := [s0 0 o4.length]) (h0 := [(0, rc encP o4 (0 + ((rowC encP o4).length + 1)) 61 2)]) (V := .tuple #[s0 1 r17.1.length, ii r17.2]) (V2 := .tuple #[s0 8 r17.1.length, ii r17.2]) (H := [(1, rc (encI .i64) r17.1 0 3 1)]) (H2 := [(8, rc (encI .i64) r17.1 0 3 1)]) [2] [2, 3, 4, 5, 6, 7, 8, 9, 1] (f37_ok m (0 + ((rowC encP o4).length + 1)) 61 o4 r17 r17_h) (by rfl) (by decide) rfl (by kernel_rfl) ⟨⟨_, _, rfl, rfl, .inl ⟨rfl, rwP⟩⟩, trivial⟩ (by decide) (by decide) (by kernel_rfl) ⟨⟨_, _, rfl, rfl, .inl ⟨rfl, rwI⟩⟩, trivial⟩ (by rfl)) ?_
                   rintro _ _ _ ⟨rfl, rfl, rfl⟩
                   refine XR.conv (σ' := [(21, ii r16.2), (28, s0 1 lh1_x22.length), (31, s0 2 o4.length), (34, s0 7 r16.1.length), (283, .tuple #[s0 8 r17.1.length, ii r17.2])]) (h' := [(8, rc (encI .i64) r17.1 0 3 1), (7, rc (encI .i64) r16.1 0 3 1), (6, rc (encI .i64) r15.1 0 3 1), (5, rc (encI .i64) r14.1 0 3 1), (4, rc (encI .i64) r13.1 0 3 1), (3, rc (encI .i64) r12.1 0 3 1), (2, rc encP o4 0 61 2), (1, rc (encI .i64) lh1_x22 0 3 1), (0, rc encP lh0_x01 0 61 2)]) (c' := 9) ?_ (by kernel_rfl)
                   refine rS 5 [(21, ii r16.2), (24, ii r17.2), (28, s0 1 lh1_x22.length), (31, s0 2 o4.length), (34, s0 7 r16.1.length), (35, s0 8 r17.1.length)] ?_
                   refine nQ id ?_
                   refine rS 1 [(21, ii r16.2), (24, ii r17.2), (28, s0 1 lh1_x22.length), (34, s0 7 r16.1.length), (35, s0 8 r17.1.length), (287, s0 2 o4.length)] ?_
                   obtain ⟨r18, r18_h, h⟩ := bS h
                   refine XR.call E0_ok [21, 24, 28, 34, 35, 288] rfl (K := 35) (args := [s0 2 o4.length]) (d := (some (path 12 288))) (by kernel_rfl) (KC.liftH (n0 := 1) (m := 1) (args0 := [s0 0 o4.length]) (h0 := [(0, rc encP o4 (0 + ((rowC encP o4).length + 1)) 61 2)]) (V := .tuple #[s0 1 r18.1.length, ii r18.2]) (V2 := .tuple #[s0 9 r18.1.length, ii r18.2]) (H := [(1, rc (encI .i64) r18.1 0 3 1)]) (H2 := [(9, rc (encI .i64) r18.1 0 3 1)]) [2] [2, 3, 4, 5, 6, 7, 8, 9, 10, 1] (f35_ok m (0 + ((rowC encP o4).length + 1)) 61 o4 r18 r18_h) (by rfl) (by decide) rfl (by kernel_rfl) ⟨⟨_, _, rfl, rfl, .inl ⟨rfl, rwP⟩⟩, trivial⟩ (by decide) (by decide) (by kernel_rfl) ⟨⟨_, _, rfl, rfl, .inl ⟨rfl, rwI⟩⟩, trivial⟩ (by rfl)) ?_
                   rintro _ _ _ ⟨rfl, rfl, rfl⟩
                   refine XR.conv (σ' := [(21, ii r16.2), (24, ii r17.2), (28, s0 1 lh1_x22.length), (34, s0 7 r16.1.length), (35, s0 8 r17.1.length), (288, .tuple #[s0 9 r18.1.length, ii r18.2])]) (h' := [(9, rc (encI .i64) r18.1 0 3 1), (8, rc (encI .i64) r17.1 0 3 1), (7, rc (encI .i64) r16.1 0 3 1), (6, rc (encI .i64) r15.1 0 3 1), (5, rc (encI .i64) r14.1 0 3 1), (4, rc (encI .i64) r13.1 0 3 1), (3, rc (encI .i64) r12.1 0 3 1), (2, rc encP o4 0 61 2), (1, rc (encI .i64) lh1_x22 0 3 1), (0, rc encP lh0_x01 0 61 2)]) (c' := 10) ?_ (by kernel_rfl)
                   refine rS 5 [(21, ii r16.2), (24, ii r17.2), (28, s0 1 lh1_x22.length), (34, s0 7 r16.1.length), (35, s0 8 r17.1.length), (36, s0 9 r18.1.length), (37, ii r18.2)] ?_
                   refine nQ id ?_
                   refine rS 3 [(24, ii r17.2), (28, s0 1 lh1_x22.length), (34, s0 7 r16.1.length), (35, s0 8 r17.1.length), (36, s0 9 r18.1.length), (37, ii r18.2), (293, .bool (r16.2 == 0))] ?_
                   cases b16 : (r16.2 == 0 : Bool) with
                   | true =>
                    have h := cT b16 h
                    refine rS 4 [(28, s0 1 lh1_x22.length), (34, s0 7 r16.1.length), (35, s0 8 r17.1.length), (36, s0 9 r18.1.length), (37, ii r18.2), (297, .bool (r17.2 == 0))] ?_
                    cases b17 : (r17.2 == 0 : Bool) with
                    | true =>
                     have h := cT b17 h
                     refine rS 4 [(28, s0 1 lh1_x22.length), (34, s0 7 r16.1.length), (35, s0 8 r17.1.length), (36, s0 9 r18.1.length), (301, .bool (r18.2 == 0))] ?_
                     cases b18 : (r18.2 == 0 : Bool) with
                     | true =>
                      have h := cT b18 h
                      refine rS 7 [(28, s0 1 lh1_x22.length), (36, s0 9 r18.1.length), (308, .bool (((r16.1.length : Nat) : Int) == ((r17.1.length : Nat) : Int)))] ?_
                      cases b19 : (((r16.1.length : Nat) : Int) == ((r17.1.length : Nat) : Int) : Bool) with
                      | true =>
                       have h := cT b19 h
                       refine rS 7 [(315, .bool (((r18.1.length : Nat) : Int) == ((lh1_x22.length : Nat) : Int)))] ?_
                       cases b20 : (((r18.1.length : Nat) : Int) == ((lh1_x22.length : Nat) : Int) : Bool) with
                       | true =>
                        have h := cT b20 h
                        refine XR.call E0_ok [315, 316] rfl (K := 16) (args := []) (d := (some (path 12 316))) (by kernel_rfl) (KC.of_calls E0_ok (F := Proofs.Try.f16) (v := .bool true) (by kernel_rfl) rfl rfl (works_ok)) ?_
                        rintro _ _ _ ⟨rfl, rfl, rfl⟩
                        refine XR.conv (σ' := [(315, .bool true), (316, .bool true)]) (h' := [(9, rc (encI .i64) r18.1 0 3 1), (8, rc (encI .i64) r17.1 0 3 1), (7, rc (encI .i64) r16.1 0 3 1), (6, rc (encI .i64) r15.1 0 3 1), (5, rc (encI .i64) r14.1 0 3 1), (4, rc (encI .i64) r13.1 0 3 1), (3, rc (encI .i64) r12.1 0 3 1), (2, rc encP o4 0 61 2), (1, rc (encI .i64) lh1_x22 0 3 1), (0, rc encP lh0_x01 0 61 2)]) (c' := 10) ?_ (by kernel_rfl)
                        refine rS 2 [(10, .bool true)] ?_
                        refine dQ ?_
                        show XQ _ _ _ _ _ _ _ _
                        refine XQ.ret (by kernel_rfl) ?_
                        have h := Option.some.inj h
                        subst h
                        exact ⟨fun i q => (by cases q), .bool true, (by kernel_rfl), rfl⟩
                       | false =>
                        have h := cF b20 h
                        refine rS 3 [(10, .bool false)] ?_
                        refine dQ ?_
                        show XQ _ _ _ _ _ _ _ _
                        refine XQ.ret (by kernel_rfl) ?_
                        have h := Option.some.inj h
                        subst h
                        exact ⟨fun i q => (by cases q), .bool false, (by kernel_rfl), rfl⟩
                      | false =>
                       have h := cF b19 h
                       refine rS 10 [(10, .bool false)] ?_
                       refine dQ ?_
                       show XQ _ _ _ _ _ _ _ _
                       refine XQ.ret (by kernel_rfl) ?_
                       have h := Option.some.inj h
                       subst h
                       exact ⟨fun i q => (by cases q), .bool false, (by kernel_rfl), rfl⟩
                     | false =>
                      have h := cF b18 h
                      refine rS 17 [(10, .bool false)] ?_
                      refine dQ ?_
                      show XQ _ _ _ _ _ _ _ _
                      refine XQ.ret (by kernel_rfl) ?_
                      have h := Option.some.inj h
                      subst h
                      exact ⟨fun i q => (by cases q), .bool false, (by kernel_rfl), rfl⟩
                    | false =>
                     have h := cF b17 h
                     refine rS 21 [(10, .bool false)] ?_
                     refine dQ ?_
                     show XQ _ _ _ _ _ _ _ _
                     refine XQ.ret (by kernel_rfl) ?_
                     have h := Option.some.inj h
                     subst h
                     exact ⟨fun i q => (by cases q), .bool false, (by kernel_rfl), rfl⟩
                   | false =>
                    have h := cF b16 h
                    refine rS 25 [(10, .bool false)] ?_
                    refine dQ ?_
                    show XQ _ _ _ _ _ _ _ _
                    refine XQ.ret (by kernel_rfl) ?_
                    have h := Option.some.inj h
                    subst h
                    exact ⟨fun i q => (by cases q), .bool false, (by kernel_rfl), rfl⟩
         ·refine qQ ?_
          refine rS 4 [(4, .int .u8 e), (11, ii x11_x01), (12, ii x12_x01), (13, s0 0 lh0_x01.length), (14, s0 1 lh1_x01.length), (16, ii r8.2), (26, ii r8.1), (27, ii r9.1), (150, .bool (r8.2 != r9.2))] ?_
          cases b21 : (r8.2 != r9.2 : Bool) with
          | true =>
           have h := cT b21 h
           refine rS 15 [(4, .int .u8 e), (11, ii x11_x01), (12, ii x12_x01), (13, s0 0 lh0_x01.length), (14, s0 1 lh1_x01.length), (165, .bool true)] ?_
           refine dQ ?_
           show XQ _ _ _ _ _ _ _ _
           refine iT (.tmp 165) ?_
           refine qQ ?_
           refine rS 1 [(10, .bool false)] ?_
           refine dQ ?_
           show XQ _ _ _ _ _ _ _ _
           refine XQ.ret (by kernel_rfl) ?_
           exact (jN h).elim
          | false =>
           have h := cF b21 h
           refine rS 3 [(4, .int .u8 e), (11, ii x11_x01), (12, ii x12_x01), (13, s0 0 lh0_x01.length), (14, s0 1 lh1_x01.length), (26, ii r8.1), (27, ii r9.1), (150, .bool false), (153, .bool (r8.2 == 0))] ?_
           cases b22 : (r8.2 == 0 : Bool) with
           | true =>
            have h := cT b22 h
            refine rS 5 [(4, .int .u8 e), (11, ii x11_x01), (12, ii x12_x01), (13, s0 0 lh0_x01.length), (14, s0 1 lh1_x01.length), (26, ii r8.1), (27, ii r9.1), (150, .bool false), (158, .bool (decide (((lh0_x01.length : Nat) : Int) > 0)))] ?_
            cases b23 : (decide (((lh0_x01.length : Nat) : Int) > 0) : Bool) with
            | true =>
             have h := cT b23 h
             refine rS 7 [(4, .int .u8 e), (11, ii x11_x01), (12, ii x12_x01), (13, s0 0 lh0_x01.length), (14, s0 1 lh1_x01.length), (165, .bool (r9.1 != (w64 (r8.1 + x12_x01))))] ?_
             refine dQ ?_
             show XQ _ _ _ _ _ _ _ _
             cases b24 : (r9.1 != (w64 (r8.1 + x12_x01)) : Bool) with
             | true =>
              have h := cT b24 h
              refine iT (.tmp 165) ?_
              refine qQ ?_
              refine rS 1 [(10, .bool false)] ?_
              refine dQ ?_
              show XQ _ _ _ _ _ _ _ _
              refine XQ.ret (by kernel_rfl) ?_
              exact (jN h).elim
             | false =>
              have h := cF b24 h
              refine iF (.tmp 165) ?_
              refine kQ ?_
              exact ⟨rfl, ⟨rfl, rfl, rfl, rfl, rfl, trivial⟩, rfl⟩
            | false =>
             have h := cF b23 h
             refine rS 7 [(4, .int .u8 e), (11, ii x11_x01), (12, ii x12_x01), (13, s0 0 lh0_x01.length), (14, s0 1 lh1_x01.length), (165, .bool false)] ?_
             refine dQ ?_
             show XQ _ _ _ _ _ _ _ _
             refine iF (.tmp 165) ?_
             refine kQ ?_
             exact ⟨rfl, ⟨rfl, rfl, rfl, rfl, rfl, trivial⟩, rfl⟩
           | false =>
            have h := cF b22 h
            refine rS 12 [(4, .int .u8 e), (11, ii x11_x01), (12, ii x12_x01), (13, s0 0 lh0_x01.length), (14, s0 1 lh1_x01.length), (165, .bool false)] ?_
            refine dQ ?_
            show XQ _ _ _ _ _ _ _ _
            refine iF (.tmp 165) ?_
            refine kQ ?_
            exact ⟨rfl, ⟨rfl, rfl, rfl, rfl, rfl, trivial⟩, rfl⟩
        ·refine qQ ?_
         refine rS 4 [(4, .int .u8 e), (11, ii x11_x01), (12, ii x12_x01), (13, s0 0 lh0_x01.length), (14, s0 1 lh1_x01.length), (16, ii r8.2), (26, ii r8.1), (27, ii r9.1), (150, .bool (r8.2 != r9.2))] ?_
         cases b25 : (r8.2 != r9.2 : Bool) with
         | true =>
          have h := cT b25 h
          refine rS 15 [(4, .int .u8 e), (11, ii x11_x01), (12, ii x12_x01), (13, s0 0 lh0_x01.length), (14, s0 1 lh1_x01.length), (165, .bool true)] ?_
          refine dQ ?_
          show XQ _ _ _ _ _ _ _ _
          refine iT (.tmp 165) ?_
          refine qQ ?_
          refine rS 1 [(10, .bool false)] ?_
          refine dQ ?_
          show XQ _ _ _ _ _ _ _ _
          refine XQ.ret (by kernel_rfl) ?_
          have h := jM h
          have h := Option.some.inj h
          subst h
          exact ⟨fun i q => (by cases q), .bool false, (by kernel_rfl), rfl⟩
         | false =>
          have h := cF b25 h
          refine rS 3 [(4, .int .u8 e), (11, ii x11_x01), (12, ii x12_x01), (13, s0 0 lh0_x01.length), (14, s0 1 lh1_x01.length), (26, ii r8.1), (27, ii r9.1), (150, .bool false), (153, .bool (r8.2 == 0))] ?_
          cases b26 : (r8.2 == 0 : Bool) with
          | true =>
           have h := cT b26 h
           refine rS 5 [(4, .int .u8 e), (11, ii x11_x01), (12, ii x12_x01), (13, s0 0 lh0_x01.length), (14, s0 1 lh1_x01.length), (26, ii r8.1), (27, ii r9.1), (150, .bool false), (158, .bool (decide (((lh0_x01.length : Nat) : Int) > 0)))] ?_
           cases b27 : (decide (((lh0_x01.length : Nat) : Int) > 0) : Bool) with
           | true =>
            have h := cT b27 h
            refine rS 7 [(4, .int .u8 e), (11, ii x11_x01), (12, ii x12_x01), (13, s0 0 lh0_x01.length), (14, s0 1 lh1_x01.length), (165, .bool (r9.1 != (w64 (r8.1 + x12_x01))))] ?_
            refine dQ ?_
            show XQ _ _ _ _ _ _ _ _
            cases b28 : (r9.1 != (w64 (r8.1 + x12_x01)) : Bool) with
            | true =>
             have h := cT b28 h
             refine iT (.tmp 165) ?_
             refine qQ ?_
             refine rS 1 [(10, .bool false)] ?_
             refine dQ ?_
             show XQ _ _ _ _ _ _ _ _
             refine XQ.ret (by kernel_rfl) ?_
             have h := jM h
             have h := Option.some.inj h
             subst h
             exact ⟨fun i q => (by cases q), .bool false, (by kernel_rfl), rfl⟩
            | false =>
             have h := cF b28 h
             refine iF (.tmp 165) ?_
             refine kQ ?_
             exact (jC h).elim
           | false =>
            have h := cF b27 h
            refine rS 7 [(4, .int .u8 e), (11, ii x11_x01), (12, ii x12_x01), (13, s0 0 lh0_x01.length), (14, s0 1 lh1_x01.length), (165, .bool false)] ?_
            refine dQ ?_
            show XQ _ _ _ _ _ _ _ _
            refine iF (.tmp 165) ?_
            refine kQ ?_
            exact (jC h).elim
          | false =>
           have h := cF b26 h
           refine rS 12 [(4, .int .u8 e), (11, ii x11_x01), (12, ii x12_x01), (13, s0 0 lh0_x01.length), (14, s0 1 lh1_x01.length), (165, .bool false)] ?_
           refine dQ ?_
           show XQ _ _ _ _ _ _ _ _
           refine iF (.tmp 165) ?_
           refine kQ ?_
           exact (jC h).elim
       ·refine qQ ?_
        refine rS 3 [(4, .int .u8 e), (11, ii x11_x01), (12, ii x12_x01), (13, s0 0 lh0_x01.length), (14, s0 1 lh1_x01.length), (19, ii x19_x01), (20, ii x20_x01), (22, ii x22_x01), (23, ii x23_x01), (114, .bool (x21_x01 == 0))] ?_
        cases b30 : (x21_x01 == 0 : Bool) with
        | true =>
         have h := cT b30 h
         refine rS 6 [(4, .int .u8 e), (11, ii x11_x01), (12, ii x12_x01), (13, s0 0 lh0_x01.length), (14, s0 1 lh1_x01.length), (19, ii x19_x01), (20, ii x20_x01), (22, ii x22_x01), (23, ii x23_x01), (114, .bool true), (120, .bool (decide (x22_x01 > (w64 (x19_x01 + x12_x01)))))] ?_
         cases b31 : (decide (x22_x01 > (w64 (x19_x01 + x12_x01))) : Bool) with
         | true =>
          have h := cT b31 h
          refine rS 14 [(4, .int .u8 e), (11, ii x11_x01), (12, ii x12_x01), (13, s0 0 lh0_x01.length), (14, s0 1 lh1_x01.length), (134, .bool true)] ?_
          refine dQ ?_
          show XQ _ _ _ _ _ _ _ _
          refine iT (.tmp 134) ?_
          refine qQ ?_
          refine rS 1 [(10, .bool false)] ?_
          refine dQ ?_
          show XQ _ _ _ _ _ _ _ _
          refine XQ.ret (by kernel_rfl) ?_
          exact (jN h).elim
         | false =>
          have h := cF b31 h
          refine rS 6 [(4, .int .u8 e), (11, ii x11_x01), (12, ii x12_x01), (13, s0 0 lh0_x01.length), (14, s0 1 lh1_x01.length), (20, ii x20_x01), (23, ii x23_x01), (114, .bool true), (120, .bool false), (126, .bool (x22_x01 == (w64 (x19_x01 + x12_x01))))] ?_
          cases b32 : (x22_x01 == (w64 (x19_x01 + x12_x01)) : Bool) with
          | true =>
           have h := cT b32 h
           refine rS 8 [(4, .int .u8 e), (11, ii x11_x01), (12, ii x12_x01), (13, s0 0 lh0_x01.length), (14, s0 1 lh1_x01.length), (134, .bool (x23_x01 != (w64 (x20_x01 + x12_x01))))] ?_
           refine dQ ?_
           show XQ _ _ _ _ _ _ _ _
           cases b33 : (x23_x01 != (w64 (x20_x01 + x12_x01)) : Bool) with
           | true =>
            have h := cT b33 h
            refine iT (.tmp 134) ?_
            refine qQ ?_
            refine rS 1 [(10, .bool false)] ?_
            refine dQ ?_
            show XQ _ _ _ _ _ _ _ _
            refine XQ.ret (by kernel_rfl) ?_
            exact (jN h).elim
           | false =>
            have h := cF b33 h
            refine iF (.tmp 134) ?_
            refine kQ ?_
            exact ⟨rfl, ⟨rfl, rfl, rfl, rfl, rfl, trivial⟩, rfl⟩
          | false =>
           have h := cF b32 h
           refine rS 8 [(4, .int .u8 e), (11, ii x11_x01), (12, ii x12_x01), (13, s0 0 lh0_x01.length), (14, s0 1 lh1_x01.length), (134, .bool false)] ?_
           refine dQ ?_
           show XQ _ _ _ _ _ _ _ _
           refine iF (.tmp 134) ?_
           refine kQ ?_
           exact ⟨rfl, ⟨rfl, rfl, rfl, rfl, rfl, trivial⟩, rfl⟩
        | false =>
         have h := cF b30 h
         refine rS 20 [(4, .int .u8 e), (11, ii x11_x01), (12, ii x12_x01), (13, s0 0 lh0_x01.length), (14, s0 1 lh1_x01.length), (134, .bool false)] ?_
         refine dQ ?_
         show XQ _ _ _ _ _ _ _ _
         refine iF (.tmp 134) ?_
         refine kQ ?_
         exact ⟨rfl, ⟨rfl, rfl, rfl, rfl, rfl, trivial⟩, rfl⟩
      ·refine qQ ?_
       refine rS 3 [(4, .int .u8 e), (11, ii x11_x01), (12, ii x12_x01), (13, s0 0 lh0_x01.length), (14, s0 1 lh1_x01.length), (19, ii x19_x01), (20, ii x20_x01), (22, ii x22_x01), (23, ii x23_x01), (114, .bool (x21_x01 == 0))] ?_
       cases b34 : (x21_x01 == 0 : Bool) with
       | true =>
        have h := cT b34 h
        refine rS 6 [(4, .int .u8 e), (11, ii x11_x01), (12, ii x12_x01), (13, s0 0 lh0_x01.length), (14, s0 1 lh1_x01.length), (19, ii x19_x01), (20, ii x20_x01), (22, ii x22_x01), (23, ii x23_x01), (114, .bool true), (120, .bool (decide (x22_x01 > (w64 (x19_x01 + x12_x01)))))] ?_
        cases b35 : (decide (x22_x01 > (w64 (x19_x01 + x12_x01))) : Bool) with
        | true =>
         have h := cT b35 h
         refine rS 14 [(4, .int .u8 e), (11, ii x11_x01), (12, ii x12_x01), (13, s0 0 lh0_x01.length), (14, s0 1 lh1_x01.length), (134, .bool true)] ?_
         refine dQ ?_
         show XQ _ _ _ _ _ _ _ _
         refine iT (.tmp 134) ?_
         refine qQ ?_
         refine rS 1 [(10, .bool false)] ?_
         refine dQ ?_
         show XQ _ _ _ _ _ _ _ _
         refine XQ.ret (by kernel_rfl) ?_
         have h := jM h
         have h := Option.some.inj h
         subst h
         exact ⟨fun i q => (by cases q), .bool false, (by kernel_rfl), rfl⟩
        | false =>
         have h := cF b35 h
         refine rS 6 [(4, .int .u8 e), (11, ii x11_x01), (12, ii x12_x01), (13, s0 0 lh0_x01.length), (14, s0 1 lh1_x01.length), (20, ii x20_x01), (23, ii x23_x01), (114, .bool true), (120, .bool false), (126, .bool (x22_x01 == (w64 (x19_x01 + x12_x01))))] ?_
         cases b36 : (x22_x01 == (w64 (x19_x01 + x12_x01)) : Bool) with
         | true =>
          have h := cT b36 h
          refine rS 8 [(4, .int .u8 e), (11, ii x11_x01), (12, ii x12_x01), (13, s0 0 lh0_x01.length), (14, s0 1 lh1_x01.length), (134, .bool (x23_x01 != (w64 (x20_x01 + x12_x01))))] ?_
          refine dQ ?_
          show XQ _ _ _ _ _ _ _ _
          cases b37 : (x23_x01 != (w64 (x20_x01 + x12_x01)) : Bool) with
          | true =>
           have h := cT b37 h
           refine iT (.tmp 134) ?_
           refine qQ ?_
           refine rS 1 [(10, .bool false)] ?_
           refine dQ ?_
           show XQ _ _ _ _ _ _ _ _
           refine XQ.ret (by kernel_rfl) ?_
           have h := jM h
           have h := Option.some.inj h
           subst h
           exact ⟨fun i q => (by cases q), .bool false, (by kernel_rfl), rfl⟩
          | false =>
           have h := cF b37 h
           refine iF (.tmp 134) ?_
           refine kQ ?_
           exact (jC h).elim
         | false =>
          have h := cF b36 h
          refine rS 8 [(4, .int .u8 e), (11, ii x11_x01), (12, ii x12_x01), (13, s0 0 lh0_x01.length), (14, s0 1 lh1_x01.length), (134, .bool false)] ?_
          refine dQ ?_
          show XQ _ _ _ _ _ _ _ _
          refine iF (.tmp 134) ?_
          refine kQ ?_
          exact (jC h).elim
       | false =>
        have h := cF b34 h
        refine rS 20 [(4, .int .u8 e), (11, ii x11_x01), (12, ii x12_x01), (13, s0 0 lh0_x01.length), (14, s0 1 lh1_x01.length), (134, .bool false)] ?_
        refine dQ ?_
        show XQ _ _ _ _ _ _ _ _
        refine iF (.tmp 134) ?_
        refine kQ ?_
        exact (jC h).elim
 ·have xa6 : XA E0 318 0 (opsOf (lft (rgt (rgt (rgt f10_C10))))) 0 #[true, true, true, true, true, true, true, true, true, true, true] [(4, .int .u8 e), (11, ii (w64 (1 + (Int.tmod (w64 c) 3)))), (12, ii (Int.tmod (w64 d) 13)), (13, s0 0 r2.length), (14, s0 1 r3.length)] [(1, rc encP r3 0 61 2), (0, rc encP r2 0 61 2)] 2 (fun xe xσ xh xc => xe = .normal ∧ (xσ, xh, xc) = ([(4, .int .u8 e), (11, ii (w64 (1 + (Int.tmod (w64 c) 3)))), (12, ii (Int.tmod (w64 d) 13)), (13, s0 0 r2.length), (14, s0 1 r3.length)], [(1, rc encP r3 0 61 2), (0, rc encP r2 0 61 2)], 2)) := by
   exact XA.done (by kernel_rfl) ⟨rfl, rfl⟩
  have xa5 : XA E0 318 0 (opsOf (lft (rgt (rgt (rgt f10_C10))))) 1 #[true, true, true, true, true, true, true, true, true, true, false] [(4, .int .u8 e), (11, ii (w64 (1 + (Int.tmod (w64 c) 3)))), (12, ii (Int.tmod (w64 d) 13)), (13, s0 0 r2.length), (53, s0 1 r3.length)] [(1, rc encP r3 0 61 2), (0, rc encP r2 0 61 2)] 2 (fun xe xσ xh xc => xe = .normal ∧ (xσ, xh, xc) = ([(4, .int .u8 e), (11, ii (w64 (1 + (Int.tmod (w64 c) 3)))), (12, ii (Int.tmod (w64 d) 13)), (13, s0 0 r2.length), (14, s0 1 r3.length)], [(1, rc encP r3 0 61 2), (0, rc encP r2 0 61 2)], 2)) := by
   refine XA.step E0_ok [10] (by kernel_rfl) rfl (by kernel_rfl) ⟨?_, trivial⟩
   ·refine rS 1 [(4, .int .u8 e), (11, ii (w64 (1 + (Int.tmod (w64 c) 3)))), (12, ii (Int.tmod (w64 d) 13)), (13, s0 0 r2.length), (14, s0 1 r3.length)] ?_
    refine dQ ?_
    refine ⟨rfl, ?_⟩
    show XA _ _ _ _ _ _ _ _ _ _
    exact xa6
  have xa4 : XA E0 318 0 (opsOf (lft (rgt (rgt (rgt f10_C10))))) 2 #[true, true, true, true, true, true, true, true, true, false, false] [(4, .int .u8 e), (11, ii (w64 (1 + (Int.tmod (w64 c) 3)))), (12, ii (Int.tmod (w64 d) 13)), (48, s0 0 r2.length), (53, s0 1 r3.length)] [(1, rc encP r3 0 61 2), (0, rc encP r2 0 61 2)] 2 (fun xe xσ xh xc => xe = .normal ∧ (xσ, xh, xc) = ([(4, .int .u8 e), (11, ii (w64 (1 + (Int.tmod (w64 c) 3)))), (12, ii (Int.tmod (w64 d) 13)), (13, s0 0 r2.length), (14, s0 1 r3.length)], [(1, rc encP r3 0 61 2), (0, rc encP r2 0 61 2)], 2)) := by
   refine XA.step E0_ok [9] (by kernel_rfl) rfl (by kernel_rfl) ⟨?_, trivial⟩
   ·refine rS 1 [(4, .int .u8 e), (11, ii (w64 (1 + (Int.tmod (w64 c) 3)))), (12, ii (Int.tmod (w64 d) 13)), (13, s0 0 r2.length), (53, s0 1 r3.length)] ?_
    refine dQ ?_
    refine ⟨rfl, ?_⟩
    show XA _ _ _ _ _ _ _ _ _ _
    exact xa5
  have xa3 : XA E0 318 0 (opsOf (lft (rgt (rgt (rgt f10_C10))))) 3 #[true, true, true, true, true, true, true, true, false, false, false] [(4, .int .u8 e), (11, ii (w64 (1 + (Int.tmod (w64 c) 3)))), (12, ii (Int.tmod (w64 d) 13)), (48, s0 0 r2.length), (49, .agg #[.int .u8 a_0_0, .int .u8 a_0_1, .int .u8 a_1_0, .int .u8 a_1_1, .int .u8 a_2_0, .int .u8 a_2_1, .int .u8 a_3_0, .int .u8 a_3_1, .int .u8 a_4_0, .int .u8 a_4_1, .int .u8 a_5_0, .int .u8 a_5_1, .int .u8 a_6_0, .int .u8 a_6_1, .int .u8 a_7_0, .int .u8 a_7_1]), (51, ii (w64 b)), (52, ii (Int.tmod (w64 d) 13))] [(0, rc encP r2 0 61 2)] 1 (fun xe xσ xh xc => xe = .normal ∧ (xσ, xh, xc) = ([(4, .int .u8 e), (11, ii (w64 (1 + (Int.tmod (w64 c) 3)))), (12, ii (Int.tmod (w64 d) 13)), (13, s0 0 r2.length), (14, s0 1 r3.length)], [(1, rc encP r3 0 61 2), (0, rc encP r2 0 61 2)], 2)) := by
   refine XA.step E0_ok [8] (by kernel_rfl) rfl (by kernel_rfl) ⟨?_, trivial⟩
   ·refine XR.call E0_ok [4, 11, 12, 48, 53] rfl (K := 41) (args := [.agg #[.int .u8 a_0_0, .int .u8 a_0_1, .int .u8 a_1_0, .int .u8 a_1_1, .int .u8 a_2_0, .int .u8 a_2_1, .int .u8 a_3_0, .int .u8 a_3_1, .int .u8 a_4_0, .int .u8 a_4_1, .int .u8 a_5_0, .int .u8 a_5_1, .int .u8 a_6_0, .int .u8 a_6_1, .int .u8 a_7_0, .int .u8 a_7_1], ii (w64 b), ii 8, ii 12, ii (Int.tmod (w64 d) 13)]) (d := (some (path 12 53))) (by kernel_rfl) (KC.lift (V2 := s0 1 r3.length) (H2 := [(1, rc encP r3 0 61 2)]) [1, 0] (f41_ok m a_0_0 a_0_1 a_1_0 a_1_1 a_2_0 a_2_1 a_3_0 a_3_1 a_4_0 a_4_1 a_5_0 a_5_1 a_6_0 a_6_1 a_7_0 a_7_1 (w64 b) 8 12 (Int.tmod (w64 d) 13) r3 r3_h) rfl (by decide) (by decide) (by kernel_rfl) ⟨⟨_, _, rfl, rfl, .inl ⟨rfl, rwP⟩⟩, trivial⟩ (by rfl)) ?_
    rintro _ _ _ ⟨rfl, rfl, rfl⟩
    refine XR.conv (σ' := [(4, .int .u8 e), (11, ii (w64 (1 + (Int.tmod (w64 c) 3)))), (12, ii (Int.tmod (w64 d) 13)), (48, s0 0 r2.length), (53, s0 1 r3.length)]) (h' := [(1, rc encP r3 0 61 2), (0, rc encP r2 0 61 2)]) (c' := 2) ?_ (by kernel_rfl)
    refine dQ ?_
    refine ⟨rfl, ?_⟩
    show XA _ _ _ _ _ _ _ _ _ _
    exact xa4
  have xa2 : XA E0 318 0 (opsOf (lft (rgt (rgt (rgt f10_C10))))) 4 #[true, true, true, true, false, true, true, true, false, false, false] [(4, .int .u8 e), (5, pp 0 0), (11, ii (w64 (1 + (Int.tmod (w64 c) 3)))), (12, ii (Int.tmod (w64 d) 13)), (48, s0 1 r2.length), (51, ii (w64 b)), (52, ii (Int.tmod (w64 d) 13))] [(1, rc encP r2 0 61 2), (0, .cells [.int .u8 a_0_0, .int .u8 a_0_1, .int .u8 a_1_0, .int .u8 a_1_1, .int .u8 a_2_0, .int .u8 a_2_1, .int .u8 a_3_0, .int .u8 a_3_1, .int .u8 a_4_0, .int .u8 a_4_1, .int .u8 a_5_0, .int .u8 a_5_1, .int .u8 a_6_0, .int .u8 a_6_1, .int .u8 a_7_0, .int .u8 a_7_1] 0 56 0)] 2 (fun xe xσ xh xc => xe = .normal ∧ (xσ, xh, xc) = ([(4, .int .u8 e), (11, ii (w64 (1 + (Int.tmod (w64 c) 3)))), (12, ii (Int.tmod (w64 d) 13)), (13, s0 0 r2.length), (14, s0 1 r3.length)], [(1, rc encP r3 0 61 2), (0, rc encP r2 0 61 2)], 2)) := by
   refine XA.step E0_ok [4] (by kernel_rfl) rfl (by kernel_rfl) ⟨?_, trivial⟩
   ·refine rS 1 [(4, .int .u8 e), (11, ii (w64 (1 + (Int.tmod (w64 c) 3)))), (12, ii (Int.tmod (w64 d) 13)), (48, s0 1 r2.length), (49, .agg #[.int .u8 a_0_0, .int .u8 a_0_1, .int .u8 a_1_0, .int .u8 a_1_1, .int .u8 a_2_0, .int .u8 a_2_1, .int .u8 a_3_0, .int .u8 a_3_1, .int .u8 a_4_0, .int .u8 a_4_1, .int .u8 a_5_0, .int .u8 a_5_1, .int .u8 a_6_0, .int .u8 a_6_1, .int .u8 a_7_0, .int .u8 a_7_1]), (51, ii (w64 b)), (52, ii (Int.tmod (w64 d) 13))] ?_
    refine dQ ?_
    refine ⟨rfl, ?_⟩
    show XA _ _ _ _ _ _ _ _ _ _
    refine XA.ren (σ' := [(4, .int .u8 e), (11, ii (w64 (1 + (Int.tmod (w64 c) 3)))), (12, ii (Int.tmod (w64 d) 13)), (48, s0 0 r2.length), (49, .agg #[.int .u8 a_0_0, .int .u8 a_0_1, .int .u8 a_1_0, .int .u8 a_1_1, .int .u8 a_2_0, .int .u8 a_2_1, .int .u8 a_3_0, .int .u8 a_3_1, .int .u8 a_4_0, .int .u8 a_4_1, .int .u8 a_5_0, .int .u8 a_5_1, .int .u8 a_6_0, .int .u8 a_6_1, .int .u8 a_7_0, .int .u8 a_7_1]), (51, ii (w64 b)), (52, ii (Int.tmod (w64 d) 13))]) (h' := [(0, rc encP r2 0 61 2)]) (c' := 1) [1] (by decide) rfl ⟨rfl, rfl, rfl, rfl, rfl, rfl, rfl, trivial⟩ ⟨⟨_, _, rfl, rfl, .inl ⟨rfl, rwP⟩⟩, trivial⟩ rfl ?_
    exact xa3
  have xa7 : XA E0 318 0 (opsOf (lft (rgt (rgt (rgt f10_C10))))) 4 #[true, true, true, false, true, true, true, true, false, false, false] [(4, .int .u8 e), (11, ii (w64 (1 + (Int.tmod (w64 c) 3)))), (12, ii (Int.tmod (w64 d) 13)), (45, .agg #[.int .u8 a_0_0, .int .u8 a_0_1, .int .u8 a_1_0, .int .u8 a_1_1, .int .u8 a_2_0, .int .u8 a_2_1, .int .u8 a_3_0, .int .u8 a_3_1, .int .u8 a_4_0, .int .u8 a_4_1, .int .u8 a_5_0, .int .u8 a_5_1, .int .u8 a_6_0, .int .u8 a_6_1, .int .u8 a_7_0, .int .u8 a_7_1]), (47, ii (w64 b)), (49, .agg #[.int .u8 a_0_0, .int .u8 a_0_1, .int .u8 a_1_0, .int .u8 a_1_1, .int .u8 a_2_0, .int .u8 a_2_1, .int .u8 a_3_0, .int .u8 a_3_1, .int .u8 a_4_0, .int .u8 a_4_1, .int .u8 a_5_0, .int .u8 a_5_1, .int .u8 a_6_0, .int .u8 a_6_1, .int .u8 a_7_0, .int .u8 a_7_1]), (51, ii (w64 b)), (52, ii (Int.tmod (w64 d) 13))] [] 0 (fun xe xσ xh xc => xe = .normal ∧ (xσ, xh, xc) = ([(4, .int .u8 e), (11, ii (w64 (1 + (Int.tmod (w64 c) 3)))), (12, ii (Int.tmod (w64 d) 13)), (13, s0 0 r2.length), (14, s0 1 r3.length)], [(1, rc encP r3 0 61 2), (0, rc encP r2 0 61 2)], 2)) := by
   refine XA.step E0_ok [3] (by kernel_rfl) rfl (by kernel_rfl) ⟨?_, trivial⟩
   ·refine XR.call E0_ok [4, 11, 12, 48, 49, 51, 52] rfl (K := 41) (args := [.agg #[.int .u8 a_0_0, .int .u8 a_0_1, .int .u8 a_1_0, .int .u8 a_1_1, .int .u8 a_2_0, .int .u8 a_2_1, .int .u8 a_3_0, .int .u8 a_3_1, .int .u8 a_4_0, .int .u8 a_4_1, .int .u8 a_5_0, .int .u8 a_5_1, .int .u8 a_6_0, .int .u8 a_6_1, .int .u8 a_7_0, .int .u8 a_7_1], ii (w64 b), ii 8, ii 12, ii 0]) (d := (some (path 12 48))) (by kernel_rfl) (KC.lift (V2 := s0 0 r2.length) (H2 := [(0, rc encP r2 0 61 2)]) [0] (f41_ok m a_0_0 a_0_1 a_1_0 a_1_1 a_2_0 a_2_1 a_3_0 a_3_1 a_4_0 a_4_1 a_5_0 a_5_1 a_6_0 a_6_1 a_7_0 a_7_1 (w64 b) 8 12 0 r2 r2_h) rfl (by decide) (by decide) (by kernel_rfl) ⟨⟨_, _, rfl, rfl, .inl ⟨rfl, rwP⟩⟩, trivial⟩ (by rfl)) ?_
    rintro _ _ _ ⟨rfl, rfl, rfl⟩
    refine XR.conv (σ' := [(4, .int .u8 e), (11, ii (w64 (1 + (Int.tmod (w64 c) 3)))), (12, ii (Int.tmod (w64 d) 13)), (48, s0 0 r2.length), (49, .agg #[.int .u8 a_0_0, .int .u8 a_0_1, .int .u8 a_1_0, .int .u8 a_1_1, .int .u8 a_2_0, .int .u8 a_2_1, .int .u8 a_3_0, .int .u8 a_3_1, .int .u8 a_4_0, .int .u8 a_4_1, .int .u8 a_5_0, .int .u8 a_5_1, .int .u8 a_6_0, .int .u8 a_6_1, .int .u8 a_7_0, .int .u8 a_7_1]), (51, ii (w64 b)), (52, ii (Int.tmod (w64 d) 13))]) (h' := [(0, rc encP r2 0 61 2)]) (c' := 1) ?_ (by kernel_rfl)
    refine dQ ?_
    refine ⟨rfl, ?_⟩
    show XA _ _ _ _ _ _ _ _ _ _
    exact xa3
  have xa1 : XA E0 318 0 (opsOf (lft (rgt (rgt (rgt f10_C10))))) 5 #[true, true, true, false, false, true, true, true, false, false, false] [(4, .int .u8 e), (5, pp 0 0), (11, ii (w64 (1 + (Int.tmod (w64 c) 3)))), (12, ii (Int.tmod (w64 d) 13)), (45, .agg #[.int .u8 a_0_0, .int .u8 a_0_1, .int .u8 a_1_0, .int .u8 a_1_1, .int .u8 a_2_0, .int .u8 a_2_1, .int .u8 a_3_0, .int .u8 a_3_1, .int .u8 a_4_0, .int .u8 a_4_1, .int .u8 a_5_0, .int .u8 a_5_1, .int .u8 a_6_0, .int .u8 a_6_1, .int .u8 a_7_0, .int .u8 a_7_1]), (47, ii (w64 b)), (51, ii (w64 b)), (52, ii (Int.tmod (w64 d) 13))] [(0, .cells [.int .u8 a_0_0, .int .u8 a_0_1, .int .u8 a_1_0, .int .u8 a_1_1, .int .u8 a_2_0, .int .u8 a_2_1, .int .u8 a_3_0, .int .u8 a_3_1, .int .u8 a_4_0, .int .u8 a_4_1, .int .u8 a_5_0, .int .u8 a_5_1, .int .u8 a_6_0, .int .u8 a_6_1, .int .u8 a_7_0, .int .u8 a_7_1] 0 56 0)] 1 (fun xe xσ xh xc => xe = .normal ∧ (xσ, xh, xc) = ([(4, .int .u8 e), (11, ii (w64 (1 + (Int.tmod (w64 c) 3)))), (12, ii (Int.tmod (w64 d) 13)), (13, s0 0 r2.length), (14, s0 1 r3.length)], [(1, rc encP r3 0 61 2), (0, rc encP r2 0 61 2)], 2)) := by
   refine XA.step E0_ok [3, 4] (by kernel_rfl) rfl (by kernel_rfl) ⟨?_, ?_, trivial⟩
   ·refine XR.call E0_ok [4, 5, 11, 12, 48, 51, 52] rfl (K := 41) (args := [.agg #[.int .u8 a_0_0, .int .u8 a_0_1, .int .u8 a_1_0, .int .u8 a_1_1, .int .u8 a_2_0, .int .u8 a_2_1, .int .u8 a_3_0, .int .u8 a_3_1, .int .u8 a_4_0, .int .u8 a_4_1, .int .u8 a_5_0, .int .u8 a_5_1, .int .u8 a_6_0, .int .u8 a_6_1, .int .u8 a_7_0, .int .u8 a_7_1], ii (w64 b), ii 8, ii 12, ii 0]) (d := (some (path 12 48))) (by kernel_rfl) (KC.lift (V2 := s0 1 r2.length) (H2 := [(1, rc encP r2 0 61 2)]) [1, 0] (f41_ok m a_0_0 a_0_1 a_1_0 a_1_1 a_2_0 a_2_1 a_3_0 a_3_1 a_4_0 a_4_1 a_5_0 a_5_1 a_6_0 a_6_1 a_7_0 a_7_1 (w64 b) 8 12 0 r2 r2_h) rfl (by decide) (by decide) (by kernel_rfl) ⟨⟨_, _, rfl, rfl, .inl ⟨rfl, rwP⟩⟩, trivial⟩ (by rfl)) ?_
    rintro _ _ _ ⟨rfl, rfl, rfl⟩
    refine XR.conv (σ' := [(4, .int .u8 e), (5, pp 0 0), (11, ii (w64 (1 + (Int.tmod (w64 c) 3)))), (12, ii (Int.tmod (w64 d) 13)), (48, s0 1 r2.length), (51, ii (w64 b)), (52, ii (Int.tmod (w64 d) 13))]) (h' := [(1, rc encP r2 0 61 2), (0, .cells [.int .u8 a_0_0, .int .u8 a_0_1, .int .u8 a_1_0, .int .u8 a_1_1, .int .u8 a_2_0, .int .u8 a_2_1, .int .u8 a_3_0, .int .u8 a_3_1, .int .u8 a_4_0, .int .u8 a_4_1, .int .u8 a_5_0, .int .u8 a_5_1, .int .u8 a_6_0, .int .u8 a_6_1, .int .u8 a_7_0, .int .u8 a_7_1] 0 56 0)]) (c' := 2) ?_ (by kernel_rfl)
    refine dQ ?_
    refine ⟨rfl, ?_⟩
    show XA _ _ _ _ _ _ _ _ _ _
    exact xa2
   ·refine rS 1 [(4, .int .u8 e), (11, ii (w64 (1 + (Int.tmod (w64 c) 3)))), (12, ii (Int.tmod (w64 d) 13)), (45, .agg #[.int .u8 a_0_0, .int .u8 a_0_1, .int .u8 a_1_0, .int .u8 a_1_1, .int .u8 a_2_0, .int .u8 a_2_1, .int .u8 a_3_0, .int .u8 a_3_1, .int .u8 a_4_0, .int .u8 a_4_1, .int .u8 a_5_0, .int .u8 a_5_1, .int .u8 a_6_0, .int .u8 a_6_1, .int .u8 a_7_0, .int .u8 a_7_1]), (47, ii (w64 b)), (49, .agg #[.int .u8 a_0_0, .int .u8 a_0_1, .int .u8 a_1_0, .int .u8 a_1_1, .int .u8 a_2_0, .int .u8 a_2_1, .int .u8 a_3_0, .int .u8 a_3_1, .int .u8 a_4_0, .int .u8 a_4_1, .int .u8 a_5_0, .int .u8 a_5_1, .int .u8 a_6_0, .int .u8 a_6_1, .int .u8 a_7_0, .int .u8 a_7_1]), (51, ii (w64 b)), (52, ii (Int.tmod (w64 d) 13))] ?_
    refine dQ ?_
    refine ⟨rfl, ?_⟩
    show XA _ _ _ _ _ _ _ _ _ _
    refine XA.ren (σ' := [(4, .int .u8 e), (11, ii (w64 (1 + (Int.tmod (w64 c) 3)))), (12, ii (Int.tmod (w64 d) 13)), (45, .agg #[.int .u8 a_0_0, .int .u8 a_0_1, .int .u8 a_1_0, .int .u8 a_1_1, .int .u8 a_2_0, .int .u8 a_2_1, .int .u8 a_3_0, .int .u8 a_3_1, .int .u8 a_4_0, .int .u8 a_4_1, .int .u8 a_5_0, .int .u8 a_5_1, .int .u8 a_6_0, .int .u8 a_6_1, .int .u8 a_7_0, .int .u8 a_7_1]), (47, ii (w64 b)), (49, .agg #[.int .u8 a_0_0, .int .u8 a_0_1, .int .u8 a_1_0, .int .u8 a_1_1, .int .u8 a_2_0, .int .u8 a_2_1, .int .u8 a_3_0, .int .u8 a_3_1, .int .u8 a_4_0, .int .u8 a_4_1, .int .u8 a_5_0, .int .u8 a_5_1, .int .u8 a_6_0, .int .u8 a_6_1, .int .u8 a_7_0, .int .u8 a_7_1]), (51, ii (w64 b)), (52, ii (Int.tmod (w64 d) 13))]) (h' := []) (c' := 0) [] (by decide) rfl ⟨rfl, rfl, rfl, rfl, rfl, rfl, rfl, rfl, trivial⟩ trivial rfl ?_
    exact xa7
  have xa8 : XA E0 318 0 (opsOf (lft (rgt (rgt (rgt f10_C10))))) 5 #[false, true, true, false, true, true, true, true, false, false, false] [(4, .int .u8 e), (5, pp 0 0), (11, ii (w64 (1 + (Int.tmod (w64 c) 3)))), (12, ii (Int.tmod (w64 d) 13)), (47, ii (w64 b)), (49, .agg #[.int .u8 a_0_0, .int .u8 a_0_1, .int .u8 a_1_0, .int .u8 a_1_1, .int .u8 a_2_0, .int .u8 a_2_1, .int .u8 a_3_0, .int .u8 a_3_1, .int .u8 a_4_0, .int .u8 a_4_1, .int .u8 a_5_0, .int .u8 a_5_1, .int .u8 a_6_0, .int .u8 a_6_1, .int .u8 a_7_0, .int .u8 a_7_1]), (51, ii (w64 b)), (52, ii (Int.tmod (w64 d) 13))] [(0, .cells [.int .u8 a_0_0, .int .u8 a_0_1, .int .u8 a_1_0, .int .u8 a_1_1, .int .u8 a_2_0, .int .u8 a_2_1, .int .u8 a_3_0, .int .u8 a_3_1, .int .u8 a_4_0, .int .u8 a_4_1, .int .u8 a_5_0, .int .u8 a_5_1, .int .u8 a_6_0, .int .u8 a_6_1, .int .u8 a_7_0, .int .u8 a_7_1] 0 56 0)] 1 (fun xe xσ xh xc => xe = .normal ∧ (xσ, xh, xc) = ([(4, .int .u8 e), (11, ii (w64 (1 + (Int.tmod (w64 c) 3)))), (12, ii (Int.tmod (w64 d) 13)), (13, s0 0 r2.length), (14, s0 1 r3.length)], [(1, rc encP r3 0 61 2), (0, rc encP r2 0 61 2)], 2)) := by
   refine XA.step E0_ok [0] (by kernel_rfl) rfl (by kernel_rfl) ⟨?_, trivial⟩
   ·refine rS 1 [(4, .int .u8 e), (11, ii (w64 (1 + (Int.tmod (w64 c) 3)))), (12, ii (Int.tmod (w64 d) 13)), (45, .agg #[.int .u8 a_0_0, .int .u8 a_0_1, .int .u8 a_1_0, .int .u8 a_1_1, .int .u8 a_2_0, .int .u8 a_2_1, .int .u8 a_3_0, .int .u8 a_3_1, .int .u8 a_4_0, .int .u8 a_4_1, .int .u8 a_5_0, .int .u8 a_5_1, .int .u8 a_6_0, .int .u8 a_6_1, .int .u8 a_7_0, .int .u8 a_7_1]), (47, ii (w64 b)), (49, .agg #[.int .u8 a_0_0, .int .u8 a_0_1, .int .u8 a_1_0, .int .u8 a_1_1, .int .u8 a_2_0, .int .u8 a_2_1, .int .u8 a_3_0, .int .u8 a_3_1, .int .u8 a_4_0, .int .u8 a_4_1, .int .u8 a_5_0, .int .u8 a_5_1, .int .u8 a_6_0, .int .u8 a_6_1, .int .u8 a_7_0, .int .u8 a_7_1]), (51, ii (w64 b)), (52, ii (Int.tmod (w64 d) 13))] ?_
    refine dQ ?_
    refine ⟨rfl, ?_⟩
    show XA _ _ _ _ _ _ _ _ _ _
    refine XA.ren (σ' := [(4, .int .u8 e), (11, ii (w64 (1 + (Int.tmod (w64 c) 3)))), (12, ii (Int.tmod (w64 d) 13)), (45, .agg #[.int .u8 a_0_0, .int .u8 a_0_1, .int .u8 a_1_0, .int .u8 a_1_1, .int .u8 a_2_0, .int .u8 a_2_1, .int .u8 a_3_0, .int .u8 a_3_1, .int .u8 a_4_0, .int .u8 a_4_1, .int .u8 a_5_0, .int .u8 a_5_1, .int .u8 a_6_0, .int .u8 a_6_1, .int .u8 a_7_0, .int .u8 a_7_1]), (47, ii (w64 b)), (49, .agg #[.int .u8 a_0_0, .int .u8 a_0_1, .int .u8 a_1_0, .int .u8 a_1_1, .int .u8 a_2_0, .int .u8 a_2_1, .int .u8 a_3_0, .int .u8 a_3_1, .int .u8 a_4_0, .int .u8 a_4_1, .int .u8 a_5_0, .int .u8 a_5_1, .int .u8 a_6_0, .int .u8 a_6_1, .int .u8 a_7_0, .int .u8 a_7_1]), (51, ii (w64 b)), (52, ii (Int.tmod (w64 d) 13))]) (h' := []) (c' := 0) [] (by decide) rfl ⟨rfl, rfl, rfl, rfl, rfl, rfl, rfl, rfl, trivial⟩ trivial rfl ?_
    exact xa7
  have xa0 : XA E0 318 0 (opsOf (lft (rgt (rgt (rgt f10_C10))))) 6 #[false, true, true, false, false, true, true, true, false, false, false] [(4, .int .u8 e), (5, pp 0 0), (11, ii (w64 (1 + (Int.tmod (w64 c) 3)))), (12, ii (Int.tmod (w64 d) 13)), (47, ii (w64 b)), (51, ii (w64 b)), (52, ii (Int.tmod (w64 d) 13))] [(0, .cells [.int .u8 a_0_0, .int .u8 a_0_1, .int .u8 a_1_0, .int .u8 a_1_1, .int .u8 a_2_0, .int .u8 a_2_1, .int .u8 a_3_0, .int .u8 a_3_1, .int .u8 a_4_0, .int .u8 a_4_1, .int .u8 a_5_0, .int .u8 a_5_1, .int .u8 a_6_0, .int .u8 a_6_1, .int .u8 a_7_0, .int .u8 a_7_1] 0 56 0)] 1 (fun xe xσ xh xc => xe = .normal ∧ (xσ, xh, xc) = ([(4, .int .u8 e), (11, ii (w64 (1 + (Int.tmod (w64 c) 3)))), (12, ii (Int.tmod (w64 d) 13)), (13, s0 0 r2.length), (14, s0 1 r3.length)], [(1, rc encP r3 0 61 2), (0, rc encP r2 0 61 2)], 2)) := by
   refine XA.step E0_ok [0, 4] (by kernel_rfl) rfl (by kernel_rfl) ⟨?_, ?_, trivial⟩
   ·refine rS 1 [(4, .int .u8 e), (5, pp 0 0), (11, ii (w64 (1 + (Int.tmod (w64 c) 3)))), (12, ii (Int.tmod (w64 d) 13)), (45, .agg #[.int .u8 a_0_0, .int .u8 a_0_1, .int .u8 a_1_0, .int .u8 a_1_1, .int .u8 a_2_0, .int .u8 a_2_1, .int .u8 a_3_0, .int .u8 a_3_1, .int .u8 a_4_0, .int .u8 a_4_1, .int .u8 a_5_0, .int .u8 a_5_1, .int .u8 a_6_0, .int .u8 a_6_1, .int .u8 a_7_0, .int .u8 a_7_1]), (47, ii (w64 b)), (51, ii (w64 b)), (52, ii (Int.tmod (w64 d) 13))] ?_
    refine dQ ?_
    refine ⟨rfl, ?_⟩
    show XA _ _ _ _ _ _ _ _ _ _
    exact xa1
   ·refine rS 1 [(4, .int .u8 e), (5, pp 0 0), (11, ii (w64 (1 + (Int.tmod (w64 c) 3)))), (12, ii (Int.tmod (w64 d) 13)), (47, ii (w64 b)), (49, .agg #[.int .u8 a_0_0, .int .u8 a_0_1, .int .u8 a_1_0, .int .u8 a_1_1, .int .u8 a_2_0, .int .u8 a_2_1, .int .u8 a_3_0, .int .u8 a_3_1, .int .u8 a_4_0, .int .u8 a_4_1, .int .u8 a_5_0, .int .u8 a_5_1, .int .u8 a_6_0, .int .u8 a_6_1, .int .u8 a_7_0, .int .u8 a_7_1]), (51, ii (w64 b)), (52, ii (Int.tmod (w64 d) 13))] ?_
    refine dQ ?_
    refine ⟨rfl, ?_⟩
    show XA _ _ _ _ _ _ _ _ _ _
    exact xa8
  refine XP.step E0_ok 5 [4, 5, 11, 12, 47, 51, 52] rfl (σ' := [(4, .int .u8 e), (5, pp 0 0), (11, ii (w64 (1 + (Int.tmod (w64 c) 3)))), (12, ii (Int.tmod (w64 d) 13)), (47, ii (w64 b)), (51, ii (w64 b)), (52, ii (Int.tmod (w64 d) 13))]) (by kernel_rfl) ?_
  refine XP.done (by kernel_rfl) ?_
  show XA _ _ _ _ _ _ _ _ _ _
  exact xa0
end Go.Xm
