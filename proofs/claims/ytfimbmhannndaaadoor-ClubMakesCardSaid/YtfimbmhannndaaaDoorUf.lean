/- What these functions of the program compute, as functions in Lean, and the proofs that they do: vitolaref12.less, vitolaref12.size, vitolaref12.smaller, vitolaref12.with, vitolaref12.made. Conditions: the library's variables hold what their texts lay. -/
import Derived.Test.YtfimbmhannndaaaDoorZk
import Derived.Test.YtfimbmhannndaaaDoorDd
import Derived.Test.YtfimbmhannndaaaDoorNe
import Derived.Test.YtfimbmhannndaaaDoorNi
import Derived.Test.YtfimbmhannndaaaDoorUe
namespace Go.Xm
open Go.RowKit
set_option linter.unusedVariables false
set_option linter.unusedSimpArgs false
set_option maxRecDepth 20000
noncomputable def f98_C98 : Code := Proofs.Tryd.f98.body.getD .skip
noncomputable def f98_L1 : Code := lft (lft (rgt (lft (rgt (rgt f98_C98)))))
inductive Of98_1 where
 | r
 | x0 (lh1_x01 : List Int)
def f98_1 (m : Nat) : Nat → List Int → Int → Int → List Int → Option Of98_1
 | 0, _, _, _, _ => none
 | fuel + 1, a, b, x7_1, lh1_1 =>
  cond (decide (x7_1 < ((a.length : Nat) : Int))) (
   cond (inRow x7_1 a.length) (
    cond (decide (0 ≤ w64 (x7_1 - 1))) (
     cond (decide ((w64 ((List.getD a (Int.toNat x7_1) 0) - (Int.tmod (shV false .i64 b (w64 (x7_1 - 1))) 2))) < 0)) (
      some (.r)
     ) (
      cond (fitsB (lh1_1.length + 1) 8) (
       f98_1 m fuel a b (w64 (x7_1 + 1)) (lh1_1 ++ [w64 ((List.getD a (Int.toNat x7_1) 0) - (Int.tmod (shV false .i64 b (w64 (x7_1 - 1))) 2))])
      ) none
     )
    ) none
   ) none
  ) (
   some (.x0 lh1_1)
  )
theorem f98_1_ok (m : Nat) : ∀ (fuel : Nat) (z0 : Nat) (y0 : Nat) (a : List Int) (b : Int) (x7_1 : Int) (lh1_1 : List Int) (o : Of98_1), f98_1 m fuel a b x7_1 lh1_1 = some o → ∀ Q : QP, (match o with | .r => Q .ret [(4, s0 1 0), (5, .bool false)] [(1, rI []), (0, rc (encI .i64) a z0 y0 1)] 2 | .x0 lh1_x01 => Q (.exit 0) [(6, s0 1 lh1_x01.length)] [(1, rI lh1_x01), (0, rc (encI .i64) a z0 y0 1)] 2) → XL E0 32 1 fuel f98_L1 [(0, s0 0 a.length), (1, ii b), (6, s0 1 lh1_1.length), (7, ii x7_1)] [(1, rI lh1_1), (0, rc (encI .i64) a z0 y0 1)] 2 Q
 | 0, z0, y0, a, b, x7_1, lh1_1, o, h, Q, hQ => by cases h
 | fuel + 1, z0, y0, a, b, x7_1, lh1_1, o, h, Q, hQ => by
  unfold f98_1 at h
  refine XL.succ E0_ok ?_
  refine sQ ?_
  refine qQ ?_
  refine rS 4 [(0, s0 0 a.length), (1, ii b), (6, s0 1 lh1_1.length), (7, ii x7_1), (12, .bool (decide (x7_1 < ((a.length : Nat) : Int))))] ?_
  refine dQ ?_
  show XQ _ _ _ _ _ _ _ _
  cases b1 : (decide (x7_1 < ((a.length : Nat) : Int)) : Bool) with
  | true =>
   have h := cT b1 h
   refine iT (.tmp 12) ?_
   refine kQ ?_
   show XQ _ _ _ _ _ _ _ _
   refine sQ ?_
   refine XQ.block (id := 1) (by kernel_rfl) ?_
   refine sQ ?_
   refine XQ.quiet E0_ok (by kernel_rfl) (by kernel_rfl) ?_
   refine XU.run E0_ok 1 2 [0, 1, 6, 7, 15, 16] rfl (σ' := [(0, s0 0 a.length), (1, ii b), (6, s0 1 lh1_1.length), (7, ii x7_1), (15, s0 0 a.length), (16, ii x7_1)]) (by kernel_rfl) ?_
   cases b2 : (inRow x7_1 a.length : Bool) with
   | false => cases (cF b2 h)
   | true =>
    have h := cT b2 h
    refine XU.rd E0_ok [0, 1, 6, 7, 17] rfl (v := pp 0 ((Int.toNat x7_1) * 1)) (v_idx (s := 1) (x := (src 32 (.tmp 15))) (y := (src 32 (.tmp 16))) (b := 0) (o := 0) (len := a.length) (cap := a.length) (ik := .i64) (i := x7_1) (off := (Int.toNat x7_1) * 1) (d := (some (path 12 17))) (by kernel_rfl) (by kernel_rfl) (by kernel_rfl) b2 (by omega)) (σ' := [(0, s0 0 a.length), (1, ii b), (6, s0 1 lh1_1.length), (7, ii x7_1), (17, pp 0 ((Int.toNat x7_1) * 1))]) (by kernel_rfl) ?_
    refine XU.rd E0_ok [0, 1, 6, 7, 18] rfl (v := ii (List.getD a (Int.toNat x7_1) 0)) (v_load1 (encI_ok .i64) (x := (src 32 (.tmp 17))) (b := 0) (off := (Int.toNat x7_1) * 1) (xs := a) (fz := z0) (e := y0) (es := 1) (d := (some (path 12 18))) (by kernel_rfl) (by kernel_rfl) (by kernel_rfl) (Int.toNat x7_1) 0 0 (by first | with_reducible rfl | omega | rfl) (row_len (inRow_toNat b2) (by simp)) rfl rfl) (σ' := [(0, s0 0 a.length), (1, ii b), (6, s0 1 lh1_1.length), (7, ii x7_1), (18, ii (List.getD a (Int.toNat x7_1) 0))]) (by kernel_rfl) ?_
    refine XU.run E0_ok 1 3 [0, 1, 6, 7, 18, 19, 21] rfl (σ' := [(0, s0 0 a.length), (1, ii b), (6, s0 1 lh1_1.length), (7, ii x7_1), (18, ii (List.getD a (Int.toNat x7_1) 0)), (19, ii b), (21, ii (w64 (x7_1 - 1)))]) (by kernel_rfl) ?_
    cases b3 : (decide (0 ≤ w64 (x7_1 - 1)) : Bool) with
    | false => cases (cF b3 h)
    | true =>
     have h := cT b3 h
     have e4 : insV (headI ((gsOf E0 32 (opsOf (lft (lft (lft (rgt f98_L1)))))).drop 7) (trS 32 [(0, s0 0 a.length), (1, ii b), (6, s0 1 lh1_1.length), (7, ii x7_1), (18, ii (List.getD a (Int.toNat x7_1) 0)), (19, ii b), (21, ii (w64 (x7_1 - 1)))])) (trS 32 [(0, s0 0 a.length), (1, ii b), (6, s0 1 lh1_1.length), (7, ii x7_1), (18, ii (List.getD a (Int.toNat x7_1) 0)), (19, ii b), (21, ii (w64 (x7_1 - 1)))]) [(1, rI lh1_1), (0, rc (encI .i64) a z0 y0 1)] = (match (decide (0 ≤ w64 (x7_1 - 1)) : Bool) with | true => some (ii (shV false .i64 b (w64 (x7_1 - 1)))) | false => none) := by kernel_rfl
     refine XU.rd E0_ok [0, 1, 6, 7, 18, 22] rfl (e4.trans (by rw [b3])) (σ' := [(0, s0 0 a.length), (1, ii b), (6, s0 1 lh1_1.length), (7, ii x7_1), (18, ii (List.getD a (Int.toNat x7_1) 0)), (22, ii (shV false .i64 b (w64 (x7_1 - 1))))]) (by kernel_rfl) ?_
     refine XU.run E0_ok 1 3 [0, 1, 6, 7, 8] rfl (σ' := [(0, s0 0 a.length), (1, ii b), (6, s0 1 lh1_1.length), (7, ii x7_1), (8, ii (w64 ((List.getD a (Int.toNat x7_1) 0) - (Int.tmod (shV false .i64 b (w64 (x7_1 - 1))) 2))))]) (by kernel_rfl) ?_
     refine XU.done (by kernel_rfl) ?_
     show XQ _ _ _ _ _ _ _ _
     refine sQ ?_
     refine qQ ?_
     refine rS 2 [(0, s0 0 a.length), (1, ii b), (6, s0 1 lh1_1.length), (7, ii x7_1), (8, ii (w64 ((List.getD a (Int.toNat x7_1) 0) - (Int.tmod (shV false .i64 b (w64 (x7_1 - 1))) 2)))), (26, .bool (decide ((w64 ((List.getD a (Int.toNat x7_1) 0) - (Int.tmod (shV false .i64 b (w64 (x7_1 - 1))) 2))) < 0)))] ?_
     refine dQ ?_
     show XQ _ _ _ _ _ _ _ _
     cases b5 : (decide ((w64 ((List.getD a (Int.toNat x7_1) 0) - (Int.tmod (shV false .i64 b (w64 (x7_1 - 1))) 2))) < 0) : Bool) with
     | true =>
      have h := cT b5 h
      refine iT (.tmp 26) ?_
      refine qQ ?_
      refine rS 2 [(4, .slice none 0 0), (5, .bool false)] ?_
      refine dQ ?_
      show XQ _ _ _ _ _ _ _ _
      refine XQ.ghost 3 1 rfl (σ' := [(4, s0 2 0), (5, .bool false)]) (h' := [(1, rI lh1_1), (0, rc (encI .i64) a z0 y0 1)]) ⟨rfl, rfl, trivial⟩ ⟨⟨_, rfl, .inl rfl⟩, ⟨_, rfl, .inl rfl⟩, trivial⟩ ?_
      refine XQ.conv (σ' := [(4, s0 2 0), (5, .bool false)]) (h' := [(2, rI []), (1, rI lh1_1), (0, rc (encI .i64) a z0 y0 1)]) (c' := 3) ?_ (by kernel_rfl)
      refine XQ.ren (σ' := [(4, s0 1 0), (5, .bool false)]) (h' := [(1, rI []), (0, rc (encI .i64) a z0 y0 1)]) (c' := 2) [0, 2] (by decide) rfl ⟨rfl, rfl, trivial⟩ ⟨⟨_, _, rfl, rfl, .inl ⟨rfl, rwI⟩⟩, ⟨_, _, rfl, rfl, .inl ⟨rfl, rwI⟩⟩, trivial⟩ rfl ?_
      refine XQ.ret (by kernel_rfl) ?_
      cases h
      exact hQ
     | false =>
      have h := cF b5 h
      refine iF (.tmp 26) ?_
      refine kQ ?_
      show XQ _ _ _ _ _ _ _ _
      refine rQ ?_
      refine rT 3 [(0, s0 0 a.length), (1, ii b), (7, ii x7_1), (27, s0 1 lh1_1.length), (29, s0 2 1)] [(2, .cells [ii (w64 ((List.getD a (Int.toNat x7_1) 0) - (Int.tmod (shV false .i64 b (w64 (x7_1 - 1))) 2)))] 0 3 1), (1, rI lh1_1), (0, rc (encI .i64) a z0 y0 1)] 3 ?_
      cases b6 : (fitsB (lh1_1.length + 1) 8 : Bool) with
      | false => cases (cF b6 h)
      | true =>
       have h := cT b6 h
       refine XR.ef E0_ok [0, 1, 7, 30] rfl (e_append (encI_ok .i64) (bytes := 8) (e := 3) (x := (src 32 (.tmp 27))) (y := (src 32 (.tmp 29))) (b := 1) (len := lh1_1.length) (cap := lh1_1.length) (xs := lh1_1) (m := 0) (ys := [w64 ((List.getD a (Int.toNat x7_1) 0) - (Int.tmod (shV false .i64 b (w64 (x7_1 - 1))) 2))]) (d := (some (path 12 30))) (n' := (lh1_1 ++ [w64 ((List.getD a (Int.toNat x7_1) 0) - (Int.tmod (shV false .i64 b (w64 (x7_1 - 1))) 2))]).length) (h' := [(3, rI (lh1_1 ++ [w64 ((List.getD a (Int.toNat x7_1) 0) - (Int.tmod (shV false .i64 b (w64 (x7_1 - 1))) 2))])), (2, .cells [ii (w64 ((List.getD a (Int.toNat x7_1) 0) - (Int.tmod (shV false .i64 b (w64 (x7_1 - 1))) 2)))] 0 3 1), (0, rc (encI .i64) a z0 y0 1)]) (by kernel_rfl) (by kernel_rfl) (by kernel_rfl) (by kernel_rfl) rfl (by simp) (by simp) b6 (by simp) (by kernel_rfl)) (σ' := [(0, s0 0 a.length), (1, ii b), (7, ii x7_1), (30, s0 3 ((lh1_1 ++ [w64 ((List.getD a (Int.toNat x7_1) 0) - (Int.tmod (shV false .i64 b (w64 (x7_1 - 1))) 2))]).length))]) (by kernel_rfl) ?_
       refine rS 1 [(0, s0 0 a.length), (1, ii b), (6, s0 3 ((lh1_1 ++ [w64 ((List.getD a (Int.toNat x7_1) 0) - (Int.tmod (shV false .i64 b (w64 (x7_1 - 1))) 2))]).length)), (7, ii x7_1)] ?_
       refine dQ ?_
       show XQ _ _ _ _ _ _ _ _
       refine rQ ?_
       refine rS 3 [(0, s0 0 a.length), (1, ii b), (6, s0 3 ((lh1_1 ++ [w64 ((List.getD a (Int.toNat x7_1) 0) - (Int.tmod (shV false .i64 b (w64 (x7_1 - 1))) 2))]).length)), (7, ii (w64 (x7_1 + 1)))] ?_
       refine dQ ?_
       show XL _ _ _ _ _ _ _ _ _
       refine XL.ren (σ' := [(0, s0 0 a.length), (1, ii b), (6, s0 1 ((lh1_1 ++ [w64 ((List.getD a (Int.toNat x7_1) 0) - (Int.tmod (shV false .i64 b (w64 (x7_1 - 1))) 2))]).length)), (7, ii (w64 (x7_1 + 1)))]) (h' := [(1, rI (lh1_1 ++ [w64 ((List.getD a (Int.toNat x7_1) 0) - (Int.tmod (shV false .i64 b (w64 (x7_1 - 1))) 2))])), (0, rc (encI .i64) a z0 y0 1)]) (c' := 2) [0, 3] (by decide) rfl ⟨rfl, rfl, rfl, rfl, trivial⟩ ⟨⟨_, _, rfl, rfl, .inl ⟨rfl, rwI⟩⟩, ⟨_, _, rfl, rfl, .inl ⟨rfl, rwI⟩⟩, trivial⟩ rfl ?_
       refine XL.conv (f98_1_ok m fuel z0 y0 a b (w64 (x7_1 + 1)) (lh1_1 ++ [w64 ((List.getD a (Int.toNat x7_1) 0) - (Int.tmod (shV false .i64 b (w64 (x7_1 - 1))) 2))]) o h Q hQ) (by first | with_reducible rfl | simp | rfl)
  | false =>
   have h := cF b1 h
   refine iF (.tmp 12) ?_
   refine XQ.ren (σ' := [(6, s0 1 lh1_1.length)]) (h' := [(1, rI lh1_1), (0, rc (encI .i64) a z0 y0 1)]) (c' := 2) [0, 1] (by decide) rfl ⟨rfl, trivial⟩ ⟨⟨_, _, rfl, rfl, .inl ⟨rfl, rwI⟩⟩, ⟨_, _, rfl, rfl, .inl ⟨rfl, rwI⟩⟩, trivial⟩ rfl ?_
   refine XQ.exit (i := 0) (by kernel_rfl) ?_
   cases h
   exact hQ
def f98 (m : Nat) (a : List Int) (b : Int) : Option ((List Int) × Bool) :=
 (f98_1 m m a b 1 []).bind fun o1 =>
  match o1 with
  | .r =>
   some ([], false)
  | .x0 lh1_x01 =>
   some (lh1_x01, true)
theorem f98_ok (m : Nat) (z0 : Nat) (y0 : Nat) (a : List Int) (b : Int) (o : (List Int) × Bool) (h : f98 m a b = some o) : KC E0 98 [s0 0 a.length, ii b] [(0, rc (encI .i64) a z0 y0 1)] 1 (fun v h' c' => v = .tuple #[s0 1 o.1.length, .bool o.2] ∧ h' = [(1, rI o.1)] ++ [(0, rc (encI .i64) a z0 y0 1)] ∧ c' = 2) := by
 refine KC.bodyN E0_ok (F := Proofs.Tryd.f98) (by kernel_rfl) (code := f98_C98) (by kernel_rfl) (nt := 32) (by kernel_rfl) (rs := [.tmp 4, .tmp 5]) (by kernel_rfl) (by kernel_rfl) (σ := [(0, s0 0 a.length), (1, ii b)]) (by kernel_rfl) ?_
 unfold f98 at h
 refine qQ ?_
 refine rS 2 [(0, s0 0 a.length), (1, ii b)] ?_
 refine nQ id ?_
 refine rS 1 [(0, s0 0 a.length), (1, ii b), (6, .slice none 0 0)] ?_
 refine dQ ?_
 show XQ _ _ _ _ _ _ _ _
 refine XQ.ghost 3 1 rfl (σ' := [(0, s0 0 a.length), (1, ii b), (6, s0 1 0)]) (h' := [(0, rc (encI .i64) a z0 y0 1)]) ⟨rfl, rfl, rfl, trivial⟩ ⟨⟨_, rfl, .inl rfl⟩, trivial⟩ ?_
 refine XQ.conv (σ' := [(0, s0 0 a.length), (1, ii b), (6, s0 1 0)]) (h' := [(1, rI []), (0, rc (encI .i64) a z0 y0 1)]) (c' := 2) ?_ (by kernel_rfl)
 refine sQ ?_
 refine qQ ?_
 refine rS 1 [(0, s0 0 a.length), (1, ii b), (6, s0 1 0), (7, ii 1)] ?_
 refine dQ ?_
 show XQ _ _ _ _ _ _ _ _
 refine XQ.block (id := 0) (by kernel_rfl) ?_
 refine XQ.loop m (by kernel_rfl) ?_
 obtain ⟨o1, o1_h, h⟩ := bS h
 refine XL.ren (σ' := [(0, s0 0 a.length), (1, ii b), (6, s0 1 0), (7, ii 1)]) (h' := [(1, rI []), (0, rc (encI .i64) a z0 y0 1)]) (c' := 2) [0, 1] (by decide) rfl ⟨rfl, rfl, rfl, rfl, trivial⟩ ⟨⟨_, _, rfl, rfl, .inl ⟨rfl, rwI⟩⟩, ⟨_, _, rfl, rfl, .inl ⟨rfl, rwI⟩⟩, trivial⟩ rfl ?_
 cases o1 with
 | r =>
  dsimp only at h
  refine XL.conv (f98_1_ok m m z0 y0 a b 1 [] (.r) o1_h _ ?_) (by first | with_reducible rfl | simp | rfl)
  have h := Option.some.inj h
  subst h
  exact ⟨fun i q => (by cases q), .tuple #[s0 1 0, .bool false], (by kernel_rfl), (by kernel_rfl), (by kernel_rfl), rfl⟩
 | x0 lh1_x01 =>
  dsimp only at h
  refine XL.conv (f98_1_ok m m z0 y0 a b 1 [] (.x0 lh1_x01) o1_h _ ?_) (by first | with_reducible rfl | simp | rfl)
  show XQ _ _ _ _ _ _ _ _
  refine qQ ?_
  refine rS 3 [(4, s0 1 lh1_x01.length), (5, .bool true)] ?_
  refine dQ ?_
  show XQ _ _ _ _ _ _ _ _
  refine XQ.ren (σ' := [(4, s0 1 lh1_x01.length), (5, .bool true)]) (h' := [(1, rI lh1_x01), (0, rc (encI .i64) a z0 y0 1)]) (c' := 2) [0, 1] (by decide) rfl ⟨rfl, rfl, trivial⟩ ⟨⟨_, _, rfl, rfl, .inl ⟨rfl, rwI⟩⟩, ⟨_, _, rfl, rfl, .inl ⟨rfl, rwI⟩⟩, trivial⟩ rfl ?_
  refine XQ.ret (by kernel_rfl) ?_
  have h := Option.some.inj h
  subst h
  exact ⟨fun i q => (by cases q), .tuple #[s0 1 lh1_x01.length, .bool true], (by kernel_rfl), (by kernel_rfl), (by kernel_rfl), rfl⟩
noncomputable def f99_C99 : Code := Proofs.Tryd.f99.body.getD .skip
noncomputable def f99_L1 : Code := lft (lft (lft (rgt (rgt f99_C99))))
def f99_1 (m : Nat) : Nat → Int → Int → Option Int
 | 0, _, _ => none
 | fuel + 1, x0_1, x3_1 =>
  cond (decide (x0_1 > 0)) (
   f99_1 m fuel (w64 (Int.tdiv x0_1 2)) (w64 (x3_1 + (Int.tmod x0_1 2)))
  ) (
   some (x3_1)
  )
theorem f99_1_ok (m : Nat) : ∀ (fuel : Nat) (x0_1 : Int) (x3_1 : Int) (o : Int), f99_1 m fuel x0_1 x3_1 = some o → ∀ Q : QP, Q (.exit 0) [(3, ii o)] [] 0 → XL E0 13 0 fuel f99_L1 [(0, ii x0_1), (3, ii x3_1)] [] 0 Q
 | 0, x0_1, x3_1, o, h, Q, hQ => by cases h
 | fuel + 1, x0_1, x3_1, o, h, Q, hQ => by
  unfold f99_1 at h
  refine XL.succ E0_ok ?_
  refine sQ ?_
  refine qQ ?_
  refine rS 2 [(0, ii x0_1), (3, ii x3_1), (5, .bool (decide (x0_1 > 0)))] ?_
  refine dQ ?_
  show XQ _ _ _ _ _ _ _ _
  cases b1 : (decide (x0_1 > 0) : Bool) with
  | true =>
   have h := cT b1 h
   refine iT (.tmp 5) ?_
   refine kQ ?_
   show XQ _ _ _ _ _ _ _ _
   refine XQ.block (id := 1) (by kernel_rfl) ?_
   refine qQ ?_
   refine rS 5 [(0, ii x0_1), (3, ii (w64 (x3_1 + (Int.tmod x0_1 2))))] ?_
   refine dQ ?_
   show XQ _ _ _ _ _ _ _ _
   refine rQ ?_
   refine rS 3 [(0, ii (w64 (Int.tdiv x0_1 2))), (3, ii (w64 (x3_1 + (Int.tmod x0_1 2))))] ?_
   refine dQ ?_
   show XL _ _ _ _ _ _ _ _ _
   refine XL.ren (σ' := [(0, ii (w64 (Int.tdiv x0_1 2))), (3, ii (w64 (x3_1 + (Int.tmod x0_1 2))))]) (h' := []) (c' := 0) [] (by decide) rfl ⟨rfl, rfl, trivial⟩ trivial rfl ?_
   refine XL.conv (f99_1_ok m fuel (w64 (Int.tdiv x0_1 2)) (w64 (x3_1 + (Int.tmod x0_1 2))) o h Q hQ) (by first | with_reducible rfl | simp | rfl)
  | false =>
   have h := cF b1 h
   refine iF (.tmp 5) ?_
   refine XQ.ren (σ' := [(3, ii x3_1)]) (h' := []) (c' := 0) [] (by decide) rfl ⟨rfl, trivial⟩ trivial rfl ?_
   refine XQ.exit (i := 0) (by kernel_rfl) ?_
   cases h
   exact hQ
def f99 (m : Nat) (a : Int) : Option (Int) :=
 (f99_1 m m a 0).bind fun o1 =>
  some (o1)
theorem f99_ok (m : Nat) (a : Int) (o : Int) (h : f99 m a = some o) (w : World) (hI : seatInv w) : Calls Proofs.Tryd.prog 99 #[ii a] w fun e w' => e = .returned (ii o) ∧ Below w.heap.size w w' := by
 refine KC.calls (E := E0) (args := [ii a]) (v := ii o) rfl rfl (KC.bodyN E0_ok (F := Proofs.Tryd.f99) (by kernel_rfl) (code := f99_C99) (by kernel_rfl) (nt := 13) (by kernel_rfl) (rs := [.tmp 2]) (by kernel_rfl) (by kernel_rfl) (σ := [(0, ii a)]) (by kernel_rfl) ?_) w (seatInv_size hI) hI
 unfold f99 at h
 refine qQ ?_
 refine rS 1 [(0, ii a)] ?_
 refine nQ id ?_
 refine rS 1 [(0, ii a), (3, ii 0)] ?_
 refine dQ ?_
 show XQ _ _ _ _ _ _ _ _
 refine sQ ?_
 refine XQ.block (id := 0) (by kernel_rfl) ?_
 refine XQ.loop m (by kernel_rfl) ?_
 obtain ⟨o1, o1_h, h⟩ := bS h
 refine XL.ren (σ' := [(0, ii a), (3, ii 0)]) (h' := []) (c' := 0) [] (by decide) rfl ⟨rfl, rfl, trivial⟩ trivial rfl ?_
 refine XL.conv (f99_1_ok m m a 0 o1 o1_h _ ?_) (by first | with_reducible rfl | simp | rfl)
 show XQ _ _ _ _ _ _ _ _
 refine qQ ?_
 refine rS 2 [(2, ii o1)] ?_
 refine dQ ?_
 show XQ _ _ _ _ _ _ _ _
 refine XQ.ret (by kernel_rfl) ?_
 have h := Option.some.inj h
 subst h
 exact ⟨fun i q => (by cases q), ii o1, (by kernel_rfl), rfl⟩
noncomputable def f100_C100 : Code := Proofs.Tryd.f100.body.getD .skip
noncomputable def f100_L1 : Code := lft (lft (rgt (lft (rgt f100_C100))))
inductive Of100_1 where
 | r (b4_r1 : Bool)
 | x0
def f100_1 (m : Nat) : Nat → List (Int × Int) → List (Int × Int) → Int → Option Of100_1
 | 0, _, _, _ => none
 | fuel + 1, a, b, x5_1 =>
  cond (decide (x5_1 < ((a.length : Nat) : Int))) (
   cond (inRow x5_1 a.length) (
    cond (inRow x5_1 b.length) (
     cond (((List.getD a (Int.toNat x5_1) (0, 0)).1) != ((List.getD b (Int.toNat x5_1) (0, 0)).1)) (
      some (.r (decide (((List.getD a (Int.toNat x5_1) (0, 0)).1) < ((List.getD b (Int.toNat x5_1) (0, 0)).1))))
     ) (
      cond (((List.getD a (Int.toNat x5_1) (0, 0)).2) != ((List.getD b (Int.toNat x5_1) (0, 0)).2)) (
       some (.r (decide (((List.getD a (Int.toNat x5_1) (0, 0)).2) < ((List.getD b (Int.toNat x5_1) (0, 0)).2))))
      ) (
       f100_1 m fuel a b (w64 (x5_1 + 1))
      )
     )
    ) none
   ) none
  ) (
   some (.x0)
  )

abbrev quc1 (a : List (Int × Int)) (b : List (Int × Int)) (x5_1 : Int) (t : St) : St := (0, s0 0 a.length) :: (1, s0 1 b.length) :: (5, ii x5_1) :: t
theorem f100_1_ok (m : Nat) : ∀ (fuel : Nat) (z0 : Nat) (y0 : Nat) (a : List (Int × Int)) (z1 : Nat) (y1 : Nat) (b : List (Int × Int)) (x5_1 : Int) (o : Of100_1), f100_1 m fuel a b x5_1 = some o → ∀ Q : QP, (match o with | .r b4_r1 => Q .ret [(4, .bool b4_r1)] [(1, rc encP b z1 y1 2), (0, rc encP a z0 y0 2)] 2 | .x0 => Q (.exit 0) [] [(1, rc encP b z1 y1 2), (0, rc encP a z0 y0 2)] 2) → XL E0 56 2 fuel f100_L1 (quc1 a b x5_1 []) [(1, rc encP b z1 y1 2), (0, rc encP a z0 y0 2)] 2 Q
 | 0, z0, y0, a, z1, y1, b, x5_1, o, h, Q, hQ => by cases h
 | fuel + 1, z0, y0, a, z1, y1, b, x5_1, o, h, Q, hQ => by
  unfold f100_1 at h
  refine XL.succ E0_ok ?_
  refine sQ ?_
  refine qQ ?_
  refine rS 4 (quc1 a b x5_1 [(9, .bool (decide (x5_1 < ((a.length : Nat) : Int))))]) ?_
  refine dQ ?_
  show XQ _ _ _ _ _ _ _ _
  cases b1 : (decide (x5_1 < ((a.length : Nat) : Int)) : Bool) with
  | true =>
   have h := cT b1 h
   refine iT (.tmp 9) ?_
   refine kQ ?_
   show XQ _ _ _ _ _ _ _ _
   refine sQ ?_
   refine XQ.block (id := 1) (by kernel_rfl) ?_
   refine sQ ?_
   refine sQ ?_
   refine XQ.quiet E0_ok (by kernel_rfl) (by kernel_rfl) ?_
   refine XU.run E0_ok 1 2 [0, 1, 5, 12, 13] rfl (σ' := (quc1 a b x5_1 [(12, s0 0 a.length), (13, ii x5_1)])) (by kernel_rfl) ?_
   cases b2 : (inRow x5_1 a.length : Bool) with
   | false => cases (cF b2 h)
   | true =>
    have h := cT b2 h
    refine XU.rd E0_ok [0, 1, 5, 14] rfl (v := pp 0 ((Int.toNat x5_1) * 2)) (v_idx (s := 2) (x := (src 56 (.tmp 12))) (y := (src 56 (.tmp 13))) (b := 0) (o := 0) (len := a.length) (cap := a.length) (ik := .i64) (i := x5_1) (off := (Int.toNat x5_1) * 2) (d := (some (path 12 14))) (by kernel_rfl) (by kernel_rfl) (by kernel_rfl) b2 (by omega)) (σ' := (quc1 a b x5_1 [(14, pp 0 ((Int.toNat x5_1) * 2))])) (by kernel_rfl) ?_
    refine XU.run E0_ok 1 1 [0, 1, 5, 15] rfl (σ' := (quc1 a b x5_1 [(15, pp 0 ((Int.toNat x5_1) * 2))])) (by kernel_rfl) ?_
    refine XU.rd E0_ok [0, 1, 5, 16] rfl (v := ii ((List.getD a (Int.toNat x5_1) (0, 0)).1)) (v_load1 encP_ok (x := (src 56 (.tmp 15))) (b := 0) (off := (Int.toNat x5_1) * 2) (xs := a) (fz := z0) (e := y0) (es := 2) (d := (some (path 12 16))) (by kernel_rfl) (by kernel_rfl) (by kernel_rfl) (Int.toNat x5_1) 0 (0, 0) (by first | with_reducible rfl | omega | rfl) (row_len (inRow_toNat b2) (by simp)) rfl rfl) (σ' := (quc1 a b x5_1 [(16, ii ((List.getD a (Int.toNat x5_1) (0, 0)).1))])) (by kernel_rfl) ?_
    refine XU.run E0_ok 1 2 [0, 1, 5, 16, 17, 18] rfl (σ' := (quc1 a b x5_1 [(16, ii ((List.getD a (Int.toNat x5_1) (0, 0)).1)), (17, s0 1 b.length), (18, ii x5_1)])) (by kernel_rfl) ?_
    cases b3 : (inRow x5_1 b.length : Bool) with
    | false => cases (cF b3 h)
    | true =>
     have h := cT b3 h
     refine XU.rd E0_ok [0, 1, 5, 16, 19] rfl (v := pp 1 ((Int.toNat x5_1) * 2)) (v_idx (s := 2) (x := (src 56 (.tmp 17))) (y := (src 56 (.tmp 18))) (b := 1) (o := 0) (len := b.length) (cap := b.length) (ik := .i64) (i := x5_1) (off := (Int.toNat x5_1) * 2) (d := (some (path 12 19))) (by kernel_rfl) (by kernel_rfl) (by kernel_rfl) b3 (by omega)) (σ' := (quc1 a b x5_1 [(16, ii ((List.getD a (Int.toNat x5_1) (0, 0)).1)), (19, pp 1 ((Int.toNat x5_1) * 2))])) (by kernel_rfl) ?_
     refine XU.run E0_ok 1 1 [0, 1, 5, 16, 20] rfl (σ' := (quc1 a b x5_1 [(16, ii ((List.getD a (Int.toNat x5_1) (0, 0)).1)), (20, pp 1 ((Int.toNat x5_1) * 2))])) (by kernel_rfl) ?_
     refine XU.rd E0_ok [0, 1, 5, 16, 21] rfl (v := ii ((List.getD b (Int.toNat x5_1) (0, 0)).1)) (v_load1 encP_ok (x := (src 56 (.tmp 20))) (b := 1) (off := (Int.toNat x5_1) * 2) (xs := b) (fz := z1) (e := y1) (es := 2) (d := (some (path 12 21))) (by kernel_rfl) (by kernel_rfl) (by kernel_rfl) (Int.toNat x5_1) 0 (0, 0) (by first | with_reducible rfl | omega | rfl) (row_len (inRow_toNat b3) (by simp)) rfl rfl) (σ' := (quc1 a b x5_1 [(16, ii ((List.getD a (Int.toNat x5_1) (0, 0)).1)), (21, ii ((List.getD b (Int.toNat x5_1) (0, 0)).1))])) (by kernel_rfl) ?_
     refine XU.run E0_ok 1 1 [0, 1, 5, 22] rfl (σ' := (quc1 a b x5_1 [(22, .bool (((List.getD a (Int.toNat x5_1) (0, 0)).1) != ((List.getD b (Int.toNat x5_1) (0, 0)).1)))])) (by kernel_rfl) ?_
     refine XU.done (by kernel_rfl) ?_
     show XQ _ _ _ _ _ _ _ _
     cases b4 : (((List.getD a (Int.toNat x5_1) (0, 0)).1) != ((List.getD b (Int.toNat x5_1) (0, 0)).1) : Bool) with
     | true =>
      have h := cT b4 h
      refine iT (.tmp 22) ?_
      refine sQ ?_
      refine XQ.quiet E0_ok (by kernel_rfl) (by kernel_rfl) ?_
      refine XU.run E0_ok 1 2 [1, 5, 23, 24] rfl (σ' := [(1, s0 1 b.length), (5, ii x5_1), (23, s0 0 a.length), (24, ii x5_1)]) (by kernel_rfl) ?_
      refine XU.rd E0_ok [1, 5, 25] rfl (v := pp 0 ((Int.toNat x5_1) * 2)) (v_idx (s := 2) (x := (src 56 (.tmp 23))) (y := (src 56 (.tmp 24))) (b := 0) (o := 0) (len := a.length) (cap := a.length) (ik := .i64) (i := x5_1) (off := (Int.toNat x5_1) * 2) (d := (some (path 12 25))) (by kernel_rfl) (by kernel_rfl) (by kernel_rfl) b2 (by omega)) (σ' := [(1, s0 1 b.length), (5, ii x5_1), (25, pp 0 ((Int.toNat x5_1) * 2))]) (by kernel_rfl) ?_
      refine XU.run E0_ok 1 1 [1, 5, 26] rfl (σ' := [(1, s0 1 b.length), (5, ii x5_1), (26, pp 0 ((Int.toNat x5_1) * 2))]) (by kernel_rfl) ?_
      refine XU.rd E0_ok [1, 5, 27] rfl (v := ii ((List.getD a (Int.toNat x5_1) (0, 0)).1)) (v_load1 encP_ok (x := (src 56 (.tmp 26))) (b := 0) (off := (Int.toNat x5_1) * 2) (xs := a) (fz := z0) (e := y0) (es := 2) (d := (some (path 12 27))) (by kernel_rfl) (by kernel_rfl) (by kernel_rfl) (Int.toNat x5_1) 0 (0, 0) (by first | with_reducible rfl | omega | rfl) (row_len (inRow_toNat b2) (by simp)) rfl rfl) (σ' := [(1, s0 1 b.length), (5, ii x5_1), (27, ii ((List.getD a (Int.toNat x5_1) (0, 0)).1))]) (by kernel_rfl) ?_
      refine XU.run E0_ok 1 2 [27, 28, 29] rfl (σ' := [(27, ii ((List.getD a (Int.toNat x5_1) (0, 0)).1)), (28, s0 1 b.length), (29, ii x5_1)]) (by kernel_rfl) ?_
      refine XU.rd E0_ok [27, 30] rfl (v := pp 1 ((Int.toNat x5_1) * 2)) (v_idx (s := 2) (x := (src 56 (.tmp 28))) (y := (src 56 (.tmp 29))) (b := 1) (o := 0) (len := b.length) (cap := b.length) (ik := .i64) (i := x5_1) (off := (Int.toNat x5_1) * 2) (d := (some (path 12 30))) (by kernel_rfl) (by kernel_rfl) (by kernel_rfl) b3 (by omega)) (σ' := [(27, ii ((List.getD a (Int.toNat x5_1) (0, 0)).1)), (30, pp 1 ((Int.toNat x5_1) * 2))]) (by kernel_rfl) ?_
      refine XU.run E0_ok 1 1 [27, 31] rfl (σ' := [(27, ii ((List.getD a (Int.toNat x5_1) (0, 0)).1)), (31, pp 1 ((Int.toNat x5_1) * 2))]) (by kernel_rfl) ?_
      refine XU.rd E0_ok [27, 32] rfl (v := ii ((List.getD b (Int.toNat x5_1) (0, 0)).1)) (v_load1 encP_ok (x := (src 56 (.tmp 31))) (b := 1) (off := (Int.toNat x5_1) * 2) (xs := b) (fz := z1) (e := y1) (es := 2) (d := (some (path 12 32))) (by kernel_rfl) (by kernel_rfl) (by kernel_rfl) (Int.toNat x5_1) 0 (0, 0) (by first | with_reducible rfl | omega | rfl) (row_len (inRow_toNat b3) (by simp)) rfl rfl) (σ' := [(27, ii ((List.getD a (Int.toNat x5_1) (0, 0)).1)), (32, ii ((List.getD b (Int.toNat x5_1) (0, 0)).1))]) (by kernel_rfl) ?_
      refine XU.run E0_ok 1 2 [4] rfl (σ' := [(4, .bool (decide (((List.getD a (Int.toNat x5_1) (0, 0)).1) < ((List.getD b (Int.toNat x5_1) (0, 0)).1))))]) (by kernel_rfl) ?_
      refine XU.done (by kernel_rfl) ?_
      show XQ _ _ _ _ _ _ _ _
      refine XQ.ren (σ' := [(4, .bool (decide (((List.getD a (Int.toNat x5_1) (0, 0)).1) < ((List.getD b (Int.toNat x5_1) (0, 0)).1))))]) (h' := [(1, rc encP b z1 y1 2), (0, rc encP a z0 y0 2)]) (c' := 2) [0, 1] (by decide) rfl ⟨rfl, trivial⟩ ⟨⟨_, _, rfl, rfl, .inl ⟨rfl, rwP⟩⟩, ⟨_, _, rfl, rfl, .inl ⟨rfl, rwP⟩⟩, trivial⟩ rfl ?_
      refine XQ.ret (by kernel_rfl) ?_
      cases h
      exact hQ
     | false =>
      have h := cF b4 h
      refine iF (.tmp 22) ?_
      refine kQ ?_
      show XQ _ _ _ _ _ _ _ _
      refine sQ ?_
      refine XQ.quiet E0_ok (by kernel_rfl) (by kernel_rfl) ?_
      refine XU.run E0_ok 1 2 [0, 1, 5, 34, 35] rfl (σ' := (quc1 a b x5_1 [(34, s0 0 a.length), (35, ii x5_1)])) (by kernel_rfl) ?_
      refine XU.rd E0_ok [0, 1, 5, 36] rfl (v := pp 0 ((Int.toNat x5_1) * 2)) (v_idx (s := 2) (x := (src 56 (.tmp 34))) (y := (src 56 (.tmp 35))) (b := 0) (o := 0) (len := a.length) (cap := a.length) (ik := .i64) (i := x5_1) (off := (Int.toNat x5_1) * 2) (d := (some (path 12 36))) (by kernel_rfl) (by kernel_rfl) (by kernel_rfl) b2 (by omega)) (σ' := (quc1 a b x5_1 [(36, pp 0 ((Int.toNat x5_1) * 2))])) (by kernel_rfl) ?_
      refine XU.run E0_ok 1 1 [0, 1, 5, 37] rfl (σ' := (quc1 a b x5_1 [(37, pp 0 ((Int.toNat x5_1) * 2 + 1))])) (by kernel_rfl) ?_
      refine XU.rd E0_ok [0, 1, 5, 38] rfl (v := ii ((List.getD a (Int.toNat x5_1) (0, 0)).2)) (v_load1 encP_ok (x := (src 56 (.tmp 37))) (b := 0) (off := (Int.toNat x5_1) * 2 + 1) (xs := a) (fz := z0) (e := y0) (es := 2) (d := (some (path 12 38))) (by kernel_rfl) (by kernel_rfl) (by kernel_rfl) (Int.toNat x5_1) 1 (0, 0) (by first | with_reducible rfl | omega | rfl) (row_len (inRow_toNat b2) (by simp)) rfl rfl) (σ' := (quc1 a b x5_1 [(38, ii ((List.getD a (Int.toNat x5_1) (0, 0)).2))])) (by kernel_rfl) ?_
      refine XU.run E0_ok 1 2 [0, 1, 5, 38, 39, 40] rfl (σ' := (quc1 a b x5_1 [(38, ii ((List.getD a (Int.toNat x5_1) (0, 0)).2)), (39, s0 1 b.length), (40, ii x5_1)])) (by kernel_rfl) ?_
      refine XU.rd E0_ok [0, 1, 5, 38, 41] rfl (v := pp 1 ((Int.toNat x5_1) * 2)) (v_idx (s := 2) (x := (src 56 (.tmp 39))) (y := (src 56 (.tmp 40))) (b := 1) (o := 0) (len := b.length) (cap := b.length) (ik := .i64) (i := x5_1) (off := (Int.toNat x5_1) * 2) (d := (some (path 12 41))) (by kernel_rfl) (by kernel_rfl) (by kernel_rfl) b3 (by omega)) (σ' := (quc1 a b x5_1 [(38, ii ((List.getD a (Int.toNat x5_1) (0, 0)).2)), (41, pp 1 ((Int.toNat x5_1) * 2))])) (by kernel_rfl) ?_
      refine XU.run E0_ok 1 1 [0, 1, 5, 38, 42] rfl (σ' := (quc1 a b x5_1 [(38, ii ((List.getD a (Int.toNat x5_1) (0, 0)).2)), (42, pp 1 ((Int.toNat x5_1) * 2 + 1))])) (by kernel_rfl) ?_
      refine XU.rd E0_ok [0, 1, 5, 38, 43] rfl (v := ii ((List.getD b (Int.toNat x5_1) (0, 0)).2)) (v_load1 encP_ok (x := (src 56 (.tmp 42))) (b := 1) (off := (Int.toNat x5_1) * 2 + 1) (xs := b) (fz := z1) (e := y1) (es := 2) (d := (some (path 12 43))) (by kernel_rfl) (by kernel_rfl) (by kernel_rfl) (Int.toNat x5_1) 1 (0, 0) (by first | with_reducible rfl | omega | rfl) (row_len (inRow_toNat b3) (by simp)) rfl rfl) (σ' := (quc1 a b x5_1 [(38, ii ((List.getD a (Int.toNat x5_1) (0, 0)).2)), (43, ii ((List.getD b (Int.toNat x5_1) (0, 0)).2))])) (by kernel_rfl) ?_
      refine XU.run E0_ok 1 1 [0, 1, 5, 44] rfl (σ' := (quc1 a b x5_1 [(44, .bool (((List.getD a (Int.toNat x5_1) (0, 0)).2) != ((List.getD b (Int.toNat x5_1) (0, 0)).2)))])) (by kernel_rfl) ?_
      refine XU.done (by kernel_rfl) ?_
      show XQ _ _ _ _ _ _ _ _
      cases b5 : (((List.getD a (Int.toNat x5_1) (0, 0)).2) != ((List.getD b (Int.toNat x5_1) (0, 0)).2) : Bool) with
      | true =>
       have h := cT b5 h
       refine iT (.tmp 44) ?_
       refine sQ ?_
       refine XQ.quiet E0_ok (by kernel_rfl) (by kernel_rfl) ?_
       refine XU.run E0_ok 1 2 [1, 5, 45, 46] rfl (σ' := [(1, s0 1 b.length), (5, ii x5_1), (45, s0 0 a.length), (46, ii x5_1)]) (by kernel_rfl) ?_
       refine XU.rd E0_ok [1, 5, 47] rfl (v := pp 0 ((Int.toNat x5_1) * 2)) (v_idx (s := 2) (x := (src 56 (.tmp 45))) (y := (src 56 (.tmp 46))) (b := 0) (o := 0) (len := a.length) (cap := a.length) (ik := .i64) (i := x5_1) (off := (Int.toNat x5_1) * 2) (d := (some (path 12 47))) (by kernel_rfl) (by kernel_rfl) (by kernel_rfl) b2 (by omega)) (σ' := [(1, s0 1 b.length), (5, ii x5_1), (47, pp 0 ((Int.toNat x5_1) * 2))]) (by kernel_rfl) ?_
       refine XU.run E0_ok 1 1 [1, 5, 48] rfl (σ' := [(1, s0 1 b.length), (5, ii x5_1), (48, pp 0 ((Int.toNat x5_1) * 2 + 1))]) (by kernel_rfl) ?_
       refine XU.rd E0_ok [1, 5, 49] rfl (v := ii ((List.getD a (Int.toNat x5_1) (0, 0)).2)) (v_load1 encP_ok (x := (src 56 (.tmp 48))) (b := 0) (off := (Int.toNat x5_1) * 2 + 1) (xs := a) (fz := z0) (e := y0) (es := 2) (d := (some (path 12 49))) (by kernel_rfl) (by kernel_rfl) (by kernel_rfl) (Int.toNat x5_1) 1 (0, 0) (by first | with_reducible rfl | omega | rfl) (row_len (inRow_toNat b2) (by simp)) rfl rfl) (σ' := [(1, s0 1 b.length), (5, ii x5_1), (49, ii ((List.getD a (Int.toNat x5_1) (0, 0)).2))]) (by kernel_rfl) ?_
       refine XU.run E0_ok 1 2 [49, 50, 51] rfl (σ' := [(49, ii ((List.getD a (Int.toNat x5_1) (0, 0)).2)), (50, s0 1 b.length), (51, ii x5_1)]) (by kernel_rfl) ?_
       refine XU.rd E0_ok [49, 52] rfl (v := pp 1 ((Int.toNat x5_1) * 2)) (v_idx (s := 2) (x := (src 56 (.tmp 50))) (y := (src 56 (.tmp 51))) (b := 1) (o := 0) (len := b.length) (cap := b.length) (ik := .i64) (i := x5_1) (off := (Int.toNat x5_1) * 2) (d := (some (path 12 52))) (by kernel_rfl) (by kernel_rfl) (by kernel_rfl) b3 (by omega)) (σ' := [(49, ii ((List.getD a (Int.toNat x5_1) (0, 0)).2)), (52, pp 1 ((Int.toNat x5_1) * 2))]) (by kernel_rfl) ?_
       refine XU.run E0_ok 1 1 [49, 53] rfl (σ' := [(49, ii ((List.getD a (Int.toNat x5_1) (0, 0)).2)), (53, pp 1 ((Int.toNat x5_1) * 2 + 1))]) (by kernel_rfl) ?_
       refine XU.rd E0_ok [49, 54] rfl (v := ii ((List.getD b (Int.toNat x5_1) (0, 0)).2)) (v_load1 encP_ok (x := (src 56 (.tmp 53))) (b := 1) (off := (Int.toNat x5_1) * 2 + 1) (xs := b) (fz := z1) (e := y1) (es := 2) (d := (some (path 12 54))) (by kernel_rfl) (by kernel_rfl) (by kernel_rfl) (Int.toNat x5_1) 1 (0, 0) (by first | with_reducible rfl | omega | rfl) (row_len (inRow_toNat b3) (by simp)) rfl rfl) (σ' := [(49, ii ((List.getD a (Int.toNat x5_1) (0, 0)).2)), (54, ii ((List.getD b (Int.toNat x5_1) (0, 0)).2))]) (by kernel_rfl) ?_
       refine XU.run E0_ok 1 2 [4] rfl (σ' := [(4, .bool (decide (((List.getD a (Int.toNat x5_1) (0, 0)).2) < ((List.getD b (Int.toNat x5_1) (0, 0)).2))))]) (by kernel_rfl) ?_
       refine XU.done (by kernel_rfl) ?_
       show XQ _ _ _ _ _ _ _ _
       refine XQ.ren (σ' := [(4, .bool (decide (((List.getD a (Int.toNat x5_1) (0, 0)).2) < ((List.getD b (Int.toNat x5_1) (0, 0)).2))))]) (h' := [(1, rc encP b z1 y1 2), (0, rc encP a z0 y0 2)]) (c' := 2) [0, 1] (by decide) rfl ⟨rfl, trivial⟩ ⟨⟨_, _, rfl, rfl, .inl ⟨rfl, rwP⟩⟩, ⟨_, _, rfl, rfl, .inl ⟨rfl, rwP⟩⟩, trivial⟩ rfl ?_
       refine XQ.ret (by kernel_rfl) ?_
       cases h
       exact hQ
      | false =>
       have h := cF b5 h
       refine iF (.tmp 44) ?_
       refine kQ ?_
       show XQ _ _ _ _ _ _ _ _
       refine rQ ?_
       refine rS 3 [(0, s0 0 a.length), (1, s0 1 b.length), (5, ii (w64 (x5_1 + 1)))] ?_
       refine dQ ?_
       show XL _ _ _ _ _ _ _ _ _
       refine XL.ren (σ' := [(0, s0 0 a.length), (1, s0 1 b.length), (5, ii (w64 (x5_1 + 1)))]) (h' := [(1, rc encP b z1 y1 2), (0, rc encP a z0 y0 2)]) (c' := 2) [0, 1] (by decide) rfl ⟨rfl, rfl, rfl, trivial⟩ ⟨⟨_, _, rfl, rfl, .inl ⟨rfl, rwP⟩⟩, ⟨_, _, rfl, rfl, .inl ⟨rfl, rwP⟩⟩, trivial⟩ rfl ?_
       refine XL.conv (f100_1_ok m fuel z0 y0 a z1 y1 b (w64 (x5_1 + 1)) o h Q hQ) (by first | with_reducible rfl | simp | rfl)
  | false =>
   have h := cF b1 h
   refine iF (.tmp 9) ?_
   refine XQ.ren (σ' := []) (h' := [(1, rc encP b z1 y1 2), (0, rc encP a z0 y0 2)]) (c' := 2) [0, 1] (by decide) rfl trivial ⟨⟨_, _, rfl, rfl, .inl ⟨rfl, rwP⟩⟩, ⟨_, _, rfl, rfl, .inl ⟨rfl, rwP⟩⟩, trivial⟩ rfl ?_
   refine XQ.exit (i := 0) (by kernel_rfl) ?_
   cases h
   exact hQ
def f100 (m : Nat) (a : List (Int × Int)) (b : List (Int × Int)) : Option (Bool) :=
 (f100_1 m m a b 0).bind fun o1 =>
  match o1 with
  | .r b4_r1 =>
   some (b4_r1)
  | .x0 =>
   some (false)
theorem f100_ok (m : Nat) (z0 : Nat) (y0 : Nat) (z1 : Nat) (y1 : Nat) (a : List (Int × Int)) (b : List (Int × Int)) (o : Bool) (h : f100 m a b = some o) : KC E0 100 [s0 0 a.length, s0 1 b.length] [(1, rc encP b z1 y1 2), (0, rc encP a z0 y0 2)] 2 (fun v _ _ => v = .bool o) := by
 refine KC.bodyN E0_ok (F := Proofs.Tryd.f100) (by kernel_rfl) (code := f100_C100) (by kernel_rfl) (nt := 56) (by kernel_rfl) (rs := [.tmp 4]) (by kernel_rfl) (by kernel_rfl) (σ := [(0, s0 0 a.length), (1, s0 1 b.length)]) (by kernel_rfl) ?_
 unfold f100 at h
 refine qQ ?_
 refine rS 1 [(0, s0 0 a.length), (1, s0 1 b.length)] ?_
 refine dQ ?_
 show XQ _ _ _ _ _ _ _ _
 refine sQ ?_
 refine qQ ?_
 refine rS 1 [(0, s0 0 a.length), (1, s0 1 b.length), (5, ii 0)] ?_
 refine dQ ?_
 show XQ _ _ _ _ _ _ _ _
 refine XQ.block (id := 0) (by kernel_rfl) ?_
 refine XQ.loop m (by kernel_rfl) ?_
 obtain ⟨o1, o1_h, h⟩ := bS h
 refine XL.ren (σ' := [(0, s0 0 a.length), (1, s0 1 b.length), (5, ii 0)]) (h' := [(1, rc encP b z1 y1 2), (0, rc encP a z0 y0 2)]) (c' := 2) [0, 1] (by decide) rfl ⟨rfl, rfl, rfl, trivial⟩ ⟨⟨_, _, rfl, rfl, .inl ⟨rfl, rwP⟩⟩, ⟨_, _, rfl, rfl, .inl ⟨rfl, rwP⟩⟩, trivial⟩ rfl ?_
 cases o1 with
 | r b4_r1 =>
  dsimp only at h
  refine XL.conv (f100_1_ok m m z0 y0 a z1 y1 b 0 (.r b4_r1) o1_h _ ?_) (by first | with_reducible rfl | simp | rfl)
  have h := Option.some.inj h
  subst h
  exact ⟨fun i q => (by cases q), .bool b4_r1, (by kernel_rfl), rfl⟩
 | x0 =>
  dsimp only at h
  refine XL.conv (f100_1_ok m m z0 y0 a z1 y1 b 0 (.x0) o1_h _ ?_) (by first | with_reducible rfl | simp | rfl)
  show XQ _ _ _ _ _ _ _ _
  refine qQ ?_
  refine rS 1 [(4, .bool false)] ?_
  refine dQ ?_
  show XQ _ _ _ _ _ _ _ _
  refine XQ.ret (by kernel_rfl) ?_
  have h := Option.some.inj h
  subst h
  exact ⟨fun i q => (by cases q), .bool false, (by kernel_rfl), rfl⟩
noncomputable def f101_C101 : Code := Proofs.Tryd.f101.body.getD .skip
noncomputable def f101_L1 : Code := lft (lft (rgt (lft (rgt (rgt f101_C101)))))
def f101_1 (m : Nat) : Nat → Int → Int → Int → List (Int × Int) → Option (List (Int × Int))
 | 0, _, _, _, _ => none
 | fuel + 1, a, b, x6_1, lh0_1 =>
  cond (decide (0 ≤ x6_1)) (
   cond (decide ((shV false .i64 b x6_1) > 0)) (
    cond ((Int.tmod (shV false .i64 b x6_1) 2) == 1) (
     cond (fitsB (lh0_1.length + 1) 16) (
      f101_1 m fuel a b (w64 (x6_1 + 1)) (lh0_1 ++ [(a, w64 ((w64 (a + 1)) + x6_1))])
     ) none
    ) (
     f101_1 m fuel a b (w64 (x6_1 + 1)) lh0_1
    )
   ) (
    some (lh0_1)
   )
  ) none
theorem f101_1_ok (m : Nat) : ∀ (fuel : Nat) (a : Int) (b : Int) (x6_1 : Int) (lh0_1 : List (Int × Int)) (o : (List (Int × Int))), f101_1 m fuel a b x6_1 lh0_1 = some o → ∀ Q : QP, Q (.exit 0) [(5, s0 0 o.length)] [(0, rc encP o 0 55 2)] 1 → XL E0 28 0 fuel f101_L1 [(0, ii a), (1, ii b), (5, s0 0 lh0_1.length), (6, ii x6_1)] [(0, rc encP lh0_1 0 55 2)] 1 Q
 | 0, a, b, x6_1, lh0_1, o, h, Q, hQ => by cases h
 | fuel + 1, a, b, x6_1, lh0_1, o, h, Q, hQ => by
  unfold f101_1 at h
  refine XL.succ E0_ok ?_
  refine sQ ?_
  refine qQ ?_
  refine rS 2 [(0, ii a), (1, ii b), (5, s0 0 lh0_1.length), (6, ii x6_1), (7, ii b), (8, ii x6_1)] ?_
  cases b1 : (decide (0 ≤ x6_1) : Bool) with
  | false => cases (cF b1 h)
  | true =>
   have h := cT b1 h
   have e2 : insV (headI ((gsOf E0 28 (opsOf (lft (lft f101_L1)))).drop 2) (trS 28 [(0, ii a), (1, ii b), (5, s0 0 lh0_1.length), (6, ii x6_1), (7, ii b), (8, ii x6_1)])) (trS 28 [(0, ii a), (1, ii b), (5, s0 0 lh0_1.length), (6, ii x6_1), (7, ii b), (8, ii x6_1)]) [(0, rc encP lh0_1 0 55 2)] = (match (decide (0 ≤ x6_1) : Bool) with | true => some (ii (shV false .i64 b x6_1)) | false => none) := by kernel_rfl
   refine XR.rd E0_ok [0, 1, 5, 6, 9] rfl (e2.trans (by rw [b1])) (σ' := [(0, ii a), (1, ii b), (5, s0 0 lh0_1.length), (6, ii x6_1), (9, ii (shV false .i64 b x6_1))]) (by kernel_rfl) ?_
   refine rS 1 [(0, ii a), (1, ii b), (5, s0 0 lh0_1.length), (6, ii x6_1), (10, .bool (decide ((shV false .i64 b x6_1) > 0)))] ?_
   refine dQ ?_
   show XQ _ _ _ _ _ _ _ _
   cases b3 : (decide ((shV false .i64 b x6_1) > 0) : Bool) with
   | true =>
    have h := cT b3 h
    refine iT (.tmp 10) ?_
    refine kQ ?_
    show XQ _ _ _ _ _ _ _ _
    refine sQ ?_
    refine XQ.block (id := 1) (by kernel_rfl) ?_
    refine qQ ?_
    refine rS 2 [(0, ii a), (1, ii b), (5, s0 0 lh0_1.length), (6, ii x6_1), (13, ii b), (14, ii x6_1)] ?_
    have e4 : insV (headI ((gsOf E0 28 (opsOf (lft (lft (lft (rgt f101_L1)))))).drop 2) (trS 28 [(0, ii a), (1, ii b), (5, s0 0 lh0_1.length), (6, ii x6_1), (13, ii b), (14, ii x6_1)])) (trS 28 [(0, ii a), (1, ii b), (5, s0 0 lh0_1.length), (6, ii x6_1), (13, ii b), (14, ii x6_1)]) [(0, rc encP lh0_1 0 55 2)] = (match (decide (0 ≤ x6_1) : Bool) with | true => some (ii (shV false .i64 b x6_1)) | false => none) := by kernel_rfl
    refine XR.rd E0_ok [0, 1, 5, 6, 15] rfl (e4.trans (by rw [b1])) (σ' := [(0, ii a), (1, ii b), (5, s0 0 lh0_1.length), (6, ii x6_1), (15, ii (shV false .i64 b x6_1))]) (by kernel_rfl) ?_
    refine rS 2 [(0, ii a), (1, ii b), (5, s0 0 lh0_1.length), (6, ii x6_1), (17, .bool ((Int.tmod (shV false .i64 b x6_1) 2) == 1))] ?_
    refine dQ ?_
    show XQ _ _ _ _ _ _ _ _
    cases b5 : ((Int.tmod (shV false .i64 b x6_1) 2) == 1 : Bool) with
    | true =>
     have h := cT b5 h
     refine iT (.tmp 17) ?_
     refine rQ ?_
     refine rT 8 [(0, ii a), (1, ii b), (6, ii x6_1), (18, s0 0 lh0_1.length), (25, s0 1 1)] [(1, .cells [ii a, ii (w64 ((w64 (a + 1)) + x6_1))] 0 55 2), (0, rc encP lh0_1 0 55 2)] 2 ?_
     cases b6 : (fitsB (lh0_1.length + 1) 16 : Bool) with
     | false => cases (cF b6 h)
     | true =>
      have h := cT b6 h
      refine XR.ef E0_ok [0, 1, 6, 26] rfl (e_append encP_ok (bytes := 16) (e := 55) (x := (src 28 (.tmp 18))) (y := (src 28 (.tmp 25))) (b := 0) (len := lh0_1.length) (cap := lh0_1.length) (xs := lh0_1) (m := 0) (ys := [(a, w64 ((w64 (a + 1)) + x6_1))]) (d := (some (path 12 26))) (n' := (lh0_1 ++ [(a, w64 ((w64 (a + 1)) + x6_1))]).length) (h' := [(2, rc encP (lh0_1 ++ [(a, w64 ((w64 (a + 1)) + x6_1))]) 0 55 2), (1, .cells [ii a, ii (w64 ((w64 (a + 1)) + x6_1))] 0 55 2)]) (by kernel_rfl) (by kernel_rfl) (by kernel_rfl) (by kernel_rfl) rfl (by simp) (by simp) b6 (by simp) (by kernel_rfl)) (σ' := [(0, ii a), (1, ii b), (6, ii x6_1), (26, s0 2 ((lh0_1 ++ [(a, w64 ((w64 (a + 1)) + x6_1))]).length))]) (by kernel_rfl) ?_
      refine rS 1 [(0, ii a), (1, ii b), (5, s0 2 ((lh0_1 ++ [(a, w64 ((w64 (a + 1)) + x6_1))]).length)), (6, ii x6_1)] ?_
      refine dQ ?_
      show XQ _ _ _ _ _ _ _ _
      refine rQ ?_
      refine rS 3 [(0, ii a), (1, ii b), (5, s0 2 ((lh0_1 ++ [(a, w64 ((w64 (a + 1)) + x6_1))]).length)), (6, ii (w64 (x6_1 + 1)))] ?_
      refine dQ ?_
      show XL _ _ _ _ _ _ _ _ _
      refine XL.ren (σ' := [(0, ii a), (1, ii b), (5, s0 0 ((lh0_1 ++ [(a, w64 ((w64 (a + 1)) + x6_1))]).length)), (6, ii (w64 (x6_1 + 1)))]) (h' := [(0, rc encP (lh0_1 ++ [(a, w64 ((w64 (a + 1)) + x6_1))]) 0 55 2)]) (c' := 1) [2] (by decide) rfl ⟨rfl, rfl, rfl, rfl, trivial⟩ ⟨⟨_, _, rfl, rfl, .inl ⟨rfl, rwP⟩⟩, trivial⟩ rfl ?_
      refine XL.conv (f101_1_ok m fuel a b (w64 (x6_1 + 1)) (lh0_1 ++ [(a, w64 ((w64 (a + 1)) + x6_1))]) o h Q hQ) (by first | with_reducible rfl | simp | rfl)
    | false =>
     have h := cF b5 h
     refine iF (.tmp 17) ?_
     refine kQ ?_
     show XQ _ _ _ _ _ _ _ _
     refine rQ ?_
     refine rS 3 [(0, ii a), (1, ii b), (5, s0 0 lh0_1.length), (6, ii (w64 (x6_1 + 1)))] ?_
     refine dQ ?_
     show XL _ _ _ _ _ _ _ _ _
     refine XL.ren (σ' := [(0, ii a), (1, ii b), (5, s0 0 lh0_1.length), (6, ii (w64 (x6_1 + 1)))]) (h' := [(0, rc encP lh0_1 0 55 2)]) (c' := 1) [0] (by decide) rfl ⟨rfl, rfl, rfl, rfl, trivial⟩ ⟨⟨_, _, rfl, rfl, .inl ⟨rfl, rwP⟩⟩, trivial⟩ rfl ?_
     refine XL.conv (f101_1_ok m fuel a b (w64 (x6_1 + 1)) lh0_1 o h Q hQ) (by first | with_reducible rfl | simp | rfl)
   | false =>
    have h := cF b3 h
    refine iF (.tmp 10) ?_
    refine XQ.ren (σ' := [(5, s0 0 lh0_1.length)]) (h' := [(0, rc encP lh0_1 0 55 2)]) (c' := 1) [0] (by decide) rfl ⟨rfl, trivial⟩ ⟨⟨_, _, rfl, rfl, .inl ⟨rfl, rwP⟩⟩, trivial⟩ rfl ?_
    refine XQ.exit (i := 0) (by kernel_rfl) ?_
    cases h
    exact hQ
def f101 (m : Nat) (a : Int) (b : Int) : Option (List (Int × Int)) :=
 (f101_1 m m a b 0 []).bind fun o1 =>
  some (o1)
theorem f101_ok (m : Nat) (a : Int) (b : Int) (o : List (Int × Int)) (h : f101 m a b = some o) : KC E0 101 [ii a, ii b] [] 0 (fun v h' c' => v = s0 0 o.length ∧ h' = [(0, rc encP o 0 55 2)] ∧ c' = 1) := by
 refine KC.bodyN E0_ok (F := Proofs.Tryd.f101) (by kernel_rfl) (code := f101_C101) (by kernel_rfl) (nt := 28) (by kernel_rfl) (rs := [.tmp 4]) (by kernel_rfl) (by kernel_rfl) (σ := [(0, ii a), (1, ii b)]) (by kernel_rfl) ?_
 unfold f101 at h
 refine qQ ?_
 refine rS 1 [(0, ii a), (1, ii b)] ?_
 refine nQ id ?_
 refine rS 1 [(0, ii a), (1, ii b), (5, .slice none 0 0)] ?_
 refine dQ ?_
 show XQ _ _ _ _ _ _ _ _
 refine XQ.ghost 55 2 rfl (σ' := [(0, ii a), (1, ii b), (5, s0 0 0)]) (h' := []) ⟨rfl, rfl, rfl, trivial⟩ trivial ?_
 refine XQ.conv (σ' := [(0, ii a), (1, ii b), (5, s0 0 0)]) (h' := [(0, rc encP [] 0 55 2)]) (c' := 1) ?_ (by kernel_rfl)
 refine sQ ?_
 refine qQ ?_
 refine rS 1 [(0, ii a), (1, ii b), (5, s0 0 0), (6, ii 0)] ?_
 refine dQ ?_
 show XQ _ _ _ _ _ _ _ _
 refine XQ.block (id := 0) (by kernel_rfl) ?_
 refine XQ.loop m (by kernel_rfl) ?_
 obtain ⟨o1, o1_h, h⟩ := bS h
 refine XL.ren (σ' := [(0, ii a), (1, ii b), (5, s0 0 0), (6, ii 0)]) (h' := [(0, rc encP [] 0 55 2)]) (c' := 1) [0] (by decide) rfl ⟨rfl, rfl, rfl, rfl, trivial⟩ ⟨⟨_, _, rfl, rfl, .inl ⟨rfl, rwP⟩⟩, trivial⟩ rfl ?_
 refine XL.conv (f101_1_ok m m a b 0 [] o1 o1_h _ ?_) (by first | with_reducible rfl | simp | rfl)
 show XQ _ _ _ _ _ _ _ _
 refine qQ ?_
 refine rS 2 [(4, s0 0 o1.length)] ?_
 refine dQ ?_
 show XQ _ _ _ _ _ _ _ _
 refine XQ.ren (σ' := [(4, s0 0 o1.length)]) (h' := [(0, rc encP o1 0 55 2)]) (c' := 1) [0] (by decide) rfl ⟨rfl, trivial⟩ ⟨⟨_, _, rfl, rfl, .inl ⟨rfl, rwP⟩⟩, trivial⟩ rfl ?_
 refine XQ.ret (by kernel_rfl) ?_
 have h := Option.some.inj h
 subst h
 exact ⟨fun i q => (by cases q), s0 0 o1.length, (by kernel_rfl), (by kernel_rfl), (by kernel_rfl), rfl⟩
noncomputable def f71_C71 : Code := Proofs.Tryd.f71.body.getD .skip
noncomputable def f71_L1 : Code := lft (lft (rgt (lft (rgt (rgt (rgt f71_C71))))))
def f71_1 (m : Nat) : Nat → List Int → Int → Int → Int → Option Int
 | 0, _, _, _, _ => none
 | fuel + 1, a, b, x5_1, x6_1 =>
  cond (decide (0 ≤ w64 (((a.length : Nat) : Int) - 1))) (
   cond (decide (x6_1 < (shV true .i64 1 (w64 (((a.length : Nat) : Int) - 1))))) (
    (f98 m a x6_1).bind fun r36 =>
     cond (r36.2) (
      (f99 m x6_1).bind fun r39 =>
       cond (inRow 0 a.length) (
        cond (r39 == (List.getD a 0 0)) (
         cond (((r36.1.length : Nat) : Int) == 0) (
          cond (decide (x5_1 < 0)) (
           f71_1 m fuel a b x6_1 (w64 (x6_1 + 1))
          ) (
           (f101 m b x6_1).bind fun r41 =>
            (f101 m b x5_1).bind fun r42 =>
             (f100 m r41 r42).bind fun r43 =>
              f71_1 m fuel a b (cond (r43) x6_1 x5_1) (w64 (x6_1 + 1))
          )
         ) (
          (f60 m r36.1).bind fun r51 =>
           cond (r51) (
            cond (decide (x5_1 < 0)) (
             f71_1 m fuel a b x6_1 (w64 (x6_1 + 1))
            ) (
             (f101 m b x6_1).bind fun r54 =>
              (f101 m b x5_1).bind fun r55 =>
               (f100 m r54 r55).bind fun r56 =>
                f71_1 m fuel a b (cond (r56) x6_1 x5_1) (w64 (x6_1 + 1))
            )
           ) (
            f71_1 m fuel a b x5_1 (w64 (x6_1 + 1))
           )
         )
        ) (
         f71_1 m fuel a b x5_1 (w64 (x6_1 + 1))
        )
       ) none
     ) (
      f71_1 m fuel a b x5_1 (w64 (x6_1 + 1))
     )
   ) (
    some (x5_1)
   )
  ) none

abbrev quc2 (a : List Int) (b : Int) (x5_1 : Int) (x6_1 : Int) (t : St) : St := (0, s0 0 a.length) :: (1, ii b) :: (5, ii x5_1) :: (6, ii x6_1) :: t
theorem f71_1_ok (m : Nat) : ∀ (fuel : Nat) (z0 : Nat) (y0 : Nat) (a : List Int) (b : Int) (x5_1 : Int) (x6_1 : Int) (o : Int), f71_1 m fuel a b x5_1 x6_1 = some o → ∀ Q : QP, Q (.exit 0) [(0, s0 0 a.length), (1, ii b), (5, ii o)] [(0, rc (encI .i64) a z0 y0 1)] 1 → XL E0 74 1 fuel f71_L1 (quc2 a b x5_1 x6_1 []) [(0, rc (encI .i64) a z0 y0 1)] 1 Q
 | 0, z0, y0, a, b, x5_1, x6_1, o, h, Q, hQ => by cases h
 | fuel + 1, z0, y0, a, b, x5_1, x6_1, o, h, Q, hQ => by
  unfold f71_1 at h
  refine XL.succ E0_ok ?_
  refine sQ ?_
  refine qQ ?_
  refine rS 4 (quc2 a b x5_1 x6_1 [(14, ii x6_1), (17, ii (w64 (((a.length : Nat) : Int) - 1)))]) ?_
  cases b1 : (decide (0 ≤ w64 (((a.length : Nat) : Int) - 1)) : Bool) with
  | false => cases (cF b1 h)
  | true =>
   have h := cT b1 h
   have e2 : insV (headI ((gsOf E0 74 (opsOf (lft (lft f71_L1)))).drop 4) (trS 74 (quc2 a b x5_1 x6_1 [(14, ii x6_1), (17, ii (w64 (((a.length : Nat) : Int) - 1)))]))) (trS 74 (quc2 a b x5_1 x6_1 [(14, ii x6_1), (17, ii (w64 (((a.length : Nat) : Int) - 1)))])) [(0, rc (encI .i64) a z0 y0 1)] = (match (decide (0 ≤ w64 (((a.length : Nat) : Int) - 1)) : Bool) with | true => some (ii (shV true .i64 1 (w64 (((a.length : Nat) : Int) - 1)))) | false => none) := by kernel_rfl
   refine XR.rd E0_ok [0, 1, 5, 6, 14, 18] rfl (e2.trans (by rw [b1])) (σ' := (quc2 a b x5_1 x6_1 [(14, ii x6_1), (18, ii (shV true .i64 1 (w64 (((a.length : Nat) : Int) - 1))))])) (by kernel_rfl) ?_
   refine rS 1 (quc2 a b x5_1 x6_1 [(19, .bool (decide (x6_1 < (shV true .i64 1 (w64 (((a.length : Nat) : Int) - 1))))))]) ?_
   refine dQ ?_
   show XQ _ _ _ _ _ _ _ _
   cases b3 : (decide (x6_1 < (shV true .i64 1 (w64 (((a.length : Nat) : Int) - 1)))) : Bool) with
   | true =>
    have h := cT b3 h
    refine iT (.tmp 19) ?_
    refine kQ ?_
    show XQ _ _ _ _ _ _ _ _
    refine sQ ?_
    refine XQ.block (id := 1) (by kernel_rfl) ?_
    refine qQ ?_
    refine rS 2 (quc2 a b x5_1 x6_1 [(23, s0 0 a.length), (24, ii x6_1)]) ?_
    obtain ⟨r36, r36_h, h⟩ := bS h
    refine XR.call E0_ok [0, 1, 5, 6, 25] rfl (K := 98) (args := [s0 0 a.length, ii x6_1]) (d := (some (path 12 25))) (by kernel_rfl) (KC.liftH (n0 := 1) (m := 1) (args0 := [s0 0 a.length, ii x6_1]) (h0 := [(0, rc (encI .i64) a (z0 + ((rowC (encI .i64) a).length + 1)) y0 1)]) (V := .tuple #[s0 1 r36.1.length, .bool r36.2]) (V2 := .tuple #[s0 1 r36.1.length, .bool r36.2]) (H := [(1, rI r36.1)]) (H2 := [(1, rI r36.1)]) [0] [2, 1] (f98_ok m (z0 + ((rowC (encI .i64) a).length + 1)) y0 a x6_1 r36 r36_h) (by rfl) (by decide) rfl (by kernel_rfl) ⟨⟨_, _, rfl, rfl, .inl ⟨rfl, rwI⟩⟩, trivial⟩ (by decide) (by decide) (by kernel_rfl) ⟨⟨_, _, rfl, rfl, .inl ⟨rfl, rwI⟩⟩, trivial⟩ (by rfl)) ?_
    rintro _ _ _ ⟨rfl, rfl, rfl⟩
    refine XR.conv (σ' := (quc2 a b x5_1 x6_1 [(25, .tuple #[s0 1 r36.1.length, .bool r36.2])])) (h' := [(1, rI r36.1), (0, rc (encI .i64) a z0 y0 1)]) (c' := 2) ?_ (by kernel_rfl)
    refine rS 5 (quc2 a b x5_1 x6_1 [(7, s0 1 r36.1.length), (8, .bool r36.2)]) ?_
    refine dQ ?_
    show XQ _ _ _ _ _ _ _ _
    refine sQ ?_
    cases b4 : (r36.2 : Bool) with
    | true =>
     have h := cT b4 h
     obtain ⟨r39, r39_h, h⟩ := bS h
     cases b5 : (inRow 0 a.length : Bool) with
     | false => cases (cF b5 h)
     | true =>
      have h := cT b5 h
      cases b6 : (r39 == (List.getD a 0 0) : Bool) with
      | true =>
       have h := cT b6 h
       cases b7 : (((r36.1.length : Nat) : Int) == 0 : Bool) with
       | true =>
        have h := cT b7 h
        cases b8 : (decide (x5_1 < 0) : Bool) with
        | true =>
         have h := cT b8 h
         refine XQ.quiet E0_ok (by kernel_rfl) (by kernel_rfl) ?_
         refine XU.run E0_ok 1 3 [0, 1, 5, 6, 7, 29, 30] rfl (σ' := (quc2 a b x5_1 x6_1 [(7, s0 1 r36.1.length), (29, .bool true), (30, ii x6_1)])) (by kernel_rfl) ?_
         refine XU.call E0_ok [0, 1, 5, 6, 7, 29, 31] rfl (K := 99) (F := Proofs.Tryd.f99) (args := [ii x6_1]) (d := (some (path 12 31))) (v := ii r39) (by kernel_rfl) (by kernel_rfl) rfl rfl (fun w hI => f99_ok m x6_1 r39 r39_h w hI) (σ' := (quc2 a b x5_1 x6_1 [(7, s0 1 r36.1.length), (29, .bool true), (31, ii r39)])) (by kernel_rfl) ?_
         refine XU.run E0_ok 1 1 [0, 1, 5, 6, 7, 29, 31, 32] rfl (σ' := (quc2 a b x5_1 x6_1 [(7, s0 1 r36.1.length), (29, .bool true), (31, ii r39), (32, s0 0 a.length)])) (by kernel_rfl) ?_
         refine XU.rd E0_ok [0, 1, 5, 6, 7, 29, 31, 33] rfl (v := pp 0 (0 * 1)) (v_idx (s := 1) (x := (src 74 (.tmp 32))) (y := (src 74 (.const (ii 0)))) (b := 0) (o := 0) (len := a.length) (cap := a.length) (ik := .i64) (i := 0) (off := 0 * 1) (d := (some (path 12 33))) (by kernel_rfl) (by kernel_rfl) (by kernel_rfl) b5 (by omega)) (σ' := (quc2 a b x5_1 x6_1 [(7, s0 1 r36.1.length), (29, .bool true), (31, ii r39), (33, pp 0 (0 * 1))])) (by kernel_rfl) ?_
         refine XU.rd E0_ok [0, 1, 5, 6, 7, 29, 31, 34] rfl (v := ii (List.getD a 0 0)) (v_load1 (encI_ok .i64) (x := (src 74 (.tmp 33))) (b := 0) (off := 0 * 1) (xs := a) (fz := z0) (e := y0) (es := 1) (d := (some (path 12 34))) (by kernel_rfl) (by kernel_rfl) (by kernel_rfl) 0 0 0 (by first | with_reducible rfl | omega | rfl) (row_len (inRow_toNat b5) (by simp)) rfl rfl) (σ' := (quc2 a b x5_1 x6_1 [(7, s0 1 r36.1.length), (29, .bool true), (31, ii r39), (34, ii (List.getD a 0 0))])) (by kernel_rfl) ?_
         refine XU.run E0_ok 1 3 [0, 1, 5, 6, 7, 37] rfl (σ' := (quc2 a b x5_1 x6_1 [(7, s0 1 r36.1.length), (37, .bool (r39 == (List.getD a 0 0)))])) (by kernel_rfl) ?_
         rw [b6]
         refine XU.run E0_ok 1 4 [0, 1, 5, 6, 7, 37, 41] rfl (σ' := (quc2 a b x5_1 x6_1 [(7, s0 1 r36.1.length), (37, .bool true), (41, .bool (((r36.1.length : Nat) : Int) == 0))])) (by kernel_rfl) ?_
         rw [b7]
         refine XU.run E0_ok 1 8 [0, 1, 5, 6, 46, 49] rfl (σ' := (quc2 a b x5_1 x6_1 [(46, .bool true), (49, .bool (decide (x5_1 < 0)))])) (by kernel_rfl) ?_
         rw [b8]
         refine XU.run E0_ok 1 9 [0, 1, 5, 6, 58] rfl (σ' := (quc2 a b x5_1 x6_1 [(58, .bool true)])) (by kernel_rfl) ?_
         refine XU.done (by kernel_rfl) ?_
         show XQ _ _ _ _ _ _ _ _
         refine iT (.tmp 58) ?_
         refine rQ ?_
         refine rS 2 [(0, s0 0 a.length), (1, ii b), (5, ii x6_1), (6, ii x6_1)] ?_
         refine dQ ?_
         show XQ _ _ _ _ _ _ _ _
         refine rQ ?_
         refine rS 3 [(0, s0 0 a.length), (1, ii b), (5, ii x6_1), (6, ii (w64 (x6_1 + 1)))] ?_
         refine dQ ?_
         show XL _ _ _ _ _ _ _ _ _
         refine XL.ren (σ' := [(0, s0 0 a.length), (1, ii b), (5, ii x6_1), (6, ii (w64 (x6_1 + 1)))]) (h' := [(0, rc (encI .i64) a z0 y0 1)]) (c' := 1) [0] (by decide) rfl ⟨rfl, rfl, rfl, rfl, trivial⟩ ⟨⟨_, _, rfl, rfl, .inl ⟨rfl, rwI⟩⟩, trivial⟩ rfl ?_
         refine XL.conv (f71_1_ok m fuel z0 y0 a b x6_1 (w64 (x6_1 + 1)) o h Q hQ) (by first | with_reducible rfl | simp | rfl)
        | false =>
         have h := cF b8 h
         obtain ⟨r41, r41_h, h⟩ := bS h
         obtain ⟨r42, r42_h, h⟩ := bS h
         obtain ⟨r43, r43_h, h⟩ := bS h
         refine XQ.qA E0_ok 21 21 [22, 23, 24, 25, 26, 27, 28, 29, 30] (g := 10) (fin := (xaB 21 [xf, xf, xf, xf, xf, xf, xf, xf, xf, xf])) (by kernel_rfl) (by kernel_rfl) (by kernel_rfl) (by kernel_rfl) (by kernel_rfl) (σ' := (quc2 a b x5_1 x6_1 [(58, .bool r43)])) (h' := [(0, rc (encI .i64) a z0 y0 1)]) (c' := 1) ?_ ?_
         ·show XQ _ _ _ _ _ _ _ _
          refine XQ.meetC (σ' := [(0, s0 0 a.length), (1, ii b), (5, ii (cond (r43) x6_1 x5_1)), (6, ii x6_1)]) (h' := [(0, rc (encI .i64) a z0 y0 1)]) (c' := 1) ?_ ?_
          rotate_left
          ·refine XQ.cond (s := (.tmp 58)) (b := r43) (by kernel_rfl) (by kernel_rfl) (fun b9 => ?_) (fun b9 => ?_)
           ·refine rQ ?_
            refine rS 2 [(0, s0 0 a.length), (1, ii b), (5, ii x6_1), (6, ii x6_1)] ?_
            refine dQ ?_
            refine ⟨rfl, ?_, ?_⟩
            ·try rw [b9]
             exact ⟨rfl, rfl, rfl, rfl, trivial⟩
            ·try rw [b9]
             kernel_rfl
           ·refine kQ ?_
            refine ⟨rfl, ?_, ?_⟩
            ·try rw [b9]
             exact ⟨rfl, rfl, rfl, rfl, trivial⟩
            ·try rw [b9]
             kernel_rfl
          show XQ _ _ _ _ _ _ _ _
          refine rQ ?_
          refine rS 3 [(0, s0 0 a.length), (1, ii b), (5, ii (cond (r43) x6_1 x5_1)), (6, ii (w64 (x6_1 + 1)))] ?_
          refine dQ ?_
          show XL _ _ _ _ _ _ _ _ _
          refine XL.ren (σ' := [(0, s0 0 a.length), (1, ii b), (5, ii (cond (r43) x6_1 x5_1)), (6, ii (w64 (x6_1 + 1)))]) (h' := [(0, rc (encI .i64) a z0 y0 1)]) (c' := 1) [0] (by decide) rfl ⟨rfl, rfl, rfl, rfl, trivial⟩ ⟨⟨_, _, rfl, rfl, .inl ⟨rfl, rwI⟩⟩, trivial⟩ rfl ?_
          refine XL.conv (f71_1_ok m fuel z0 y0 a b (cond (r43) x6_1 x5_1) (w64 (x6_1 + 1)) o h Q hQ) (by first | with_reducible rfl | simp | rfl)
         ·have xa10 : XA E0 74 1 (opsOf (lft (rgt (lft (lft (rgt f71_L1)))))) 0 (xaB 31 []) (quc2 a b x5_1 x6_1 [(58, .bool r43)]) [(0, rc (encI .i64) a z0 y0 1)] 1 (xaF (quc2 a b x5_1 x6_1 [(58, .bool r43)]) [(0, rc (encI .i64) a z0 y0 1)] 1) := by
           exact XA.done (by kernel_rfl) ⟨rfl, rfl⟩
          have xa9 : XA E0 74 1 (opsOf (lft (rgt (lft (lft (rgt f71_L1)))))) 1 (xaB 30 [xf]) (quc2 a b x5_1 x6_1 [(46, .bool true), (57, .bool r43)]) [(0, rc (encI .i64) a z0 y0 1)] 1 (xaF (quc2 a b x5_1 x6_1 [(58, .bool r43)]) [(0, rc (encI .i64) a z0 y0 1)] 1) := by
           refine XA.stepG E0_ok [30] (by kernel_rfl) rfl ⟨⟨rfl, ?_⟩, trivial⟩
           ·refine rS 1 (quc2 a b x5_1 x6_1 [(58, .bool r43)]) ?_
            exact dQ ⟨rfl, xa10⟩
          have xa8 : XA E0 74 1 (opsOf (lft (rgt (lft (lft (rgt f71_L1)))))) 2 (xaB 29 [xf, xf]) (quc2 a b x5_1 x6_1 [(46, .bool true), (49, .bool false), (56, .bool r43)]) [(0, rc (encI .i64) a z0 y0 1)] 1 (xaF (quc2 a b x5_1 x6_1 [(58, .bool r43)]) [(0, rc (encI .i64) a z0 y0 1)] 1) := by
           refine XA.stepG E0_ok [29] (by kernel_rfl) rfl ⟨⟨rfl, ?_⟩, trivial⟩
           ·refine rS 1 (quc2 a b x5_1 x6_1 [(46, .bool true), (57, .bool r43)]) ?_
            exact dQ ⟨rfl, xa9⟩
          have xa7 : XA E0 74 1 (opsOf (lft (rgt (lft (lft (rgt f71_L1)))))) 3 (xaB 28 [xf, xf, xf]) (quc2 a b x5_1 x6_1 [(46, .bool true), (49, .bool false), (52, s0 1 r41.length), (55, s0 2 r42.length)]) [(2, rc encP r42 0 55 2), (1, rc encP r41 0 55 2), (0, rc (encI .i64) a z0 y0 1)] 3 (xaF (quc2 a b x5_1 x6_1 [(58, .bool r43)]) [(0, rc (encI .i64) a z0 y0 1)] 1) := by
           refine XA.stepG E0_ok [28] (by kernel_rfl) rfl ⟨⟨rfl, ?_⟩, trivial⟩
           ·refine XR.call E0_ok [0, 1, 5, 6, 46, 49, 56] rfl (K := 100) (args := [s0 1 r41.length, s0 2 r42.length]) (d := (some (path 12 56))) (by kernel_rfl) (KQ.call (KC.quiet E0_ok (args0 := [s0 0 r41.length, s0 1 r42.length]) (h0 := [(1, rc encP r42 (0 + ((rowC encP r42).length + 1)) 55 2), (0, rc encP r41 (0 + ((rowC encP r41).length + 1)) 55 2)]) (n := 2) (V := .bool r43) [1, 2] (f100_ok m (0 + ((rowC encP r41).length + 1)) 55 (0 + ((rowC encP r42).length + 1)) 55 r41 r42 r43 r43_h) rfl (by rfl) (by decide) rfl (by kernel_rfl) ⟨⟨_, _, rfl, rfl, .inl ⟨rfl, rwP⟩⟩, ⟨_, _, rfl, rfl, .inl ⟨rfl, rwP⟩⟩, trivial⟩) rfl) ?_
            rintro _ _ _ ⟨rfl, rfl, rfl⟩
            refine XR.conv (σ' := (quc2 a b x5_1 x6_1 [(46, .bool true), (49, .bool false), (56, .bool r43)])) (h' := [(2, rc encP r42 0 55 2), (1, rc encP r41 0 55 2), (0, rc (encI .i64) a z0 y0 1)]) (c' := 3) ?_ (by kernel_rfl)
            exact dQ ⟨rfl, XA.ren (σ' := (quc2 a b x5_1 x6_1 [(46, .bool true), (49, .bool false), (56, .bool r43)])) (h' := [(0, rc (encI .i64) a z0 y0 1)]) (c' := 1) [0] (by decide) rfl ⟨rfl, rfl, rfl, rfl, rfl, rfl, rfl, trivial⟩ ⟨⟨_, _, rfl, rfl, .inl ⟨rfl, rwI⟩⟩, trivial⟩ rfl xa8⟩
          have xa6 : XA E0 74 1 (opsOf (lft (rgt (lft (lft (rgt f71_L1)))))) 4 (xaB 27 [xf, xf, xf, xf]) (quc2 a b x5_1 x6_1 [(46, .bool true), (49, .bool false), (52, s0 1 r41.length), (53, ii b), (54, ii x5_1)]) [(1, rc encP r41 0 55 2), (0, rc (encI .i64) a z0 y0 1)] 2 (xaF (quc2 a b x5_1 x6_1 [(58, .bool r43)]) [(0, rc (encI .i64) a z0 y0 1)] 1) := by
           refine XA.stepG E0_ok [27] (by kernel_rfl) rfl ⟨⟨rfl, ?_⟩, trivial⟩
           ·refine XR.call E0_ok [0, 1, 5, 6, 46, 49, 52, 55] rfl (K := 101) (args := [ii b, ii x5_1]) (d := (some (path 12 55))) (by kernel_rfl) (KC.lift (V2 := s0 2 r42.length) (H2 := [(2, rc encP r42 0 55 2)]) [1, 2, 0] (f101_ok m b x5_1 r42 r42_h) rfl (by decide) (by decide) (by kernel_rfl) ⟨⟨_, _, rfl, rfl, .inl ⟨rfl, rwP⟩⟩, trivial⟩ (by rfl)) ?_
            rintro _ _ _ ⟨rfl, rfl, rfl⟩
            refine XR.conv (σ' := (quc2 a b x5_1 x6_1 [(46, .bool true), (49, .bool false), (52, s0 1 r41.length), (55, s0 2 r42.length)])) (h' := [(2, rc encP r42 0 55 2), (1, rc encP r41 0 55 2), (0, rc (encI .i64) a z0 y0 1)]) (c' := 3) ?_ (by kernel_rfl)
            exact dQ ⟨rfl, xa7⟩
          have xa5 : XA E0 74 1 (opsOf (lft (rgt (lft (lft (rgt f71_L1)))))) 5 (xaB 26 [xf, xf, xf, xf, xf]) (quc2 a b x5_1 x6_1 [(46, .bool true), (49, .bool false), (52, s0 1 r41.length), (53, ii b)]) [(1, rc encP r41 0 55 2), (0, rc (encI .i64) a z0 y0 1)] 2 (xaF (quc2 a b x5_1 x6_1 [(58, .bool r43)]) [(0, rc (encI .i64) a z0 y0 1)] 1) := by
           refine XA.stepG E0_ok [26] (by kernel_rfl) rfl ⟨⟨rfl, ?_⟩, trivial⟩
           ·refine rS 1 (quc2 a b x5_1 x6_1 [(46, .bool true), (49, .bool false), (52, s0 1 r41.length), (53, ii b), (54, ii x5_1)]) ?_
            exact dQ ⟨rfl, xa6⟩
          have xa11 : XA E0 74 1 (opsOf (lft (rgt (lft (lft (rgt f71_L1)))))) 5 (xaB 25 [xf, xt, xf, xf, xf, xf]) (quc2 a b x5_1 x6_1 [(46, .bool true), (49, .bool false), (52, s0 1 r41.length), (54, ii x5_1)]) [(1, rc encP r41 0 55 2), (0, rc (encI .i64) a z0 y0 1)] 2 (xaF (quc2 a b x5_1 x6_1 [(58, .bool r43)]) [(0, rc (encI .i64) a z0 y0 1)] 1) := by
           refine XA.stepG E0_ok [25] (by kernel_rfl) rfl ⟨⟨rfl, ?_⟩, trivial⟩
           ·refine rS 1 (quc2 a b x5_1 x6_1 [(46, .bool true), (49, .bool false), (52, s0 1 r41.length), (53, ii b), (54, ii x5_1)]) ?_
            exact dQ ⟨rfl, xa6⟩
          have xa4 : XA E0 74 1 (opsOf (lft (rgt (lft (lft (rgt f71_L1)))))) 6 (xaB 25 [xf, xf, xf, xf, xf, xf]) (quc2 a b x5_1 x6_1 [(46, .bool true), (49, .bool false), (52, s0 1 r41.length)]) [(1, rc encP r41 0 55 2), (0, rc (encI .i64) a z0 y0 1)] 2 (xaF (quc2 a b x5_1 x6_1 [(58, .bool r43)]) [(0, rc (encI .i64) a z0 y0 1)] 1) := by
           refine XA.stepG E0_ok [25, 26] (by kernel_rfl) rfl ⟨⟨rfl, ?_⟩, ⟨rfl, ?_⟩, trivial⟩
           ·refine rS 1 (quc2 a b x5_1 x6_1 [(46, .bool true), (49, .bool false), (52, s0 1 r41.length), (53, ii b)]) ?_
            exact dQ ⟨rfl, xa5⟩
           ·refine rS 1 (quc2 a b x5_1 x6_1 [(46, .bool true), (49, .bool false), (52, s0 1 r41.length), (54, ii x5_1)]) ?_
            exact dQ ⟨rfl, xa11⟩
          have xa13 : XA E0 74 1 (opsOf (lft (rgt (lft (lft (rgt f71_L1)))))) 5 (xaB 24 [xf, xt, xt, xf, xf, xf, xf]) (quc2 a b x5_1 x6_1 [(46, .bool true), (49, .bool false), (50, ii b), (51, ii x6_1), (53, ii b), (54, ii x5_1)]) [(0, rc (encI .i64) a z0 y0 1)] 1 (xaF (quc2 a b x5_1 x6_1 [(58, .bool r43)]) [(0, rc (encI .i64) a z0 y0 1)] 1) := by
           refine XA.stepG E0_ok [24] (by kernel_rfl) rfl ⟨⟨rfl, ?_⟩, trivial⟩
           ·refine XR.call E0_ok [0, 1, 5, 6, 46, 49, 52, 53, 54] rfl (K := 101) (args := [ii b, ii x6_1]) (d := (some (path 12 52))) (by kernel_rfl) (KC.lift (V2 := s0 1 r41.length) (H2 := [(1, rc encP r41 0 55 2)]) [1, 0] (f101_ok m b x6_1 r41 r41_h) rfl (by decide) (by decide) (by kernel_rfl) ⟨⟨_, _, rfl, rfl, .inl ⟨rfl, rwP⟩⟩, trivial⟩ (by rfl)) ?_
            rintro _ _ _ ⟨rfl, rfl, rfl⟩
            refine XR.conv (σ' := (quc2 a b x5_1 x6_1 [(46, .bool true), (49, .bool false), (52, s0 1 r41.length), (53, ii b), (54, ii x5_1)])) (h' := [(1, rc encP r41 0 55 2), (0, rc (encI .i64) a z0 y0 1)]) (c' := 2) ?_ (by kernel_rfl)
            exact dQ ⟨rfl, xa6⟩
          have xa12 : XA E0 74 1 (opsOf (lft (rgt (lft (lft (rgt f71_L1)))))) 6 (xaB 24 [xf, xt, xf, xf, xf, xf, xf]) (quc2 a b x5_1 x6_1 [(46, .bool true), (49, .bool false), (50, ii b), (51, ii x6_1), (53, ii b)]) [(0, rc (encI .i64) a z0 y0 1)] 1 (xaF (quc2 a b x5_1 x6_1 [(58, .bool r43)]) [(0, rc (encI .i64) a z0 y0 1)] 1) := by
           refine XA.stepG E0_ok [24, 26] (by kernel_rfl) rfl ⟨⟨rfl, ?_⟩, ⟨rfl, ?_⟩, trivial⟩
           ·refine XR.call E0_ok [0, 1, 5, 6, 46, 49, 52, 53] rfl (K := 101) (args := [ii b, ii x6_1]) (d := (some (path 12 52))) (by kernel_rfl) (KC.lift (V2 := s0 1 r41.length) (H2 := [(1, rc encP r41 0 55 2)]) [1, 0] (f101_ok m b x6_1 r41 r41_h) rfl (by decide) (by decide) (by kernel_rfl) ⟨⟨_, _, rfl, rfl, .inl ⟨rfl, rwP⟩⟩, trivial⟩ (by rfl)) ?_
            rintro _ _ _ ⟨rfl, rfl, rfl⟩
            refine XR.conv (σ' := (quc2 a b x5_1 x6_1 [(46, .bool true), (49, .bool false), (52, s0 1 r41.length), (53, ii b)])) (h' := [(1, rc encP r41 0 55 2), (0, rc (encI .i64) a z0 y0 1)]) (c' := 2) ?_ (by kernel_rfl)
            exact dQ ⟨rfl, xa5⟩
           ·refine rS 1 (quc2 a b x5_1 x6_1 [(46, .bool true), (49, .bool false), (50, ii b), (51, ii x6_1), (53, ii b), (54, ii x5_1)]) ?_
            exact dQ ⟨rfl, xa13⟩
          have xa14 : XA E0 74 1 (opsOf (lft (rgt (lft (lft (rgt f71_L1)))))) 6 (xaB 24 [xf, xf, xt, xf, xf, xf, xf]) (quc2 a b x5_1 x6_1 [(46, .bool true), (49, .bool false), (50, ii b), (51, ii x6_1), (54, ii x5_1)]) [(0, rc (encI .i64) a z0 y0 1)] 1 (xaF (quc2 a b x5_1 x6_1 [(58, .bool r43)]) [(0, rc (encI .i64) a z0 y0 1)] 1) := by
           refine XA.stepG E0_ok [24, 25] (by kernel_rfl) rfl ⟨⟨rfl, ?_⟩, ⟨rfl, ?_⟩, trivial⟩
           ·refine XR.call E0_ok [0, 1, 5, 6, 46, 49, 52, 54] rfl (K := 101) (args := [ii b, ii x6_1]) (d := (some (path 12 52))) (by kernel_rfl) (KC.lift (V2 := s0 1 r41.length) (H2 := [(1, rc encP r41 0 55 2)]) [1, 0] (f101_ok m b x6_1 r41 r41_h) rfl (by decide) (by decide) (by kernel_rfl) ⟨⟨_, _, rfl, rfl, .inl ⟨rfl, rwP⟩⟩, trivial⟩ (by rfl)) ?_
            rintro _ _ _ ⟨rfl, rfl, rfl⟩
            refine XR.conv (σ' := (quc2 a b x5_1 x6_1 [(46, .bool true), (49, .bool false), (52, s0 1 r41.length), (54, ii x5_1)])) (h' := [(1, rc encP r41 0 55 2), (0, rc (encI .i64) a z0 y0 1)]) (c' := 2) ?_ (by kernel_rfl)
            exact dQ ⟨rfl, xa11⟩
           ·refine rS 1 (quc2 a b x5_1 x6_1 [(46, .bool true), (49, .bool false), (50, ii b), (51, ii x6_1), (53, ii b), (54, ii x5_1)]) ?_
            exact dQ ⟨rfl, xa13⟩
          have xa3 : XA E0 74 1 (opsOf (lft (rgt (lft (lft (rgt f71_L1)))))) 7 (xaB 24 [xf, xf, xf, xf, xf, xf, xf]) (quc2 a b x5_1 x6_1 [(46, .bool true), (49, .bool false), (50, ii b), (51, ii x6_1)]) [(0, rc (encI .i64) a z0 y0 1)] 1 (xaF (quc2 a b x5_1 x6_1 [(58, .bool r43)]) [(0, rc (encI .i64) a z0 y0 1)] 1) := by
           refine XA.stepG E0_ok [24, 25, 26] (by kernel_rfl) rfl ⟨⟨rfl, ?_⟩, ⟨rfl, ?_⟩, ⟨rfl, ?_⟩, trivial⟩
           ·refine XR.call E0_ok [0, 1, 5, 6, 46, 49, 52] rfl (K := 101) (args := [ii b, ii x6_1]) (d := (some (path 12 52))) (by kernel_rfl) (KC.lift (V2 := s0 1 r41.length) (H2 := [(1, rc encP r41 0 55 2)]) [1, 0] (f101_ok m b x6_1 r41 r41_h) rfl (by decide) (by decide) (by kernel_rfl) ⟨⟨_, _, rfl, rfl, .inl ⟨rfl, rwP⟩⟩, trivial⟩ (by rfl)) ?_
            rintro _ _ _ ⟨rfl, rfl, rfl⟩
            refine XR.conv (σ' := (quc2 a b x5_1 x6_1 [(46, .bool true), (49, .bool false), (52, s0 1 r41.length)])) (h' := [(1, rc encP r41 0 55 2), (0, rc (encI .i64) a z0 y0 1)]) (c' := 2) ?_ (by kernel_rfl)
            exact dQ ⟨rfl, xa4⟩
           ·refine rS 1 (quc2 a b x5_1 x6_1 [(46, .bool true), (49, .bool false), (50, ii b), (51, ii x6_1), (53, ii b)]) ?_
            exact dQ ⟨rfl, xa12⟩
           ·refine rS 1 (quc2 a b x5_1 x6_1 [(46, .bool true), (49, .bool false), (50, ii b), (51, ii x6_1), (54, ii x5_1)]) ?_
            exact dQ ⟨rfl, xa14⟩
          have xa16 : XA E0 74 1 (opsOf (lft (rgt (lft (lft (rgt f71_L1)))))) 6 (xaB 23 [xf, xf, xt, xt, xf, xf, xf, xf]) (quc2 a b x5_1 x6_1 [(46, .bool true), (49, .bool false), (50, ii b), (53, ii b), (54, ii x5_1)]) [(0, rc (encI .i64) a z0 y0 1)] 1 (xaF (quc2 a b x5_1 x6_1 [(58, .bool r43)]) [(0, rc (encI .i64) a z0 y0 1)] 1) := by
           refine XA.stepG E0_ok [23] (by kernel_rfl) rfl ⟨⟨rfl, ?_⟩, trivial⟩
           ·refine rS 1 (quc2 a b x5_1 x6_1 [(46, .bool true), (49, .bool false), (50, ii b), (51, ii x6_1), (53, ii b), (54, ii x5_1)]) ?_
            exact dQ ⟨rfl, xa13⟩
          have xa15 : XA E0 74 1 (opsOf (lft (rgt (lft (lft (rgt f71_L1)))))) 7 (xaB 23 [xf, xf, xt, xf, xf, xf, xf, xf]) (quc2 a b x5_1 x6_1 [(46, .bool true), (49, .bool false), (50, ii b), (53, ii b)]) [(0, rc (encI .i64) a z0 y0 1)] 1 (xaF (quc2 a b x5_1 x6_1 [(58, .bool r43)]) [(0, rc (encI .i64) a z0 y0 1)] 1) := by
           refine XA.stepG E0_ok [23, 26] (by kernel_rfl) rfl ⟨⟨rfl, ?_⟩, ⟨rfl, ?_⟩, trivial⟩
           ·refine rS 1 (quc2 a b x5_1 x6_1 [(46, .bool true), (49, .bool false), (50, ii b), (51, ii x6_1), (53, ii b)]) ?_
            exact dQ ⟨rfl, xa12⟩
           ·refine rS 1 (quc2 a b x5_1 x6_1 [(46, .bool true), (49, .bool false), (50, ii b), (53, ii b), (54, ii x5_1)]) ?_
            exact dQ ⟨rfl, xa16⟩
          have xa17 : XA E0 74 1 (opsOf (lft (rgt (lft (lft (rgt f71_L1)))))) 7 (xaB 23 [xf, xf, xf, xt, xf, xf, xf, xf]) (quc2 a b x5_1 x6_1 [(46, .bool true), (49, .bool false), (50, ii b), (54, ii x5_1)]) [(0, rc (encI .i64) a z0 y0 1)] 1 (xaF (quc2 a b x5_1 x6_1 [(58, .bool r43)]) [(0, rc (encI .i64) a z0 y0 1)] 1) := by
           refine XA.stepG E0_ok [23, 25] (by kernel_rfl) rfl ⟨⟨rfl, ?_⟩, ⟨rfl, ?_⟩, trivial⟩
           ·refine rS 1 (quc2 a b x5_1 x6_1 [(46, .bool true), (49, .bool false), (50, ii b), (51, ii x6_1), (54, ii x5_1)]) ?_
            exact dQ ⟨rfl, xa14⟩
           ·refine rS 1 (quc2 a b x5_1 x6_1 [(46, .bool true), (49, .bool false), (50, ii b), (53, ii b), (54, ii x5_1)]) ?_
            exact dQ ⟨rfl, xa16⟩
          have xa2 : XA E0 74 1 (opsOf (lft (rgt (lft (lft (rgt f71_L1)))))) 8 (xaB 23 [xf, xf, xf, xf, xf, xf, xf, xf]) (quc2 a b x5_1 x6_1 [(46, .bool true), (49, .bool false), (50, ii b)]) [(0, rc (encI .i64) a z0 y0 1)] 1 (xaF (quc2 a b x5_1 x6_1 [(58, .bool r43)]) [(0, rc (encI .i64) a z0 y0 1)] 1) := by
           refine XA.stepG E0_ok [23, 25, 26] (by kernel_rfl) rfl ⟨⟨rfl, ?_⟩, ⟨rfl, ?_⟩, ⟨rfl, ?_⟩, trivial⟩
           ·refine rS 1 (quc2 a b x5_1 x6_1 [(46, .bool true), (49, .bool false), (50, ii b), (51, ii x6_1)]) ?_
            exact dQ ⟨rfl, xa3⟩
           ·refine rS 1 (quc2 a b x5_1 x6_1 [(46, .bool true), (49, .bool false), (50, ii b), (53, ii b)]) ?_
            exact dQ ⟨rfl, xa15⟩
           ·refine rS 1 (quc2 a b x5_1 x6_1 [(46, .bool true), (49, .bool false), (50, ii b), (54, ii x5_1)]) ?_
            exact dQ ⟨rfl, xa17⟩
          have xa20 : XA E0 74 1 (opsOf (lft (rgt (lft (lft (rgt f71_L1)))))) 6 (xaB 22 [xf, xt, xf, xt, xt, xf, xf, xf, xf]) (quc2 a b x5_1 x6_1 [(46, .bool true), (49, .bool false), (51, ii x6_1), (53, ii b), (54, ii x5_1)]) [(0, rc (encI .i64) a z0 y0 1)] 1 (xaF (quc2 a b x5_1 x6_1 [(58, .bool r43)]) [(0, rc (encI .i64) a z0 y0 1)] 1) := by
           refine XA.stepG E0_ok [22] (by kernel_rfl) rfl ⟨⟨rfl, ?_⟩, trivial⟩
           ·refine rS 1 (quc2 a b x5_1 x6_1 [(46, .bool true), (49, .bool false), (50, ii b), (51, ii x6_1), (53, ii b), (54, ii x5_1)]) ?_
            exact dQ ⟨rfl, xa13⟩
          have xa19 : XA E0 74 1 (opsOf (lft (rgt (lft (lft (rgt f71_L1)))))) 7 (xaB 22 [xf, xt, xf, xt, xf, xf, xf, xf, xf]) (quc2 a b x5_1 x6_1 [(46, .bool true), (49, .bool false), (51, ii x6_1), (53, ii b)]) [(0, rc (encI .i64) a z0 y0 1)] 1 (xaF (quc2 a b x5_1 x6_1 [(58, .bool r43)]) [(0, rc (encI .i64) a z0 y0 1)] 1) := by
           refine XA.stepG E0_ok [22, 26] (by kernel_rfl) rfl ⟨⟨rfl, ?_⟩, ⟨rfl, ?_⟩, trivial⟩
           ·refine rS 1 (quc2 a b x5_1 x6_1 [(46, .bool true), (49, .bool false), (50, ii b), (51, ii x6_1), (53, ii b)]) ?_
            exact dQ ⟨rfl, xa12⟩
           ·refine rS 1 (quc2 a b x5_1 x6_1 [(46, .bool true), (49, .bool false), (51, ii x6_1), (53, ii b), (54, ii x5_1)]) ?_
            exact dQ ⟨rfl, xa20⟩
          have xa21 : XA E0 74 1 (opsOf (lft (rgt (lft (lft (rgt f71_L1)))))) 7 (xaB 22 [xf, xt, xf, xf, xt, xf, xf, xf, xf]) (quc2 a b x5_1 x6_1 [(46, .bool true), (49, .bool false), (51, ii x6_1), (54, ii x5_1)]) [(0, rc (encI .i64) a z0 y0 1)] 1 (xaF (quc2 a b x5_1 x6_1 [(58, .bool r43)]) [(0, rc (encI .i64) a z0 y0 1)] 1) := by
           refine XA.stepG E0_ok [22, 25] (by kernel_rfl) rfl ⟨⟨rfl, ?_⟩, ⟨rfl, ?_⟩, trivial⟩
           ·refine rS 1 (quc2 a b x5_1 x6_1 [(46, .bool true), (49, .bool false), (50, ii b), (51, ii x6_1), (54, ii x5_1)]) ?_
            exact dQ ⟨rfl, xa14⟩
           ·refine rS 1 (quc2 a b x5_1 x6_1 [(46, .bool true), (49, .bool false), (51, ii x6_1), (53, ii b), (54, ii x5_1)]) ?_
            exact dQ ⟨rfl, xa20⟩
          have xa18 : XA E0 74 1 (opsOf (lft (rgt (lft (lft (rgt f71_L1)))))) 8 (xaB 22 [xf, xt, xf, xf, xf, xf, xf, xf, xf]) (quc2 a b x5_1 x6_1 [(46, .bool true), (49, .bool false), (51, ii x6_1)]) [(0, rc (encI .i64) a z0 y0 1)] 1 (xaF (quc2 a b x5_1 x6_1 [(58, .bool r43)]) [(0, rc (encI .i64) a z0 y0 1)] 1) := by
           refine XA.stepG E0_ok [22, 25, 26] (by kernel_rfl) rfl ⟨⟨rfl, ?_⟩, ⟨rfl, ?_⟩, ⟨rfl, ?_⟩, trivial⟩
           ·refine rS 1 (quc2 a b x5_1 x6_1 [(46, .bool true), (49, .bool false), (50, ii b), (51, ii x6_1)]) ?_
            exact dQ ⟨rfl, xa3⟩
           ·refine rS 1 (quc2 a b x5_1 x6_1 [(46, .bool true), (49, .bool false), (51, ii x6_1), (53, ii b)]) ?_
            exact dQ ⟨rfl, xa19⟩
           ·refine rS 1 (quc2 a b x5_1 x6_1 [(46, .bool true), (49, .bool false), (51, ii x6_1), (54, ii x5_1)]) ?_
            exact dQ ⟨rfl, xa21⟩
          have xa23 : XA E0 74 1 (opsOf (lft (rgt (lft (lft (rgt f71_L1)))))) 7 (xaB 22 [xf, xf, xf, xt, xt, xf, xf, xf, xf]) (quc2 a b x5_1 x6_1 [(46, .bool true), (49, .bool false), (53, ii b), (54, ii x5_1)]) [(0, rc (encI .i64) a z0 y0 1)] 1 (xaF (quc2 a b x5_1 x6_1 [(58, .bool r43)]) [(0, rc (encI .i64) a z0 y0 1)] 1) := by
           refine XA.stepG E0_ok [22, 23] (by kernel_rfl) rfl ⟨⟨rfl, ?_⟩, ⟨rfl, ?_⟩, trivial⟩
           ·refine rS 1 (quc2 a b x5_1 x6_1 [(46, .bool true), (49, .bool false), (50, ii b), (53, ii b), (54, ii x5_1)]) ?_
            exact dQ ⟨rfl, xa16⟩
           ·refine rS 1 (quc2 a b x5_1 x6_1 [(46, .bool true), (49, .bool false), (51, ii x6_1), (53, ii b), (54, ii x5_1)]) ?_
            exact dQ ⟨rfl, xa20⟩
          have xa22 : XA E0 74 1 (opsOf (lft (rgt (lft (lft (rgt f71_L1)))))) 8 (xaB 22 [xf, xf, xf, xt, xf, xf, xf, xf, xf]) (quc2 a b x5_1 x6_1 [(46, .bool true), (49, .bool false), (53, ii b)]) [(0, rc (encI .i64) a z0 y0 1)] 1 (xaF (quc2 a b x5_1 x6_1 [(58, .bool r43)]) [(0, rc (encI .i64) a z0 y0 1)] 1) := by
           refine XA.stepG E0_ok [22, 23, 26] (by kernel_rfl) rfl ⟨⟨rfl, ?_⟩, ⟨rfl, ?_⟩, ⟨rfl, ?_⟩, trivial⟩
           ·refine rS 1 (quc2 a b x5_1 x6_1 [(46, .bool true), (49, .bool false), (50, ii b), (53, ii b)]) ?_
            exact dQ ⟨rfl, xa15⟩
           ·refine rS 1 (quc2 a b x5_1 x6_1 [(46, .bool true), (49, .bool false), (51, ii x6_1), (53, ii b)]) ?_
            exact dQ ⟨rfl, xa19⟩
           ·refine rS 1 (quc2 a b x5_1 x6_1 [(46, .bool true), (49, .bool false), (53, ii b), (54, ii x5_1)]) ?_
            exact dQ ⟨rfl, xa23⟩
          have xa24 : XA E0 74 1 (opsOf (lft (rgt (lft (lft (rgt f71_L1)))))) 8 (xaB 22 [xf, xf, xf, xf, xt, xf, xf, xf, xf]) (quc2 a b x5_1 x6_1 [(46, .bool true), (49, .bool false), (54, ii x5_1)]) [(0, rc (encI .i64) a z0 y0 1)] 1 (xaF (quc2 a b x5_1 x6_1 [(58, .bool r43)]) [(0, rc (encI .i64) a z0 y0 1)] 1) := by
           refine XA.stepG E0_ok [22, 23, 25] (by kernel_rfl) rfl ⟨⟨rfl, ?_⟩, ⟨rfl, ?_⟩, ⟨rfl, ?_⟩, trivial⟩
           ·refine rS 1 (quc2 a b x5_1 x6_1 [(46, .bool true), (49, .bool false), (50, ii b), (54, ii x5_1)]) ?_
            exact dQ ⟨rfl, xa17⟩
           ·refine rS 1 (quc2 a b x5_1 x6_1 [(46, .bool true), (49, .bool false), (51, ii x6_1), (54, ii x5_1)]) ?_
            exact dQ ⟨rfl, xa21⟩
           ·refine rS 1 (quc2 a b x5_1 x6_1 [(46, .bool true), (49, .bool false), (53, ii b), (54, ii x5_1)]) ?_
            exact dQ ⟨rfl, xa23⟩
          have xa1 : XA E0 74 1 (opsOf (lft (rgt (lft (lft (rgt f71_L1)))))) 9 (xaB 22 [xf, xf, xf, xf, xf, xf, xf, xf, xf]) (quc2 a b x5_1 x6_1 [(46, .bool true), (49, .bool false)]) [(0, rc (encI .i64) a z0 y0 1)] 1 (xaF (quc2 a b x5_1 x6_1 [(58, .bool r43)]) [(0, rc (encI .i64) a z0 y0 1)] 1) := by
           refine XA.stepG E0_ok [22, 23, 25, 26] (by kernel_rfl) rfl ⟨⟨rfl, ?_⟩, ⟨rfl, ?_⟩, ⟨rfl, ?_⟩, ⟨rfl, ?_⟩, trivial⟩
           ·refine rS 1 (quc2 a b x5_1 x6_1 [(46, .bool true), (49, .bool false), (50, ii b)]) ?_
            exact dQ ⟨rfl, xa2⟩
           ·refine rS 1 (quc2 a b x5_1 x6_1 [(46, .bool true), (49, .bool false), (51, ii x6_1)]) ?_
            exact dQ ⟨rfl, xa18⟩
           ·refine rS 1 (quc2 a b x5_1 x6_1 [(46, .bool true), (49, .bool false), (53, ii b)]) ?_
            exact dQ ⟨rfl, xa22⟩
           ·refine rS 1 (quc2 a b x5_1 x6_1 [(46, .bool true), (49, .bool false), (54, ii x5_1)]) ?_
            exact dQ ⟨rfl, xa24⟩
          have xa0 : XA E0 74 1 (opsOf (lft (rgt (lft (lft (rgt f71_L1)))))) 10 (xaB 21 [xf, xf, xf, xf, xf, xf, xf, xf, xf, xf]) (quc2 a b x5_1 x6_1 [(46, .bool true), (48, .bool false)]) [(0, rc (encI .i64) a z0 y0 1)] 1 (xaF (quc2 a b x5_1 x6_1 [(58, .bool r43)]) [(0, rc (encI .i64) a z0 y0 1)] 1) := by
           refine XA.stepG E0_ok [21] (by kernel_rfl) rfl ⟨⟨rfl, ?_⟩, trivial⟩
           ·refine rS 1 (quc2 a b x5_1 x6_1 [(46, .bool true), (49, .bool false)]) ?_
            exact dQ ⟨rfl, xa1⟩
          refine XU.run E0_ok 1 3 [0, 1, 5, 6, 7, 29, 30] rfl (σ' := (quc2 a b x5_1 x6_1 [(7, s0 1 r36.1.length), (29, .bool true), (30, ii x6_1)])) (by kernel_rfl) ?_
          refine XU.call E0_ok [0, 1, 5, 6, 7, 29, 31] rfl (K := 99) (F := Proofs.Tryd.f99) (args := [ii x6_1]) (d := (some (path 12 31))) (v := ii r39) (by kernel_rfl) (by kernel_rfl) rfl rfl (fun w hI => f99_ok m x6_1 r39 r39_h w hI) (σ' := (quc2 a b x5_1 x6_1 [(7, s0 1 r36.1.length), (29, .bool true), (31, ii r39)])) (by kernel_rfl) ?_
          refine XU.run E0_ok 1 1 [0, 1, 5, 6, 7, 29, 31, 32] rfl (σ' := (quc2 a b x5_1 x6_1 [(7, s0 1 r36.1.length), (29, .bool true), (31, ii r39), (32, s0 0 a.length)])) (by kernel_rfl) ?_
          refine XU.rd E0_ok [0, 1, 5, 6, 7, 29, 31, 33] rfl (v := pp 0 (0 * 1)) (v_idx (s := 1) (x := (src 74 (.tmp 32))) (y := (src 74 (.const (ii 0)))) (b := 0) (o := 0) (len := a.length) (cap := a.length) (ik := .i64) (i := 0) (off := 0 * 1) (d := (some (path 12 33))) (by kernel_rfl) (by kernel_rfl) (by kernel_rfl) b5 (by omega)) (σ' := (quc2 a b x5_1 x6_1 [(7, s0 1 r36.1.length), (29, .bool true), (31, ii r39), (33, pp 0 (0 * 1))])) (by kernel_rfl) ?_
          refine XU.rd E0_ok [0, 1, 5, 6, 7, 29, 31, 34] rfl (v := ii (List.getD a 0 0)) (v_load1 (encI_ok .i64) (x := (src 74 (.tmp 33))) (b := 0) (off := 0 * 1) (xs := a) (fz := z0) (e := y0) (es := 1) (d := (some (path 12 34))) (by kernel_rfl) (by kernel_rfl) (by kernel_rfl) 0 0 0 (by first | with_reducible rfl | omega | rfl) (row_len (inRow_toNat b5) (by simp)) rfl rfl) (σ' := (quc2 a b x5_1 x6_1 [(7, s0 1 r36.1.length), (29, .bool true), (31, ii r39), (34, ii (List.getD a 0 0))])) (by kernel_rfl) ?_
          refine XU.run E0_ok 1 3 [0, 1, 5, 6, 7, 37] rfl (σ' := (quc2 a b x5_1 x6_1 [(7, s0 1 r36.1.length), (37, .bool (r39 == (List.getD a 0 0)))])) (by kernel_rfl) ?_
          rw [b6]
          refine XU.run E0_ok 1 4 [0, 1, 5, 6, 7, 37, 41] rfl (σ' := (quc2 a b x5_1 x6_1 [(7, s0 1 r36.1.length), (37, .bool true), (41, .bool (((r36.1.length : Nat) : Int) == 0))])) (by kernel_rfl) ?_
          rw [b7]
          refine XU.run E0_ok 1 7 [0, 1, 5, 6, 46, 48] rfl (σ' := (quc2 a b x5_1 x6_1 [(46, .bool true), (48, .bool (decide (x5_1 < 0)))])) (by kernel_rfl) ?_
          refine XU.done (by kernel_rfl) ?_
          show XA _ _ _ _ _ _ _ _ _ _
          rw [b8]
          refine XA.ren (σ' := (quc2 a b x5_1 x6_1 [(46, .bool true), (48, .bool false)])) (h' := [(0, rc (encI .i64) a z0 y0 1)]) (c' := 1) [0] (by decide) rfl ⟨rfl, rfl, rfl, rfl, rfl, rfl, trivial⟩ ⟨⟨_, _, rfl, rfl, .inl ⟨rfl, rwI⟩⟩, trivial⟩ rfl ?_
          exact xa0
       | false =>
        have h := cF b7 h
        obtain ⟨r51, r51_h, h⟩ := bS h
        cases b10 : (r51 : Bool) with
        | true =>
         have h := cT b10 h
         cases b11 : (decide (x5_1 < 0) : Bool) with
         | true =>
          have h := cT b11 h
          refine XQ.quiet E0_ok (by kernel_rfl) (by kernel_rfl) ?_
          refine XU.run E0_ok 1 3 [0, 1, 5, 6, 7, 29, 30] rfl (σ' := (quc2 a b x5_1 x6_1 [(7, s0 1 r36.1.length), (29, .bool true), (30, ii x6_1)])) (by kernel_rfl) ?_
          refine XU.call E0_ok [0, 1, 5, 6, 7, 29, 31] rfl (K := 99) (F := Proofs.Tryd.f99) (args := [ii x6_1]) (d := (some (path 12 31))) (v := ii r39) (by kernel_rfl) (by kernel_rfl) rfl rfl (fun w hI => f99_ok m x6_1 r39 r39_h w hI) (σ' := (quc2 a b x5_1 x6_1 [(7, s0 1 r36.1.length), (29, .bool true), (31, ii r39)])) (by kernel_rfl) ?_
          refine XU.run E0_ok 1 1 [0, 1, 5, 6, 7, 29, 31, 32] rfl (σ' := (quc2 a b x5_1 x6_1 [(7, s0 1 r36.1.length), (29, .bool true), (31, ii r39), (32, s0 0 a.length)])) (by kernel_rfl) ?_
          refine XU.rd E0_ok [0, 1, 5, 6, 7, 29, 31, 33] rfl (v := pp 0 (0 * 1)) (v_idx (s := 1) (x := (src 74 (.tmp 32))) (y := (src 74 (.const (ii 0)))) (b := 0) (o := 0) (len := a.length) (cap := a.length) (ik := .i64) (i := 0) (off := 0 * 1) (d := (some (path 12 33))) (by kernel_rfl) (by kernel_rfl) (by kernel_rfl) b5 (by omega)) (σ' := (quc2 a b x5_1 x6_1 [(7, s0 1 r36.1.length), (29, .bool true), (31, ii r39), (33, pp 0 (0 * 1))])) (by kernel_rfl) ?_
          refine XU.rd E0_ok [0, 1, 5, 6, 7, 29, 31, 34] rfl (v := ii (List.getD a 0 0)) (v_load1 (encI_ok .i64) (x := (src 74 (.tmp 33))) (b := 0) (off := 0 * 1) (xs := a) (fz := z0) (e := y0) (es := 1) (d := (some (path 12 34))) (by kernel_rfl) (by kernel_rfl) (by kernel_rfl) 0 0 0 (by first | with_reducible rfl | omega | rfl) (row_len (inRow_toNat b5) (by simp)) rfl rfl) (σ' := (quc2 a b x5_1 x6_1 [(7, s0 1 r36.1.length), (29, .bool true), (31, ii r39), (34, ii (List.getD a 0 0))])) (by kernel_rfl) ?_
          refine XU.run E0_ok 1 3 [0, 1, 5, 6, 7, 37] rfl (σ' := (quc2 a b x5_1 x6_1 [(7, s0 1 r36.1.length), (37, .bool (r39 == (List.getD a 0 0)))])) (by kernel_rfl) ?_
          rw [b6]
          refine XU.run E0_ok 1 4 [0, 1, 5, 6, 7, 37, 41] rfl (σ' := (quc2 a b x5_1 x6_1 [(7, s0 1 r36.1.length), (37, .bool true), (41, .bool (((r36.1.length : Nat) : Int) == 0))])) (by kernel_rfl) ?_
          rw [b7]
          refine XU.run E0_ok 1 1 [0, 1, 5, 6, 37, 41, 42] rfl (σ' := (quc2 a b x5_1 x6_1 [(37, .bool true), (41, .bool false), (42, s0 1 r36.1.length)])) (by kernel_rfl) ?_
          refine XU.callH E0_ok [0, 1, 5, 6, 37, 41, 43] rfl (K := 60) (args := [s0 1 r36.1.length]) (d := (some (path 12 43))) (V := .bool r51) (by kernel_rfl) rfl (KC.quiet E0_ok (args0 := [s0 0 r36.1.length]) (h0 := [(0, rc (encI .i64) r36.1 (0 + ((rowC (encI .i64) r36.1).length + 1)) 3 1)]) (n := 1) (V := .bool r51) [1] (f60_ok m (0 + ((rowC (encI .i64) r36.1).length + 1)) 3 r36.1 r51 r51_h) rfl (by rfl) (by decide) rfl (by kernel_rfl) ⟨⟨_, _, rfl, rfl, .inl ⟨rfl, rwI⟩⟩, trivial⟩) (σ' := (quc2 a b x5_1 x6_1 [(37, .bool true), (41, .bool false), (43, .bool r51)])) (by kernel_rfl) ?_
          refine XU.run E0_ok 1 3 [0, 1, 5, 6, 46] rfl (σ' := (quc2 a b x5_1 x6_1 [(46, .bool r51)])) (by kernel_rfl) ?_
          rw [b10]
          refine XU.run E0_ok 1 3 [0, 1, 5, 6, 46, 49] rfl (σ' := (quc2 a b x5_1 x6_1 [(46, .bool true), (49, .bool (decide (x5_1 < 0)))])) (by kernel_rfl) ?_
          rw [b11]
          refine XU.run E0_ok 1 9 [0, 1, 5, 6, 58] rfl (σ' := (quc2 a b x5_1 x6_1 [(58, .bool true)])) (by kernel_rfl) ?_
          refine XU.done (by kernel_rfl) ?_
          show XQ _ _ _ _ _ _ _ _
          refine iT (.tmp 58) ?_
          refine rQ ?_
          refine rS 2 [(0, s0 0 a.length), (1, ii b), (5, ii x6_1), (6, ii x6_1)] ?_
          refine dQ ?_
          show XQ _ _ _ _ _ _ _ _
          refine rQ ?_
          refine rS 3 [(0, s0 0 a.length), (1, ii b), (5, ii x6_1), (6, ii (w64 (x6_1 + 1)))] ?_
          refine dQ ?_
          show XL _ _ _ _ _ _ _ _ _
          refine XL.ren (σ' := [(0, s0 0 a.length), (1, ii b), (5, ii x6_1), (6, ii (w64 (x6_1 + 1)))]) (h' := [(0, rc (encI .i64) a z0 y0 1)]) (c' := 1) [0] (by decide) rfl ⟨rfl, rfl, rfl, rfl, trivial⟩ ⟨⟨_, _, rfl, rfl, .inl ⟨rfl, rwI⟩⟩, trivial⟩ rfl ?_
          refine XL.conv (f71_1_ok m fuel z0 y0 a b x6_1 (w64 (x6_1 + 1)) o h Q hQ) (by first | with_reducible rfl | simp | rfl)
         | false =>
          have h := cF b11 h
          obtain ⟨r54, r54_h, h⟩ := bS h
          obtain ⟨r55, r55_h, h⟩ := bS h
          obtain ⟨r56, r56_h, h⟩ := bS h
          refine XQ.qA E0_ok 21 21 [22, 23, 24, 25, 26, 27, 28, 29, 30] (g := 10) (fin := (xaB 21 [xf, xf, xf, xf, xf, xf, xf, xf, xf, xf])) (by kernel_rfl) (by kernel_rfl) (by kernel_rfl) (by kernel_rfl) (by kernel_rfl) (σ' := (quc2 a b x5_1 x6_1 [(58, .bool r56)])) (h' := [(0, rc (encI .i64) a z0 y0 1)]) (c' := 1) ?_ ?_
          ·show XQ _ _ _ _ _ _ _ _
           refine XQ.meetC (σ' := [(0, s0 0 a.length), (1, ii b), (5, ii (cond (r56) x6_1 x5_1)), (6, ii x6_1)]) (h' := [(0, rc (encI .i64) a z0 y0 1)]) (c' := 1) ?_ ?_
           rotate_left
           ·refine XQ.cond (s := (.tmp 58)) (b := r56) (by kernel_rfl) (by kernel_rfl) (fun b12 => ?_) (fun b12 => ?_)
            ·refine rQ ?_
             refine rS 2 [(0, s0 0 a.length), (1, ii b), (5, ii x6_1), (6, ii x6_1)] ?_
             refine dQ ?_
             refine ⟨rfl, ?_, ?_⟩
             ·try rw [b12]
              exact ⟨rfl, rfl, rfl, rfl, trivial⟩
             ·try rw [b12]
              kernel_rfl
            ·refine kQ ?_
             refine ⟨rfl, ?_, ?_⟩
             ·try rw [b12]
              exact ⟨rfl, rfl, rfl, rfl, trivial⟩
             ·try rw [b12]
              kernel_rfl
           show XQ _ _ _ _ _ _ _ _
           refine rQ ?_
           refine rS 3 [(0, s0 0 a.length), (1, ii b), (5, ii (cond (r56) x6_1 x5_1)), (6, ii (w64 (x6_1 + 1)))] ?_
           refine dQ ?_
           show XL _ _ _ _ _ _ _ _ _
           refine XL.ren (σ' := [(0, s0 0 a.length), (1, ii b), (5, ii (cond (r56) x6_1 x5_1)), (6, ii (w64 (x6_1 + 1)))]) (h' := [(0, rc (encI .i64) a z0 y0 1)]) (c' := 1) [0] (by decide) rfl ⟨rfl, rfl, rfl, rfl, trivial⟩ ⟨⟨_, _, rfl, rfl, .inl ⟨rfl, rwI⟩⟩, trivial⟩ rfl ?_
           refine XL.conv (f71_1_ok m fuel z0 y0 a b (cond (r56) x6_1 x5_1) (w64 (x6_1 + 1)) o h Q hQ) (by first | with_reducible rfl | simp | rfl)
          ·have xa10 : XA E0 74 1 (opsOf (lft (rgt (lft (lft (rgt f71_L1)))))) 0 (xaB 31 []) (quc2 a b x5_1 x6_1 [(58, .bool r56)]) [(0, rc (encI .i64) a z0 y0 1)] 1 (xaF (quc2 a b x5_1 x6_1 [(58, .bool r56)]) [(0, rc (encI .i64) a z0 y0 1)] 1) := by
            exact XA.done (by kernel_rfl) ⟨rfl, rfl⟩
           have xa9 : XA E0 74 1 (opsOf (lft (rgt (lft (lft (rgt f71_L1)))))) 1 (xaB 30 [xf]) (quc2 a b x5_1 x6_1 [(46, .bool true), (57, .bool r56)]) [(0, rc (encI .i64) a z0 y0 1)] 1 (xaF (quc2 a b x5_1 x6_1 [(58, .bool r56)]) [(0, rc (encI .i64) a z0 y0 1)] 1) := by
            refine XA.stepG E0_ok [30] (by kernel_rfl) rfl ⟨⟨rfl, ?_⟩, trivial⟩
            ·refine rS 1 (quc2 a b x5_1 x6_1 [(58, .bool r56)]) ?_
             exact dQ ⟨rfl, xa10⟩
           have xa8 : XA E0 74 1 (opsOf (lft (rgt (lft (lft (rgt f71_L1)))))) 2 (xaB 29 [xf, xf]) (quc2 a b x5_1 x6_1 [(46, .bool true), (49, .bool false), (56, .bool r56)]) [(0, rc (encI .i64) a z0 y0 1)] 1 (xaF (quc2 a b x5_1 x6_1 [(58, .bool r56)]) [(0, rc (encI .i64) a z0 y0 1)] 1) := by
            refine XA.stepG E0_ok [29] (by kernel_rfl) rfl ⟨⟨rfl, ?_⟩, trivial⟩
            ·refine rS 1 (quc2 a b x5_1 x6_1 [(46, .bool true), (57, .bool r56)]) ?_
             exact dQ ⟨rfl, xa9⟩
           have xa7 : XA E0 74 1 (opsOf (lft (rgt (lft (lft (rgt f71_L1)))))) 3 (xaB 28 [xf, xf, xf]) (quc2 a b x5_1 x6_1 [(46, .bool true), (49, .bool false), (52, s0 1 r54.length), (55, s0 2 r55.length)]) [(2, rc encP r55 0 55 2), (1, rc encP r54 0 55 2), (0, rc (encI .i64) a z0 y0 1)] 3 (xaF (quc2 a b x5_1 x6_1 [(58, .bool r56)]) [(0, rc (encI .i64) a z0 y0 1)] 1) := by
            refine XA.stepG E0_ok [28] (by kernel_rfl) rfl ⟨⟨rfl, ?_⟩, trivial⟩
            ·refine XR.call E0_ok [0, 1, 5, 6, 46, 49, 56] rfl (K := 100) (args := [s0 1 r54.length, s0 2 r55.length]) (d := (some (path 12 56))) (by kernel_rfl) (KQ.call (KC.quiet E0_ok (args0 := [s0 0 r54.length, s0 1 r55.length]) (h0 := [(1, rc encP r55 (0 + ((rowC encP r55).length + 1)) 55 2), (0, rc encP r54 (0 + ((rowC encP r54).length + 1)) 55 2)]) (n := 2) (V := .bool r56) [1, 2] (f100_ok m (0 + ((rowC encP r54).length + 1)) 55 (0 + ((rowC encP r55).length + 1)) 55 r54 r55 r56 r56_h) rfl (by rfl) (by decide) rfl (by kernel_rfl) ⟨⟨_, _, rfl, rfl, .inl ⟨rfl, rwP⟩⟩, ⟨_, _, rfl, rfl, .inl ⟨rfl, rwP⟩⟩, trivial⟩) rfl) ?_
             rintro _ _ _ ⟨rfl, rfl, rfl⟩
             refine XR.conv (σ' := (quc2 a b x5_1 x6_1 [(46, .bool true), (49, .bool false), (56, .bool r56)])) (h' := [(2, rc encP r55 0 55 2), (1, rc encP r54 0 55 2), (0, rc (encI .i64) a z0 y0 1)]) (c' := 3) ?_ (by kernel_rfl)
             exact dQ ⟨rfl, XA.ren (σ' := (quc2 a b x5_1 x6_1 [(46, .bool true), (49, .bool false), (56, .bool r56)])) (h' := [(0, rc (encI .i64) a z0 y0 1)]) (c' := 1) [0] (by decide) rfl ⟨rfl, rfl, rfl, rfl, rfl, rfl, rfl, trivial⟩ ⟨⟨_, _, rfl, rfl, .inl ⟨rfl, rwI⟩⟩, trivial⟩ rfl xa8⟩
           have xa6 : XA E0 74 1 (opsOf (lft (rgt (lft (lft (rgt f71_L1)))))) 4 (xaB 27 [xf, xf, xf, xf]) (quc2 a b x5_1 x6_1 [(46, .bool true), (49, .bool false), (52, s0 1 r54.length), (53, ii b), (54, ii x5_1)]) [(1, rc encP r54 0 55 2), (0, rc (encI .i64) a z0 y0 1)] 2 (xaF (quc2 a b x5_1 x6_1 [(58, .bool r56)]) [(0, rc (encI .i64) a z0 y0 1)] 1) := by
            refine XA.stepG E0_ok [27] (by kernel_rfl) rfl ⟨⟨rfl, ?_⟩, trivial⟩
            ·refine XR.call E0_ok [0, 1, 5, 6, 46, 49, 52, 55] rfl (K := 101) (args := [ii b, ii x5_1]) (d := (some (path 12 55))) (by kernel_rfl) (KC.lift (V2 := s0 2 r55.length) (H2 := [(2, rc encP r55 0 55 2)]) [1, 2, 0] (f101_ok m b x5_1 r55 r55_h) rfl (by decide) (by decide) (by kernel_rfl) ⟨⟨_, _, rfl, rfl, .inl ⟨rfl, rwP⟩⟩, trivial⟩ (by rfl)) ?_
             rintro _ _ _ ⟨rfl, rfl, rfl⟩
             refine XR.conv (σ' := (quc2 a b x5_1 x6_1 [(46, .bool true), (49, .bool false), (52, s0 1 r54.length), (55, s0 2 r55.length)])) (h' := [(2, rc encP r55 0 55 2), (1, rc encP r54 0 55 2), (0, rc (encI .i64) a z0 y0 1)]) (c' := 3) ?_ (by kernel_rfl)
             exact dQ ⟨rfl, xa7⟩
           have xa5 : XA E0 74 1 (opsOf (lft (rgt (lft (lft (rgt f71_L1)))))) 5 (xaB 26 [xf, xf, xf, xf, xf]) (quc2 a b x5_1 x6_1 [(46, .bool true), (49, .bool false), (52, s0 1 r54.length), (53, ii b)]) [(1, rc encP r54 0 55 2), (0, rc (encI .i64) a z0 y0 1)] 2 (xaF (quc2 a b x5_1 x6_1 [(58, .bool r56)]) [(0, rc (encI .i64) a z0 y0 1)] 1) := by
            refine XA.stepG E0_ok [26] (by kernel_rfl) rfl ⟨⟨rfl, ?_⟩, trivial⟩
            ·refine rS 1 (quc2 a b x5_1 x6_1 [(46, .bool true), (49, .bool false), (52, s0 1 r54.length), (53, ii b), (54, ii x5_1)]) ?_
             exact dQ ⟨rfl, xa6⟩
           have xa11 : XA E0 74 1 (opsOf (lft (rgt (lft (lft (rgt f71_L1)))))) 5 (xaB 25 [xf, xt, xf, xf, xf, xf]) (quc2 a b x5_1 x6_1 [(46, .bool true), (49, .bool false), (52, s0 1 r54.length), (54, ii x5_1)]) [(1, rc encP r54 0 55 2), (0, rc (encI .i64) a z0 y0 1)] 2 (xaF (quc2 a b x5_1 x6_1 [(58, .bool r56)]) [(0, rc (encI .i64) a z0 y0 1)] 1) := by
            refine XA.stepG E0_ok [25] (by kernel_rfl) rfl ⟨⟨rfl, ?_⟩, trivial⟩
            ·refine rS 1 (quc2 a b x5_1 x6_1 [(46, .bool true), (49, .bool false), (52, s0 1 r54.length), (53, ii b), (54, ii x5_1)]) ?_
             exact dQ ⟨rfl, xa6⟩
           have xa4 : XA E0 74 1 (opsOf (lft (rgt (lft (lft (rgt f71_L1)))))) 6 (xaB 25 [xf, xf, xf, xf, xf, xf]) (quc2 a b x5_1 x6_1 [(46, .bool true), (49, .bool false), (52, s0 1 r54.length)]) [(1, rc encP r54 0 55 2), (0, rc (encI .i64) a z0 y0 1)] 2 (xaF (quc2 a b x5_1 x6_1 [(58, .bool r56)]) [(0, rc (encI .i64) a z0 y0 1)] 1) := by
            refine XA.stepG E0_ok [25, 26] (by kernel_rfl) rfl ⟨⟨rfl, ?_⟩, ⟨rfl, ?_⟩, trivial⟩
            ·refine rS 1 (quc2 a b x5_1 x6_1 [(46, .bool true), (49, .bool false), (52, s0 1 r54.length), (53, ii b)]) ?_
             exact dQ ⟨rfl, xa5⟩
            ·refine rS 1 (quc2 a b x5_1 x6_1 [(46, .bool true), (49, .bool false), (52, s0 1 r54.length), (54, ii x5_1)]) ?_
             exact dQ ⟨rfl, xa11⟩
           have xa13 : XA E0 74 1 (opsOf (lft (rgt (lft (lft (rgt f71_L1)))))) 5 (xaB 24 [xf, xt, xt, xf, xf, xf, xf]) (quc2 a b x5_1 x6_1 [(46, .bool true), (49, .bool false), (50, ii b), (51, ii x6_1), (53, ii b), (54, ii x5_1)]) [(0, rc (encI .i64) a z0 y0 1)] 1 (xaF (quc2 a b x5_1 x6_1 [(58, .bool r56)]) [(0, rc (encI .i64) a z0 y0 1)] 1) := by
            refine XA.stepG E0_ok [24] (by kernel_rfl) rfl ⟨⟨rfl, ?_⟩, trivial⟩
            ·refine XR.call E0_ok [0, 1, 5, 6, 46, 49, 52, 53, 54] rfl (K := 101) (args := [ii b, ii x6_1]) (d := (some (path 12 52))) (by kernel_rfl) (KC.lift (V2 := s0 1 r54.length) (H2 := [(1, rc encP r54 0 55 2)]) [1, 0] (f101_ok m b x6_1 r54 r54_h) rfl (by decide) (by decide) (by kernel_rfl) ⟨⟨_, _, rfl, rfl, .inl ⟨rfl, rwP⟩⟩, trivial⟩ (by rfl)) ?_
             rintro _ _ _ ⟨rfl, rfl, rfl⟩
             refine XR.conv (σ' := (quc2 a b x5_1 x6_1 [(46, .bool true), (49, .bool false), (52, s0 1 r54.length), (53, ii b), (54, ii x5_1)])) (h' := [(1, rc encP r54 0 55 2), (0, rc (encI .i64) a z0 y0 1)]) (c' := 2) ?_ (by kernel_rfl)
             exact dQ ⟨rfl, xa6⟩
           have xa12 : XA E0 74 1 (opsOf (lft (rgt (lft (lft (rgt f71_L1)))))) 6 (xaB 24 [xf, xt, xf, xf, xf, xf, xf]) (quc2 a b x5_1 x6_1 [(46, .bool true), (49, .bool false), (50, ii b), (51, ii x6_1), (53, ii b)]) [(0, rc (encI .i64) a z0 y0 1)] 1 (xaF (quc2 a b x5_1 x6_1 [(58, .bool r56)]) [(0, rc (encI .i64) a z0 y0 1)] 1) := by
            refine XA.stepG E0_ok [24, 26] (by kernel_rfl) rfl ⟨⟨rfl, ?_⟩, ⟨rfl, ?_⟩, trivial⟩
            ·refine XR.call E0_ok [0, 1, 5, 6, 46, 49, 52, 53] rfl (K := 101) (args := [ii b, ii x6_1]) (d := (some (path 12 52))) (by kernel_rfl) (KC.lift (V2 := s0 1 r54.length) (H2 := [(1, rc encP r54 0 55 2)]) [1, 0] (f101_ok m b x6_1 r54 r54_h) rfl (by decide) (by decide) (by kernel_rfl) ⟨⟨_, _, rfl, rfl, .inl ⟨rfl, rwP⟩⟩, trivial⟩ (by rfl)) ?_
             rintro _ _ _ ⟨rfl, rfl, rfl⟩
             refine XR.conv (σ' := (quc2 a b x5_1 x6_1 [(46, .bool true), (49, .bool false), (52, s0 1 r54.length), (53, ii b)])) (h' := [(1, rc encP r54 0 55 2), (0, rc (encI .i64) a z0 y0 1)]) (c' := 2) ?_ (by kernel_rfl)
             exact dQ ⟨rfl, xa5⟩
            ·refine rS 1 (quc2 a b x5_1 x6_1 [(46, .bool true), (49, .bool false), (50, ii b), (51, ii x6_1), (53, ii b), (54, ii x5_1)]) ?_
             exact dQ ⟨rfl, xa13⟩
           have xa14 : XA E0 74 1 (opsOf (lft (rgt (lft (lft (rgt f71_L1)))))) 6 (xaB 24 [xf, xf, xt, xf, xf, xf, xf]) (quc2 a b x5_1 x6_1 [(46, .bool true), (49, .bool false), (50, ii b), (51, ii x6_1), (54, ii x5_1)]) [(0, rc (encI .i64) a z0 y0 1)] 1 (xaF (quc2 a b x5_1 x6_1 [(58, .bool r56)]) [(0, rc (encI .i64) a z0 y0 1)] 1) := by
            refine XA.stepG E0_ok [24, 25] (by kernel_rfl) rfl ⟨⟨rfl, ?_⟩, ⟨rfl, ?_⟩, trivial⟩
            ·refine XR.call E0_ok [0, 1, 5, 6, 46, 49, 52, 54] rfl (K := 101) (args := [ii b, ii x6_1]) (d := (some (path 12 52))) (by kernel_rfl) (KC.lift (V2 := s0 1 r54.length) (H2 := [(1, rc encP r54 0 55 2)]) [1, 0] (f101_ok m b x6_1 r54 r54_h) rfl (by decide) (by decide) (by kernel_rfl) ⟨⟨_, _, rfl, rfl, .inl ⟨rfl, rwP⟩⟩, trivial⟩ (by rfl)) ?_
             rintro _ _ _ ⟨rfl, rfl, rfl⟩
             refine XR.conv (σ' := (quc2 a b x5_1 x6_1 [(46, .bool true), (49, .bool false), (52, s0 1 r54.length), (54, ii x5_1)])) (h' := [(1, rc encP r54 0 55 2), (0, rc (encI .i64) a z0 y0 1)]) (c' := 2) ?_ (by kernel_rfl)
             exact dQ ⟨rfl, xa11⟩
            ·refine rS 1 (quc2 a b x5_1 x6_1 [(46, .bool true), (49, .bool false), (50, ii b), (51, ii x6_1), (53, ii b), (54, ii x5_1)]) ?_
             exact dQ ⟨rfl, xa13⟩
           have xa3 : XA E0 74 1 (opsOf (lft (rgt (lft (lft (rgt f71_L1)))))) 7 (xaB 24 [xf, xf, xf, xf, xf, xf, xf]) (quc2 a b x5_1 x6_1 [(46, .bool true), (49, .bool false), (50, ii b), (51, ii x6_1)]) [(0, rc (encI .i64) a z0 y0 1)] 1 (xaF (quc2 a b x5_1 x6_1 [(58, .bool r56)]) [(0, rc (encI .i64) a z0 y0 1)] 1) := by
            refine XA.stepG E0_ok [24, 25, 26] (by kernel_rfl) rfl ⟨⟨rfl, ?_⟩, ⟨rfl, ?_⟩, ⟨rfl, ?_⟩, trivial⟩
            ·refine XR.call E0_ok [0, 1, 5, 6, 46, 49, 52] rfl (K := 101) (args := [ii b, ii x6_1]) (d := (some (path 12 52))) (by kernel_rfl) (KC.lift (V2 := s0 1 r54.length) (H2 := [(1, rc encP r54 0 55 2)]) [1, 0] (f101_ok m b x6_1 r54 r54_h) rfl (by decide) (by decide) (by kernel_rfl) ⟨⟨_, _, rfl, rfl, .inl ⟨rfl, rwP⟩⟩, trivial⟩ (by rfl)) ?_
             rintro _ _ _ ⟨rfl, rfl, rfl⟩
             refine XR.conv (σ' := (quc2 a b x5_1 x6_1 [(46, .bool true), (49, .bool false), (52, s0 1 r54.length)])) (h' := [(1, rc encP r54 0 55 2), (0, rc (encI .i64) a z0 y0 1)]) (c' := 2) ?_ (by kernel_rfl)
             exact dQ ⟨rfl, xa4⟩
            ·refine rS 1 (quc2 a b x5_1 x6_1 [(46, .bool true), (49, .bool false), (50, ii b), (51, ii x6_1), (53, ii b)]) ?_
             exact dQ ⟨rfl, xa12⟩
            ·refine rS 1 (quc2 a b x5_1 x6_1 [(46, .bool true), (49, .bool false), (50, ii b), (51, ii x6_1), (54, ii x5_1)]) ?_
             exact dQ ⟨rfl, xa14⟩
           have xa16 : XA E0 74 1 (opsOf (lft (rgt (lft (lft (rgt f71_L1)))))) 6 (xaB 23 [xf, xf, xt, xt, xf, xf, xf, xf]) (quc2 a b x5_1 x6_1 [(46, .bool true), (49, .bool false), (50, ii b), (53, ii b), (54, ii x5_1)]) [(0, rc (encI .i64) a z0 y0 1)] 1 (xaF (quc2 a b x5_1 x6_1 [(58, .bool r56)]) [(0, rc (encI .i64) a z0 y0 1)] 1) := by
            refine XA.stepG E0_ok [23] (by kernel_rfl) rfl ⟨⟨rfl, ?_⟩, trivial⟩
            ·refine rS 1 (quc2 a b x5_1 x6_1 [(46, .bool true), (49, .bool false), (50, ii b), (51, ii x6_1), (53, ii b), (54, ii x5_1)]) ?_
             exact dQ ⟨rfl, xa13⟩
           have xa15 : XA E0 74 1 (opsOf (lft (rgt (lft (lft (rgt f71_L1)))))) 7 (xaB 23 [xf, xf, xt, xf, xf, xf, xf, xf]) (quc2 a b x5_1 x6_1 [(46, .bool true), (49, .bool false), (50, ii b), (53, ii b)]) [(0, rc (encI .i64) a z0 y0 1)] 1 (xaF (quc2 a b x5_1 x6_1 [(58, .bool r56)]) [(0, rc (encI .i64) a z0 y0 1)] 1) := by
            refine XA.stepG E0_ok [23, 26] (by kernel_rfl) rfl ⟨⟨rfl, ?_⟩, ⟨rfl, ?_⟩, trivial⟩
            ·refine rS 1 (quc2 a b x5_1 x6_1 [(46, .bool true), (49, .bool false), (50, ii b), (51, ii x6_1), (53, ii b)]) ?_
             exact dQ ⟨rfl, xa12⟩
            ·refine rS 1 (quc2 a b x5_1 x6_1 [(46, .bool true), (49, .bool false), (50, ii b), (53, ii b), (54, ii x5_1)]) ?_
             exact dQ ⟨rfl, xa16⟩
           have xa17 : XA E0 74 1 (opsOf (lft (rgt (lft (lft (rgt f71_L1)))))) 7 (xaB 23 [xf, xf, xf, xt, xf, xf, xf, xf]) (quc2 a b x5_1 x6_1 [(46, .bool true), (49, .bool false), (50, ii b), (54, ii x5_1)]) [(0, rc (encI .i64) a z0 y0 1)] 1 (xaF (quc2 a b x5_1 x6_1 [(58, .bool r56)]) [(0, rc (encI .i64) a z0 y0 1)] 1) := by
            refine XA.stepG E0_ok [23, 25] (by kernel_rfl) rfl ⟨⟨rfl, ?_⟩, ⟨rfl, ?_⟩, trivial⟩
            ·refine rS 1 (quc2 a b x5_1 x6_1 [(46, .bool true), (49, .bool false), (50, ii b), (51, ii x6_1), (54, ii x5_1)]) ?_
             exact dQ ⟨rfl, xa14⟩
            ·refine rS 1 (quc2 a b x5_1 x6_1 [(46, .bool true), (49, .bool false), (50, ii b), (53, ii b), (54, ii x5_1)]) ?_
             exact dQ ⟨rfl, xa16⟩
           have xa2 : XA E0 74 1 (opsOf (lft (rgt (lft (lft (rgt f71_L1)))))) 8 (xaB 23 [xf, xf, xf, xf, xf, xf, xf, xf]) (quc2 a b x5_1 x6_1 [(46, .bool true), (49, .bool false), (50, ii b)]) [(0, rc (encI .i64) a z0 y0 1)] 1 (xaF (quc2 a b x5_1 x6_1 [(58, .bool r56)]) [(0, rc (encI .i64) a z0 y0 1)] 1) := by
            refine XA.stepG E0_ok [23, 25, 26] (by kernel_rfl) rfl ⟨⟨rfl, ?_⟩, ⟨rfl, ?_⟩, ⟨rfl, ?_⟩, trivial⟩
            ·refine rS 1 (quc2 a b x5_1 x6_1 [(46, .bool true), (49, .bool false), (50, ii b), (51, ii x6_1)]) ?_
             exact dQ ⟨rfl, xa3⟩
            ·refine rS 1 (quc2 a b x5_1 x6_1 [(46, .bool true), (49, .bool false), (50, ii b), (53, ii b)]) ?_
             exact dQ ⟨rfl, xa15⟩
            ·refine rS 1 (quc2 a b x5_1 x6_1 [(46, .bool true), (49, .bool false), (50, ii b), (54, ii x5_1)]) ?_
             exact dQ ⟨rfl, xa17⟩
           have xa20 : XA E0 74 1 (opsOf (lft (rgt (lft (lft (rgt f71_L1)))))) 6 (xaB 22 [xf, xt, xf, xt, xt, xf, xf, xf, xf]) (quc2 a b x5_1 x6_1 [(46, .bool true), (49, .bool false), (51, ii x6_1), (53, ii b), (54, ii x5_1)]) [(0, rc (encI .i64) a z0 y0 1)] 1 (xaF (quc2 a b x5_1 x6_1 [(58, .bool r56)]) [(0, rc (encI .i64) a z0 y0 1)] 1) := by
            refine XA.stepG E0_ok [22] (by kernel_rfl) rfl ⟨⟨rfl, ?_⟩, trivial⟩
            ·refine rS 1 (quc2 a b x5_1 x6_1 [(46, .bool true), (49, .bool false), (50, ii b), (51, ii x6_1), (53, ii b), (54, ii x5_1)]) ?_
             exact dQ ⟨rfl, xa13⟩
           have xa19 : XA E0 74 1 (opsOf (lft (rgt (lft (lft (rgt f71_L1)))))) 7 (xaB 22 [xf, xt, xf, xt, xf, xf, xf, xf, xf]) (quc2 a b x5_1 x6_1 [(46, .bool true), (49, .bool false), (51, ii x6_1), (53, ii b)]) [(0, rc (encI .i64) a z0 y0 1)] 1 (xaF (quc2 a b x5_1 x6_1 [(58, .bool r56)]) [(0, rc (encI .i64) a z0 y0 1)] 1) := by
            refine XA.stepG E0_ok [22, 26] (by kernel_rfl) rfl ⟨⟨rfl, ?_⟩, ⟨rfl, ?_⟩, trivial⟩
            ·refine rS 1 (quc2 a b x5_1 x6_1 [(46, .bool true), (49, .bool false), (50, ii b), (51, ii x6_1), (53, ii b)]) ?_
             exact dQ ⟨rfl, xa12⟩
            ·refine rS 1 (quc2 a b x5_1 x6_1 [(46, .bool true), (49, .bool false), (51, ii x6_1), (53, ii b), (54, ii x5_1)]) ?_
             exact dQ ⟨rfl, xa20⟩
           have xa21 : XA E0 74 1 (opsOf (lft (rgt (lft (lft (rgt f71_L1)))))) 7 (xaB 22 [xf, xt, xf, xf, xt, xf, xf, xf, xf]) (quc2 a b x5_1 x6_1 [(46, .bool true), (49, .bool false), (51, ii x6_1), (54, ii x5_1)]) [(0, rc (encI .i64) a z0 y0 1)] 1 (xaF (quc2 a b x5_1 x6_1 [(58, .bool r56)]) [(0, rc (encI .i64) a z0 y0 1)] 1) := by
            refine XA.stepG E0_ok [22, 25] (by kernel_rfl) rfl ⟨⟨rfl, ?_⟩, ⟨rfl, ?_⟩, trivial⟩
            ·refine rS 1 (quc2 a b x5_1 x6_1 [(46, .bool true), (49, .bool false), (50, ii b), (51, ii x6_1), (54, ii x5_1)]) ?_
             exact dQ ⟨rfl, xa14⟩
            ·refine rS 1 (quc2 a b x5_1 x6_1 [(46, .bool true), (49, .bool false), (51, ii x6_1), (53, ii b), (54, ii x5_1)]) ?_
             exact dQ ⟨rfl, xa20⟩
           have xa18 : XA E0 74 1 (opsOf (lft (rgt (lft (lft (rgt f71_L1)))))) 8 (xaB 22 [xf, xt, xf, xf, xf, xf, xf, xf, xf]) (quc2 a b x5_1 x6_1 [(46, .bool true), (49, .bool false), (51, ii x6_1)]) [(0, rc (encI .i64) a z0 y0 1)] 1 (xaF (quc2 a b x5_1 x6_1 [(58, .bool r56)]) [(0, rc (encI .i64) a z0 y0 1)] 1) := by
            refine XA.stepG E0_ok [22, 25, 26] (by kernel_rfl) rfl ⟨⟨rfl, ?_⟩, ⟨rfl, ?_⟩, ⟨rfl, ?_⟩, trivial⟩
            ·refine rS 1 (quc2 a b x5_1 x6_1 [(46, .bool true), (49, .bool false), (50, ii b), (51, ii x6_1)]) ?_
             exact dQ ⟨rfl, xa3⟩
            ·refine rS 1 (quc2 a b x5_1 x6_1 [(46, .bool true), (49, .bool false), (51, ii x6_1), (53, ii b)]) ?_
             exact dQ ⟨rfl, xa19⟩
            ·refine rS 1 (quc2 a b x5_1 x6_1 [(46, .bool true), (49, .bool false), (51, ii x6_1), (54, ii x5_1)]) ?_
             exact dQ ⟨rfl, xa21⟩
           have xa23 : XA E0 74 1 (opsOf (lft (rgt (lft (lft (rgt f71_L1)))))) 7 (xaB 22 [xf, xf, xf, xt, xt, xf, xf, xf, xf]) (quc2 a b x5_1 x6_1 [(46, .bool true), (49, .bool false), (53, ii b), (54, ii x5_1)]) [(0, rc (encI .i64) a z0 y0 1)] 1 (xaF (quc2 a b x5_1 x6_1 [(58, .bool r56)]) [(0, rc (encI .i64) a z0 y0 1)] 1) := by
            refine XA.stepG E0_ok [22, 23] (by kernel_rfl) rfl ⟨⟨rfl, ?_⟩, ⟨rfl, ?_⟩, trivial⟩
            ·refine rS 1 (quc2 a b x5_1 x6_1 [(46, .bool true), (49, .bool false), (50, ii b), (53, ii b), (54, ii x5_1)]) ?_
             exact dQ ⟨rfl, xa16⟩
            ·refine rS 1 (quc2 a b x5_1 x6_1 [(46, .bool true), (49, .bool false), (51, ii x6_1), (53, ii b), (54, ii x5_1)]) ?_
             exact dQ ⟨rfl, xa20⟩
           have xa22 : XA E0 74 1 (opsOf (lft (rgt (lft (lft (rgt f71_L1)))))) 8 (xaB 22 [xf, xf, xf, xt, xf, xf, xf, xf, xf]) (quc2 a b x5_1 x6_1 [(46, .bool true), (49, .bool false), (53, ii b)]) [(0, rc (encI .i64) a z0 y0 1)] 1 (xaF (quc2 a b x5_1 x6_1 [(58, .bool r56)]) [(0, rc (encI .i64) a z0 y0 1)] 1) := by
            refine XA.stepG E0_ok [22, 23, 26] (by kernel_rfl) rfl ⟨⟨rfl, ?_⟩, ⟨rfl, ?_⟩, ⟨rfl, ?_⟩, trivial⟩
            ·refine rS 1 (quc2 a b x5_1 x6_1 [(46, .bool true), (49, .bool false), (50, ii b), (53, ii b)]) ?_
             exact dQ ⟨rfl, xa15⟩
            ·refine rS 1 (quc2 a b x5_1 x6_1 [(46, .bool true), (49, .bool false), (51, ii x6_1), (53, ii b)]) ?_
             exact dQ ⟨rfl, xa19⟩
            ·refine rS 1 (quc2 a b x5_1 x6_1 [(46, .bool true), (49, .bool false), (53, ii b), (54, ii x5_1)]) ?_
             exact dQ ⟨rfl, xa23⟩
           have xa24 : XA E0 74 1 (opsOf (lft (rgt (lft (lft (rgt f71_L1)))))) 8 (xaB 22 [xf, xf, xf, xf, xt, xf, xf, xf, xf]) (quc2 a b x5_1 x6_1 [(46, .bool true), (49, .bool false), (54, ii x5_1)]) [(0, rc (encI .i64) a z0 y0 1)] 1 (xaF (quc2 a b x5_1 x6_1 [(58, .bool r56)]) [(0, rc (encI .i64) a z0 y0 1)] 1) := by
            refine XA.stepG E0_ok [22, 23, 25] (by kernel_rfl) rfl ⟨⟨rfl, ?_⟩, ⟨rfl, ?_⟩, ⟨rfl, ?_⟩, trivial⟩
            ·refine rS 1 (quc2 a b x5_1 x6_1 [(46, .bool true), (49, .bool false), (50, ii b), (54, ii x5_1)]) ?_
             exact dQ ⟨rfl, xa17⟩
            ·refine rS 1 (quc2 a b x5_1 x6_1 [(46, .bool true), (49, .bool false), (51, ii x6_1), (54, ii x5_1)]) ?_
             exact dQ ⟨rfl, xa21⟩
            ·refine rS 1 (quc2 a b x5_1 x6_1 [(46, .bool true), (49, .bool false), (53, ii b), (54, ii x5_1)]) ?_
             exact dQ ⟨rfl, xa23⟩
           have xa1 : XA E0 74 1 (opsOf (lft (rgt (lft (lft (rgt f71_L1)))))) 9 (xaB 22 [xf, xf, xf, xf, xf, xf, xf, xf, xf]) (quc2 a b x5_1 x6_1 [(46, .bool true), (49, .bool false)]) [(0, rc (encI .i64) a z0 y0 1)] 1 (xaF (quc2 a b x5_1 x6_1 [(58, .bool r56)]) [(0, rc (encI .i64) a z0 y0 1)] 1) := by
            refine XA.stepG E0_ok [22, 23, 25, 26] (by kernel_rfl) rfl ⟨⟨rfl, ?_⟩, ⟨rfl, ?_⟩, ⟨rfl, ?_⟩, ⟨rfl, ?_⟩, trivial⟩
            ·refine rS 1 (quc2 a b x5_1 x6_1 [(46, .bool true), (49, .bool false), (50, ii b)]) ?_
             exact dQ ⟨rfl, xa2⟩
            ·refine rS 1 (quc2 a b x5_1 x6_1 [(46, .bool true), (49, .bool false), (51, ii x6_1)]) ?_
             exact dQ ⟨rfl, xa18⟩
            ·refine rS 1 (quc2 a b x5_1 x6_1 [(46, .bool true), (49, .bool false), (53, ii b)]) ?_
             exact dQ ⟨rfl, xa22⟩
            ·refine rS 1 (quc2 a b x5_1 x6_1 [(46, .bool true), (49, .bool false), (54, ii x5_1)]) ?_
             exact dQ ⟨rfl, xa24⟩
           have xa0 : XA E0 74 1 (opsOf (lft (rgt (lft (lft (rgt f71_L1)))))) 10 (xaB 21 [xf, xf, xf, xf, xf, xf, xf, xf, xf, xf]) (quc2 a b x5_1 x6_1 [(46, .bool true), (48, .bool false)]) [(0, rc (encI .i64) a z0 y0 1)] 1 (xaF (quc2 a b x5_1 x6_1 [(58, .bool r56)]) [(0, rc (encI .i64) a z0 y0 1)] 1) := by
            refine XA.stepG E0_ok [21] (by kernel_rfl) rfl ⟨⟨rfl, ?_⟩, trivial⟩
            ·refine rS 1 (quc2 a b x5_1 x6_1 [(46, .bool true), (49, .bool false)]) ?_
             exact dQ ⟨rfl, xa1⟩
           refine XU.run E0_ok 1 3 [0, 1, 5, 6, 7, 29, 30] rfl (σ' := (quc2 a b x5_1 x6_1 [(7, s0 1 r36.1.length), (29, .bool true), (30, ii x6_1)])) (by kernel_rfl) ?_
           refine XU.call E0_ok [0, 1, 5, 6, 7, 29, 31] rfl (K := 99) (F := Proofs.Tryd.f99) (args := [ii x6_1]) (d := (some (path 12 31))) (v := ii r39) (by kernel_rfl) (by kernel_rfl) rfl rfl (fun w hI => f99_ok m x6_1 r39 r39_h w hI) (σ' := (quc2 a b x5_1 x6_1 [(7, s0 1 r36.1.length), (29, .bool true), (31, ii r39)])) (by kernel_rfl) ?_
           refine XU.run E0_ok 1 1 [0, 1, 5, 6, 7, 29, 31, 32] rfl (σ' := (quc2 a b x5_1 x6_1 [(7, s0 1 r36.1.length), (29, .bool true), (31, ii r39), (32, s0 0 a.length)])) (by kernel_rfl) ?_
           refine XU.rd E0_ok [0, 1, 5, 6, 7, 29, 31, 33] rfl (v := pp 0 (0 * 1)) (v_idx (s := 1) (x := (src 74 (.tmp 32))) (y := (src 74 (.const (ii 0)))) (b := 0) (o := 0) (len := a.length) (cap := a.length) (ik := .i64) (i := 0) (off := 0 * 1) (d := (some (path 12 33))) (by kernel_rfl) (by kernel_rfl) (by kernel_rfl) b5 (by omega)) (σ' := (quc2 a b x5_1 x6_1 [(7, s0 1 r36.1.length), (29, .bool true), (31, ii r39), (33, pp 0 (0 * 1))])) (by kernel_rfl) ?_
           refine XU.rd E0_ok [0, 1, 5, 6, 7, 29, 31, 34] rfl (v := ii (List.getD a 0 0)) (v_load1 (encI_ok .i64) (x := (src 74 (.tmp 33))) (b := 0) (off := 0 * 1) (xs := a) (fz := z0) (e := y0) (es := 1) (d := (some (path 12 34))) (by kernel_rfl) (by kernel_rfl) (by kernel_rfl) 0 0 0 (by first | with_reducible rfl | omega | rfl) (row_len (inRow_toNat b5) (by simp)) rfl rfl) (σ' := (quc2 a b x5_1 x6_1 [(7, s0 1 r36.1.length), (29, .bool true), (31, ii r39), (34, ii (List.getD a 0 0))])) (by kernel_rfl) ?_
           refine XU.run E0_ok 1 3 [0, 1, 5, 6, 7, 37] rfl (σ' := (quc2 a b x5_1 x6_1 [(7, s0 1 r36.1.length), (37, .bool (r39 == (List.getD a 0 0)))])) (by kernel_rfl) ?_
           rw [b6]
           refine XU.run E0_ok 1 4 [0, 1, 5, 6, 7, 37, 41] rfl (σ' := (quc2 a b x5_1 x6_1 [(7, s0 1 r36.1.length), (37, .bool true), (41, .bool (((r36.1.length : Nat) : Int) == 0))])) (by kernel_rfl) ?_
           rw [b7]
           refine XU.run E0_ok 1 1 [0, 1, 5, 6, 37, 41, 42] rfl (σ' := (quc2 a b x5_1 x6_1 [(37, .bool true), (41, .bool false), (42, s0 1 r36.1.length)])) (by kernel_rfl) ?_
           refine XU.callH E0_ok [0, 1, 5, 6, 37, 41, 43] rfl (K := 60) (args := [s0 1 r36.1.length]) (d := (some (path 12 43))) (V := .bool r51) (by kernel_rfl) rfl (KC.quiet E0_ok (args0 := [s0 0 r36.1.length]) (h0 := [(0, rc (encI .i64) r36.1 (0 + ((rowC (encI .i64) r36.1).length + 1)) 3 1)]) (n := 1) (V := .bool r51) [1] (f60_ok m (0 + ((rowC (encI .i64) r36.1).length + 1)) 3 r36.1 r51 r51_h) rfl (by rfl) (by decide) rfl (by kernel_rfl) ⟨⟨_, _, rfl, rfl, .inl ⟨rfl, rwI⟩⟩, trivial⟩) (σ' := (quc2 a b x5_1 x6_1 [(37, .bool true), (41, .bool false), (43, .bool r51)])) (by kernel_rfl) ?_
           refine XU.run E0_ok 1 3 [0, 1, 5, 6, 46] rfl (σ' := (quc2 a b x5_1 x6_1 [(46, .bool r51)])) (by kernel_rfl) ?_
           rw [b10]
           refine XU.run E0_ok 1 2 [0, 1, 5, 6, 46, 48] rfl (σ' := (quc2 a b x5_1 x6_1 [(46, .bool true), (48, .bool (decide (x5_1 < 0)))])) (by kernel_rfl) ?_
           refine XU.done (by kernel_rfl) ?_
           show XA _ _ _ _ _ _ _ _ _ _
           rw [b11]
           refine XA.ren (σ' := (quc2 a b x5_1 x6_1 [(46, .bool true), (48, .bool false)])) (h' := [(0, rc (encI .i64) a z0 y0 1)]) (c' := 1) [0] (by decide) rfl ⟨rfl, rfl, rfl, rfl, rfl, rfl, trivial⟩ ⟨⟨_, _, rfl, rfl, .inl ⟨rfl, rwI⟩⟩, trivial⟩ rfl ?_
           exact xa0
        | false =>
         have h := cF b10 h
         refine XQ.quiet E0_ok (by kernel_rfl) (by kernel_rfl) ?_
         refine XU.run E0_ok 1 3 [0, 1, 5, 6, 7, 29, 30] rfl (σ' := (quc2 a b x5_1 x6_1 [(7, s0 1 r36.1.length), (29, .bool true), (30, ii x6_1)])) (by kernel_rfl) ?_
         refine XU.call E0_ok [0, 1, 5, 6, 7, 29, 31] rfl (K := 99) (F := Proofs.Tryd.f99) (args := [ii x6_1]) (d := (some (path 12 31))) (v := ii r39) (by kernel_rfl) (by kernel_rfl) rfl rfl (fun w hI => f99_ok m x6_1 r39 r39_h w hI) (σ' := (quc2 a b x5_1 x6_1 [(7, s0 1 r36.1.length), (29, .bool true), (31, ii r39)])) (by kernel_rfl) ?_
         refine XU.run E0_ok 1 1 [0, 1, 5, 6, 7, 29, 31, 32] rfl (σ' := (quc2 a b x5_1 x6_1 [(7, s0 1 r36.1.length), (29, .bool true), (31, ii r39), (32, s0 0 a.length)])) (by kernel_rfl) ?_
         refine XU.rd E0_ok [0, 1, 5, 6, 7, 29, 31, 33] rfl (v := pp 0 (0 * 1)) (v_idx (s := 1) (x := (src 74 (.tmp 32))) (y := (src 74 (.const (ii 0)))) (b := 0) (o := 0) (len := a.length) (cap := a.length) (ik := .i64) (i := 0) (off := 0 * 1) (d := (some (path 12 33))) (by kernel_rfl) (by kernel_rfl) (by kernel_rfl) b5 (by omega)) (σ' := (quc2 a b x5_1 x6_1 [(7, s0 1 r36.1.length), (29, .bool true), (31, ii r39), (33, pp 0 (0 * 1))])) (by kernel_rfl) ?_
         refine XU.rd E0_ok [0, 1, 5, 6, 7, 29, 31, 34] rfl (v := ii (List.getD a 0 0)) (v_load1 (encI_ok .i64) (x := (src 74 (.tmp 33))) (b := 0) (off := 0 * 1) (xs := a) (fz := z0) (e := y0) (es := 1) (d := (some (path 12 34))) (by kernel_rfl) (by kernel_rfl) (by kernel_rfl) 0 0 0 (by first | with_reducible rfl | omega | rfl) (row_len (inRow_toNat b5) (by simp)) rfl rfl) (σ' := (quc2 a b x5_1 x6_1 [(7, s0 1 r36.1.length), (29, .bool true), (31, ii r39), (34, ii (List.getD a 0 0))])) (by kernel_rfl) ?_
         refine XU.run E0_ok 1 3 [0, 1, 5, 6, 7, 37] rfl (σ' := (quc2 a b x5_1 x6_1 [(7, s0 1 r36.1.length), (37, .bool (r39 == (List.getD a 0 0)))])) (by kernel_rfl) ?_
         rw [b6]
         refine XU.run E0_ok 1 4 [0, 1, 5, 6, 7, 37, 41] rfl (σ' := (quc2 a b x5_1 x6_1 [(7, s0 1 r36.1.length), (37, .bool true), (41, .bool (((r36.1.length : Nat) : Int) == 0))])) (by kernel_rfl) ?_
         rw [b7]
         refine XU.run E0_ok 1 1 [0, 1, 5, 6, 37, 41, 42] rfl (σ' := (quc2 a b x5_1 x6_1 [(37, .bool true), (41, .bool false), (42, s0 1 r36.1.length)])) (by kernel_rfl) ?_
         refine XU.callH E0_ok [0, 1, 5, 6, 37, 41, 43] rfl (K := 60) (args := [s0 1 r36.1.length]) (d := (some (path 12 43))) (V := .bool r51) (by kernel_rfl) rfl (KC.quiet E0_ok (args0 := [s0 0 r36.1.length]) (h0 := [(0, rc (encI .i64) r36.1 (0 + ((rowC (encI .i64) r36.1).length + 1)) 3 1)]) (n := 1) (V := .bool r51) [1] (f60_ok m (0 + ((rowC (encI .i64) r36.1).length + 1)) 3 r36.1 r51 r51_h) rfl (by rfl) (by decide) rfl (by kernel_rfl) ⟨⟨_, _, rfl, rfl, .inl ⟨rfl, rwI⟩⟩, trivial⟩) (σ' := (quc2 a b x5_1 x6_1 [(37, .bool true), (41, .bool false), (43, .bool r51)])) (by kernel_rfl) ?_
         refine XU.run E0_ok 1 3 [0, 1, 5, 6, 46] rfl (σ' := (quc2 a b x5_1 x6_1 [(46, .bool r51)])) (by kernel_rfl) ?_
         rw [b10]
         refine XU.run E0_ok 1 12 [0, 1, 5, 6, 58] rfl (σ' := (quc2 a b x5_1 x6_1 [(58, .bool false)])) (by kernel_rfl) ?_
         refine XU.done (by kernel_rfl) ?_
         show XQ _ _ _ _ _ _ _ _
         refine iF (.tmp 58) ?_
         refine kQ ?_
         show XQ _ _ _ _ _ _ _ _
         refine rQ ?_
         refine rS 3 [(0, s0 0 a.length), (1, ii b), (5, ii x5_1), (6, ii (w64 (x6_1 + 1)))] ?_
         refine dQ ?_
         show XL _ _ _ _ _ _ _ _ _
         refine XL.ren (σ' := [(0, s0 0 a.length), (1, ii b), (5, ii x5_1), (6, ii (w64 (x6_1 + 1)))]) (h' := [(0, rc (encI .i64) a z0 y0 1)]) (c' := 1) [0] (by decide) rfl ⟨rfl, rfl, rfl, rfl, trivial⟩ ⟨⟨_, _, rfl, rfl, .inl ⟨rfl, rwI⟩⟩, trivial⟩ rfl ?_
         refine XL.conv (f71_1_ok m fuel z0 y0 a b x5_1 (w64 (x6_1 + 1)) o h Q hQ) (by first | with_reducible rfl | simp | rfl)
      | false =>
       have h := cF b6 h
       refine XQ.quiet E0_ok (by kernel_rfl) (by kernel_rfl) ?_
       refine XU.run E0_ok 1 3 [0, 1, 5, 6, 7, 29, 30] rfl (σ' := (quc2 a b x5_1 x6_1 [(7, s0 1 r36.1.length), (29, .bool true), (30, ii x6_1)])) (by kernel_rfl) ?_
       refine XU.call E0_ok [0, 1, 5, 6, 7, 29, 31] rfl (K := 99) (F := Proofs.Tryd.f99) (args := [ii x6_1]) (d := (some (path 12 31))) (v := ii r39) (by kernel_rfl) (by kernel_rfl) rfl rfl (fun w hI => f99_ok m x6_1 r39 r39_h w hI) (σ' := (quc2 a b x5_1 x6_1 [(7, s0 1 r36.1.length), (29, .bool true), (31, ii r39)])) (by kernel_rfl) ?_
       refine XU.run E0_ok 1 1 [0, 1, 5, 6, 7, 29, 31, 32] rfl (σ' := (quc2 a b x5_1 x6_1 [(7, s0 1 r36.1.length), (29, .bool true), (31, ii r39), (32, s0 0 a.length)])) (by kernel_rfl) ?_
       refine XU.rd E0_ok [0, 1, 5, 6, 7, 29, 31, 33] rfl (v := pp 0 (0 * 1)) (v_idx (s := 1) (x := (src 74 (.tmp 32))) (y := (src 74 (.const (ii 0)))) (b := 0) (o := 0) (len := a.length) (cap := a.length) (ik := .i64) (i := 0) (off := 0 * 1) (d := (some (path 12 33))) (by kernel_rfl) (by kernel_rfl) (by kernel_rfl) b5 (by omega)) (σ' := (quc2 a b x5_1 x6_1 [(7, s0 1 r36.1.length), (29, .bool true), (31, ii r39), (33, pp 0 (0 * 1))])) (by kernel_rfl) ?_
       refine XU.rd E0_ok [0, 1, 5, 6, 7, 29, 31, 34] rfl (v := ii (List.getD a 0 0)) (v_load1 (encI_ok .i64) (x := (src 74 (.tmp 33))) (b := 0) (off := 0 * 1) (xs := a) (fz := z0) (e := y0) (es := 1) (d := (some (path 12 34))) (by kernel_rfl) (by kernel_rfl) (by kernel_rfl) 0 0 0 (by first | with_reducible rfl | omega | rfl) (row_len (inRow_toNat b5) (by simp)) rfl rfl) (σ' := (quc2 a b x5_1 x6_1 [(7, s0 1 r36.1.length), (29, .bool true), (31, ii r39), (34, ii (List.getD a 0 0))])) (by kernel_rfl) ?_
       refine XU.run E0_ok 1 3 [0, 1, 5, 6, 7, 37] rfl (σ' := (quc2 a b x5_1 x6_1 [(7, s0 1 r36.1.length), (37, .bool (r39 == (List.getD a 0 0)))])) (by kernel_rfl) ?_
       rw [b6]
       refine XU.run E0_ok 1 21 [0, 1, 5, 6, 58] rfl (σ' := (quc2 a b x5_1 x6_1 [(58, .bool false)])) (by kernel_rfl) ?_
       refine XU.done (by kernel_rfl) ?_
       show XQ _ _ _ _ _ _ _ _
       refine iF (.tmp 58) ?_
       refine kQ ?_
       show XQ _ _ _ _ _ _ _ _
       refine rQ ?_
       refine rS 3 [(0, s0 0 a.length), (1, ii b), (5, ii x5_1), (6, ii (w64 (x6_1 + 1)))] ?_
       refine dQ ?_
       show XL _ _ _ _ _ _ _ _ _
       refine XL.ren (σ' := [(0, s0 0 a.length), (1, ii b), (5, ii x5_1), (6, ii (w64 (x6_1 + 1)))]) (h' := [(0, rc (encI .i64) a z0 y0 1)]) (c' := 1) [0] (by decide) rfl ⟨rfl, rfl, rfl, rfl, trivial⟩ ⟨⟨_, _, rfl, rfl, .inl ⟨rfl, rwI⟩⟩, trivial⟩ rfl ?_
       refine XL.conv (f71_1_ok m fuel z0 y0 a b x5_1 (w64 (x6_1 + 1)) o h Q hQ) (by first | with_reducible rfl | simp | rfl)
    | false =>
     have h := cF b4 h
     refine XQ.quiet E0_ok (by kernel_rfl) (by kernel_rfl) ?_
     refine XU.run E0_ok 1 31 [0, 1, 5, 6, 58] rfl (σ' := (quc2 a b x5_1 x6_1 [(58, .bool false)])) (by kernel_rfl) ?_
     refine XU.done (by kernel_rfl) ?_
     show XQ _ _ _ _ _ _ _ _
     refine iF (.tmp 58) ?_
     refine kQ ?_
     show XQ _ _ _ _ _ _ _ _
     refine rQ ?_
     refine rS 3 [(0, s0 0 a.length), (1, ii b), (5, ii x5_1), (6, ii (w64 (x6_1 + 1)))] ?_
     refine dQ ?_
     show XL _ _ _ _ _ _ _ _ _
     refine XL.ren (σ' := [(0, s0 0 a.length), (1, ii b), (5, ii x5_1), (6, ii (w64 (x6_1 + 1)))]) (h' := [(0, rc (encI .i64) a z0 y0 1)]) (c' := 1) [0] (by decide) rfl ⟨rfl, rfl, rfl, rfl, trivial⟩ ⟨⟨_, _, rfl, rfl, .inl ⟨rfl, rwI⟩⟩, trivial⟩ rfl ?_
     refine XL.conv (f71_1_ok m fuel z0 y0 a b x5_1 (w64 (x6_1 + 1)) o h Q hQ) (by first | with_reducible rfl | simp | rfl)
   | false =>
    have h := cF b3 h
    refine iF (.tmp 19) ?_
    refine XQ.ren (σ' := [(0, s0 0 a.length), (1, ii b), (5, ii x5_1)]) (h' := [(0, rc (encI .i64) a z0 y0 1)]) (c' := 1) [0] (by decide) rfl ⟨rfl, rfl, rfl, trivial⟩ ⟨⟨_, _, rfl, rfl, .inl ⟨rfl, rwI⟩⟩, trivial⟩ rfl ?_
    refine XQ.exit (i := 0) (by kernel_rfl) ?_
    cases h
    exact hQ
def f71 (m : Nat) : Nat → (List Int) → Int → Option (List (Int × Int))
 | 0, _, _ => none
 | fuel + 1, a, b =>
  cond (((a.length : Nat) : Int) == 0) (
   some ([])
  ) (
   (f71_1 m m a b (-1) 0).bind fun o1 =>
    (f98 m a o1).bind fun r68 =>
     (f101 m b o1).bind fun r69 =>
      (f71 m fuel r68.1 (w64 (b + 1))).bind fun r70 =>
       cond (fitsB (r69.length + r70.length) 16) (
        some (r69 ++ r70)
       ) none
  )
theorem f71_ok (m : Nat) : ∀ (fuel : Nat) (z0 : Nat) (y0 : Nat) (a : List Int) (b : Int) (o : List (Int × Int)), f71 m fuel a b = some o → KC E0 71 [s0 0 a.length, ii b] [(0, rc (encI .i64) a z0 y0 1)] 1 (fun v h' c' => v = s0 1 o.length ∧ h' = [(1, rc encP o 0 55 2)] ++ [(0, rc (encI .i64) a z0 y0 1)] ∧ c' = 2)
 | 0, z0, y0, a, b, o, h => by cases h
 | fuel + 1, z0, y0, a, b, o, h => by
  refine KC.bodyN E0_ok (F := Proofs.Tryd.f71) (by kernel_rfl) (code := f71_C71) (by kernel_rfl) (nt := 74) (by kernel_rfl) (rs := [.tmp 4]) (by kernel_rfl) (by kernel_rfl) (σ := [(0, s0 0 a.length), (1, ii b)]) (by kernel_rfl) ?_
  unfold f71 at h
  refine qQ ?_
  refine rS 1 [(0, s0 0 a.length), (1, ii b)] ?_
  refine dQ ?_
  show XQ _ _ _ _ _ _ _ _
  refine sQ ?_
  refine qQ ?_
  refine rS 3 [(0, s0 0 a.length), (1, ii b), (13, .bool (((a.length : Nat) : Int) == 0))] ?_
  refine dQ ?_
  show XQ _ _ _ _ _ _ _ _
  cases b1 : (((a.length : Nat) : Int) == 0 : Bool) with
  | true =>
   have h := cT b1 h
   refine iT (.tmp 13) ?_
   refine qQ ?_
   refine rS 1 [(4, .slice none 0 0)] ?_
   refine dQ ?_
   show XQ _ _ _ _ _ _ _ _
   refine XQ.ghost 55 2 rfl (σ' := [(4, s0 1 0)]) (h' := [(0, rc (encI .i64) a z0 y0 1)]) ⟨rfl, trivial⟩ ⟨⟨_, rfl, .inl rfl⟩, trivial⟩ ?_
   refine XQ.conv (σ' := [(4, s0 1 0)]) (h' := [(1, rc encP [] 0 55 2), (0, rc (encI .i64) a z0 y0 1)]) (c' := 2) ?_ (by kernel_rfl)
   refine XQ.ren (σ' := [(4, s0 1 0)]) (h' := [(1, rc encP [] 0 55 2), (0, rc (encI .i64) a z0 y0 1)]) (c' := 2) [0, 1] (by decide) rfl ⟨rfl, trivial⟩ ⟨⟨_, _, rfl, rfl, .inl ⟨rfl, rwP⟩⟩, ⟨_, _, rfl, rfl, .inl ⟨rfl, rwI⟩⟩, trivial⟩ rfl ?_
   refine XQ.ret (by kernel_rfl) ?_
   have h := Option.some.inj h
   subst h
   exact ⟨fun i q => (by cases q), s0 1 0, (by kernel_rfl), (by kernel_rfl), (by kernel_rfl), rfl⟩
  | false =>
   have h := cF b1 h
   refine iF (.tmp 13) ?_
   refine kQ ?_
   show XQ _ _ _ _ _ _ _ _
   refine qQ ?_
   refine rS 1 [(0, s0 0 a.length), (1, ii b), (5, ii (-1))] ?_
   refine dQ ?_
   show XQ _ _ _ _ _ _ _ _
   refine sQ ?_
   refine qQ ?_
   refine rS 1 [(0, s0 0 a.length), (1, ii b), (5, ii (-1)), (6, ii 0)] ?_
   refine dQ ?_
   show XQ _ _ _ _ _ _ _ _
   refine XQ.block (id := 0) (by kernel_rfl) ?_
   refine XQ.loop m (by kernel_rfl) ?_
   obtain ⟨o1, o1_h, h⟩ := bS h
   refine XL.ren (σ' := [(0, s0 0 a.length), (1, ii b), (5, ii (-1)), (6, ii 0)]) (h' := [(0, rc (encI .i64) a z0 y0 1)]) (c' := 1) [0] (by decide) rfl ⟨rfl, rfl, rfl, rfl, trivial⟩ ⟨⟨_, _, rfl, rfl, .inl ⟨rfl, rwI⟩⟩, trivial⟩ rfl ?_
   refine XL.conv (f71_1_ok m m z0 y0 a b (-1) 0 o1 o1_h _ ?_) (by first | with_reducible rfl | simp | rfl)
   show XQ _ _ _ _ _ _ _ _
   refine qQ ?_
   refine rS 2 [(1, ii b), (5, ii o1), (61, s0 0 a.length), (62, ii o1)] ?_
   obtain ⟨r68, r68_h, h⟩ := bS h
   refine XR.call E0_ok [1, 5, 63] rfl (K := 98) (args := [s0 0 a.length, ii o1]) (d := (some (path 12 63))) (by kernel_rfl) (KC.liftH (n0 := 1) (m := 1) (args0 := [s0 0 a.length, ii o1]) (h0 := [(0, rc (encI .i64) a (z0 + ((rowC (encI .i64) a).length + 1)) y0 1)]) (V := .tuple #[s0 1 r68.1.length, .bool r68.2]) (V2 := .tuple #[s0 1 r68.1.length, .bool r68.2]) (H := [(1, rI r68.1)]) (H2 := [(1, rI r68.1)]) [0] [2, 1] (f98_ok m (z0 + ((rowC (encI .i64) a).length + 1)) y0 a o1 r68 r68_h) (by rfl) (by decide) rfl (by kernel_rfl) ⟨⟨_, _, rfl, rfl, .inl ⟨rfl, rwI⟩⟩, trivial⟩ (by decide) (by decide) (by kernel_rfl) ⟨⟨_, _, rfl, rfl, .inl ⟨rfl, rwI⟩⟩, trivial⟩ (by rfl)) ?_
   rintro _ _ _ ⟨rfl, rfl, rfl⟩
   refine XR.conv (σ' := [(1, ii b), (5, ii o1), (63, .tuple #[s0 1 r68.1.length, .bool r68.2])]) (h' := [(1, rI r68.1), (0, rc (encI .i64) a z0 y0 1)]) (c' := 2) ?_ (by kernel_rfl)
   refine rS 5 [(1, ii b), (5, ii o1), (9, s0 1 r68.1.length)] ?_
   refine nQ id ?_
   refine rS 2 [(1, ii b), (9, s0 1 r68.1.length), (66, ii b), (67, ii o1)] ?_
   obtain ⟨r69, r69_h, h⟩ := bS h
   refine XR.call E0_ok [1, 9, 68] rfl (K := 101) (args := [ii b, ii o1]) (d := (some (path 12 68))) (by kernel_rfl) (KC.lift (V2 := s0 2 r69.length) (H2 := [(2, rc encP r69 0 55 2)]) [1, 2, 0] (f101_ok m b o1 r69 r69_h) rfl (by decide) (by decide) (by kernel_rfl) ⟨⟨_, _, rfl, rfl, .inl ⟨rfl, rwP⟩⟩, trivial⟩ (by rfl)) ?_
   rintro _ _ _ ⟨rfl, rfl, rfl⟩
   refine XR.conv (σ' := [(1, ii b), (9, s0 1 r68.1.length), (68, s0 2 r69.length)]) (h' := [(2, rc encP r69 0 55 2), (1, rI r68.1), (0, rc (encI .i64) a z0 y0 1)]) (c' := 3) ?_ (by kernel_rfl)
   refine rS 3 [(68, s0 2 r69.length), (69, s0 1 r68.1.length), (71, ii (w64 (b + 1)))] ?_
   obtain ⟨r70, r70_h, h⟩ := bS h
   refine XR.call E0_ok [68, 72] rfl (K := 71) (args := [s0 1 r68.1.length, ii (w64 (b + 1))]) (d := (some (path 12 72))) (by kernel_rfl) (KC.liftH (n0 := 1) (m := 1) (args0 := [s0 0 r68.1.length, ii (w64 (b + 1))]) (h0 := [(0, rc (encI .i64) r68.1 (0 + ((rowC (encI .i64) r68.1).length + 1)) 3 1)]) (V := s0 1 r70.length) (V2 := s0 3 r70.length) (H := [(1, rc encP r70 0 55 2)]) (H2 := [(3, rc encP r70 0 55 2)]) [1] [2, 3, 4, 1] (f71_ok m fuel (0 + ((rowC (encI .i64) r68.1).length + 1)) 3 r68.1 (w64 (b + 1)) r70 r70_h) (by rfl) (by decide) rfl (by kernel_rfl) ⟨⟨_, _, rfl, rfl, .inl ⟨rfl, rwI⟩⟩, trivial⟩ (by decide) (by decide) (by kernel_rfl) ⟨⟨_, _, rfl, rfl, .inl ⟨rfl, rwP⟩⟩, trivial⟩ (by rfl)) ?_
   rintro _ _ _ ⟨rfl, rfl, rfl⟩
   refine XR.conv (σ' := [(68, s0 2 r69.length), (72, s0 3 r70.length)]) (h' := [(3, rc encP r70 0 55 2), (2, rc encP r69 0 55 2), (1, rI r68.1), (0, rc (encI .i64) a z0 y0 1)]) (c' := 4) ?_ (by kernel_rfl)
   cases b3 : (fitsB (r69.length + r70.length) 16 : Bool) with
   | false => cases (cF b3 h)
   | true =>
    have h := cT b3 h
    refine XR.efX E0_ok [73] rfl (d := (some (path 12 73))) (f := eAppend false 2 16 55 (src 74 (.tmp 68)) (src 74 (.tmp 72))) (by kernel_rfl) (fun _ => eAppendA_ok) (e_appendA encP_ok (bytes := 16) (e := 55) (x := (src 74 (.tmp 68))) (y := (src 74 (.tmp 72))) (b := 2) (len := r69.length) (cap := r69.length) (xs := r69) (n := r70.length) (ys := r70) (n' := (r69 ++ r70).length) (h' := [(4, rc encP (r69 ++ r70) 0 55 2), (3, rc encP r70 0 55 2), (1, rI r68.1), (0, rc (encI .i64) a z0 y0 1)]) (Y := s0 3 r70.length) (by kernel_rfl) (by kernel_rfl) (by kernel_rfl) (fetch_all encP_ok (ys := r70) (fz := 0) (e := 55) (es := 2) (by kernel_rfl) (by simp) (Nat.le_refl _)) (by simp) rfl (by simp) (by simp) b3 (by first | (simp; done) | (simp; omega)) (by kernel_rfl)) (σ' := [(73, s0 4 ((r69 ++ r70).length))]) (by kernel_rfl) ?_
    refine rS 1 [(4, s0 4 ((r69 ++ r70).length))] ?_
    refine dQ ?_
    show XQ _ _ _ _ _ _ _ _
    refine XQ.ren (σ' := [(4, s0 1 ((r69 ++ r70).length))]) (h' := [(1, rc encP (r69 ++ r70) 0 55 2), (0, rc (encI .i64) a z0 y0 1)]) (c' := 2) [0, 4] (by decide) rfl ⟨rfl, trivial⟩ ⟨⟨_, _, rfl, rfl, .inl ⟨rfl, rwP⟩⟩, ⟨_, _, rfl, rfl, .inl ⟨rfl, rwI⟩⟩, trivial⟩ rfl ?_
    refine XQ.ret (by kernel_rfl) ?_
    have h := Option.some.inj h
    subst h
    exact ⟨fun i q => (by cases q), s0 1 ((r69 ++ r70).length), (by kernel_rfl), (by simp), (by kernel_rfl), rfl⟩
end Go.Xm
namespace Go.Xm
open Go.RowKit
set_option linter.unusedVariables false
set_option linter.unusedSimpArgs false
set_option maxRecDepth 20000
noncomputable def f24_C24 : Code := Proofs.Tryd.f24.body.getD .skip
def f24 (m : Nat) (a : List Int) : Option (Int × (List (Int × Int)) × Int) :=
 (f22 m a).bind fun r1 =>
  cond (r1 == 0) (
   (f60 m a).bind fun r2 =>
    cond ((cond (!r2) 12 r1 : Int) != 0) (
     some (0, [], cond (!r2) 12 r1)
    ) (
     (f71 m m a 0).bind fun r3 =>
      some (((a.length : Nat) : Int), r3, 0)
    )
  ) (
   cond (r1 != 0) (
    some (0, [], r1)
   ) (
    (f71 m m a 0).bind fun r4 =>
     some (((a.length : Nat) : Int), r4, 0)
   )
  )
theorem f24_ok (m : Nat) (z0 : Nat) (y0 : Nat) (a : List Int) (o : Int × (List (Int × Int)) × Int) (h : f24 m a = some o) : KC E0 24 [s0 0 a.length] [(0, rc (encI .i64) a z0 y0 1)] 1 (fun v h' c' => v = .tuple #[.agg #[ii o.1, s0 1 o.2.1.length], ii o.2.2] ∧ h' = [(1, rc encP o.2.1 0 55 2)] ++ [(0, rc (encI .i64) a z0 y0 1)] ∧ c' = 2) := by
 refine KC.renO ?_
 refine KC.bodyN E0_ok (F := Proofs.Tryd.f24) (by kernel_rfl) (code := f24_C24) (by kernel_rfl) (nt := 23) (by kernel_rfl) (rs := [.cell 2 37, .tmp 3]) (by kernel_rfl) (by kernel_rfl) (σ := [(0, s0 0 a.length)]) (by kernel_rfl) ?_
 unfold f24 at h
 refine qQ ?_
 refine rT 2 [(0, s0 0 a.length), (2, pp 1 0)] [(1, .cells [ii 0, .slice none 0 0] 0 37 0), (0, rc (encI .i64) a z0 y0 1)] 2 ?_
 refine dQ ?_
 show XQ _ _ _ _ _ _ _ _
 refine XQ.ghost 55 2 rfl (σ' := [(0, s0 0 a.length), (2, pp 1 0)]) (h' := [(1, .cells [ii 0, s0 2 0] 0 37 0), (0, rc (encI .i64) a z0 y0 1)]) ⟨rfl, rfl, trivial⟩ ⟨⟨_, rfl, .inr ⟨_, _, _, _, rfl, rfl⟩⟩, ⟨_, rfl, .inl rfl⟩, trivial⟩ ?_
 refine XQ.conv (σ' := [(0, s0 0 a.length), (2, pp 1 0)]) (h' := [(2, rc encP [] 0 55 2), (1, .cells [ii 0, s0 2 0] 0 37 0), (0, rc (encI .i64) a z0 y0 1)]) (c' := 3) ?_ (by kernel_rfl)
 refine qQ ?_
 refine rS 1 [(0, s0 0 a.length), (2, pp 1 0), (5, s0 0 a.length)] ?_
 obtain ⟨r1, r1_h, h⟩ := bS h
 refine XR.call E0_ok [0, 2, 6] rfl (K := 22) (args := [s0 0 a.length]) (d := (some (path 12 6))) (by kernel_rfl) (KQ.call (KC.quiet E0_ok (args0 := [s0 0 a.length]) (h0 := [(0, rc (encI .i64) a (z0 + ((rowC (encI .i64) a).length + 1)) y0 1)]) (n := 1) (V := ii r1) [0] (f22_ok m (z0 + ((rowC (encI .i64) a).length + 1)) y0 a r1 r1_h) rfl (by rfl) (by decide) rfl (by kernel_rfl) ⟨⟨_, _, rfl, rfl, .inl ⟨rfl, rwI⟩⟩, trivial⟩) rfl) ?_
 rintro _ _ _ ⟨rfl, rfl, rfl⟩
 refine XR.conv (σ' := [(0, s0 0 a.length), (2, pp 1 0), (6, ii r1)]) (h' := [(2, rc encP [] 0 55 2), (1, .cells [ii 0, s0 2 0] 0 37 0), (0, rc (encI .i64) a z0 y0 1)]) (c' := 3) ?_ (by kernel_rfl)
 refine rS 1 [(0, s0 0 a.length), (2, pp 1 0), (4, ii r1)] ?_
 refine dQ ?_
 show XQ _ _ _ _ _ _ _ _
 refine sQ ?_
 refine qQ ?_
 refine rS 3 [(0, s0 0 a.length), (2, pp 1 0), (4, ii r1), (9, .bool (r1 == 0))] ?_
 cases b1 : (r1 == 0 : Bool) with
 | true =>
  have h := cT b1 h
  refine rS 1 [(0, s0 0 a.length), (2, pp 1 0), (4, ii r1), (9, .bool true), (10, s0 0 a.length)] ?_
  obtain ⟨r2, r2_h, h⟩ := bS h
  refine XR.call E0_ok [0, 2, 4, 9, 11] rfl (K := 60) (args := [s0 0 a.length]) (d := (some (path 12 11))) (by kernel_rfl) (KQ.call (KC.quiet E0_ok (args0 := [s0 0 a.length]) (h0 := [(0, rc (encI .i64) a (z0 + ((rowC (encI .i64) a).length + 1)) y0 1)]) (n := 1) (V := .bool r2) [0] (f60_ok m (z0 + ((rowC (encI .i64) a).length + 1)) y0 a r2 r2_h) rfl (by rfl) (by decide) rfl (by kernel_rfl) ⟨⟨_, _, rfl, rfl, .inl ⟨rfl, rwI⟩⟩, trivial⟩) rfl) ?_
  rintro _ _ _ ⟨rfl, rfl, rfl⟩
  refine XR.conv (σ' := [(0, s0 0 a.length), (2, pp 1 0), (4, ii r1), (9, .bool true), (11, .bool r2)]) (h' := [(2, rc encP [] 0 55 2), (1, .cells [ii 0, s0 2 0] 0 37 0), (0, rc (encI .i64) a z0 y0 1)]) (c' := 3) ?_ (by kernel_rfl)
  refine rS 2 [(0, s0 0 a.length), (2, pp 1 0), (4, ii r1), (13, .bool (!r2))] ?_
  refine dQ ?_
  show XQ _ _ _ _ _ _ _ _
  refine XQ.meetC (σ' := [(0, s0 0 a.length), (2, pp 1 0), (4, ii (cond (!r2) 12 r1))]) (h' := [(2, rc encP [] 0 55 2), (1, .cells [ii 0, s0 2 0] 0 37 0), (0, rc (encI .i64) a z0 y0 1)]) (c' := 3) ?_ ?_
  rotate_left
  ·refine XQ.cond (s := (.tmp 13)) (b := !r2) (by kernel_rfl) (by kernel_rfl) (fun b2 => ?_) (fun b2 => ?_)
   ·refine rQ ?_
    refine rS 1 [(0, s0 0 a.length), (2, pp 1 0), (4, ii 12)] ?_
    refine dQ ?_
    refine ⟨rfl, ?_, ?_⟩
    ·try rw [b2]
     exact ⟨rfl, rfl, rfl, trivial⟩
    ·try rw [b2]
     kernel_rfl
   ·refine kQ ?_
    refine ⟨rfl, ?_, ?_⟩
    ·try rw [b2]
     exact ⟨rfl, rfl, rfl, trivial⟩
    ·try rw [b2]
     kernel_rfl
  show XQ _ _ _ _ _ _ _ _
  refine sQ ?_
  refine qQ ?_
  refine rS 2 [(0, s0 0 a.length), (2, pp 1 0), (4, ii (cond (!r2) 12 r1)), (15, .bool ((cond (!r2) 12 r1 : Int) != 0))] ?_
  refine dQ ?_
  show XQ _ _ _ _ _ _ _ _
  cases b3 : ((cond (!r2) 12 r1 : Int) != 0 : Bool) with
  | true =>
   have h := cT b3 h
   refine iT (.tmp 15) ?_
   refine qQ ?_
   refine rT 4 [(2, pp 1 0), (3, ii (cond (!r2) 12 r1))] [(2, rc encP [] 0 55 2), (1, .cells [ii 0, .slice none 0 0] 0 37 0), (0, rc (encI .i64) a z0 y0 1)] 3 ?_
   refine dQ ?_
   show XQ _ _ _ _ _ _ _ _
   refine XQ.ghost 55 2 rfl (σ' := [(2, pp 1 0), (3, ii (cond (!r2) 12 r1))]) (h' := [(2, rc encP [] 0 55 2), (1, .cells [ii 0, s0 3 0] 0 37 0), (0, rc (encI .i64) a z0 y0 1)]) ⟨rfl, rfl, trivial⟩ ⟨⟨_, rfl, .inl rfl⟩, ⟨_, rfl, .inr ⟨_, _, _, _, rfl, rfl⟩⟩, ⟨_, rfl, .inl rfl⟩, trivial⟩ ?_
   refine XQ.conv (σ' := [(2, pp 1 0), (3, ii (cond (!r2) 12 r1))]) (h' := [(3, rc encP [] 0 55 2), (2, rc encP [] 0 55 2), (1, .cells [ii 0, s0 3 0] 0 37 0), (0, rc (encI .i64) a z0 y0 1)]) (c' := 4) ?_ (by kernel_rfl)
   refine XQ.ren (σ' := [(2, pp 1 0), (3, ii (cond (!r2) 12 r1))]) (h' := [(2, rc encP [] 0 55 2), (1, .cells [ii 0, s0 2 0] 0 37 0), (0, rc (encI .i64) a z0 y0 1)]) (c' := 3) [0, 1, 3] (by decide) rfl ⟨rfl, rfl, trivial⟩ ⟨⟨_, _, rfl, rfl, .inl ⟨rfl, rwP⟩⟩, ⟨_, _, rfl, rfl, .inr ⟨_, _, _, _, rfl, rfl⟩⟩, ⟨_, _, rfl, rfl, .inl ⟨rfl, rwI⟩⟩, trivial⟩ rfl ?_
   refine XQ.ret (by kernel_rfl) ?_
   have h := Option.some.inj h
   subst h
   exact ⟨fun i q => (by cases q), .tuple #[.agg #[ii 0, s0 2 0], ii (cond (!r2) 12 r1)], (by kernel_rfl), [0, 2], .tuple #[.agg #[ii 0, s0 1 0], ii (cond (!r2) 12 r1)], [(1, rc encP [] 0 55 2), (0, rc (encI .i64) a z0 y0 1)], (by decide), rfl, (by kernel_rfl), ⟨⟨_, _, rfl, rfl, .inl ⟨rfl, rwP⟩⟩, ⟨_, _, rfl, rfl, .inl ⟨rfl, rwI⟩⟩, trivial⟩, (by kernel_rfl), (by kernel_rfl), rfl⟩
  | false =>
   have h := cF b3 h
   refine iF (.tmp 15) ?_
   refine kQ ?_
   show XQ _ _ _ _ _ _ _ _
   refine qQ ?_
   refine rS 3 [(2, pp 1 0), (19, ii ((a.length : Nat) : Int)), (20, s0 0 a.length)] ?_
   obtain ⟨r3, r3_h, h⟩ := bS h
   refine XR.call E0_ok [2, 19, 21] rfl (K := 71) (args := [s0 0 a.length, ii 0]) (d := (some (path 12 21))) (by kernel_rfl) (KC.liftH (n0 := 1) (m := 1) (args0 := [s0 0 a.length, ii 0]) (h0 := [(0, rc (encI .i64) a (z0 + ((rowC (encI .i64) a).length + 1)) y0 1)]) (V := s0 1 r3.length) (V2 := s0 3 r3.length) (H := [(1, rc encP r3 0 55 2)]) (H2 := [(3, rc encP r3 0 55 2)]) [0] [2, 3, 4, 1] (f71_ok m m (z0 + ((rowC (encI .i64) a).length + 1)) y0 a 0 r3 r3_h) (by rfl) (by decide) rfl (by kernel_rfl) ⟨⟨_, _, rfl, rfl, .inl ⟨rfl, rwI⟩⟩, trivial⟩ (by decide) (by decide) (by kernel_rfl) ⟨⟨_, _, rfl, rfl, .inl ⟨rfl, rwP⟩⟩, trivial⟩ (by rfl)) ?_
   rintro _ _ _ ⟨rfl, rfl, rfl⟩
   refine XR.conv (σ' := [(2, pp 1 0), (19, ii ((a.length : Nat) : Int)), (21, s0 3 r3.length)]) (h' := [(3, rc encP r3 0 55 2), (2, rc encP [] 0 55 2), (1, .cells [ii 0, s0 2 0] 0 37 0), (0, rc (encI .i64) a z0 y0 1)]) (c' := 4) ?_ (by kernel_rfl)
   refine rT 3 [(2, pp 1 0), (3, ii 0)] [(3, rc encP r3 0 55 2), (2, rc encP [] 0 55 2), (1, .cells [ii ((a.length : Nat) : Int), s0 3 r3.length] 0 37 0), (0, rc (encI .i64) a z0 y0 1)] 4 ?_
   refine dQ ?_
   show XQ _ _ _ _ _ _ _ _
   refine XQ.ren (σ' := [(2, pp 1 0), (3, ii 0)]) (h' := [(2, rc encP r3 0 55 2), (1, .cells [ii ((a.length : Nat) : Int), s0 2 r3.length] 0 37 0), (0, rc (encI .i64) a z0 y0 1)]) (c' := 3) [0, 1, 3] (by decide) rfl ⟨rfl, rfl, trivial⟩ ⟨⟨_, _, rfl, rfl, .inl ⟨rfl, rwP⟩⟩, ⟨_, _, rfl, rfl, .inr ⟨_, _, _, _, rfl, rfl⟩⟩, ⟨_, _, rfl, rfl, .inl ⟨rfl, rwI⟩⟩, trivial⟩ rfl ?_
   refine XQ.ret (by kernel_rfl) ?_
   have h := Option.some.inj h
   subst h
   exact ⟨fun i q => (by cases q), .tuple #[.agg #[ii ((a.length : Nat) : Int), s0 2 r3.length], ii 0], (by kernel_rfl), [0, 2], .tuple #[.agg #[ii ((a.length : Nat) : Int), s0 1 r3.length], ii 0], [(1, rc encP r3 0 55 2), (0, rc (encI .i64) a z0 y0 1)], (by decide), rfl, (by kernel_rfl), ⟨⟨_, _, rfl, rfl, .inl ⟨rfl, rwP⟩⟩, ⟨_, _, rfl, rfl, .inl ⟨rfl, rwI⟩⟩, trivial⟩, (by kernel_rfl), (by kernel_rfl), rfl⟩
 | false =>
  have h := cF b1 h
  refine rS 4 [(0, s0 0 a.length), (2, pp 1 0), (4, ii r1), (13, .bool false)] ?_
  refine dQ ?_
  show XQ _ _ _ _ _ _ _ _
  refine iF (.tmp 13) ?_
  refine kQ ?_
  show XQ _ _ _ _ _ _ _ _
  refine sQ ?_
  refine qQ ?_
  refine rS 2 [(0, s0 0 a.length), (2, pp 1 0), (4, ii r1), (15, .bool (r1 != 0))] ?_
  refine dQ ?_
  show XQ _ _ _ _ _ _ _ _
  cases b4 : (r1 != 0 : Bool) with
  | true =>
   have h := cT b4 h
   refine iT (.tmp 15) ?_
   refine qQ ?_
   refine rT 4 [(2, pp 1 0), (3, ii r1)] [(2, rc encP [] 0 55 2), (1, .cells [ii 0, .slice none 0 0] 0 37 0), (0, rc (encI .i64) a z0 y0 1)] 3 ?_
   refine dQ ?_
   show XQ _ _ _ _ _ _ _ _
   refine XQ.ghost 55 2 rfl (σ' := [(2, pp 1 0), (3, ii r1)]) (h' := [(2, rc encP [] 0 55 2), (1, .cells [ii 0, s0 3 0] 0 37 0), (0, rc (encI .i64) a z0 y0 1)]) ⟨rfl, rfl, trivial⟩ ⟨⟨_, rfl, .inl rfl⟩, ⟨_, rfl, .inr ⟨_, _, _, _, rfl, rfl⟩⟩, ⟨_, rfl, .inl rfl⟩, trivial⟩ ?_
   refine XQ.conv (σ' := [(2, pp 1 0), (3, ii r1)]) (h' := [(3, rc encP [] 0 55 2), (2, rc encP [] 0 55 2), (1, .cells [ii 0, s0 3 0] 0 37 0), (0, rc (encI .i64) a z0 y0 1)]) (c' := 4) ?_ (by kernel_rfl)
   refine XQ.ren (σ' := [(2, pp 1 0), (3, ii r1)]) (h' := [(2, rc encP [] 0 55 2), (1, .cells [ii 0, s0 2 0] 0 37 0), (0, rc (encI .i64) a z0 y0 1)]) (c' := 3) [0, 1, 3] (by decide) rfl ⟨rfl, rfl, trivial⟩ ⟨⟨_, _, rfl, rfl, .inl ⟨rfl, rwP⟩⟩, ⟨_, _, rfl, rfl, .inr ⟨_, _, _, _, rfl, rfl⟩⟩, ⟨_, _, rfl, rfl, .inl ⟨rfl, rwI⟩⟩, trivial⟩ rfl ?_
   refine XQ.ret (by kernel_rfl) ?_
   have h := Option.some.inj h
   subst h
   exact ⟨fun i q => (by cases q), .tuple #[.agg #[ii 0, s0 2 0], ii r1], (by kernel_rfl), [0, 2], .tuple #[.agg #[ii 0, s0 1 0], ii r1], [(1, rc encP [] 0 55 2), (0, rc (encI .i64) a z0 y0 1)], (by decide), rfl, (by kernel_rfl), ⟨⟨_, _, rfl, rfl, .inl ⟨rfl, rwP⟩⟩, ⟨_, _, rfl, rfl, .inl ⟨rfl, rwI⟩⟩, trivial⟩, (by kernel_rfl), (by kernel_rfl), rfl⟩
  | false =>
   have h := cF b4 h
   refine iF (.tmp 15) ?_
   refine kQ ?_
   show XQ _ _ _ _ _ _ _ _
   refine qQ ?_
   refine rS 3 [(2, pp 1 0), (19, ii ((a.length : Nat) : Int)), (20, s0 0 a.length)] ?_
   obtain ⟨r4, r4_h, h⟩ := bS h
   refine XR.call E0_ok [2, 19, 21] rfl (K := 71) (args := [s0 0 a.length, ii 0]) (d := (some (path 12 21))) (by kernel_rfl) (KC.liftH (n0 := 1) (m := 1) (args0 := [s0 0 a.length, ii 0]) (h0 := [(0, rc (encI .i64) a (z0 + ((rowC (encI .i64) a).length + 1)) y0 1)]) (V := s0 1 r4.length) (V2 := s0 3 r4.length) (H := [(1, rc encP r4 0 55 2)]) (H2 := [(3, rc encP r4 0 55 2)]) [0] [2, 3, 4, 1] (f71_ok m m (z0 + ((rowC (encI .i64) a).length + 1)) y0 a 0 r4 r4_h) (by rfl) (by decide) rfl (by kernel_rfl) ⟨⟨_, _, rfl, rfl, .inl ⟨rfl, rwI⟩⟩, trivial⟩ (by decide) (by decide) (by kernel_rfl) ⟨⟨_, _, rfl, rfl, .inl ⟨rfl, rwP⟩⟩, trivial⟩ (by rfl)) ?_
   rintro _ _ _ ⟨rfl, rfl, rfl⟩
   refine XR.conv (σ' := [(2, pp 1 0), (19, ii ((a.length : Nat) : Int)), (21, s0 3 r4.length)]) (h' := [(3, rc encP r4 0 55 2), (2, rc encP [] 0 55 2), (1, .cells [ii 0, s0 2 0] 0 37 0), (0, rc (encI .i64) a z0 y0 1)]) (c' := 4) ?_ (by kernel_rfl)
   refine rT 3 [(2, pp 1 0), (3, ii 0)] [(3, rc encP r4 0 55 2), (2, rc encP [] 0 55 2), (1, .cells [ii ((a.length : Nat) : Int), s0 3 r4.length] 0 37 0), (0, rc (encI .i64) a z0 y0 1)] 4 ?_
   refine dQ ?_
   show XQ _ _ _ _ _ _ _ _
   refine XQ.ren (σ' := [(2, pp 1 0), (3, ii 0)]) (h' := [(2, rc encP r4 0 55 2), (1, .cells [ii ((a.length : Nat) : Int), s0 2 r4.length] 0 37 0), (0, rc (encI .i64) a z0 y0 1)]) (c' := 3) [0, 1, 3] (by decide) rfl ⟨rfl, rfl, trivial⟩ ⟨⟨_, _, rfl, rfl, .inl ⟨rfl, rwP⟩⟩, ⟨_, _, rfl, rfl, .inr ⟨_, _, _, _, rfl, rfl⟩⟩, ⟨_, _, rfl, rfl, .inl ⟨rfl, rwI⟩⟩, trivial⟩ rfl ?_
   refine XQ.ret (by kernel_rfl) ?_
   have h := Option.some.inj h
   subst h
   exact ⟨fun i q => (by cases q), .tuple #[.agg #[ii ((a.length : Nat) : Int), s0 2 r4.length], ii 0], (by kernel_rfl), [0, 2], .tuple #[.agg #[ii ((a.length : Nat) : Int), s0 1 r4.length], ii 0], [(1, rc encP r4 0 55 2), (0, rc (encI .i64) a z0 y0 1)], (by decide), rfl, (by kernel_rfl), ⟨⟨_, _, rfl, rfl, .inl ⟨rfl, rwP⟩⟩, ⟨_, _, rfl, rfl, .inl ⟨rfl, rwI⟩⟩, trivial⟩, (by kernel_rfl), (by kernel_rfl), rfl⟩
noncomputable def f73_C73 : Code := Proofs.Tryd.f73.body.getD .skip
noncomputable def f73_L1 : Code := lft (lft (rgt (lft (rgt (rgt (rgt f73_C73))))))
def f73_1 (m : Nat) (F : (List Int) → Option Int) : Nat → List Int → Int → Int → Option Int
 | 0, _, _, _ => none
 | fuel + 1, a, x3_1, x4_1 =>
  cond (decide (0 ≤ w64 (((a.length : Nat) : Int) - 1))) (
   cond (decide (x4_1 < (shV true .i64 1 (w64 (((a.length : Nat) : Int) - 1))))) (
    (f99 m x4_1).bind fun r15 =>
     cond (inRow 0 a.length) (
      cond (r15 == (List.getD a 0 0)) (
       (f98 m a x4_1).bind fun r19 =>
        cond (r19.2) (
         (F r19.1).bind fun r21 =>
          f73_1 m F fuel a (w64 (x3_1 + r21)) (w64 (x4_1 + 1))
        ) (
         f73_1 m F fuel a x3_1 (w64 (x4_1 + 1))
        )
      ) (
       f73_1 m F fuel a x3_1 (w64 (x4_1 + 1))
      )
     ) none
   ) (
    some (x3_1)
   )
  ) none
theorem f73_1_ok (m : Nat) (F : (List Int) → Option Int) (hF : ∀ (z0 : Nat) (y0 : Nat) (a : List Int) (o : Int), F a = some o → KC E0 73 [s0 0 a.length] [(0, rc (encI .i64) a z0 y0 1)] 1 (fun v _ _ => v = ii o)) : ∀ (fuel : Nat) (z0 : Nat) (y0 : Nat) (a : List Int) (x3_1 : Int) (x4_1 : Int) (o : Int), f73_1 m F fuel a x3_1 x4_1 = some o → ∀ Q : QP, Q (.exit 0) [(3, ii o)] [(0, rc (encI .i64) a z0 y0 1)] 1 → XL E0 36 1 fuel f73_L1 [(0, s0 0 a.length), (3, ii x3_1), (4, ii x4_1)] [(0, rc (encI .i64) a z0 y0 1)] 1 Q
 | 0, z0, y0, a, x3_1, x4_1, o, h, Q, hQ => by cases h
 | fuel + 1, z0, y0, a, x3_1, x4_1, o, h, Q, hQ => by
  unfold f73_1 at h
  refine XL.succ E0_ok ?_
  refine sQ ?_
  refine qQ ?_
  refine rS 4 [(0, s0 0 a.length), (3, ii x3_1), (4, ii x4_1), (10, ii x4_1), (13, ii (w64 (((a.length : Nat) : Int) - 1)))] ?_
  cases b1 : (decide (0 ≤ w64 (((a.length : Nat) : Int) - 1)) : Bool) with
  | false => cases (cF b1 h)
  | true =>
   have h := cT b1 h
   have e2 : insV (headI ((gsOf E0 36 (opsOf (lft (lft f73_L1)))).drop 4) (trS 36 [(0, s0 0 a.length), (3, ii x3_1), (4, ii x4_1), (10, ii x4_1), (13, ii (w64 (((a.length : Nat) : Int) - 1)))])) (trS 36 [(0, s0 0 a.length), (3, ii x3_1), (4, ii x4_1), (10, ii x4_1), (13, ii (w64 (((a.length : Nat) : Int) - 1)))]) [(0, rc (encI .i64) a z0 y0 1)] = (match (decide (0 ≤ w64 (((a.length : Nat) : Int) - 1)) : Bool) with | true => some (ii (shV true .i64 1 (w64 (((a.length : Nat) : Int) - 1)))) | false => none) := by kernel_rfl
   refine XR.rd E0_ok [0, 3, 4, 10, 14] rfl (e2.trans (by rw [b1])) (σ' := [(0, s0 0 a.length), (3, ii x3_1), (4, ii x4_1), (10, ii x4_1), (14, ii (shV true .i64 1 (w64 (((a.length : Nat) : Int) - 1))))]) (by kernel_rfl) ?_
   refine rS 1 [(0, s0 0 a.length), (3, ii x3_1), (4, ii x4_1), (15, .bool (decide (x4_1 < (shV true .i64 1 (w64 (((a.length : Nat) : Int) - 1))))))] ?_
   refine dQ ?_
   show XQ _ _ _ _ _ _ _ _
   cases b3 : (decide (x4_1 < (shV true .i64 1 (w64 (((a.length : Nat) : Int) - 1)))) : Bool) with
   | true =>
    have h := cT b3 h
    refine iT (.tmp 15) ?_
    refine kQ ?_
    show XQ _ _ _ _ _ _ _ _
    refine sQ ?_
    refine XQ.block (id := 1) (by kernel_rfl) ?_
    refine sQ ?_
    refine XQ.quiet E0_ok (by kernel_rfl) (by kernel_rfl) ?_
    refine XU.run E0_ok 1 1 [0, 3, 4, 18] rfl (σ' := [(0, s0 0 a.length), (3, ii x3_1), (4, ii x4_1), (18, ii x4_1)]) (by kernel_rfl) ?_
    obtain ⟨r15, r15_h, h⟩ := bS h
    refine XU.call E0_ok [0, 3, 4, 19] rfl (K := 99) (F := Proofs.Tryd.f99) (args := [ii x4_1]) (d := (some (path 12 19))) (v := ii r15) (by kernel_rfl) (by kernel_rfl) rfl rfl (fun w hI => f99_ok m x4_1 r15 r15_h w hI) (σ' := [(0, s0 0 a.length), (3, ii x3_1), (4, ii x4_1), (19, ii r15)]) (by kernel_rfl) ?_
    refine XU.run E0_ok 1 1 [0, 3, 4, 19, 20] rfl (σ' := [(0, s0 0 a.length), (3, ii x3_1), (4, ii x4_1), (19, ii r15), (20, s0 0 a.length)]) (by kernel_rfl) ?_
    cases b4 : (inRow 0 a.length : Bool) with
    | false => cases (cF b4 h)
    | true =>
     have h := cT b4 h
     refine XU.rd E0_ok [0, 3, 4, 19, 21] rfl (v := pp 0 (0 * 1)) (v_idx (s := 1) (x := (src 36 (.tmp 20))) (y := (src 36 (.const (ii 0)))) (b := 0) (o := 0) (len := a.length) (cap := a.length) (ik := .i64) (i := 0) (off := 0 * 1) (d := (some (path 12 21))) (by kernel_rfl) (by kernel_rfl) (by kernel_rfl) b4 (by omega)) (σ' := [(0, s0 0 a.length), (3, ii x3_1), (4, ii x4_1), (19, ii r15), (21, pp 0 (0 * 1))]) (by kernel_rfl) ?_
     refine XU.rd E0_ok [0, 3, 4, 19, 22] rfl (v := ii (List.getD a 0 0)) (v_load1 (encI_ok .i64) (x := (src 36 (.tmp 21))) (b := 0) (off := 0 * 1) (xs := a) (fz := z0) (e := y0) (es := 1) (d := (some (path 12 22))) (by kernel_rfl) (by kernel_rfl) (by kernel_rfl) 0 0 0 (by first | with_reducible rfl | omega | rfl) (row_len (inRow_toNat b4) (by simp)) rfl rfl) (σ' := [(0, s0 0 a.length), (3, ii x3_1), (4, ii x4_1), (19, ii r15), (22, ii (List.getD a 0 0))]) (by kernel_rfl) ?_
     refine XU.run E0_ok 1 1 [0, 3, 4, 23] rfl (σ' := [(0, s0 0 a.length), (3, ii x3_1), (4, ii x4_1), (23, .bool (r15 == (List.getD a 0 0)))]) (by kernel_rfl) ?_
     refine XU.done (by kernel_rfl) ?_
     show XQ _ _ _ _ _ _ _ _
     cases b5 : (r15 == (List.getD a 0 0) : Bool) with
     | true =>
      have h := cT b5 h
      refine iT (.tmp 23) ?_
      refine qQ ?_
      refine rS 2 [(0, s0 0 a.length), (3, ii x3_1), (4, ii x4_1), (25, s0 0 a.length), (26, ii x4_1)] ?_
      obtain ⟨r19, r19_h, h⟩ := bS h
      refine XR.call E0_ok [0, 3, 4, 27] rfl (K := 98) (args := [s0 0 a.length, ii x4_1]) (d := (some (path 12 27))) (by kernel_rfl) (KC.liftH (n0 := 1) (m := 1) (args0 := [s0 0 a.length, ii x4_1]) (h0 := [(0, rc (encI .i64) a (z0 + ((rowC (encI .i64) a).length + 1)) y0 1)]) (V := .tuple #[s0 1 r19.1.length, .bool r19.2]) (V2 := .tuple #[s0 1 r19.1.length, .bool r19.2]) (H := [(1, rI r19.1)]) (H2 := [(1, rI r19.1)]) [0] [2, 1] (f98_ok m (z0 + ((rowC (encI .i64) a).length + 1)) y0 a x4_1 r19 r19_h) (by rfl) (by decide) rfl (by kernel_rfl) ⟨⟨_, _, rfl, rfl, .inl ⟨rfl, rwI⟩⟩, trivial⟩ (by decide) (by decide) (by kernel_rfl) ⟨⟨_, _, rfl, rfl, .inl ⟨rfl, rwI⟩⟩, trivial⟩ (by rfl)) ?_
      rintro _ _ _ ⟨rfl, rfl, rfl⟩
      refine XR.conv (σ' := [(0, s0 0 a.length), (3, ii x3_1), (4, ii x4_1), (27, .tuple #[s0 1 r19.1.length, .bool r19.2])]) (h' := [(1, rI r19.1), (0, rc (encI .i64) a z0 y0 1)]) (c' := 2) ?_ (by kernel_rfl)
      refine rS 5 [(0, s0 0 a.length), (3, ii x3_1), (4, ii x4_1), (5, s0 1 r19.1.length), (6, .bool r19.2)] ?_
      refine nQ id ?_
      refine rS 1 [(0, s0 0 a.length), (3, ii x3_1), (4, ii x4_1), (5, s0 1 r19.1.length), (30, .bool r19.2)] ?_
      refine dQ ?_
      show XQ _ _ _ _ _ _ _ _
      cases b6 : (r19.2 : Bool) with
      | true =>
       have h := cT b6 h
       refine iT (.tmp 30) ?_
       refine rQ ?_
       refine rS 2 [(0, s0 0 a.length), (4, ii x4_1), (31, ii x3_1), (32, s0 1 r19.1.length)] ?_
       obtain ⟨r21, r21_h, h⟩ := bS h
       refine XR.call E0_ok [0, 4, 31, 33] rfl (K := 73) (args := [s0 1 r19.1.length]) (d := (some (path 12 33))) (by kernel_rfl) (KQ.call (KC.quiet E0_ok (args0 := [s0 0 r19.1.length]) (h0 := [(0, rc (encI .i64) r19.1 (0 + ((rowC (encI .i64) r19.1).length + 1)) 3 1)]) (n := 1) (V := ii r21) [1] (hF (0 + ((rowC (encI .i64) r19.1).length + 1)) 3 r19.1 r21 r21_h) rfl (by rfl) (by decide) rfl (by kernel_rfl) ⟨⟨_, _, rfl, rfl, .inl ⟨rfl, rwI⟩⟩, trivial⟩) rfl) ?_
       rintro _ _ _ ⟨rfl, rfl, rfl⟩
       refine XR.conv (σ' := [(0, s0 0 a.length), (4, ii x4_1), (31, ii x3_1), (33, ii r21)]) (h' := [(1, rI r19.1), (0, rc (encI .i64) a z0 y0 1)]) (c' := 2) ?_ (by kernel_rfl)
       refine rS 2 [(0, s0 0 a.length), (3, ii (w64 (x3_1 + r21))), (4, ii x4_1)] ?_
       refine dQ ?_
       show XQ _ _ _ _ _ _ _ _
       refine rQ ?_
       refine rS 3 [(0, s0 0 a.length), (3, ii (w64 (x3_1 + r21))), (4, ii (w64 (x4_1 + 1)))] ?_
       refine dQ ?_
       show XL _ _ _ _ _ _ _ _ _
       refine XL.ren (σ' := [(0, s0 0 a.length), (3, ii (w64 (x3_1 + r21))), (4, ii (w64 (x4_1 + 1)))]) (h' := [(0, rc (encI .i64) a z0 y0 1)]) (c' := 1) [0] (by decide) rfl ⟨rfl, rfl, rfl, trivial⟩ ⟨⟨_, _, rfl, rfl, .inl ⟨rfl, rwI⟩⟩, trivial⟩ rfl ?_
       refine XL.conv (f73_1_ok m F hF fuel z0 y0 a (w64 (x3_1 + r21)) (w64 (x4_1 + 1)) o h Q hQ) (by first | with_reducible rfl | simp | rfl)
      | false =>
       have h := cF b6 h
       refine iF (.tmp 30) ?_
       refine kQ ?_
       show XQ _ _ _ _ _ _ _ _
       refine rQ ?_
       refine rS 3 [(0, s0 0 a.length), (3, ii x3_1), (4, ii (w64 (x4_1 + 1)))] ?_
       refine dQ ?_
       show XL _ _ _ _ _ _ _ _ _
       refine XL.ren (σ' := [(0, s0 0 a.length), (3, ii x3_1), (4, ii (w64 (x4_1 + 1)))]) (h' := [(0, rc (encI .i64) a z0 y0 1)]) (c' := 1) [0] (by decide) rfl ⟨rfl, rfl, rfl, trivial⟩ ⟨⟨_, _, rfl, rfl, .inl ⟨rfl, rwI⟩⟩, trivial⟩ rfl ?_
       refine XL.conv (f73_1_ok m F hF fuel z0 y0 a x3_1 (w64 (x4_1 + 1)) o h Q hQ) (by first | with_reducible rfl | simp | rfl)
     | false =>
      have h := cF b5 h
      refine iF (.tmp 23) ?_
      refine kQ ?_
      show XQ _ _ _ _ _ _ _ _
      refine rQ ?_
      refine rS 3 [(0, s0 0 a.length), (3, ii x3_1), (4, ii (w64 (x4_1 + 1)))] ?_
      refine dQ ?_
      show XL _ _ _ _ _ _ _ _ _
      refine XL.ren (σ' := [(0, s0 0 a.length), (3, ii x3_1), (4, ii (w64 (x4_1 + 1)))]) (h' := [(0, rc (encI .i64) a z0 y0 1)]) (c' := 1) [0] (by decide) rfl ⟨rfl, rfl, rfl, trivial⟩ ⟨⟨_, _, rfl, rfl, .inl ⟨rfl, rwI⟩⟩, trivial⟩ rfl ?_
      refine XL.conv (f73_1_ok m F hF fuel z0 y0 a x3_1 (w64 (x4_1 + 1)) o h Q hQ) (by first | with_reducible rfl | simp | rfl)
   | false =>
    have h := cF b3 h
    refine iF (.tmp 15) ?_
    refine XQ.ren (σ' := [(3, ii x3_1)]) (h' := [(0, rc (encI .i64) a z0 y0 1)]) (c' := 1) [0] (by decide) rfl ⟨rfl, trivial⟩ ⟨⟨_, _, rfl, rfl, .inl ⟨rfl, rwI⟩⟩, trivial⟩ rfl ?_
    refine XQ.exit (i := 0) (by kernel_rfl) ?_
    cases h
    exact hQ
def f73 (m : Nat) : Nat → (List Int) → Option (Int)
 | 0, _ => none
 | fuel + 1, a =>
  cond (((a.length : Nat) : Int) == 0) (
   some (1)
  ) (
   (f73_1 m (f73 m fuel) m a 0 0).bind fun o1 =>
    some (o1)
  )
theorem f73_ok (m : Nat) : ∀ (fuel : Nat) (z0 : Nat) (y0 : Nat) (a : List Int) (o : Int), f73 m fuel a = some o → KC E0 73 [s0 0 a.length] [(0, rc (encI .i64) a z0 y0 1)] 1 (fun v _ _ => v = ii o)
 | 0, z0, y0, a, o, h => by cases h
 | fuel + 1, z0, y0, a, o, h => by
  refine KC.bodyN E0_ok (F := Proofs.Tryd.f73) (by kernel_rfl) (code := f73_C73) (by kernel_rfl) (nt := 36) (by kernel_rfl) (rs := [.tmp 2]) (by kernel_rfl) (by kernel_rfl) (σ := [(0, s0 0 a.length)]) (by kernel_rfl) ?_
  unfold f73 at h
  refine qQ ?_
  refine rS 1 [(0, s0 0 a.length)] ?_
  refine dQ ?_
  show XQ _ _ _ _ _ _ _ _
  refine sQ ?_
  refine qQ ?_
  refine rS 3 [(0, s0 0 a.length), (9, .bool (((a.length : Nat) : Int) == 0))] ?_
  refine dQ ?_
  show XQ _ _ _ _ _ _ _ _
  cases b1 : (((a.length : Nat) : Int) == 0 : Bool) with
  | true =>
   have h := cT b1 h
   refine iT (.tmp 9) ?_
   refine qQ ?_
   refine rS 1 [(2, ii 1)] ?_
   refine dQ ?_
   show XQ _ _ _ _ _ _ _ _
   refine XQ.ret (by kernel_rfl) ?_
   have h := Option.some.inj h
   subst h
   exact ⟨fun i q => (by cases q), ii 1, (by kernel_rfl), rfl⟩
  | false =>
   have h := cF b1 h
   refine iF (.tmp 9) ?_
   refine kQ ?_
   show XQ _ _ _ _ _ _ _ _
   refine qQ ?_
   refine rS 1 [(0, s0 0 a.length), (3, ii 0)] ?_
   refine dQ ?_
   show XQ _ _ _ _ _ _ _ _
   refine sQ ?_
   refine qQ ?_
   refine rS 1 [(0, s0 0 a.length), (3, ii 0), (4, ii 0)] ?_
   refine dQ ?_
   show XQ _ _ _ _ _ _ _ _
   refine XQ.block (id := 0) (by kernel_rfl) ?_
   refine XQ.loop m (by kernel_rfl) ?_
   obtain ⟨o1, o1_h, h⟩ := bS h
   refine XL.ren (σ' := [(0, s0 0 a.length), (3, ii 0), (4, ii 0)]) (h' := [(0, rc (encI .i64) a z0 y0 1)]) (c' := 1) [0] (by decide) rfl ⟨rfl, rfl, rfl, trivial⟩ ⟨⟨_, _, rfl, rfl, .inl ⟨rfl, rwI⟩⟩, trivial⟩ rfl ?_
   refine XL.conv (f73_1_ok m (f73 m fuel) (f73_ok m fuel) m z0 y0 a 0 0 o1 o1_h _ ?_) (by first | with_reducible rfl | simp | rfl)
   show XQ _ _ _ _ _ _ _ _
   refine qQ ?_
   refine rS 2 [(2, ii o1)] ?_
   refine dQ ?_
   show XQ _ _ _ _ _ _ _ _
   refine XQ.ret (by kernel_rfl) ?_
   have h := Option.some.inj h
   subst h
   exact ⟨fun i q => (by cases q), ii o1, (by kernel_rfl), rfl⟩
noncomputable def f27_C27 : Code := Proofs.Tryd.f27.body.getD .skip
def f27 (m : Nat) (a : List Int) : Option (Int × Int) :=
 (f22 m a).bind fun r1 =>
  cond (r1 != 0) (
   some (0, r1)
  ) (
   (f73 m m a).bind fun r2 =>
    some (r2, 0)
  )
theorem f27_ok (m : Nat) (z0 : Nat) (y0 : Nat) (a : List Int) (o : Int × Int) (h : f27 m a = some o) : KC E0 27 [s0 0 a.length] [(0, rc (encI .i64) a z0 y0 1)] 1 (fun v _ _ => v = .tuple #[ii o.1, ii o.2]) := by
 refine KC.bodyN E0_ok (F := Proofs.Tryd.f27) (by kernel_rfl) (code := f27_C27) (by kernel_rfl) (nt := 12) (by kernel_rfl) (rs := [.tmp 2, .tmp 3]) (by kernel_rfl) (by kernel_rfl) (σ := [(0, s0 0 a.length)]) (by kernel_rfl) ?_
 unfold f27 at h
 refine qQ ?_
 refine rS 2 [(0, s0 0 a.length)] ?_
 refine nQ id ?_
 refine rS 1 [(0, s0 0 a.length), (5, s0 0 a.length)] ?_
 obtain ⟨r1, r1_h, h⟩ := bS h
 refine XR.call E0_ok [0, 6] rfl (K := 22) (args := [s0 0 a.length]) (d := (some (path 12 6))) (by kernel_rfl) (KQ.call (KC.quiet E0_ok (args0 := [s0 0 a.length]) (h0 := [(0, rc (encI .i64) a (z0 + ((rowC (encI .i64) a).length + 1)) y0 1)]) (n := 1) (V := ii r1) [0] (f22_ok m (z0 + ((rowC (encI .i64) a).length + 1)) y0 a r1 r1_h) rfl (by rfl) (by decide) rfl (by kernel_rfl) ⟨⟨_, _, rfl, rfl, .inl ⟨rfl, rwI⟩⟩, trivial⟩) rfl) ?_
 rintro _ _ _ ⟨rfl, rfl, rfl⟩
 refine XR.conv (σ' := [(0, s0 0 a.length), (6, ii r1)]) (h' := [(0, rc (encI .i64) a z0 y0 1)]) (c' := 1) ?_ (by kernel_rfl)
 refine rS 1 [(0, s0 0 a.length), (4, ii r1)] ?_
 refine dQ ?_
 show XQ _ _ _ _ _ _ _ _
 refine sQ ?_
 refine qQ ?_
 refine rS 2 [(0, s0 0 a.length), (4, ii r1), (8, .bool (r1 != 0))] ?_
 refine dQ ?_
 show XQ _ _ _ _ _ _ _ _
 cases b1 : (r1 != 0 : Bool) with
 | true =>
  have h := cT b1 h
  refine iT (.tmp 8) ?_
  refine qQ ?_
  refine rS 3 [(2, ii 0), (3, ii r1)] ?_
  refine dQ ?_
  show XQ _ _ _ _ _ _ _ _
  refine XQ.ret (by kernel_rfl) ?_
  have h := Option.some.inj h
  subst h
  exact ⟨fun i q => (by cases q), .tuple #[ii 0, ii r1], (by kernel_rfl), rfl⟩
 | false =>
  have h := cF b1 h
  refine iF (.tmp 8) ?_
  refine kQ ?_
  show XQ _ _ _ _ _ _ _ _
  refine qQ ?_
  refine rS 1 [(10, s0 0 a.length)] ?_
  obtain ⟨r2, r2_h, h⟩ := bS h
  refine XR.call E0_ok [11] rfl (K := 73) (args := [s0 0 a.length]) (d := (some (path 12 11))) (by kernel_rfl) (KQ.call (KC.quiet E0_ok (args0 := [s0 0 a.length]) (h0 := [(0, rc (encI .i64) a (z0 + ((rowC (encI .i64) a).length + 1)) y0 1)]) (n := 1) (V := ii r2) [0] (f73_ok m m (z0 + ((rowC (encI .i64) a).length + 1)) y0 a r2 r2_h) rfl (by rfl) (by decide) rfl (by kernel_rfl) ⟨⟨_, _, rfl, rfl, .inl ⟨rfl, rwI⟩⟩, trivial⟩) rfl) ?_
  rintro _ _ _ ⟨rfl, rfl, rfl⟩
  refine XR.conv (σ' := [(11, ii r2)]) (h' := [(0, rc (encI .i64) a z0 y0 1)]) (c' := 1) ?_ (by kernel_rfl)
  refine rS 2 [(2, ii r2), (3, ii 0)] ?_
  refine dQ ?_
  show XQ _ _ _ _ _ _ _ _
  refine XQ.ret (by kernel_rfl) ?_
  have h := Option.some.inj h
  subst h
  exact ⟨fun i q => (by cases q), .tuple #[ii r2, ii 0], (by kernel_rfl), rfl⟩
noncomputable def f29_C29 : Code := Proofs.Tryd.f29.body.getD .skip
def f29 (m : Nat) (a : List Int) : Option (Bool × Int) :=
 (f22 m a).bind fun r1 =>
  cond (r1 == 0) (
   (f60 m a).bind fun r2 =>
    cond ((cond (!r2) 12 r1 : Int) != 0) (
     some (false, cond (!r2) 12 r1)
    ) (
     (f73 m m a).bind fun r3 =>
      some (r3 == 1, 0)
    )
  ) (
   cond (r1 != 0) (
    some (false, r1)
   ) (
    (f73 m m a).bind fun r4 =>
     some (r4 == 1, 0)
   )
  )
theorem f29_ok (m : Nat) (z0 : Nat) (y0 : Nat) (a : List Int) (o : Bool × Int) (h : f29 m a = some o) : KC E0 29 [s0 0 a.length] [(0, rc (encI .i64) a z0 y0 1)] 1 (fun v _ _ => v = .tuple #[.bool o.1, ii o.2]) := by
 refine KC.bodyN E0_ok (F := Proofs.Tryd.f29) (by kernel_rfl) (code := f29_C29) (by kernel_rfl) (nt := 20) (by kernel_rfl) (rs := [.tmp 2, .tmp 3]) (by kernel_rfl) (by kernel_rfl) (σ := [(0, s0 0 a.length)]) (by kernel_rfl) ?_
 unfold f29 at h
 refine qQ ?_
 refine rS 2 [(0, s0 0 a.length)] ?_
 refine nQ id ?_
 refine rS 1 [(0, s0 0 a.length), (5, s0 0 a.length)] ?_
 obtain ⟨r1, r1_h, h⟩ := bS h
 refine XR.call E0_ok [0, 6] rfl (K := 22) (args := [s0 0 a.length]) (d := (some (path 12 6))) (by kernel_rfl) (KQ.call (KC.quiet E0_ok (args0 := [s0 0 a.length]) (h0 := [(0, rc (encI .i64) a (z0 + ((rowC (encI .i64) a).length + 1)) y0 1)]) (n := 1) (V := ii r1) [0] (f22_ok m (z0 + ((rowC (encI .i64) a).length + 1)) y0 a r1 r1_h) rfl (by rfl) (by decide) rfl (by kernel_rfl) ⟨⟨_, _, rfl, rfl, .inl ⟨rfl, rwI⟩⟩, trivial⟩) rfl) ?_
 rintro _ _ _ ⟨rfl, rfl, rfl⟩
 refine XR.conv (σ' := [(0, s0 0 a.length), (6, ii r1)]) (h' := [(0, rc (encI .i64) a z0 y0 1)]) (c' := 1) ?_ (by kernel_rfl)
 refine rS 1 [(0, s0 0 a.length), (4, ii r1)] ?_
 refine dQ ?_
 show XQ _ _ _ _ _ _ _ _
 refine sQ ?_
 refine qQ ?_
 refine rS 3 [(0, s0 0 a.length), (4, ii r1), (9, .bool (r1 == 0))] ?_
 cases b1 : (r1 == 0 : Bool) with
 | true =>
  have h := cT b1 h
  refine rS 1 [(0, s0 0 a.length), (4, ii r1), (9, .bool true), (10, s0 0 a.length)] ?_
  obtain ⟨r2, r2_h, h⟩ := bS h
  refine XR.call E0_ok [0, 4, 9, 11] rfl (K := 60) (args := [s0 0 a.length]) (d := (some (path 12 11))) (by kernel_rfl) (KQ.call (KC.quiet E0_ok (args0 := [s0 0 a.length]) (h0 := [(0, rc (encI .i64) a (z0 + ((rowC (encI .i64) a).length + 1)) y0 1)]) (n := 1) (V := .bool r2) [0] (f60_ok m (z0 + ((rowC (encI .i64) a).length + 1)) y0 a r2 r2_h) rfl (by rfl) (by decide) rfl (by kernel_rfl) ⟨⟨_, _, rfl, rfl, .inl ⟨rfl, rwI⟩⟩, trivial⟩) rfl) ?_
  rintro _ _ _ ⟨rfl, rfl, rfl⟩
  refine XR.conv (σ' := [(0, s0 0 a.length), (4, ii r1), (9, .bool true), (11, .bool r2)]) (h' := [(0, rc (encI .i64) a z0 y0 1)]) (c' := 1) ?_ (by kernel_rfl)
  refine rS 2 [(0, s0 0 a.length), (4, ii r1), (13, .bool (!r2))] ?_
  refine dQ ?_
  show XQ _ _ _ _ _ _ _ _
  refine XQ.meetC (σ' := [(0, s0 0 a.length), (4, ii (cond (!r2) 12 r1))]) (h' := [(0, rc (encI .i64) a z0 y0 1)]) (c' := 1) ?_ ?_
  rotate_left
  ·refine XQ.cond (s := (.tmp 13)) (b := !r2) (by kernel_rfl) (by kernel_rfl) (fun b2 => ?_) (fun b2 => ?_)
   ·refine rQ ?_
    refine rS 1 [(0, s0 0 a.length), (4, ii 12)] ?_
    refine dQ ?_
    refine ⟨rfl, ?_, ?_⟩
    ·try rw [b2]
     exact ⟨rfl, rfl, trivial⟩
    ·try rw [b2]
     kernel_rfl
   ·refine kQ ?_
    refine ⟨rfl, ?_, ?_⟩
    ·try rw [b2]
     exact ⟨rfl, rfl, trivial⟩
    ·try rw [b2]
     kernel_rfl
  show XQ _ _ _ _ _ _ _ _
  refine sQ ?_
  refine qQ ?_
  refine rS 2 [(0, s0 0 a.length), (4, ii (cond (!r2) 12 r1)), (15, .bool ((cond (!r2) 12 r1 : Int) != 0))] ?_
  refine dQ ?_
  show XQ _ _ _ _ _ _ _ _
  cases b3 : ((cond (!r2) 12 r1 : Int) != 0 : Bool) with
  | true =>
   have h := cT b3 h
   refine iT (.tmp 15) ?_
   refine qQ ?_
   refine rS 3 [(2, .bool false), (3, ii (cond (!r2) 12 r1))] ?_
   refine dQ ?_
   show XQ _ _ _ _ _ _ _ _
   refine XQ.ret (by kernel_rfl) ?_
   have h := Option.some.inj h
   subst h
   exact ⟨fun i q => (by cases q), .tuple #[.bool false, ii (cond (!r2) 12 r1)], (by kernel_rfl), rfl⟩
  | false =>
   have h := cF b3 h
   refine iF (.tmp 15) ?_
   refine kQ ?_
   show XQ _ _ _ _ _ _ _ _
   refine qQ ?_
   refine rS 1 [(17, s0 0 a.length)] ?_
   obtain ⟨r3, r3_h, h⟩ := bS h
   refine XR.call E0_ok [18] rfl (K := 73) (args := [s0 0 a.length]) (d := (some (path 12 18))) (by kernel_rfl) (KQ.call (KC.quiet E0_ok (args0 := [s0 0 a.length]) (h0 := [(0, rc (encI .i64) a (z0 + ((rowC (encI .i64) a).length + 1)) y0 1)]) (n := 1) (V := ii r3) [0] (f73_ok m m (z0 + ((rowC (encI .i64) a).length + 1)) y0 a r3 r3_h) rfl (by rfl) (by decide) rfl (by kernel_rfl) ⟨⟨_, _, rfl, rfl, .inl ⟨rfl, rwI⟩⟩, trivial⟩) rfl) ?_
   rintro _ _ _ ⟨rfl, rfl, rfl⟩
   refine XR.conv (σ' := [(18, ii r3)]) (h' := [(0, rc (encI .i64) a z0 y0 1)]) (c' := 1) ?_ (by kernel_rfl)
   refine rS 3 [(2, .bool (r3 == 1)), (3, ii 0)] ?_
   refine dQ ?_
   show XQ _ _ _ _ _ _ _ _
   refine XQ.ret (by kernel_rfl) ?_
   have h := Option.some.inj h
   subst h
   exact ⟨fun i q => (by cases q), .tuple #[.bool (r3 == 1), ii 0], (by kernel_rfl), rfl⟩
 | false =>
  have h := cF b1 h
  refine rS 4 [(0, s0 0 a.length), (4, ii r1), (13, .bool false)] ?_
  refine dQ ?_
  show XQ _ _ _ _ _ _ _ _
  refine iF (.tmp 13) ?_
  refine kQ ?_
  show XQ _ _ _ _ _ _ _ _
  refine sQ ?_
  refine qQ ?_
  refine rS 2 [(0, s0 0 a.length), (4, ii r1), (15, .bool (r1 != 0))] ?_
  refine dQ ?_
  show XQ _ _ _ _ _ _ _ _
  cases b4 : (r1 != 0 : Bool) with
  | true =>
   have h := cT b4 h
   refine iT (.tmp 15) ?_
   refine qQ ?_
   refine rS 3 [(2, .bool false), (3, ii r1)] ?_
   refine dQ ?_
   show XQ _ _ _ _ _ _ _ _
   refine XQ.ret (by kernel_rfl) ?_
   have h := Option.some.inj h
   subst h
   exact ⟨fun i q => (by cases q), .tuple #[.bool false, ii r1], (by kernel_rfl), rfl⟩
  | false =>
   have h := cF b4 h
   refine iF (.tmp 15) ?_
   refine kQ ?_
   show XQ _ _ _ _ _ _ _ _
   refine qQ ?_
   refine rS 1 [(17, s0 0 a.length)] ?_
   obtain ⟨r4, r4_h, h⟩ := bS h
   refine XR.call E0_ok [18] rfl (K := 73) (args := [s0 0 a.length]) (d := (some (path 12 18))) (by kernel_rfl) (KQ.call (KC.quiet E0_ok (args0 := [s0 0 a.length]) (h0 := [(0, rc (encI .i64) a (z0 + ((rowC (encI .i64) a).length + 1)) y0 1)]) (n := 1) (V := ii r4) [0] (f73_ok m m (z0 + ((rowC (encI .i64) a).length + 1)) y0 a r4 r4_h) rfl (by rfl) (by decide) rfl (by kernel_rfl) ⟨⟨_, _, rfl, rfl, .inl ⟨rfl, rwI⟩⟩, trivial⟩) rfl) ?_
   rintro _ _ _ ⟨rfl, rfl, rfl⟩
   refine XR.conv (σ' := [(18, ii r4)]) (h' := [(0, rc (encI .i64) a z0 y0 1)]) (c' := 1) ?_ (by kernel_rfl)
   refine rS 3 [(2, .bool (r4 == 1)), (3, ii 0)] ?_
   refine dQ ?_
   show XQ _ _ _ _ _ _ _ _
   refine XQ.ret (by kernel_rfl) ?_
   have h := Option.some.inj h
   subst h
   exact ⟨fun i q => (by cases q), .tuple #[.bool (r4 == 1), ii 0], (by kernel_rfl), rfl⟩
end Go.Xm
namespace Go.Xm
open Go.RowKit
set_option linter.unusedVariables false
set_option linter.unusedSimpArgs false
set_option maxRecDepth 20000
noncomputable def f25_C25 : Code := Proofs.Tryd.f25.body.getD .skip
noncomputable def f25_C39 : Code := Proofs.Tryd.f39.body.getD .skip
noncomputable def f25_L1 : Code := lft (lft (rgt (lft (rgt (rgt f25_C39)))))
inductive Of25_1 where
 | r
 | x0
def f25_1 (m : Nat) : Nat → Int → List (Int × Int) → Int → List (Int × Int) → Int → Option Of25_1
 | 0, _, _, _, _, _ => none
 | fuel + 1, a_Sorters, a_Tables, b_Sorters, b_Tables, x5_1 =>
  cond (decide (x5_1 < ((a_Tables.length : Nat) : Int))) (
   cond (inRow x5_1 a_Tables.length) (
    cond (inRow x5_1 b_Tables.length) (
     cond (!(((List.getD a_Tables (Int.toNat x5_1) (0, 0)).1) == ((List.getD b_Tables (Int.toNat x5_1) (0, 0)).1) && ((List.getD a_Tables (Int.toNat x5_1) (0, 0)).2) == ((List.getD b_Tables (Int.toNat x5_1) (0, 0)).2))) (
      some (.r)
     ) (
      f25_1 m fuel a_Sorters a_Tables b_Sorters b_Tables (w64 (x5_1 + 1))
     )
    ) none
   ) none
  ) (
   some (.x0)
  )
theorem f25_1_ok (m : Nat) : ∀ (fuel : Nat) (z0 : Nat) (y0 : Nat) (a_Sorters : Int) (a_Tables : List (Int × Int)) (z1 : Nat) (y1 : Nat) (b_Sorters : Int) (b_Tables : List (Int × Int)) (x5_1 : Int) (o : Of25_1), f25_1 m fuel a_Sorters a_Tables b_Sorters b_Tables x5_1 = some o → ∀ Q : QP, (match o with | .r => Q .ret [(4, .bool false)] [(3, .cells [ii b_Sorters, s0 1 b_Tables.length] 0 37 0), (2, .cells [ii a_Sorters, s0 0 a_Tables.length] 0 34 0), (1, rc encP b_Tables z1 y1 2), (0, rc encP a_Tables z0 y0 2)] 4 | .x0 => Q (.exit 0) [] [(3, .cells [ii b_Sorters, s0 1 b_Tables.length] 0 37 0), (2, .cells [ii a_Sorters, s0 0 a_Tables.length] 0 34 0), (1, rc encP b_Tables z1 y1 2), (0, rc encP a_Tables z0 y0 2)] 4) → XL E0 26 4 fuel f25_L1 [(0, s0 0 a_Tables.length), (1, s0 1 b_Tables.length), (5, ii x5_1)] [(3, .cells [ii b_Sorters, s0 1 b_Tables.length] 0 37 0), (2, .cells [ii a_Sorters, s0 0 a_Tables.length] 0 34 0), (1, rc encP b_Tables z1 y1 2), (0, rc encP a_Tables z0 y0 2)] 4 Q
 | 0, z0, y0, a_Sorters, a_Tables, z1, y1, b_Sorters, b_Tables, x5_1, o, h, Q, hQ => by cases h
 | fuel + 1, z0, y0, a_Sorters, a_Tables, z1, y1, b_Sorters, b_Tables, x5_1, o, h, Q, hQ => by
  unfold f25_1 at h
  refine XL.succ E0_ok ?_
  refine sQ ?_
  refine qQ ?_
  refine rS 4 [(0, s0 0 a_Tables.length), (1, s0 1 b_Tables.length), (5, ii x5_1), (14, .bool (decide (x5_1 < ((a_Tables.length : Nat) : Int))))] ?_
  refine dQ ?_
  show XQ _ _ _ _ _ _ _ _
  cases b1 : (decide (x5_1 < ((a_Tables.length : Nat) : Int)) : Bool) with
  | true =>
   have h := cT b1 h
   refine iT (.tmp 14) ?_
   refine kQ ?_
   show XQ _ _ _ _ _ _ _ _
   refine sQ ?_
   refine XQ.block (id := 1) (by kernel_rfl) ?_
   refine sQ ?_
   refine XQ.quiet E0_ok (by kernel_rfl) (by kernel_rfl) ?_
   refine XU.run E0_ok 1 2 [0, 1, 5, 17, 18] rfl (σ' := [(0, s0 0 a_Tables.length), (1, s0 1 b_Tables.length), (5, ii x5_1), (17, s0 0 a_Tables.length), (18, ii x5_1)]) (by kernel_rfl) ?_
   cases b2 : (inRow x5_1 a_Tables.length : Bool) with
   | false => cases (cF b2 h)
   | true =>
    have h := cT b2 h
    refine XU.rd E0_ok [0, 1, 5, 19] rfl (v := pp 0 ((Int.toNat x5_1) * 2)) (v_idx (s := 2) (x := (src 26 (.tmp 17))) (y := (src 26 (.tmp 18))) (b := 0) (o := 0) (len := a_Tables.length) (cap := a_Tables.length) (ik := .i64) (i := x5_1) (off := (Int.toNat x5_1) * 2) (d := (some (path 12 19))) (by kernel_rfl) (by kernel_rfl) (by kernel_rfl) b2 (by omega)) (σ' := [(0, s0 0 a_Tables.length), (1, s0 1 b_Tables.length), (5, ii x5_1), (19, pp 0 ((Int.toNat x5_1) * 2))]) (by kernel_rfl) ?_
    refine XU.rd E0_ok [0, 1, 5, 20] rfl (v := .agg #[ii ((List.getD a_Tables (Int.toNat x5_1) (0, 0)).1), ii ((List.getD a_Tables (Int.toNat x5_1) (0, 0)).2)]) (v_loadN encP_ok (x := (src 26 (.tmp 19))) (b := 0) (off := (Int.toNat x5_1) * 2) (xs := a_Tables) (fz := z0) (e := y0) (es := 2) (d := (some (path 12 20))) (by kernel_rfl) (by kernel_rfl) (by kernel_rfl) (Int.toNat x5_1) (0, 0) (by first | with_reducible rfl | omega | rfl) (row_len (inRow_toNat b2) (by simp)) rfl) (σ' := [(0, s0 0 a_Tables.length), (1, s0 1 b_Tables.length), (5, ii x5_1), (20, .agg #[ii ((List.getD a_Tables (Int.toNat x5_1) (0, 0)).1), ii ((List.getD a_Tables (Int.toNat x5_1) (0, 0)).2)])]) (by kernel_rfl) ?_
    refine XU.run E0_ok 1 2 [0, 1, 5, 20, 21, 22] rfl (σ' := [(0, s0 0 a_Tables.length), (1, s0 1 b_Tables.length), (5, ii x5_1), (20, .agg #[ii ((List.getD a_Tables (Int.toNat x5_1) (0, 0)).1), ii ((List.getD a_Tables (Int.toNat x5_1) (0, 0)).2)]), (21, s0 1 b_Tables.length), (22, ii x5_1)]) (by kernel_rfl) ?_
    cases b3 : (inRow x5_1 b_Tables.length : Bool) with
    | false => cases (cF b3 h)
    | true =>
     have h := cT b3 h
     refine XU.rd E0_ok [0, 1, 5, 20, 23] rfl (v := pp 1 ((Int.toNat x5_1) * 2)) (v_idx (s := 2) (x := (src 26 (.tmp 21))) (y := (src 26 (.tmp 22))) (b := 1) (o := 0) (len := b_Tables.length) (cap := b_Tables.length) (ik := .i64) (i := x5_1) (off := (Int.toNat x5_1) * 2) (d := (some (path 12 23))) (by kernel_rfl) (by kernel_rfl) (by kernel_rfl) b3 (by omega)) (σ' := [(0, s0 0 a_Tables.length), (1, s0 1 b_Tables.length), (5, ii x5_1), (20, .agg #[ii ((List.getD a_Tables (Int.toNat x5_1) (0, 0)).1), ii ((List.getD a_Tables (Int.toNat x5_1) (0, 0)).2)]), (23, pp 1 ((Int.toNat x5_1) * 2))]) (by kernel_rfl) ?_
     refine XU.rd E0_ok [0, 1, 5, 20, 24] rfl (v := .agg #[ii ((List.getD b_Tables (Int.toNat x5_1) (0, 0)).1), ii ((List.getD b_Tables (Int.toNat x5_1) (0, 0)).2)]) (v_loadN encP_ok (x := (src 26 (.tmp 23))) (b := 1) (off := (Int.toNat x5_1) * 2) (xs := b_Tables) (fz := z1) (e := y1) (es := 2) (d := (some (path 12 24))) (by kernel_rfl) (by kernel_rfl) (by kernel_rfl) (Int.toNat x5_1) (0, 0) (by first | with_reducible rfl | omega | rfl) (row_len (inRow_toNat b3) (by simp)) rfl) (σ' := [(0, s0 0 a_Tables.length), (1, s0 1 b_Tables.length), (5, ii x5_1), (20, .agg #[ii ((List.getD a_Tables (Int.toNat x5_1) (0, 0)).1), ii ((List.getD a_Tables (Int.toNat x5_1) (0, 0)).2)]), (24, .agg #[ii ((List.getD b_Tables (Int.toNat x5_1) (0, 0)).1), ii ((List.getD b_Tables (Int.toNat x5_1) (0, 0)).2)])]) (by kernel_rfl) ?_
     refine XU.run E0_ok 1 1 [0, 1, 5, 25] rfl (σ' := [(0, s0 0 a_Tables.length), (1, s0 1 b_Tables.length), (5, ii x5_1), (25, .bool (!(((List.getD a_Tables (Int.toNat x5_1) (0, 0)).1) == ((List.getD b_Tables (Int.toNat x5_1) (0, 0)).1) && ((List.getD a_Tables (Int.toNat x5_1) (0, 0)).2) == ((List.getD b_Tables (Int.toNat x5_1) (0, 0)).2))))]) (by kernel_rfl) ?_
     refine XU.done (by kernel_rfl) ?_
     show XQ _ _ _ _ _ _ _ _
     cases b4 : (!(((List.getD a_Tables (Int.toNat x5_1) (0, 0)).1) == ((List.getD b_Tables (Int.toNat x5_1) (0, 0)).1) && ((List.getD a_Tables (Int.toNat x5_1) (0, 0)).2) == ((List.getD b_Tables (Int.toNat x5_1) (0, 0)).2)) : Bool) with
     | true =>
      have h := cT b4 h
      refine iT (.tmp 25) ?_
      refine qQ ?_
      refine rS 1 [(4, .bool false)] ?_
      refine dQ ?_
      show XQ _ _ _ _ _ _ _ _
      refine XQ.ren (σ' := [(4, .bool false)]) (h' := [(3, .cells [ii b_Sorters, s0 1 b_Tables.length] 0 37 0), (2, .cells [ii a_Sorters, s0 0 a_Tables.length] 0 34 0), (1, rc encP b_Tables z1 y1 2), (0, rc encP a_Tables z0 y0 2)]) (c' := 4) [0, 1, 2, 3] (by decide) rfl ⟨rfl, trivial⟩ ⟨⟨_, _, rfl, rfl, .inr ⟨_, _, _, _, rfl, rfl⟩⟩, ⟨_, _, rfl, rfl, .inr ⟨_, _, _, _, rfl, rfl⟩⟩, ⟨_, _, rfl, rfl, .inl ⟨rfl, rwP⟩⟩, ⟨_, _, rfl, rfl, .inl ⟨rfl, rwP⟩⟩, trivial⟩ rfl ?_
      refine XQ.ret (by kernel_rfl) ?_
      cases h
      exact hQ
     | false =>
      have h := cF b4 h
      refine iF (.tmp 25) ?_
      refine kQ ?_
      show XQ _ _ _ _ _ _ _ _
      refine rQ ?_
      refine rS 3 [(0, s0 0 a_Tables.length), (1, s0 1 b_Tables.length), (5, ii (w64 (x5_1 + 1)))] ?_
      refine dQ ?_
      show XL _ _ _ _ _ _ _ _ _
      refine XL.ren (σ' := [(0, s0 0 a_Tables.length), (1, s0 1 b_Tables.length), (5, ii (w64 (x5_1 + 1)))]) (h' := [(3, .cells [ii b_Sorters, s0 1 b_Tables.length] 0 37 0), (2, .cells [ii a_Sorters, s0 0 a_Tables.length] 0 34 0), (1, rc encP b_Tables z1 y1 2), (0, rc encP a_Tables z0 y0 2)]) (c' := 4) [0, 1, 2, 3] (by decide) rfl ⟨rfl, rfl, rfl, trivial⟩ ⟨⟨_, _, rfl, rfl, .inr ⟨_, _, _, _, rfl, rfl⟩⟩, ⟨_, _, rfl, rfl, .inr ⟨_, _, _, _, rfl, rfl⟩⟩, ⟨_, _, rfl, rfl, .inl ⟨rfl, rwP⟩⟩, ⟨_, _, rfl, rfl, .inl ⟨rfl, rwP⟩⟩, trivial⟩ rfl ?_
      refine XL.conv (f25_1_ok m fuel z0 y0 a_Sorters a_Tables z1 y1 b_Sorters b_Tables (w64 (x5_1 + 1)) o h Q hQ) (by first | with_reducible rfl | simp | rfl)
  | false =>
   have h := cF b1 h
   refine iF (.tmp 14) ?_
   refine XQ.ren (σ' := []) (h' := [(3, .cells [ii b_Sorters, s0 1 b_Tables.length] 0 37 0), (2, .cells [ii a_Sorters, s0 0 a_Tables.length] 0 34 0), (1, rc encP b_Tables z1 y1 2), (0, rc encP a_Tables z0 y0 2)]) (c' := 4) [0, 1, 2, 3] (by decide) rfl trivial ⟨⟨_, _, rfl, rfl, .inr ⟨_, _, _, _, rfl, rfl⟩⟩, ⟨_, _, rfl, rfl, .inr ⟨_, _, _, _, rfl, rfl⟩⟩, ⟨_, _, rfl, rfl, .inl ⟨rfl, rwP⟩⟩, ⟨_, _, rfl, rfl, .inl ⟨rfl, rwP⟩⟩, trivial⟩ rfl ?_
   refine XQ.exit (i := 0) (by kernel_rfl) ?_
   cases h
   exact hQ
def f25 (m : Nat) (a_Sorters : Int) (a_Tables : List (Int × Int)) (b_Sorters : Int) (b_Tables : List (Int × Int)) : Option (Bool) :=
 cond (a_Sorters == b_Sorters) (
  cond (((a_Tables.length : Nat) : Int) != ((b_Tables.length : Nat) : Int)) (
   some (false)
  ) (
   (f25_1 m m a_Sorters a_Tables b_Sorters b_Tables 0).bind fun o1 =>
    match o1 with
    | .r =>
     some (false)
    | .x0 =>
     some (true)
  )
 ) (
  some (false)
 )
theorem f25_ok (m : Nat) (z0 : Nat) (y0 : Nat) (z1 : Nat) (y1 : Nat) (a_Sorters : Int) (a_Tables : List (Int × Int)) (b_Sorters : Int) (b_Tables : List (Int × Int)) (o : Bool) (h : f25 m a_Sorters a_Tables b_Sorters b_Tables = some o) : KC E0 25 [.agg #[ii a_Sorters, s0 0 a_Tables.length], .agg #[ii b_Sorters, s0 1 b_Tables.length]] [(1, rc encP b_Tables z1 y1 2), (0, rc encP a_Tables z0 y0 2)] 2 (fun v _ _ => v = .bool o) := by
 refine KC.bodyN E0_ok (F := Proofs.Tryd.f25) (by kernel_rfl) (code := f25_C25) (by kernel_rfl) (nt := 17) (by kernel_rfl) (rs := [.tmp 4]) (by kernel_rfl) (by kernel_rfl) (σ := [(0, .agg #[ii a_Sorters, s0 0 a_Tables.length]), (1, .agg #[ii b_Sorters, s0 1 b_Tables.length])]) (by kernel_rfl) ?_
 unfold f25 at h
 refine qQ ?_
 refine rT 3 [(2, pp 2 0), (3, pp 3 0)] [(3, .cells [ii b_Sorters, s0 1 b_Tables.length] 0 37 0), (2, .cells [ii a_Sorters, s0 0 a_Tables.length] 0 34 0), (1, rc encP b_Tables z1 y1 2), (0, rc encP a_Tables z0 y0 2)] 4 ?_
 refine nQ id ?_
 refine rS 6 [(2, pp 2 0), (3, pp 3 0), (10, .bool (a_Sorters == b_Sorters))] ?_
 cases b1 : (a_Sorters == b_Sorters : Bool) with
 | true =>
  have h := cT b1 h
  refine rS 4 [(10, .bool true), (12, s0 0 a_Tables.length), (14, s0 1 b_Tables.length)] ?_
  refine XR.callK E0_ok [10, 15] rfl (K := 39) (args := [s0 0 a_Tables.length, s0 1 b_Tables.length]) (d := (some (path 12 15))) (by kernel_rfl) ?_
  refine KC.bodyN E0_ok (F := Proofs.Tryd.f39) (by kernel_rfl) (code := f25_C39) (by kernel_rfl) (nt := 26) (by kernel_rfl) (rs := [.tmp 4]) (by kernel_rfl) (by kernel_rfl) (σ := [(0, s0 0 a_Tables.length), (1, s0 1 b_Tables.length)]) (by kernel_rfl) ?_
  refine qQ ?_
  refine rS 1 [(0, s0 0 a_Tables.length), (1, s0 1 b_Tables.length)] ?_
  refine dQ ?_
  show XQ _ _ _ _ _ _ _ _
  refine sQ ?_
  refine qQ ?_
  refine rS 5 [(0, s0 0 a_Tables.length), (1, s0 1 b_Tables.length), (10, .bool (((a_Tables.length : Nat) : Int) != ((b_Tables.length : Nat) : Int)))] ?_
  refine dQ ?_
  show XQ _ _ _ _ _ _ _ _
  cases b2 : (((a_Tables.length : Nat) : Int) != ((b_Tables.length : Nat) : Int) : Bool) with
  | true =>
   have h := cT b2 h
   refine iT (.tmp 10) ?_
   refine qQ ?_
   refine rS 1 [(4, .bool false)] ?_
   refine dQ ?_
   show XQ _ _ _ _ _ _ _ _
   refine XQ.ret (by kernel_rfl) ?_
   refine ⟨fun i q => (by cases q), .bool false, (by kernel_rfl), ?_⟩
   refine XR.conv (σ' := [(10, .bool true), (15, .bool false)]) (h' := [(3, .cells [ii b_Sorters, s0 1 b_Tables.length] 0 37 0), (2, .cells [ii a_Sorters, s0 0 a_Tables.length] 0 34 0), (1, rc encP b_Tables z1 y1 2), (0, rc encP a_Tables z0 y0 2)]) (c' := 4) ?_ (by kernel_rfl)
   refine rS 2 [(4, .bool false)] ?_
   refine dQ ?_
   show XQ _ _ _ _ _ _ _ _
   refine XQ.ret (by kernel_rfl) ?_
   have h := Option.some.inj h
   subst h
   exact ⟨fun i q => (by cases q), .bool false, (by kernel_rfl), rfl⟩
  | false =>
   have h := cF b2 h
   refine iF (.tmp 10) ?_
   refine kQ ?_
   show XQ _ _ _ _ _ _ _ _
   refine sQ ?_
   refine qQ ?_
   refine rS 1 [(0, s0 0 a_Tables.length), (1, s0 1 b_Tables.length), (5, ii 0)] ?_
   refine dQ ?_
   show XQ _ _ _ _ _ _ _ _
   refine XQ.block (id := 0) (by kernel_rfl) ?_
   refine XQ.loop m (by kernel_rfl) ?_
   obtain ⟨o1, o1_h, h⟩ := bS h
   refine XL.ren (σ' := [(0, s0 0 a_Tables.length), (1, s0 1 b_Tables.length), (5, ii 0)]) (h' := [(3, .cells [ii b_Sorters, s0 1 b_Tables.length] 0 37 0), (2, .cells [ii a_Sorters, s0 0 a_Tables.length] 0 34 0), (1, rc encP b_Tables z1 y1 2), (0, rc encP a_Tables z0 y0 2)]) (c' := 4) [0, 1, 2, 3] (by decide) rfl ⟨rfl, rfl, rfl, trivial⟩ ⟨⟨_, _, rfl, rfl, .inr ⟨_, _, _, _, rfl, rfl⟩⟩, ⟨_, _, rfl, rfl, .inr ⟨_, _, _, _, rfl, rfl⟩⟩, ⟨_, _, rfl, rfl, .inl ⟨rfl, rwP⟩⟩, ⟨_, _, rfl, rfl, .inl ⟨rfl, rwP⟩⟩, trivial⟩ rfl ?_
   cases o1 with
   | r =>
    dsimp only at h
    refine XL.conv (f25_1_ok m m z0 y0 a_Sorters a_Tables z1 y1 b_Sorters b_Tables 0 (.r) o1_h _ ?_) (by first | with_reducible rfl | simp | rfl)
    refine ⟨fun i q => (by cases q), .bool false, (by kernel_rfl), ?_⟩
    refine XR.conv (σ' := [(10, .bool true), (15, .bool false)]) (h' := [(3, .cells [ii b_Sorters, s0 1 b_Tables.length] 0 37 0), (2, .cells [ii a_Sorters, s0 0 a_Tables.length] 0 34 0), (1, rc encP b_Tables z1 y1 2), (0, rc encP a_Tables z0 y0 2)]) (c' := 4) ?_ (by kernel_rfl)
    refine rS 2 [(4, .bool false)] ?_
    refine dQ ?_
    show XQ _ _ _ _ _ _ _ _
    refine XQ.ret (by kernel_rfl) ?_
    have h := Option.some.inj h
    subst h
    exact ⟨fun i q => (by cases q), .bool false, (by kernel_rfl), rfl⟩
   | x0 =>
    dsimp only at h
    refine XL.conv (f25_1_ok m m z0 y0 a_Sorters a_Tables z1 y1 b_Sorters b_Tables 0 (.x0) o1_h _ ?_) (by first | with_reducible rfl | simp | rfl)
    show XQ _ _ _ _ _ _ _ _
    refine qQ ?_
    refine rS 1 [(4, .bool true)] ?_
    refine dQ ?_
    show XQ _ _ _ _ _ _ _ _
    refine XQ.ret (by kernel_rfl) ?_
    refine ⟨fun i q => (by cases q), .bool true, (by kernel_rfl), ?_⟩
    refine XR.conv (σ' := [(10, .bool true), (15, .bool true)]) (h' := [(3, .cells [ii b_Sorters, s0 1 b_Tables.length] 0 37 0), (2, .cells [ii a_Sorters, s0 0 a_Tables.length] 0 34 0), (1, rc encP b_Tables z1 y1 2), (0, rc encP a_Tables z0 y0 2)]) (c' := 4) ?_ (by kernel_rfl)
    refine rS 2 [(4, .bool true)] ?_
    refine dQ ?_
    show XQ _ _ _ _ _ _ _ _
    refine XQ.ret (by kernel_rfl) ?_
    have h := Option.some.inj h
    subst h
    exact ⟨fun i q => (by cases q), .bool true, (by kernel_rfl), rfl⟩
 | false =>
  have h := cF b1 h
  refine rS 7 [(4, .bool false)] ?_
  refine dQ ?_
  show XQ _ _ _ _ _ _ _ _
  refine XQ.ret (by kernel_rfl) ?_
  have h := Option.some.inj h
  subst h
  exact ⟨fun i q => (by cases q), .bool false, (by kernel_rfl), rfl⟩
noncomputable def f4_C4 : Code := Proofs.Tryd.f4.body.getD .skip
def f4 (m : Nat) (a : List Int) : Option (Bool) :=
 cond (decide (((a.length : Nat) : Int) > 60)) (
  some (true)
 ) (
  (f23 m a).bind fun r1 =>
   (f24 m a).bind fun r2 =>
    (f25 m r1.1 r1.2.1 r2.1 r2.2.1).bind fun r3 =>
     cond (!r3) (
      some (false)
     ) (
      cond (r1.2.2 != r2.2.2) (
       some (false)
      ) (
       cond (((a.length : Nat) : Int) == 8) (
        some (true)
       ) (
        (f26 m a).bind fun r4 =>
         (f27 m a).bind fun r5 =>
          (f28 m a).bind fun r6 =>
           (f29 m a).bind fun r7 =>
            cond (r4.1 == r5.1) (
             cond (r4.2 == r5.2) (
              cond (r6.1 == r7.1) (
               cond (r6.2 == r7.2) (
                some (true)
               ) (
                some (false)
               )
              ) (
               some (false)
              )
             ) (
              some (false)
             )
            ) (
             some (false)
            )
       )
      )
     )
 )
theorem f4_ok (m : Nat) (z0 : Nat) (y0 : Nat) (a : List Int) (o : Bool) (h : f4 m a = some o) : KC E0 4 [s0 0 a.length] [(0, rc (encI .i64) a z0 y0 1)] 1 (fun v _ _ => v = .bool o) := by
 refine KC.bodyN E0_ok (F := Proofs.Tryd.f4) (by kernel_rfl) (code := f4_C4) (by kernel_rfl) (nt := 81) (by kernel_rfl) (rs := [.tmp 2]) (by kernel_rfl) (by kernel_rfl) (σ := [(0, s0 0 a.length)]) (by kernel_rfl) ?_
 unfold f4 at h
 refine qQ ?_
 refine rS 1 [(0, s0 0 a.length)] ?_
 refine dQ ?_
 show XQ _ _ _ _ _ _ _ _
 refine sQ ?_
 refine qQ ?_
 refine rS 3 [(0, s0 0 a.length), (15, .bool (decide (((a.length : Nat) : Int) > 60)))] ?_
 refine dQ ?_
 show XQ _ _ _ _ _ _ _ _
 cases b1 : (decide (((a.length : Nat) : Int) > 60) : Bool) with
 | true =>
  have h := cT b1 h
  refine iT (.tmp 15) ?_
  refine qQ ?_
  refine XR.call E0_ok [16] rfl (K := 14) (args := []) (d := (some (path 12 16))) (by kernel_rfl) (KC.of_calls E0_ok (F := Proofs.Tryd.f14) (v := .bool true) (by kernel_rfl) rfl rfl (works_ok)) ?_
  rintro _ _ _ ⟨rfl, rfl, rfl⟩
  refine XR.conv (σ' := [(16, .bool true)]) (h' := [(0, rc (encI .i64) a z0 y0 1)]) (c' := 1) ?_ (by kernel_rfl)
  refine rS 1 [(2, .bool true)] ?_
  refine dQ ?_
  show XQ _ _ _ _ _ _ _ _
  refine XQ.ret (by kernel_rfl) ?_
  have h := Option.some.inj h
  subst h
  exact ⟨fun i q => (by cases q), .bool true, (by kernel_rfl), rfl⟩
 | false =>
  have h := cF b1 h
  refine iF (.tmp 15) ?_
  refine kQ ?_
  show XQ _ _ _ _ _ _ _ _
  refine qQ ?_
  refine rS 1 [(0, s0 0 a.length), (18, s0 0 a.length)] ?_
  obtain ⟨r1, r1_h, h⟩ := bS h
  refine XR.call E0_ok [0, 19] rfl (K := 23) (args := [s0 0 a.length]) (d := (some (path 12 19))) (by kernel_rfl) (KC.liftH (n0 := 1) (m := 1) (args0 := [s0 0 a.length]) (h0 := [(0, rc (encI .i64) a (z0 + ((rowC (encI .i64) a).length + 1)) y0 1)]) (V := .tuple #[.agg #[ii r1.1, s0 1 r1.2.1.length], ii r1.2.2]) (V2 := .tuple #[.agg #[ii r1.1, s0 1 r1.2.1.length], ii r1.2.2]) (H := [(1, rc encP r1.2.1 0 55 2)]) (H2 := [(1, rc encP r1.2.1 0 55 2)]) [0] [2, 1] (f23_ok m (z0 + ((rowC (encI .i64) a).length + 1)) y0 a r1 r1_h) (by rfl) (by decide) rfl (by kernel_rfl) ⟨⟨_, _, rfl, rfl, .inl ⟨rfl, rwI⟩⟩, trivial⟩ (by decide) (by decide) (by kernel_rfl) ⟨⟨_, _, rfl, rfl, .inl ⟨rfl, rwP⟩⟩, trivial⟩ (by rfl)) ?_
  rintro _ _ _ ⟨rfl, rfl, rfl⟩
  refine XR.conv (σ' := [(0, s0 0 a.length), (19, .tuple #[.agg #[ii r1.1, s0 1 r1.2.1.length], ii r1.2.2])]) (h' := [(1, rc encP r1.2.1 0 55 2), (0, rc (encI .i64) a z0 y0 1)]) (c' := 2) ?_ (by kernel_rfl)
  refine rT 6 [(0, s0 0 a.length), (3, pp 2 0), (4, ii r1.2.2)] [(2, .cells [ii r1.1, s0 1 r1.2.1.length] 0 34 0), (1, rc encP r1.2.1 0 55 2), (0, rc (encI .i64) a z0 y0 1)] 3 ?_
  refine nQ id ?_
  refine rS 1 [(0, s0 0 a.length), (3, pp 2 0), (4, ii r1.2.2), (23, s0 0 a.length)] ?_
  obtain ⟨r2, r2_h, h⟩ := bS h
  refine XR.call E0_ok [0, 3, 4, 24] rfl (K := 24) (args := [s0 0 a.length]) (d := (some (path 12 24))) (by kernel_rfl) (KC.liftH (n0 := 1) (m := 1) (args0 := [s0 0 a.length]) (h0 := [(0, rc (encI .i64) a (z0 + ((rowC (encI .i64) a).length + 1)) y0 1)]) (V := .tuple #[.agg #[ii r2.1, s0 1 r2.2.1.length], ii r2.2.2]) (V2 := .tuple #[.agg #[ii r2.1, s0 3 r2.2.1.length], ii r2.2.2]) (H := [(1, rc encP r2.2.1 0 55 2)]) (H2 := [(3, rc encP r2.2.1 0 55 2)]) [0] [2, 3, 4, 1] (f24_ok m (z0 + ((rowC (encI .i64) a).length + 1)) y0 a r2 r2_h) (by rfl) (by decide) rfl (by kernel_rfl) ⟨⟨_, _, rfl, rfl, .inl ⟨rfl, rwI⟩⟩, trivial⟩ (by decide) (by decide) (by kernel_rfl) ⟨⟨_, _, rfl, rfl, .inl ⟨rfl, rwP⟩⟩, trivial⟩ (by rfl)) ?_
  rintro _ _ _ ⟨rfl, rfl, rfl⟩
  refine XR.conv (σ' := [(0, s0 0 a.length), (3, pp 2 0), (4, ii r1.2.2), (24, .tuple #[.agg #[ii r2.1, s0 3 r2.2.1.length], ii r2.2.2])]) (h' := [(3, rc encP r2.2.1 0 55 2), (2, .cells [ii r1.1, s0 1 r1.2.1.length] 0 34 0), (1, rc encP r1.2.1 0 55 2), (0, rc (encI .i64) a z0 y0 1)]) (c' := 4) ?_ (by kernel_rfl)
  refine rT 6 [(0, s0 0 a.length), (3, pp 2 0), (4, ii r1.2.2), (5, pp 4 0), (6, ii r2.2.2)] [(4, .cells [ii r2.1, s0 3 r2.2.1.length] 0 37 0), (3, rc encP r2.2.1 0 55 2), (2, .cells [ii r1.1, s0 1 r1.2.1.length] 0 34 0), (1, rc encP r1.2.1 0 55 2), (0, rc (encI .i64) a z0 y0 1)] 5 ?_
  refine dQ ?_
  show XQ _ _ _ _ _ _ _ _
  refine sQ ?_
  refine qQ ?_
  refine rS 2 [(0, s0 0 a.length), (4, ii r1.2.2), (6, ii r2.2.2), (27, .agg #[ii r1.1, s0 1 r1.2.1.length]), (28, .agg #[ii r2.1, s0 3 r2.2.1.length])] ?_
  obtain ⟨r3, r3_h, h⟩ := bS h
  refine XR.call E0_ok [0, 4, 6, 29] rfl (K := 25) (args := [.agg #[ii r1.1, s0 1 r1.2.1.length], .agg #[ii r2.1, s0 3 r2.2.1.length]]) (d := (some (path 12 29))) (by kernel_rfl) (KQ.call (KC.quiet E0_ok (args0 := [.agg #[ii r1.1, s0 0 r1.2.1.length], .agg #[ii r2.1, s0 1 r2.2.1.length]]) (h0 := [(1, rc encP r2.2.1 (0 + ((rowC encP r2.2.1).length + 1)) 55 2), (0, rc encP r1.2.1 (0 + ((rowC encP r1.2.1).length + 1)) 55 2)]) (n := 2) (V := .bool r3) [1, 3] (f25_ok m (0 + ((rowC encP r1.2.1).length + 1)) 55 (0 + ((rowC encP r2.2.1).length + 1)) 55 r1.1 r1.2.1 r2.1 r2.2.1 r3 r3_h) rfl (by rfl) (by decide) rfl (by kernel_rfl) ⟨⟨_, _, rfl, rfl, .inl ⟨rfl, rwP⟩⟩, ⟨_, _, rfl, rfl, .inl ⟨rfl, rwP⟩⟩, trivial⟩) rfl) ?_
  rintro _ _ _ ⟨rfl, rfl, rfl⟩
  refine XR.conv (σ' := [(0, s0 0 a.length), (4, ii r1.2.2), (6, ii r2.2.2), (29, .bool r3)]) (h' := [(4, .cells [ii r2.1, s0 3 r2.2.1.length] 0 37 0), (3, rc encP r2.2.1 0 55 2), (2, .cells [ii r1.1, s0 1 r1.2.1.length] 0 34 0), (1, rc encP r1.2.1 0 55 2), (0, rc (encI .i64) a z0 y0 1)]) (c' := 5) ?_ (by kernel_rfl)
  refine rS 2 [(0, s0 0 a.length), (4, ii r1.2.2), (6, ii r2.2.2), (31, .bool (!r3))] ?_
  cases b2 : (!r3 : Bool) with
  | true =>
   have h := cT b2 h
   refine rS 4 [(0, s0 0 a.length), (35, .bool true)] ?_
   refine dQ ?_
   show XQ _ _ _ _ _ _ _ _
   refine iT (.tmp 35) ?_
   refine qQ ?_
   refine rS 1 [(2, .bool false)] ?_
   refine dQ ?_
   show XQ _ _ _ _ _ _ _ _
   refine XQ.ret (by kernel_rfl) ?_
   have h := Option.some.inj h
   subst h
   exact ⟨fun i q => (by cases q), .bool false, (by kernel_rfl), rfl⟩
  | false =>
   have h := cF b2 h
   refine rS 4 [(0, s0 0 a.length), (35, .bool (r1.2.2 != r2.2.2))] ?_
   refine dQ ?_
   show XQ _ _ _ _ _ _ _ _
   cases b3 : (r1.2.2 != r2.2.2 : Bool) with
   | true =>
    have h := cT b3 h
    refine iT (.tmp 35) ?_
    refine qQ ?_
    refine rS 1 [(2, .bool false)] ?_
    refine dQ ?_
    show XQ _ _ _ _ _ _ _ _
    refine XQ.ret (by kernel_rfl) ?_
    have h := Option.some.inj h
    subst h
    exact ⟨fun i q => (by cases q), .bool false, (by kernel_rfl), rfl⟩
   | false =>
    have h := cF b3 h
    refine iF (.tmp 35) ?_
    refine kQ ?_
    show XQ _ _ _ _ _ _ _ _
    refine sQ ?_
    refine qQ ?_
    refine rS 3 [(0, s0 0 a.length), (38, .bool (((a.length : Nat) : Int) == 8))] ?_
    refine dQ ?_
    show XQ _ _ _ _ _ _ _ _
    cases b4 : (((a.length : Nat) : Int) == 8 : Bool) with
    | true =>
     have h := cT b4 h
     refine iT (.tmp 38) ?_
     refine qQ ?_
     refine XR.call E0_ok [39] rfl (K := 14) (args := []) (d := (some (path 12 39))) (by kernel_rfl) (KC.of_calls E0_ok (F := Proofs.Tryd.f14) (v := .bool true) (by kernel_rfl) rfl rfl (works_ok)) ?_
     rintro _ _ _ ⟨rfl, rfl, rfl⟩
     refine XR.conv (σ' := [(39, .bool true)]) (h' := [(4, .cells [ii r2.1, s0 3 r2.2.1.length] 0 37 0), (3, rc encP r2.2.1 0 55 2), (2, .cells [ii r1.1, s0 1 r1.2.1.length] 0 34 0), (1, rc encP r1.2.1 0 55 2), (0, rc (encI .i64) a z0 y0 1)]) (c' := 5) ?_ (by kernel_rfl)
     refine rS 1 [(2, .bool true)] ?_
     refine dQ ?_
     show XQ _ _ _ _ _ _ _ _
     refine XQ.ret (by kernel_rfl) ?_
     have h := Option.some.inj h
     subst h
     exact ⟨fun i q => (by cases q), .bool true, (by kernel_rfl), rfl⟩
    | false =>
     have h := cF b4 h
     refine iF (.tmp 38) ?_
     refine kQ ?_
     show XQ _ _ _ _ _ _ _ _
     refine qQ ?_
     refine rS 1 [(0, s0 0 a.length), (41, s0 0 a.length)] ?_
     obtain ⟨r4, r4_h, h⟩ := bS h
     refine XR.call E0_ok [0, 42] rfl (K := 26) (args := [s0 0 a.length]) (d := (some (path 12 42))) (by kernel_rfl) (KQ.call (KC.quiet E0_ok (args0 := [s0 0 a.length]) (h0 := [(0, rc (encI .i64) a (z0 + ((rowC (encI .i64) a).length + 1)) y0 1)]) (n := 1) (V := .tuple #[ii r4.1, ii r4.2]) [0] (f26_ok m (z0 + ((rowC (encI .i64) a).length + 1)) y0 a r4 r4_h) rfl (by rfl) (by decide) rfl (by kernel_rfl) ⟨⟨_, _, rfl, rfl, .inl ⟨rfl, rwI⟩⟩, trivial⟩) rfl) ?_
     rintro _ _ _ ⟨rfl, rfl, rfl⟩
     refine XR.conv (σ' := [(0, s0 0 a.length), (42, .tuple #[ii r4.1, ii r4.2])]) (h' := [(4, .cells [ii r2.1, s0 3 r2.2.1.length] 0 37 0), (3, rc encP r2.2.1 0 55 2), (2, .cells [ii r1.1, s0 1 r1.2.1.length] 0 34 0), (1, rc encP r1.2.1 0 55 2), (0, rc (encI .i64) a z0 y0 1)]) (c' := 5) ?_ (by kernel_rfl)
     refine rS 5 [(0, s0 0 a.length), (7, ii r4.1), (8, ii r4.2)] ?_
     refine nQ id ?_
     refine rS 1 [(0, s0 0 a.length), (7, ii r4.1), (8, ii r4.2), (46, s0 0 a.length)] ?_
     obtain ⟨r5, r5_h, h⟩ := bS h
     refine XR.call E0_ok [0, 7, 8, 47] rfl (K := 27) (args := [s0 0 a.length]) (d := (some (path 12 47))) (by kernel_rfl) (KQ.call (KC.quiet E0_ok (args0 := [s0 0 a.length]) (h0 := [(0, rc (encI .i64) a (z0 + ((rowC (encI .i64) a).length + 1)) y0 1)]) (n := 1) (V := .tuple #[ii r5.1, ii r5.2]) [0] (f27_ok m (z0 + ((rowC (encI .i64) a).length + 1)) y0 a r5 r5_h) rfl (by rfl) (by decide) rfl (by kernel_rfl) ⟨⟨_, _, rfl, rfl, .inl ⟨rfl, rwI⟩⟩, trivial⟩) rfl) ?_
     rintro _ _ _ ⟨rfl, rfl, rfl⟩
     refine XR.conv (σ' := [(0, s0 0 a.length), (7, ii r4.1), (8, ii r4.2), (47, .tuple #[ii r5.1, ii r5.2])]) (h' := [(4, .cells [ii r2.1, s0 3 r2.2.1.length] 0 37 0), (3, rc encP r2.2.1 0 55 2), (2, .cells [ii r1.1, s0 1 r1.2.1.length] 0 34 0), (1, rc encP r1.2.1 0 55 2), (0, rc (encI .i64) a z0 y0 1)]) (c' := 5) ?_ (by kernel_rfl)
     refine rS 5 [(0, s0 0 a.length), (7, ii r4.1), (8, ii r4.2), (9, ii r5.1), (10, ii r5.2)] ?_
     refine nQ id ?_
     refine rS 1 [(0, s0 0 a.length), (7, ii r4.1), (8, ii r4.2), (9, ii r5.1), (10, ii r5.2), (51, s0 0 a.length)] ?_
     obtain ⟨r6, r6_h, h⟩ := bS h
     refine XR.call E0_ok [0, 7, 8, 9, 10, 52] rfl (K := 28) (args := [s0 0 a.length]) (d := (some (path 12 52))) (by kernel_rfl) (KQ.call (KC.quiet E0_ok (args0 := [s0 0 a.length]) (h0 := [(0, rc (encI .i64) a (z0 + ((rowC (encI .i64) a).length + 1)) y0 1)]) (n := 1) (V := .tuple #[.bool r6.1, ii r6.2]) [0] (f28_ok m (z0 + ((rowC (encI .i64) a).length + 1)) y0 a r6 r6_h) rfl (by rfl) (by decide) rfl (by kernel_rfl) ⟨⟨_, _, rfl, rfl, .inl ⟨rfl, rwI⟩⟩, trivial⟩) rfl) ?_
     rintro _ _ _ ⟨rfl, rfl, rfl⟩
     refine XR.conv (σ' := [(0, s0 0 a.length), (7, ii r4.1), (8, ii r4.2), (9, ii r5.1), (10, ii r5.2), (52, .tuple #[.bool r6.1, ii r6.2])]) (h' := [(4, .cells [ii r2.1, s0 3 r2.2.1.length] 0 37 0), (3, rc encP r2.2.1 0 55 2), (2, .cells [ii r1.1, s0 1 r1.2.1.length] 0 34 0), (1, rc encP r1.2.1 0 55 2), (0, rc (encI .i64) a z0 y0 1)]) (c' := 5) ?_ (by kernel_rfl)
     refine rS 5 [(0, s0 0 a.length), (4, ii r6.2), (7, ii r4.1), (8, ii r4.2), (9, ii r5.1), (10, ii r5.2), (11, .bool r6.1)] ?_
     refine nQ id ?_
     refine rS 1 [(4, ii r6.2), (7, ii r4.1), (8, ii r4.2), (9, ii r5.1), (10, ii r5.2), (11, .bool r6.1), (56, s0 0 a.length)] ?_
     obtain ⟨r7, r7_h, h⟩ := bS h
     refine XR.call E0_ok [4, 7, 8, 9, 10, 11, 57] rfl (K := 29) (args := [s0 0 a.length]) (d := (some (path 12 57))) (by kernel_rfl) (KQ.call (KC.quiet E0_ok (args0 := [s0 0 a.length]) (h0 := [(0, rc (encI .i64) a (z0 + ((rowC (encI .i64) a).length + 1)) y0 1)]) (n := 1) (V := .tuple #[.bool r7.1, ii r7.2]) [0] (f29_ok m (z0 + ((rowC (encI .i64) a).length + 1)) y0 a r7 r7_h) rfl (by rfl) (by decide) rfl (by kernel_rfl) ⟨⟨_, _, rfl, rfl, .inl ⟨rfl, rwI⟩⟩, trivial⟩) rfl) ?_
     rintro _ _ _ ⟨rfl, rfl, rfl⟩
     refine XR.conv (σ' := [(4, ii r6.2), (7, ii r4.1), (8, ii r4.2), (9, ii r5.1), (10, ii r5.2), (11, .bool r6.1), (57, .tuple #[.bool r7.1, ii r7.2])]) (h' := [(4, .cells [ii r2.1, s0 3 r2.2.1.length] 0 37 0), (3, rc encP r2.2.1 0 55 2), (2, .cells [ii r1.1, s0 1 r1.2.1.length] 0 34 0), (1, rc encP r1.2.1 0 55 2), (0, rc (encI .i64) a z0 y0 1)]) (c' := 5) ?_ (by kernel_rfl)
     refine rS 5 [(4, ii r6.2), (6, ii r7.2), (7, ii r4.1), (8, ii r4.2), (9, ii r5.1), (10, ii r5.2), (11, .bool r6.1), (12, .bool r7.1)] ?_
     refine nQ id ?_
     refine rS 4 [(4, ii r6.2), (6, ii r7.2), (8, ii r4.2), (10, ii r5.2), (11, .bool r6.1), (12, .bool r7.1), (63, .bool (r4.1 == r5.1))] ?_
     cases b5 : (r4.1 == r5.1 : Bool) with
     | true =>
      have h := cT b5 h
      refine rS 5 [(4, ii r6.2), (6, ii r7.2), (11, .bool r6.1), (12, .bool r7.1), (68, .bool (r4.2 == r5.2))] ?_
      cases b6 : (r4.2 == r5.2 : Bool) with
      | true =>
       have h := cT b6 h
       refine rS 5 [(4, ii r6.2), (6, ii r7.2), (73, .bool (r6.1 == r7.1))] ?_
       cases b7 : (r6.1 == r7.1 : Bool) with
       | true =>
        have h := cT b7 h
        refine rS 5 [(78, .bool (r6.2 == r7.2))] ?_
        cases b8 : (r6.2 == r7.2 : Bool) with
        | true =>
         have h := cT b8 h
         refine XR.call E0_ok [78, 79] rfl (K := 14) (args := []) (d := (some (path 12 79))) (by kernel_rfl) (KC.of_calls E0_ok (F := Proofs.Tryd.f14) (v := .bool true) (by kernel_rfl) rfl rfl (works_ok)) ?_
         rintro _ _ _ ⟨rfl, rfl, rfl⟩
         refine XR.conv (σ' := [(78, .bool true), (79, .bool true)]) (h' := [(4, .cells [ii r2.1, s0 3 r2.2.1.length] 0 37 0), (3, rc encP r2.2.1 0 55 2), (2, .cells [ii r1.1, s0 1 r1.2.1.length] 0 34 0), (1, rc encP r1.2.1 0 55 2), (0, rc (encI .i64) a z0 y0 1)]) (c' := 5) ?_ (by kernel_rfl)
         refine rS 2 [(2, .bool true)] ?_
         refine dQ ?_
         show XQ _ _ _ _ _ _ _ _
         refine XQ.ret (by kernel_rfl) ?_
         have h := Option.some.inj h
         subst h
         exact ⟨fun i q => (by cases q), .bool true, (by kernel_rfl), rfl⟩
        | false =>
         have h := cF b8 h
         refine rS 3 [(2, .bool false)] ?_
         refine dQ ?_
         show XQ _ _ _ _ _ _ _ _
         refine XQ.ret (by kernel_rfl) ?_
         have h := Option.some.inj h
         subst h
         exact ⟨fun i q => (by cases q), .bool false, (by kernel_rfl), rfl⟩
       | false =>
        have h := cF b7 h
        refine rS 8 [(2, .bool false)] ?_
        refine dQ ?_
        show XQ _ _ _ _ _ _ _ _
        refine XQ.ret (by kernel_rfl) ?_
        have h := Option.some.inj h
        subst h
        exact ⟨fun i q => (by cases q), .bool false, (by kernel_rfl), rfl⟩
      | false =>
       have h := cF b6 h
       refine rS 13 [(2, .bool false)] ?_
       refine dQ ?_
       show XQ _ _ _ _ _ _ _ _
       refine XQ.ret (by kernel_rfl) ?_
       have h := Option.some.inj h
       subst h
       exact ⟨fun i q => (by cases q), .bool false, (by kernel_rfl), rfl⟩
     | false =>
      have h := cF b5 h
      refine rS 18 [(2, .bool false)] ?_
      refine dQ ?_
      show XQ _ _ _ _ _ _ _ _
      refine XQ.ret (by kernel_rfl) ?_
      have h := Option.some.inj h
      subst h
      exact ⟨fun i q => (by cases q), .bool false, (by kernel_rfl), rfl⟩
end Go.Xm
