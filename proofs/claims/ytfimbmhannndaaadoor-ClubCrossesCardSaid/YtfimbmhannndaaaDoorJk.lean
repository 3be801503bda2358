/- Cross of club where the plan and the numbers are fine. Plain Lean. Conditions: none. -/
import Derived.Test.YtfimbmhannndaaaDoorJi
namespace Go.Xm
set_option linter.unusedVariables false
set_option linter.unusedSimpArgs false
set_option maxRecDepth 20000

theorem f30_fine (m : Nat) (hm : 1001 ≤ m) (k : Nat) (h8 : k ≤ 8) (T : List (Int × Int)) (hl : T.length ≤ 60) (b c : Nat) (d : Bool) (h : cpR (k : Int) T = 0) (hb : b < T.length) (hc : c < T.length) :
    f30 m (k : Int) T (b : Int) (c : Int) d = some (crossR k T b c (T.getD b (0, 0)) (T.getD c (0, 0)) (cond d (T.getD c (0, 0)).2 (T.getD c (0, 0)).1) (cond d (T.getD c (0, 0)).1 (T.getD c (0, 0)).2)) := by
  have hb1 : 0 ≤ (b : Int) ∧ (b : Int) ≤ (T.length : Int) - 1 := by omega
  have hc1 : 0 ≤ (c : Int) ∧ (c : Int) ≤ (T.length : Int) - 1 := by omega
  obtain ⟨a, e, ta, tb, ka, ke, n1⟩ := tab_of h hb
  obtain ⟨p, q, tc, td, kp, kq, n2⟩ := tab_of h hc
  rcases f74_eq m hm (k : Int) T (by omega) with ⟨w, _⟩ | ⟨_, k', r, hk, k1, k8, R, w⟩
  · exact absurd h w
  have hkk : k = k' := by omega
  subst hkk
  have ga : gT T (b : Int) = ((a : Int), (e : Int)) := ta
  have gc : gT T (c : Int) = ((p : Int), (q : Int)) := tc
  have hL : cond d (List.set (List.set [(p : Int), (q : Int)] 0 (q : Int)) 1 (p : Int)) [(p : Int), (q : Int)] = [((cond d q p : Nat) : Int), ((cond d p q : Nat) : Int)] := by cases d <;> rfl
  have hu : cond d (q : Int) (p : Int) = ((cond d q p : Nat) : Int) := by cases d <;> rfl
  have hv : cond d (p : Int) (q : Int) = ((cond d p q : Nat) : Int) := by cases d <;> rfl
  have hs : (cond d q p = q ∧ cond d p q = p) ∨ (cond d q p = p ∧ cond d p q = q) := by cases d <;> simp
  have hcut : cutOK 0 ((2 : Nat) : Int) ((2 : Nat) : Int) 2 = true := rfl
  rw [ta, tc]
  unfold f30
  rw [w, in65, in65, w64i (by omega) (by omega), dcT hb1, dcT hc1, inR hb, inR hc, ga, gc]
  dsimp only
  rw [hu, hv]
  generalize cond d q p = u at hL hs
  generalize cond d p q = v at hL hs
  simp only [Option.bind_some, Bool.not_true, cond_true, cond_false, bne_self_eq_false, f75_two m hm, hcut, hL]
  unfold crossR
  dsimp only
  cases q1 : ((a : Int) == (p : Int)) with
  | true => rfl
  | false =>
    cases q2 : ((a : Int) == (q : Int)) with
    | true => rfl
    | false =>
      cases q3 : ((e : Int) == (p : Int)) with
      | true => rfl
      | false =>
        cases q4 : ((e : Int) == (q : Int)) with
        | true => rfl
        | false =>
          rw [beqN, decide_eq_false_iff_not] at q1 q2 q3 q4
          have hlr : (toI r).length = k := by rw [toI_len]; exact R.len
          have ku : u < k := by omega
          have kv : v < k := by omega
          have bit : ∀ x y : Nat, x < k → y < k → (andV .u64 (shV false .u64 (List.getD (toI r) x 0) (y : Int)) 1 == 1) = hasB (x : Int) (y : Int) T := fun x y hx hy => by
            rw [getD_toI, (tabX_ok (getD_lt R.lt x) (show y < 8 by omega)).2.1, R.bit x hx y]
          show cond (inRow (a : Int) (toI r).length) (cond (decide (0 ≤ (u : Int))) (cond (andV .u64 (shV false .u64 (List.getD (toI r) a 0) (u : Int)) 1 == 1) (some (0, [], 6)) (cond (inRow (e : Int) (toI r).length) (cond (decide (0 ≤ (v : Int))) (cond (andV .u64 (shV false .u64 (List.getD (toI r) e 0) (v : Int)) 1 == 1) (some (0, [], 6)) _) none) none)) none) none = _
          rw [hlr, inR ka, inR ke, dcT (show (0 : Int) ≤ (u : Int) by omega), dcT (show (0 : Int) ≤ (v : Int) by omega), bit a u ka ku, bit e v ke kv]
          cases h1 : hasB (a : Int) (u : Int) T with
          | true => rfl
          | false =>
            cases h2 : hasB (e : Int) (v : Int) T with
            | true => rfl
            | false =>
              have lt1 := fl_lt R.lt (show a < 8 by omega) (show u < 8 by omega)
              have lt2 := fl_lt lt1 (show e < 8 by omega) (show v < 8 by omega)
              have lt3 := fl_lt lt2 (show a < 8 by omega) (show e < 8 by omega)
              have lt4 := fl_lt lt3 (show u < 8 by omega) (show v < 8 by omega)
              have hl2 : (toI (fl (fl r a u) e v)).length = k := by rw [toI_len, fl_len, fl_len]; exact R.len
              have hl4 : (fl (fl (fl (fl r a u) e v) a e) u v).length = k := by rw [fl_len, fl_len, fl_len, fl_len]; exact R.len
              show ((f30_1 m m T 0 (toI r) [(a : Int), (e : Int)] [(u : Int), (v : Int)]).bind _) = _
              rw [f30_1_two m hm T h8 R.len R.lt ka ke ku kv]
              show cond (inRow (a : Int) (toI (fl (fl r a u) e v)).length) (cond (decide (0 ≤ (e : Int))) (cond (inRow (e : Int) (toI (fl (fl r a u) e v)).length) (cond (decide (0 ≤ (a : Int))) (cond (inRow (u : Int) (toI (fl (fl r a u) e v)).length) (cond (decide (0 ≤ (v : Int))) (cond (inRow (v : Int) (toI (fl (fl r a u) e v)).length) (cond (decide (0 ≤ (u : Int))) ((f78 m (sB (sB (sB (sB (toI (fl (fl r a u) e v)) (a : Int) (e : Int)) (e : Int) (a : Int)) (u : Int) (v : Int)) (v : Int) (u : Int))).bind _) none) none) none) none) none) none) none) none = _
              rw [hl2, inR ka, inR ke, inR ku, inR kv, dcT (show (0 : Int) ≤ (u : Int) by omega), dcT (show (0 : Int) ≤ (v : Int) by omega), dcT (show (0 : Int) ≤ (a : Int) by omega), dcT (show (0 : Int) ≤ (e : Int) by omega), sB_fl lt2 (by omega) (by omega), sB_fl lt3 (by omega) (by omega)]
              show ((f78 m (toI (fl (fl (fl (fl r a u) e v) a e) u v))).bind _) = _
              rw [f78_eq m hm _ (by omega) lt4, hl4]
              have hx := exch R (ck_of h) tb td (u := u) (v := v) (by
                rcases hs with ⟨s1, s2⟩ | ⟨s1, s2⟩
                · right; rw [s1, s2]
                · left; rw [s1, s2]) ka ke ku kv n1 (by omega) (by omega) (by omega) (by omega) (by omega) h1 h2
              rw [allP_congr hx k 0 (by omega)]
              rfl

end Go.Xm
