/- What these functions of the program compute, as functions in Lean, and the proofs that they do: vitolalaw05.different. Conditions: none. -/
import Derived.Test.YtagagpkjlkoieaaPa
namespace Go.Xm
open Go.RowKit
set_option linter.unusedVariables false
set_option linter.unusedSimpArgs false
set_option maxRecDepth 20000

/-! vitola/vitolalaw05.different -/
noncomputable def f47_C47 : Code := Proofs.Try.f47.body.getD .skip
noncomputable def f47_L1 : Code := lft (lft (rgt (lft (rgt (rgt f47_C47)))))

def f47_1 (m : Nat) : Nat → Int → Int → Int → Int → List (Int × Bool) → Option Int
 | 0, _, _, _, _, _ => none
 | fuel + 1, a, b, x5_1, x6_1, mh0_1 =>
  cond (!(getM false mh0_1 x6_1)) (
   cond (a != 0) (
    f47_1 m fuel a b (w64 (x5_1 + 1)) (Int.tmod (w64 (x6_1 + b)) a) (putM mh0_1 x6_1 true)
   ) none
  ) (
   some (x5_1)
  )

theorem f47_1_ok (m : Nat) : ∀ (fuel : Nat) (a : Int) (b : Int) (x5_1 : Int) (x6_1 : Int) (mh0_1 : List (Int × Bool)) (o : Int), f47_1 m fuel a b x5_1 x6_1 mh0_1 = some o → ∀ Q : QP, Q (.exit 0) [(5, ii o)] [] 0 → XL E0 23 0 fuel f47_L1 [(0, ii a), (1, ii b), (5, ii x5_1), (6, ii x6_1), (7, .map (some 0))] [(0, .imap (imC Value.bool mh0_1))] 1 Q
 | 0, a, b, x5_1, x6_1, mh0_1, o, h, Q, hQ => by cases h
 | fuel + 1, a, b, x5_1, x6_1, mh0_1, o, h, Q, hQ => by
  unfold f47_1 at h
  refine XL.succ E0_ok ?_
  refine XQ.seq E0_ok (by kernel_rfl) ?_
  refine XQ.seq E0_ok (by kernel_rfl) ?_
  refine XQ.region (by kernel_rfl) ?_
  refine XR.runS E0_ok 1 2 [(0, ii a), (1, ii b), (5, ii x5_1), (6, ii x6_1), (7, .map (some 0)), (9, .map (some 0)), (10, ii x6_1)] rfl (by kernel_rfl) ?_
  refine XR.rd E0_ok [0, 1, 5, 6, 7, 11] rfl (v := .bool (getM false mh0_1 x6_1)) (v_mget Value.bool (x := (src 23 (.tmp 9))) (i := (src 23 (.tmp 10))) (z := .bool false) (d := (some (path 12 11))) (b := 0) (k := x6_1) (l := mh0_1) (d0 := false) (by kernel_rfl) (by kernel_rfl) (by kernel_rfl) (by kernel_rfl) rfl rfl rfl) (σ' := [(0, ii a), (1, ii b), (5, ii x5_1), (6, ii x6_1), (7, .map (some 0)), (11, .bool (getM false mh0_1 x6_1))]) (by kernel_rfl) ?_
  refine XR.runS E0_ok 1 1 [(0, ii a), (1, ii b), (5, ii x5_1), (6, ii x6_1), (7, .map (some 0)), (12, .bool (!(getM false mh0_1 x6_1)))] rfl (by kernel_rfl) ?_
  refine XR.done (by kernel_rfl) ?_
  show XQ _ _ _ _ _ _ _ _
  cases b1 : (!(getM false mh0_1 x6_1) : Bool) with
  | true =>
   have h := cT b1 h
   refine XQ.cond (s := (.tmp 12)) (b := true) (by kernel_rfl) (by kernel_rfl) (fun _ => ?_) (fun q => by cases q)
   refine XQ.skip (by kernel_rfl) ?_
   show XQ _ _ _ _ _ _ _ _
   refine XQ.seq E0_ok (by kernel_rfl) ?_
   refine XQ.block (id := 1) (by kernel_rfl) ?_
   refine XQ.seq E0_ok (by kernel_rfl) ?_
   refine XQ.region (by kernel_rfl) ?_
   refine XR.runS E0_ok 1 2 [(0, ii a), (1, ii b), (5, ii x5_1), (6, ii x6_1), (7, .map (some 0)), (18, .map (some 0)), (19, ii x6_1)] rfl (by kernel_rfl) ?_
   refine XR.ef E0_ok [0, 1, 5, 6, 7] rfl (e_mput Value.bool (m := (src 23 (.tmp 18))) (i := (src 23 (.tmp 19))) (x := (src 23 (.const (.bool true)))) (d := none) (b := 0) (k := x6_1) (l := mh0_1) (a := true) (h' := [(0, .imap (imC Value.bool (putM mh0_1 x6_1 true)))]) (by kernel_rfl) (by kernel_rfl) (by kernel_rfl) (by kernel_rfl) (by kernel_rfl) rfl rfl) (σ' := [(0, ii a), (1, ii b), (5, ii x5_1), (6, ii x6_1), (7, .map (some 0))]) (by kernel_rfl) ?_
   refine XR.done (by kernel_rfl) ?_
   show XQ _ _ _ _ _ _ _ _
   refine XQ.region (by kernel_rfl) ?_
   refine XR.runS E0_ok 1 3 [(0, ii a), (1, ii b), (5, ii (w64 (x5_1 + 1))), (6, ii x6_1), (7, .map (some 0))] rfl (by kernel_rfl) ?_
   refine XR.done (by kernel_rfl) ?_
   show XQ _ _ _ _ _ _ _ _
   refine XQ.region (by kernel_rfl) ?_
   refine XR.runS E0_ok 1 4 [(0, ii a), (1, ii b), (5, ii (w64 (x5_1 + 1))), (7, .map (some 0)), (15, ii (w64 (x6_1 + b))), (16, ii a)] rfl (by kernel_rfl) ?_
   cases b2 : (a != 0 : Bool) with
   | false => cases (cF b2 h)
   | true =>
    have h := cT b2 h
    have e3 : insV (headI ((gsOf E0 23 (opsOf (rgt (rgt f47_L1)))).drop 4) (trS 23 [(0, ii a), (1, ii b), (5, ii (w64 (x5_1 + 1))), (7, .map (some 0)), (15, ii (w64 (x6_1 + b))), (16, ii a)])) (trS 23 [(0, ii a), (1, ii b), (5, ii (w64 (x5_1 + 1))), (7, .map (some 0)), (15, ii (w64 (x6_1 + b))), (16, ii a)]) [(0, .imap (imC Value.bool (putM mh0_1 x6_1 true)))] = (match (a != 0 : Bool) with | true => some (ii (Int.tmod (w64 (x6_1 + b)) a)) | false => none) := by kernel_rfl
    refine XR.rd E0_ok [0, 1, 5, 7, 17] rfl (e3.trans (by rw [b2])) (σ' := [(0, ii a), (1, ii b), (5, ii (w64 (x5_1 + 1))), (7, .map (some 0)), (17, ii (Int.tmod (w64 (x6_1 + b)) a))]) (by kernel_rfl) ?_
    refine XR.runS E0_ok 1 1 [(0, ii a), (1, ii b), (5, ii (w64 (x5_1 + 1))), (6, ii (Int.tmod (w64 (x6_1 + b)) a)), (7, .map (some 0))] rfl (by kernel_rfl) ?_
    refine XR.done (by kernel_rfl) ?_
    show XL _ _ _ _ _ _ _ _ _
    refine XL.ren (σ' := [(0, ii a), (1, ii b), (5, ii (w64 (x5_1 + 1))), (6, ii (Int.tmod (w64 (x6_1 + b)) a)), (7, .map (some 0))]) (h' := [(0, .imap (imC Value.bool (putM mh0_1 x6_1 true)))]) (c' := 1) [0] (by decide) rfl ⟨by kernel_rfl, by kernel_rfl, by kernel_rfl, by kernel_rfl, by kernel_rfl, trivial⟩ ⟨⟨_, _, rfl, rfl, .inl ⟨rfl, trivial⟩⟩, trivial⟩ rfl ?_
    refine XL.conv (f47_1_ok m fuel a b (w64 (x5_1 + 1)) (Int.tmod (w64 (x6_1 + b)) a) (putM mh0_1 x6_1 true) o h Q hQ) (by first | rfl | simp)
  | false =>
   have h := cF b1 h
   refine XQ.cond (s := (.tmp 12)) (b := false) (by kernel_rfl) (by kernel_rfl) (fun q => by cases q) (fun _ => ?_)
   refine XQ.ren (σ' := [(5, ii x5_1)]) (h' := []) (c' := 0) [] (by decide) rfl ⟨by kernel_rfl, trivial⟩ trivial rfl ?_
   refine XQ.exit (i := 0) (by kernel_rfl) ?_
   cases h
   exact hQ

def f47 (m : Nat) (a : Int) (b : Int) : Option (Int) :=
 (f47_1 m m a b 0 0 []).bind fun o1 =>
  some (o1)

theorem f47_ok (m : Nat) (a : Int) (b : Int) (o : Int) (h : f47 m a b = some o) (w : World) (hI : anyInv w) : Calls Proofs.Try.prog 47 #[ii a, ii b] w fun e w' => e = .returned (ii o) ∧ Below w.heap.size w w' := by
 refine KC.calls (E := E0) (args := [ii a, ii b]) (v := ii o) rfl rfl (KC.bodyN E0_ok (F := Proofs.Try.f47) (by kernel_rfl) (code := f47_C47) (by kernel_rfl) (nt := 23) (by kernel_rfl) (rs := [.tmp 4]) (by kernel_rfl) (by kernel_rfl) (σ := [(0, ii a), (1, ii b)]) (by kernel_rfl) ?_) w (anyInv_size hI) hI
 unfold f47 at h
 refine XQ.seq E0_ok (by kernel_rfl) ?_
 refine XQ.region (by kernel_rfl) ?_
 refine XR.runS E0_ok 1 1 [(0, ii a), (1, ii b)] rfl (by kernel_rfl) ?_
 refine XR.done (by kernel_rfl) ?_
 show XQ _ _ _ _ _ _ _ _
 refine XQ.seq E0_ok (by kernel_rfl) ?_
 refine XQ.region (by kernel_rfl) ?_
 refine XR.runS E0_ok 1 1 [(0, ii a), (1, ii b), (5, ii 0)] rfl (by kernel_rfl) ?_
 refine XR.done (by kernel_rfl) ?_
 show XQ _ _ _ _ _ _ _ _
 refine XQ.seq E0_ok (by kernel_rfl) ?_
 refine XQ.seq E0_ok (by kernel_rfl) ?_
 refine XQ.region (by kernel_rfl) ?_
 refine XR.runT E0_ok 1 3 [(0, ii a), (1, ii b), (5, ii 0), (6, ii 0), (7, .map (some 0))] [(0, .imap (imC Value.bool []))] 1 rfl (by kernel_rfl) ?_
 refine XR.done (by kernel_rfl) ?_
 show XQ _ _ _ _ _ _ _ _
 refine XQ.block (id := 0) (by kernel_rfl) ?_
 refine XQ.loop m (by kernel_rfl) ?_
 obtain ⟨o1, o1_h, h⟩ := bS h
 refine XL.ren (σ' := [(0, ii a), (1, ii b), (5, ii 0), (6, ii 0), (7, .map (some 0))]) (h' := [(0, .imap (imC Value.bool []))]) (c' := 1) [0] (by decide) rfl ⟨by kernel_rfl, by kernel_rfl, by kernel_rfl, by kernel_rfl, by kernel_rfl, trivial⟩ ⟨⟨_, _, rfl, rfl, .inl ⟨rfl, trivial⟩⟩, trivial⟩ rfl ?_
 refine XL.conv (f47_1_ok m m a b 0 0 [] o1 o1_h _ ?_) (by first | rfl | simp)
 show XQ _ _ _ _ _ _ _ _
 refine XQ.seq E0_ok (by kernel_rfl) ?_
 refine XQ.region (by kernel_rfl) ?_
 refine XR.runS E0_ok 1 2 [(4, ii o1)] rfl (by kernel_rfl) ?_
 refine XR.done (by kernel_rfl) ?_
 show XQ _ _ _ _ _ _ _ _
 refine XQ.ret (by kernel_rfl) ?_
 have h := Option.some.inj h
 subst h
 exact ⟨fun i q => (by cases q), ii o1, (by kernel_rfl), rfl⟩

end Go.Xm
