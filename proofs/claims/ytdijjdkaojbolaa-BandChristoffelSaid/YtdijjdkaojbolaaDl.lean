/- What these functions of the program compute, as functions in Lean, and the proofs that they do: vitolaref08.made, band.Make, vitolaref08.Make. Conditions: the library's variable MaxLen holds some int. -/
import Derived.Test.YtdijjdkaojbolaaDa
namespace Go.Xm
open Go.RowKit
set_option linter.unusedVariables false
set_option linter.unusedSimpArgs false

/-! vitola/vitolaref08.made -/
noncomputable def f56_C56 : Code := Proofs.Try.f56.body.getD .skip
noncomputable def f56_L1 : Code := lft (lft (rgt (lft (rgt (rgt f56_C56)))))

def f56_1 (m : Nat) : Nat → Int → Int → ByteArray → Int → Option ByteArray
  | 0, _, _, _, _ => none
  | fuel + 1, a, b, s5_1, x6_1 =>
    cond (decide (x6_1 < a)) (
      cond (a != 0) (
        cond ((w64 (Int.tdiv (w64 ((w64 (x6_1 + 1)) * b)) a)) != (w64 (Int.tdiv (w64 (x6_1 * b)) a))) (
          cond (Nat.ble (s5_1.size + (bs [98]).size) 9223372036854775807) (
            f56_1 m fuel a b (catS s5_1 (bs [98])) (w64 (x6_1 + 1))
          ) none
        ) (
          cond (Nat.ble (s5_1.size + (bs [97]).size) 9223372036854775807) (
            f56_1 m fuel a b (catS s5_1 (bs [97])) (w64 (x6_1 + 1))
          ) none
        )
      ) none
    ) (
      some (s5_1)
    )

theorem f56_1_ok (m : Nat) : ∀ (fuel : Nat) (a : Int) (b : Int) (s5_1 : ByteArray) (x6_1 : Int) (o : ByteArray), f56_1 m fuel a b s5_1 x6_1 = some o → ∀ Q : QP, Q (.exit 0) [(5, .string o)] [] 0 → XL E0 29 0 fuel f56_L1 [(0, .int .i64 a), (1, .int .i64 b), (5, .string s5_1), (6, .int .i64 x6_1)] [] 0 Q
  | 0, a, b, s5_1, x6_1, o, h, Q, hQ => by cases h
  | fuel + 1, a, b, s5_1, x6_1, o, h, Q, hQ => by
    unfold f56_1 at h
    refine XL.succ E0_ok ?_
    refine XQ.seq E0_ok (by kernel_rfl) ?_
    refine XQ.seq E0_ok (by kernel_rfl) ?_
    refine XQ.region (by kernel_rfl) ?_
    refine XR.run E0_ok 1 3 [0, 1, 5, 6, 9] rfl (σ' := [(0, .int .i64 a), (1, .int .i64 b), (5, .string s5_1), (6, .int .i64 x6_1), (9, .bool (decide (x6_1 < a)))]) (h' := []) (c' := 0) (by kernel_rfl) ?_
    refine XR.done (by kernel_rfl) ?_
    show XQ _ _ _ _ _ _ _ _
    cases b1 : (decide (x6_1 < a) : Bool) with
    | true =>
      have h := cT b1 h
      refine XQ.cond (s := (.tmp 9)) (b := true) (by kernel_rfl) (by kernel_rfl) (fun _ => ?_) (fun q => by cases q)
      refine XQ.skip (by kernel_rfl) ?_
      show XQ _ _ _ _ _ _ _ _
      refine XQ.seq E0_ok (by kernel_rfl) ?_
      refine XQ.block (id := 1) (by kernel_rfl) ?_
      refine XQ.seq E0_ok (by kernel_rfl) ?_
      refine XQ.quiet E0_ok (by kernel_rfl) (by kernel_rfl) ?_
      refine XU.run E0_ok 1 5 [0, 1, 5, 6, 15, 16] rfl (σ' := [(0, .int .i64 a), (1, .int .i64 b), (5, .string s5_1), (6, .int .i64 x6_1), (15, .int .i64 (w64 ((w64 (x6_1 + 1)) * b))), (16, .int .i64 a)]) (by kernel_rfl) ?_
      cases b2 : (a != 0 : Bool) with
      | false => cases (cF b2 h)
      | true =>
        have h := cT b2 h
        have e3 : insV (headI ((gsOf E0 29 (opsOf (lft (lft (lft (rgt f56_L1)))))).drop 5) (trS 29 [(0, .int .i64 a), (1, .int .i64 b), (5, .string s5_1), (6, .int .i64 x6_1), (15, .int .i64 (w64 ((w64 (x6_1 + 1)) * b))), (16, .int .i64 a)])) (trS 29 [(0, .int .i64 a), (1, .int .i64 b), (5, .string s5_1), (6, .int .i64 x6_1), (15, .int .i64 (w64 ((w64 (x6_1 + 1)) * b))), (16, .int .i64 a)]) [] = (match (a != 0 : Bool) with | true => some (.int .i64 (w64 (Int.tdiv (w64 ((w64 (x6_1 + 1)) * b)) a))) | false => none) := by kernel_rfl
        refine XU.rd E0_ok [0, 1, 5, 6, 17] rfl (e3.trans (by rw [b2])) (σ' := [(0, .int .i64 a), (1, .int .i64 b), (5, .string s5_1), (6, .int .i64 x6_1), (17, .int .i64 (w64 (Int.tdiv (w64 ((w64 (x6_1 + 1)) * b)) a)))]) (by kernel_rfl) ?_
        refine XU.run E0_ok 1 4 [0, 1, 5, 6, 17, 20, 21] rfl (σ' := [(0, .int .i64 a), (1, .int .i64 b), (5, .string s5_1), (6, .int .i64 x6_1), (17, .int .i64 (w64 (Int.tdiv (w64 ((w64 (x6_1 + 1)) * b)) a))), (20, .int .i64 (w64 (x6_1 * b))), (21, .int .i64 a)]) (by kernel_rfl) ?_
        have e4 : insV (headI ((gsOf E0 29 (opsOf (lft (lft (lft (rgt f56_L1)))))).drop 10) (trS 29 [(0, .int .i64 a), (1, .int .i64 b), (5, .string s5_1), (6, .int .i64 x6_1), (17, .int .i64 (w64 (Int.tdiv (w64 ((w64 (x6_1 + 1)) * b)) a))), (20, .int .i64 (w64 (x6_1 * b))), (21, .int .i64 a)])) (trS 29 [(0, .int .i64 a), (1, .int .i64 b), (5, .string s5_1), (6, .int .i64 x6_1), (17, .int .i64 (w64 (Int.tdiv (w64 ((w64 (x6_1 + 1)) * b)) a))), (20, .int .i64 (w64 (x6_1 * b))), (21, .int .i64 a)]) [] = (match (a != 0 : Bool) with | true => some (.int .i64 (w64 (Int.tdiv (w64 (x6_1 * b)) a))) | false => none) := by kernel_rfl
        refine XU.rd E0_ok [0, 1, 5, 6, 17, 22] rfl (e4.trans (by rw [b2])) (σ' := [(0, .int .i64 a), (1, .int .i64 b), (5, .string s5_1), (6, .int .i64 x6_1), (17, .int .i64 (w64 (Int.tdiv (w64 ((w64 (x6_1 + 1)) * b)) a))), (22, .int .i64 (w64 (Int.tdiv (w64 (x6_1 * b)) a)))]) (by kernel_rfl) ?_
        refine XU.run E0_ok 1 1 [0, 1, 5, 6, 23] rfl (σ' := [(0, .int .i64 a), (1, .int .i64 b), (5, .string s5_1), (6, .int .i64 x6_1), (23, .bool ((w64 (Int.tdiv (w64 ((w64 (x6_1 + 1)) * b)) a)) != (w64 (Int.tdiv (w64 (x6_1 * b)) a))))]) (by kernel_rfl) ?_
        refine XU.done (by kernel_rfl) ?_
        show XQ _ _ _ _ _ _ _ _
        cases b5 : ((w64 (Int.tdiv (w64 ((w64 (x6_1 + 1)) * b)) a)) != (w64 (Int.tdiv (w64 (x6_1 * b)) a)) : Bool) with
        | true =>
          have h := cT b5 h
          refine XQ.cond (s := (.tmp 23)) (b := true) (by kernel_rfl) (by kernel_rfl) (fun _ => ?_) (fun q => by cases q)
          refine XQ.region (by kernel_rfl) ?_
          refine XR.run E0_ok 1 1 [0, 1, 6, 24] rfl (σ' := [(0, .int .i64 a), (1, .int .i64 b), (6, .int .i64 x6_1), (24, .string s5_1)]) (h' := []) (c' := 0) (by kernel_rfl) ?_
          cases b6 : (Nat.ble (s5_1.size + (bs [98]).size) 9223372036854775807 : Bool) with
          | false => cases (cF b6 h)
          | true =>
            have h := cT b6 h
            have e7 : insV (headI ((gsOf E0 29 (opsOf (lft (rgt (lft (lft (rgt f56_L1))))))).drop 1) (trS 29 [(0, .int .i64 a), (1, .int .i64 b), (6, .int .i64 x6_1), (24, .string s5_1)])) (trS 29 [(0, .int .i64 a), (1, .int .i64 b), (6, .int .i64 x6_1), (24, .string s5_1)]) [] = (match (Nat.ble (s5_1.size + (bs [98]).size) 9223372036854775807 : Bool) with | true => some (.string (catS s5_1 (bs [98]))) | false => none) := by kernel_rfl
            refine XR.rd E0_ok [0, 1, 6, 25] rfl (e7.trans (by rw [b6])) (σ' := [(0, .int .i64 a), (1, .int .i64 b), (6, .int .i64 x6_1), (25, .string (catS s5_1 (bs [98])))]) (by kernel_rfl) ?_
            refine XR.run E0_ok 1 1 [0, 1, 5, 6] rfl (σ' := [(0, .int .i64 a), (1, .int .i64 b), (5, .string (catS s5_1 (bs [98]))), (6, .int .i64 x6_1)]) (h' := []) (c' := 0) (by kernel_rfl) ?_
            refine XR.done (by kernel_rfl) ?_
            show XQ _ _ _ _ _ _ _ _
            refine XQ.region (by kernel_rfl) ?_
            refine XR.run E0_ok 1 3 [0, 1, 5, 6] rfl (σ' := [(0, .int .i64 a), (1, .int .i64 b), (5, .string (catS s5_1 (bs [98]))), (6, .int .i64 (w64 (x6_1 + 1)))]) (h' := []) (c' := 0) (by kernel_rfl) ?_
            refine XR.done (by kernel_rfl) ?_
            show XL _ _ _ _ _ _ _ _ _
            refine XL.ren (σ' := [(0, .int .i64 a), (1, .int .i64 b), (5, .string (catS s5_1 (bs [98]))), (6, .int .i64 (w64 (x6_1 + 1)))]) (h' := []) (c' := 0) [] (by decide) rfl ⟨by kernel_rfl, by kernel_rfl, by kernel_rfl, by kernel_rfl, trivial⟩ trivial rfl ?_
            refine XL.conv (f56_1_ok m fuel a b (catS s5_1 (bs [98])) (w64 (x6_1 + 1)) o h Q hQ) (by first | rfl | simp)
        | false =>
          have h := cF b5 h
          refine XQ.cond (s := (.tmp 23)) (b := false) (by kernel_rfl) (by kernel_rfl) (fun q => by cases q) (fun _ => ?_)
          refine XQ.region (by kernel_rfl) ?_
          refine XR.run E0_ok 1 1 [0, 1, 6, 26] rfl (σ' := [(0, .int .i64 a), (1, .int .i64 b), (6, .int .i64 x6_1), (26, .string s5_1)]) (h' := []) (c' := 0) (by kernel_rfl) ?_
          cases b8 : (Nat.ble (s5_1.size + (bs [97]).size) 9223372036854775807 : Bool) with
          | false => cases (cF b8 h)
          | true =>
            have h := cT b8 h
            have e9 : insV (headI ((gsOf E0 29 (opsOf (rgt (rgt (lft (lft (rgt f56_L1))))))).drop 1) (trS 29 [(0, .int .i64 a), (1, .int .i64 b), (6, .int .i64 x6_1), (26, .string s5_1)])) (trS 29 [(0, .int .i64 a), (1, .int .i64 b), (6, .int .i64 x6_1), (26, .string s5_1)]) [] = (match (Nat.ble (s5_1.size + (bs [97]).size) 9223372036854775807 : Bool) with | true => some (.string (catS s5_1 (bs [97]))) | false => none) := by kernel_rfl
            refine XR.rd E0_ok [0, 1, 6, 27] rfl (e9.trans (by rw [b8])) (σ' := [(0, .int .i64 a), (1, .int .i64 b), (6, .int .i64 x6_1), (27, .string (catS s5_1 (bs [97])))]) (by kernel_rfl) ?_
            refine XR.run E0_ok 1 1 [0, 1, 5, 6] rfl (σ' := [(0, .int .i64 a), (1, .int .i64 b), (5, .string (catS s5_1 (bs [97]))), (6, .int .i64 x6_1)]) (h' := []) (c' := 0) (by kernel_rfl) ?_
            refine XR.done (by kernel_rfl) ?_
            show XQ _ _ _ _ _ _ _ _
            refine XQ.region (by kernel_rfl) ?_
            refine XR.run E0_ok 1 3 [0, 1, 5, 6] rfl (σ' := [(0, .int .i64 a), (1, .int .i64 b), (5, .string (catS s5_1 (bs [97]))), (6, .int .i64 (w64 (x6_1 + 1)))]) (h' := []) (c' := 0) (by kernel_rfl) ?_
            refine XR.done (by kernel_rfl) ?_
            show XL _ _ _ _ _ _ _ _ _
            refine XL.ren (σ' := [(0, .int .i64 a), (1, .int .i64 b), (5, .string (catS s5_1 (bs [97]))), (6, .int .i64 (w64 (x6_1 + 1)))]) (h' := []) (c' := 0) [] (by decide) rfl ⟨by kernel_rfl, by kernel_rfl, by kernel_rfl, by kernel_rfl, trivial⟩ trivial rfl ?_
            refine XL.conv (f56_1_ok m fuel a b (catS s5_1 (bs [97])) (w64 (x6_1 + 1)) o h Q hQ) (by first | rfl | simp)
    | false =>
      have h := cF b1 h
      refine XQ.cond (s := (.tmp 9)) (b := false) (by kernel_rfl) (by kernel_rfl) (fun q => by cases q) (fun _ => ?_)
      refine XQ.ren (σ' := [(5, .string s5_1)]) (h' := []) (c' := 0) [] (by decide) rfl ⟨by kernel_rfl, trivial⟩ trivial rfl ?_
      refine XQ.exit (i := 0) (by kernel_rfl) ?_
      cases h
      exact hQ

def f56 (m : Nat) (a : Int) (b : Int) : Option (ByteArray) :=
  (f56_1 m m a b (bs []) 0).bind fun o1 =>
    some (o1)

theorem f56_ok (m : Nat) (a : Int) (b : Int) (o : ByteArray) (h : f56 m a b = some o) (w : World) (hI : maxInv w) : Calls Proofs.Try.prog 56 #[.int .i64 a, .int .i64 b] w fun e w' => e = .returned (.string o) ∧ Below w.heap.size w w' := by
  refine KC.calls (E := E0) (args := [.int .i64 a, .int .i64 b]) (v := .string o) rfl rfl (KC.bodyN E0_ok (F := Proofs.Try.f56) (by kernel_rfl) (code := f56_C56) (by kernel_rfl) (nt := 29) (by kernel_rfl) (rs := [.tmp 4]) (by kernel_rfl) (by kernel_rfl) (σ := [(0, .int .i64 a), (1, .int .i64 b)]) (by kernel_rfl) ?_) w (maxInv_size hI) hI
  unfold f56 at h
  refine XQ.seq E0_ok (by kernel_rfl) ?_
  refine XQ.region (by kernel_rfl) ?_
  refine XR.run E0_ok 1 1 [0, 1] rfl (σ' := [(0, .int .i64 a), (1, .int .i64 b)]) (h' := []) (c' := 0) (by kernel_rfl) ?_
  refine XR.done (by kernel_rfl) ?_
  show XQ _ _ _ _ _ _ _ _
  refine XQ.seq E0_ok (by kernel_rfl) ?_
  refine XQ.region (by kernel_rfl) ?_
  refine XR.run E0_ok 1 1 [0, 1, 5] rfl (σ' := [(0, .int .i64 a), (1, .int .i64 b), (5, .string (bs []))]) (h' := []) (c' := 0) (by kernel_rfl) ?_
  refine XR.done (by kernel_rfl) ?_
  show XQ _ _ _ _ _ _ _ _
  refine XQ.seq E0_ok (by kernel_rfl) ?_
  refine XQ.seq E0_ok (by kernel_rfl) ?_
  refine XQ.region (by kernel_rfl) ?_
  refine XR.run E0_ok 1 1 [0, 1, 5, 6] rfl (σ' := [(0, .int .i64 a), (1, .int .i64 b), (5, .string (bs [])), (6, .int .i64 0)]) (h' := []) (c' := 0) (by kernel_rfl) ?_
  refine XR.done (by kernel_rfl) ?_
  show XQ _ _ _ _ _ _ _ _
  refine XQ.block (id := 0) (by kernel_rfl) ?_
  refine XQ.loop m (by kernel_rfl) ?_
  obtain ⟨o1, o1_h, h⟩ := bS h
  refine XL.ren (σ' := [(0, .int .i64 a), (1, .int .i64 b), (5, .string (bs [])), (6, .int .i64 0)]) (h' := []) (c' := 0) [] (by decide) rfl ⟨by kernel_rfl, by kernel_rfl, by kernel_rfl, by kernel_rfl, trivial⟩ trivial rfl ?_
  refine XL.conv (f56_1_ok m m a b (bs []) 0 o1 o1_h _ ?_) (by first | rfl | simp)
  show XQ _ _ _ _ _ _ _ _
  refine XQ.seq E0_ok (by kernel_rfl) ?_
  refine XQ.region (by kernel_rfl) ?_
  refine XR.run E0_ok 1 2 [4] rfl (σ' := [(4, .string o1)]) (h' := []) (c' := 0) (by kernel_rfl) ?_
  refine XR.done (by kernel_rfl) ?_
  show XQ _ _ _ _ _ _ _ _
  refine XQ.ret (by kernel_rfl) ?_
  have h := Option.some.inj h
  subst h
  exact ⟨fun i q => (by cases q), .string o1, (by kernel_rfl), rfl⟩

/-! vitola/band.Make -/
noncomputable def f21_C21 : Code := Proofs.Try.f21.body.getD .skip
noncomputable def f21_C52 : Code := Proofs.Try.f52.body.getD .skip
noncomputable def f21_C47 : Code := Proofs.Try.f47.body.getD .skip
noncomputable def f21_C53 : Code := Proofs.Try.f53.body.getD .skip
noncomputable def f21_C67 : Code := Proofs.Try.f67.body.getD .skip
noncomputable def f21_C68 : Code := Proofs.Try.f68.body.getD .skip
noncomputable def f21_C54 : Code := Proofs.Try.f54.body.getD .skip
noncomputable def f21_L1 : Code := lft (lft (rgt (lft (rgt (rgt (rgt (rgt f21_C21)))))))

def f21_1 (m : Nat) : Nat → Int → Int → Int → Int → List Int → Option (List Int)
  | 0, _, _, _, _, _ => none
  | fuel + 1, a, b, x8_1, x17_1, lh1_1 =>
    cond (decide (x17_1 < a)) (
      cond (decide ((w64 (x8_1 + b)) ≥ a)) (
        cond (fitsB (lh1_1.length + 1) 1) (
          f21_1 m fuel a b (w64 ((w64 (x8_1 + b)) - a)) (w64 (x17_1 + 1)) (lh1_1 ++ [98])
        ) none
      ) (
        cond (fitsB (lh1_1.length + 1) 1) (
          f21_1 m fuel a b (w64 (x8_1 + b)) (w64 (x17_1 + 1)) (lh1_1 ++ [97])
        ) none
      )
    ) (
      some (lh1_1)
    )

theorem f21_1_ok (m : Nat) : ∀ (fuel : Nat) (a : Int) (b : Int) (x8_1 : Int) (x17_1 : Int) (lh1_1 : List Int) (o : (List Int)), f21_1 m fuel a b x8_1 x17_1 lh1_1 = some o → ∀ Q : QP, Q (.exit 0) [(7, .pointer (some ⟨0, 0, none⟩))] [(1, .cells (rowC (encI .u8) o) 0 5 1), (0, .cells [.pointer (some ⟨0, 0, none⟩), .slice (some ⟨1, 0, none⟩) o.length o.length] 0 70 0)] 2 → XL E0 32 0 fuel f21_L1 [(0, .int .i64 a), (1, .int .i64 b), (7, .pointer (some ⟨0, 0, none⟩)), (8, .int .i64 x8_1), (16, .int .i64 a), (17, .int .i64 x17_1)] [(1, .cells (rowC (encI .u8) lh1_1) 0 5 1), (0, .cells [.pointer (some ⟨0, 0, none⟩), .slice (some ⟨1, 0, none⟩) lh1_1.length lh1_1.length] 0 70 0)] 2 Q
  | 0, a, b, x8_1, x17_1, lh1_1, o, h, Q, hQ => by cases h
  | fuel + 1, a, b, x8_1, x17_1, lh1_1, o, h, Q, hQ => by
    unfold f21_1 at h
    refine XL.succ E0_ok ?_
    refine XQ.seq E0_ok (by kernel_rfl) ?_
    refine XQ.region (by kernel_rfl) ?_
    refine XR.run E0_ok 1 1 [0, 1, 7, 8, 16, 17, 18] rfl (σ' := [(0, .int .i64 a), (1, .int .i64 b), (7, .pointer (some ⟨0, 0, none⟩)), (8, .int .i64 x8_1), (16, .int .i64 a), (17, .int .i64 x17_1), (18, .bool (decide (x17_1 < a)))]) (h' := [(1, .cells (rowC (encI .u8) lh1_1) 0 5 1), (0, .cells [.pointer (some ⟨0, 0, none⟩), .slice (some ⟨1, 0, none⟩) lh1_1.length lh1_1.length] 0 70 0)]) (c' := 2) (by kernel_rfl) ?_
    refine XR.done (by kernel_rfl) ?_
    show XQ _ _ _ _ _ _ _ _
    refine XQ.seq E0_ok (by kernel_rfl) ?_
    cases b1 : (decide (x17_1 < a) : Bool) with
    | true =>
      have h := cT b1 h
      refine XQ.cond (s := (.tmp 18)) (b := true) (by kernel_rfl) (by kernel_rfl) (fun _ => ?_) (fun q => by cases q)
      refine XQ.skip (by kernel_rfl) ?_
      show XQ _ _ _ _ _ _ _ _
      refine XQ.seq E0_ok (by kernel_rfl) ?_
      refine XQ.block (id := 1) (by kernel_rfl) ?_
      refine XQ.seq E0_ok (by kernel_rfl) ?_
      refine XQ.region (by kernel_rfl) ?_
      refine XR.run E0_ok 1 1 [0, 1, 7, 8, 9, 16, 17] rfl (σ' := [(0, .int .i64 a), (1, .int .i64 b), (7, .pointer (some ⟨0, 0, none⟩)), (8, .int .i64 x8_1), (9, .int .i32 97), (16, .int .i64 a), (17, .int .i64 x17_1)]) (h' := [(1, .cells (rowC (encI .u8) lh1_1) 0 5 1), (0, .cells [.pointer (some ⟨0, 0, none⟩), .slice (some ⟨1, 0, none⟩) lh1_1.length lh1_1.length] 0 70 0)]) (c' := 2) (by kernel_rfl) ?_
      refine XR.done (by kernel_rfl) ?_
      show XQ _ _ _ _ _ _ _ _
      refine XQ.seq E0_ok (by kernel_rfl) ?_
      refine XQ.seq E0_ok (by kernel_rfl) ?_
      refine XQ.region (by kernel_rfl) ?_
      refine XR.run E0_ok 1 4 [0, 1, 7, 8, 9, 16, 17] rfl (σ' := [(0, .int .i64 a), (1, .int .i64 b), (7, .pointer (some ⟨0, 0, none⟩)), (8, .int .i64 (w64 (x8_1 + b))), (9, .int .i32 97), (16, .int .i64 a), (17, .int .i64 x17_1)]) (h' := [(1, .cells (rowC (encI .u8) lh1_1) 0 5 1), (0, .cells [.pointer (some ⟨0, 0, none⟩), .slice (some ⟨1, 0, none⟩) lh1_1.length lh1_1.length] 0 70 0)]) (c' := 2) (by kernel_rfl) ?_
      refine XR.done (by kernel_rfl) ?_
      show XQ _ _ _ _ _ _ _ _
      refine XQ.seq E0_ok (by kernel_rfl) ?_
      refine XQ.region (by kernel_rfl) ?_
      refine XR.run E0_ok 1 3 [0, 1, 7, 8, 9, 16, 17, 24] rfl (σ' := [(0, .int .i64 a), (1, .int .i64 b), (7, .pointer (some ⟨0, 0, none⟩)), (8, .int .i64 (w64 (x8_1 + b))), (9, .int .i32 97), (16, .int .i64 a), (17, .int .i64 x17_1), (24, .bool (decide ((w64 (x8_1 + b)) ≥ a)))]) (h' := [(1, .cells (rowC (encI .u8) lh1_1) 0 5 1), (0, .cells [.pointer (some ⟨0, 0, none⟩), .slice (some ⟨1, 0, none⟩) lh1_1.length lh1_1.length] 0 70 0)]) (c' := 2) (by kernel_rfl) ?_
      refine XR.done (by kernel_rfl) ?_
      show XQ _ _ _ _ _ _ _ _
      cases b2 : (decide ((w64 (x8_1 + b)) ≥ a) : Bool) with
      | true =>
        have h := cT b2 h
        refine XQ.cond (s := (.tmp 24)) (b := true) (by kernel_rfl) (by kernel_rfl) (fun _ => ?_) (fun q => by cases q)
        refine XQ.region (by kernel_rfl) ?_
        refine XR.run E0_ok 1 5 [0, 1, 7, 8, 9, 16, 17] rfl (σ' := [(0, .int .i64 a), (1, .int .i64 b), (7, .pointer (some ⟨0, 0, none⟩)), (8, .int .i64 (w64 ((w64 (x8_1 + b)) - a))), (9, .int .i32 98), (16, .int .i64 a), (17, .int .i64 x17_1)]) (h' := [(1, .cells (rowC (encI .u8) lh1_1) 0 5 1), (0, .cells [.pointer (some ⟨0, 0, none⟩), .slice (some ⟨1, 0, none⟩) lh1_1.length lh1_1.length] 0 70 0)]) (c' := 2) (by kernel_rfl) ?_
        refine XR.done (by kernel_rfl) ?_
        show XQ _ _ _ _ _ _ _ _
        refine XQ.region (by kernel_rfl) ?_
        refine XR.run E0_ok 1 1 [0, 1, 7, 8, 16, 17, 28] rfl (σ' := [(0, .int .i64 a), (1, .int .i64 b), (7, .pointer (some ⟨0, 0, none⟩)), (8, .int .i64 (w64 ((w64 (x8_1 + b)) - a))), (16, .int .i64 a), (17, .int .i64 x17_1), (28, .int .i32 98)]) (h' := [(1, .cells (rowC (encI .u8) lh1_1) 0 5 1), (0, .cells [.pointer (some ⟨0, 0, none⟩), .slice (some ⟨1, 0, none⟩) lh1_1.length lh1_1.length] 0 70 0)]) (c' := 2) (by kernel_rfl) ?_
        refine XR.callK E0_ok [0, 1, 7, 8, 16, 17] rfl (K := 53) (args := [.pointer (some ⟨0, 0, none⟩), .int .i32 98]) (d := (some (path 12 29))) (by kernel_rfl) ?_
        refine KC.bodyN E0_ok (F := Proofs.Try.f53) (by kernel_rfl) (code := f21_C53) (by kernel_rfl) (nt := 30) (by kernel_rfl) (rs := [.tmp 4, .tmp 5]) (by kernel_rfl) (by kernel_rfl) (σ := [(0, .pointer (some ⟨0, 0, none⟩)), (1, .int .i32 98)]) (by kernel_rfl) ?_
        refine XQ.seq E0_ok (by kernel_rfl) ?_
        refine XQ.region (by kernel_rfl) ?_
        refine XR.run E0_ok 1 2 [0, 1] rfl (σ' := [(0, .pointer (some ⟨0, 0, none⟩)), (1, .int .i32 98)]) (h' := [(1, .cells (rowC (encI .u8) lh1_1) 0 5 1), (0, .cells [.pointer (some ⟨0, 0, none⟩), .slice (some ⟨1, 0, none⟩) lh1_1.length lh1_1.length] 0 70 0)]) (c' := 2) (by kernel_rfl) ?_
        refine XR.done (by kernel_rfl) ?_
        show XQ _ _ _ _ _ _ _ _
        refine XQ.seq E0_ok (by kernel_rfl) ?_
        refine XQ.region (by kernel_rfl) ?_
        refine XR.run E0_ok 1 1 [0, 1, 7] rfl (σ' := [(0, .pointer (some ⟨0, 0, none⟩)), (1, .int .i32 98), (7, .pointer (some ⟨0, 0, none⟩))]) (h' := [(1, .cells (rowC (encI .u8) lh1_1) 0 5 1), (0, .cells [.pointer (some ⟨0, 0, none⟩), .slice (some ⟨1, 0, none⟩) lh1_1.length lh1_1.length] 0 70 0)]) (c' := 2) (by kernel_rfl) ?_
        refine XR.callK E0_ok [0, 1] rfl (K := 67) (args := [.pointer (some ⟨0, 0, none⟩)]) (d := (some (path 12 8))) (by kernel_rfl) ?_
        refine KC.bodyN E0_ok (F := Proofs.Try.f67) (by kernel_rfl) (code := f21_C67) (by kernel_rfl) (nt := 20) (by kernel_rfl) (rs := []) (by kernel_rfl) (by kernel_rfl) (σ := [(0, .pointer (some ⟨0, 0, none⟩))]) (by kernel_rfl) ?_
        refine XQ.seq E0_ok (by kernel_rfl) ?_
        refine XQ.region (by kernel_rfl) ?_
        refine XR.run E0_ok 1 5 [0, 6] rfl (σ' := [(0, .pointer (some ⟨0, 0, none⟩)), (6, .bool false)]) (h' := [(1, .cells (rowC (encI .u8) lh1_1) 0 5 1), (0, .cells [.pointer (some ⟨0, 0, none⟩), .slice (some ⟨1, 0, none⟩) lh1_1.length lh1_1.length] 0 70 0)]) (c' := 2) (by kernel_rfl) ?_
        refine XR.done (by kernel_rfl) ?_
        show XQ _ _ _ _ _ _ _ _
        refine XQ.cond (s := (.tmp 6)) (b := false) (by kernel_rfl) (by kernel_rfl) (fun q => by cases q) (fun _ => ?_)
        refine XQ.seq E0_ok (by kernel_rfl) ?_
        refine XQ.region (by kernel_rfl) ?_
        refine XR.run E0_ok 1 6 [19] rfl (σ' := [(19, .bool false)]) (h' := [(1, .cells (rowC (encI .u8) lh1_1) 0 5 1), (0, .cells [.pointer (some ⟨0, 0, none⟩), .slice (some ⟨1, 0, none⟩) lh1_1.length lh1_1.length] 0 70 0)]) (c' := 2) (by kernel_rfl) ?_
        refine XR.done (by kernel_rfl) ?_
        show XQ _ _ _ _ _ _ _ _
        refine XQ.cond (s := (.tmp 19)) (b := false) (by kernel_rfl) (by kernel_rfl) (fun q => by cases q) (fun _ => ?_)
        refine XQ.skip (by kernel_rfl) ?_
        refine ⟨fun i q => (by cases q), .tuple #[], (by kernel_rfl), ?_⟩
        refine XR.conv (σ' := [(0, .pointer (some ⟨0, 0, none⟩)), (1, .int .i32 98)]) (h' := [(1, .cells (rowC (encI .u8) lh1_1) 0 5 1), (0, .cells [.pointer (some ⟨0, 0, none⟩), .slice (some ⟨1, 0, none⟩) lh1_1.length lh1_1.length] 0 70 0)]) (c' := 2) ?_ (by kernel_rfl)
        refine XR.done (by kernel_rfl) ?_
        show XQ _ _ _ _ _ _ _ _
        refine XQ.seq E0_ok (by kernel_rfl) ?_
        refine XQ.region (by kernel_rfl) ?_
        refine XR.run E0_ok 1 6 [0, 1, 6] rfl (σ' := [(0, .pointer (some ⟨0, 0, none⟩)), (1, .int .i32 98), (6, .int .i64 ((lh1_1.length : Nat) : Int))]) (h' := [(1, .cells (rowC (encI .u8) lh1_1) 0 5 1), (0, .cells [.pointer (some ⟨0, 0, none⟩), .slice (some ⟨1, 0, none⟩) lh1_1.length lh1_1.length] 0 70 0)]) (c' := 2) (by kernel_rfl) ?_
        refine XR.done (by kernel_rfl) ?_
        show XQ _ _ _ _ _ _ _ _
        refine XQ.seq E0_ok (by kernel_rfl) ?_
        refine XQ.region (by kernel_rfl) ?_
        refine XR.run E0_ok 1 6 [0, 6, 14, 18, 19] rfl (σ' := [(0, .pointer (some ⟨0, 0, none⟩)), (6, .int .i64 ((lh1_1.length : Nat) : Int)), (14, .pointer (some ⟨0, 0, none⟩)), (18, .slice (some ⟨1, 0, none⟩) lh1_1.length lh1_1.length), (19, .int .i32 98)]) (h' := [(1, .cells (rowC (encI .u8) lh1_1) 0 5 1), (0, .cells [.pointer (some ⟨0, 0, none⟩), .slice (some ⟨1, 0, none⟩) lh1_1.length lh1_1.length] 0 70 0)]) (c' := 2) (by kernel_rfl) ?_
        refine XR.callK E0_ok [0, 6, 14, 20] rfl (K := 68) (args := [.slice (some ⟨1, 0, none⟩) lh1_1.length lh1_1.length, .int .i32 98]) (d := (some (path 12 20))) (by kernel_rfl) ?_
        refine KC.bodyN E0_ok (F := Proofs.Try.f68) (by kernel_rfl) (code := f21_C68) (by kernel_rfl) (nt := 16) (by kernel_rfl) (rs := [.tmp 4]) (by kernel_rfl) (by kernel_rfl) (σ := [(0, .slice (some ⟨1, 0, none⟩) lh1_1.length lh1_1.length), (1, .int .i32 98)]) (by kernel_rfl) ?_
        refine XQ.seq E0_ok (by kernel_rfl) ?_
        refine XQ.region (by kernel_rfl) ?_
        refine XR.run E0_ok 1 1 [0, 1] rfl (σ' := [(0, .slice (some ⟨1, 0, none⟩) lh1_1.length lh1_1.length), (1, .int .i32 98)]) (h' := [(1, .cells (rowC (encI .u8) lh1_1) 0 5 1), (0, .cells [.pointer (some ⟨0, 0, none⟩), .slice (some ⟨1, 0, none⟩) lh1_1.length lh1_1.length] 0 70 0)]) (c' := 2) (by kernel_rfl) ?_
        refine XR.done (by kernel_rfl) ?_
        show XQ _ _ _ _ _ _ _ _
        refine XQ.seq E0_ok (by kernel_rfl) ?_
        refine XQ.seq E0_ok (by kernel_rfl) ?_
        refine XQ.region (by kernel_rfl) ?_
        refine XR.run E0_ok 1 3 [0, 1, 7] rfl (σ' := [(0, .slice (some ⟨1, 0, none⟩) lh1_1.length lh1_1.length), (1, .int .i32 98), (7, .bool true)]) (h' := [(1, .cells (rowC (encI .u8) lh1_1) 0 5 1), (0, .cells [.pointer (some ⟨0, 0, none⟩), .slice (some ⟨1, 0, none⟩) lh1_1.length lh1_1.length] 0 70 0)]) (c' := 2) (by kernel_rfl) ?_
        refine XR.done (by kernel_rfl) ?_
        show XQ _ _ _ _ _ _ _ _
        refine XQ.cond (s := (.tmp 7)) (b := true) (by kernel_rfl) (by kernel_rfl) (fun _ => ?_) (fun q => by cases q)
        refine XQ.seq E0_ok (by kernel_rfl) ?_
        refine XQ.region (by kernel_rfl) ?_
        refine XR.run E0_ok 1 4 [8, 11] rfl (σ' := [(8, .slice (some ⟨1, 0, none⟩) lh1_1.length lh1_1.length), (11, .slice (some ⟨2, 0, none⟩) 1 1)]) (h' := [(2, .cells [.int .u8 98] 0 5 1), (1, .cells (rowC (encI .u8) lh1_1) 0 5 1), (0, .cells [.pointer (some ⟨0, 0, none⟩), .slice (some ⟨1, 0, none⟩) lh1_1.length lh1_1.length] 0 70 0)]) (c' := 3) (by kernel_rfl) ?_
        cases b3 : (fitsB (lh1_1.length + 1) 1 : Bool) with
        | false => cases (cF b3 h)
        | true =>
          have h := cT b3 h
          refine XR.ef E0_ok [12] rfl (e_append (encI_ok .u8) (bytes := 1) (e := 5) (x := (src 16 (.tmp 8))) (y := (src 16 (.tmp 11))) (b := 1) (len := lh1_1.length) (cap := lh1_1.length) (xs := lh1_1) (m := 0) (ys := [98]) (d := (some (path 12 12))) (n' := (lh1_1 ++ [98]).length) (h' := [(3, .cells (rowC (encI .u8) (lh1_1 ++ [98])) 0 5 1), (2, .cells [.int .u8 98] 0 5 1), (0, .cells [.pointer (some ⟨0, 0, none⟩), .slice (some ⟨1, 0, none⟩) lh1_1.length lh1_1.length] 0 70 0)]) (by kernel_rfl) (by kernel_rfl) (by kernel_rfl) (by kernel_rfl) rfl (by simp) (by simp) b3 (by simp) (by kernel_rfl)) (σ' := [(12, .slice (some ⟨3, 0, none⟩) ((lh1_1 ++ [98]).length) ((lh1_1 ++ [98]).length))]) (by kernel_rfl) ?_
          refine XR.run E0_ok 1 1 [4] rfl (σ' := [(4, .slice (some ⟨3, 0, none⟩) ((lh1_1 ++ [98]).length) ((lh1_1 ++ [98]).length))]) (h' := [(3, .cells (rowC (encI .u8) (lh1_1 ++ [98])) 0 5 1), (2, .cells [.int .u8 98] 0 5 1), (0, .cells [.pointer (some ⟨0, 0, none⟩), .slice (some ⟨1, 0, none⟩) lh1_1.length lh1_1.length] 0 70 0)]) (c' := 4) (by kernel_rfl) ?_
          refine XR.done (by kernel_rfl) ?_
          show XQ _ _ _ _ _ _ _ _
          refine XQ.ret (by kernel_rfl) ?_
          refine ⟨fun i q => (by cases q), .slice (some ⟨3, 0, none⟩) ((lh1_1 ++ [98]).length) ((lh1_1 ++ [98]).length), (by kernel_rfl), ?_⟩
          refine XR.conv (σ' := [(0, .pointer (some ⟨0, 0, none⟩)), (6, .int .i64 ((lh1_1.length : Nat) : Int)), (14, .pointer (some ⟨0, 0, none⟩)), (20, .slice (some ⟨3, 0, none⟩) ((lh1_1 ++ [98]).length) ((lh1_1 ++ [98]).length))]) (h' := [(3, .cells (rowC (encI .u8) (lh1_1 ++ [98])) 0 5 1), (2, .cells [.int .u8 98] 0 5 1), (0, .cells [.pointer (some ⟨0, 0, none⟩), .slice (some ⟨1, 0, none⟩) lh1_1.length lh1_1.length] 0 70 0)]) (c' := 4) ?_ (by kernel_rfl)
          refine XR.run E0_ok 1 3 [0, 6] rfl (σ' := [(0, .pointer (some ⟨0, 0, none⟩)), (6, .int .i64 ((lh1_1.length : Nat) : Int))]) (h' := [(3, .cells (rowC (encI .u8) (lh1_1 ++ [98])) 0 5 1), (2, .cells [.int .u8 98] 0 5 1), (0, .cells [.pointer (some ⟨0, 0, none⟩), .slice (some ⟨3, 0, none⟩) ((lh1_1 ++ [98]).length) ((lh1_1 ++ [98]).length)] 0 70 0)]) (c' := 4) (by kernel_rfl) ?_
          refine XR.done (by kernel_rfl) ?_
          show XQ _ _ _ _ _ _ _ _
          refine XQ.seq E0_ok (by kernel_rfl) ?_
          refine XQ.region (by kernel_rfl) ?_
          refine XR.run E0_ok 1 9 [4, 5] rfl (σ' := [(4, .int .i64 (w64 ((((lh1_1 ++ [98]).length : Nat) : Int) - ((lh1_1.length : Nat) : Int)))), (5, .nilIface)]) (h' := [(3, .cells (rowC (encI .u8) (lh1_1 ++ [98])) 0 5 1), (2, .cells [.int .u8 98] 0 5 1), (0, .cells [.pointer (some ⟨0, 0, none⟩), .slice (some ⟨3, 0, none⟩) ((lh1_1 ++ [98]).length) ((lh1_1 ++ [98]).length)] 0 70 0)]) (c' := 4) (by kernel_rfl) ?_
          refine XR.done (by kernel_rfl) ?_
          show XQ _ _ _ _ _ _ _ _
          refine XQ.ret (by kernel_rfl) ?_
          refine ⟨fun i q => (by cases q), .tuple #[.int .i64 (w64 ((((lh1_1 ++ [98]).length : Nat) : Int) - ((lh1_1.length : Nat) : Int))), .nilIface], (by kernel_rfl), ?_⟩
          refine XR.conv (σ' := [(0, .int .i64 a), (1, .int .i64 b), (7, .pointer (some ⟨0, 0, none⟩)), (8, .int .i64 (w64 ((w64 (x8_1 + b)) - a))), (16, .int .i64 a), (17, .int .i64 x17_1)]) (h' := [(3, .cells (rowC (encI .u8) (lh1_1 ++ [98])) 0 5 1), (2, .cells [.int .u8 98] 0 5 1), (0, .cells [.pointer (some ⟨0, 0, none⟩), .slice (some ⟨3, 0, none⟩) ((lh1_1 ++ [98]).length) ((lh1_1 ++ [98]).length)] 0 70 0)]) (c' := 4) ?_ (by kernel_rfl)
          refine XR.done (by kernel_rfl) ?_
          show XQ _ _ _ _ _ _ _ _
          refine XQ.region (by kernel_rfl) ?_
          refine XR.run E0_ok 1 2 [0, 1, 7, 8, 16, 17] rfl (σ' := [(0, .int .i64 a), (1, .int .i64 b), (7, .pointer (some ⟨0, 0, none⟩)), (8, .int .i64 (w64 ((w64 (x8_1 + b)) - a))), (16, .int .i64 a), (17, .int .i64 (w64 (x17_1 + 1)))]) (h' := [(3, .cells (rowC (encI .u8) (lh1_1 ++ [98])) 0 5 1), (2, .cells [.int .u8 98] 0 5 1), (0, .cells [.pointer (some ⟨0, 0, none⟩), .slice (some ⟨3, 0, none⟩) ((lh1_1 ++ [98]).length) ((lh1_1 ++ [98]).length)] 0 70 0)]) (c' := 4) (by kernel_rfl) ?_
          refine XR.done (by kernel_rfl) ?_
          show XL _ _ _ _ _ _ _ _ _
          refine XL.ren (σ' := [(0, .int .i64 a), (1, .int .i64 b), (7, .pointer (some ⟨0, 0, none⟩)), (8, .int .i64 (w64 ((w64 (x8_1 + b)) - a))), (16, .int .i64 a), (17, .int .i64 (w64 (x17_1 + 1)))]) (h' := [(1, .cells (rowC (encI .u8) (lh1_1 ++ [98])) 0 5 1), (0, .cells [.pointer (some ⟨0, 0, none⟩), .slice (some ⟨1, 0, none⟩) ((lh1_1 ++ [98]).length) ((lh1_1 ++ [98]).length)] 0 70 0)]) (c' := 2) [0, 3] (by decide) rfl ⟨by kernel_rfl, by kernel_rfl, by kernel_rfl, by kernel_rfl, by kernel_rfl, by kernel_rfl, trivial⟩ ⟨⟨_, _, rfl, rfl, .inl ⟨rfl, rowC_scal (encI_ok .u8) _⟩⟩, ⟨_, _, rfl, rfl, .inr ⟨_, _, _, _, rfl, rfl⟩⟩, trivial⟩ rfl ?_
          refine XL.conv (f21_1_ok m fuel a b (w64 ((w64 (x8_1 + b)) - a)) (w64 (x17_1 + 1)) (lh1_1 ++ [98]) o h Q hQ) (by first | rfl | simp)
      | false =>
        have h := cF b2 h
        refine XQ.cond (s := (.tmp 24)) (b := false) (by kernel_rfl) (by kernel_rfl) (fun q => by cases q) (fun _ => ?_)
        refine XQ.skip (by kernel_rfl) ?_
        show XQ _ _ _ _ _ _ _ _
        refine XQ.region (by kernel_rfl) ?_
        refine XR.run E0_ok 1 1 [0, 1, 7, 8, 16, 17, 28] rfl (σ' := [(0, .int .i64 a), (1, .int .i64 b), (7, .pointer (some ⟨0, 0, none⟩)), (8, .int .i64 (w64 (x8_1 + b))), (16, .int .i64 a), (17, .int .i64 x17_1), (28, .int .i32 97)]) (h' := [(1, .cells (rowC (encI .u8) lh1_1) 0 5 1), (0, .cells [.pointer (some ⟨0, 0, none⟩), .slice (some ⟨1, 0, none⟩) lh1_1.length lh1_1.length] 0 70 0)]) (c' := 2) (by kernel_rfl) ?_
        refine XR.callK E0_ok [0, 1, 7, 8, 16, 17] rfl (K := 53) (args := [.pointer (some ⟨0, 0, none⟩), .int .i32 97]) (d := (some (path 12 29))) (by kernel_rfl) ?_
        refine KC.bodyN E0_ok (F := Proofs.Try.f53) (by kernel_rfl) (code := f21_C53) (by kernel_rfl) (nt := 30) (by kernel_rfl) (rs := [.tmp 4, .tmp 5]) (by kernel_rfl) (by kernel_rfl) (σ := [(0, .pointer (some ⟨0, 0, none⟩)), (1, .int .i32 97)]) (by kernel_rfl) ?_
        refine XQ.seq E0_ok (by kernel_rfl) ?_
        refine XQ.region (by kernel_rfl) ?_
        refine XR.run E0_ok 1 2 [0, 1] rfl (σ' := [(0, .pointer (some ⟨0, 0, none⟩)), (1, .int .i32 97)]) (h' := [(1, .cells (rowC (encI .u8) lh1_1) 0 5 1), (0, .cells [.pointer (some ⟨0, 0, none⟩), .slice (some ⟨1, 0, none⟩) lh1_1.length lh1_1.length] 0 70 0)]) (c' := 2) (by kernel_rfl) ?_
        refine XR.done (by kernel_rfl) ?_
        show XQ _ _ _ _ _ _ _ _
        refine XQ.seq E0_ok (by kernel_rfl) ?_
        refine XQ.region (by kernel_rfl) ?_
        refine XR.run E0_ok 1 1 [0, 1, 7] rfl (σ' := [(0, .pointer (some ⟨0, 0, none⟩)), (1, .int .i32 97), (7, .pointer (some ⟨0, 0, none⟩))]) (h' := [(1, .cells (rowC (encI .u8) lh1_1) 0 5 1), (0, .cells [.pointer (some ⟨0, 0, none⟩), .slice (some ⟨1, 0, none⟩) lh1_1.length lh1_1.length] 0 70 0)]) (c' := 2) (by kernel_rfl) ?_
        refine XR.callK E0_ok [0, 1] rfl (K := 67) (args := [.pointer (some ⟨0, 0, none⟩)]) (d := (some (path 12 8))) (by kernel_rfl) ?_
        refine KC.bodyN E0_ok (F := Proofs.Try.f67) (by kernel_rfl) (code := f21_C67) (by kernel_rfl) (nt := 20) (by kernel_rfl) (rs := []) (by kernel_rfl) (by kernel_rfl) (σ := [(0, .pointer (some ⟨0, 0, none⟩))]) (by kernel_rfl) ?_
        refine XQ.seq E0_ok (by kernel_rfl) ?_
        refine XQ.region (by kernel_rfl) ?_
        refine XR.run E0_ok 1 5 [0, 6] rfl (σ' := [(0, .pointer (some ⟨0, 0, none⟩)), (6, .bool false)]) (h' := [(1, .cells (rowC (encI .u8) lh1_1) 0 5 1), (0, .cells [.pointer (some ⟨0, 0, none⟩), .slice (some ⟨1, 0, none⟩) lh1_1.length lh1_1.length] 0 70 0)]) (c' := 2) (by kernel_rfl) ?_
        refine XR.done (by kernel_rfl) ?_
        show XQ _ _ _ _ _ _ _ _
        refine XQ.cond (s := (.tmp 6)) (b := false) (by kernel_rfl) (by kernel_rfl) (fun q => by cases q) (fun _ => ?_)
        refine XQ.seq E0_ok (by kernel_rfl) ?_
        refine XQ.region (by kernel_rfl) ?_
        refine XR.run E0_ok 1 6 [19] rfl (σ' := [(19, .bool false)]) (h' := [(1, .cells (rowC (encI .u8) lh1_1) 0 5 1), (0, .cells [.pointer (some ⟨0, 0, none⟩), .slice (some ⟨1, 0, none⟩) lh1_1.length lh1_1.length] 0 70 0)]) (c' := 2) (by kernel_rfl) ?_
        refine XR.done (by kernel_rfl) ?_
        show XQ _ _ _ _ _ _ _ _
        refine XQ.cond (s := (.tmp 19)) (b := false) (by kernel_rfl) (by kernel_rfl) (fun q => by cases q) (fun _ => ?_)
        refine XQ.skip (by kernel_rfl) ?_
        refine ⟨fun i q => (by cases q), .tuple #[], (by kernel_rfl), ?_⟩
        refine XR.conv (σ' := [(0, .pointer (some ⟨0, 0, none⟩)), (1, .int .i32 97)]) (h' := [(1, .cells (rowC (encI .u8) lh1_1) 0 5 1), (0, .cells [.pointer (some ⟨0, 0, none⟩), .slice (some ⟨1, 0, none⟩) lh1_1.length lh1_1.length] 0 70 0)]) (c' := 2) ?_ (by kernel_rfl)
        refine XR.done (by kernel_rfl) ?_
        show XQ _ _ _ _ _ _ _ _
        refine XQ.seq E0_ok (by kernel_rfl) ?_
        refine XQ.region (by kernel_rfl) ?_
        refine XR.run E0_ok 1 6 [0, 1, 6] rfl (σ' := [(0, .pointer (some ⟨0, 0, none⟩)), (1, .int .i32 97), (6, .int .i64 ((lh1_1.length : Nat) : Int))]) (h' := [(1, .cells (rowC (encI .u8) lh1_1) 0 5 1), (0, .cells [.pointer (some ⟨0, 0, none⟩), .slice (some ⟨1, 0, none⟩) lh1_1.length lh1_1.length] 0 70 0)]) (c' := 2) (by kernel_rfl) ?_
        refine XR.done (by kernel_rfl) ?_
        show XQ _ _ _ _ _ _ _ _
        refine XQ.seq E0_ok (by kernel_rfl) ?_
        refine XQ.region (by kernel_rfl) ?_
        refine XR.run E0_ok 1 6 [0, 6, 14, 18, 19] rfl (σ' := [(0, .pointer (some ⟨0, 0, none⟩)), (6, .int .i64 ((lh1_1.length : Nat) : Int)), (14, .pointer (some ⟨0, 0, none⟩)), (18, .slice (some ⟨1, 0, none⟩) lh1_1.length lh1_1.length), (19, .int .i32 97)]) (h' := [(1, .cells (rowC (encI .u8) lh1_1) 0 5 1), (0, .cells [.pointer (some ⟨0, 0, none⟩), .slice (some ⟨1, 0, none⟩) lh1_1.length lh1_1.length] 0 70 0)]) (c' := 2) (by kernel_rfl) ?_
        refine XR.callK E0_ok [0, 6, 14, 20] rfl (K := 68) (args := [.slice (some ⟨1, 0, none⟩) lh1_1.length lh1_1.length, .int .i32 97]) (d := (some (path 12 20))) (by kernel_rfl) ?_
        refine KC.bodyN E0_ok (F := Proofs.Try.f68) (by kernel_rfl) (code := f21_C68) (by kernel_rfl) (nt := 16) (by kernel_rfl) (rs := [.tmp 4]) (by kernel_rfl) (by kernel_rfl) (σ := [(0, .slice (some ⟨1, 0, none⟩) lh1_1.length lh1_1.length), (1, .int .i32 97)]) (by kernel_rfl) ?_
        refine XQ.seq E0_ok (by kernel_rfl) ?_
        refine XQ.region (by kernel_rfl) ?_
        refine XR.run E0_ok 1 1 [0, 1] rfl (σ' := [(0, .slice (some ⟨1, 0, none⟩) lh1_1.length lh1_1.length), (1, .int .i32 97)]) (h' := [(1, .cells (rowC (encI .u8) lh1_1) 0 5 1), (0, .cells [.pointer (some ⟨0, 0, none⟩), .slice (some ⟨1, 0, none⟩) lh1_1.length lh1_1.length] 0 70 0)]) (c' := 2) (by kernel_rfl) ?_
        refine XR.done (by kernel_rfl) ?_
        show XQ _ _ _ _ _ _ _ _
        refine XQ.seq E0_ok (by kernel_rfl) ?_
        refine XQ.seq E0_ok (by kernel_rfl) ?_
        refine XQ.region (by kernel_rfl) ?_
        refine XR.run E0_ok 1 3 [0, 1, 7] rfl (σ' := [(0, .slice (some ⟨1, 0, none⟩) lh1_1.length lh1_1.length), (1, .int .i32 97), (7, .bool true)]) (h' := [(1, .cells (rowC (encI .u8) lh1_1) 0 5 1), (0, .cells [.pointer (some ⟨0, 0, none⟩), .slice (some ⟨1, 0, none⟩) lh1_1.length lh1_1.length] 0 70 0)]) (c' := 2) (by kernel_rfl) ?_
        refine XR.done (by kernel_rfl) ?_
        show XQ _ _ _ _ _ _ _ _
        refine XQ.cond (s := (.tmp 7)) (b := true) (by kernel_rfl) (by kernel_rfl) (fun _ => ?_) (fun q => by cases q)
        refine XQ.seq E0_ok (by kernel_rfl) ?_
        refine XQ.region (by kernel_rfl) ?_
        refine XR.run E0_ok 1 4 [8, 11] rfl (σ' := [(8, .slice (some ⟨1, 0, none⟩) lh1_1.length lh1_1.length), (11, .slice (some ⟨2, 0, none⟩) 1 1)]) (h' := [(2, .cells [.int .u8 97] 0 5 1), (1, .cells (rowC (encI .u8) lh1_1) 0 5 1), (0, .cells [.pointer (some ⟨0, 0, none⟩), .slice (some ⟨1, 0, none⟩) lh1_1.length lh1_1.length] 0 70 0)]) (c' := 3) (by kernel_rfl) ?_
        cases b4 : (fitsB (lh1_1.length + 1) 1 : Bool) with
        | false => cases (cF b4 h)
        | true =>
          have h := cT b4 h
          refine XR.ef E0_ok [12] rfl (e_append (encI_ok .u8) (bytes := 1) (e := 5) (x := (src 16 (.tmp 8))) (y := (src 16 (.tmp 11))) (b := 1) (len := lh1_1.length) (cap := lh1_1.length) (xs := lh1_1) (m := 0) (ys := [97]) (d := (some (path 12 12))) (n' := (lh1_1 ++ [97]).length) (h' := [(3, .cells (rowC (encI .u8) (lh1_1 ++ [97])) 0 5 1), (2, .cells [.int .u8 97] 0 5 1), (0, .cells [.pointer (some ⟨0, 0, none⟩), .slice (some ⟨1, 0, none⟩) lh1_1.length lh1_1.length] 0 70 0)]) (by kernel_rfl) (by kernel_rfl) (by kernel_rfl) (by kernel_rfl) rfl (by simp) (by simp) b4 (by simp) (by kernel_rfl)) (σ' := [(12, .slice (some ⟨3, 0, none⟩) ((lh1_1 ++ [97]).length) ((lh1_1 ++ [97]).length))]) (by kernel_rfl) ?_
          refine XR.run E0_ok 1 1 [4] rfl (σ' := [(4, .slice (some ⟨3, 0, none⟩) ((lh1_1 ++ [97]).length) ((lh1_1 ++ [97]).length))]) (h' := [(3, .cells (rowC (encI .u8) (lh1_1 ++ [97])) 0 5 1), (2, .cells [.int .u8 97] 0 5 1), (0, .cells [.pointer (some ⟨0, 0, none⟩), .slice (some ⟨1, 0, none⟩) lh1_1.length lh1_1.length] 0 70 0)]) (c' := 4) (by kernel_rfl) ?_
          refine XR.done (by kernel_rfl) ?_
          show XQ _ _ _ _ _ _ _ _
          refine XQ.ret (by kernel_rfl) ?_
          refine ⟨fun i q => (by cases q), .slice (some ⟨3, 0, none⟩) ((lh1_1 ++ [97]).length) ((lh1_1 ++ [97]).length), (by kernel_rfl), ?_⟩
          refine XR.conv (σ' := [(0, .pointer (some ⟨0, 0, none⟩)), (6, .int .i64 ((lh1_1.length : Nat) : Int)), (14, .pointer (some ⟨0, 0, none⟩)), (20, .slice (some ⟨3, 0, none⟩) ((lh1_1 ++ [97]).length) ((lh1_1 ++ [97]).length))]) (h' := [(3, .cells (rowC (encI .u8) (lh1_1 ++ [97])) 0 5 1), (2, .cells [.int .u8 97] 0 5 1), (0, .cells [.pointer (some ⟨0, 0, none⟩), .slice (some ⟨1, 0, none⟩) lh1_1.length lh1_1.length] 0 70 0)]) (c' := 4) ?_ (by kernel_rfl)
          refine XR.run E0_ok 1 3 [0, 6] rfl (σ' := [(0, .pointer (some ⟨0, 0, none⟩)), (6, .int .i64 ((lh1_1.length : Nat) : Int))]) (h' := [(3, .cells (rowC (encI .u8) (lh1_1 ++ [97])) 0 5 1), (2, .cells [.int .u8 97] 0 5 1), (0, .cells [.pointer (some ⟨0, 0, none⟩), .slice (some ⟨3, 0, none⟩) ((lh1_1 ++ [97]).length) ((lh1_1 ++ [97]).length)] 0 70 0)]) (c' := 4) (by kernel_rfl) ?_
          refine XR.done (by kernel_rfl) ?_
          show XQ _ _ _ _ _ _ _ _
          refine XQ.seq E0_ok (by kernel_rfl) ?_
          refine XQ.region (by kernel_rfl) ?_
          refine XR.run E0_ok 1 9 [4, 5] rfl (σ' := [(4, .int .i64 (w64 ((((lh1_1 ++ [97]).length : Nat) : Int) - ((lh1_1.length : Nat) : Int)))), (5, .nilIface)]) (h' := [(3, .cells (rowC (encI .u8) (lh1_1 ++ [97])) 0 5 1), (2, .cells [.int .u8 97] 0 5 1), (0, .cells [.pointer (some ⟨0, 0, none⟩), .slice (some ⟨3, 0, none⟩) ((lh1_1 ++ [97]).length) ((lh1_1 ++ [97]).length)] 0 70 0)]) (c' := 4) (by kernel_rfl) ?_
          refine XR.done (by kernel_rfl) ?_
          show XQ _ _ _ _ _ _ _ _
          refine XQ.ret (by kernel_rfl) ?_
          refine ⟨fun i q => (by cases q), .tuple #[.int .i64 (w64 ((((lh1_1 ++ [97]).length : Nat) : Int) - ((lh1_1.length : Nat) : Int))), .nilIface], (by kernel_rfl), ?_⟩
          refine XR.conv (σ' := [(0, .int .i64 a), (1, .int .i64 b), (7, .pointer (some ⟨0, 0, none⟩)), (8, .int .i64 (w64 (x8_1 + b))), (16, .int .i64 a), (17, .int .i64 x17_1)]) (h' := [(3, .cells (rowC (encI .u8) (lh1_1 ++ [97])) 0 5 1), (2, .cells [.int .u8 97] 0 5 1), (0, .cells [.pointer (some ⟨0, 0, none⟩), .slice (some ⟨3, 0, none⟩) ((lh1_1 ++ [97]).length) ((lh1_1 ++ [97]).length)] 0 70 0)]) (c' := 4) ?_ (by kernel_rfl)
          refine XR.done (by kernel_rfl) ?_
          show XQ _ _ _ _ _ _ _ _
          refine XQ.region (by kernel_rfl) ?_
          refine XR.run E0_ok 1 2 [0, 1, 7, 8, 16, 17] rfl (σ' := [(0, .int .i64 a), (1, .int .i64 b), (7, .pointer (some ⟨0, 0, none⟩)), (8, .int .i64 (w64 (x8_1 + b))), (16, .int .i64 a), (17, .int .i64 (w64 (x17_1 + 1)))]) (h' := [(3, .cells (rowC (encI .u8) (lh1_1 ++ [97])) 0 5 1), (2, .cells [.int .u8 97] 0 5 1), (0, .cells [.pointer (some ⟨0, 0, none⟩), .slice (some ⟨3, 0, none⟩) ((lh1_1 ++ [97]).length) ((lh1_1 ++ [97]).length)] 0 70 0)]) (c' := 4) (by kernel_rfl) ?_
          refine XR.done (by kernel_rfl) ?_
          show XL _ _ _ _ _ _ _ _ _
          refine XL.ren (σ' := [(0, .int .i64 a), (1, .int .i64 b), (7, .pointer (some ⟨0, 0, none⟩)), (8, .int .i64 (w64 (x8_1 + b))), (16, .int .i64 a), (17, .int .i64 (w64 (x17_1 + 1)))]) (h' := [(1, .cells (rowC (encI .u8) (lh1_1 ++ [97])) 0 5 1), (0, .cells [.pointer (some ⟨0, 0, none⟩), .slice (some ⟨1, 0, none⟩) ((lh1_1 ++ [97]).length) ((lh1_1 ++ [97]).length)] 0 70 0)]) (c' := 2) [0, 3] (by decide) rfl ⟨by kernel_rfl, by kernel_rfl, by kernel_rfl, by kernel_rfl, by kernel_rfl, by kernel_rfl, trivial⟩ ⟨⟨_, _, rfl, rfl, .inl ⟨rfl, rowC_scal (encI_ok .u8) _⟩⟩, ⟨_, _, rfl, rfl, .inr ⟨_, _, _, _, rfl, rfl⟩⟩, trivial⟩ rfl ?_
          refine XL.conv (f21_1_ok m fuel a b (w64 (x8_1 + b)) (w64 (x17_1 + 1)) (lh1_1 ++ [97]) o h Q hQ) (by first | rfl | simp)
    | false =>
      have h := cF b1 h
      refine XQ.cond (s := (.tmp 18)) (b := false) (by kernel_rfl) (by kernel_rfl) (fun q => by cases q) (fun _ => ?_)
      refine XQ.ren (σ' := [(7, .pointer (some ⟨0, 0, none⟩))]) (h' := [(1, .cells (rowC (encI .u8) lh1_1) 0 5 1), (0, .cells [.pointer (some ⟨0, 0, none⟩), .slice (some ⟨1, 0, none⟩) lh1_1.length lh1_1.length] 0 70 0)]) (c' := 2) [0, 1] (by decide) rfl ⟨by kernel_rfl, trivial⟩ ⟨⟨_, _, rfl, rfl, .inl ⟨rfl, rowC_scal (encI_ok .u8) _⟩⟩, ⟨_, _, rfl, rfl, .inr ⟨_, _, _, _, rfl, rfl⟩⟩, trivial⟩ rfl ?_
      refine XQ.exit (i := 0) (by kernel_rfl) ?_
      cases h
      exact hQ

def f21_2 (m : Nat) : Nat → Int → Int → Int → Int → List Int → Option (List Int)
  | 0, _, _, _, _, _ => none
  | fuel + 1, a, b, x8_2, x17_2, lh1_2 =>
    cond (decide (x17_2 < a)) (
      cond (decide ((w64 (x8_2 + b)) ≥ a)) (
        cond (fitsB (lh1_2.length + 1) 1) (
          f21_2 m fuel a b (w64 ((w64 (x8_2 + b)) - a)) (w64 (x17_2 + 1)) (lh1_2 ++ [98])
        ) none
      ) (
        cond (fitsB (lh1_2.length + 1) 1) (
          f21_2 m fuel a b (w64 (x8_2 + b)) (w64 (x17_2 + 1)) (lh1_2 ++ [97])
        ) none
      )
    ) (
      some (lh1_2)
    )

theorem f21_2_ok (m : Nat) : ∀ (fuel : Nat) (a : Int) (b : Int) (x8_2 : Int) (x17_2 : Int) (lh1_2 : List Int) (o : (List Int)), f21_2 m fuel a b x8_2 x17_2 lh1_2 = some o → ∀ Q : QP, Q (.exit 0) [(7, .pointer (some ⟨0, 0, none⟩))] [(1, .cells (rowC (encI .u8) o) 0 5 1), (0, .cells [.pointer (some ⟨0, 0, none⟩), .slice (some ⟨1, 0, none⟩) o.length o.length] 0 70 0)] 2 → XL E0 32 0 fuel f21_L1 [(0, .int .i64 a), (1, .int .i64 b), (7, .pointer (some ⟨0, 0, none⟩)), (8, .int .i64 x8_2), (16, .int .i64 a), (17, .int .i64 x17_2)] [(1, .cells (rowC (encI .u8) lh1_2) 0 5 1), (0, .cells [.pointer (some ⟨0, 0, none⟩), .slice (some ⟨1, 0, none⟩) lh1_2.length lh1_2.length] 0 70 0)] 2 Q
  | 0, a, b, x8_2, x17_2, lh1_2, o, h, Q, hQ => by cases h
  | fuel + 1, a, b, x8_2, x17_2, lh1_2, o, h, Q, hQ => by
    unfold f21_2 at h
    refine XL.succ E0_ok ?_
    refine XQ.seq E0_ok (by kernel_rfl) ?_
    refine XQ.region (by kernel_rfl) ?_
    refine XR.run E0_ok 1 1 [0, 1, 7, 8, 16, 17, 18] rfl (σ' := [(0, .int .i64 a), (1, .int .i64 b), (7, .pointer (some ⟨0, 0, none⟩)), (8, .int .i64 x8_2), (16, .int .i64 a), (17, .int .i64 x17_2), (18, .bool (decide (x17_2 < a)))]) (h' := [(1, .cells (rowC (encI .u8) lh1_2) 0 5 1), (0, .cells [.pointer (some ⟨0, 0, none⟩), .slice (some ⟨1, 0, none⟩) lh1_2.length lh1_2.length] 0 70 0)]) (c' := 2) (by kernel_rfl) ?_
    refine XR.done (by kernel_rfl) ?_
    show XQ _ _ _ _ _ _ _ _
    refine XQ.seq E0_ok (by kernel_rfl) ?_
    cases b1 : (decide (x17_2 < a) : Bool) with
    | true =>
      have h := cT b1 h
      refine XQ.cond (s := (.tmp 18)) (b := true) (by kernel_rfl) (by kernel_rfl) (fun _ => ?_) (fun q => by cases q)
      refine XQ.skip (by kernel_rfl) ?_
      show XQ _ _ _ _ _ _ _ _
      refine XQ.seq E0_ok (by kernel_rfl) ?_
      refine XQ.block (id := 1) (by kernel_rfl) ?_
      refine XQ.seq E0_ok (by kernel_rfl) ?_
      refine XQ.region (by kernel_rfl) ?_
      refine XR.run E0_ok 1 1 [0, 1, 7, 8, 9, 16, 17] rfl (σ' := [(0, .int .i64 a), (1, .int .i64 b), (7, .pointer (some ⟨0, 0, none⟩)), (8, .int .i64 x8_2), (9, .int .i32 97), (16, .int .i64 a), (17, .int .i64 x17_2)]) (h' := [(1, .cells (rowC (encI .u8) lh1_2) 0 5 1), (0, .cells [.pointer (some ⟨0, 0, none⟩), .slice (some ⟨1, 0, none⟩) lh1_2.length lh1_2.length] 0 70 0)]) (c' := 2) (by kernel_rfl) ?_
      refine XR.done (by kernel_rfl) ?_
      show XQ _ _ _ _ _ _ _ _
      refine XQ.seq E0_ok (by kernel_rfl) ?_
      refine XQ.seq E0_ok (by kernel_rfl) ?_
      refine XQ.region (by kernel_rfl) ?_
      refine XR.run E0_ok 1 4 [0, 1, 7, 8, 9, 16, 17] rfl (σ' := [(0, .int .i64 a), (1, .int .i64 b), (7, .pointer (some ⟨0, 0, none⟩)), (8, .int .i64 (w64 (x8_2 + b))), (9, .int .i32 97), (16, .int .i64 a), (17, .int .i64 x17_2)]) (h' := [(1, .cells (rowC (encI .u8) lh1_2) 0 5 1), (0, .cells [.pointer (some ⟨0, 0, none⟩), .slice (some ⟨1, 0, none⟩) lh1_2.length lh1_2.length] 0 70 0)]) (c' := 2) (by kernel_rfl) ?_
      refine XR.done (by kernel_rfl) ?_
      show XQ _ _ _ _ _ _ _ _
      refine XQ.seq E0_ok (by kernel_rfl) ?_
      refine XQ.region (by kernel_rfl) ?_
      refine XR.run E0_ok 1 3 [0, 1, 7, 8, 9, 16, 17, 24] rfl (σ' := [(0, .int .i64 a), (1, .int .i64 b), (7, .pointer (some ⟨0, 0, none⟩)), (8, .int .i64 (w64 (x8_2 + b))), (9, .int .i32 97), (16, .int .i64 a), (17, .int .i64 x17_2), (24, .bool (decide ((w64 (x8_2 + b)) ≥ a)))]) (h' := [(1, .cells (rowC (encI .u8) lh1_2) 0 5 1), (0, .cells [.pointer (some ⟨0, 0, none⟩), .slice (some ⟨1, 0, none⟩) lh1_2.length lh1_2.length] 0 70 0)]) (c' := 2) (by kernel_rfl) ?_
      refine XR.done (by kernel_rfl) ?_
      show XQ _ _ _ _ _ _ _ _
      cases b2 : (decide ((w64 (x8_2 + b)) ≥ a) : Bool) with
      | true =>
        have h := cT b2 h
        refine XQ.cond (s := (.tmp 24)) (b := true) (by kernel_rfl) (by kernel_rfl) (fun _ => ?_) (fun q => by cases q)
        refine XQ.region (by kernel_rfl) ?_
        refine XR.run E0_ok 1 5 [0, 1, 7, 8, 9, 16, 17] rfl (σ' := [(0, .int .i64 a), (1, .int .i64 b), (7, .pointer (some ⟨0, 0, none⟩)), (8, .int .i64 (w64 ((w64 (x8_2 + b)) - a))), (9, .int .i32 98), (16, .int .i64 a), (17, .int .i64 x17_2)]) (h' := [(1, .cells (rowC (encI .u8) lh1_2) 0 5 1), (0, .cells [.pointer (some ⟨0, 0, none⟩), .slice (some ⟨1, 0, none⟩) lh1_2.length lh1_2.length] 0 70 0)]) (c' := 2) (by kernel_rfl) ?_
        refine XR.done (by kernel_rfl) ?_
        show XQ _ _ _ _ _ _ _ _
        refine XQ.region (by kernel_rfl) ?_
        refine XR.run E0_ok 1 1 [0, 1, 7, 8, 16, 17, 28] rfl (σ' := [(0, .int .i64 a), (1, .int .i64 b), (7, .pointer (some ⟨0, 0, none⟩)), (8, .int .i64 (w64 ((w64 (x8_2 + b)) - a))), (16, .int .i64 a), (17, .int .i64 x17_2), (28, .int .i32 98)]) (h' := [(1, .cells (rowC (encI .u8) lh1_2) 0 5 1), (0, .cells [.pointer (some ⟨0, 0, none⟩), .slice (some ⟨1, 0, none⟩) lh1_2.length lh1_2.length] 0 70 0)]) (c' := 2) (by kernel_rfl) ?_
        refine XR.callK E0_ok [0, 1, 7, 8, 16, 17] rfl (K := 53) (args := [.pointer (some ⟨0, 0, none⟩), .int .i32 98]) (d := (some (path 12 29))) (by kernel_rfl) ?_
        refine KC.bodyN E0_ok (F := Proofs.Try.f53) (by kernel_rfl) (code := f21_C53) (by kernel_rfl) (nt := 30) (by kernel_rfl) (rs := [.tmp 4, .tmp 5]) (by kernel_rfl) (by kernel_rfl) (σ := [(0, .pointer (some ⟨0, 0, none⟩)), (1, .int .i32 98)]) (by kernel_rfl) ?_
        refine XQ.seq E0_ok (by kernel_rfl) ?_
        refine XQ.region (by kernel_rfl) ?_
        refine XR.run E0_ok 1 2 [0, 1] rfl (σ' := [(0, .pointer (some ⟨0, 0, none⟩)), (1, .int .i32 98)]) (h' := [(1, .cells (rowC (encI .u8) lh1_2) 0 5 1), (0, .cells [.pointer (some ⟨0, 0, none⟩), .slice (some ⟨1, 0, none⟩) lh1_2.length lh1_2.length] 0 70 0)]) (c' := 2) (by kernel_rfl) ?_
        refine XR.done (by kernel_rfl) ?_
        show XQ _ _ _ _ _ _ _ _
        refine XQ.seq E0_ok (by kernel_rfl) ?_
        refine XQ.region (by kernel_rfl) ?_
        refine XR.run E0_ok 1 1 [0, 1, 7] rfl (σ' := [(0, .pointer (some ⟨0, 0, none⟩)), (1, .int .i32 98), (7, .pointer (some ⟨0, 0, none⟩))]) (h' := [(1, .cells (rowC (encI .u8) lh1_2) 0 5 1), (0, .cells [.pointer (some ⟨0, 0, none⟩), .slice (some ⟨1, 0, none⟩) lh1_2.length lh1_2.length] 0 70 0)]) (c' := 2) (by kernel_rfl) ?_
        refine XR.callK E0_ok [0, 1] rfl (K := 67) (args := [.pointer (some ⟨0, 0, none⟩)]) (d := (some (path 12 8))) (by kernel_rfl) ?_
        refine KC.bodyN E0_ok (F := Proofs.Try.f67) (by kernel_rfl) (code := f21_C67) (by kernel_rfl) (nt := 20) (by kernel_rfl) (rs := []) (by kernel_rfl) (by kernel_rfl) (σ := [(0, .pointer (some ⟨0, 0, none⟩))]) (by kernel_rfl) ?_
        refine XQ.seq E0_ok (by kernel_rfl) ?_
        refine XQ.region (by kernel_rfl) ?_
        refine XR.run E0_ok 1 5 [0, 6] rfl (σ' := [(0, .pointer (some ⟨0, 0, none⟩)), (6, .bool false)]) (h' := [(1, .cells (rowC (encI .u8) lh1_2) 0 5 1), (0, .cells [.pointer (some ⟨0, 0, none⟩), .slice (some ⟨1, 0, none⟩) lh1_2.length lh1_2.length] 0 70 0)]) (c' := 2) (by kernel_rfl) ?_
        refine XR.done (by kernel_rfl) ?_
        show XQ _ _ _ _ _ _ _ _
        refine XQ.cond (s := (.tmp 6)) (b := false) (by kernel_rfl) (by kernel_rfl) (fun q => by cases q) (fun _ => ?_)
        refine XQ.seq E0_ok (by kernel_rfl) ?_
        refine XQ.region (by kernel_rfl) ?_
        refine XR.run E0_ok 1 6 [19] rfl (σ' := [(19, .bool false)]) (h' := [(1, .cells (rowC (encI .u8) lh1_2) 0 5 1), (0, .cells [.pointer (some ⟨0, 0, none⟩), .slice (some ⟨1, 0, none⟩) lh1_2.length lh1_2.length] 0 70 0)]) (c' := 2) (by kernel_rfl) ?_
        refine XR.done (by kernel_rfl) ?_
        show XQ _ _ _ _ _ _ _ _
        refine XQ.cond (s := (.tmp 19)) (b := false) (by kernel_rfl) (by kernel_rfl) (fun q => by cases q) (fun _ => ?_)
        refine XQ.skip (by kernel_rfl) ?_
        refine ⟨fun i q => (by cases q), .tuple #[], (by kernel_rfl), ?_⟩
        refine XR.conv (σ' := [(0, .pointer (some ⟨0, 0, none⟩)), (1, .int .i32 98)]) (h' := [(1, .cells (rowC (encI .u8) lh1_2) 0 5 1), (0, .cells [.pointer (some ⟨0, 0, none⟩), .slice (some ⟨1, 0, none⟩) lh1_2.length lh1_2.length] 0 70 0)]) (c' := 2) ?_ (by kernel_rfl)
        refine XR.done (by kernel_rfl) ?_
        show XQ _ _ _ _ _ _ _ _
        refine XQ.seq E0_ok (by kernel_rfl) ?_
        refine XQ.region (by kernel_rfl) ?_
        refine XR.run E0_ok 1 6 [0, 1, 6] rfl (σ' := [(0, .pointer (some ⟨0, 0, none⟩)), (1, .int .i32 98), (6, .int .i64 ((lh1_2.length : Nat) : Int))]) (h' := [(1, .cells (rowC (encI .u8) lh1_2) 0 5 1), (0, .cells [.pointer (some ⟨0, 0, none⟩), .slice (some ⟨1, 0, none⟩) lh1_2.length lh1_2.length] 0 70 0)]) (c' := 2) (by kernel_rfl) ?_
        refine XR.done (by kernel_rfl) ?_
        show XQ _ _ _ _ _ _ _ _
        refine XQ.seq E0_ok (by kernel_rfl) ?_
        refine XQ.region (by kernel_rfl) ?_
        refine XR.run E0_ok 1 6 [0, 6, 14, 18, 19] rfl (σ' := [(0, .pointer (some ⟨0, 0, none⟩)), (6, .int .i64 ((lh1_2.length : Nat) : Int)), (14, .pointer (some ⟨0, 0, none⟩)), (18, .slice (some ⟨1, 0, none⟩) lh1_2.length lh1_2.length), (19, .int .i32 98)]) (h' := [(1, .cells (rowC (encI .u8) lh1_2) 0 5 1), (0, .cells [.pointer (some ⟨0, 0, none⟩), .slice (some ⟨1, 0, none⟩) lh1_2.length lh1_2.length] 0 70 0)]) (c' := 2) (by kernel_rfl) ?_
        refine XR.callK E0_ok [0, 6, 14, 20] rfl (K := 68) (args := [.slice (some ⟨1, 0, none⟩) lh1_2.length lh1_2.length, .int .i32 98]) (d := (some (path 12 20))) (by kernel_rfl) ?_
        refine KC.bodyN E0_ok (F := Proofs.Try.f68) (by kernel_rfl) (code := f21_C68) (by kernel_rfl) (nt := 16) (by kernel_rfl) (rs := [.tmp 4]) (by kernel_rfl) (by kernel_rfl) (σ := [(0, .slice (some ⟨1, 0, none⟩) lh1_2.length lh1_2.length), (1, .int .i32 98)]) (by kernel_rfl) ?_
        refine XQ.seq E0_ok (by kernel_rfl) ?_
        refine XQ.region (by kernel_rfl) ?_
        refine XR.run E0_ok 1 1 [0, 1] rfl (σ' := [(0, .slice (some ⟨1, 0, none⟩) lh1_2.length lh1_2.length), (1, .int .i32 98)]) (h' := [(1, .cells (rowC (encI .u8) lh1_2) 0 5 1), (0, .cells [.pointer (some ⟨0, 0, none⟩), .slice (some ⟨1, 0, none⟩) lh1_2.length lh1_2.length] 0 70 0)]) (c' := 2) (by kernel_rfl) ?_
        refine XR.done (by kernel_rfl) ?_
        show XQ _ _ _ _ _ _ _ _
        refine XQ.seq E0_ok (by kernel_rfl) ?_
        refine XQ.seq E0_ok (by kernel_rfl) ?_
        refine XQ.region (by kernel_rfl) ?_
        refine XR.run E0_ok 1 3 [0, 1, 7] rfl (σ' := [(0, .slice (some ⟨1, 0, none⟩) lh1_2.length lh1_2.length), (1, .int .i32 98), (7, .bool true)]) (h' := [(1, .cells (rowC (encI .u8) lh1_2) 0 5 1), (0, .cells [.pointer (some ⟨0, 0, none⟩), .slice (some ⟨1, 0, none⟩) lh1_2.length lh1_2.length] 0 70 0)]) (c' := 2) (by kernel_rfl) ?_
        refine XR.done (by kernel_rfl) ?_
        show XQ _ _ _ _ _ _ _ _
        refine XQ.cond (s := (.tmp 7)) (b := true) (by kernel_rfl) (by kernel_rfl) (fun _ => ?_) (fun q => by cases q)
        refine XQ.seq E0_ok (by kernel_rfl) ?_
        refine XQ.region (by kernel_rfl) ?_
        refine XR.run E0_ok 1 4 [8, 11] rfl (σ' := [(8, .slice (some ⟨1, 0, none⟩) lh1_2.length lh1_2.length), (11, .slice (some ⟨2, 0, none⟩) 1 1)]) (h' := [(2, .cells [.int .u8 98] 0 5 1), (1, .cells (rowC (encI .u8) lh1_2) 0 5 1), (0, .cells [.pointer (some ⟨0, 0, none⟩), .slice (some ⟨1, 0, none⟩) lh1_2.length lh1_2.length] 0 70 0)]) (c' := 3) (by kernel_rfl) ?_
        cases b3 : (fitsB (lh1_2.length + 1) 1 : Bool) with
        | false => cases (cF b3 h)
        | true =>
          have h := cT b3 h
          refine XR.ef E0_ok [12] rfl (e_append (encI_ok .u8) (bytes := 1) (e := 5) (x := (src 16 (.tmp 8))) (y := (src 16 (.tmp 11))) (b := 1) (len := lh1_2.length) (cap := lh1_2.length) (xs := lh1_2) (m := 0) (ys := [98]) (d := (some (path 12 12))) (n' := (lh1_2 ++ [98]).length) (h' := [(3, .cells (rowC (encI .u8) (lh1_2 ++ [98])) 0 5 1), (2, .cells [.int .u8 98] 0 5 1), (0, .cells [.pointer (some ⟨0, 0, none⟩), .slice (some ⟨1, 0, none⟩) lh1_2.length lh1_2.length] 0 70 0)]) (by kernel_rfl) (by kernel_rfl) (by kernel_rfl) (by kernel_rfl) rfl (by simp) (by simp) b3 (by simp) (by kernel_rfl)) (σ' := [(12, .slice (some ⟨3, 0, none⟩) ((lh1_2 ++ [98]).length) ((lh1_2 ++ [98]).length))]) (by kernel_rfl) ?_
          refine XR.run E0_ok 1 1 [4] rfl (σ' := [(4, .slice (some ⟨3, 0, none⟩) ((lh1_2 ++ [98]).length) ((lh1_2 ++ [98]).length))]) (h' := [(3, .cells (rowC (encI .u8) (lh1_2 ++ [98])) 0 5 1), (2, .cells [.int .u8 98] 0 5 1), (0, .cells [.pointer (some ⟨0, 0, none⟩), .slice (some ⟨1, 0, none⟩) lh1_2.length lh1_2.length] 0 70 0)]) (c' := 4) (by kernel_rfl) ?_
          refine XR.done (by kernel_rfl) ?_
          show XQ _ _ _ _ _ _ _ _
          refine XQ.ret (by kernel_rfl) ?_
          refine ⟨fun i q => (by cases q), .slice (some ⟨3, 0, none⟩) ((lh1_2 ++ [98]).length) ((lh1_2 ++ [98]).length), (by kernel_rfl), ?_⟩
          refine XR.conv (σ' := [(0, .pointer (some ⟨0, 0, none⟩)), (6, .int .i64 ((lh1_2.length : Nat) : Int)), (14, .pointer (some ⟨0, 0, none⟩)), (20, .slice (some ⟨3, 0, none⟩) ((lh1_2 ++ [98]).length) ((lh1_2 ++ [98]).length))]) (h' := [(3, .cells (rowC (encI .u8) (lh1_2 ++ [98])) 0 5 1), (2, .cells [.int .u8 98] 0 5 1), (0, .cells [.pointer (some ⟨0, 0, none⟩), .slice (some ⟨1, 0, none⟩) lh1_2.length lh1_2.length] 0 70 0)]) (c' := 4) ?_ (by kernel_rfl)
          refine XR.run E0_ok 1 3 [0, 6] rfl (σ' := [(0, .pointer (some ⟨0, 0, none⟩)), (6, .int .i64 ((lh1_2.length : Nat) : Int))]) (h' := [(3, .cells (rowC (encI .u8) (lh1_2 ++ [98])) 0 5 1), (2, .cells [.int .u8 98] 0 5 1), (0, .cells [.pointer (some ⟨0, 0, none⟩), .slice (some ⟨3, 0, none⟩) ((lh1_2 ++ [98]).length) ((lh1_2 ++ [98]).length)] 0 70 0)]) (c' := 4) (by kernel_rfl) ?_
          refine XR.done (by kernel_rfl) ?_
          show XQ _ _ _ _ _ _ _ _
          refine XQ.seq E0_ok (by kernel_rfl) ?_
          refine XQ.region (by kernel_rfl) ?_
          refine XR.run E0_ok 1 9 [4, 5] rfl (σ' := [(4, .int .i64 (w64 ((((lh1_2 ++ [98]).length : Nat) : Int) - ((lh1_2.length : Nat) : Int)))), (5, .nilIface)]) (h' := [(3, .cells (rowC (encI .u8) (lh1_2 ++ [98])) 0 5 1), (2, .cells [.int .u8 98] 0 5 1), (0, .cells [.pointer (some ⟨0, 0, none⟩), .slice (some ⟨3, 0, none⟩) ((lh1_2 ++ [98]).length) ((lh1_2 ++ [98]).length)] 0 70 0)]) (c' := 4) (by kernel_rfl) ?_
          refine XR.done (by kernel_rfl) ?_
          show XQ _ _ _ _ _ _ _ _
          refine XQ.ret (by kernel_rfl) ?_
          refine ⟨fun i q => (by cases q), .tuple #[.int .i64 (w64 ((((lh1_2 ++ [98]).length : Nat) : Int) - ((lh1_2.length : Nat) : Int))), .nilIface], (by kernel_rfl), ?_⟩
          refine XR.conv (σ' := [(0, .int .i64 a), (1, .int .i64 b), (7, .pointer (some ⟨0, 0, none⟩)), (8, .int .i64 (w64 ((w64 (x8_2 + b)) - a))), (16, .int .i64 a), (17, .int .i64 x17_2)]) (h' := [(3, .cells (rowC (encI .u8) (lh1_2 ++ [98])) 0 5 1), (2, .cells [.int .u8 98] 0 5 1), (0, .cells [.pointer (some ⟨0, 0, none⟩), .slice (some ⟨3, 0, none⟩) ((lh1_2 ++ [98]).length) ((lh1_2 ++ [98]).length)] 0 70 0)]) (c' := 4) ?_ (by kernel_rfl)
          refine XR.done (by kernel_rfl) ?_
          show XQ _ _ _ _ _ _ _ _
          refine XQ.region (by kernel_rfl) ?_
          refine XR.run E0_ok 1 2 [0, 1, 7, 8, 16, 17] rfl (σ' := [(0, .int .i64 a), (1, .int .i64 b), (7, .pointer (some ⟨0, 0, none⟩)), (8, .int .i64 (w64 ((w64 (x8_2 + b)) - a))), (16, .int .i64 a), (17, .int .i64 (w64 (x17_2 + 1)))]) (h' := [(3, .cells (rowC (encI .u8) (lh1_2 ++ [98])) 0 5 1), (2, .cells [.int .u8 98] 0 5 1), (0, .cells [.pointer (some ⟨0, 0, none⟩), .slice (some ⟨3, 0, none⟩) ((lh1_2 ++ [98]).length) ((lh1_2 ++ [98]).length)] 0 70 0)]) (c' := 4) (by kernel_rfl) ?_
          refine XR.done (by kernel_rfl) ?_
          show XL _ _ _ _ _ _ _ _ _
          refine XL.ren (σ' := [(0, .int .i64 a), (1, .int .i64 b), (7, .pointer (some ⟨0, 0, none⟩)), (8, .int .i64 (w64 ((w64 (x8_2 + b)) - a))), (16, .int .i64 a), (17, .int .i64 (w64 (x17_2 + 1)))]) (h' := [(1, .cells (rowC (encI .u8) (lh1_2 ++ [98])) 0 5 1), (0, .cells [.pointer (some ⟨0, 0, none⟩), .slice (some ⟨1, 0, none⟩) ((lh1_2 ++ [98]).length) ((lh1_2 ++ [98]).length)] 0 70 0)]) (c' := 2) [0, 3] (by decide) rfl ⟨by kernel_rfl, by kernel_rfl, by kernel_rfl, by kernel_rfl, by kernel_rfl, by kernel_rfl, trivial⟩ ⟨⟨_, _, rfl, rfl, .inl ⟨rfl, rowC_scal (encI_ok .u8) _⟩⟩, ⟨_, _, rfl, rfl, .inr ⟨_, _, _, _, rfl, rfl⟩⟩, trivial⟩ rfl ?_
          refine XL.conv (f21_2_ok m fuel a b (w64 ((w64 (x8_2 + b)) - a)) (w64 (x17_2 + 1)) (lh1_2 ++ [98]) o h Q hQ) (by first | rfl | simp)
      | false =>
        have h := cF b2 h
        refine XQ.cond (s := (.tmp 24)) (b := false) (by kernel_rfl) (by kernel_rfl) (fun q => by cases q) (fun _ => ?_)
        refine XQ.skip (by kernel_rfl) ?_
        show XQ _ _ _ _ _ _ _ _
        refine XQ.region (by kernel_rfl) ?_
        refine XR.run E0_ok 1 1 [0, 1, 7, 8, 16, 17, 28] rfl (σ' := [(0, .int .i64 a), (1, .int .i64 b), (7, .pointer (some ⟨0, 0, none⟩)), (8, .int .i64 (w64 (x8_2 + b))), (16, .int .i64 a), (17, .int .i64 x17_2), (28, .int .i32 97)]) (h' := [(1, .cells (rowC (encI .u8) lh1_2) 0 5 1), (0, .cells [.pointer (some ⟨0, 0, none⟩), .slice (some ⟨1, 0, none⟩) lh1_2.length lh1_2.length] 0 70 0)]) (c' := 2) (by kernel_rfl) ?_
        refine XR.callK E0_ok [0, 1, 7, 8, 16, 17] rfl (K := 53) (args := [.pointer (some ⟨0, 0, none⟩), .int .i32 97]) (d := (some (path 12 29))) (by kernel_rfl) ?_
        refine KC.bodyN E0_ok (F := Proofs.Try.f53) (by kernel_rfl) (code := f21_C53) (by kernel_rfl) (nt := 30) (by kernel_rfl) (rs := [.tmp 4, .tmp 5]) (by kernel_rfl) (by kernel_rfl) (σ := [(0, .pointer (some ⟨0, 0, none⟩)), (1, .int .i32 97)]) (by kernel_rfl) ?_
        refine XQ.seq E0_ok (by kernel_rfl) ?_
        refine XQ.region (by kernel_rfl) ?_
        refine XR.run E0_ok 1 2 [0, 1] rfl (σ' := [(0, .pointer (some ⟨0, 0, none⟩)), (1, .int .i32 97)]) (h' := [(1, .cells (rowC (encI .u8) lh1_2) 0 5 1), (0, .cells [.pointer (some ⟨0, 0, none⟩), .slice (some ⟨1, 0, none⟩) lh1_2.length lh1_2.length] 0 70 0)]) (c' := 2) (by kernel_rfl) ?_
        refine XR.done (by kernel_rfl) ?_
        show XQ _ _ _ _ _ _ _ _
        refine XQ.seq E0_ok (by kernel_rfl) ?_
        refine XQ.region (by kernel_rfl) ?_
        refine XR.run E0_ok 1 1 [0, 1, 7] rfl (σ' := [(0, .pointer (some ⟨0, 0, none⟩)), (1, .int .i32 97), (7, .pointer (some ⟨0, 0, none⟩))]) (h' := [(1, .cells (rowC (encI .u8) lh1_2) 0 5 1), (0, .cells [.pointer (some ⟨0, 0, none⟩), .slice (some ⟨1, 0, none⟩) lh1_2.length lh1_2.length] 0 70 0)]) (c' := 2) (by kernel_rfl) ?_
        refine XR.callK E0_ok [0, 1] rfl (K := 67) (args := [.pointer (some ⟨0, 0, none⟩)]) (d := (some (path 12 8))) (by kernel_rfl) ?_
        refine KC.bodyN E0_ok (F := Proofs.Try.f67) (by kernel_rfl) (code := f21_C67) (by kernel_rfl) (nt := 20) (by kernel_rfl) (rs := []) (by kernel_rfl) (by kernel_rfl) (σ := [(0, .pointer (some ⟨0, 0, none⟩))]) (by kernel_rfl) ?_
        refine XQ.seq E0_ok (by kernel_rfl) ?_
        refine XQ.region (by kernel_rfl) ?_
        refine XR.run E0_ok 1 5 [0, 6] rfl (σ' := [(0, .pointer (some ⟨0, 0, none⟩)), (6, .bool false)]) (h' := [(1, .cells (rowC (encI .u8) lh1_2) 0 5 1), (0, .cells [.pointer (some ⟨0, 0, none⟩), .slice (some ⟨1, 0, none⟩) lh1_2.length lh1_2.length] 0 70 0)]) (c' := 2) (by kernel_rfl) ?_
        refine XR.done (by kernel_rfl) ?_
        show XQ _ _ _ _ _ _ _ _
        refine XQ.cond (s := (.tmp 6)) (b := false) (by kernel_rfl) (by kernel_rfl) (fun q => by cases q) (fun _ => ?_)
        refine XQ.seq E0_ok (by kernel_rfl) ?_
        refine XQ.region (by kernel_rfl) ?_
        refine XR.run E0_ok 1 6 [19] rfl (σ' := [(19, .bool false)]) (h' := [(1, .cells (rowC (encI .u8) lh1_2) 0 5 1), (0, .cells [.pointer (some ⟨0, 0, none⟩), .slice (some ⟨1, 0, none⟩) lh1_2.length lh1_2.length] 0 70 0)]) (c' := 2) (by kernel_rfl) ?_
        refine XR.done (by kernel_rfl) ?_
        show XQ _ _ _ _ _ _ _ _
        refine XQ.cond (s := (.tmp 19)) (b := false) (by kernel_rfl) (by kernel_rfl) (fun q => by cases q) (fun _ => ?_)
        refine XQ.skip (by kernel_rfl) ?_
        refine ⟨fun i q => (by cases q), .tuple #[], (by kernel_rfl), ?_⟩
        refine XR.conv (σ' := [(0, .pointer (some ⟨0, 0, none⟩)), (1, .int .i32 97)]) (h' := [(1, .cells (rowC (encI .u8) lh1_2) 0 5 1), (0, .cells [.pointer (some ⟨0, 0, none⟩), .slice (some ⟨1, 0, none⟩) lh1_2.length lh1_2.length] 0 70 0)]) (c' := 2) ?_ (by kernel_rfl)
        refine XR.done (by kernel_rfl) ?_
        show XQ _ _ _ _ _ _ _ _
        refine XQ.seq E0_ok (by kernel_rfl) ?_
        refine XQ.region (by kernel_rfl) ?_
        refine XR.run E0_ok 1 6 [0, 1, 6] rfl (σ' := [(0, .pointer (some ⟨0, 0, none⟩)), (1, .int .i32 97), (6, .int .i64 ((lh1_2.length : Nat) : Int))]) (h' := [(1, .cells (rowC (encI .u8) lh1_2) 0 5 1), (0, .cells [.pointer (some ⟨0, 0, none⟩), .slice (some ⟨1, 0, none⟩) lh1_2.length lh1_2.length] 0 70 0)]) (c' := 2) (by kernel_rfl) ?_
        refine XR.done (by kernel_rfl) ?_
        show XQ _ _ _ _ _ _ _ _
        refine XQ.seq E0_ok (by kernel_rfl) ?_
        refine XQ.region (by kernel_rfl) ?_
        refine XR.run E0_ok 1 6 [0, 6, 14, 18, 19] rfl (σ' := [(0, .pointer (some ⟨0, 0, none⟩)), (6, .int .i64 ((lh1_2.length : Nat) : Int)), (14, .pointer (some ⟨0, 0, none⟩)), (18, .slice (some ⟨1, 0, none⟩) lh1_2.length lh1_2.length), (19, .int .i32 97)]) (h' := [(1, .cells (rowC (encI .u8) lh1_2) 0 5 1), (0, .cells [.pointer (some ⟨0, 0, none⟩), .slice (some ⟨1, 0, none⟩) lh1_2.length lh1_2.length] 0 70 0)]) (c' := 2) (by kernel_rfl) ?_
        refine XR.callK E0_ok [0, 6, 14, 20] rfl (K := 68) (args := [.slice (some ⟨1, 0, none⟩) lh1_2.length lh1_2.length, .int .i32 97]) (d := (some (path 12 20))) (by kernel_rfl) ?_
        refine KC.bodyN E0_ok (F := Proofs.Try.f68) (by kernel_rfl) (code := f21_C68) (by kernel_rfl) (nt := 16) (by kernel_rfl) (rs := [.tmp 4]) (by kernel_rfl) (by kernel_rfl) (σ := [(0, .slice (some ⟨1, 0, none⟩) lh1_2.length lh1_2.length), (1, .int .i32 97)]) (by kernel_rfl) ?_
        refine XQ.seq E0_ok (by kernel_rfl) ?_
        refine XQ.region (by kernel_rfl) ?_
        refine XR.run E0_ok 1 1 [0, 1] rfl (σ' := [(0, .slice (some ⟨1, 0, none⟩) lh1_2.length lh1_2.length), (1, .int .i32 97)]) (h' := [(1, .cells (rowC (encI .u8) lh1_2) 0 5 1), (0, .cells [.pointer (some ⟨0, 0, none⟩), .slice (some ⟨1, 0, none⟩) lh1_2.length lh1_2.length] 0 70 0)]) (c' := 2) (by kernel_rfl) ?_
        refine XR.done (by kernel_rfl) ?_
        show XQ _ _ _ _ _ _ _ _
        refine XQ.seq E0_ok (by kernel_rfl) ?_
        refine XQ.seq E0_ok (by kernel_rfl) ?_
        refine XQ.region (by kernel_rfl) ?_
        refine XR.run E0_ok 1 3 [0, 1, 7] rfl (σ' := [(0, .slice (some ⟨1, 0, none⟩) lh1_2.length lh1_2.length), (1, .int .i32 97), (7, .bool true)]) (h' := [(1, .cells (rowC (encI .u8) lh1_2) 0 5 1), (0, .cells [.pointer (some ⟨0, 0, none⟩), .slice (some ⟨1, 0, none⟩) lh1_2.length lh1_2.length] 0 70 0)]) (c' := 2) (by kernel_rfl) ?_
        refine XR.done (by kernel_rfl) ?_
        show XQ _ _ _ _ _ _ _ _
        refine XQ.cond (s := (.tmp 7)) (b := true) (by kernel_rfl) (by kernel_rfl) (fun _ => ?_) (fun q => by cases q)
        refine XQ.seq E0_ok (by kernel_rfl) ?_
        refine XQ.region (by kernel_rfl) ?_
        refine XR.run E0_ok 1 4 [8, 11] rfl (σ' := [(8, .slice (some ⟨1, 0, none⟩) lh1_2.length lh1_2.length), (11, .slice (some ⟨2, 0, none⟩) 1 1)]) (h' := [(2, .cells [.int .u8 97] 0 5 1), (1, .cells (rowC (encI .u8) lh1_2) 0 5 1), (0, .cells [.pointer (some ⟨0, 0, none⟩), .slice (some ⟨1, 0, none⟩) lh1_2.length lh1_2.length] 0 70 0)]) (c' := 3) (by kernel_rfl) ?_
        cases b4 : (fitsB (lh1_2.length + 1) 1 : Bool) with
        | false => cases (cF b4 h)
        | true =>
          have h := cT b4 h
          refine XR.ef E0_ok [12] rfl (e_append (encI_ok .u8) (bytes := 1) (e := 5) (x := (src 16 (.tmp 8))) (y := (src 16 (.tmp 11))) (b := 1) (len := lh1_2.length) (cap := lh1_2.length) (xs := lh1_2) (m := 0) (ys := [97]) (d := (some (path 12 12))) (n' := (lh1_2 ++ [97]).length) (h' := [(3, .cells (rowC (encI .u8) (lh1_2 ++ [97])) 0 5 1), (2, .cells [.int .u8 97] 0 5 1), (0, .cells [.pointer (some ⟨0, 0, none⟩), .slice (some ⟨1, 0, none⟩) lh1_2.length lh1_2.length] 0 70 0)]) (by kernel_rfl) (by kernel_rfl) (by kernel_rfl) (by kernel_rfl) rfl (by simp) (by simp) b4 (by simp) (by kernel_rfl)) (σ' := [(12, .slice (some ⟨3, 0, none⟩) ((lh1_2 ++ [97]).length) ((lh1_2 ++ [97]).length))]) (by kernel_rfl) ?_
          refine XR.run E0_ok 1 1 [4] rfl (σ' := [(4, .slice (some ⟨3, 0, none⟩) ((lh1_2 ++ [97]).length) ((lh1_2 ++ [97]).length))]) (h' := [(3, .cells (rowC (encI .u8) (lh1_2 ++ [97])) 0 5 1), (2, .cells [.int .u8 97] 0 5 1), (0, .cells [.pointer (some ⟨0, 0, none⟩), .slice (some ⟨1, 0, none⟩) lh1_2.length lh1_2.length] 0 70 0)]) (c' := 4) (by kernel_rfl) ?_
          refine XR.done (by kernel_rfl) ?_
          show XQ _ _ _ _ _ _ _ _
          refine XQ.ret (by kernel_rfl) ?_
          refine ⟨fun i q => (by cases q), .slice (some ⟨3, 0, none⟩) ((lh1_2 ++ [97]).length) ((lh1_2 ++ [97]).length), (by kernel_rfl), ?_⟩
          refine XR.conv (σ' := [(0, .pointer (some ⟨0, 0, none⟩)), (6, .int .i64 ((lh1_2.length : Nat) : Int)), (14, .pointer (some ⟨0, 0, none⟩)), (20, .slice (some ⟨3, 0, none⟩) ((lh1_2 ++ [97]).length) ((lh1_2 ++ [97]).length))]) (h' := [(3, .cells (rowC (encI .u8) (lh1_2 ++ [97])) 0 5 1), (2, .cells [.int .u8 97] 0 5 1), (0, .cells [.pointer (some ⟨0, 0, none⟩), .slice (some ⟨1, 0, none⟩) lh1_2.length lh1_2.length] 0 70 0)]) (c' := 4) ?_ (by kernel_rfl)
          refine XR.run E0_ok 1 3 [0, 6] rfl (σ' := [(0, .pointer (some ⟨0, 0, none⟩)), (6, .int .i64 ((lh1_2.length : Nat) : Int))]) (h' := [(3, .cells (rowC (encI .u8) (lh1_2 ++ [97])) 0 5 1), (2, .cells [.int .u8 97] 0 5 1), (0, .cells [.pointer (some ⟨0, 0, none⟩), .slice (some ⟨3, 0, none⟩) ((lh1_2 ++ [97]).length) ((lh1_2 ++ [97]).length)] 0 70 0)]) (c' := 4) (by kernel_rfl) ?_
          refine XR.done (by kernel_rfl) ?_
          show XQ _ _ _ _ _ _ _ _
          refine XQ.seq E0_ok (by kernel_rfl) ?_
          refine XQ.region (by kernel_rfl) ?_
          refine XR.run E0_ok 1 9 [4, 5] rfl (σ' := [(4, .int .i64 (w64 ((((lh1_2 ++ [97]).length : Nat) : Int) - ((lh1_2.length : Nat) : Int)))), (5, .nilIface)]) (h' := [(3, .cells (rowC (encI .u8) (lh1_2 ++ [97])) 0 5 1), (2, .cells [.int .u8 97] 0 5 1), (0, .cells [.pointer (some ⟨0, 0, none⟩), .slice (some ⟨3, 0, none⟩) ((lh1_2 ++ [97]).length) ((lh1_2 ++ [97]).length)] 0 70 0)]) (c' := 4) (by kernel_rfl) ?_
          refine XR.done (by kernel_rfl) ?_
          show XQ _ _ _ _ _ _ _ _
          refine XQ.ret (by kernel_rfl) ?_
          refine ⟨fun i q => (by cases q), .tuple #[.int .i64 (w64 ((((lh1_2 ++ [97]).length : Nat) : Int) - ((lh1_2.length : Nat) : Int))), .nilIface], (by kernel_rfl), ?_⟩
          refine XR.conv (σ' := [(0, .int .i64 a), (1, .int .i64 b), (7, .pointer (some ⟨0, 0, none⟩)), (8, .int .i64 (w64 (x8_2 + b))), (16, .int .i64 a), (17, .int .i64 x17_2)]) (h' := [(3, .cells (rowC (encI .u8) (lh1_2 ++ [97])) 0 5 1), (2, .cells [.int .u8 97] 0 5 1), (0, .cells [.pointer (some ⟨0, 0, none⟩), .slice (some ⟨3, 0, none⟩) ((lh1_2 ++ [97]).length) ((lh1_2 ++ [97]).length)] 0 70 0)]) (c' := 4) ?_ (by kernel_rfl)
          refine XR.done (by kernel_rfl) ?_
          show XQ _ _ _ _ _ _ _ _
          refine XQ.region (by kernel_rfl) ?_
          refine XR.run E0_ok 1 2 [0, 1, 7, 8, 16, 17] rfl (σ' := [(0, .int .i64 a), (1, .int .i64 b), (7, .pointer (some ⟨0, 0, none⟩)), (8, .int .i64 (w64 (x8_2 + b))), (16, .int .i64 a), (17, .int .i64 (w64 (x17_2 + 1)))]) (h' := [(3, .cells (rowC (encI .u8) (lh1_2 ++ [97])) 0 5 1), (2, .cells [.int .u8 97] 0 5 1), (0, .cells [.pointer (some ⟨0, 0, none⟩), .slice (some ⟨3, 0, none⟩) ((lh1_2 ++ [97]).length) ((lh1_2 ++ [97]).length)] 0 70 0)]) (c' := 4) (by kernel_rfl) ?_
          refine XR.done (by kernel_rfl) ?_
          show XL _ _ _ _ _ _ _ _ _
          refine XL.ren (σ' := [(0, .int .i64 a), (1, .int .i64 b), (7, .pointer (some ⟨0, 0, none⟩)), (8, .int .i64 (w64 (x8_2 + b))), (16, .int .i64 a), (17, .int .i64 (w64 (x17_2 + 1)))]) (h' := [(1, .cells (rowC (encI .u8) (lh1_2 ++ [97])) 0 5 1), (0, .cells [.pointer (some ⟨0, 0, none⟩), .slice (some ⟨1, 0, none⟩) ((lh1_2 ++ [97]).length) ((lh1_2 ++ [97]).length)] 0 70 0)]) (c' := 2) [0, 3] (by decide) rfl ⟨by kernel_rfl, by kernel_rfl, by kernel_rfl, by kernel_rfl, by kernel_rfl, by kernel_rfl, trivial⟩ ⟨⟨_, _, rfl, rfl, .inl ⟨rfl, rowC_scal (encI_ok .u8) _⟩⟩, ⟨_, _, rfl, rfl, .inr ⟨_, _, _, _, rfl, rfl⟩⟩, trivial⟩ rfl ?_
          refine XL.conv (f21_2_ok m fuel a b (w64 (x8_2 + b)) (w64 (x17_2 + 1)) (lh1_2 ++ [97]) o h Q hQ) (by first | rfl | simp)
    | false =>
      have h := cF b1 h
      refine XQ.cond (s := (.tmp 18)) (b := false) (by kernel_rfl) (by kernel_rfl) (fun q => by cases q) (fun _ => ?_)
      refine XQ.ren (σ' := [(7, .pointer (some ⟨0, 0, none⟩))]) (h' := [(1, .cells (rowC (encI .u8) lh1_2) 0 5 1), (0, .cells [.pointer (some ⟨0, 0, none⟩), .slice (some ⟨1, 0, none⟩) lh1_2.length lh1_2.length] 0 70 0)]) (c' := 2) [0, 1] (by decide) rfl ⟨by kernel_rfl, trivial⟩ ⟨⟨_, _, rfl, rfl, .inl ⟨rfl, rowC_scal (encI_ok .u8) _⟩⟩, ⟨_, _, rfl, rfl, .inr ⟨_, _, _, _, rfl, rfl⟩⟩, trivial⟩ rfl ?_
      refine XQ.exit (i := 0) (by kernel_rfl) ?_
      cases h
      exact hQ

def f21 (m : Nat) (a : Int) (b : Int) : Option (ByteArray × Int) :=
  cond (decide ((1 : Int) ≤ a)) (
    cond (!(decide (a ≤ 16))) (
      some ((bs []), 1)
    ) (
      cond (decide ((0 : Int) ≤ b)) (
        cond (!(decide (b ≤ a))) (
          some ((bs []), 1)
        ) (
          cond (decide ((0 : Int) < a)) (
            cond (decide ((w64 (0 + b)) ≥ a)) (
              (f21_1 m m a b (w64 ((w64 (0 + b)) - a)) 1 [98]).bind fun o1 =>
                cond (decide (0 < o1.length)) (
                  cond (decide (o1.length ≤ 1000000000)) (
                    cond (bytesB o1) (
                      some (strI o1, 0)
                    ) none
                  ) none
                ) none
            ) (
              (f21_2 m m a b (w64 (0 + b)) 1 [97]).bind fun o2 =>
                cond (decide (0 < o2.length)) (
                  cond (decide (o2.length ≤ 1000000000)) (
                    cond (bytesB o2) (
                      some (strI o2, 0)
                    ) none
                  ) none
                ) none
            )
          ) none
        )
      ) (
        some ((bs []), 1)
      )
    )
  ) (
    some ((bs []), 1)
  )

theorem f21_ok (m : Nat) (a : Int) (b : Int) (o : ByteArray × Int) (h : f21 m a b = some o) (w : World) (hI : maxInv w) : Calls Proofs.Try.prog 21 #[.int .i64 a, .int .i64 b] w fun e w' => e = .returned (.tuple #[.string o.1, .int .i64 o.2]) ∧ Below w.heap.size w w' := by
  refine KC.calls (E := E0) (args := [.int .i64 a, .int .i64 b]) (v := .tuple #[.string o.1, .int .i64 o.2]) rfl rfl (KC.bodyN E0_ok (F := Proofs.Try.f21) (by kernel_rfl) (code := f21_C21) (by kernel_rfl) (nt := 32) (by kernel_rfl) (rs := [.tmp 4, .tmp 5]) (by kernel_rfl) (by kernel_rfl) (σ := [(0, .int .i64 a), (1, .int .i64 b)]) (by kernel_rfl) ?_) w (maxInv_size hI) hI
  unfold f21 at h
  refine XQ.seq E0_ok (by kernel_rfl) ?_
  refine XQ.region (by kernel_rfl) ?_
  refine XR.run E0_ok 1 2 [0, 1] rfl (σ' := [(0, .int .i64 a), (1, .int .i64 b)]) (h' := []) (c' := 0) (by kernel_rfl) ?_
  refine XR.done (by kernel_rfl) ?_
  show XQ _ _ _ _ _ _ _ _
  refine XQ.seq E0_ok (by kernel_rfl) ?_
  refine XQ.seq E0_ok (by kernel_rfl) ?_
  refine XQ.region (by kernel_rfl) ?_
  refine XR.run E0_ok 1 2 [0, 1, 10, 11] rfl (σ' := [(0, .int .i64 a), (1, .int .i64 b), (10, .int .i64 a), (11, .int .i64 b)]) (h' := []) (c' := 0) (by kernel_rfl) ?_
  refine XR.callK E0_ok [0, 1, 12] rfl (K := 52) (args := [.int .i64 a, .int .i64 b]) (d := (some (path 12 12))) (by kernel_rfl) ?_
  refine KC.bodyN E0_ok (F := Proofs.Try.f52) (by kernel_rfl) (code := f21_C52) (by kernel_rfl) (nt := 14) (by kernel_rfl) (rs := [.tmp 4]) (by kernel_rfl) (by kernel_rfl) (σ := [(0, .int .i64 a), (1, .int .i64 b)]) (by kernel_rfl) ?_
  refine XQ.seq E0_ok (by kernel_rfl) ?_
  refine XQ.region (by kernel_rfl) ?_
  refine XR.run E0_ok 1 1 [0, 1] rfl (σ' := [(0, .int .i64 a), (1, .int .i64 b)]) (h' := []) (c' := 0) (by kernel_rfl) ?_
  refine XR.done (by kernel_rfl) ?_
  show XQ _ _ _ _ _ _ _ _
  refine XQ.seq E0_ok (by kernel_rfl) ?_
  refine XQ.seq E0_ok (by kernel_rfl) ?_
  refine XQ.region (by kernel_rfl) ?_
  refine XR.run E0_ok 1 1 [0, 1, 5] rfl (σ' := [(0, .int .i64 a), (1, .int .i64 b), (5, .int .i64 a)]) (h' := []) (c' := 0) (by kernel_rfl) ?_
  refine XR.callK E0_ok [0, 1, 6] rfl (K := 47) (args := [.int .i64 a, .int .i64 1, .int .i64 16]) (d := (some (path 12 6))) (by kernel_rfl) ?_
  refine KC.bodyN E0_ok (F := Proofs.Try.f47) (by kernel_rfl) (code := f21_C47) (by kernel_rfl) (nt := 15) (by kernel_rfl) (rs := [.tmp 6]) (by kernel_rfl) (by kernel_rfl) (σ := [(0, .int .i64 a), (1, .int .i64 1), (2, .int .i64 16)]) (by kernel_rfl) ?_
  refine XQ.seq E0_ok (by kernel_rfl) ?_
  refine XQ.region (by kernel_rfl) ?_
  refine XR.run E0_ok 1 1 [0, 1, 2] rfl (σ' := [(0, .int .i64 a), (1, .int .i64 1), (2, .int .i64 16)]) (h' := []) (c' := 0) (by kernel_rfl) ?_
  refine XR.done (by kernel_rfl) ?_
  show XQ _ _ _ _ _ _ _ _
  refine XQ.seq E0_ok (by kernel_rfl) ?_
  refine XQ.region (by kernel_rfl) ?_
  refine XR.run E0_ok 1 4 [0, 2, 10] rfl (σ' := [(0, .int .i64 a), (2, .int .i64 16), (10, .bool (decide ((1 : Int) ≤ a)))]) (h' := []) (c' := 0) (by kernel_rfl) ?_
  cases b1 : (decide ((1 : Int) ≤ a) : Bool) with
  | true =>
    have h := cT b1 h
    refine XR.run E0_ok 1 5 [6] rfl (σ' := [(6, .bool (decide (a ≤ 16)))]) (h' := []) (c' := 0) (by kernel_rfl) ?_
    refine XR.done (by kernel_rfl) ?_
    show XQ _ _ _ _ _ _ _ _
    refine XQ.ret (by kernel_rfl) ?_
    refine ⟨fun i q => (by cases q), .bool (decide (a ≤ 16)), (by kernel_rfl), ?_⟩
    refine XR.conv (σ' := [(0, .int .i64 a), (1, .int .i64 b), (6, .bool (decide (a ≤ 16)))]) (h' := []) (c' := 0) ?_ (by kernel_rfl)
    refine XR.run E0_ok 1 2 [0, 1, 8] rfl (σ' := [(0, .int .i64 a), (1, .int .i64 b), (8, .bool (!(decide (a ≤ 16))))]) (h' := []) (c' := 0) (by kernel_rfl) ?_
    cases b2 : (!(decide (a ≤ 16)) : Bool) with
    | true =>
      have h := cT b2 h
      refine XR.run E0_ok 1 5 [13] rfl (σ' := [(13, .bool true)]) (h' := []) (c' := 0) (by kernel_rfl) ?_
      refine XR.done (by kernel_rfl) ?_
      show XQ _ _ _ _ _ _ _ _
      refine XQ.cond (s := (.tmp 13)) (b := true) (by kernel_rfl) (by kernel_rfl) (fun _ => ?_) (fun q => by cases q)
      refine XQ.seq E0_ok (by kernel_rfl) ?_
      refine XQ.region (by kernel_rfl) ?_
      refine XR.run E0_ok 1 1 [4] rfl (σ' := [(4, .int .i64 1)]) (h' := []) (c' := 0) (by kernel_rfl) ?_
      refine XR.done (by kernel_rfl) ?_
      show XQ _ _ _ _ _ _ _ _
      refine XQ.ret (by kernel_rfl) ?_
      refine ⟨fun i q => (by cases q), .int .i64 1, (by kernel_rfl), ?_⟩
      refine XR.conv (σ' := [(0, .int .i64 a), (1, .int .i64 b), (12, .int .i64 1)]) (h' := []) (c' := 0) ?_ (by kernel_rfl)
      refine XR.run E0_ok 1 1 [0, 1, 6] rfl (σ' := [(0, .int .i64 a), (1, .int .i64 b), (6, .int .i64 1)]) (h' := []) (c' := 0) (by kernel_rfl) ?_
      refine XR.done (by kernel_rfl) ?_
      show XQ _ _ _ _ _ _ _ _
      refine XQ.seq E0_ok (by kernel_rfl) ?_
      refine XQ.region (by kernel_rfl) ?_
      refine XR.run E0_ok 1 2 [0, 1, 6, 14] rfl (σ' := [(0, .int .i64 a), (1, .int .i64 b), (6, .int .i64 1), (14, .bool true)]) (h' := []) (c' := 0) (by kernel_rfl) ?_
      refine XR.done (by kernel_rfl) ?_
      show XQ _ _ _ _ _ _ _ _
      refine XQ.cond (s := (.tmp 14)) (b := true) (by kernel_rfl) (by kernel_rfl) (fun _ => ?_) (fun q => by cases q)
      refine XQ.seq E0_ok (by kernel_rfl) ?_
      refine XQ.region (by kernel_rfl) ?_
      refine XR.run E0_ok 1 3 [4, 5] rfl (σ' := [(4, .string (bs [])), (5, .int .i64 1)]) (h' := []) (c' := 0) (by kernel_rfl) ?_
      refine XR.done (by kernel_rfl) ?_
      show XQ _ _ _ _ _ _ _ _
      refine XQ.ret (by kernel_rfl) ?_
      have h := Option.some.inj h
      subst h
      exact ⟨fun i q => (by cases q), .tuple #[.string (bs []), .int .i64 1], (by kernel_rfl), rfl⟩
    | false =>
      have h := cF b2 h
      refine XR.run E0_ok 1 2 [8, 9, 10] rfl (σ' := [(8, .bool false), (9, .int .i64 b), (10, .int .i64 a)]) (h' := []) (c' := 0) (by kernel_rfl) ?_
      refine XR.callK E0_ok [8, 11] rfl (K := 47) (args := [.int .i64 b, .int .i64 0, .int .i64 a]) (d := (some (path 12 11))) (by kernel_rfl) ?_
      refine KC.bodyN E0_ok (F := Proofs.Try.f47) (by kernel_rfl) (code := f21_C47) (by kernel_rfl) (nt := 15) (by kernel_rfl) (rs := [.tmp 6]) (by kernel_rfl) (by kernel_rfl) (σ := [(0, .int .i64 b), (1, .int .i64 0), (2, .int .i64 a)]) (by kernel_rfl) ?_
      refine XQ.seq E0_ok (by kernel_rfl) ?_
      refine XQ.region (by kernel_rfl) ?_
      refine XR.run E0_ok 1 1 [0, 1, 2] rfl (σ' := [(0, .int .i64 b), (1, .int .i64 0), (2, .int .i64 a)]) (h' := []) (c' := 0) (by kernel_rfl) ?_
      refine XR.done (by kernel_rfl) ?_
      show XQ _ _ _ _ _ _ _ _
      refine XQ.seq E0_ok (by kernel_rfl) ?_
      refine XQ.region (by kernel_rfl) ?_
      refine XR.run E0_ok 1 4 [0, 2, 10] rfl (σ' := [(0, .int .i64 b), (2, .int .i64 a), (10, .bool (decide ((0 : Int) ≤ b)))]) (h' := []) (c' := 0) (by kernel_rfl) ?_
      cases b3 : (decide ((0 : Int) ≤ b) : Bool) with
      | true =>
        have h := cT b3 h
        refine XR.run E0_ok 1 5 [6] rfl (σ' := [(6, .bool (decide (b ≤ a)))]) (h' := []) (c' := 0) (by kernel_rfl) ?_
        refine XR.done (by kernel_rfl) ?_
        show XQ _ _ _ _ _ _ _ _
        refine XQ.ret (by kernel_rfl) ?_
        refine ⟨fun i q => (by cases q), .bool (decide (b ≤ a)), (by kernel_rfl), ?_⟩
        refine XR.conv (σ' := [(8, .bool false), (11, .bool (decide (b ≤ a)))]) (h' := []) (c' := 0) ?_ (by kernel_rfl)
        refine XR.run E0_ok 1 2 [13] rfl (σ' := [(13, .bool (!(decide (b ≤ a))))]) (h' := []) (c' := 0) (by kernel_rfl) ?_
        refine XR.done (by kernel_rfl) ?_
        show XQ _ _ _ _ _ _ _ _
        cases b4 : (!(decide (b ≤ a)) : Bool) with
        | true =>
          have h := cT b4 h
          refine XQ.cond (s := (.tmp 13)) (b := true) (by kernel_rfl) (by kernel_rfl) (fun _ => ?_) (fun q => by cases q)
          refine XQ.seq E0_ok (by kernel_rfl) ?_
          refine XQ.region (by kernel_rfl) ?_
          refine XR.run E0_ok 1 1 [4] rfl (σ' := [(4, .int .i64 1)]) (h' := []) (c' := 0) (by kernel_rfl) ?_
          refine XR.done (by kernel_rfl) ?_
          show XQ _ _ _ _ _ _ _ _
          refine XQ.ret (by kernel_rfl) ?_
          refine ⟨fun i q => (by cases q), .int .i64 1, (by kernel_rfl), ?_⟩
          refine XR.conv (σ' := [(0, .int .i64 a), (1, .int .i64 b), (12, .int .i64 1)]) (h' := []) (c' := 0) ?_ (by kernel_rfl)
          refine XR.run E0_ok 1 1 [0, 1, 6] rfl (σ' := [(0, .int .i64 a), (1, .int .i64 b), (6, .int .i64 1)]) (h' := []) (c' := 0) (by kernel_rfl) ?_
          refine XR.done (by kernel_rfl) ?_
          show XQ _ _ _ _ _ _ _ _
          refine XQ.seq E0_ok (by kernel_rfl) ?_
          refine XQ.region (by kernel_rfl) ?_
          refine XR.run E0_ok 1 2 [0, 1, 6, 14] rfl (σ' := [(0, .int .i64 a), (1, .int .i64 b), (6, .int .i64 1), (14, .bool true)]) (h' := []) (c' := 0) (by kernel_rfl) ?_
          refine XR.done (by kernel_rfl) ?_
          show XQ _ _ _ _ _ _ _ _
          refine XQ.cond (s := (.tmp 14)) (b := true) (by kernel_rfl) (by kernel_rfl) (fun _ => ?_) (fun q => by cases q)
          refine XQ.seq E0_ok (by kernel_rfl) ?_
          refine XQ.region (by kernel_rfl) ?_
          refine XR.run E0_ok 1 3 [4, 5] rfl (σ' := [(4, .string (bs [])), (5, .int .i64 1)]) (h' := []) (c' := 0) (by kernel_rfl) ?_
          refine XR.done (by kernel_rfl) ?_
          show XQ _ _ _ _ _ _ _ _
          refine XQ.ret (by kernel_rfl) ?_
          have h := Option.some.inj h
          subst h
          exact ⟨fun i q => (by cases q), .tuple #[.string (bs []), .int .i64 1], (by kernel_rfl), rfl⟩
        | false =>
          have h := cF b4 h
          refine XQ.cond (s := (.tmp 13)) (b := false) (by kernel_rfl) (by kernel_rfl) (fun q => by cases q) (fun _ => ?_)
          refine XQ.skip (by kernel_rfl) ?_
          show XQ _ _ _ _ _ _ _ _
          refine XQ.seq E0_ok (by kernel_rfl) ?_
          refine XQ.region (by kernel_rfl) ?_
          refine XR.run E0_ok 1 1 [4] rfl (σ' := [(4, .int .i64 0)]) (h' := []) (c' := 0) (by kernel_rfl) ?_
          refine XR.done (by kernel_rfl) ?_
          show XQ _ _ _ _ _ _ _ _
          refine XQ.ret (by kernel_rfl) ?_
          refine ⟨fun i q => (by cases q), .int .i64 0, (by kernel_rfl), ?_⟩
          refine XR.conv (σ' := [(0, .int .i64 a), (1, .int .i64 b), (12, .int .i64 0)]) (h' := []) (c' := 0) ?_ (by kernel_rfl)
          refine XR.run E0_ok 1 1 [0, 1, 6] rfl (σ' := [(0, .int .i64 a), (1, .int .i64 b), (6, .int .i64 0)]) (h' := []) (c' := 0) (by kernel_rfl) ?_
          refine XR.done (by kernel_rfl) ?_
          show XQ _ _ _ _ _ _ _ _
          refine XQ.seq E0_ok (by kernel_rfl) ?_
          refine XQ.region (by kernel_rfl) ?_
          refine XR.run E0_ok 1 2 [0, 1, 6, 14] rfl (σ' := [(0, .int .i64 a), (1, .int .i64 b), (6, .int .i64 0), (14, .bool false)]) (h' := []) (c' := 0) (by kernel_rfl) ?_
          refine XR.done (by kernel_rfl) ?_
          show XQ _ _ _ _ _ _ _ _
          refine XQ.cond (s := (.tmp 14)) (b := false) (by kernel_rfl) (by kernel_rfl) (fun q => by cases q) (fun _ => ?_)
          refine XQ.skip (by kernel_rfl) ?_
          show XQ _ _ _ _ _ _ _ _
          refine XQ.seq E0_ok (by kernel_rfl) ?_
          refine XQ.region (by kernel_rfl) ?_
          refine XR.run E0_ok 1 1 [0, 1, 7] rfl (σ' := [(0, .int .i64 a), (1, .int .i64 b), (7, .pointer (some ⟨0, 0, none⟩))]) (h' := [(0, .cells [.pointer none, .slice none 0 0] 0 70 0)]) (c' := 1) (by kernel_rfl) ?_
          refine XR.done (by kernel_rfl) ?_
          show XQ _ _ _ _ _ _ _ _
          refine XQ.ghost 5 1 rfl (σ' := [(0, .int .i64 a), (1, .int .i64 b), (7, .pointer (some ⟨0, 0, none⟩))]) (h' := [(0, .cells [.pointer none, .slice (some ⟨1, 0, none⟩) 0 0] 0 70 0)]) ⟨by kernel_rfl, by kernel_rfl, by kernel_rfl, trivial⟩ ⟨⟨_, rfl, .inr ⟨_, _, _, _, rfl, rfl⟩⟩, trivial⟩ ?_
          refine XQ.conv (σ' := [(0, .int .i64 a), (1, .int .i64 b), (7, .pointer (some ⟨0, 0, none⟩))]) (h' := [(1, .cells (rowC (encI .u8) []) 0 5 1), (0, .cells [.pointer none, .slice (some ⟨1, 0, none⟩) 0 0] 0 70 0)]) (c' := 2) ?_ (by kernel_rfl)
          refine XQ.seq E0_ok (by kernel_rfl) ?_
          refine XQ.region (by kernel_rfl) ?_
          refine XR.run E0_ok 1 1 [0, 1, 7, 8] rfl (σ' := [(0, .int .i64 a), (1, .int .i64 b), (7, .pointer (some ⟨0, 0, none⟩)), (8, .int .i64 0)]) (h' := [(1, .cells (rowC (encI .u8) []) 0 5 1), (0, .cells [.pointer none, .slice (some ⟨1, 0, none⟩) 0 0] 0 70 0)]) (c' := 2) (by kernel_rfl) ?_
          refine XR.done (by kernel_rfl) ?_
          show XQ _ _ _ _ _ _ _ _
          refine XQ.seq E0_ok (by kernel_rfl) ?_
          refine XQ.seq E0_ok (by kernel_rfl) ?_
          refine XQ.region (by kernel_rfl) ?_
          refine XR.run E0_ok 1 2 [0, 1, 7, 8, 16, 17] rfl (σ' := [(0, .int .i64 a), (1, .int .i64 b), (7, .pointer (some ⟨0, 0, none⟩)), (8, .int .i64 0), (16, .int .i64 a), (17, .int .i64 0)]) (h' := [(1, .cells (rowC (encI .u8) []) 0 5 1), (0, .cells [.pointer none, .slice (some ⟨1, 0, none⟩) 0 0] 0 70 0)]) (c' := 2) (by kernel_rfl) ?_
          refine XR.done (by kernel_rfl) ?_
          show XQ _ _ _ _ _ _ _ _
          refine XQ.block (id := 0) (by kernel_rfl) ?_
          refine XQ.loop (m + 1) (by kernel_rfl) ?_
          refine XL.succ E0_ok ?_
          refine XQ.seq E0_ok (by kernel_rfl) ?_
          refine XQ.region (by kernel_rfl) ?_
          refine XR.run E0_ok 1 1 [0, 1, 7, 8, 16, 17, 18] rfl (σ' := [(0, .int .i64 a), (1, .int .i64 b), (7, .pointer (some ⟨0, 0, none⟩)), (8, .int .i64 0), (16, .int .i64 a), (17, .int .i64 0), (18, .bool (decide ((0 : Int) < a)))]) (h' := [(1, .cells (rowC (encI .u8) []) 0 5 1), (0, .cells [.pointer none, .slice (some ⟨1, 0, none⟩) 0 0] 0 70 0)]) (c' := 2) (by kernel_rfl) ?_
          refine XR.done (by kernel_rfl) ?_
          show XQ _ _ _ _ _ _ _ _
          refine XQ.seq E0_ok (by kernel_rfl) ?_
          cases b5 : (decide ((0 : Int) < a) : Bool) with
          | true =>
            have h := cT b5 h
            refine XQ.cond (s := (.tmp 18)) (b := true) (by kernel_rfl) (by kernel_rfl) (fun _ => ?_) (fun q => by cases q)
            refine XQ.skip (by kernel_rfl) ?_
            show XQ _ _ _ _ _ _ _ _
            refine XQ.seq E0_ok (by kernel_rfl) ?_
            refine XQ.block (id := 1) (by kernel_rfl) ?_
            refine XQ.seq E0_ok (by kernel_rfl) ?_
            refine XQ.region (by kernel_rfl) ?_
            refine XR.run E0_ok 1 1 [0, 1, 7, 8, 9, 16, 17] rfl (σ' := [(0, .int .i64 a), (1, .int .i64 b), (7, .pointer (some ⟨0, 0, none⟩)), (8, .int .i64 0), (9, .int .i32 97), (16, .int .i64 a), (17, .int .i64 0)]) (h' := [(1, .cells (rowC (encI .u8) []) 0 5 1), (0, .cells [.pointer none, .slice (some ⟨1, 0, none⟩) 0 0] 0 70 0)]) (c' := 2) (by kernel_rfl) ?_
            refine XR.done (by kernel_rfl) ?_
            show XQ _ _ _ _ _ _ _ _
            refine XQ.seq E0_ok (by kernel_rfl) ?_
            refine XQ.seq E0_ok (by kernel_rfl) ?_
            refine XQ.region (by kernel_rfl) ?_
            refine XR.run E0_ok 1 4 [0, 1, 7, 8, 9, 16, 17] rfl (σ' := [(0, .int .i64 a), (1, .int .i64 b), (7, .pointer (some ⟨0, 0, none⟩)), (8, .int .i64 (w64 (0 + b))), (9, .int .i32 97), (16, .int .i64 a), (17, .int .i64 0)]) (h' := [(1, .cells (rowC (encI .u8) []) 0 5 1), (0, .cells [.pointer none, .slice (some ⟨1, 0, none⟩) 0 0] 0 70 0)]) (c' := 2) (by kernel_rfl) ?_
            refine XR.done (by kernel_rfl) ?_
            show XQ _ _ _ _ _ _ _ _
            refine XQ.seq E0_ok (by kernel_rfl) ?_
            refine XQ.region (by kernel_rfl) ?_
            refine XR.run E0_ok 1 3 [0, 1, 7, 8, 9, 16, 17, 24] rfl (σ' := [(0, .int .i64 a), (1, .int .i64 b), (7, .pointer (some ⟨0, 0, none⟩)), (8, .int .i64 (w64 (0 + b))), (9, .int .i32 97), (16, .int .i64 a), (17, .int .i64 0), (24, .bool (decide ((w64 (0 + b)) ≥ a)))]) (h' := [(1, .cells (rowC (encI .u8) []) 0 5 1), (0, .cells [.pointer none, .slice (some ⟨1, 0, none⟩) 0 0] 0 70 0)]) (c' := 2) (by kernel_rfl) ?_
            refine XR.done (by kernel_rfl) ?_
            show XQ _ _ _ _ _ _ _ _
            cases b6 : (decide ((w64 (0 + b)) ≥ a) : Bool) with
            | true =>
              have h := cT b6 h
              refine XQ.cond (s := (.tmp 24)) (b := true) (by kernel_rfl) (by kernel_rfl) (fun _ => ?_) (fun q => by cases q)
              refine XQ.region (by kernel_rfl) ?_
              refine XR.run E0_ok 1 5 [0, 1, 7, 8, 9, 16, 17] rfl (σ' := [(0, .int .i64 a), (1, .int .i64 b), (7, .pointer (some ⟨0, 0, none⟩)), (8, .int .i64 (w64 ((w64 (0 + b)) - a))), (9, .int .i32 98), (16, .int .i64 a), (17, .int .i64 0)]) (h' := [(1, .cells (rowC (encI .u8) []) 0 5 1), (0, .cells [.pointer none, .slice (some ⟨1, 0, none⟩) 0 0] 0 70 0)]) (c' := 2) (by kernel_rfl) ?_
              refine XR.done (by kernel_rfl) ?_
              show XQ _ _ _ _ _ _ _ _
              refine XQ.region (by kernel_rfl) ?_
              refine XR.run E0_ok 1 1 [0, 1, 7, 8, 16, 17, 28] rfl (σ' := [(0, .int .i64 a), (1, .int .i64 b), (7, .pointer (some ⟨0, 0, none⟩)), (8, .int .i64 (w64 ((w64 (0 + b)) - a))), (16, .int .i64 a), (17, .int .i64 0), (28, .int .i32 98)]) (h' := [(1, .cells (rowC (encI .u8) []) 0 5 1), (0, .cells [.pointer none, .slice (some ⟨1, 0, none⟩) 0 0] 0 70 0)]) (c' := 2) (by kernel_rfl) ?_
              refine XR.callK E0_ok [0, 1, 7, 8, 16, 17] rfl (K := 53) (args := [.pointer (some ⟨0, 0, none⟩), .int .i32 98]) (d := (some (path 12 29))) (by kernel_rfl) ?_
              refine KC.bodyN E0_ok (F := Proofs.Try.f53) (by kernel_rfl) (code := f21_C53) (by kernel_rfl) (nt := 30) (by kernel_rfl) (rs := [.tmp 4, .tmp 5]) (by kernel_rfl) (by kernel_rfl) (σ := [(0, .pointer (some ⟨0, 0, none⟩)), (1, .int .i32 98)]) (by kernel_rfl) ?_
              refine XQ.seq E0_ok (by kernel_rfl) ?_
              refine XQ.region (by kernel_rfl) ?_
              refine XR.run E0_ok 1 2 [0, 1] rfl (σ' := [(0, .pointer (some ⟨0, 0, none⟩)), (1, .int .i32 98)]) (h' := [(1, .cells (rowC (encI .u8) []) 0 5 1), (0, .cells [.pointer none, .slice (some ⟨1, 0, none⟩) 0 0] 0 70 0)]) (c' := 2) (by kernel_rfl) ?_
              refine XR.done (by kernel_rfl) ?_
              show XQ _ _ _ _ _ _ _ _
              refine XQ.seq E0_ok (by kernel_rfl) ?_
              refine XQ.region (by kernel_rfl) ?_
              refine XR.run E0_ok 1 1 [0, 1, 7] rfl (σ' := [(0, .pointer (some ⟨0, 0, none⟩)), (1, .int .i32 98), (7, .pointer (some ⟨0, 0, none⟩))]) (h' := [(1, .cells (rowC (encI .u8) []) 0 5 1), (0, .cells [.pointer none, .slice (some ⟨1, 0, none⟩) 0 0] 0 70 0)]) (c' := 2) (by kernel_rfl) ?_
              refine XR.callK E0_ok [0, 1] rfl (K := 67) (args := [.pointer (some ⟨0, 0, none⟩)]) (d := (some (path 12 8))) (by kernel_rfl) ?_
              refine KC.bodyN E0_ok (F := Proofs.Try.f67) (by kernel_rfl) (code := f21_C67) (by kernel_rfl) (nt := 20) (by kernel_rfl) (rs := []) (by kernel_rfl) (by kernel_rfl) (σ := [(0, .pointer (some ⟨0, 0, none⟩))]) (by kernel_rfl) ?_
              refine XQ.seq E0_ok (by kernel_rfl) ?_
              refine XQ.region (by kernel_rfl) ?_
              refine XR.run E0_ok 1 5 [0, 6] rfl (σ' := [(0, .pointer (some ⟨0, 0, none⟩)), (6, .bool true)]) (h' := [(1, .cells (rowC (encI .u8) []) 0 5 1), (0, .cells [.pointer none, .slice (some ⟨1, 0, none⟩) 0 0] 0 70 0)]) (c' := 2) (by kernel_rfl) ?_
              refine XR.done (by kernel_rfl) ?_
              show XQ _ _ _ _ _ _ _ _
              refine XQ.cond (s := (.tmp 6)) (b := true) (by kernel_rfl) (by kernel_rfl) (fun _ => ?_) (fun q => by cases q)
              refine XQ.region (by kernel_rfl) ?_
              refine XR.run E0_ok 1 8 [] rfl (σ' := []) (h' := [(1, .cells (rowC (encI .u8) []) 0 5 1), (0, .cells [.pointer (some ⟨0, 0, none⟩), .slice (some ⟨1, 0, none⟩) 0 0] 0 70 0)]) (c' := 2) (by kernel_rfl) ?_
              refine XR.done (by kernel_rfl) ?_
              refine ⟨fun i q => (by cases q), .tuple #[], (by kernel_rfl), ?_⟩
              refine XR.conv (σ' := [(0, .pointer (some ⟨0, 0, none⟩)), (1, .int .i32 98)]) (h' := [(1, .cells (rowC (encI .u8) []) 0 5 1), (0, .cells [.pointer (some ⟨0, 0, none⟩), .slice (some ⟨1, 0, none⟩) 0 0] 0 70 0)]) (c' := 2) ?_ (by kernel_rfl)
              refine XR.done (by kernel_rfl) ?_
              show XQ _ _ _ _ _ _ _ _
              refine XQ.seq E0_ok (by kernel_rfl) ?_
              refine XQ.region (by kernel_rfl) ?_
              refine XR.run E0_ok 1 6 [0, 1, 6] rfl (σ' := [(0, .pointer (some ⟨0, 0, none⟩)), (1, .int .i32 98), (6, .int .i64 0)]) (h' := [(1, .cells (rowC (encI .u8) []) 0 5 1), (0, .cells [.pointer (some ⟨0, 0, none⟩), .slice (some ⟨1, 0, none⟩) 0 0] 0 70 0)]) (c' := 2) (by kernel_rfl) ?_
              refine XR.done (by kernel_rfl) ?_
              show XQ _ _ _ _ _ _ _ _
              refine XQ.seq E0_ok (by kernel_rfl) ?_
              refine XQ.region (by kernel_rfl) ?_
              refine XR.run E0_ok 1 6 [0, 6, 14, 18, 19] rfl (σ' := [(0, .pointer (some ⟨0, 0, none⟩)), (6, .int .i64 0), (14, .pointer (some ⟨0, 0, none⟩)), (18, .slice (some ⟨1, 0, none⟩) 0 0), (19, .int .i32 98)]) (h' := [(1, .cells (rowC (encI .u8) []) 0 5 1), (0, .cells [.pointer (some ⟨0, 0, none⟩), .slice (some ⟨1, 0, none⟩) 0 0] 0 70 0)]) (c' := 2) (by kernel_rfl) ?_
              refine XR.callK E0_ok [0, 6, 14, 20] rfl (K := 68) (args := [.slice (some ⟨1, 0, none⟩) 0 0, .int .i32 98]) (d := (some (path 12 20))) (by kernel_rfl) ?_
              refine KC.bodyN E0_ok (F := Proofs.Try.f68) (by kernel_rfl) (code := f21_C68) (by kernel_rfl) (nt := 16) (by kernel_rfl) (rs := [.tmp 4]) (by kernel_rfl) (by kernel_rfl) (σ := [(0, .slice (some ⟨1, 0, none⟩) 0 0), (1, .int .i32 98)]) (by kernel_rfl) ?_
              refine XQ.seq E0_ok (by kernel_rfl) ?_
              refine XQ.region (by kernel_rfl) ?_
              refine XR.run E0_ok 1 1 [0, 1] rfl (σ' := [(0, .slice (some ⟨1, 0, none⟩) 0 0), (1, .int .i32 98)]) (h' := [(1, .cells (rowC (encI .u8) []) 0 5 1), (0, .cells [.pointer (some ⟨0, 0, none⟩), .slice (some ⟨1, 0, none⟩) 0 0] 0 70 0)]) (c' := 2) (by kernel_rfl) ?_
              refine XR.done (by kernel_rfl) ?_
              show XQ _ _ _ _ _ _ _ _
              refine XQ.seq E0_ok (by kernel_rfl) ?_
              refine XQ.seq E0_ok (by kernel_rfl) ?_
              refine XQ.region (by kernel_rfl) ?_
              refine XR.run E0_ok 1 3 [0, 1, 7] rfl (σ' := [(0, .slice (some ⟨1, 0, none⟩) 0 0), (1, .int .i32 98), (7, .bool true)]) (h' := [(1, .cells (rowC (encI .u8) []) 0 5 1), (0, .cells [.pointer (some ⟨0, 0, none⟩), .slice (some ⟨1, 0, none⟩) 0 0] 0 70 0)]) (c' := 2) (by kernel_rfl) ?_
              refine XR.done (by kernel_rfl) ?_
              show XQ _ _ _ _ _ _ _ _
              refine XQ.cond (s := (.tmp 7)) (b := true) (by kernel_rfl) (by kernel_rfl) (fun _ => ?_) (fun q => by cases q)
              refine XQ.seq E0_ok (by kernel_rfl) ?_
              refine XQ.region (by kernel_rfl) ?_
              refine XR.run E0_ok 1 4 [8, 11] rfl (σ' := [(8, .slice (some ⟨1, 0, none⟩) 0 0), (11, .slice (some ⟨2, 0, none⟩) 1 1)]) (h' := [(2, .cells [.int .u8 98] 0 5 1), (1, .cells (rowC (encI .u8) []) 0 5 1), (0, .cells [.pointer (some ⟨0, 0, none⟩), .slice (some ⟨1, 0, none⟩) 0 0] 0 70 0)]) (c' := 3) (by kernel_rfl) ?_
              refine XR.ef E0_ok [12] rfl (e_append (encI_ok .u8) (bytes := 1) (e := 5) (x := (src 16 (.tmp 8))) (y := (src 16 (.tmp 11))) (b := 1) (len := 0) (cap := 0) (xs := []) (m := 0) (ys := [98]) (d := (some (path 12 12))) (n' := 1) (h' := [(3, .cells (rowC (encI .u8) [98]) 0 5 1), (2, .cells [.int .u8 98] 0 5 1), (0, .cells [.pointer (some ⟨0, 0, none⟩), .slice (some ⟨1, 0, none⟩) 0 0] 0 70 0)]) (by kernel_rfl) (by kernel_rfl) (by kernel_rfl) (by kernel_rfl) rfl (by simp) (by simp) (by first | rfl | simp) (by simp) (by kernel_rfl)) (σ' := [(12, .slice (some ⟨3, 0, none⟩) 1 1)]) (by kernel_rfl) ?_
              refine XR.run E0_ok 1 1 [4] rfl (σ' := [(4, .slice (some ⟨3, 0, none⟩) 1 1)]) (h' := [(3, .cells (rowC (encI .u8) [98]) 0 5 1), (2, .cells [.int .u8 98] 0 5 1), (0, .cells [.pointer (some ⟨0, 0, none⟩), .slice (some ⟨1, 0, none⟩) 0 0] 0 70 0)]) (c' := 4) (by kernel_rfl) ?_
              refine XR.done (by kernel_rfl) ?_
              show XQ _ _ _ _ _ _ _ _
              refine XQ.ret (by kernel_rfl) ?_
              refine ⟨fun i q => (by cases q), .slice (some ⟨3, 0, none⟩) 1 1, (by kernel_rfl), ?_⟩
              refine XR.conv (σ' := [(0, .pointer (some ⟨0, 0, none⟩)), (6, .int .i64 0), (14, .pointer (some ⟨0, 0, none⟩)), (20, .slice (some ⟨3, 0, none⟩) 1 1)]) (h' := [(3, .cells (rowC (encI .u8) [98]) 0 5 1), (2, .cells [.int .u8 98] 0 5 1), (0, .cells [.pointer (some ⟨0, 0, none⟩), .slice (some ⟨1, 0, none⟩) 0 0] 0 70 0)]) (c' := 4) ?_ (by kernel_rfl)
              refine XR.run E0_ok 1 3 [0, 6] rfl (σ' := [(0, .pointer (some ⟨0, 0, none⟩)), (6, .int .i64 0)]) (h' := [(3, .cells (rowC (encI .u8) [98]) 0 5 1), (2, .cells [.int .u8 98] 0 5 1), (0, .cells [.pointer (some ⟨0, 0, none⟩), .slice (some ⟨3, 0, none⟩) 1 1] 0 70 0)]) (c' := 4) (by kernel_rfl) ?_
              refine XR.done (by kernel_rfl) ?_
              show XQ _ _ _ _ _ _ _ _
              refine XQ.seq E0_ok (by kernel_rfl) ?_
              refine XQ.region (by kernel_rfl) ?_
              refine XR.run E0_ok 1 9 [4, 5] rfl (σ' := [(4, .int .i64 1), (5, .nilIface)]) (h' := [(3, .cells (rowC (encI .u8) [98]) 0 5 1), (2, .cells [.int .u8 98] 0 5 1), (0, .cells [.pointer (some ⟨0, 0, none⟩), .slice (some ⟨3, 0, none⟩) 1 1] 0 70 0)]) (c' := 4) (by kernel_rfl) ?_
              refine XR.done (by kernel_rfl) ?_
              show XQ _ _ _ _ _ _ _ _
              refine XQ.ret (by kernel_rfl) ?_
              refine ⟨fun i q => (by cases q), .tuple #[.int .i64 1, .nilIface], (by kernel_rfl), ?_⟩
              refine XR.conv (σ' := [(0, .int .i64 a), (1, .int .i64 b), (7, .pointer (some ⟨0, 0, none⟩)), (8, .int .i64 (w64 ((w64 (0 + b)) - a))), (16, .int .i64 a), (17, .int .i64 0)]) (h' := [(3, .cells (rowC (encI .u8) [98]) 0 5 1), (2, .cells [.int .u8 98] 0 5 1), (0, .cells [.pointer (some ⟨0, 0, none⟩), .slice (some ⟨3, 0, none⟩) 1 1] 0 70 0)]) (c' := 4) ?_ (by kernel_rfl)
              refine XR.done (by kernel_rfl) ?_
              show XQ _ _ _ _ _ _ _ _
              refine XQ.region (by kernel_rfl) ?_
              refine XR.run E0_ok 1 2 [0, 1, 7, 8, 16, 17] rfl (σ' := [(0, .int .i64 a), (1, .int .i64 b), (7, .pointer (some ⟨0, 0, none⟩)), (8, .int .i64 (w64 ((w64 (0 + b)) - a))), (16, .int .i64 a), (17, .int .i64 1)]) (h' := [(3, .cells (rowC (encI .u8) [98]) 0 5 1), (2, .cells [.int .u8 98] 0 5 1), (0, .cells [.pointer (some ⟨0, 0, none⟩), .slice (some ⟨3, 0, none⟩) 1 1] 0 70 0)]) (c' := 4) (by kernel_rfl) ?_
              refine XR.done (by kernel_rfl) ?_
              show XL _ _ _ _ _ _ _ _ _
              obtain ⟨o1, o1_h, h⟩ := bS h
              refine XL.ren (σ' := [(0, .int .i64 a), (1, .int .i64 b), (7, .pointer (some ⟨0, 0, none⟩)), (8, .int .i64 (w64 ((w64 (0 + b)) - a))), (16, .int .i64 a), (17, .int .i64 1)]) (h' := [(1, .cells (rowC (encI .u8) [98]) 0 5 1), (0, .cells [.pointer (some ⟨0, 0, none⟩), .slice (some ⟨1, 0, none⟩) 1 1] 0 70 0)]) (c' := 2) [0, 3] (by decide) rfl ⟨by kernel_rfl, by kernel_rfl, by kernel_rfl, by kernel_rfl, by kernel_rfl, by kernel_rfl, trivial⟩ ⟨⟨_, _, rfl, rfl, .inl ⟨rfl, rowC_scal (encI_ok .u8) _⟩⟩, ⟨_, _, rfl, rfl, .inr ⟨_, _, _, _, rfl, rfl⟩⟩, trivial⟩ rfl ?_
              refine XL.conv (f21_1_ok m m a b (w64 ((w64 (0 + b)) - a)) 1 [98] o1 o1_h _ ?_) (by first | rfl | simp)
              show XQ _ _ _ _ _ _ _ _
              refine XQ.seq E0_ok (by kernel_rfl) ?_
              refine XQ.region (by kernel_rfl) ?_
              refine XR.callK E0_ok [31] rfl (K := 54) (args := [.pointer (some ⟨0, 0, none⟩)]) (d := (some (path 12 31))) (by kernel_rfl) ?_
              refine KC.bodyN E0_ok (F := Proofs.Try.f54) (by kernel_rfl) (code := f21_C54) (by kernel_rfl) (nt := 14) (by kernel_rfl) (rs := [.tmp 2]) (by kernel_rfl) (by kernel_rfl) (σ := [(0, .pointer (some ⟨0, 0, none⟩))]) (by kernel_rfl) ?_
              refine XQ.seq E0_ok (by kernel_rfl) ?_
              refine XQ.region (by kernel_rfl) ?_
              refine XR.run E0_ok 1 1 [0] rfl (σ' := [(0, .pointer (some ⟨0, 0, none⟩))]) (h' := [(1, .cells (rowC (encI .u8) o1) 0 5 1), (0, .cells [.pointer (some ⟨0, 0, none⟩), .slice (some ⟨1, 0, none⟩) o1.length o1.length] 0 70 0)]) (c' := 2) (by kernel_rfl) ?_
              refine XR.done (by kernel_rfl) ?_
              show XQ _ _ _ _ _ _ _ _
              refine XQ.seq E0_ok (by kernel_rfl) ?_
              refine XQ.tail E0_ok 10 (by kernel_rfl) (by kernel_rfl) ?_
              refine XS.step E0_ok 4 rfl [0, 6] rfl (σ' := [(0, .pointer (some ⟨0, 0, none⟩)), (6, .slice (some ⟨1, 0, none⟩) o1.length o1.length)]) (by kernel_rfl) ?_
              cases b8 : (decide (0 < o1.length) : Bool) with
              | false => cases (cF b8 h)
              | true =>
                have h := cT b8 h
                refine XS.rd E0_ok rfl [0, 7] rfl (v := .pointer (some ⟨1, 0, none⟩)) (v_sdata (x := (src 14 (.tmp 6))) (b := 1) (o := 0) (len := o1.length) (cap := o1.length) (d := (some (path 12 7))) (by kernel_rfl) (by kernel_rfl) b8) (σ' := [(0, .pointer (some ⟨0, 0, none⟩)), (7, .pointer (some ⟨1, 0, none⟩))]) (by kernel_rfl) ?_
                refine XS.step E0_ok 5 rfl [7, 12] rfl (σ' := [(7, .pointer (some ⟨1, 0, none⟩)), (12, .int .i64 ((o1.length : Nat) : Int))]) (by kernel_rfl) ?_
                refine XS.done (by kernel_rfl) ?_
                cases b9 : (decide (o1.length ≤ 1000000000) : Bool) with
                | false => cases (cF b9 h)
                | true =>
                  have h := cT b9 h
                  cases b10 : (bytesB o1 : Bool) with
                  | false => cases (cF b10 h)
                  | true =>
                    have h := cT b10 h
                    refine XR.ef E0_ok [13] rfl (e_ustr (e := 5) (x := (src 14 (.tmp 7))) (y := (src 14 (.tmp 12))) (b := 1) (n := o1.length) (xs := o1) (es := 1) (d := (some (path 12 13))) (h' := [(1, .cells (rowC (encI .u8) o1) (Nat.max 0 (0 + o1.length)) 5 1), (0, .cells [.pointer (some ⟨0, 0, none⟩), .slice (some ⟨1, 0, none⟩) o1.length o1.length] 0 70 0)]) (by kernel_rfl) (by kernel_rfl) (by kernel_rfl) (by kernel_rfl) (by simp) b8 b9 b10 (by kernel_rfl)) (σ' := [(13, .string (strI o1))]) (by kernel_rfl) ?_
                    refine XR.run E0_ok 1 1 [2] rfl (σ' := [(2, .string (strI o1))]) (h' := [(1, .cells (rowC (encI .u8) o1) (Nat.max 0 (0 + o1.length)) 5 1), (0, .cells [.pointer (some ⟨0, 0, none⟩), .slice (some ⟨1, 0, none⟩) o1.length o1.length] 0 70 0)]) (c' := 2) (by kernel_rfl) ?_
                    refine XR.done (by kernel_rfl) ?_
                    show XQ _ _ _ _ _ _ _ _
                    refine XQ.ret (by kernel_rfl) ?_
                    refine ⟨fun i q => (by cases q), .string (strI o1), (by kernel_rfl), ?_⟩
                    refine XR.conv (σ' := [(31, .string (strI o1))]) (h' := [(1, .cells (rowC (encI .u8) o1) (Nat.max 0 (0 + o1.length)) 5 1), (0, .cells [.pointer (some ⟨0, 0, none⟩), .slice (some ⟨1, 0, none⟩) o1.length o1.length] 0 70 0)]) (c' := 2) ?_ (by kernel_rfl)
                    refine XR.run E0_ok 1 2 [4, 5] rfl (σ' := [(4, .string (strI o1)), (5, .int .i64 0)]) (h' := [(1, .cells (rowC (encI .u8) o1) (Nat.max 0 (0 + o1.length)) 5 1), (0, .cells [.pointer (some ⟨0, 0, none⟩), .slice (some ⟨1, 0, none⟩) o1.length o1.length] 0 70 0)]) (c' := 2) (by kernel_rfl) ?_
                    refine XR.done (by kernel_rfl) ?_
                    show XQ _ _ _ _ _ _ _ _
                    refine XQ.ret (by kernel_rfl) ?_
                    have h := Option.some.inj h
                    subst h
                    exact ⟨fun i q => (by cases q), .tuple #[.string (strI o1), .int .i64 0], (by kernel_rfl), rfl⟩
            | false =>
              have h := cF b6 h
              refine XQ.cond (s := (.tmp 24)) (b := false) (by kernel_rfl) (by kernel_rfl) (fun q => by cases q) (fun _ => ?_)
              refine XQ.skip (by kernel_rfl) ?_
              show XQ _ _ _ _ _ _ _ _
              refine XQ.region (by kernel_rfl) ?_
              refine XR.run E0_ok 1 1 [0, 1, 7, 8, 16, 17, 28] rfl (σ' := [(0, .int .i64 a), (1, .int .i64 b), (7, .pointer (some ⟨0, 0, none⟩)), (8, .int .i64 (w64 (0 + b))), (16, .int .i64 a), (17, .int .i64 0), (28, .int .i32 97)]) (h' := [(1, .cells (rowC (encI .u8) []) 0 5 1), (0, .cells [.pointer none, .slice (some ⟨1, 0, none⟩) 0 0] 0 70 0)]) (c' := 2) (by kernel_rfl) ?_
              refine XR.callK E0_ok [0, 1, 7, 8, 16, 17] rfl (K := 53) (args := [.pointer (some ⟨0, 0, none⟩), .int .i32 97]) (d := (some (path 12 29))) (by kernel_rfl) ?_
              refine KC.bodyN E0_ok (F := Proofs.Try.f53) (by kernel_rfl) (code := f21_C53) (by kernel_rfl) (nt := 30) (by kernel_rfl) (rs := [.tmp 4, .tmp 5]) (by kernel_rfl) (by kernel_rfl) (σ := [(0, .pointer (some ⟨0, 0, none⟩)), (1, .int .i32 97)]) (by kernel_rfl) ?_
              refine XQ.seq E0_ok (by kernel_rfl) ?_
              refine XQ.region (by kernel_rfl) ?_
              refine XR.run E0_ok 1 2 [0, 1] rfl (σ' := [(0, .pointer (some ⟨0, 0, none⟩)), (1, .int .i32 97)]) (h' := [(1, .cells (rowC (encI .u8) []) 0 5 1), (0, .cells [.pointer none, .slice (some ⟨1, 0, none⟩) 0 0] 0 70 0)]) (c' := 2) (by kernel_rfl) ?_
              refine XR.done (by kernel_rfl) ?_
              show XQ _ _ _ _ _ _ _ _
              refine XQ.seq E0_ok (by kernel_rfl) ?_
              refine XQ.region (by kernel_rfl) ?_
              refine XR.run E0_ok 1 1 [0, 1, 7] rfl (σ' := [(0, .pointer (some ⟨0, 0, none⟩)), (1, .int .i32 97), (7, .pointer (some ⟨0, 0, none⟩))]) (h' := [(1, .cells (rowC (encI .u8) []) 0 5 1), (0, .cells [.pointer none, .slice (some ⟨1, 0, none⟩) 0 0] 0 70 0)]) (c' := 2) (by kernel_rfl) ?_
              refine XR.callK E0_ok [0, 1] rfl (K := 67) (args := [.pointer (some ⟨0, 0, none⟩)]) (d := (some (path 12 8))) (by kernel_rfl) ?_
              refine KC.bodyN E0_ok (F := Proofs.Try.f67) (by kernel_rfl) (code := f21_C67) (by kernel_rfl) (nt := 20) (by kernel_rfl) (rs := []) (by kernel_rfl) (by kernel_rfl) (σ := [(0, .pointer (some ⟨0, 0, none⟩))]) (by kernel_rfl) ?_
              refine XQ.seq E0_ok (by kernel_rfl) ?_
              refine XQ.region (by kernel_rfl) ?_
              refine XR.run E0_ok 1 5 [0, 6] rfl (σ' := [(0, .pointer (some ⟨0, 0, none⟩)), (6, .bool true)]) (h' := [(1, .cells (rowC (encI .u8) []) 0 5 1), (0, .cells [.pointer none, .slice (some ⟨1, 0, none⟩) 0 0] 0 70 0)]) (c' := 2) (by kernel_rfl) ?_
              refine XR.done (by kernel_rfl) ?_
              show XQ _ _ _ _ _ _ _ _
              refine XQ.cond (s := (.tmp 6)) (b := true) (by kernel_rfl) (by kernel_rfl) (fun _ => ?_) (fun q => by cases q)
              refine XQ.region (by kernel_rfl) ?_
              refine XR.run E0_ok 1 8 [] rfl (σ' := []) (h' := [(1, .cells (rowC (encI .u8) []) 0 5 1), (0, .cells [.pointer (some ⟨0, 0, none⟩), .slice (some ⟨1, 0, none⟩) 0 0] 0 70 0)]) (c' := 2) (by kernel_rfl) ?_
              refine XR.done (by kernel_rfl) ?_
              refine ⟨fun i q => (by cases q), .tuple #[], (by kernel_rfl), ?_⟩
              refine XR.conv (σ' := [(0, .pointer (some ⟨0, 0, none⟩)), (1, .int .i32 97)]) (h' := [(1, .cells (rowC (encI .u8) []) 0 5 1), (0, .cells [.pointer (some ⟨0, 0, none⟩), .slice (some ⟨1, 0, none⟩) 0 0] 0 70 0)]) (c' := 2) ?_ (by kernel_rfl)
              refine XR.done (by kernel_rfl) ?_
              show XQ _ _ _ _ _ _ _ _
              refine XQ.seq E0_ok (by kernel_rfl) ?_
              refine XQ.region (by kernel_rfl) ?_
              refine XR.run E0_ok 1 6 [0, 1, 6] rfl (σ' := [(0, .pointer (some ⟨0, 0, none⟩)), (1, .int .i32 97), (6, .int .i64 0)]) (h' := [(1, .cells (rowC (encI .u8) []) 0 5 1), (0, .cells [.pointer (some ⟨0, 0, none⟩), .slice (some ⟨1, 0, none⟩) 0 0] 0 70 0)]) (c' := 2) (by kernel_rfl) ?_
              refine XR.done (by kernel_rfl) ?_
              show XQ _ _ _ _ _ _ _ _
              refine XQ.seq E0_ok (by kernel_rfl) ?_
              refine XQ.region (by kernel_rfl) ?_
              refine XR.run E0_ok 1 6 [0, 6, 14, 18, 19] rfl (σ' := [(0, .pointer (some ⟨0, 0, none⟩)), (6, .int .i64 0), (14, .pointer (some ⟨0, 0, none⟩)), (18, .slice (some ⟨1, 0, none⟩) 0 0), (19, .int .i32 97)]) (h' := [(1, .cells (rowC (encI .u8) []) 0 5 1), (0, .cells [.pointer (some ⟨0, 0, none⟩), .slice (some ⟨1, 0, none⟩) 0 0] 0 70 0)]) (c' := 2) (by kernel_rfl) ?_
              refine XR.callK E0_ok [0, 6, 14, 20] rfl (K := 68) (args := [.slice (some ⟨1, 0, none⟩) 0 0, .int .i32 97]) (d := (some (path 12 20))) (by kernel_rfl) ?_
              refine KC.bodyN E0_ok (F := Proofs.Try.f68) (by kernel_rfl) (code := f21_C68) (by kernel_rfl) (nt := 16) (by kernel_rfl) (rs := [.tmp 4]) (by kernel_rfl) (by kernel_rfl) (σ := [(0, .slice (some ⟨1, 0, none⟩) 0 0), (1, .int .i32 97)]) (by kernel_rfl) ?_
              refine XQ.seq E0_ok (by kernel_rfl) ?_
              refine XQ.region (by kernel_rfl) ?_
              refine XR.run E0_ok 1 1 [0, 1] rfl (σ' := [(0, .slice (some ⟨1, 0, none⟩) 0 0), (1, .int .i32 97)]) (h' := [(1, .cells (rowC (encI .u8) []) 0 5 1), (0, .cells [.pointer (some ⟨0, 0, none⟩), .slice (some ⟨1, 0, none⟩) 0 0] 0 70 0)]) (c' := 2) (by kernel_rfl) ?_
              refine XR.done (by kernel_rfl) ?_
              show XQ _ _ _ _ _ _ _ _
              refine XQ.seq E0_ok (by kernel_rfl) ?_
              refine XQ.seq E0_ok (by kernel_rfl) ?_
              refine XQ.region (by kernel_rfl) ?_
              refine XR.run E0_ok 1 3 [0, 1, 7] rfl (σ' := [(0, .slice (some ⟨1, 0, none⟩) 0 0), (1, .int .i32 97), (7, .bool true)]) (h' := [(1, .cells (rowC (encI .u8) []) 0 5 1), (0, .cells [.pointer (some ⟨0, 0, none⟩), .slice (some ⟨1, 0, none⟩) 0 0] 0 70 0)]) (c' := 2) (by kernel_rfl) ?_
              refine XR.done (by kernel_rfl) ?_
              show XQ _ _ _ _ _ _ _ _
              refine XQ.cond (s := (.tmp 7)) (b := true) (by kernel_rfl) (by kernel_rfl) (fun _ => ?_) (fun q => by cases q)
              refine XQ.seq E0_ok (by kernel_rfl) ?_
              refine XQ.region (by kernel_rfl) ?_
              refine XR.run E0_ok 1 4 [8, 11] rfl (σ' := [(8, .slice (some ⟨1, 0, none⟩) 0 0), (11, .slice (some ⟨2, 0, none⟩) 1 1)]) (h' := [(2, .cells [.int .u8 97] 0 5 1), (1, .cells (rowC (encI .u8) []) 0 5 1), (0, .cells [.pointer (some ⟨0, 0, none⟩), .slice (some ⟨1, 0, none⟩) 0 0] 0 70 0)]) (c' := 3) (by kernel_rfl) ?_
              refine XR.ef E0_ok [12] rfl (e_append (encI_ok .u8) (bytes := 1) (e := 5) (x := (src 16 (.tmp 8))) (y := (src 16 (.tmp 11))) (b := 1) (len := 0) (cap := 0) (xs := []) (m := 0) (ys := [97]) (d := (some (path 12 12))) (n' := 1) (h' := [(3, .cells (rowC (encI .u8) [97]) 0 5 1), (2, .cells [.int .u8 97] 0 5 1), (0, .cells [.pointer (some ⟨0, 0, none⟩), .slice (some ⟨1, 0, none⟩) 0 0] 0 70 0)]) (by kernel_rfl) (by kernel_rfl) (by kernel_rfl) (by kernel_rfl) rfl (by simp) (by simp) (by first | rfl | simp) (by simp) (by kernel_rfl)) (σ' := [(12, .slice (some ⟨3, 0, none⟩) 1 1)]) (by kernel_rfl) ?_
              refine XR.run E0_ok 1 1 [4] rfl (σ' := [(4, .slice (some ⟨3, 0, none⟩) 1 1)]) (h' := [(3, .cells (rowC (encI .u8) [97]) 0 5 1), (2, .cells [.int .u8 97] 0 5 1), (0, .cells [.pointer (some ⟨0, 0, none⟩), .slice (some ⟨1, 0, none⟩) 0 0] 0 70 0)]) (c' := 4) (by kernel_rfl) ?_
              refine XR.done (by kernel_rfl) ?_
              show XQ _ _ _ _ _ _ _ _
              refine XQ.ret (by kernel_rfl) ?_
              refine ⟨fun i q => (by cases q), .slice (some ⟨3, 0, none⟩) 1 1, (by kernel_rfl), ?_⟩
              refine XR.conv (σ' := [(0, .pointer (some ⟨0, 0, none⟩)), (6, .int .i64 0), (14, .pointer (some ⟨0, 0, none⟩)), (20, .slice (some ⟨3, 0, none⟩) 1 1)]) (h' := [(3, .cells (rowC (encI .u8) [97]) 0 5 1), (2, .cells [.int .u8 97] 0 5 1), (0, .cells [.pointer (some ⟨0, 0, none⟩), .slice (some ⟨1, 0, none⟩) 0 0] 0 70 0)]) (c' := 4) ?_ (by kernel_rfl)
              refine XR.run E0_ok 1 3 [0, 6] rfl (σ' := [(0, .pointer (some ⟨0, 0, none⟩)), (6, .int .i64 0)]) (h' := [(3, .cells (rowC (encI .u8) [97]) 0 5 1), (2, .cells [.int .u8 97] 0 5 1), (0, .cells [.pointer (some ⟨0, 0, none⟩), .slice (some ⟨3, 0, none⟩) 1 1] 0 70 0)]) (c' := 4) (by kernel_rfl) ?_
              refine XR.done (by kernel_rfl) ?_
              show XQ _ _ _ _ _ _ _ _
              refine XQ.seq E0_ok (by kernel_rfl) ?_
              refine XQ.region (by kernel_rfl) ?_
              refine XR.run E0_ok 1 9 [4, 5] rfl (σ' := [(4, .int .i64 1), (5, .nilIface)]) (h' := [(3, .cells (rowC (encI .u8) [97]) 0 5 1), (2, .cells [.int .u8 97] 0 5 1), (0, .cells [.pointer (some ⟨0, 0, none⟩), .slice (some ⟨3, 0, none⟩) 1 1] 0 70 0)]) (c' := 4) (by kernel_rfl) ?_
              refine XR.done (by kernel_rfl) ?_
              show XQ _ _ _ _ _ _ _ _
              refine XQ.ret (by kernel_rfl) ?_
              refine ⟨fun i q => (by cases q), .tuple #[.int .i64 1, .nilIface], (by kernel_rfl), ?_⟩
              refine XR.conv (σ' := [(0, .int .i64 a), (1, .int .i64 b), (7, .pointer (some ⟨0, 0, none⟩)), (8, .int .i64 (w64 (0 + b))), (16, .int .i64 a), (17, .int .i64 0)]) (h' := [(3, .cells (rowC (encI .u8) [97]) 0 5 1), (2, .cells [.int .u8 97] 0 5 1), (0, .cells [.pointer (some ⟨0, 0, none⟩), .slice (some ⟨3, 0, none⟩) 1 1] 0 70 0)]) (c' := 4) ?_ (by kernel_rfl)
              refine XR.done (by kernel_rfl) ?_
              show XQ _ _ _ _ _ _ _ _
              refine XQ.region (by kernel_rfl) ?_
              refine XR.run E0_ok 1 2 [0, 1, 7, 8, 16, 17] rfl (σ' := [(0, .int .i64 a), (1, .int .i64 b), (7, .pointer (some ⟨0, 0, none⟩)), (8, .int .i64 (w64 (0 + b))), (16, .int .i64 a), (17, .int .i64 1)]) (h' := [(3, .cells (rowC (encI .u8) [97]) 0 5 1), (2, .cells [.int .u8 97] 0 5 1), (0, .cells [.pointer (some ⟨0, 0, none⟩), .slice (some ⟨3, 0, none⟩) 1 1] 0 70 0)]) (c' := 4) (by kernel_rfl) ?_
              refine XR.done (by kernel_rfl) ?_
              show XL _ _ _ _ _ _ _ _ _
              obtain ⟨o2, o2_h, h⟩ := bS h
              refine XL.ren (σ' := [(0, .int .i64 a), (1, .int .i64 b), (7, .pointer (some ⟨0, 0, none⟩)), (8, .int .i64 (w64 (0 + b))), (16, .int .i64 a), (17, .int .i64 1)]) (h' := [(1, .cells (rowC (encI .u8) [97]) 0 5 1), (0, .cells [.pointer (some ⟨0, 0, none⟩), .slice (some ⟨1, 0, none⟩) 1 1] 0 70 0)]) (c' := 2) [0, 3] (by decide) rfl ⟨by kernel_rfl, by kernel_rfl, by kernel_rfl, by kernel_rfl, by kernel_rfl, by kernel_rfl, trivial⟩ ⟨⟨_, _, rfl, rfl, .inl ⟨rfl, rowC_scal (encI_ok .u8) _⟩⟩, ⟨_, _, rfl, rfl, .inr ⟨_, _, _, _, rfl, rfl⟩⟩, trivial⟩ rfl ?_
              refine XL.conv (f21_2_ok m m a b (w64 (0 + b)) 1 [97] o2 o2_h _ ?_) (by first | rfl | simp)
              show XQ _ _ _ _ _ _ _ _
              refine XQ.seq E0_ok (by kernel_rfl) ?_
              refine XQ.region (by kernel_rfl) ?_
              refine XR.callK E0_ok [31] rfl (K := 54) (args := [.pointer (some ⟨0, 0, none⟩)]) (d := (some (path 12 31))) (by kernel_rfl) ?_
              refine KC.bodyN E0_ok (F := Proofs.Try.f54) (by kernel_rfl) (code := f21_C54) (by kernel_rfl) (nt := 14) (by kernel_rfl) (rs := [.tmp 2]) (by kernel_rfl) (by kernel_rfl) (σ := [(0, .pointer (some ⟨0, 0, none⟩))]) (by kernel_rfl) ?_
              refine XQ.seq E0_ok (by kernel_rfl) ?_
              refine XQ.region (by kernel_rfl) ?_
              refine XR.run E0_ok 1 1 [0] rfl (σ' := [(0, .pointer (some ⟨0, 0, none⟩))]) (h' := [(1, .cells (rowC (encI .u8) o2) 0 5 1), (0, .cells [.pointer (some ⟨0, 0, none⟩), .slice (some ⟨1, 0, none⟩) o2.length o2.length] 0 70 0)]) (c' := 2) (by kernel_rfl) ?_
              refine XR.done (by kernel_rfl) ?_
              show XQ _ _ _ _ _ _ _ _
              refine XQ.seq E0_ok (by kernel_rfl) ?_
              refine XQ.tail E0_ok 10 (by kernel_rfl) (by kernel_rfl) ?_
              refine XS.step E0_ok 4 rfl [0, 6] rfl (σ' := [(0, .pointer (some ⟨0, 0, none⟩)), (6, .slice (some ⟨1, 0, none⟩) o2.length o2.length)]) (by kernel_rfl) ?_
              cases b12 : (decide (0 < o2.length) : Bool) with
              | false => cases (cF b12 h)
              | true =>
                have h := cT b12 h
                refine XS.rd E0_ok rfl [0, 7] rfl (v := .pointer (some ⟨1, 0, none⟩)) (v_sdata (x := (src 14 (.tmp 6))) (b := 1) (o := 0) (len := o2.length) (cap := o2.length) (d := (some (path 12 7))) (by kernel_rfl) (by kernel_rfl) b12) (σ' := [(0, .pointer (some ⟨0, 0, none⟩)), (7, .pointer (some ⟨1, 0, none⟩))]) (by kernel_rfl) ?_
                refine XS.step E0_ok 5 rfl [7, 12] rfl (σ' := [(7, .pointer (some ⟨1, 0, none⟩)), (12, .int .i64 ((o2.length : Nat) : Int))]) (by kernel_rfl) ?_
                refine XS.done (by kernel_rfl) ?_
                cases b13 : (decide (o2.length ≤ 1000000000) : Bool) with
                | false => cases (cF b13 h)
                | true =>
                  have h := cT b13 h
                  cases b14 : (bytesB o2 : Bool) with
                  | false => cases (cF b14 h)
                  | true =>
                    have h := cT b14 h
                    refine XR.ef E0_ok [13] rfl (e_ustr (e := 5) (x := (src 14 (.tmp 7))) (y := (src 14 (.tmp 12))) (b := 1) (n := o2.length) (xs := o2) (es := 1) (d := (some (path 12 13))) (h' := [(1, .cells (rowC (encI .u8) o2) (Nat.max 0 (0 + o2.length)) 5 1), (0, .cells [.pointer (some ⟨0, 0, none⟩), .slice (some ⟨1, 0, none⟩) o2.length o2.length] 0 70 0)]) (by kernel_rfl) (by kernel_rfl) (by kernel_rfl) (by kernel_rfl) (by simp) b12 b13 b14 (by kernel_rfl)) (σ' := [(13, .string (strI o2))]) (by kernel_rfl) ?_
                    refine XR.run E0_ok 1 1 [2] rfl (σ' := [(2, .string (strI o2))]) (h' := [(1, .cells (rowC (encI .u8) o2) (Nat.max 0 (0 + o2.length)) 5 1), (0, .cells [.pointer (some ⟨0, 0, none⟩), .slice (some ⟨1, 0, none⟩) o2.length o2.length] 0 70 0)]) (c' := 2) (by kernel_rfl) ?_
                    refine XR.done (by kernel_rfl) ?_
                    show XQ _ _ _ _ _ _ _ _
                    refine XQ.ret (by kernel_rfl) ?_
                    refine ⟨fun i q => (by cases q), .string (strI o2), (by kernel_rfl), ?_⟩
                    refine XR.conv (σ' := [(31, .string (strI o2))]) (h' := [(1, .cells (rowC (encI .u8) o2) (Nat.max 0 (0 + o2.length)) 5 1), (0, .cells [.pointer (some ⟨0, 0, none⟩), .slice (some ⟨1, 0, none⟩) o2.length o2.length] 0 70 0)]) (c' := 2) ?_ (by kernel_rfl)
                    refine XR.run E0_ok 1 2 [4, 5] rfl (σ' := [(4, .string (strI o2)), (5, .int .i64 0)]) (h' := [(1, .cells (rowC (encI .u8) o2) (Nat.max 0 (0 + o2.length)) 5 1), (0, .cells [.pointer (some ⟨0, 0, none⟩), .slice (some ⟨1, 0, none⟩) o2.length o2.length] 0 70 0)]) (c' := 2) (by kernel_rfl) ?_
                    refine XR.done (by kernel_rfl) ?_
                    show XQ _ _ _ _ _ _ _ _
                    refine XQ.ret (by kernel_rfl) ?_
                    have h := Option.some.inj h
                    subst h
                    exact ⟨fun i q => (by cases q), .tuple #[.string (strI o2), .int .i64 0], (by kernel_rfl), rfl⟩
          | false =>
            have h := cF b5 h
            refine XQ.cond (s := (.tmp 18)) (b := false) (by kernel_rfl) (by kernel_rfl) (fun q => by cases q) (fun _ => ?_)
            refine XQ.exit (i := 0) (by kernel_rfl) ?_
            show XQ _ _ _ _ _ _ _ _
            refine XQ.seq E0_ok (by kernel_rfl) ?_
            refine XQ.region (by kernel_rfl) ?_
            refine XR.callK E0_ok [31] rfl (K := 54) (args := [.pointer (some ⟨0, 0, none⟩)]) (d := (some (path 12 31))) (by kernel_rfl) ?_
            refine KC.bodyN E0_ok (F := Proofs.Try.f54) (by kernel_rfl) (code := f21_C54) (by kernel_rfl) (nt := 14) (by kernel_rfl) (rs := [.tmp 2]) (by kernel_rfl) (by kernel_rfl) (σ := [(0, .pointer (some ⟨0, 0, none⟩))]) (by kernel_rfl) ?_
            refine XQ.seq E0_ok (by kernel_rfl) ?_
            refine XQ.region (by kernel_rfl) ?_
            refine XR.run E0_ok 1 1 [0] rfl (σ' := [(0, .pointer (some ⟨0, 0, none⟩))]) (h' := [(1, .cells (rowC (encI .u8) []) 0 5 1), (0, .cells [.pointer none, .slice (some ⟨1, 0, none⟩) 0 0] 0 70 0)]) (c' := 2) (by kernel_rfl) ?_
            refine XR.done (by kernel_rfl) ?_
            show XQ _ _ _ _ _ _ _ _
            refine XQ.seq E0_ok (by kernel_rfl) ?_
            refine XQ.tail E0_ok 10 (by kernel_rfl) (by kernel_rfl) ?_
            refine XS.step E0_ok 4 rfl [0, 6] rfl (σ' := [(0, .pointer (some ⟨0, 0, none⟩)), (6, .slice (some ⟨1, 0, none⟩) 0 0)]) (by kernel_rfl) ?_
            cases h
      | false =>
        have h := cF b3 h
        refine XR.run E0_ok 1 5 [6] rfl (σ' := [(6, .bool false)]) (h' := []) (c' := 0) (by kernel_rfl) ?_
        refine XR.done (by kernel_rfl) ?_
        show XQ _ _ _ _ _ _ _ _
        refine XQ.ret (by kernel_rfl) ?_
        refine ⟨fun i q => (by cases q), .bool false, (by kernel_rfl), ?_⟩
        refine XR.conv (σ' := [(8, .bool false), (11, .bool false)]) (h' := []) (c' := 0) ?_ (by kernel_rfl)
        refine XR.run E0_ok 1 2 [13] rfl (σ' := [(13, .bool true)]) (h' := []) (c' := 0) (by kernel_rfl) ?_
        refine XR.done (by kernel_rfl) ?_
        show XQ _ _ _ _ _ _ _ _
        refine XQ.cond (s := (.tmp 13)) (b := true) (by kernel_rfl) (by kernel_rfl) (fun _ => ?_) (fun q => by cases q)
        refine XQ.seq E0_ok (by kernel_rfl) ?_
        refine XQ.region (by kernel_rfl) ?_
        refine XR.run E0_ok 1 1 [4] rfl (σ' := [(4, .int .i64 1)]) (h' := []) (c' := 0) (by kernel_rfl) ?_
        refine XR.done (by kernel_rfl) ?_
        show XQ _ _ _ _ _ _ _ _
        refine XQ.ret (by kernel_rfl) ?_
        refine ⟨fun i q => (by cases q), .int .i64 1, (by kernel_rfl), ?_⟩
        refine XR.conv (σ' := [(0, .int .i64 a), (1, .int .i64 b), (12, .int .i64 1)]) (h' := []) (c' := 0) ?_ (by kernel_rfl)
        refine XR.run E0_ok 1 1 [0, 1, 6] rfl (σ' := [(0, .int .i64 a), (1, .int .i64 b), (6, .int .i64 1)]) (h' := []) (c' := 0) (by kernel_rfl) ?_
        refine XR.done (by kernel_rfl) ?_
        show XQ _ _ _ _ _ _ _ _
        refine XQ.seq E0_ok (by kernel_rfl) ?_
        refine XQ.region (by kernel_rfl) ?_
        refine XR.run E0_ok 1 2 [0, 1, 6, 14] rfl (σ' := [(0, .int .i64 a), (1, .int .i64 b), (6, .int .i64 1), (14, .bool true)]) (h' := []) (c' := 0) (by kernel_rfl) ?_
        refine XR.done (by kernel_rfl) ?_
        show XQ _ _ _ _ _ _ _ _
        refine XQ.cond (s := (.tmp 14)) (b := true) (by kernel_rfl) (by kernel_rfl) (fun _ => ?_) (fun q => by cases q)
        refine XQ.seq E0_ok (by kernel_rfl) ?_
        refine XQ.region (by kernel_rfl) ?_
        refine XR.run E0_ok 1 3 [4, 5] rfl (σ' := [(4, .string (bs [])), (5, .int .i64 1)]) (h' := []) (c' := 0) (by kernel_rfl) ?_
        refine XR.done (by kernel_rfl) ?_
        show XQ _ _ _ _ _ _ _ _
        refine XQ.ret (by kernel_rfl) ?_
        have h := Option.some.inj h
        subst h
        exact ⟨fun i q => (by cases q), .tuple #[.string (bs []), .int .i64 1], (by kernel_rfl), rfl⟩
  | false =>
    have h := cF b1 h
    refine XR.run E0_ok 1 5 [6] rfl (σ' := [(6, .bool false)]) (h' := []) (c' := 0) (by kernel_rfl) ?_
    refine XR.done (by kernel_rfl) ?_
    show XQ _ _ _ _ _ _ _ _
    refine XQ.ret (by kernel_rfl) ?_
    refine ⟨fun i q => (by cases q), .bool false, (by kernel_rfl), ?_⟩
    refine XR.conv (σ' := [(0, .int .i64 a), (1, .int .i64 b), (6, .bool false)]) (h' := []) (c' := 0) ?_ (by kernel_rfl)
    refine XR.run E0_ok 1 7 [13] rfl (σ' := [(13, .bool true)]) (h' := []) (c' := 0) (by kernel_rfl) ?_
    refine XR.done (by kernel_rfl) ?_
    show XQ _ _ _ _ _ _ _ _
    refine XQ.cond (s := (.tmp 13)) (b := true) (by kernel_rfl) (by kernel_rfl) (fun _ => ?_) (fun q => by cases q)
    refine XQ.seq E0_ok (by kernel_rfl) ?_
    refine XQ.region (by kernel_rfl) ?_
    refine XR.run E0_ok 1 1 [4] rfl (σ' := [(4, .int .i64 1)]) (h' := []) (c' := 0) (by kernel_rfl) ?_
    refine XR.done (by kernel_rfl) ?_
    show XQ _ _ _ _ _ _ _ _
    refine XQ.ret (by kernel_rfl) ?_
    refine ⟨fun i q => (by cases q), .int .i64 1, (by kernel_rfl), ?_⟩
    refine XR.conv (σ' := [(0, .int .i64 a), (1, .int .i64 b), (12, .int .i64 1)]) (h' := []) (c' := 0) ?_ (by kernel_rfl)
    refine XR.run E0_ok 1 1 [0, 1, 6] rfl (σ' := [(0, .int .i64 a), (1, .int .i64 b), (6, .int .i64 1)]) (h' := []) (c' := 0) (by kernel_rfl) ?_
    refine XR.done (by kernel_rfl) ?_
    show XQ _ _ _ _ _ _ _ _
    refine XQ.seq E0_ok (by kernel_rfl) ?_
    refine XQ.region (by kernel_rfl) ?_
    refine XR.run E0_ok 1 2 [0, 1, 6, 14] rfl (σ' := [(0, .int .i64 a), (1, .int .i64 b), (6, .int .i64 1), (14, .bool true)]) (h' := []) (c' := 0) (by kernel_rfl) ?_
    refine XR.done (by kernel_rfl) ?_
    show XQ _ _ _ _ _ _ _ _
    refine XQ.cond (s := (.tmp 14)) (b := true) (by kernel_rfl) (by kernel_rfl) (fun _ => ?_) (fun q => by cases q)
    refine XQ.seq E0_ok (by kernel_rfl) ?_
    refine XQ.region (by kernel_rfl) ?_
    refine XR.run E0_ok 1 3 [4, 5] rfl (σ' := [(4, .string (bs [])), (5, .int .i64 1)]) (h' := []) (c' := 0) (by kernel_rfl) ?_
    refine XR.done (by kernel_rfl) ?_
    show XQ _ _ _ _ _ _ _ _
    refine XQ.ret (by kernel_rfl) ?_
    have h := Option.some.inj h
    subst h
    exact ⟨fun i q => (by cases q), .tuple #[.string (bs []), .int .i64 1], (by kernel_rfl), rfl⟩

/-! vitola/vitolaref08.Make -/
noncomputable def f22_C22 : Code := Proofs.Try.f22.body.getD .skip
noncomputable def f22_C55 : Code := Proofs.Try.f55.body.getD .skip
noncomputable def f22_C50 : Code := Proofs.Try.f50.body.getD .skip

def f22 (m : Nat) (a : Int) (b : Int) : Option (ByteArray × Int) :=
  cond (decide (a ≥ 1)) (
    cond (!(decide (a ≤ 16))) (
      some ((bs []), 1)
    ) (
      cond (decide (b ≥ 0)) (
        cond (!(decide (b ≤ a))) (
          some ((bs []), 1)
        ) (
          (f56 m a b).bind fun r1 =>
            some (r1, 0)
        )
      ) (
        some ((bs []), 1)
      )
    )
  ) (
    some ((bs []), 1)
  )

theorem f22_ok (m : Nat) (a : Int) (b : Int) (o : ByteArray × Int) (h : f22 m a b = some o) (w : World) (hI : maxInv w) : Calls Proofs.Try.prog 22 #[.int .i64 a, .int .i64 b] w fun e w' => e = .returned (.tuple #[.string o.1, .int .i64 o.2]) ∧ Below w.heap.size w w' := by
  refine KC.calls (E := E0) (args := [.int .i64 a, .int .i64 b]) (v := .tuple #[.string o.1, .int .i64 o.2]) rfl rfl (KC.bodyN E0_ok (F := Proofs.Try.f22) (by kernel_rfl) (code := f22_C22) (by kernel_rfl) (nt := 16) (by kernel_rfl) (rs := [.tmp 4, .tmp 5]) (by kernel_rfl) (by kernel_rfl) (σ := [(0, .int .i64 a), (1, .int .i64 b)]) (by kernel_rfl) ?_) w (maxInv_size hI) hI
  unfold f22 at h
  refine XQ.seq E0_ok (by kernel_rfl) ?_
  refine XQ.region (by kernel_rfl) ?_
  refine XR.run E0_ok 1 2 [0, 1] rfl (σ' := [(0, .int .i64 a), (1, .int .i64 b)]) (h' := []) (c' := 0) (by kernel_rfl) ?_
  refine XR.done (by kernel_rfl) ?_
  show XQ _ _ _ _ _ _ _ _
  refine XQ.seq E0_ok (by kernel_rfl) ?_
  refine XQ.region (by kernel_rfl) ?_
  refine XR.run E0_ok 1 2 [0, 1, 7, 8] rfl (σ' := [(0, .int .i64 a), (1, .int .i64 b), (7, .int .i64 a), (8, .int .i64 b)]) (h' := []) (c' := 0) (by kernel_rfl) ?_
  refine XR.callK E0_ok [0, 1, 9] rfl (K := 55) (args := [.int .i64 a, .int .i64 b]) (d := (some (path 12 9))) (by kernel_rfl) ?_
  refine KC.bodyN E0_ok (F := Proofs.Try.f55) (by kernel_rfl) (code := f22_C55) (by kernel_rfl) (nt := 14) (by kernel_rfl) (rs := [.tmp 4]) (by kernel_rfl) (by kernel_rfl) (σ := [(0, .int .i64 a), (1, .int .i64 b)]) (by kernel_rfl) ?_
  refine XQ.seq E0_ok (by kernel_rfl) ?_
  refine XQ.region (by kernel_rfl) ?_
  refine XR.run E0_ok 1 1 [0, 1] rfl (σ' := [(0, .int .i64 a), (1, .int .i64 b)]) (h' := []) (c' := 0) (by kernel_rfl) ?_
  refine XR.done (by kernel_rfl) ?_
  show XQ _ _ _ _ _ _ _ _
  refine XQ.seq E0_ok (by kernel_rfl) ?_
  refine XQ.seq E0_ok (by kernel_rfl) ?_
  refine XQ.region (by kernel_rfl) ?_
  refine XR.run E0_ok 1 1 [0, 1, 5] rfl (σ' := [(0, .int .i64 a), (1, .int .i64 b), (5, .int .i64 a)]) (h' := []) (c' := 0) (by kernel_rfl) ?_
  refine XR.callK E0_ok [0, 1, 6] rfl (K := 50) (args := [.int .i64 a, .int .i64 1, .int .i64 16]) (d := (some (path 12 6))) (by kernel_rfl) ?_
  refine KC.bodyN E0_ok (F := Proofs.Try.f50) (by kernel_rfl) (code := f22_C50) (by kernel_rfl) (nt := 15) (by kernel_rfl) (rs := [.tmp 6]) (by kernel_rfl) (by kernel_rfl) (σ := [(0, .int .i64 a), (1, .int .i64 1), (2, .int .i64 16)]) (by kernel_rfl) ?_
  refine XQ.seq E0_ok (by kernel_rfl) ?_
  refine XQ.region (by kernel_rfl) ?_
  refine XR.run E0_ok 1 1 [0, 1, 2] rfl (σ' := [(0, .int .i64 a), (1, .int .i64 1), (2, .int .i64 16)]) (h' := []) (c' := 0) (by kernel_rfl) ?_
  refine XR.done (by kernel_rfl) ?_
  show XQ _ _ _ _ _ _ _ _
  refine XQ.seq E0_ok (by kernel_rfl) ?_
  refine XQ.region (by kernel_rfl) ?_
  refine XR.run E0_ok 1 4 [0, 2, 10] rfl (σ' := [(0, .int .i64 a), (2, .int .i64 16), (10, .bool (decide (a ≥ 1)))]) (h' := []) (c' := 0) (by kernel_rfl) ?_
  cases b1 : (decide (a ≥ 1) : Bool) with
  | true =>
    have h := cT b1 h
    refine XR.run E0_ok 1 5 [6] rfl (σ' := [(6, .bool (decide (a ≤ 16)))]) (h' := []) (c' := 0) (by kernel_rfl) ?_
    refine XR.done (by kernel_rfl) ?_
    show XQ _ _ _ _ _ _ _ _
    refine XQ.ret (by kernel_rfl) ?_
    refine ⟨fun i q => (by cases q), .bool (decide (a ≤ 16)), (by kernel_rfl), ?_⟩
    refine XR.conv (σ' := [(0, .int .i64 a), (1, .int .i64 b), (6, .bool (decide (a ≤ 16)))]) (h' := []) (c' := 0) ?_ (by kernel_rfl)
    refine XR.run E0_ok 1 2 [0, 1, 8] rfl (σ' := [(0, .int .i64 a), (1, .int .i64 b), (8, .bool (!(decide (a ≤ 16))))]) (h' := []) (c' := 0) (by kernel_rfl) ?_
    cases b2 : (!(decide (a ≤ 16)) : Bool) with
    | true =>
      have h := cT b2 h
      refine XR.run E0_ok 1 5 [13] rfl (σ' := [(13, .bool true)]) (h' := []) (c' := 0) (by kernel_rfl) ?_
      refine XR.done (by kernel_rfl) ?_
      show XQ _ _ _ _ _ _ _ _
      refine XQ.cond (s := (.tmp 13)) (b := true) (by kernel_rfl) (by kernel_rfl) (fun _ => ?_) (fun q => by cases q)
      refine XQ.seq E0_ok (by kernel_rfl) ?_
      refine XQ.region (by kernel_rfl) ?_
      refine XR.run E0_ok 1 1 [4] rfl (σ' := [(4, .int .i64 1)]) (h' := []) (c' := 0) (by kernel_rfl) ?_
      refine XR.done (by kernel_rfl) ?_
      show XQ _ _ _ _ _ _ _ _
      refine XQ.ret (by kernel_rfl) ?_
      refine ⟨fun i q => (by cases q), .int .i64 1, (by kernel_rfl), ?_⟩
      refine XR.conv (σ' := [(0, .int .i64 a), (1, .int .i64 b), (9, .int .i64 1)]) (h' := []) (c' := 0) ?_ (by kernel_rfl)
      refine XR.run E0_ok 1 1 [0, 1, 6] rfl (σ' := [(0, .int .i64 a), (1, .int .i64 b), (6, .int .i64 1)]) (h' := []) (c' := 0) (by kernel_rfl) ?_
      refine XR.done (by kernel_rfl) ?_
      show XQ _ _ _ _ _ _ _ _
      refine XQ.seq E0_ok (by kernel_rfl) ?_
      refine XQ.seq E0_ok (by kernel_rfl) ?_
      refine XQ.region (by kernel_rfl) ?_
      refine XR.run E0_ok 1 2 [0, 1, 6, 11] rfl (σ' := [(0, .int .i64 a), (1, .int .i64 b), (6, .int .i64 1), (11, .bool true)]) (h' := []) (c' := 0) (by kernel_rfl) ?_
      refine XR.done (by kernel_rfl) ?_
      show XQ _ _ _ _ _ _ _ _
      refine XQ.cond (s := (.tmp 11)) (b := true) (by kernel_rfl) (by kernel_rfl) (fun _ => ?_) (fun q => by cases q)
      refine XQ.seq E0_ok (by kernel_rfl) ?_
      refine XQ.region (by kernel_rfl) ?_
      refine XR.run E0_ok 1 3 [4, 5] rfl (σ' := [(4, .string (bs [])), (5, .int .i64 1)]) (h' := []) (c' := 0) (by kernel_rfl) ?_
      refine XR.done (by kernel_rfl) ?_
      show XQ _ _ _ _ _ _ _ _
      refine XQ.ret (by kernel_rfl) ?_
      have h := Option.some.inj h
      subst h
      exact ⟨fun i q => (by cases q), .tuple #[.string (bs []), .int .i64 1], (by kernel_rfl), rfl⟩
    | false =>
      have h := cF b2 h
      refine XR.run E0_ok 1 2 [8, 9, 10] rfl (σ' := [(8, .bool false), (9, .int .i64 b), (10, .int .i64 a)]) (h' := []) (c' := 0) (by kernel_rfl) ?_
      refine XR.callK E0_ok [8, 11] rfl (K := 50) (args := [.int .i64 b, .int .i64 0, .int .i64 a]) (d := (some (path 12 11))) (by kernel_rfl) ?_
      refine KC.bodyN E0_ok (F := Proofs.Try.f50) (by kernel_rfl) (code := f22_C50) (by kernel_rfl) (nt := 15) (by kernel_rfl) (rs := [.tmp 6]) (by kernel_rfl) (by kernel_rfl) (σ := [(0, .int .i64 b), (1, .int .i64 0), (2, .int .i64 a)]) (by kernel_rfl) ?_
      refine XQ.seq E0_ok (by kernel_rfl) ?_
      refine XQ.region (by kernel_rfl) ?_
      refine XR.run E0_ok 1 1 [0, 1, 2] rfl (σ' := [(0, .int .i64 b), (1, .int .i64 0), (2, .int .i64 a)]) (h' := []) (c' := 0) (by kernel_rfl) ?_
      refine XR.done (by kernel_rfl) ?_
      show XQ _ _ _ _ _ _ _ _
      refine XQ.seq E0_ok (by kernel_rfl) ?_
      refine XQ.region (by kernel_rfl) ?_
      refine XR.run E0_ok 1 4 [0, 2, 10] rfl (σ' := [(0, .int .i64 b), (2, .int .i64 a), (10, .bool (decide (b ≥ 0)))]) (h' := []) (c' := 0) (by kernel_rfl) ?_
      cases b3 : (decide (b ≥ 0) : Bool) with
      | true =>
        have h := cT b3 h
        refine XR.run E0_ok 1 5 [6] rfl (σ' := [(6, .bool (decide (b ≤ a)))]) (h' := []) (c' := 0) (by kernel_rfl) ?_
        refine XR.done (by kernel_rfl) ?_
        show XQ _ _ _ _ _ _ _ _
        refine XQ.ret (by kernel_rfl) ?_
        refine ⟨fun i q => (by cases q), .bool (decide (b ≤ a)), (by kernel_rfl), ?_⟩
        refine XR.conv (σ' := [(8, .bool false), (11, .bool (decide (b ≤ a)))]) (h' := []) (c' := 0) ?_ (by kernel_rfl)
        refine XR.run E0_ok 1 2 [13] rfl (σ' := [(13, .bool (!(decide (b ≤ a))))]) (h' := []) (c' := 0) (by kernel_rfl) ?_
        refine XR.done (by kernel_rfl) ?_
        show XQ _ _ _ _ _ _ _ _
        cases b4 : (!(decide (b ≤ a)) : Bool) with
        | true =>
          have h := cT b4 h
          refine XQ.cond (s := (.tmp 13)) (b := true) (by kernel_rfl) (by kernel_rfl) (fun _ => ?_) (fun q => by cases q)
          refine XQ.seq E0_ok (by kernel_rfl) ?_
          refine XQ.region (by kernel_rfl) ?_
          refine XR.run E0_ok 1 1 [4] rfl (σ' := [(4, .int .i64 1)]) (h' := []) (c' := 0) (by kernel_rfl) ?_
          refine XR.done (by kernel_rfl) ?_
          show XQ _ _ _ _ _ _ _ _
          refine XQ.ret (by kernel_rfl) ?_
          refine ⟨fun i q => (by cases q), .int .i64 1, (by kernel_rfl), ?_⟩
          refine XR.conv (σ' := [(0, .int .i64 a), (1, .int .i64 b), (9, .int .i64 1)]) (h' := []) (c' := 0) ?_ (by kernel_rfl)
          refine XR.run E0_ok 1 1 [0, 1, 6] rfl (σ' := [(0, .int .i64 a), (1, .int .i64 b), (6, .int .i64 1)]) (h' := []) (c' := 0) (by kernel_rfl) ?_
          refine XR.done (by kernel_rfl) ?_
          show XQ _ _ _ _ _ _ _ _
          refine XQ.seq E0_ok (by kernel_rfl) ?_
          refine XQ.seq E0_ok (by kernel_rfl) ?_
          refine XQ.region (by kernel_rfl) ?_
          refine XR.run E0_ok 1 2 [0, 1, 6, 11] rfl (σ' := [(0, .int .i64 a), (1, .int .i64 b), (6, .int .i64 1), (11, .bool true)]) (h' := []) (c' := 0) (by kernel_rfl) ?_
          refine XR.done (by kernel_rfl) ?_
          show XQ _ _ _ _ _ _ _ _
          refine XQ.cond (s := (.tmp 11)) (b := true) (by kernel_rfl) (by kernel_rfl) (fun _ => ?_) (fun q => by cases q)
          refine XQ.seq E0_ok (by kernel_rfl) ?_
          refine XQ.region (by kernel_rfl) ?_
          refine XR.run E0_ok 1 3 [4, 5] rfl (σ' := [(4, .string (bs [])), (5, .int .i64 1)]) (h' := []) (c' := 0) (by kernel_rfl) ?_
          refine XR.done (by kernel_rfl) ?_
          show XQ _ _ _ _ _ _ _ _
          refine XQ.ret (by kernel_rfl) ?_
          have h := Option.some.inj h
          subst h
          exact ⟨fun i q => (by cases q), .tuple #[.string (bs []), .int .i64 1], (by kernel_rfl), rfl⟩
        | false =>
          have h := cF b4 h
          refine XQ.cond (s := (.tmp 13)) (b := false) (by kernel_rfl) (by kernel_rfl) (fun q => by cases q) (fun _ => ?_)
          refine XQ.skip (by kernel_rfl) ?_
          show XQ _ _ _ _ _ _ _ _
          refine XQ.seq E0_ok (by kernel_rfl) ?_
          refine XQ.region (by kernel_rfl) ?_
          refine XR.run E0_ok 1 1 [4] rfl (σ' := [(4, .int .i64 0)]) (h' := []) (c' := 0) (by kernel_rfl) ?_
          refine XR.done (by kernel_rfl) ?_
          show XQ _ _ _ _ _ _ _ _
          refine XQ.ret (by kernel_rfl) ?_
          refine ⟨fun i q => (by cases q), .int .i64 0, (by kernel_rfl), ?_⟩
          refine XR.conv (σ' := [(0, .int .i64 a), (1, .int .i64 b), (9, .int .i64 0)]) (h' := []) (c' := 0) ?_ (by kernel_rfl)
          refine XR.run E0_ok 1 1 [0, 1, 6] rfl (σ' := [(0, .int .i64 a), (1, .int .i64 b), (6, .int .i64 0)]) (h' := []) (c' := 0) (by kernel_rfl) ?_
          refine XR.done (by kernel_rfl) ?_
          show XQ _ _ _ _ _ _ _ _
          refine XQ.seq E0_ok (by kernel_rfl) ?_
          refine XQ.seq E0_ok (by kernel_rfl) ?_
          refine XQ.region (by kernel_rfl) ?_
          refine XR.run E0_ok 1 2 [0, 1, 6, 11] rfl (σ' := [(0, .int .i64 a), (1, .int .i64 b), (6, .int .i64 0), (11, .bool false)]) (h' := []) (c' := 0) (by kernel_rfl) ?_
          refine XR.done (by kernel_rfl) ?_
          show XQ _ _ _ _ _ _ _ _
          refine XQ.cond (s := (.tmp 11)) (b := false) (by kernel_rfl) (by kernel_rfl) (fun q => by cases q) (fun _ => ?_)
          refine XQ.skip (by kernel_rfl) ?_
          show XQ _ _ _ _ _ _ _ _
          refine XQ.seq E0_ok (by kernel_rfl) ?_
          refine XQ.region (by kernel_rfl) ?_
          refine XR.run E0_ok 1 2 [13, 14] rfl (σ' := [(13, .int .i64 a), (14, .int .i64 b)]) (h' := []) (c' := 0) (by kernel_rfl) ?_
          obtain ⟨r1, r1_h, h⟩ := bS h
          refine XR.call E0_ok [15] rfl (K := 56) (args := [.int .i64 a, .int .i64 b]) (d := (some (path 12 15))) (by kernel_rfl) (KC.of_calls E0_ok (F := Proofs.Try.f56) (v := .string r1) (by kernel_rfl) rfl rfl (fun w hI => f56_ok m a b r1 r1_h w hI)) ?_
          rintro _ _ _ ⟨rfl, rfl, rfl⟩
          refine XR.conv (σ' := [(15, .string r1)]) (h' := []) (c' := 0) ?_ (by kernel_rfl)
          refine XR.run E0_ok 1 2 [4, 5] rfl (σ' := [(4, .string r1), (5, .int .i64 0)]) (h' := []) (c' := 0) (by kernel_rfl) ?_
          refine XR.done (by kernel_rfl) ?_
          show XQ _ _ _ _ _ _ _ _
          refine XQ.ret (by kernel_rfl) ?_
          have h := Option.some.inj h
          subst h
          exact ⟨fun i q => (by cases q), .tuple #[.string r1, .int .i64 0], (by kernel_rfl), rfl⟩
      | false =>
        have h := cF b3 h
        refine XR.run E0_ok 1 5 [6] rfl (σ' := [(6, .bool false)]) (h' := []) (c' := 0) (by kernel_rfl) ?_
        refine XR.done (by kernel_rfl) ?_
        show XQ _ _ _ _ _ _ _ _
        refine XQ.ret (by kernel_rfl) ?_
        refine ⟨fun i q => (by cases q), .bool false, (by kernel_rfl), ?_⟩
        refine XR.conv (σ' := [(8, .bool false), (11, .bool false)]) (h' := []) (c' := 0) ?_ (by kernel_rfl)
        refine XR.run E0_ok 1 2 [13] rfl (σ' := [(13, .bool true)]) (h' := []) (c' := 0) (by kernel_rfl) ?_
        refine XR.done (by kernel_rfl) ?_
        show XQ _ _ _ _ _ _ _ _
        refine XQ.cond (s := (.tmp 13)) (b := true) (by kernel_rfl) (by kernel_rfl) (fun _ => ?_) (fun q => by cases q)
        refine XQ.seq E0_ok (by kernel_rfl) ?_
        refine XQ.region (by kernel_rfl) ?_
        refine XR.run E0_ok 1 1 [4] rfl (σ' := [(4, .int .i64 1)]) (h' := []) (c' := 0) (by kernel_rfl) ?_
        refine XR.done (by kernel_rfl) ?_
        show XQ _ _ _ _ _ _ _ _
        refine XQ.ret (by kernel_rfl) ?_
        refine ⟨fun i q => (by cases q), .int .i64 1, (by kernel_rfl), ?_⟩
        refine XR.conv (σ' := [(0, .int .i64 a), (1, .int .i64 b), (9, .int .i64 1)]) (h' := []) (c' := 0) ?_ (by kernel_rfl)
        refine XR.run E0_ok 1 1 [0, 1, 6] rfl (σ' := [(0, .int .i64 a), (1, .int .i64 b), (6, .int .i64 1)]) (h' := []) (c' := 0) (by kernel_rfl) ?_
        refine XR.done (by kernel_rfl) ?_
        show XQ _ _ _ _ _ _ _ _
        refine XQ.seq E0_ok (by kernel_rfl) ?_
        refine XQ.seq E0_ok (by kernel_rfl) ?_
        refine XQ.region (by kernel_rfl) ?_
        refine XR.run E0_ok 1 2 [0, 1, 6, 11] rfl (σ' := [(0, .int .i64 a), (1, .int .i64 b), (6, .int .i64 1), (11, .bool true)]) (h' := []) (c' := 0) (by kernel_rfl) ?_
        refine XR.done (by kernel_rfl) ?_
        show XQ _ _ _ _ _ _ _ _
        refine XQ.cond (s := (.tmp 11)) (b := true) (by kernel_rfl) (by kernel_rfl) (fun _ => ?_) (fun q => by cases q)
        refine XQ.seq E0_ok (by kernel_rfl) ?_
        refine XQ.region (by kernel_rfl) ?_
        refine XR.run E0_ok 1 3 [4, 5] rfl (σ' := [(4, .string (bs [])), (5, .int .i64 1)]) (h' := []) (c' := 0) (by kernel_rfl) ?_
        refine XR.done (by kernel_rfl) ?_
        show XQ _ _ _ _ _ _ _ _
        refine XQ.ret (by kernel_rfl) ?_
        have h := Option.some.inj h
        subst h
        exact ⟨fun i q => (by cases q), .tuple #[.string (bs []), .int .i64 1], (by kernel_rfl), rfl⟩
  | false =>
    have h := cF b1 h
    refine XR.run E0_ok 1 5 [6] rfl (σ' := [(6, .bool false)]) (h' := []) (c' := 0) (by kernel_rfl) ?_
    refine XR.done (by kernel_rfl) ?_
    show XQ _ _ _ _ _ _ _ _
    refine XQ.ret (by kernel_rfl) ?_
    refine ⟨fun i q => (by cases q), .bool false, (by kernel_rfl), ?_⟩
    refine XR.conv (σ' := [(0, .int .i64 a), (1, .int .i64 b), (6, .bool false)]) (h' := []) (c' := 0) ?_ (by kernel_rfl)
    refine XR.run E0_ok 1 7 [13] rfl (σ' := [(13, .bool true)]) (h' := []) (c' := 0) (by kernel_rfl) ?_
    refine XR.done (by kernel_rfl) ?_
    show XQ _ _ _ _ _ _ _ _
    refine XQ.cond (s := (.tmp 13)) (b := true) (by kernel_rfl) (by kernel_rfl) (fun _ => ?_) (fun q => by cases q)
    refine XQ.seq E0_ok (by kernel_rfl) ?_
    refine XQ.region (by kernel_rfl) ?_
    refine XR.run E0_ok 1 1 [4] rfl (σ' := [(4, .int .i64 1)]) (h' := []) (c' := 0) (by kernel_rfl) ?_
    refine XR.done (by kernel_rfl) ?_
    show XQ _ _ _ _ _ _ _ _
    refine XQ.ret (by kernel_rfl) ?_
    refine ⟨fun i q => (by cases q), .int .i64 1, (by kernel_rfl), ?_⟩
    refine XR.conv (σ' := [(0, .int .i64 a), (1, .int .i64 b), (9, .int .i64 1)]) (h' := []) (c' := 0) ?_ (by kernel_rfl)
    refine XR.run E0_ok 1 1 [0, 1, 6] rfl (σ' := [(0, .int .i64 a), (1, .int .i64 b), (6, .int .i64 1)]) (h' := []) (c' := 0) (by kernel_rfl) ?_
    refine XR.done (by kernel_rfl) ?_
    show XQ _ _ _ _ _ _ _ _
    refine XQ.seq E0_ok (by kernel_rfl) ?_
    refine XQ.seq E0_ok (by kernel_rfl) ?_
    refine XQ.region (by kernel_rfl) ?_
    refine XR.run E0_ok 1 2 [0, 1, 6, 11] rfl (σ' := [(0, .int .i64 a), (1, .int .i64 b), (6, .int .i64 1), (11, .bool true)]) (h' := []) (c' := 0) (by kernel_rfl) ?_
    refine XR.done (by kernel_rfl) ?_
    show XQ _ _ _ _ _ _ _ _
    refine XQ.cond (s := (.tmp 11)) (b := true) (by kernel_rfl) (by kernel_rfl) (fun _ => ?_) (fun q => by cases q)
    refine XQ.seq E0_ok (by kernel_rfl) ?_
    refine XQ.region (by kernel_rfl) ?_
    refine XR.run E0_ok 1 3 [4, 5] rfl (σ' := [(4, .string (bs [])), (5, .int .i64 1)]) (h' := []) (c' := 0) (by kernel_rfl) ?_
    refine XR.done (by kernel_rfl) ?_
    show XQ _ _ _ _ _ _ _ _
    refine XQ.ret (by kernel_rfl) ?_
    have h := Option.some.inj h
    subst h
    exact ⟨fun i q => (by cases q), .tuple #[.string (bs []), .int .i64 1], (by kernel_rfl), rfl⟩

end Go.Xm
