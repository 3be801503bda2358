/- What these functions of the program compute, as functions in Lean, and the proofs that they do: vitolaref08.turned, vitolaref08.same, band.Turn, vitolaref08.Turn. Conditions: the library's variable MaxLen holds some int. -/
import Derived.Test.YtdijjdkaojbolaaDa
namespace Go.Xm
open Go.RowKit
set_option linter.unusedVariables false
set_option linter.unusedSimpArgs false

/-! vitola/vitolaref08.turned -/
noncomputable def f57_C57 : Code := Proofs.Try.f57.body.getD .skip

def f57 (m : Nat) (a : ByteArray) (b : Int) : Option (ByteArray) :=
  cond (cutOk b (a.size : Int) a.size) (
    cond (cutOk 0 b a.size) (
      cond (Nat.ble ((cutT a b (a.size : Int)).size + (cutT a 0 b).size) 9223372036854775807) (
        some (catS (cutT a b (a.size : Int)) (cutT a 0 b))
      ) none
    ) none
  ) none

theorem f57_ok (m : Nat) (a : ByteArray) (b : Int) (o : ByteArray) (h : f57 m a b = some o) (w : World) (hI : maxInv w) : Calls Proofs.Try.prog 57 #[.string a, .int .i64 b] w fun e w' => e = .returned (.string o) ∧ Below w.heap.size w w' := by
  refine KC.calls (E := E0) (args := [.string a, .int .i64 b]) (v := .string o) rfl rfl (KC.bodyN E0_ok (F := Proofs.Try.f57) (by kernel_rfl) (code := f57_C57) (by kernel_rfl) (nt := 12) (by kernel_rfl) (rs := [.tmp 4]) (by kernel_rfl) (by kernel_rfl) (σ := [(0, .string a), (1, .int .i64 b)]) (by kernel_rfl) ?_) w (maxInv_size hI) hI
  unfold f57 at h
  refine XQ.seq E0_ok (by kernel_rfl) ?_
  refine XQ.region (by kernel_rfl) ?_
  refine XR.run E0_ok 1 1 [0, 1] rfl (σ' := [(0, .string a), (1, .int .i64 b)]) (h' := []) (c' := 0) (by kernel_rfl) ?_
  refine XR.done (by kernel_rfl) ?_
  show XQ _ _ _ _ _ _ _ _
  refine XQ.seq E0_ok (by kernel_rfl) ?_
  refine XQ.quiet E0_ok (by kernel_rfl) (by kernel_rfl) ?_
  refine XU.run E0_ok 1 2 [0, 1, 5, 6] rfl (σ' := [(0, .string a), (1, .int .i64 b), (5, .string a), (6, .int .i64 b)]) (by kernel_rfl) ?_
  cases b1 : (cutOk b (a.size : Int) a.size : Bool) with
  | false => cases (cF b1 h)
  | true =>
    have h := cT b1 h
    have e2 : insV (headI ((gsOf E0 12 (opsOf (lft (rgt f57_C57)))).drop 2) (trS 12 [(0, .string a), (1, .int .i64 b), (5, .string a), (6, .int .i64 b)])) (trS 12 [(0, .string a), (1, .int .i64 b), (5, .string a), (6, .int .i64 b)]) [] = (match (cutOk b (a.size : Int) a.size : Bool) with | true => some (.string (cutT a b (a.size : Int))) | false => none) := by kernel_rfl
    refine XU.rd E0_ok [0, 1, 7] rfl (e2.trans (by rw [b1])) (σ' := [(0, .string a), (1, .int .i64 b), (7, .string (cutT a b (a.size : Int)))]) (by kernel_rfl) ?_
    refine XU.run E0_ok 1 2 [7, 8, 9] rfl (σ' := [(7, .string (cutT a b (a.size : Int))), (8, .string a), (9, .int .i64 b)]) (by kernel_rfl) ?_
    cases b3 : (cutOk 0 b a.size : Bool) with
    | false => cases (cF b3 h)
    | true =>
      have h := cT b3 h
      have e4 : insV (headI ((gsOf E0 12 (opsOf (lft (rgt f57_C57)))).drop 5) (trS 12 [(7, .string (cutT a b (a.size : Int))), (8, .string a), (9, .int .i64 b)])) (trS 12 [(7, .string (cutT a b (a.size : Int))), (8, .string a), (9, .int .i64 b)]) [] = (match (cutOk 0 b a.size : Bool) with | true => some (.string (cutT a 0 b)) | false => none) := by kernel_rfl
      refine XU.rd E0_ok [7, 10] rfl (e4.trans (by rw [b3])) (σ' := [(7, .string (cutT a b (a.size : Int))), (10, .string (cutT a 0 b))]) (by kernel_rfl) ?_
      cases b5 : (Nat.ble ((cutT a b (a.size : Int)).size + (cutT a 0 b).size) 9223372036854775807 : Bool) with
      | false => cases (cF b5 h)
      | true =>
        have h := cT b5 h
        have e6 : insV (headI ((gsOf E0 12 (opsOf (lft (rgt f57_C57)))).drop 6) (trS 12 [(7, .string (cutT a b (a.size : Int))), (10, .string (cutT a 0 b))])) (trS 12 [(7, .string (cutT a b (a.size : Int))), (10, .string (cutT a 0 b))]) [] = (match (Nat.ble ((cutT a b (a.size : Int)).size + (cutT a 0 b).size) 9223372036854775807 : Bool) with | true => some (.string (catS (cutT a b (a.size : Int)) (cutT a 0 b))) | false => none) := by kernel_rfl
        refine XU.rd E0_ok [11] rfl (e6.trans (by rw [b5])) (σ' := [(11, .string (catS (cutT a b (a.size : Int)) (cutT a 0 b)))]) (by kernel_rfl) ?_
        refine XU.run E0_ok 1 1 [4] rfl (σ' := [(4, .string (catS (cutT a b (a.size : Int)) (cutT a 0 b)))]) (by kernel_rfl) ?_
        refine XU.done (by kernel_rfl) ?_
        show XQ _ _ _ _ _ _ _ _
        refine XQ.ret (by kernel_rfl) ?_
        have h := Option.some.inj h
        subst h
        exact ⟨fun i q => (by cases q), .string (catS (cutT a b (a.size : Int)) (cutT a 0 b)), (by kernel_rfl), rfl⟩

/-! vitola/vitolaref08.same -/
noncomputable def f58_C58 : Code := Proofs.Try.f58.body.getD .skip
noncomputable def f58_L1 : Code := lft (lft (rgt (lft (rgt f58_C58))))

inductive Of58_1 where
  | r (x6_r1 : Int)
  | x0

def f58_1 (m : Nat) : Nat → ByteArray → ByteArray → Int → Option Of58_1
  | 0, _, _, _ => none
  | fuel + 1, a, b, x7_1 =>
    cond (decide (x7_1 < ((a.size : Nat) : Int))) (
      (f57 m a x7_1).bind fun r3 =>
        cond (r3.data.toList == b.data.toList) (
          some (.r x7_1)
        ) (
          f58_1 m fuel a b (w64 (x7_1 + 1))
        )
    ) (
      some (.x0)
    )

theorem f58_1_ok (m : Nat) : ∀ (fuel : Nat) (a : ByteArray) (b : ByteArray) (x7_1 : Int) (o : Of58_1), f58_1 m fuel a b x7_1 = some o → ∀ Q : QP, (match o with | .r x6_r1 => Q .ret [(6, .int .i64 x6_r1)] [] 0 | .x0 => Q (.exit 0) [] [] 0) → XL E0 21 0 fuel f58_L1 [(0, .string a), (1, .string b), (7, .int .i64 x7_1)] [] 0 Q
  | 0, a, b, x7_1, o, h, Q, hQ => by cases h
  | fuel + 1, a, b, x7_1, o, h, Q, hQ => by
    unfold f58_1 at h
    refine XL.succ E0_ok ?_
    refine XQ.seq E0_ok (by kernel_rfl) ?_
    refine XQ.seq E0_ok (by kernel_rfl) ?_
    refine XQ.region (by kernel_rfl) ?_
    refine XR.run E0_ok 1 4 [0, 1, 7, 12] rfl (σ' := [(0, .string a), (1, .string b), (7, .int .i64 x7_1), (12, .bool (decide (x7_1 < ((a.size : Nat) : Int))))]) (h' := []) (c' := 0) (by kernel_rfl) ?_
    refine XR.done (by kernel_rfl) ?_
    show XQ _ _ _ _ _ _ _ _
    cases b1 : (decide (x7_1 < ((a.size : Nat) : Int)) : Bool) with
    | true =>
      have h := cT b1 h
      refine XQ.cond (s := (.tmp 12)) (b := true) (by kernel_rfl) (by kernel_rfl) (fun _ => ?_) (fun q => by cases q)
      refine XQ.skip (by kernel_rfl) ?_
      show XQ _ _ _ _ _ _ _ _
      refine XQ.seq E0_ok (by kernel_rfl) ?_
      refine XQ.block (id := 1) (by kernel_rfl) ?_
      refine XQ.seq E0_ok (by kernel_rfl) ?_
      refine XQ.region (by kernel_rfl) ?_
      refine XR.run E0_ok 1 2 [0, 1, 7, 15, 16] rfl (σ' := [(0, .string a), (1, .string b), (7, .int .i64 x7_1), (15, .string a), (16, .int .i64 x7_1)]) (h' := []) (c' := 0) (by kernel_rfl) ?_
      obtain ⟨r3, r3_h, h⟩ := bS h
      refine XR.call E0_ok [0, 1, 7, 17] rfl (K := 57) (args := [.string a, .int .i64 x7_1]) (d := (some (path 12 17))) (by kernel_rfl) (KC.of_calls E0_ok (F := Proofs.Try.f57) (v := .string r3) (by kernel_rfl) rfl rfl (fun w hI => f57_ok m a x7_1 r3 r3_h w hI)) ?_
      rintro _ _ _ ⟨rfl, rfl, rfl⟩
      refine XR.conv (σ' := [(0, .string a), (1, .string b), (7, .int .i64 x7_1), (17, .string r3)]) (h' := []) (c' := 0) ?_ (by kernel_rfl)
      refine XR.run E0_ok 1 2 [0, 1, 7, 19] rfl (σ' := [(0, .string a), (1, .string b), (7, .int .i64 x7_1), (19, .bool (r3.data.toList == b.data.toList))]) (h' := []) (c' := 0) (by kernel_rfl) ?_
      refine XR.done (by kernel_rfl) ?_
      show XQ _ _ _ _ _ _ _ _
      cases b2 : (r3.data.toList == b.data.toList : Bool) with
      | true =>
        have h := cT b2 h
        refine XQ.cond (s := (.tmp 19)) (b := true) (by kernel_rfl) (by kernel_rfl) (fun _ => ?_) (fun q => by cases q)
        refine XQ.seq E0_ok (by kernel_rfl) ?_
        refine XQ.region (by kernel_rfl) ?_
        refine XR.run E0_ok 1 2 [6] rfl (σ' := [(6, .int .i64 x7_1)]) (h' := []) (c' := 0) (by kernel_rfl) ?_
        refine XR.done (by kernel_rfl) ?_
        show XQ _ _ _ _ _ _ _ _
        refine XQ.ren (σ' := [(6, .int .i64 x7_1)]) (h' := []) (c' := 0) [] (by decide) rfl ⟨by kernel_rfl, trivial⟩ trivial rfl ?_
        refine XQ.ret (by kernel_rfl) ?_
        cases h
        exact hQ
      | false =>
        have h := cF b2 h
        refine XQ.cond (s := (.tmp 19)) (b := false) (by kernel_rfl) (by kernel_rfl) (fun q => by cases q) (fun _ => ?_)
        refine XQ.skip (by kernel_rfl) ?_
        show XQ _ _ _ _ _ _ _ _
        refine XQ.region (by kernel_rfl) ?_
        refine XR.run E0_ok 1 3 [0, 1, 7] rfl (σ' := [(0, .string a), (1, .string b), (7, .int .i64 (w64 (x7_1 + 1)))]) (h' := []) (c' := 0) (by kernel_rfl) ?_
        refine XR.done (by kernel_rfl) ?_
        show XL _ _ _ _ _ _ _ _ _
        refine XL.ren (σ' := [(0, .string a), (1, .string b), (7, .int .i64 (w64 (x7_1 + 1)))]) (h' := []) (c' := 0) [] (by decide) rfl ⟨by kernel_rfl, by kernel_rfl, by kernel_rfl, trivial⟩ trivial rfl ?_
        refine XL.conv (f58_1_ok m fuel a b (w64 (x7_1 + 1)) o h Q hQ) (by first | rfl | simp)
    | false =>
      have h := cF b1 h
      refine XQ.cond (s := (.tmp 12)) (b := false) (by kernel_rfl) (by kernel_rfl) (fun q => by cases q) (fun _ => ?_)
      refine XQ.ren (σ' := []) (h' := []) (c' := 0) [] (by decide) rfl trivial trivial rfl ?_
      refine XQ.exit (i := 0) (by kernel_rfl) ?_
      cases h
      exact hQ

def f58 (m : Nat) (a : ByteArray) (b : ByteArray) (c : Int) : Option (Int) :=
  (f58_1 m m a b c).bind fun o1 =>
    match o1 with
    | .r x6_r1 =>
      some (x6_r1)
    | .x0 =>
      some ((-1))

theorem f58_ok (m : Nat) (a : ByteArray) (b : ByteArray) (c : Int) (o : Int) (h : f58 m a b c = some o) (w : World) (hI : maxInv w) : Calls Proofs.Try.prog 58 #[.string a, .string b, .int .i64 c] w fun e w' => e = .returned (.int .i64 o) ∧ Below w.heap.size w w' := by
  refine KC.calls (E := E0) (args := [.string a, .string b, .int .i64 c]) (v := .int .i64 o) rfl rfl (KC.bodyN E0_ok (F := Proofs.Try.f58) (by kernel_rfl) (code := f58_C58) (by kernel_rfl) (nt := 21) (by kernel_rfl) (rs := [.tmp 6]) (by kernel_rfl) (by kernel_rfl) (σ := [(0, .string a), (1, .string b), (2, .int .i64 c)]) (by kernel_rfl) ?_) w (maxInv_size hI) hI
  unfold f58 at h
  refine XQ.seq E0_ok (by kernel_rfl) ?_
  refine XQ.region (by kernel_rfl) ?_
  refine XR.run E0_ok 1 1 [0, 1, 2] rfl (σ' := [(0, .string a), (1, .string b), (2, .int .i64 c)]) (h' := []) (c' := 0) (by kernel_rfl) ?_
  refine XR.done (by kernel_rfl) ?_
  show XQ _ _ _ _ _ _ _ _
  refine XQ.seq E0_ok (by kernel_rfl) ?_
  refine XQ.seq E0_ok (by kernel_rfl) ?_
  refine XQ.region (by kernel_rfl) ?_
  refine XR.run E0_ok 1 2 [0, 1, 7] rfl (σ' := [(0, .string a), (1, .string b), (7, .int .i64 c)]) (h' := []) (c' := 0) (by kernel_rfl) ?_
  refine XR.done (by kernel_rfl) ?_
  show XQ _ _ _ _ _ _ _ _
  refine XQ.block (id := 0) (by kernel_rfl) ?_
  refine XQ.loop m (by kernel_rfl) ?_
  obtain ⟨o1, o1_h, h⟩ := bS h
  refine XL.ren (σ' := [(0, .string a), (1, .string b), (7, .int .i64 c)]) (h' := []) (c' := 0) [] (by decide) rfl ⟨by kernel_rfl, by kernel_rfl, by kernel_rfl, trivial⟩ trivial rfl ?_
  cases o1 with
  | r x6_r1 =>
    dsimp only at h
    refine XL.conv (f58_1_ok m m a b c (.r x6_r1) o1_h _ ?_) (by first | rfl | simp)
    have h := Option.some.inj h
    subst h
    exact ⟨fun i q => (by cases q), .int .i64 x6_r1, (by kernel_rfl), rfl⟩
  | x0 =>
    dsimp only at h
    refine XL.conv (f58_1_ok m m a b c (.x0) o1_h _ ?_) (by first | rfl | simp)
    show XQ _ _ _ _ _ _ _ _
    refine XQ.seq E0_ok (by kernel_rfl) ?_
    refine XQ.region (by kernel_rfl) ?_
    refine XR.run E0_ok 1 1 [6] rfl (σ' := [(6, .int .i64 (-1))]) (h' := []) (c' := 0) (by kernel_rfl) ?_
    refine XR.done (by kernel_rfl) ?_
    show XQ _ _ _ _ _ _ _ _
    refine XQ.ret (by kernel_rfl) ?_
    have h := Option.some.inj h
    subst h
    exact ⟨fun i q => (by cases q), .int .i64 (-1), (by kernel_rfl), rfl⟩

/-! vitola/band.Turn -/
noncomputable def f27_C27 : Code := Proofs.Try.f27.body.getD .skip
noncomputable def f27_C47 : Code := Proofs.Try.f47.body.getD .skip

def f27 (m : Nat) (a : ByteArray) (b : Int) : Option (ByteArray × Int) :=
  (f19 m a).bind fun r1 =>
    cond (r1 != 0) (
      some ((bs []), r1)
    ) (
      cond (decide ((0 : Int) ≤ b)) (
        cond (!(decide (b ≤ (w64 (((a.size : Nat) : Int) - 1))))) (
          some ((bs []), 1)
        ) (
          cond (cutOk b (a.size : Int) a.size) (
            cond (cutOk 0 b a.size) (
              cond (Nat.ble ((cutT a b (a.size : Int)).size + (cutT a 0 b).size) 9223372036854775807) (
                some (catS (cutT a b (a.size : Int)) (cutT a 0 b), 0)
              ) none
            ) none
          ) none
        )
      ) (
        some ((bs []), 1)
      )
    )

theorem f27_ok (m : Nat) (a : ByteArray) (b : Int) (o : ByteArray × Int) (h : f27 m a b = some o) (w : World) (hI : maxInv w) : Calls Proofs.Try.prog 27 #[.string a, .int .i64 b] w fun e w' => e = .returned (.tuple #[.string o.1, .int .i64 o.2]) ∧ Below w.heap.size w w' := by
  refine KC.calls (E := E0) (args := [.string a, .int .i64 b]) (v := .tuple #[.string o.1, .int .i64 o.2]) rfl rfl (KC.bodyN E0_ok (F := Proofs.Try.f27) (by kernel_rfl) (code := f27_C27) (by kernel_rfl) (nt := 27) (by kernel_rfl) (rs := [.tmp 4, .tmp 5]) (by kernel_rfl) (by kernel_rfl) (σ := [(0, .string a), (1, .int .i64 b)]) (by kernel_rfl) ?_) w (maxInv_size hI) hI
  unfold f27 at h
  refine XQ.seq E0_ok (by kernel_rfl) ?_
  refine XQ.region (by kernel_rfl) ?_
  refine XR.run E0_ok 1 2 [0, 1] rfl (σ' := [(0, .string a), (1, .int .i64 b)]) (h' := []) (c' := 0) (by kernel_rfl) ?_
  refine XR.done (by kernel_rfl) ?_
  show XQ _ _ _ _ _ _ _ _
  refine XQ.seq E0_ok (by kernel_rfl) ?_
  refine XQ.region (by kernel_rfl) ?_
  refine XR.run E0_ok 1 1 [0, 1, 7] rfl (σ' := [(0, .string a), (1, .int .i64 b), (7, .string a)]) (h' := []) (c' := 0) (by kernel_rfl) ?_
  obtain ⟨r1, r1_h, h⟩ := bS h
  refine XR.call E0_ok [0, 1, 8] rfl (K := 19) (args := [.string a]) (d := (some (path 12 8))) (by kernel_rfl) (KC.of_calls E0_ok (F := Proofs.Try.f19) (v := .int .i64 r1) (by kernel_rfl) rfl rfl (fun w hI => f19_ok m a r1 r1_h w hI)) ?_
  rintro _ _ _ ⟨rfl, rfl, rfl⟩
  refine XR.conv (σ' := [(0, .string a), (1, .int .i64 b), (8, .int .i64 r1)]) (h' := []) (c' := 0) ?_ (by kernel_rfl)
  refine XR.run E0_ok 1 1 [0, 1, 6] rfl (σ' := [(0, .string a), (1, .int .i64 b), (6, .int .i64 r1)]) (h' := []) (c' := 0) (by kernel_rfl) ?_
  refine XR.done (by kernel_rfl) ?_
  show XQ _ _ _ _ _ _ _ _
  refine XQ.seq E0_ok (by kernel_rfl) ?_
  refine XQ.block (id := 0) (by kernel_rfl) ?_
  refine XQ.seq E0_ok (by kernel_rfl) ?_
  refine XQ.region (by kernel_rfl) ?_
  refine XR.run E0_ok 1 3 [0, 1, 6, 9] rfl (σ' := [(0, .string a), (1, .int .i64 b), (6, .int .i64 r1), (9, .bool (r1 != 0))]) (h' := []) (c' := 0) (by kernel_rfl) ?_
  refine XR.done (by kernel_rfl) ?_
  show XQ _ _ _ _ _ _ _ _
  cases b1 : (r1 != 0 : Bool) with
  | true =>
    have h := cT b1 h
    refine XQ.cond (s := (.tmp 9)) (b := true) (by kernel_rfl) (by kernel_rfl) (fun _ => ?_) (fun q => by cases q)
    refine XQ.seq E0_ok (by kernel_rfl) ?_
    refine XQ.region (by kernel_rfl) ?_
    refine XR.run E0_ok 1 3 [4, 5] rfl (σ' := [(4, .string (bs [])), (5, .int .i64 r1)]) (h' := []) (c' := 0) (by kernel_rfl) ?_
    refine XR.done (by kernel_rfl) ?_
    show XQ _ _ _ _ _ _ _ _
    refine XQ.ret (by kernel_rfl) ?_
    have h := Option.some.inj h
    subst h
    exact ⟨fun i q => (by cases q), .tuple #[.string (bs []), .int .i64 r1], (by kernel_rfl), rfl⟩
  | false =>
    have h := cF b1 h
    refine XQ.cond (s := (.tmp 9)) (b := false) (by kernel_rfl) (by kernel_rfl) (fun q => by cases q) (fun _ => ?_)
    refine XQ.seq E0_ok (by kernel_rfl) ?_
    refine XQ.region (by kernel_rfl) ?_
    refine XR.run E0_ok 1 4 [0, 1, 14, 17] rfl (σ' := [(0, .string a), (1, .int .i64 b), (14, .int .i64 b), (17, .int .i64 (w64 (((a.size : Nat) : Int) - 1)))]) (h' := []) (c' := 0) (by kernel_rfl) ?_
    refine XR.callK E0_ok [0, 1, 18] rfl (K := 47) (args := [.int .i64 b, .int .i64 0, .int .i64 (w64 (((a.size : Nat) : Int) - 1))]) (d := (some (path 12 18))) (by kernel_rfl) ?_
    refine KC.bodyN E0_ok (F := Proofs.Try.f47) (by kernel_rfl) (code := f27_C47) (by kernel_rfl) (nt := 15) (by kernel_rfl) (rs := [.tmp 6]) (by kernel_rfl) (by kernel_rfl) (σ := [(0, .int .i64 b), (1, .int .i64 0), (2, .int .i64 (w64 (((a.size : Nat) : Int) - 1)))]) (by kernel_rfl) ?_
    refine XQ.seq E0_ok (by kernel_rfl) ?_
    refine XQ.region (by kernel_rfl) ?_
    refine XR.run E0_ok 1 1 [0, 1, 2] rfl (σ' := [(0, .int .i64 b), (1, .int .i64 0), (2, .int .i64 (w64 (((a.size : Nat) : Int) - 1)))]) (h' := []) (c' := 0) (by kernel_rfl) ?_
    refine XR.done (by kernel_rfl) ?_
    show XQ _ _ _ _ _ _ _ _
    refine XQ.seq E0_ok (by kernel_rfl) ?_
    refine XQ.region (by kernel_rfl) ?_
    refine XR.run E0_ok 1 4 [0, 2, 10] rfl (σ' := [(0, .int .i64 b), (2, .int .i64 (w64 (((a.size : Nat) : Int) - 1))), (10, .bool (decide ((0 : Int) ≤ b)))]) (h' := []) (c' := 0) (by kernel_rfl) ?_
    cases b2 : (decide ((0 : Int) ≤ b) : Bool) with
    | true =>
      have h := cT b2 h
      refine XR.run E0_ok 1 5 [6] rfl (σ' := [(6, .bool (decide (b ≤ (w64 (((a.size : Nat) : Int) - 1)))))]) (h' := []) (c' := 0) (by kernel_rfl) ?_
      refine XR.done (by kernel_rfl) ?_
      show XQ _ _ _ _ _ _ _ _
      refine XQ.ret (by kernel_rfl) ?_
      refine ⟨fun i q => (by cases q), .bool (decide (b ≤ (w64 (((a.size : Nat) : Int) - 1)))), (by kernel_rfl), ?_⟩
      refine XR.conv (σ' := [(0, .string a), (1, .int .i64 b), (18, .bool (decide (b ≤ (w64 (((a.size : Nat) : Int) - 1)))))]) (h' := []) (c' := 0) ?_ (by kernel_rfl)
      refine XR.run E0_ok 1 2 [0, 1, 13] rfl (σ' := [(0, .string a), (1, .int .i64 b), (13, .bool (!(decide (b ≤ (w64 (((a.size : Nat) : Int) - 1))))))]) (h' := []) (c' := 0) (by kernel_rfl) ?_
      refine XR.done (by kernel_rfl) ?_
      show XQ _ _ _ _ _ _ _ _
      cases b3 : (!(decide (b ≤ (w64 (((a.size : Nat) : Int) - 1)))) : Bool) with
      | true =>
        have h := cT b3 h
        refine XQ.cond (s := (.tmp 13)) (b := true) (by kernel_rfl) (by kernel_rfl) (fun _ => ?_) (fun q => by cases q)
        refine XQ.seq E0_ok (by kernel_rfl) ?_
        refine XQ.region (by kernel_rfl) ?_
        refine XR.run E0_ok 1 2 [4, 5] rfl (σ' := [(4, .string (bs [])), (5, .int .i64 1)]) (h' := []) (c' := 0) (by kernel_rfl) ?_
        refine XR.done (by kernel_rfl) ?_
        show XQ _ _ _ _ _ _ _ _
        refine XQ.ret (by kernel_rfl) ?_
        have h := Option.some.inj h
        subst h
        exact ⟨fun i q => (by cases q), .tuple #[.string (bs []), .int .i64 1], (by kernel_rfl), rfl⟩
      | false =>
        have h := cF b3 h
        refine XQ.cond (s := (.tmp 13)) (b := false) (by kernel_rfl) (by kernel_rfl) (fun q => by cases q) (fun _ => ?_)
        refine XQ.skip (by kernel_rfl) ?_
        show XQ _ _ _ _ _ _ _ _
        refine XQ.seq E0_ok (by kernel_rfl) ?_
        refine XQ.quiet E0_ok (by kernel_rfl) (by kernel_rfl) ?_
        refine XU.run E0_ok 1 2 [0, 1, 20, 21] rfl (σ' := [(0, .string a), (1, .int .i64 b), (20, .string a), (21, .int .i64 b)]) (by kernel_rfl) ?_
        cases b4 : (cutOk b (a.size : Int) a.size : Bool) with
        | false => cases (cF b4 h)
        | true =>
          have h := cT b4 h
          have e5 : insV (headI ((gsOf E0 27 (opsOf (lft (rgt (rgt (rgt f27_C27)))))).drop 2) (trS 27 [(0, .string a), (1, .int .i64 b), (20, .string a), (21, .int .i64 b)])) (trS 27 [(0, .string a), (1, .int .i64 b), (20, .string a), (21, .int .i64 b)]) [] = (match (cutOk b (a.size : Int) a.size : Bool) with | true => some (.string (cutT a b (a.size : Int))) | false => none) := by kernel_rfl
          refine XU.rd E0_ok [0, 1, 22] rfl (e5.trans (by rw [b4])) (σ' := [(0, .string a), (1, .int .i64 b), (22, .string (cutT a b (a.size : Int)))]) (by kernel_rfl) ?_
          refine XU.run E0_ok 1 2 [22, 23, 24] rfl (σ' := [(22, .string (cutT a b (a.size : Int))), (23, .string a), (24, .int .i64 b)]) (by kernel_rfl) ?_
          cases b6 : (cutOk 0 b a.size : Bool) with
          | false => cases (cF b6 h)
          | true =>
            have h := cT b6 h
            have e7 : insV (headI ((gsOf E0 27 (opsOf (lft (rgt (rgt (rgt f27_C27)))))).drop 5) (trS 27 [(22, .string (cutT a b (a.size : Int))), (23, .string a), (24, .int .i64 b)])) (trS 27 [(22, .string (cutT a b (a.size : Int))), (23, .string a), (24, .int .i64 b)]) [] = (match (cutOk 0 b a.size : Bool) with | true => some (.string (cutT a 0 b)) | false => none) := by kernel_rfl
            refine XU.rd E0_ok [22, 25] rfl (e7.trans (by rw [b6])) (σ' := [(22, .string (cutT a b (a.size : Int))), (25, .string (cutT a 0 b))]) (by kernel_rfl) ?_
            cases b8 : (Nat.ble ((cutT a b (a.size : Int)).size + (cutT a 0 b).size) 9223372036854775807 : Bool) with
            | false => cases (cF b8 h)
            | true =>
              have h := cT b8 h
              have e9 : insV (headI ((gsOf E0 27 (opsOf (lft (rgt (rgt (rgt f27_C27)))))).drop 6) (trS 27 [(22, .string (cutT a b (a.size : Int))), (25, .string (cutT a 0 b))])) (trS 27 [(22, .string (cutT a b (a.size : Int))), (25, .string (cutT a 0 b))]) [] = (match (Nat.ble ((cutT a b (a.size : Int)).size + (cutT a 0 b).size) 9223372036854775807 : Bool) with | true => some (.string (catS (cutT a b (a.size : Int)) (cutT a 0 b))) | false => none) := by kernel_rfl
              refine XU.rd E0_ok [26] rfl (e9.trans (by rw [b8])) (σ' := [(26, .string (catS (cutT a b (a.size : Int)) (cutT a 0 b)))]) (by kernel_rfl) ?_
              refine XU.run E0_ok 1 2 [4, 5] rfl (σ' := [(4, .string (catS (cutT a b (a.size : Int)) (cutT a 0 b))), (5, .int .i64 0)]) (by kernel_rfl) ?_
              refine XU.done (by kernel_rfl) ?_
              show XQ _ _ _ _ _ _ _ _
              refine XQ.ret (by kernel_rfl) ?_
              have h := Option.some.inj h
              subst h
              exact ⟨fun i q => (by cases q), .tuple #[.string (catS (cutT a b (a.size : Int)) (cutT a 0 b)), .int .i64 0], (by kernel_rfl), rfl⟩
    | false =>
      have h := cF b2 h
      refine XR.run E0_ok 1 5 [6] rfl (σ' := [(6, .bool false)]) (h' := []) (c' := 0) (by kernel_rfl) ?_
      refine XR.done (by kernel_rfl) ?_
      show XQ _ _ _ _ _ _ _ _
      refine XQ.ret (by kernel_rfl) ?_
      refine ⟨fun i q => (by cases q), .bool false, (by kernel_rfl), ?_⟩
      refine XR.conv (σ' := [(0, .string a), (1, .int .i64 b), (18, .bool false)]) (h' := []) (c' := 0) ?_ (by kernel_rfl)
      refine XR.run E0_ok 1 2 [0, 1, 13] rfl (σ' := [(0, .string a), (1, .int .i64 b), (13, .bool true)]) (h' := []) (c' := 0) (by kernel_rfl) ?_
      refine XR.done (by kernel_rfl) ?_
      show XQ _ _ _ _ _ _ _ _
      refine XQ.cond (s := (.tmp 13)) (b := true) (by kernel_rfl) (by kernel_rfl) (fun _ => ?_) (fun q => by cases q)
      refine XQ.seq E0_ok (by kernel_rfl) ?_
      refine XQ.region (by kernel_rfl) ?_
      refine XR.run E0_ok 1 2 [4, 5] rfl (σ' := [(4, .string (bs [])), (5, .int .i64 1)]) (h' := []) (c' := 0) (by kernel_rfl) ?_
      refine XR.done (by kernel_rfl) ?_
      show XQ _ _ _ _ _ _ _ _
      refine XQ.ret (by kernel_rfl) ?_
      have h := Option.some.inj h
      subst h
      exact ⟨fun i q => (by cases q), .tuple #[.string (bs []), .int .i64 1], (by kernel_rfl), rfl⟩

/-! vitola/vitolaref08.Turn -/
noncomputable def f28_C28 : Code := Proofs.Try.f28.body.getD .skip
noncomputable def f28_C50 : Code := Proofs.Try.f50.body.getD .skip

def f28 (m : Nat) (a : ByteArray) (b : Int) : Option (ByteArray × Int) :=
  (f20 m a).bind fun r1 =>
    cond (r1 == 0) (
      cond (decide (b ≥ 0)) (
        cond ((cond (!(decide (b ≤ (w64 (((a.size : Nat) : Int) - 1))))) 1 r1 : Int) != 0) (
          some ((bs []), cond (!(decide (b ≤ (w64 (((a.size : Nat) : Int) - 1))))) 1 r1)
        ) (
          (f57 m a b).bind fun r2 =>
            some (r2, 0)
        )
      ) (
        some ((bs []), 1)
      )
    ) (
      cond (r1 != 0) (
        some ((bs []), r1)
      ) (
        (f57 m a b).bind fun r3 =>
          some (r3, 0)
      )
    )

theorem f28_ok (m : Nat) (a : ByteArray) (b : Int) (o : ByteArray × Int) (h : f28 m a b = some o) (w : World) (hI : maxInv w) : Calls Proofs.Try.prog 28 #[.string a, .int .i64 b] w fun e w' => e = .returned (.tuple #[.string o.1, .int .i64 o.2]) ∧ Below w.heap.size w w' := by
  refine KC.calls (E := E0) (args := [.string a, .int .i64 b]) (v := .tuple #[.string o.1, .int .i64 o.2]) rfl rfl (KC.bodyN E0_ok (F := Proofs.Try.f28) (by kernel_rfl) (code := f28_C28) (by kernel_rfl) (nt := 25) (by kernel_rfl) (rs := [.tmp 4, .tmp 5]) (by kernel_rfl) (by kernel_rfl) (σ := [(0, .string a), (1, .int .i64 b)]) (by kernel_rfl) ?_) w (maxInv_size hI) hI
  unfold f28 at h
  refine XQ.seq E0_ok (by kernel_rfl) ?_
  refine XQ.region (by kernel_rfl) ?_
  refine XR.run E0_ok 1 2 [0, 1] rfl (σ' := [(0, .string a), (1, .int .i64 b)]) (h' := []) (c' := 0) (by kernel_rfl) ?_
  refine XR.done (by kernel_rfl) ?_
  show XQ _ _ _ _ _ _ _ _
  refine XQ.seq E0_ok (by kernel_rfl) ?_
  refine XQ.region (by kernel_rfl) ?_
  refine XR.run E0_ok 1 1 [0, 1, 7] rfl (σ' := [(0, .string a), (1, .int .i64 b), (7, .string a)]) (h' := []) (c' := 0) (by kernel_rfl) ?_
  obtain ⟨r1, r1_h, h⟩ := bS h
  refine XR.call E0_ok [0, 1, 8] rfl (K := 20) (args := [.string a]) (d := (some (path 12 8))) (by kernel_rfl) (KC.of_calls E0_ok (F := Proofs.Try.f20) (v := .int .i64 r1) (by kernel_rfl) rfl rfl (fun w hI => f20_ok m a r1 r1_h w hI)) ?_
  rintro _ _ _ ⟨rfl, rfl, rfl⟩
  refine XR.conv (σ' := [(0, .string a), (1, .int .i64 b), (8, .int .i64 r1)]) (h' := []) (c' := 0) ?_ (by kernel_rfl)
  refine XR.run E0_ok 1 1 [0, 1, 6] rfl (σ' := [(0, .string a), (1, .int .i64 b), (6, .int .i64 r1)]) (h' := []) (c' := 0) (by kernel_rfl) ?_
  refine XR.done (by kernel_rfl) ?_
  show XQ _ _ _ _ _ _ _ _
  refine XQ.seq E0_ok (by kernel_rfl) ?_
  refine XQ.seq E0_ok (by kernel_rfl) ?_
  refine XQ.region (by kernel_rfl) ?_
  refine XR.run E0_ok 1 3 [0, 1, 6, 11] rfl (σ' := [(0, .string a), (1, .int .i64 b), (6, .int .i64 r1), (11, .bool (r1 == 0))]) (h' := []) (c' := 0) (by kernel_rfl) ?_
  cases b1 : (r1 == 0 : Bool) with
  | true =>
    have h := cT b1 h
    refine XR.run E0_ok 1 4 [0, 1, 6, 11, 12, 15] rfl (σ' := [(0, .string a), (1, .int .i64 b), (6, .int .i64 r1), (11, .bool true), (12, .int .i64 b), (15, .int .i64 (w64 (((a.size : Nat) : Int) - 1)))]) (h' := []) (c' := 0) (by kernel_rfl) ?_
    refine XR.callK E0_ok [0, 1, 6, 11, 16] rfl (K := 50) (args := [.int .i64 b, .int .i64 0, .int .i64 (w64 (((a.size : Nat) : Int) - 1))]) (d := (some (path 12 16))) (by kernel_rfl) ?_
    refine KC.bodyN E0_ok (F := Proofs.Try.f50) (by kernel_rfl) (code := f28_C50) (by kernel_rfl) (nt := 15) (by kernel_rfl) (rs := [.tmp 6]) (by kernel_rfl) (by kernel_rfl) (σ := [(0, .int .i64 b), (1, .int .i64 0), (2, .int .i64 (w64 (((a.size : Nat) : Int) - 1)))]) (by kernel_rfl) ?_
    refine XQ.seq E0_ok (by kernel_rfl) ?_
    refine XQ.region (by kernel_rfl) ?_
    refine XR.run E0_ok 1 1 [0, 1, 2] rfl (σ' := [(0, .int .i64 b), (1, .int .i64 0), (2, .int .i64 (w64 (((a.size : Nat) : Int) - 1)))]) (h' := []) (c' := 0) (by kernel_rfl) ?_
    refine XR.done (by kernel_rfl) ?_
    show XQ _ _ _ _ _ _ _ _
    refine XQ.seq E0_ok (by kernel_rfl) ?_
    refine XQ.region (by kernel_rfl) ?_
    refine XR.run E0_ok 1 4 [0, 2, 10] rfl (σ' := [(0, .int .i64 b), (2, .int .i64 (w64 (((a.size : Nat) : Int) - 1))), (10, .bool (decide (b ≥ 0)))]) (h' := []) (c' := 0) (by kernel_rfl) ?_
    cases b2 : (decide (b ≥ 0) : Bool) with
    | true =>
      have h := cT b2 h
      refine XR.run E0_ok 1 5 [6] rfl (σ' := [(6, .bool (decide (b ≤ (w64 (((a.size : Nat) : Int) - 1)))))]) (h' := []) (c' := 0) (by kernel_rfl) ?_
      refine XR.done (by kernel_rfl) ?_
      show XQ _ _ _ _ _ _ _ _
      refine XQ.ret (by kernel_rfl) ?_
      refine ⟨fun i q => (by cases q), .bool (decide (b ≤ (w64 (((a.size : Nat) : Int) - 1)))), (by kernel_rfl), ?_⟩
      refine XR.conv (σ' := [(0, .string a), (1, .int .i64 b), (6, .int .i64 r1), (11, .bool true), (16, .bool (decide (b ≤ (w64 (((a.size : Nat) : Int) - 1)))))]) (h' := []) (c' := 0) ?_ (by kernel_rfl)
      refine XR.run E0_ok 1 2 [0, 1, 6, 18] rfl (σ' := [(0, .string a), (1, .int .i64 b), (6, .int .i64 r1), (18, .bool (!(decide (b ≤ (w64 (((a.size : Nat) : Int) - 1))))))]) (h' := []) (c' := 0) (by kernel_rfl) ?_
      refine XR.done (by kernel_rfl) ?_
      show XQ _ _ _ _ _ _ _ _
      refine XQ.meetC (σ' := [(0, .string a), (1, .int .i64 b), (6, .int .i64 (cond (!(decide (b ≤ (w64 (((a.size : Nat) : Int) - 1))))) 1 r1))]) (h' := []) (c' := 0) ?_ ?_
      rotate_left
      · refine XQ.cond (s := (.tmp 18)) (b := !(decide (b ≤ (w64 (((a.size : Nat) : Int) - 1))))) (by kernel_rfl) (by kernel_rfl) (fun b3 => ?_) (fun b3 => ?_)
        · refine XQ.region (by kernel_rfl) ?_
          refine XR.run E0_ok 1 1 [0, 1, 6] rfl (σ' := [(0, .string a), (1, .int .i64 b), (6, .int .i64 1)]) (h' := []) (c' := 0) (by kernel_rfl) ?_
          refine XR.done (by kernel_rfl) ?_
          refine ⟨rfl, ?_, ?_⟩
          · try rw [b3]
            exact ⟨by kernel_rfl, by kernel_rfl, by kernel_rfl, trivial⟩
          · try rw [b3]
            kernel_rfl
        · refine XQ.skip (by kernel_rfl) ?_
          refine ⟨rfl, ?_, ?_⟩
          · try rw [b3]
            exact ⟨by kernel_rfl, by kernel_rfl, by kernel_rfl, trivial⟩
          · try rw [b3]
            kernel_rfl
      show XQ _ _ _ _ _ _ _ _
      refine XQ.seq E0_ok (by kernel_rfl) ?_
      refine XQ.seq E0_ok (by kernel_rfl) ?_
      refine XQ.region (by kernel_rfl) ?_
      refine XR.run E0_ok 1 2 [0, 1, 6, 20] rfl (σ' := [(0, .string a), (1, .int .i64 b), (6, .int .i64 (cond (!(decide (b ≤ (w64 (((a.size : Nat) : Int) - 1))))) 1 r1)), (20, .bool ((cond (!(decide (b ≤ (w64 (((a.size : Nat) : Int) - 1))))) 1 r1 : Int) != 0))]) (h' := []) (c' := 0) (by kernel_rfl) ?_
      refine XR.done (by kernel_rfl) ?_
      show XQ _ _ _ _ _ _ _ _
      cases b4 : ((cond (!(decide (b ≤ (w64 (((a.size : Nat) : Int) - 1))))) 1 r1 : Int) != 0 : Bool) with
      | true =>
        have h := cT b4 h
        refine XQ.cond (s := (.tmp 20)) (b := true) (by kernel_rfl) (by kernel_rfl) (fun _ => ?_) (fun q => by cases q)
        refine XQ.seq E0_ok (by kernel_rfl) ?_
        refine XQ.region (by kernel_rfl) ?_
        refine XR.run E0_ok 1 3 [4, 5] rfl (σ' := [(4, .string (bs [])), (5, .int .i64 (cond (!(decide (b ≤ (w64 (((a.size : Nat) : Int) - 1))))) 1 r1))]) (h' := []) (c' := 0) (by kernel_rfl) ?_
        refine XR.done (by kernel_rfl) ?_
        show XQ _ _ _ _ _ _ _ _
        refine XQ.ret (by kernel_rfl) ?_
        have h := Option.some.inj h
        subst h
        exact ⟨fun i q => (by cases q), .tuple #[.string (bs []), .int .i64 (cond (!(decide (b ≤ (w64 (((a.size : Nat) : Int) - 1))))) 1 r1)], (by kernel_rfl), rfl⟩
      | false =>
        have h := cF b4 h
        refine XQ.cond (s := (.tmp 20)) (b := false) (by kernel_rfl) (by kernel_rfl) (fun q => by cases q) (fun _ => ?_)
        refine XQ.skip (by kernel_rfl) ?_
        show XQ _ _ _ _ _ _ _ _
        refine XQ.seq E0_ok (by kernel_rfl) ?_
        refine XQ.region (by kernel_rfl) ?_
        refine XR.run E0_ok 1 2 [22, 23] rfl (σ' := [(22, .string a), (23, .int .i64 b)]) (h' := []) (c' := 0) (by kernel_rfl) ?_
        obtain ⟨r2, r2_h, h⟩ := bS h
        refine XR.call E0_ok [24] rfl (K := 57) (args := [.string a, .int .i64 b]) (d := (some (path 12 24))) (by kernel_rfl) (KC.of_calls E0_ok (F := Proofs.Try.f57) (v := .string r2) (by kernel_rfl) rfl rfl (fun w hI => f57_ok m a b r2 r2_h w hI)) ?_
        rintro _ _ _ ⟨rfl, rfl, rfl⟩
        refine XR.conv (σ' := [(24, .string r2)]) (h' := []) (c' := 0) ?_ (by kernel_rfl)
        refine XR.run E0_ok 1 2 [4, 5] rfl (σ' := [(4, .string r2), (5, .int .i64 0)]) (h' := []) (c' := 0) (by kernel_rfl) ?_
        refine XR.done (by kernel_rfl) ?_
        show XQ _ _ _ _ _ _ _ _
        refine XQ.ret (by kernel_rfl) ?_
        have h := Option.some.inj h
        subst h
        exact ⟨fun i q => (by cases q), .tuple #[.string r2, .int .i64 0], (by kernel_rfl), rfl⟩
    | false =>
      have h := cF b2 h
      refine XR.run E0_ok 1 5 [6] rfl (σ' := [(6, .bool false)]) (h' := []) (c' := 0) (by kernel_rfl) ?_
      refine XR.done (by kernel_rfl) ?_
      show XQ _ _ _ _ _ _ _ _
      refine XQ.ret (by kernel_rfl) ?_
      refine ⟨fun i q => (by cases q), .bool false, (by kernel_rfl), ?_⟩
      refine XR.conv (σ' := [(0, .string a), (1, .int .i64 b), (6, .int .i64 r1), (11, .bool true), (16, .bool false)]) (h' := []) (c' := 0) ?_ (by kernel_rfl)
      refine XR.run E0_ok 1 2 [0, 1, 6, 18] rfl (σ' := [(0, .string a), (1, .int .i64 b), (6, .int .i64 r1), (18, .bool true)]) (h' := []) (c' := 0) (by kernel_rfl) ?_
      refine XR.done (by kernel_rfl) ?_
      show XQ _ _ _ _ _ _ _ _
      refine XQ.cond (s := (.tmp 18)) (b := true) (by kernel_rfl) (by kernel_rfl) (fun _ => ?_) (fun q => by cases q)
      refine XQ.region (by kernel_rfl) ?_
      refine XR.run E0_ok 1 1 [0, 1, 6] rfl (σ' := [(0, .string a), (1, .int .i64 b), (6, .int .i64 1)]) (h' := []) (c' := 0) (by kernel_rfl) ?_
      refine XR.done (by kernel_rfl) ?_
      show XQ _ _ _ _ _ _ _ _
      refine XQ.seq E0_ok (by kernel_rfl) ?_
      refine XQ.seq E0_ok (by kernel_rfl) ?_
      refine XQ.region (by kernel_rfl) ?_
      refine XR.run E0_ok 1 2 [0, 1, 6, 20] rfl (σ' := [(0, .string a), (1, .int .i64 b), (6, .int .i64 1), (20, .bool true)]) (h' := []) (c' := 0) (by kernel_rfl) ?_
      refine XR.done (by kernel_rfl) ?_
      show XQ _ _ _ _ _ _ _ _
      refine XQ.cond (s := (.tmp 20)) (b := true) (by kernel_rfl) (by kernel_rfl) (fun _ => ?_) (fun q => by cases q)
      refine XQ.seq E0_ok (by kernel_rfl) ?_
      refine XQ.region (by kernel_rfl) ?_
      refine XR.run E0_ok 1 3 [4, 5] rfl (σ' := [(4, .string (bs [])), (5, .int .i64 1)]) (h' := []) (c' := 0) (by kernel_rfl) ?_
      refine XR.done (by kernel_rfl) ?_
      show XQ _ _ _ _ _ _ _ _
      refine XQ.ret (by kernel_rfl) ?_
      have h := Option.some.inj h
      subst h
      exact ⟨fun i q => (by cases q), .tuple #[.string (bs []), .int .i64 1], (by kernel_rfl), rfl⟩
  | false =>
    have h := cF b1 h
    refine XR.run E0_ok 1 7 [0, 1, 6, 18] rfl (σ' := [(0, .string a), (1, .int .i64 b), (6, .int .i64 r1), (18, .bool false)]) (h' := []) (c' := 0) (by kernel_rfl) ?_
    refine XR.done (by kernel_rfl) ?_
    show XQ _ _ _ _ _ _ _ _
    refine XQ.cond (s := (.tmp 18)) (b := false) (by kernel_rfl) (by kernel_rfl) (fun q => by cases q) (fun _ => ?_)
    refine XQ.skip (by kernel_rfl) ?_
    show XQ _ _ _ _ _ _ _ _
    refine XQ.seq E0_ok (by kernel_rfl) ?_
    refine XQ.seq E0_ok (by kernel_rfl) ?_
    refine XQ.region (by kernel_rfl) ?_
    refine XR.run E0_ok 1 2 [0, 1, 6, 20] rfl (σ' := [(0, .string a), (1, .int .i64 b), (6, .int .i64 r1), (20, .bool (r1 != 0))]) (h' := []) (c' := 0) (by kernel_rfl) ?_
    refine XR.done (by kernel_rfl) ?_
    show XQ _ _ _ _ _ _ _ _
    cases b5 : (r1 != 0 : Bool) with
    | true =>
      have h := cT b5 h
      refine XQ.cond (s := (.tmp 20)) (b := true) (by kernel_rfl) (by kernel_rfl) (fun _ => ?_) (fun q => by cases q)
      refine XQ.seq E0_ok (by kernel_rfl) ?_
      refine XQ.region (by kernel_rfl) ?_
      refine XR.run E0_ok 1 3 [4, 5] rfl (σ' := [(4, .string (bs [])), (5, .int .i64 r1)]) (h' := []) (c' := 0) (by kernel_rfl) ?_
      refine XR.done (by kernel_rfl) ?_
      show XQ _ _ _ _ _ _ _ _
      refine XQ.ret (by kernel_rfl) ?_
      have h := Option.some.inj h
      subst h
      exact ⟨fun i q => (by cases q), .tuple #[.string (bs []), .int .i64 r1], (by kernel_rfl), rfl⟩
    | false =>
      have h := cF b5 h
      refine XQ.cond (s := (.tmp 20)) (b := false) (by kernel_rfl) (by kernel_rfl) (fun q => by cases q) (fun _ => ?_)
      refine XQ.skip (by kernel_rfl) ?_
      show XQ _ _ _ _ _ _ _ _
      refine XQ.seq E0_ok (by kernel_rfl) ?_
      refine XQ.region (by kernel_rfl) ?_
      refine XR.run E0_ok 1 2 [22, 23] rfl (σ' := [(22, .string a), (23, .int .i64 b)]) (h' := []) (c' := 0) (by kernel_rfl) ?_
      obtain ⟨r3, r3_h, h⟩ := bS h
      refine XR.call E0_ok [24] rfl (K := 57) (args := [.string a, .int .i64 b]) (d := (some (path 12 24))) (by kernel_rfl) (KC.of_calls E0_ok (F := Proofs.Try.f57) (v := .string r3) (by kernel_rfl) rfl rfl (fun w hI => f57_ok m a b r3 r3_h w hI)) ?_
      rintro _ _ _ ⟨rfl, rfl, rfl⟩
      refine XR.conv (σ' := [(24, .string r3)]) (h' := []) (c' := 0) ?_ (by kernel_rfl)
      refine XR.run E0_ok 1 2 [4, 5] rfl (σ' := [(4, .string r3), (5, .int .i64 0)]) (h' := []) (c' := 0) (by kernel_rfl) ?_
      refine XR.done (by kernel_rfl) ?_
      show XQ _ _ _ _ _ _ _ _
      refine XQ.ret (by kernel_rfl) ?_
      have h := Option.some.inj h
      subst h
      exact ⟨fun i q => (by cases q), .tuple #[.string r3, .int .i64 0], (by kernel_rfl), rfl⟩

end Go.Xm
