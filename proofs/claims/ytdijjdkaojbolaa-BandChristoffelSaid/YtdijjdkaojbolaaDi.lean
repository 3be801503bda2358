/- What these functions of the program compute, as functions in Lean, and the proofs that they do: band.Turns, vitolaref08.Turns. Conditions: the library's variable MaxLen holds some int. -/
import Derived.Test.YtdijjdkaojbolaaDh
namespace Go.Xm
open Go.RowKit
set_option linter.unusedVariables false
set_option linter.unusedSimpArgs false

/-! vitola/band.Turns -/
noncomputable def f29_C29 : Code := Proofs.Try.f29.body.getD .skip

def f29 (m : Nat) (a : ByteArray) : Option (Int × Int) :=
  (f19 m a).bind fun r1 =>
    cond (r1 != 0) (
      some (0, r1)
    ) (
      cond (Nat.ble (a.size + a.size) 9223372036854775807) (
        cond (cutOk 1 ((catS a a).size : Int) (catS a a).size) (
          cond (Nat.blt (cutT (catS a a) 1 ((catS a a).size : Int)).size 4294967281) (
            some (w64 ((Lib.index (cutT (catS a a) 1 ((catS a a).size : Int)).data.toList a.data.toList) + 1), 0)
          ) none
        ) none
      ) none
    )

theorem f29_ok (m : Nat) (a : ByteArray) (o : Int × Int) (h : f29 m a = some o) (w : World) (hI : maxInv w) : Calls Proofs.Try.prog 29 #[.string a] w fun e w' => e = .returned (.tuple #[.int .i64 o.1, .int .i64 o.2]) ∧ Below w.heap.size w w' := by
  refine KC.calls (E := E0) (args := [.string a]) (v := .tuple #[.int .i64 o.1, .int .i64 o.2]) rfl rfl (KC.bodyN E0_ok (F := Proofs.Try.f29) (by kernel_rfl) (code := f29_C29) (by kernel_rfl) (nt := 17) (by kernel_rfl) (rs := [.tmp 2, .tmp 3]) (by kernel_rfl) (by kernel_rfl) (σ := [(0, .string a)]) (by kernel_rfl) ?_) w (maxInv_size hI) hI
  unfold f29 at h
  refine XQ.seq E0_ok (by kernel_rfl) ?_
  refine XQ.region (by kernel_rfl) ?_
  refine XR.run E0_ok 1 2 [0] rfl (σ' := [(0, .string a)]) (h' := []) (c' := 0) (by kernel_rfl) ?_
  refine XR.done (by kernel_rfl) ?_
  show XQ _ _ _ _ _ _ _ _
  refine XQ.seq E0_ok (by kernel_rfl) ?_
  refine XQ.seq E0_ok (by kernel_rfl) ?_
  refine XQ.region (by kernel_rfl) ?_
  refine XR.run E0_ok 1 1 [0, 5] rfl (σ' := [(0, .string a), (5, .string a)]) (h' := []) (c' := 0) (by kernel_rfl) ?_
  obtain ⟨r1, r1_h, h⟩ := bS h
  refine XR.call E0_ok [0, 6] rfl (K := 19) (args := [.string a]) (d := (some (path 12 6))) (by kernel_rfl) (KC.of_calls E0_ok (F := Proofs.Try.f19) (v := .int .i64 r1) (by kernel_rfl) rfl rfl (fun w hI => f19_ok m a r1 r1_h w hI)) ?_
  rintro _ _ _ ⟨rfl, rfl, rfl⟩
  refine XR.conv (σ' := [(0, .string a), (6, .int .i64 r1)]) (h' := []) (c' := 0) ?_ (by kernel_rfl)
  refine XR.run E0_ok 1 1 [0, 4] rfl (σ' := [(0, .string a), (4, .int .i64 r1)]) (h' := []) (c' := 0) (by kernel_rfl) ?_
  refine XR.done (by kernel_rfl) ?_
  show XQ _ _ _ _ _ _ _ _
  refine XQ.seq E0_ok (by kernel_rfl) ?_
  refine XQ.region (by kernel_rfl) ?_
  refine XR.run E0_ok 1 2 [0, 4, 8] rfl (σ' := [(0, .string a), (4, .int .i64 r1), (8, .bool (r1 != 0))]) (h' := []) (c' := 0) (by kernel_rfl) ?_
  refine XR.done (by kernel_rfl) ?_
  show XQ _ _ _ _ _ _ _ _
  cases b1 : (r1 != 0 : Bool) with
  | true =>
    have h := cT b1 h
    refine XQ.cond (s := (.tmp 8)) (b := true) (by kernel_rfl) (by kernel_rfl) (fun _ => ?_) (fun q => by cases q)
    refine XQ.seq E0_ok (by kernel_rfl) ?_
    refine XQ.region (by kernel_rfl) ?_
    refine XR.run E0_ok 1 3 [2, 3] rfl (σ' := [(2, .int .i64 0), (3, .int .i64 r1)]) (h' := []) (c' := 0) (by kernel_rfl) ?_
    refine XR.done (by kernel_rfl) ?_
    show XQ _ _ _ _ _ _ _ _
    refine XQ.ret (by kernel_rfl) ?_
    have h := Option.some.inj h
    subst h
    exact ⟨fun i q => (by cases q), .tuple #[.int .i64 0, .int .i64 r1], (by kernel_rfl), rfl⟩
  | false =>
    have h := cF b1 h
    refine XQ.cond (s := (.tmp 8)) (b := false) (by kernel_rfl) (by kernel_rfl) (fun q => by cases q) (fun _ => ?_)
    refine XQ.skip (by kernel_rfl) ?_
    show XQ _ _ _ _ _ _ _ _
    refine XQ.seq E0_ok (by kernel_rfl) ?_
    refine XQ.region (by kernel_rfl) ?_
    refine XR.run E0_ok 1 2 [0, 10, 11] rfl (σ' := [(0, .string a), (10, .string a), (11, .string a)]) (h' := []) (c' := 0) (by kernel_rfl) ?_
    cases b2 : (Nat.ble (a.size + a.size) 9223372036854775807 : Bool) with
    | false => cases (cF b2 h)
    | true =>
      have h := cT b2 h
      have e3 : insV (headI ((gsOf E0 17 (opsOf (lft (rgt (rgt f29_C29))))).drop 2) (trS 17 [(0, .string a), (10, .string a), (11, .string a)])) (trS 17 [(0, .string a), (10, .string a), (11, .string a)]) [] = (match (Nat.ble (a.size + a.size) 9223372036854775807 : Bool) with | true => some (.string (catS a a)) | false => none) := by kernel_rfl
      refine XR.rd E0_ok [0, 12] rfl (e3.trans (by rw [b2])) (σ' := [(0, .string a), (12, .string (catS a a))]) (by kernel_rfl) ?_
      cases b4 : (cutOk 1 ((catS a a).size : Int) (catS a a).size : Bool) with
      | false => cases (cF b4 h)
      | true =>
        have h := cT b4 h
        have e5 : insV (headI ((gsOf E0 17 (opsOf (lft (rgt (rgt f29_C29))))).drop 3) (trS 17 [(0, .string a), (12, .string (catS a a))])) (trS 17 [(0, .string a), (12, .string (catS a a))]) [] = (match (cutOk 1 ((catS a a).size : Int) (catS a a).size : Bool) with | true => some (.string (cutT (catS a a) 1 ((catS a a).size : Int))) | false => none) := by kernel_rfl
        refine XR.rd E0_ok [0, 13] rfl (e5.trans (by rw [b4])) (σ' := [(0, .string a), (13, .string (cutT (catS a a) 1 ((catS a a).size : Int)))]) (by kernel_rfl) ?_
        refine XR.run E0_ok 1 1 [13, 14] rfl (σ' := [(13, .string (cutT (catS a a) 1 ((catS a a).size : Int))), (14, .string a)]) (h' := []) (c' := 0) (by kernel_rfl) ?_
        cases b6 : (Nat.blt (cutT (catS a a) 1 ((catS a a).size : Int)).size 4294967281 : Bool) with
        | false => cases (cF b6 h)
        | true =>
          have h := cT b6 h
          refine XR.call E0_ok [15] rfl (K := 40) (args := [.string (cutT (catS a a) 1 ((catS a a).size : Int)), .string a]) (d := (some (path 12 15))) (by kernel_rfl) (KC.of_calls E0_ok (F := Proofs.Try.f40) (v := .int .i64 (Lib.index (cutT (catS a a) 1 ((catS a a).size : Int)).data.toList a.data.toList)) (by kernel_rfl) rfl rfl (((strPrim_ok 40 pIndex rfl).2 [.string (cutT (catS a a) 1 ((catS a a).size : Int)), .string a] (.int .i64 (Lib.index (cutT (catS a a) 1 ((catS a a).size : Int)).data.toList a.data.toList)) (by simp only [pIndex, b6])).2.2)) ?_
          rintro _ _ _ ⟨rfl, rfl, rfl⟩
          refine XR.conv (σ' := [(15, .int .i64 (Lib.index (cutT (catS a a) 1 ((catS a a).size : Int)).data.toList a.data.toList))]) (h' := []) (c' := 0) ?_ (by kernel_rfl)
          refine XR.run E0_ok 1 3 [2, 3] rfl (σ' := [(2, .int .i64 (w64 ((Lib.index (cutT (catS a a) 1 ((catS a a).size : Int)).data.toList a.data.toList) + 1))), (3, .int .i64 0)]) (h' := []) (c' := 0) (by kernel_rfl) ?_
          refine XR.done (by kernel_rfl) ?_
          show XQ _ _ _ _ _ _ _ _
          refine XQ.ret (by kernel_rfl) ?_
          have h := Option.some.inj h
          subst h
          exact ⟨fun i q => (by cases q), .tuple #[.int .i64 (w64 ((Lib.index (cutT (catS a a) 1 ((catS a a).size : Int)).data.toList a.data.toList) + 1)), .int .i64 0], (by kernel_rfl), rfl⟩

/-! vitola/vitolaref08.Turns -/
noncomputable def f30_C30 : Code := Proofs.Try.f30.body.getD .skip

def f30 (m : Nat) (a : ByteArray) : Option (Int × Int) :=
  (f20 m a).bind fun r1 =>
    cond (r1 != 0) (
      some (0, r1)
    ) (
      (f58 m a a 1).bind fun r2 =>
        some (cond (decide (r2 < 0)) ((a.size : Nat) : Int) r2, 0)
    )

theorem f30_ok (m : Nat) (a : ByteArray) (o : Int × Int) (h : f30 m a = some o) (w : World) (hI : maxInv w) : Calls Proofs.Try.prog 30 #[.string a] w fun e w' => e = .returned (.tuple #[.int .i64 o.1, .int .i64 o.2]) ∧ Below w.heap.size w w' := by
  refine KC.calls (E := E0) (args := [.string a]) (v := .tuple #[.int .i64 o.1, .int .i64 o.2]) rfl rfl (KC.bodyN E0_ok (F := Proofs.Try.f30) (by kernel_rfl) (code := f30_C30) (by kernel_rfl) (nt := 19) (by kernel_rfl) (rs := [.tmp 2, .tmp 3]) (by kernel_rfl) (by kernel_rfl) (σ := [(0, .string a)]) (by kernel_rfl) ?_) w (maxInv_size hI) hI
  unfold f30 at h
  refine XQ.seq E0_ok (by kernel_rfl) ?_
  refine XQ.region (by kernel_rfl) ?_
  refine XR.run E0_ok 1 2 [0] rfl (σ' := [(0, .string a)]) (h' := []) (c' := 0) (by kernel_rfl) ?_
  refine XR.done (by kernel_rfl) ?_
  show XQ _ _ _ _ _ _ _ _
  refine XQ.seq E0_ok (by kernel_rfl) ?_
  refine XQ.region (by kernel_rfl) ?_
  refine XR.run E0_ok 1 1 [0, 6] rfl (σ' := [(0, .string a), (6, .string a)]) (h' := []) (c' := 0) (by kernel_rfl) ?_
  obtain ⟨r1, r1_h, h⟩ := bS h
  refine XR.call E0_ok [0, 7] rfl (K := 20) (args := [.string a]) (d := (some (path 12 7))) (by kernel_rfl) (KC.of_calls E0_ok (F := Proofs.Try.f20) (v := .int .i64 r1) (by kernel_rfl) rfl rfl (fun w hI => f20_ok m a r1 r1_h w hI)) ?_
  rintro _ _ _ ⟨rfl, rfl, rfl⟩
  refine XR.conv (σ' := [(0, .string a), (7, .int .i64 r1)]) (h' := []) (c' := 0) ?_ (by kernel_rfl)
  refine XR.run E0_ok 1 1 [0, 4] rfl (σ' := [(0, .string a), (4, .int .i64 r1)]) (h' := []) (c' := 0) (by kernel_rfl) ?_
  refine XR.done (by kernel_rfl) ?_
  show XQ _ _ _ _ _ _ _ _
  refine XQ.seq E0_ok (by kernel_rfl) ?_
  refine XQ.seq E0_ok (by kernel_rfl) ?_
  refine XQ.region (by kernel_rfl) ?_
  refine XR.run E0_ok 1 2 [0, 4, 9] rfl (σ' := [(0, .string a), (4, .int .i64 r1), (9, .bool (r1 != 0))]) (h' := []) (c' := 0) (by kernel_rfl) ?_
  refine XR.done (by kernel_rfl) ?_
  show XQ _ _ _ _ _ _ _ _
  cases b1 : (r1 != 0 : Bool) with
  | true =>
    have h := cT b1 h
    refine XQ.cond (s := (.tmp 9)) (b := true) (by kernel_rfl) (by kernel_rfl) (fun _ => ?_) (fun q => by cases q)
    refine XQ.seq E0_ok (by kernel_rfl) ?_
    refine XQ.region (by kernel_rfl) ?_
    refine XR.run E0_ok 1 3 [2, 3] rfl (σ' := [(2, .int .i64 0), (3, .int .i64 r1)]) (h' := []) (c' := 0) (by kernel_rfl) ?_
    refine XR.done (by kernel_rfl) ?_
    show XQ _ _ _ _ _ _ _ _
    refine XQ.ret (by kernel_rfl) ?_
    have h := Option.some.inj h
    subst h
    exact ⟨fun i q => (by cases q), .tuple #[.int .i64 0, .int .i64 r1], (by kernel_rfl), rfl⟩
  | false =>
    have h := cF b1 h
    refine XQ.cond (s := (.tmp 9)) (b := false) (by kernel_rfl) (by kernel_rfl) (fun q => by cases q) (fun _ => ?_)
    refine XQ.skip (by kernel_rfl) ?_
    show XQ _ _ _ _ _ _ _ _
    refine XQ.seq E0_ok (by kernel_rfl) ?_
    refine XQ.region (by kernel_rfl) ?_
    refine XR.run E0_ok 1 2 [0, 11, 12] rfl (σ' := [(0, .string a), (11, .string a), (12, .string a)]) (h' := []) (c' := 0) (by kernel_rfl) ?_
    obtain ⟨r2, r2_h, h⟩ := bS h
    refine XR.call E0_ok [0, 13] rfl (K := 58) (args := [.string a, .string a, .int .i64 1]) (d := (some (path 12 13))) (by kernel_rfl) (KC.of_calls E0_ok (F := Proofs.Try.f58) (v := .int .i64 r2) (by kernel_rfl) rfl rfl (fun w hI => f58_ok m a a 1 r2 r2_h w hI)) ?_
    rintro _ _ _ ⟨rfl, rfl, rfl⟩
    refine XR.conv (σ' := [(0, .string a), (13, .int .i64 r2)]) (h' := []) (c' := 0) ?_ (by kernel_rfl)
    refine XR.run E0_ok 1 1 [0, 5] rfl (σ' := [(0, .string a), (5, .int .i64 r2)]) (h' := []) (c' := 0) (by kernel_rfl) ?_
    refine XR.done (by kernel_rfl) ?_
    show XQ _ _ _ _ _ _ _ _
    refine XQ.seq E0_ok (by kernel_rfl) ?_
    refine XQ.seq E0_ok (by kernel_rfl) ?_
    refine XQ.region (by kernel_rfl) ?_
    refine XR.run E0_ok 1 2 [0, 5, 15] rfl (σ' := [(0, .string a), (5, .int .i64 r2), (15, .bool (decide (r2 < 0)))]) (h' := []) (c' := 0) (by kernel_rfl) ?_
    refine XR.done (by kernel_rfl) ?_
    show XQ _ _ _ _ _ _ _ _
    refine XQ.meetC (σ' := [(5, .int .i64 (cond (decide (r2 < 0)) ((a.size : Nat) : Int) r2))]) (h' := []) (c' := 0) ?_ ?_
    rotate_left
    · refine XQ.cond (s := (.tmp 15)) (b := decide (r2 < 0)) (by kernel_rfl) (by kernel_rfl) (fun b2 => ?_) (fun b2 => ?_)
      · refine XQ.region (by kernel_rfl) ?_
        refine XR.run E0_ok 1 3 [5] rfl (σ' := [(5, .int .i64 ((a.size : Nat) : Int))]) (h' := []) (c' := 0) (by kernel_rfl) ?_
        refine XR.done (by kernel_rfl) ?_
        refine ⟨rfl, ?_, ?_⟩
        · try rw [b2]
          exact ⟨by kernel_rfl, trivial⟩
        · try rw [b2]
          kernel_rfl
      · refine XQ.skip (by kernel_rfl) ?_
        refine ⟨rfl, ?_, ?_⟩
        · try rw [b2]
          exact ⟨by kernel_rfl, trivial⟩
        · try rw [b2]
          kernel_rfl
    show XQ _ _ _ _ _ _ _ _
    refine XQ.seq E0_ok (by kernel_rfl) ?_
    refine XQ.region (by kernel_rfl) ?_
    refine XR.run E0_ok 1 3 [2, 3] rfl (σ' := [(2, .int .i64 (cond (decide (r2 < 0)) ((a.size : Nat) : Int) r2)), (3, .int .i64 0)]) (h' := []) (c' := 0) (by kernel_rfl) ?_
    refine XR.done (by kernel_rfl) ?_
    show XQ _ _ _ _ _ _ _ _
    refine XQ.ret (by kernel_rfl) ?_
    have h := Option.some.inj h
    subst h
    exact ⟨fun i q => (by cases q), .tuple #[.int .i64 (cond (decide (r2 < 0)) ((a.size : Nat) : Int) r2), .int .i64 0], (by kernel_rfl), rfl⟩

end Go.Xm
