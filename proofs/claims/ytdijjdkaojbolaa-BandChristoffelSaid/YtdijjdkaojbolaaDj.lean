/- What these functions of the program compute, as functions in Lean, and the proofs that they do: band.Same, vitolaref08.Same. Conditions: the library's variable MaxLen holds some int. -/
import Derived.Test.YtdijjdkaojbolaaDi
namespace Go.Xm
open Go.RowKit
set_option linter.unusedVariables false
set_option linter.unusedSimpArgs false

/-! vitola/band.Same -/
noncomputable def f31_C31 : Code := Proofs.Try.f31.body.getD .skip

def f31 (m : Nat) (a : ByteArray) (b : ByteArray) : Option (Int × Int) :=
  (f19 m a).bind fun r1 =>
    cond (r1 == 0) (
      (f19 m b).bind fun r3 =>
        cond (r3 != 0) (
          some (0, r3)
        ) (
          cond (((a.size : Nat) : Int) != ((b.size : Nat) : Int)) (
            some (0, 5)
          ) (
            cond (Nat.ble (a.size + a.size) 9223372036854775807) (
              cond (Nat.blt (catS a a).size 4294967281) (
                cond (decide ((Lib.index (catS a a).data.toList b.data.toList) < 0)) (
                  some (0, 12)
                ) (
                  some (Lib.index (catS a a).data.toList b.data.toList, 0)
                )
              ) none
            ) none
          )
        )
    ) (
      cond (r1 != 0) (
        some (0, r1)
      ) (
        cond (((a.size : Nat) : Int) != ((b.size : Nat) : Int)) (
          some (0, 5)
        ) (
          cond (Nat.ble (a.size + a.size) 9223372036854775807) (
            cond (Nat.blt (catS a a).size 4294967281) (
              cond (decide ((Lib.index (catS a a).data.toList b.data.toList) < 0)) (
                some (0, 12)
              ) (
                some (Lib.index (catS a a).data.toList b.data.toList, 0)
              )
            ) none
          ) none
        )
      )
    )

theorem f31_ok (m : Nat) (a : ByteArray) (b : ByteArray) (o : Int × Int) (h : f31 m a b = some o) (w : World) (hI : maxInv w) : Calls Proofs.Try.prog 31 #[.string a, .string b] w fun e w' => e = .returned (.tuple #[.int .i64 o.1, .int .i64 o.2]) ∧ Below w.heap.size w w' := by
  refine KC.calls (E := E0) (args := [.string a, .string b]) (v := .tuple #[.int .i64 o.1, .int .i64 o.2]) rfl rfl (KC.bodyN E0_ok (F := Proofs.Try.f31) (by kernel_rfl) (code := f31_C31) (by kernel_rfl) (nt := 32) (by kernel_rfl) (rs := [.tmp 4, .tmp 5]) (by kernel_rfl) (by kernel_rfl) (σ := [(0, .string a), (1, .string b)]) (by kernel_rfl) ?_) w (maxInv_size hI) hI
  unfold f31 at h
  refine XQ.seq E0_ok (by kernel_rfl) ?_
  refine XQ.region (by kernel_rfl) ?_
  refine XR.run E0_ok 1 2 [0, 1] rfl (σ' := [(0, .string a), (1, .string b)]) (h' := []) (c' := 0) (by kernel_rfl) ?_
  refine XR.done (by kernel_rfl) ?_
  show XQ _ _ _ _ _ _ _ _
  refine XQ.seq E0_ok (by kernel_rfl) ?_
  refine XQ.region (by kernel_rfl) ?_
  refine XR.run E0_ok 1 1 [0, 1, 8] rfl (σ' := [(0, .string a), (1, .string b), (8, .string a)]) (h' := []) (c' := 0) (by kernel_rfl) ?_
  obtain ⟨r1, r1_h, h⟩ := bS h
  refine XR.call E0_ok [0, 1, 9] rfl (K := 19) (args := [.string a]) (d := (some (path 12 9))) (by kernel_rfl) (KC.of_calls E0_ok (F := Proofs.Try.f19) (v := .int .i64 r1) (by kernel_rfl) rfl rfl (fun w hI => f19_ok m a r1 r1_h w hI)) ?_
  rintro _ _ _ ⟨rfl, rfl, rfl⟩
  refine XR.conv (σ' := [(0, .string a), (1, .string b), (9, .int .i64 r1)]) (h' := []) (c' := 0) ?_ (by kernel_rfl)
  refine XR.run E0_ok 1 1 [0, 1, 6] rfl (σ' := [(0, .string a), (1, .string b), (6, .int .i64 r1)]) (h' := []) (c' := 0) (by kernel_rfl) ?_
  refine XR.done (by kernel_rfl) ?_
  show XQ _ _ _ _ _ _ _ _
  refine XQ.seq E0_ok (by kernel_rfl) ?_
  refine XQ.seq E0_ok (by kernel_rfl) ?_
  refine XQ.region (by kernel_rfl) ?_
  refine XR.run E0_ok 1 2 [0, 1, 6, 11] rfl (σ' := [(0, .string a), (1, .string b), (6, .int .i64 r1), (11, .bool (r1 == 0))]) (h' := []) (c' := 0) (by kernel_rfl) ?_
  refine XR.done (by kernel_rfl) ?_
  show XQ _ _ _ _ _ _ _ _
  cases b1 : (r1 == 0 : Bool) with
  | true =>
    have h := cT b1 h
    refine XQ.cond (s := (.tmp 11)) (b := true) (by kernel_rfl) (by kernel_rfl) (fun _ => ?_) (fun q => by cases q)
    refine XQ.region (by kernel_rfl) ?_
    refine XR.run E0_ok 1 1 [0, 1, 12] rfl (σ' := [(0, .string a), (1, .string b), (12, .string b)]) (h' := []) (c' := 0) (by kernel_rfl) ?_
    obtain ⟨r3, r3_h, h⟩ := bS h
    refine XR.call E0_ok [0, 1, 13] rfl (K := 19) (args := [.string b]) (d := (some (path 12 13))) (by kernel_rfl) (KC.of_calls E0_ok (F := Proofs.Try.f19) (v := .int .i64 r3) (by kernel_rfl) rfl rfl (fun w hI => f19_ok m b r3 r3_h w hI)) ?_
    rintro _ _ _ ⟨rfl, rfl, rfl⟩
    refine XR.conv (σ' := [(0, .string a), (1, .string b), (13, .int .i64 r3)]) (h' := []) (c' := 0) ?_ (by kernel_rfl)
    refine XR.run E0_ok 1 1 [0, 1, 6] rfl (σ' := [(0, .string a), (1, .string b), (6, .int .i64 r3)]) (h' := []) (c' := 0) (by kernel_rfl) ?_
    refine XR.done (by kernel_rfl) ?_
    show XQ _ _ _ _ _ _ _ _
    refine XQ.seq E0_ok (by kernel_rfl) ?_
    refine XQ.block (id := 0) (by kernel_rfl) ?_
    refine XQ.seq E0_ok (by kernel_rfl) ?_
    refine XQ.region (by kernel_rfl) ?_
    refine XR.run E0_ok 1 3 [0, 1, 6, 14] rfl (σ' := [(0, .string a), (1, .string b), (6, .int .i64 r3), (14, .bool (r3 != 0))]) (h' := []) (c' := 0) (by kernel_rfl) ?_
    refine XR.done (by kernel_rfl) ?_
    show XQ _ _ _ _ _ _ _ _
    cases b2 : (r3 != 0 : Bool) with
    | true =>
      have h := cT b2 h
      refine XQ.cond (s := (.tmp 14)) (b := true) (by kernel_rfl) (by kernel_rfl) (fun _ => ?_) (fun q => by cases q)
      refine XQ.seq E0_ok (by kernel_rfl) ?_
      refine XQ.region (by kernel_rfl) ?_
      refine XR.run E0_ok 1 3 [4, 5] rfl (σ' := [(4, .int .i64 0), (5, .int .i64 r3)]) (h' := []) (c' := 0) (by kernel_rfl) ?_
      refine XR.done (by kernel_rfl) ?_
      show XQ _ _ _ _ _ _ _ _
      refine XQ.ret (by kernel_rfl) ?_
      have h := Option.some.inj h
      subst h
      exact ⟨fun i q => (by cases q), .tuple #[.int .i64 0, .int .i64 r3], (by kernel_rfl), rfl⟩
    | false =>
      have h := cF b2 h
      refine XQ.cond (s := (.tmp 14)) (b := false) (by kernel_rfl) (by kernel_rfl) (fun q => by cases q) (fun _ => ?_)
      refine XQ.seq E0_ok (by kernel_rfl) ?_
      refine XQ.region (by kernel_rfl) ?_
      refine XR.run E0_ok 1 6 [0, 1, 18] rfl (σ' := [(0, .string a), (1, .string b), (18, .bool (((a.size : Nat) : Int) != ((b.size : Nat) : Int)))]) (h' := []) (c' := 0) (by kernel_rfl) ?_
      refine XR.done (by kernel_rfl) ?_
      show XQ _ _ _ _ _ _ _ _
      cases b3 : (((a.size : Nat) : Int) != ((b.size : Nat) : Int) : Bool) with
      | true =>
        have h := cT b3 h
        refine XQ.cond (s := (.tmp 18)) (b := true) (by kernel_rfl) (by kernel_rfl) (fun _ => ?_) (fun q => by cases q)
        refine XQ.seq E0_ok (by kernel_rfl) ?_
        refine XQ.region (by kernel_rfl) ?_
        refine XR.run E0_ok 1 2 [4, 5] rfl (σ' := [(4, .int .i64 0), (5, .int .i64 5)]) (h' := []) (c' := 0) (by kernel_rfl) ?_
        refine XR.done (by kernel_rfl) ?_
        show XQ _ _ _ _ _ _ _ _
        refine XQ.ret (by kernel_rfl) ?_
        have h := Option.some.inj h
        subst h
        exact ⟨fun i q => (by cases q), .tuple #[.int .i64 0, .int .i64 5], (by kernel_rfl), rfl⟩
      | false =>
        have h := cF b3 h
        refine XQ.cond (s := (.tmp 18)) (b := false) (by kernel_rfl) (by kernel_rfl) (fun q => by cases q) (fun _ => ?_)
        refine XQ.skip (by kernel_rfl) ?_
        show XQ _ _ _ _ _ _ _ _
        refine XQ.seq E0_ok (by kernel_rfl) ?_
        refine XQ.region (by kernel_rfl) ?_
        refine XR.run E0_ok 1 2 [1, 24, 25] rfl (σ' := [(1, .string b), (24, .string a), (25, .string a)]) (h' := []) (c' := 0) (by kernel_rfl) ?_
        cases b4 : (Nat.ble (a.size + a.size) 9223372036854775807 : Bool) with
        | false => cases (cF b4 h)
        | true =>
          have h := cT b4 h
          have e5 : insV (headI ((gsOf E0 32 (opsOf (lft (rgt (rgt (rgt (rgt f31_C31))))))).drop 2) (trS 32 [(1, .string b), (24, .string a), (25, .string a)])) (trS 32 [(1, .string b), (24, .string a), (25, .string a)]) [] = (match (Nat.ble (a.size + a.size) 9223372036854775807 : Bool) with | true => some (.string (catS a a)) | false => none) := by kernel_rfl
          refine XR.rd E0_ok [1, 26] rfl (e5.trans (by rw [b4])) (σ' := [(1, .string b), (26, .string (catS a a))]) (by kernel_rfl) ?_
          refine XR.run E0_ok 1 1 [26, 27] rfl (σ' := [(26, .string (catS a a)), (27, .string b)]) (h' := []) (c' := 0) (by kernel_rfl) ?_
          cases b6 : (Nat.blt (catS a a).size 4294967281 : Bool) with
          | false => cases (cF b6 h)
          | true =>
            have h := cT b6 h
            refine XR.call E0_ok [28] rfl (K := 40) (args := [.string (catS a a), .string b]) (d := (some (path 12 28))) (by kernel_rfl) (KC.of_calls E0_ok (F := Proofs.Try.f40) (v := .int .i64 (Lib.index (catS a a).data.toList b.data.toList)) (by kernel_rfl) rfl rfl (((strPrim_ok 40 pIndex rfl).2 [.string (catS a a), .string b] (.int .i64 (Lib.index (catS a a).data.toList b.data.toList)) (by simp only [pIndex, b6])).2.2)) ?_
            rintro _ _ _ ⟨rfl, rfl, rfl⟩
            refine XR.conv (σ' := [(28, .int .i64 (Lib.index (catS a a).data.toList b.data.toList))]) (h' := []) (c' := 0) ?_ (by kernel_rfl)
            refine XR.run E0_ok 1 1 [7] rfl (σ' := [(7, .int .i64 (Lib.index (catS a a).data.toList b.data.toList))]) (h' := []) (c' := 0) (by kernel_rfl) ?_
            refine XR.done (by kernel_rfl) ?_
            show XQ _ _ _ _ _ _ _ _
            refine XQ.seq E0_ok (by kernel_rfl) ?_
            refine XQ.seq E0_ok (by kernel_rfl) ?_
            refine XQ.region (by kernel_rfl) ?_
            refine XR.run E0_ok 1 2 [7, 30] rfl (σ' := [(7, .int .i64 (Lib.index (catS a a).data.toList b.data.toList)), (30, .bool (decide ((Lib.index (catS a a).data.toList b.data.toList) < 0)))]) (h' := []) (c' := 0) (by kernel_rfl) ?_
            refine XR.done (by kernel_rfl) ?_
            show XQ _ _ _ _ _ _ _ _
            cases b7 : (decide ((Lib.index (catS a a).data.toList b.data.toList) < 0) : Bool) with
            | true =>
              have h := cT b7 h
              refine XQ.cond (s := (.tmp 30)) (b := true) (by kernel_rfl) (by kernel_rfl) (fun _ => ?_) (fun q => by cases q)
              refine XQ.seq E0_ok (by kernel_rfl) ?_
              refine XQ.region (by kernel_rfl) ?_
              refine XR.run E0_ok 1 2 [4, 5] rfl (σ' := [(4, .int .i64 0), (5, .int .i64 12)]) (h' := []) (c' := 0) (by kernel_rfl) ?_
              refine XR.done (by kernel_rfl) ?_
              show XQ _ _ _ _ _ _ _ _
              refine XQ.ret (by kernel_rfl) ?_
              have h := Option.some.inj h
              subst h
              exact ⟨fun i q => (by cases q), .tuple #[.int .i64 0, .int .i64 12], (by kernel_rfl), rfl⟩
            | false =>
              have h := cF b7 h
              refine XQ.cond (s := (.tmp 30)) (b := false) (by kernel_rfl) (by kernel_rfl) (fun q => by cases q) (fun _ => ?_)
              refine XQ.skip (by kernel_rfl) ?_
              show XQ _ _ _ _ _ _ _ _
              refine XQ.seq E0_ok (by kernel_rfl) ?_
              refine XQ.region (by kernel_rfl) ?_
              refine XR.run E0_ok 1 3 [4, 5] rfl (σ' := [(4, .int .i64 (Lib.index (catS a a).data.toList b.data.toList)), (5, .int .i64 0)]) (h' := []) (c' := 0) (by kernel_rfl) ?_
              refine XR.done (by kernel_rfl) ?_
              show XQ _ _ _ _ _ _ _ _
              refine XQ.ret (by kernel_rfl) ?_
              have h := Option.some.inj h
              subst h
              exact ⟨fun i q => (by cases q), .tuple #[.int .i64 (Lib.index (catS a a).data.toList b.data.toList), .int .i64 0], (by kernel_rfl), rfl⟩
  | false =>
    have h := cF b1 h
    refine XQ.cond (s := (.tmp 11)) (b := false) (by kernel_rfl) (by kernel_rfl) (fun q => by cases q) (fun _ => ?_)
    refine XQ.skip (by kernel_rfl) ?_
    show XQ _ _ _ _ _ _ _ _
    refine XQ.seq E0_ok (by kernel_rfl) ?_
    refine XQ.block (id := 0) (by kernel_rfl) ?_
    refine XQ.seq E0_ok (by kernel_rfl) ?_
    refine XQ.region (by kernel_rfl) ?_
    refine XR.run E0_ok 1 3 [0, 1, 6, 14] rfl (σ' := [(0, .string a), (1, .string b), (6, .int .i64 r1), (14, .bool (r1 != 0))]) (h' := []) (c' := 0) (by kernel_rfl) ?_
    refine XR.done (by kernel_rfl) ?_
    show XQ _ _ _ _ _ _ _ _
    cases b8 : (r1 != 0 : Bool) with
    | true =>
      have h := cT b8 h
      refine XQ.cond (s := (.tmp 14)) (b := true) (by kernel_rfl) (by kernel_rfl) (fun _ => ?_) (fun q => by cases q)
      refine XQ.seq E0_ok (by kernel_rfl) ?_
      refine XQ.region (by kernel_rfl) ?_
      refine XR.run E0_ok 1 3 [4, 5] rfl (σ' := [(4, .int .i64 0), (5, .int .i64 r1)]) (h' := []) (c' := 0) (by kernel_rfl) ?_
      refine XR.done (by kernel_rfl) ?_
      show XQ _ _ _ _ _ _ _ _
      refine XQ.ret (by kernel_rfl) ?_
      have h := Option.some.inj h
      subst h
      exact ⟨fun i q => (by cases q), .tuple #[.int .i64 0, .int .i64 r1], (by kernel_rfl), rfl⟩
    | false =>
      have h := cF b8 h
      refine XQ.cond (s := (.tmp 14)) (b := false) (by kernel_rfl) (by kernel_rfl) (fun q => by cases q) (fun _ => ?_)
      refine XQ.seq E0_ok (by kernel_rfl) ?_
      refine XQ.region (by kernel_rfl) ?_
      refine XR.run E0_ok 1 6 [0, 1, 18] rfl (σ' := [(0, .string a), (1, .string b), (18, .bool (((a.size : Nat) : Int) != ((b.size : Nat) : Int)))]) (h' := []) (c' := 0) (by kernel_rfl) ?_
      refine XR.done (by kernel_rfl) ?_
      show XQ _ _ _ _ _ _ _ _
      cases b9 : (((a.size : Nat) : Int) != ((b.size : Nat) : Int) : Bool) with
      | true =>
        have h := cT b9 h
        refine XQ.cond (s := (.tmp 18)) (b := true) (by kernel_rfl) (by kernel_rfl) (fun _ => ?_) (fun q => by cases q)
        refine XQ.seq E0_ok (by kernel_rfl) ?_
        refine XQ.region (by kernel_rfl) ?_
        refine XR.run E0_ok 1 2 [4, 5] rfl (σ' := [(4, .int .i64 0), (5, .int .i64 5)]) (h' := []) (c' := 0) (by kernel_rfl) ?_
        refine XR.done (by kernel_rfl) ?_
        show XQ _ _ _ _ _ _ _ _
        refine XQ.ret (by kernel_rfl) ?_
        have h := Option.some.inj h
        subst h
        exact ⟨fun i q => (by cases q), .tuple #[.int .i64 0, .int .i64 5], (by kernel_rfl), rfl⟩
      | false =>
        have h := cF b9 h
        refine XQ.cond (s := (.tmp 18)) (b := false) (by kernel_rfl) (by kernel_rfl) (fun q => by cases q) (fun _ => ?_)
        refine XQ.skip (by kernel_rfl) ?_
        show XQ _ _ _ _ _ _ _ _
        refine XQ.seq E0_ok (by kernel_rfl) ?_
        refine XQ.region (by kernel_rfl) ?_
        refine XR.run E0_ok 1 2 [1, 24, 25] rfl (σ' := [(1, .string b), (24, .string a), (25, .string a)]) (h' := []) (c' := 0) (by kernel_rfl) ?_
        cases b10 : (Nat.ble (a.size + a.size) 9223372036854775807 : Bool) with
        | false => cases (cF b10 h)
        | true =>
          have h := cT b10 h
          have e11 : insV (headI ((gsOf E0 32 (opsOf (lft (rgt (rgt (rgt (rgt f31_C31))))))).drop 2) (trS 32 [(1, .string b), (24, .string a), (25, .string a)])) (trS 32 [(1, .string b), (24, .string a), (25, .string a)]) [] = (match (Nat.ble (a.size + a.size) 9223372036854775807 : Bool) with | true => some (.string (catS a a)) | false => none) := by kernel_rfl
          refine XR.rd E0_ok [1, 26] rfl (e11.trans (by rw [b10])) (σ' := [(1, .string b), (26, .string (catS a a))]) (by kernel_rfl) ?_
          refine XR.run E0_ok 1 1 [26, 27] rfl (σ' := [(26, .string (catS a a)), (27, .string b)]) (h' := []) (c' := 0) (by kernel_rfl) ?_
          cases b12 : (Nat.blt (catS a a).size 4294967281 : Bool) with
          | false => cases (cF b12 h)
          | true =>
            have h := cT b12 h
            refine XR.call E0_ok [28] rfl (K := 40) (args := [.string (catS a a), .string b]) (d := (some (path 12 28))) (by kernel_rfl) (KC.of_calls E0_ok (F := Proofs.Try.f40) (v := .int .i64 (Lib.index (catS a a).data.toList b.data.toList)) (by kernel_rfl) rfl rfl (((strPrim_ok 40 pIndex rfl).2 [.string (catS a a), .string b] (.int .i64 (Lib.index (catS a a).data.toList b.data.toList)) (by simp only [pIndex, b12])).2.2)) ?_
            rintro _ _ _ ⟨rfl, rfl, rfl⟩
            refine XR.conv (σ' := [(28, .int .i64 (Lib.index (catS a a).data.toList b.data.toList))]) (h' := []) (c' := 0) ?_ (by kernel_rfl)
            refine XR.run E0_ok 1 1 [7] rfl (σ' := [(7, .int .i64 (Lib.index (catS a a).data.toList b.data.toList))]) (h' := []) (c' := 0) (by kernel_rfl) ?_
            refine XR.done (by kernel_rfl) ?_
            show XQ _ _ _ _ _ _ _ _
            refine XQ.seq E0_ok (by kernel_rfl) ?_
            refine XQ.seq E0_ok (by kernel_rfl) ?_
            refine XQ.region (by kernel_rfl) ?_
            refine XR.run E0_ok 1 2 [7, 30] rfl (σ' := [(7, .int .i64 (Lib.index (catS a a).data.toList b.data.toList)), (30, .bool (decide ((Lib.index (catS a a).data.toList b.data.toList) < 0)))]) (h' := []) (c' := 0) (by kernel_rfl) ?_
            refine XR.done (by kernel_rfl) ?_
            show XQ _ _ _ _ _ _ _ _
            cases b13 : (decide ((Lib.index (catS a a).data.toList b.data.toList) < 0) : Bool) with
            | true =>
              have h := cT b13 h
              refine XQ.cond (s := (.tmp 30)) (b := true) (by kernel_rfl) (by kernel_rfl) (fun _ => ?_) (fun q => by cases q)
              refine XQ.seq E0_ok (by kernel_rfl) ?_
              refine XQ.region (by kernel_rfl) ?_
              refine XR.run E0_ok 1 2 [4, 5] rfl (σ' := [(4, .int .i64 0), (5, .int .i64 12)]) (h' := []) (c' := 0) (by kernel_rfl) ?_
              refine XR.done (by kernel_rfl) ?_
              show XQ _ _ _ _ _ _ _ _
              refine XQ.ret (by kernel_rfl) ?_
              have h := Option.some.inj h
              subst h
              exact ⟨fun i q => (by cases q), .tuple #[.int .i64 0, .int .i64 12], (by kernel_rfl), rfl⟩
            | false =>
              have h := cF b13 h
              refine XQ.cond (s := (.tmp 30)) (b := false) (by kernel_rfl) (by kernel_rfl) (fun q => by cases q) (fun _ => ?_)
              refine XQ.skip (by kernel_rfl) ?_
              show XQ _ _ _ _ _ _ _ _
              refine XQ.seq E0_ok (by kernel_rfl) ?_
              refine XQ.region (by kernel_rfl) ?_
              refine XR.run E0_ok 1 3 [4, 5] rfl (σ' := [(4, .int .i64 (Lib.index (catS a a).data.toList b.data.toList)), (5, .int .i64 0)]) (h' := []) (c' := 0) (by kernel_rfl) ?_
              refine XR.done (by kernel_rfl) ?_
              show XQ _ _ _ _ _ _ _ _
              refine XQ.ret (by kernel_rfl) ?_
              have h := Option.some.inj h
              subst h
              exact ⟨fun i q => (by cases q), .tuple #[.int .i64 (Lib.index (catS a a).data.toList b.data.toList), .int .i64 0], (by kernel_rfl), rfl⟩

/-! vitola/vitolaref08.Same -/
noncomputable def f32_C32 : Code := Proofs.Try.f32.body.getD .skip

def f32 (m : Nat) (a : ByteArray) (b : ByteArray) : Option (Int × Int) :=
  (f20 m a).bind fun r1 =>
    cond (r1 == 0) (
      (f20 m b).bind fun r3 =>
        cond (r3 == 0) (
          cond ((cond (((a.size : Nat) : Int) != ((b.size : Nat) : Int)) 5 r3 : Int) == 0) (
            (f58 m a b 0).bind fun r4 =>
              cond ((cond (decide (r4 < 0)) 12 (cond (((a.size : Nat) : Int) != ((b.size : Nat) : Int)) 5 r3) : Int) != 0) (
                some (0, cond (decide (r4 < 0)) 12 (cond (((a.size : Nat) : Int) != ((b.size : Nat) : Int)) 5 r3))
              ) (
                (f58 m a b 0).bind fun r5 =>
                  some (r5, 0)
              )
          ) (
            cond ((cond (((a.size : Nat) : Int) != ((b.size : Nat) : Int)) 5 r3 : Int) != 0) (
              some (0, cond (((a.size : Nat) : Int) != ((b.size : Nat) : Int)) 5 r3)
            ) (
              (f58 m a b 0).bind fun r6 =>
                some (r6, 0)
            )
          )
        ) (
          cond (r3 != 0) (
            some (0, r3)
          ) (
            (f58 m a b 0).bind fun r7 =>
              some (r7, 0)
          )
        )
    ) (
      cond (r1 != 0) (
        some (0, r1)
      ) (
        (f58 m a b 0).bind fun r8 =>
          some (r8, 0)
      )
    )

theorem f32_ok (m : Nat) (a : ByteArray) (b : ByteArray) (o : Int × Int) (h : f32 m a b = some o) (w : World) (hI : maxInv w) : Calls Proofs.Try.prog 32 #[.string a, .string b] w fun e w' => e = .returned (.tuple #[.int .i64 o.1, .int .i64 o.2]) ∧ Below w.heap.size w w' := by
  refine KC.calls (E := E0) (args := [.string a, .string b]) (v := .tuple #[.int .i64 o.1, .int .i64 o.2]) rfl rfl (KC.bodyN E0_ok (F := Proofs.Try.f32) (by kernel_rfl) (code := f32_C32) (by kernel_rfl) (nt := 36) (by kernel_rfl) (rs := [.tmp 4, .tmp 5]) (by kernel_rfl) (by kernel_rfl) (σ := [(0, .string a), (1, .string b)]) (by kernel_rfl) ?_) w (maxInv_size hI) hI
  unfold f32 at h
  refine XQ.seq E0_ok (by kernel_rfl) ?_
  refine XQ.region (by kernel_rfl) ?_
  refine XR.run E0_ok 1 2 [0, 1] rfl (σ' := [(0, .string a), (1, .string b)]) (h' := []) (c' := 0) (by kernel_rfl) ?_
  refine XR.done (by kernel_rfl) ?_
  show XQ _ _ _ _ _ _ _ _
  refine XQ.seq E0_ok (by kernel_rfl) ?_
  refine XQ.region (by kernel_rfl) ?_
  refine XR.run E0_ok 1 1 [0, 1, 7] rfl (σ' := [(0, .string a), (1, .string b), (7, .string a)]) (h' := []) (c' := 0) (by kernel_rfl) ?_
  obtain ⟨r1, r1_h, h⟩ := bS h
  refine XR.call E0_ok [0, 1, 8] rfl (K := 20) (args := [.string a]) (d := (some (path 12 8))) (by kernel_rfl) (KC.of_calls E0_ok (F := Proofs.Try.f20) (v := .int .i64 r1) (by kernel_rfl) rfl rfl (fun w hI => f20_ok m a r1 r1_h w hI)) ?_
  rintro _ _ _ ⟨rfl, rfl, rfl⟩
  refine XR.conv (σ' := [(0, .string a), (1, .string b), (8, .int .i64 r1)]) (h' := []) (c' := 0) ?_ (by kernel_rfl)
  refine XR.run E0_ok 1 1 [0, 1, 6] rfl (σ' := [(0, .string a), (1, .string b), (6, .int .i64 r1)]) (h' := []) (c' := 0) (by kernel_rfl) ?_
  refine XR.done (by kernel_rfl) ?_
  show XQ _ _ _ _ _ _ _ _
  refine XQ.seq E0_ok (by kernel_rfl) ?_
  refine XQ.seq E0_ok (by kernel_rfl) ?_
  refine XQ.region (by kernel_rfl) ?_
  refine XR.run E0_ok 1 2 [0, 1, 6, 10] rfl (σ' := [(0, .string a), (1, .string b), (6, .int .i64 r1), (10, .bool (r1 == 0))]) (h' := []) (c' := 0) (by kernel_rfl) ?_
  refine XR.done (by kernel_rfl) ?_
  show XQ _ _ _ _ _ _ _ _
  cases b1 : (r1 == 0 : Bool) with
  | true =>
    have h := cT b1 h
    refine XQ.cond (s := (.tmp 10)) (b := true) (by kernel_rfl) (by kernel_rfl) (fun _ => ?_) (fun q => by cases q)
    refine XQ.region (by kernel_rfl) ?_
    refine XR.run E0_ok 1 1 [0, 1, 11] rfl (σ' := [(0, .string a), (1, .string b), (11, .string b)]) (h' := []) (c' := 0) (by kernel_rfl) ?_
    obtain ⟨r3, r3_h, h⟩ := bS h
    refine XR.call E0_ok [0, 1, 12] rfl (K := 20) (args := [.string b]) (d := (some (path 12 12))) (by kernel_rfl) (KC.of_calls E0_ok (F := Proofs.Try.f20) (v := .int .i64 r3) (by kernel_rfl) rfl rfl (fun w hI => f20_ok m b r3 r3_h w hI)) ?_
    rintro _ _ _ ⟨rfl, rfl, rfl⟩
    refine XR.conv (σ' := [(0, .string a), (1, .string b), (12, .int .i64 r3)]) (h' := []) (c' := 0) ?_ (by kernel_rfl)
    refine XR.run E0_ok 1 1 [0, 1, 6] rfl (σ' := [(0, .string a), (1, .string b), (6, .int .i64 r3)]) (h' := []) (c' := 0) (by kernel_rfl) ?_
    refine XR.done (by kernel_rfl) ?_
    show XQ _ _ _ _ _ _ _ _
    refine XQ.seq E0_ok (by kernel_rfl) ?_
    refine XQ.seq E0_ok (by kernel_rfl) ?_
    refine XQ.region (by kernel_rfl) ?_
    refine XR.run E0_ok 1 3 [0, 1, 6, 15] rfl (σ' := [(0, .string a), (1, .string b), (6, .int .i64 r3), (15, .bool (r3 == 0))]) (h' := []) (c' := 0) (by kernel_rfl) ?_
    cases b2 : (r3 == 0 : Bool) with
    | true =>
      have h := cT b2 h
      refine XR.run E0_ok 1 6 [0, 1, 6, 21] rfl (σ' := [(0, .string a), (1, .string b), (6, .int .i64 r3), (21, .bool (((a.size : Nat) : Int) != ((b.size : Nat) : Int)))]) (h' := []) (c' := 0) (by kernel_rfl) ?_
      refine XR.done (by kernel_rfl) ?_
      show XQ _ _ _ _ _ _ _ _
      refine XQ.meetC (σ' := [(0, .string a), (1, .string b), (6, .int .i64 (cond (((a.size : Nat) : Int) != ((b.size : Nat) : Int)) 5 r3))]) (h' := []) (c' := 0) ?_ ?_
      rotate_left
      · refine XQ.cond (s := (.tmp 21)) (b := ((a.size : Nat) : Int) != ((b.size : Nat) : Int)) (by kernel_rfl) (by kernel_rfl) (fun b3 => ?_) (fun b3 => ?_)
        · refine XQ.region (by kernel_rfl) ?_
          refine XR.run E0_ok 1 1 [0, 1, 6] rfl (σ' := [(0, .string a), (1, .string b), (6, .int .i64 5)]) (h' := []) (c' := 0) (by kernel_rfl) ?_
          refine XR.done (by kernel_rfl) ?_
          refine ⟨rfl, ?_, ?_⟩
          · try rw [b3]
            exact ⟨by kernel_rfl, by kernel_rfl, by kernel_rfl, trivial⟩
          · try rw [b3]
            kernel_rfl
        · refine XQ.skip (by kernel_rfl) ?_
          refine ⟨rfl, ?_, ?_⟩
          · try rw [b3]
            exact ⟨by kernel_rfl, by kernel_rfl, by kernel_rfl, trivial⟩
          · try rw [b3]
            kernel_rfl
      show XQ _ _ _ _ _ _ _ _
      refine XQ.seq E0_ok (by kernel_rfl) ?_
      refine XQ.seq E0_ok (by kernel_rfl) ?_
      refine XQ.region (by kernel_rfl) ?_
      refine XR.run E0_ok 1 3 [0, 1, 6, 24] rfl (σ' := [(0, .string a), (1, .string b), (6, .int .i64 (cond (((a.size : Nat) : Int) != ((b.size : Nat) : Int)) 5 r3)), (24, .bool ((cond (((a.size : Nat) : Int) != ((b.size : Nat) : Int)) 5 r3 : Int) == 0))]) (h' := []) (c' := 0) (by kernel_rfl) ?_
      cases b4 : ((cond (((a.size : Nat) : Int) != ((b.size : Nat) : Int)) 5 r3 : Int) == 0 : Bool) with
      | true =>
        have h := cT b4 h
        refine XR.run E0_ok 1 2 [0, 1, 6, 24, 25, 26] rfl (σ' := [(0, .string a), (1, .string b), (6, .int .i64 (cond (((a.size : Nat) : Int) != ((b.size : Nat) : Int)) 5 r3)), (24, .bool true), (25, .string a), (26, .string b)]) (h' := []) (c' := 0) (by kernel_rfl) ?_
        obtain ⟨r4, r4_h, h⟩ := bS h
        refine XR.call E0_ok [0, 1, 6, 24, 27] rfl (K := 58) (args := [.string a, .string b, .int .i64 0]) (d := (some (path 12 27))) (by kernel_rfl) (KC.of_calls E0_ok (F := Proofs.Try.f58) (v := .int .i64 r4) (by kernel_rfl) rfl rfl (fun w hI => f58_ok m a b 0 r4 r4_h w hI)) ?_
        rintro _ _ _ ⟨rfl, rfl, rfl⟩
        refine XR.conv (σ' := [(0, .string a), (1, .string b), (6, .int .i64 (cond (((a.size : Nat) : Int) != ((b.size : Nat) : Int)) 5 r3)), (24, .bool true), (27, .int .i64 r4)]) (h' := []) (c' := 0) ?_ (by kernel_rfl)
        refine XR.run E0_ok 1 2 [0, 1, 6, 29] rfl (σ' := [(0, .string a), (1, .string b), (6, .int .i64 (cond (((a.size : Nat) : Int) != ((b.size : Nat) : Int)) 5 r3)), (29, .bool (decide (r4 < 0)))]) (h' := []) (c' := 0) (by kernel_rfl) ?_
        refine XR.done (by kernel_rfl) ?_
        show XQ _ _ _ _ _ _ _ _
        refine XQ.meetC (σ' := [(0, .string a), (1, .string b), (6, .int .i64 (cond (decide (r4 < 0)) 12 (cond (((a.size : Nat) : Int) != ((b.size : Nat) : Int)) 5 r3)))]) (h' := []) (c' := 0) ?_ ?_
        rotate_left
        · refine XQ.cond (s := (.tmp 29)) (b := decide (r4 < 0)) (by kernel_rfl) (by kernel_rfl) (fun b5 => ?_) (fun b5 => ?_)
          · refine XQ.region (by kernel_rfl) ?_
            refine XR.run E0_ok 1 1 [0, 1, 6] rfl (σ' := [(0, .string a), (1, .string b), (6, .int .i64 12)]) (h' := []) (c' := 0) (by kernel_rfl) ?_
            refine XR.done (by kernel_rfl) ?_
            refine ⟨rfl, ?_, ?_⟩
            · try rw [b5]
              exact ⟨by kernel_rfl, by kernel_rfl, by kernel_rfl, trivial⟩
            · try rw [b5]
              kernel_rfl
          · refine XQ.skip (by kernel_rfl) ?_
            refine ⟨rfl, ?_, ?_⟩
            · try rw [b5]
              exact ⟨by kernel_rfl, by kernel_rfl, by kernel_rfl, trivial⟩
            · try rw [b5]
              kernel_rfl
        show XQ _ _ _ _ _ _ _ _
        refine XQ.seq E0_ok (by kernel_rfl) ?_
        refine XQ.seq E0_ok (by kernel_rfl) ?_
        refine XQ.region (by kernel_rfl) ?_
        refine XR.run E0_ok 1 2 [0, 1, 6, 31] rfl (σ' := [(0, .string a), (1, .string b), (6, .int .i64 (cond (decide (r4 < 0)) 12 (cond (((a.size : Nat) : Int) != ((b.size : Nat) : Int)) 5 r3))), (31, .bool ((cond (decide (r4 < 0)) 12 (cond (((a.size : Nat) : Int) != ((b.size : Nat) : Int)) 5 r3) : Int) != 0))]) (h' := []) (c' := 0) (by kernel_rfl) ?_
        refine XR.done (by kernel_rfl) ?_
        show XQ _ _ _ _ _ _ _ _
        cases b6 : ((cond (decide (r4 < 0)) 12 (cond (((a.size : Nat) : Int) != ((b.size : Nat) : Int)) 5 r3) : Int) != 0 : Bool) with
        | true =>
          have h := cT b6 h
          refine XQ.cond (s := (.tmp 31)) (b := true) (by kernel_rfl) (by kernel_rfl) (fun _ => ?_) (fun q => by cases q)
          refine XQ.seq E0_ok (by kernel_rfl) ?_
          refine XQ.region (by kernel_rfl) ?_
          refine XR.run E0_ok 1 3 [4, 5] rfl (σ' := [(4, .int .i64 0), (5, .int .i64 (cond (decide (r4 < 0)) 12 (cond (((a.size : Nat) : Int) != ((b.size : Nat) : Int)) 5 r3)))]) (h' := []) (c' := 0) (by kernel_rfl) ?_
          refine XR.done (by kernel_rfl) ?_
          show XQ _ _ _ _ _ _ _ _
          refine XQ.ret (by kernel_rfl) ?_
          have h := Option.some.inj h
          subst h
          exact ⟨fun i q => (by cases q), .tuple #[.int .i64 0, .int .i64 (cond (decide (r4 < 0)) 12 (cond (((a.size : Nat) : Int) != ((b.size : Nat) : Int)) 5 r3))], (by kernel_rfl), rfl⟩
        | false =>
          have h := cF b6 h
          refine XQ.cond (s := (.tmp 31)) (b := false) (by kernel_rfl) (by kernel_rfl) (fun q => by cases q) (fun _ => ?_)
          refine XQ.skip (by kernel_rfl) ?_
          show XQ _ _ _ _ _ _ _ _
          refine XQ.seq E0_ok (by kernel_rfl) ?_
          refine XQ.region (by kernel_rfl) ?_
          refine XR.run E0_ok 1 2 [33, 34] rfl (σ' := [(33, .string a), (34, .string b)]) (h' := []) (c' := 0) (by kernel_rfl) ?_
          obtain ⟨r5, r5_h, h⟩ := bS h
          refine XR.call E0_ok [35] rfl (K := 58) (args := [.string a, .string b, .int .i64 0]) (d := (some (path 12 35))) (by kernel_rfl) (KC.of_calls E0_ok (F := Proofs.Try.f58) (v := .int .i64 r5) (by kernel_rfl) rfl rfl (fun w hI => f58_ok m a b 0 r5 r5_h w hI)) ?_
          rintro _ _ _ ⟨rfl, rfl, rfl⟩
          refine XR.conv (σ' := [(35, .int .i64 r5)]) (h' := []) (c' := 0) ?_ (by kernel_rfl)
          refine XR.run E0_ok 1 2 [4, 5] rfl (σ' := [(4, .int .i64 r5), (5, .int .i64 0)]) (h' := []) (c' := 0) (by kernel_rfl) ?_
          refine XR.done (by kernel_rfl) ?_
          show XQ _ _ _ _ _ _ _ _
          refine XQ.ret (by kernel_rfl) ?_
          have h := Option.some.inj h
          subst h
          exact ⟨fun i q => (by cases q), .tuple #[.int .i64 r5, .int .i64 0], (by kernel_rfl), rfl⟩
      | false =>
        have h := cF b4 h
        refine XR.run E0_ok 1 5 [0, 1, 6, 29] rfl (σ' := [(0, .string a), (1, .string b), (6, .int .i64 (cond (((a.size : Nat) : Int) != ((b.size : Nat) : Int)) 5 r3)), (29, .bool false)]) (h' := []) (c' := 0) (by kernel_rfl) ?_
        refine XR.done (by kernel_rfl) ?_
        show XQ _ _ _ _ _ _ _ _
        refine XQ.cond (s := (.tmp 29)) (b := false) (by kernel_rfl) (by kernel_rfl) (fun q => by cases q) (fun _ => ?_)
        refine XQ.skip (by kernel_rfl) ?_
        show XQ _ _ _ _ _ _ _ _
        refine XQ.seq E0_ok (by kernel_rfl) ?_
        refine XQ.seq E0_ok (by kernel_rfl) ?_
        refine XQ.region (by kernel_rfl) ?_
        refine XR.run E0_ok 1 2 [0, 1, 6, 31] rfl (σ' := [(0, .string a), (1, .string b), (6, .int .i64 (cond (((a.size : Nat) : Int) != ((b.size : Nat) : Int)) 5 r3)), (31, .bool ((cond (((a.size : Nat) : Int) != ((b.size : Nat) : Int)) 5 r3 : Int) != 0))]) (h' := []) (c' := 0) (by kernel_rfl) ?_
        refine XR.done (by kernel_rfl) ?_
        show XQ _ _ _ _ _ _ _ _
        cases b7 : ((cond (((a.size : Nat) : Int) != ((b.size : Nat) : Int)) 5 r3 : Int) != 0 : Bool) with
        | true =>
          have h := cT b7 h
          refine XQ.cond (s := (.tmp 31)) (b := true) (by kernel_rfl) (by kernel_rfl) (fun _ => ?_) (fun q => by cases q)
          refine XQ.seq E0_ok (by kernel_rfl) ?_
          refine XQ.region (by kernel_rfl) ?_
          refine XR.run E0_ok 1 3 [4, 5] rfl (σ' := [(4, .int .i64 0), (5, .int .i64 (cond (((a.size : Nat) : Int) != ((b.size : Nat) : Int)) 5 r3))]) (h' := []) (c' := 0) (by kernel_rfl) ?_
          refine XR.done (by kernel_rfl) ?_
          show XQ _ _ _ _ _ _ _ _
          refine XQ.ret (by kernel_rfl) ?_
          have h := Option.some.inj h
          subst h
          exact ⟨fun i q => (by cases q), .tuple #[.int .i64 0, .int .i64 (cond (((a.size : Nat) : Int) != ((b.size : Nat) : Int)) 5 r3)], (by kernel_rfl), rfl⟩
        | false =>
          have h := cF b7 h
          refine XQ.cond (s := (.tmp 31)) (b := false) (by kernel_rfl) (by kernel_rfl) (fun q => by cases q) (fun _ => ?_)
          refine XQ.skip (by kernel_rfl) ?_
          show XQ _ _ _ _ _ _ _ _
          refine XQ.seq E0_ok (by kernel_rfl) ?_
          refine XQ.region (by kernel_rfl) ?_
          refine XR.run E0_ok 1 2 [33, 34] rfl (σ' := [(33, .string a), (34, .string b)]) (h' := []) (c' := 0) (by kernel_rfl) ?_
          obtain ⟨r6, r6_h, h⟩ := bS h
          refine XR.call E0_ok [35] rfl (K := 58) (args := [.string a, .string b, .int .i64 0]) (d := (some (path 12 35))) (by kernel_rfl) (KC.of_calls E0_ok (F := Proofs.Try.f58) (v := .int .i64 r6) (by kernel_rfl) rfl rfl (fun w hI => f58_ok m a b 0 r6 r6_h w hI)) ?_
          rintro _ _ _ ⟨rfl, rfl, rfl⟩
          refine XR.conv (σ' := [(35, .int .i64 r6)]) (h' := []) (c' := 0) ?_ (by kernel_rfl)
          refine XR.run E0_ok 1 2 [4, 5] rfl (σ' := [(4, .int .i64 r6), (5, .int .i64 0)]) (h' := []) (c' := 0) (by kernel_rfl) ?_
          refine XR.done (by kernel_rfl) ?_
          show XQ _ _ _ _ _ _ _ _
          refine XQ.ret (by kernel_rfl) ?_
          have h := Option.some.inj h
          subst h
          exact ⟨fun i q => (by cases q), .tuple #[.int .i64 r6, .int .i64 0], (by kernel_rfl), rfl⟩
    | false =>
      have h := cF b2 h
      refine XR.run E0_ok 1 6 [0, 1, 6, 21] rfl (σ' := [(0, .string a), (1, .string b), (6, .int .i64 r3), (21, .bool false)]) (h' := []) (c' := 0) (by kernel_rfl) ?_
      refine XR.done (by kernel_rfl) ?_
      show XQ _ _ _ _ _ _ _ _
      refine XQ.cond (s := (.tmp 21)) (b := false) (by kernel_rfl) (by kernel_rfl) (fun q => by cases q) (fun _ => ?_)
      refine XQ.skip (by kernel_rfl) ?_
      show XQ _ _ _ _ _ _ _ _
      refine XQ.seq E0_ok (by kernel_rfl) ?_
      refine XQ.seq E0_ok (by kernel_rfl) ?_
      refine XQ.region (by kernel_rfl) ?_
      refine XR.run E0_ok 1 3 [0, 1, 6, 24] rfl (σ' := [(0, .string a), (1, .string b), (6, .int .i64 r3), (24, .bool (r3 == 0))]) (h' := []) (c' := 0) (by kernel_rfl) ?_
      rw [b2]
      refine XR.run E0_ok 1 5 [0, 1, 6, 29] rfl (σ' := [(0, .string a), (1, .string b), (6, .int .i64 r3), (29, .bool false)]) (h' := []) (c' := 0) (by kernel_rfl) ?_
      refine XR.done (by kernel_rfl) ?_
      show XQ _ _ _ _ _ _ _ _
      refine XQ.cond (s := (.tmp 29)) (b := false) (by kernel_rfl) (by kernel_rfl) (fun q => by cases q) (fun _ => ?_)
      refine XQ.skip (by kernel_rfl) ?_
      show XQ _ _ _ _ _ _ _ _
      refine XQ.seq E0_ok (by kernel_rfl) ?_
      refine XQ.seq E0_ok (by kernel_rfl) ?_
      refine XQ.region (by kernel_rfl) ?_
      refine XR.run E0_ok 1 2 [0, 1, 6, 31] rfl (σ' := [(0, .string a), (1, .string b), (6, .int .i64 r3), (31, .bool (r3 != 0))]) (h' := []) (c' := 0) (by kernel_rfl) ?_
      refine XR.done (by kernel_rfl) ?_
      show XQ _ _ _ _ _ _ _ _
      cases b8 : (r3 != 0 : Bool) with
      | true =>
        have h := cT b8 h
        refine XQ.cond (s := (.tmp 31)) (b := true) (by kernel_rfl) (by kernel_rfl) (fun _ => ?_) (fun q => by cases q)
        refine XQ.seq E0_ok (by kernel_rfl) ?_
        refine XQ.region (by kernel_rfl) ?_
        refine XR.run E0_ok 1 3 [4, 5] rfl (σ' := [(4, .int .i64 0), (5, .int .i64 r3)]) (h' := []) (c' := 0) (by kernel_rfl) ?_
        refine XR.done (by kernel_rfl) ?_
        show XQ _ _ _ _ _ _ _ _
        refine XQ.ret (by kernel_rfl) ?_
        have h := Option.some.inj h
        subst h
        exact ⟨fun i q => (by cases q), .tuple #[.int .i64 0, .int .i64 r3], (by kernel_rfl), rfl⟩
      | false =>
        have h := cF b8 h
        refine XQ.cond (s := (.tmp 31)) (b := false) (by kernel_rfl) (by kernel_rfl) (fun q => by cases q) (fun _ => ?_)
        refine XQ.skip (by kernel_rfl) ?_
        show XQ _ _ _ _ _ _ _ _
        refine XQ.seq E0_ok (by kernel_rfl) ?_
        refine XQ.region (by kernel_rfl) ?_
        refine XR.run E0_ok 1 2 [33, 34] rfl (σ' := [(33, .string a), (34, .string b)]) (h' := []) (c' := 0) (by kernel_rfl) ?_
        obtain ⟨r7, r7_h, h⟩ := bS h
        refine XR.call E0_ok [35] rfl (K := 58) (args := [.string a, .string b, .int .i64 0]) (d := (some (path 12 35))) (by kernel_rfl) (KC.of_calls E0_ok (F := Proofs.Try.f58) (v := .int .i64 r7) (by kernel_rfl) rfl rfl (fun w hI => f58_ok m a b 0 r7 r7_h w hI)) ?_
        rintro _ _ _ ⟨rfl, rfl, rfl⟩
        refine XR.conv (σ' := [(35, .int .i64 r7)]) (h' := []) (c' := 0) ?_ (by kernel_rfl)
        refine XR.run E0_ok 1 2 [4, 5] rfl (σ' := [(4, .int .i64 r7), (5, .int .i64 0)]) (h' := []) (c' := 0) (by kernel_rfl) ?_
        refine XR.done (by kernel_rfl) ?_
        show XQ _ _ _ _ _ _ _ _
        refine XQ.ret (by kernel_rfl) ?_
        have h := Option.some.inj h
        subst h
        exact ⟨fun i q => (by cases q), .tuple #[.int .i64 r7, .int .i64 0], (by kernel_rfl), rfl⟩
  | false =>
    have h := cF b1 h
    refine XQ.cond (s := (.tmp 10)) (b := false) (by kernel_rfl) (by kernel_rfl) (fun q => by cases q) (fun _ => ?_)
    refine XQ.skip (by kernel_rfl) ?_
    show XQ _ _ _ _ _ _ _ _
    refine XQ.seq E0_ok (by kernel_rfl) ?_
    refine XQ.seq E0_ok (by kernel_rfl) ?_
    refine XQ.region (by kernel_rfl) ?_
    refine XR.run E0_ok 1 3 [0, 1, 6, 15] rfl (σ' := [(0, .string a), (1, .string b), (6, .int .i64 r1), (15, .bool (r1 == 0))]) (h' := []) (c' := 0) (by kernel_rfl) ?_
    rw [b1]
    refine XR.run E0_ok 1 6 [0, 1, 6, 21] rfl (σ' := [(0, .string a), (1, .string b), (6, .int .i64 r1), (21, .bool false)]) (h' := []) (c' := 0) (by kernel_rfl) ?_
    refine XR.done (by kernel_rfl) ?_
    show XQ _ _ _ _ _ _ _ _
    refine XQ.cond (s := (.tmp 21)) (b := false) (by kernel_rfl) (by kernel_rfl) (fun q => by cases q) (fun _ => ?_)
    refine XQ.skip (by kernel_rfl) ?_
    show XQ _ _ _ _ _ _ _ _
    refine XQ.seq E0_ok (by kernel_rfl) ?_
    refine XQ.seq E0_ok (by kernel_rfl) ?_
    refine XQ.region (by kernel_rfl) ?_
    refine XR.run E0_ok 1 3 [0, 1, 6, 24] rfl (σ' := [(0, .string a), (1, .string b), (6, .int .i64 r1), (24, .bool (r1 == 0))]) (h' := []) (c' := 0) (by kernel_rfl) ?_
    rw [b1]
    refine XR.run E0_ok 1 5 [0, 1, 6, 29] rfl (σ' := [(0, .string a), (1, .string b), (6, .int .i64 r1), (29, .bool false)]) (h' := []) (c' := 0) (by kernel_rfl) ?_
    refine XR.done (by kernel_rfl) ?_
    show XQ _ _ _ _ _ _ _ _
    refine XQ.cond (s := (.tmp 29)) (b := false) (by kernel_rfl) (by kernel_rfl) (fun q => by cases q) (fun _ => ?_)
    refine XQ.skip (by kernel_rfl) ?_
    show XQ _ _ _ _ _ _ _ _
    refine XQ.seq E0_ok (by kernel_rfl) ?_
    refine XQ.seq E0_ok (by kernel_rfl) ?_
    refine XQ.region (by kernel_rfl) ?_
    refine XR.run E0_ok 1 2 [0, 1, 6, 31] rfl (σ' := [(0, .string a), (1, .string b), (6, .int .i64 r1), (31, .bool (r1 != 0))]) (h' := []) (c' := 0) (by kernel_rfl) ?_
    refine XR.done (by kernel_rfl) ?_
    show XQ _ _ _ _ _ _ _ _
    cases b9 : (r1 != 0 : Bool) with
    | true =>
      have h := cT b9 h
      refine XQ.cond (s := (.tmp 31)) (b := true) (by kernel_rfl) (by kernel_rfl) (fun _ => ?_) (fun q => by cases q)
      refine XQ.seq E0_ok (by kernel_rfl) ?_
      refine XQ.region (by kernel_rfl) ?_
      refine XR.run E0_ok 1 3 [4, 5] rfl (σ' := [(4, .int .i64 0), (5, .int .i64 r1)]) (h' := []) (c' := 0) (by kernel_rfl) ?_
      refine XR.done (by kernel_rfl) ?_
      show XQ _ _ _ _ _ _ _ _
      refine XQ.ret (by kernel_rfl) ?_
      have h := Option.some.inj h
      subst h
      exact ⟨fun i q => (by cases q), .tuple #[.int .i64 0, .int .i64 r1], (by kernel_rfl), rfl⟩
    | false =>
      have h := cF b9 h
      refine XQ.cond (s := (.tmp 31)) (b := false) (by kernel_rfl) (by kernel_rfl) (fun q => by cases q) (fun _ => ?_)
      refine XQ.skip (by kernel_rfl) ?_
      show XQ _ _ _ _ _ _ _ _
      refine XQ.seq E0_ok (by kernel_rfl) ?_
      refine XQ.region (by kernel_rfl) ?_
      refine XR.run E0_ok 1 2 [33, 34] rfl (σ' := [(33, .string a), (34, .string b)]) (h' := []) (c' := 0) (by kernel_rfl) ?_
      obtain ⟨r8, r8_h, h⟩ := bS h
      refine XR.call E0_ok [35] rfl (K := 58) (args := [.string a, .string b, .int .i64 0]) (d := (some (path 12 35))) (by kernel_rfl) (KC.of_calls E0_ok (F := Proofs.Try.f58) (v := .int .i64 r8) (by kernel_rfl) rfl rfl (fun w hI => f58_ok m a b 0 r8 r8_h w hI)) ?_
      rintro _ _ _ ⟨rfl, rfl, rfl⟩
      refine XR.conv (σ' := [(35, .int .i64 r8)]) (h' := []) (c' := 0) ?_ (by kernel_rfl)
      refine XR.run E0_ok 1 2 [4, 5] rfl (σ' := [(4, .int .i64 r8), (5, .int .i64 0)]) (h' := []) (c' := 0) (by kernel_rfl) ?_
      refine XR.done (by kernel_rfl) ?_
      show XQ _ _ _ _ _ _ _ _
      refine XQ.ret (by kernel_rfl) ?_
      have h := Option.some.inj h
      subst h
      exact ⟨fun i q => (by cases q), .tuple #[.int .i64 r8, .int .i64 0], (by kernel_rfl), rfl⟩

end Go.Xm
