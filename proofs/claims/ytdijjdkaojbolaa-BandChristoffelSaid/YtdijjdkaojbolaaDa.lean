/- What these functions of the program compute, as functions in Lean, and the proofs that they do: band.Check, vitolaref08.Check, vitolaref08.bands, vitolaref08.against. Conditions: the library's variable MaxLen holds some int. -/
import Derived.Test.YtdijjdkaojbolaaBk
import Derived.Test.YtdijjdkaojbolaaMx
namespace Go.Xm
open Go.RowKit
set_option linter.unusedVariables false
set_option linter.unusedSimpArgs false

/-! vitola/band.Check -/
noncomputable def f19_C19 : Code := Proofs.Try.f19.body.getD .skip
noncomputable def f19_L1 : Code := lft (lft (rgt (lft (rgt (rgt f19_C19)))))

inductive Of19_1 where
  | r
  | x1

def f19_1 (m : Nat) : Nat → ByteArray → Nat → Option Of19_1
  | 0, _, _ => none
  | fuel + 1, a, ph0_1 =>
    cond (Nat.blt ph0_1 a.size) (
      cond ((Int.ofNat (Utf8.decode a ph0_1).1) != 97) (
        cond ((Int.ofNat (Utf8.decode a ph0_1).1) != 98) (
          some (.r)
        ) (
          f19_1 m fuel a (ph0_1 + (Utf8.decode a ph0_1).2)
        )
      ) (
        f19_1 m fuel a (ph0_1 + (Utf8.decode a ph0_1).2)
      )
    ) (
      some (.x1)
    )

theorem f19_1_ok (m : Nat) : ∀ (fuel : Nat) (a : ByteArray) (ph0_1 : Nat) (o : Of19_1), f19_1 m fuel a ph0_1 = some o → ∀ Q : QP, (match o with | .r => Q .ret [(2, .int .i64 10)] [] 0 | .x1 => Q (.exit 1) [] [] 0) → XL E0 23 0 fuel f19_L1 [(13, .pointer (some ⟨0, 0, none⟩))] [(0, .iter a ph0_1)] 1 Q
  | 0, a, ph0_1, o, h, Q, hQ => by cases h
  | fuel + 1, a, ph0_1, o, h, Q, hQ => by
    unfold f19_1 at h
    refine XL.succ E0_ok ?_
    refine XQ.seq E0_ok (by kernel_rfl) ?_
    refine XQ.region (by kernel_rfl) ?_
    have e1 : insE (headI ((gsOf E0 23 (opsOf (lft f19_L1))).drop 0) (trS 23 [(13, .pointer (some ⟨0, 0, none⟩))])) (trS 23 [(13, .pointer (some ⟨0, 0, none⟩))]) [(0, .iter a ph0_1)] 1 = (match (Nat.blt ph0_1 a.size : Bool) with | true => some (.tuple #[.bool true, .int .i64 (Int.ofNat ph0_1), .int .i32 (Int.ofNat (Utf8.decode a ph0_1).1)], [(0, .iter a (ph0_1 + (Utf8.decode a ph0_1).2))], 1) | false => some (.tuple #[.bool false], [(0, .iter a ph0_1)], 1)) := by kernel_rfl
    cases b2 : (Nat.blt ph0_1 a.size : Bool) with
    | true =>
      have h := cT b2 h
      refine XR.ef E0_ok [13, 14] rfl (e1.trans (by rw [b2])) (σ' := [(13, .pointer (some ⟨0, 0, none⟩)), (14, .tuple #[.bool true, .int .i64 (Int.ofNat ph0_1), .int .i32 (Int.ofNat (Utf8.decode a ph0_1).1)])]) (by kernel_rfl) ?_
      refine XR.run E0_ok 1 1 [13, 14, 15] rfl (σ' := [(13, .pointer (some ⟨0, 0, none⟩)), (14, .tuple #[.bool true, .int .i64 (Int.ofNat ph0_1), .int .i32 (Int.ofNat (Utf8.decode a ph0_1).1)]), (15, .bool true)]) (h' := [(0, .iter a (ph0_1 + (Utf8.decode a ph0_1).2))]) (c' := 1) (by kernel_rfl) ?_
      refine XR.done (by kernel_rfl) ?_
      show XQ _ _ _ _ _ _ _ _
      refine XQ.seq E0_ok (by kernel_rfl) ?_
      refine XQ.cond (s := (.tmp 15)) (b := true) (by kernel_rfl) (by kernel_rfl) (fun _ => ?_) (fun q => by cases q)
      refine XQ.skip (by kernel_rfl) ?_
      show XQ _ _ _ _ _ _ _ _
      refine XQ.block (id := 2) (by kernel_rfl) ?_
      refine XQ.seq E0_ok (by kernel_rfl) ?_
      refine XQ.region (by kernel_rfl) ?_
      refine XR.run E0_ok 1 2 [4, 13] rfl (σ' := [(4, .int .i32 (Int.ofNat (Utf8.decode a ph0_1).1)), (13, .pointer (some ⟨0, 0, none⟩))]) (h' := [(0, .iter a (ph0_1 + (Utf8.decode a ph0_1).2))]) (c' := 1) (by kernel_rfl) ?_
      refine XR.done (by kernel_rfl) ?_
      show XQ _ _ _ _ _ _ _ _
      refine XQ.seq E0_ok (by kernel_rfl) ?_
      refine XQ.region (by kernel_rfl) ?_
      refine XR.run E0_ok 1 3 [4, 13, 19] rfl (σ' := [(4, .int .i32 (Int.ofNat (Utf8.decode a ph0_1).1)), (13, .pointer (some ⟨0, 0, none⟩)), (19, .bool ((Int.ofNat (Utf8.decode a ph0_1).1) != 97))]) (h' := [(0, .iter a (ph0_1 + (Utf8.decode a ph0_1).2))]) (c' := 1) (by kernel_rfl) ?_
      cases b3 : ((Int.ofNat (Utf8.decode a ph0_1).1) != 97 : Bool) with
      | true =>
        have h := cT b3 h
        refine XR.run E0_ok 1 3 [13, 22] rfl (σ' := [(13, .pointer (some ⟨0, 0, none⟩)), (22, .bool ((Int.ofNat (Utf8.decode a ph0_1).1) != 98))]) (h' := [(0, .iter a (ph0_1 + (Utf8.decode a ph0_1).2))]) (c' := 1) (by kernel_rfl) ?_
        refine XR.done (by kernel_rfl) ?_
        show XQ _ _ _ _ _ _ _ _
        cases b4 : ((Int.ofNat (Utf8.decode a ph0_1).1) != 98 : Bool) with
        | true =>
          have h := cT b4 h
          refine XQ.cond (s := (.tmp 22)) (b := true) (by kernel_rfl) (by kernel_rfl) (fun _ => ?_) (fun q => by cases q)
          refine XQ.seq E0_ok (by kernel_rfl) ?_
          refine XQ.region (by kernel_rfl) ?_
          refine XR.run E0_ok 1 1 [2] rfl (σ' := [(2, .int .i64 10)]) (h' := [(0, .iter a (ph0_1 + (Utf8.decode a ph0_1).2))]) (c' := 1) (by kernel_rfl) ?_
          refine XR.done (by kernel_rfl) ?_
          show XQ _ _ _ _ _ _ _ _
          refine XQ.ren (σ' := [(2, .int .i64 10)]) (h' := []) (c' := 0) [] (by decide) rfl ⟨by kernel_rfl, trivial⟩ trivial rfl ?_
          refine XQ.ret (by kernel_rfl) ?_
          cases h
          exact hQ
        | false =>
          have h := cF b4 h
          refine XQ.cond (s := (.tmp 22)) (b := false) (by kernel_rfl) (by kernel_rfl) (fun q => by cases q) (fun _ => ?_)
          refine XQ.skip (by kernel_rfl) ?_
          show XL _ _ _ _ _ _ _ _ _
          refine XL.ren (σ' := [(13, .pointer (some ⟨0, 0, none⟩))]) (h' := [(0, .iter a (ph0_1 + (Utf8.decode a ph0_1).2))]) (c' := 1) [0] (by decide) rfl ⟨by kernel_rfl, trivial⟩ ⟨⟨_, _, rfl, rfl, .inl ⟨rfl, trivial⟩⟩, trivial⟩ rfl ?_
          refine XL.conv (f19_1_ok m fuel a (ph0_1 + (Utf8.decode a ph0_1).2) o h Q hQ) (by first | rfl | simp)
      | false =>
        have h := cF b3 h
        refine XR.run E0_ok 1 3 [13, 22] rfl (σ' := [(13, .pointer (some ⟨0, 0, none⟩)), (22, .bool false)]) (h' := [(0, .iter a (ph0_1 + (Utf8.decode a ph0_1).2))]) (c' := 1) (by kernel_rfl) ?_
        refine XR.done (by kernel_rfl) ?_
        show XQ _ _ _ _ _ _ _ _
        refine XQ.cond (s := (.tmp 22)) (b := false) (by kernel_rfl) (by kernel_rfl) (fun q => by cases q) (fun _ => ?_)
        refine XQ.skip (by kernel_rfl) ?_
        show XL _ _ _ _ _ _ _ _ _
        refine XL.ren (σ' := [(13, .pointer (some ⟨0, 0, none⟩))]) (h' := [(0, .iter a (ph0_1 + (Utf8.decode a ph0_1).2))]) (c' := 1) [0] (by decide) rfl ⟨by kernel_rfl, trivial⟩ ⟨⟨_, _, rfl, rfl, .inl ⟨rfl, trivial⟩⟩, trivial⟩ rfl ?_
        refine XL.conv (f19_1_ok m fuel a (ph0_1 + (Utf8.decode a ph0_1).2) o h Q hQ) (by first | rfl | simp)
    | false =>
      have h := cF b2 h
      refine XR.ef E0_ok [13, 14] rfl (e1.trans (by rw [b2])) (σ' := [(13, .pointer (some ⟨0, 0, none⟩)), (14, .tuple #[.bool false])]) (by kernel_rfl) ?_
      refine XR.run E0_ok 1 1 [13, 14, 15] rfl (σ' := [(13, .pointer (some ⟨0, 0, none⟩)), (14, .tuple #[.bool false]), (15, .bool false)]) (h' := [(0, .iter a ph0_1)]) (c' := 1) (by kernel_rfl) ?_
      refine XR.done (by kernel_rfl) ?_
      show XQ _ _ _ _ _ _ _ _
      refine XQ.seq E0_ok (by kernel_rfl) ?_
      refine XQ.cond (s := (.tmp 15)) (b := false) (by kernel_rfl) (by kernel_rfl) (fun q => by cases q) (fun _ => ?_)
      refine XQ.ren (σ' := []) (h' := []) (c' := 0) [] (by decide) rfl trivial trivial rfl ?_
      refine XQ.exit (i := 1) (by kernel_rfl) ?_
      cases h
      exact hQ

def f19 (m : Nat) (a : ByteArray) : Option (Int) :=
  cond (a.data.toList == []) (
    some (4)
  ) (
    cond (decide (((a.size : Nat) : Int) > 16)) (
      some (3)
    ) (
      (f19_1 m m a 0).bind fun o1 =>
        match o1 with
        | .r =>
          some (10)
        | .x1 =>
          some (0)
    )
  )

theorem f19_ok (m : Nat) (a : ByteArray) (o : Int) (h : f19 m a = some o) (w : World) (hI : maxInv w) : Calls Proofs.Try.prog 19 #[.string a] w fun e w' => e = .returned (.int .i64 o) ∧ Below w.heap.size w w' := by
  refine KC.calls (E := E0) (args := [.string a]) (v := .int .i64 o) rfl rfl (KC.bodyN E0_ok (F := Proofs.Try.f19) (by kernel_rfl) (code := f19_C19) (by kernel_rfl) (nt := 23) (by kernel_rfl) (rs := [.tmp 2]) (by kernel_rfl) (by kernel_rfl) (σ := [(0, .string a)]) (by kernel_rfl) ?_) w (maxInv_size hI) hI
  unfold f19 at h
  refine XQ.seq E0_ok (by kernel_rfl) ?_
  refine XQ.region (by kernel_rfl) ?_
  refine XR.run E0_ok 1 1 [0] rfl (σ' := [(0, .string a)]) (h' := []) (c' := 0) (by kernel_rfl) ?_
  refine XR.done (by kernel_rfl) ?_
  show XQ _ _ _ _ _ _ _ _
  refine XQ.seq E0_ok (by kernel_rfl) ?_
  refine XQ.block (id := 0) (by kernel_rfl) ?_
  refine XQ.seq E0_ok (by kernel_rfl) ?_
  refine XQ.region (by kernel_rfl) ?_
  refine XR.run E0_ok 1 3 [0, 5] rfl (σ' := [(0, .string a), (5, .bool (a.data.toList == []))]) (h' := []) (c' := 0) (by kernel_rfl) ?_
  refine XR.done (by kernel_rfl) ?_
  show XQ _ _ _ _ _ _ _ _
  cases b1 : (a.data.toList == [] : Bool) with
  | true =>
    have h := cT b1 h
    refine XQ.cond (s := (.tmp 5)) (b := true) (by kernel_rfl) (by kernel_rfl) (fun _ => ?_) (fun q => by cases q)
    refine XQ.seq E0_ok (by kernel_rfl) ?_
    refine XQ.region (by kernel_rfl) ?_
    refine XR.run E0_ok 1 1 [2] rfl (σ' := [(2, .int .i64 4)]) (h' := []) (c' := 0) (by kernel_rfl) ?_
    refine XR.done (by kernel_rfl) ?_
    show XQ _ _ _ _ _ _ _ _
    refine XQ.ret (by kernel_rfl) ?_
    have h := Option.some.inj h
    subst h
    exact ⟨fun i q => (by cases q), .int .i64 4, (by kernel_rfl), rfl⟩
  | false =>
    have h := cF b1 h
    refine XQ.cond (s := (.tmp 5)) (b := false) (by kernel_rfl) (by kernel_rfl) (fun q => by cases q) (fun _ => ?_)
    refine XQ.seq E0_ok (by kernel_rfl) ?_
    refine XQ.region (by kernel_rfl) ?_
    refine XR.run E0_ok 1 4 [0, 8] rfl (σ' := [(0, .string a), (8, .bool (decide (((a.size : Nat) : Int) > 16)))]) (h' := []) (c' := 0) (by kernel_rfl) ?_
    refine XR.done (by kernel_rfl) ?_
    show XQ _ _ _ _ _ _ _ _
    cases b2 : (decide (((a.size : Nat) : Int) > 16) : Bool) with
    | true =>
      have h := cT b2 h
      refine XQ.cond (s := (.tmp 8)) (b := true) (by kernel_rfl) (by kernel_rfl) (fun _ => ?_) (fun q => by cases q)
      refine XQ.seq E0_ok (by kernel_rfl) ?_
      refine XQ.region (by kernel_rfl) ?_
      refine XR.run E0_ok 1 1 [2] rfl (σ' := [(2, .int .i64 3)]) (h' := []) (c' := 0) (by kernel_rfl) ?_
      refine XR.done (by kernel_rfl) ?_
      show XQ _ _ _ _ _ _ _ _
      refine XQ.ret (by kernel_rfl) ?_
      have h := Option.some.inj h
      subst h
      exact ⟨fun i q => (by cases q), .int .i64 3, (by kernel_rfl), rfl⟩
    | false =>
      have h := cF b2 h
      refine XQ.cond (s := (.tmp 8)) (b := false) (by kernel_rfl) (by kernel_rfl) (fun q => by cases q) (fun _ => ?_)
      refine XQ.skip (by kernel_rfl) ?_
      show XQ _ _ _ _ _ _ _ _
      refine XQ.seq E0_ok (by kernel_rfl) ?_
      refine XQ.seq E0_ok (by kernel_rfl) ?_
      refine XQ.region (by kernel_rfl) ?_
      refine XR.run E0_ok 1 2 [13] rfl (σ' := [(13, .pointer (some ⟨0, 0, none⟩))]) (h' := [(0, .iter a 0)]) (c' := 1) (by kernel_rfl) ?_
      refine XR.done (by kernel_rfl) ?_
      show XQ _ _ _ _ _ _ _ _
      refine XQ.block (id := 1) (by kernel_rfl) ?_
      refine XQ.loop m (by kernel_rfl) ?_
      obtain ⟨o1, o1_h, h⟩ := bS h
      refine XL.ren (σ' := [(13, .pointer (some ⟨0, 0, none⟩))]) (h' := [(0, .iter a 0)]) (c' := 1) [0] (by decide) rfl ⟨by kernel_rfl, trivial⟩ ⟨⟨_, _, rfl, rfl, .inl ⟨rfl, trivial⟩⟩, trivial⟩ rfl ?_
      cases o1 with
      | r =>
        dsimp only at h
        refine XL.conv (f19_1_ok m m a 0 (.r) o1_h _ ?_) (by first | rfl | simp)
        have h := Option.some.inj h
        subst h
        exact ⟨fun i q => (by cases q), .int .i64 10, (by kernel_rfl), rfl⟩
      | x1 =>
        dsimp only at h
        refine XL.conv (f19_1_ok m m a 0 (.x1) o1_h _ ?_) (by first | rfl | simp)
        show XQ _ _ _ _ _ _ _ _
        refine XQ.seq E0_ok (by kernel_rfl) ?_
        refine XQ.region (by kernel_rfl) ?_
        refine XR.run E0_ok 1 1 [2] rfl (σ' := [(2, .int .i64 0)]) (h' := []) (c' := 0) (by kernel_rfl) ?_
        refine XR.done (by kernel_rfl) ?_
        show XQ _ _ _ _ _ _ _ _
        refine XQ.ret (by kernel_rfl) ?_
        have h := Option.some.inj h
        subst h
        exact ⟨fun i q => (by cases q), .int .i64 0, (by kernel_rfl), rfl⟩

/-! vitola/vitolaref08.Check -/
noncomputable def f20_C20 : Code := Proofs.Try.f20.body.getD .skip
noncomputable def f20_L1 : Code := lft (lft (rgt (lft (rgt (rgt (rgt f20_C20))))))

inductive Of20_1 where
  | r
  | x0

def f20_1 (m : Nat) : Nat → ByteArray → Int → Option Of20_1
  | 0, _, _ => none
  | fuel + 1, a, x3_1 =>
    cond (decide (x3_1 < ((a.size : Nat) : Int))) (
      cond (inRow x3_1 a.size) (
        cond ((byteAt a x3_1) != 97) (
          cond ((byteAt a x3_1) != 98) (
            some (.r)
          ) (
            f20_1 m fuel a (w64 (x3_1 + 1))
          )
        ) (
          f20_1 m fuel a (w64 (x3_1 + 1))
        )
      ) none
    ) (
      some (.x0)
    )

theorem f20_1_ok (m : Nat) : ∀ (fuel : Nat) (a : ByteArray) (x3_1 : Int) (o : Of20_1), f20_1 m fuel a x3_1 = some o → ∀ Q : QP, (match o with | .r => Q .ret [(2, .int .i64 10)] [] 0 | .x0 => Q (.exit 0) [] [] 0) → XL E0 26 0 fuel f20_L1 [(0, .string a), (3, .int .i64 x3_1)] [] 0 Q
  | 0, a, x3_1, o, h, Q, hQ => by cases h
  | fuel + 1, a, x3_1, o, h, Q, hQ => by
    unfold f20_1 at h
    refine XL.succ E0_ok ?_
    refine XQ.seq E0_ok (by kernel_rfl) ?_
    refine XQ.seq E0_ok (by kernel_rfl) ?_
    refine XQ.region (by kernel_rfl) ?_
    refine XR.run E0_ok 1 4 [0, 3, 13] rfl (σ' := [(0, .string a), (3, .int .i64 x3_1), (13, .bool (decide (x3_1 < ((a.size : Nat) : Int))))]) (h' := []) (c' := 0) (by kernel_rfl) ?_
    refine XR.done (by kernel_rfl) ?_
    show XQ _ _ _ _ _ _ _ _
    cases b1 : (decide (x3_1 < ((a.size : Nat) : Int)) : Bool) with
    | true =>
      have h := cT b1 h
      refine XQ.cond (s := (.tmp 13)) (b := true) (by kernel_rfl) (by kernel_rfl) (fun _ => ?_) (fun q => by cases q)
      refine XQ.skip (by kernel_rfl) ?_
      show XQ _ _ _ _ _ _ _ _
      refine XQ.seq E0_ok (by kernel_rfl) ?_
      refine XQ.block (id := 1) (by kernel_rfl) ?_
      refine XQ.seq E0_ok (by kernel_rfl) ?_
      refine XQ.region (by kernel_rfl) ?_
      refine XR.run E0_ok 1 2 [0, 3, 16, 17] rfl (σ' := [(0, .string a), (3, .int .i64 x3_1), (16, .string a), (17, .int .i64 x3_1)]) (h' := []) (c' := 0) (by kernel_rfl) ?_
      cases b2 : (inRow x3_1 a.size : Bool) with
      | false => cases (cF b2 h)
      | true =>
        have h := cT b2 h
        have e3 : insV (headI ((gsOf E0 26 (opsOf (lft (lft (lft (rgt f20_L1)))))).drop 2) (trS 26 [(0, .string a), (3, .int .i64 x3_1), (16, .string a), (17, .int .i64 x3_1)])) (trS 26 [(0, .string a), (3, .int .i64 x3_1), (16, .string a), (17, .int .i64 x3_1)]) [] = (match (inRow x3_1 a.size : Bool) with | true => some (.int .u8 (byteAt a x3_1)) | false => none) := by kernel_rfl
        refine XR.rd E0_ok [0, 3, 18] rfl (e3.trans (by rw [b2])) (σ' := [(0, .string a), (3, .int .i64 x3_1), (18, .int .u8 (byteAt a x3_1))]) (by kernel_rfl) ?_
        refine XR.run E0_ok 1 2 [0, 3, 20] rfl (σ' := [(0, .string a), (3, .int .i64 x3_1), (20, .bool ((byteAt a x3_1) != 97))]) (h' := []) (c' := 0) (by kernel_rfl) ?_
        cases b4 : ((byteAt a x3_1) != 97 : Bool) with
        | true =>
          have h := cT b4 h
          refine XR.run E0_ok 1 2 [0, 3, 20, 21, 22] rfl (σ' := [(0, .string a), (3, .int .i64 x3_1), (20, .bool true), (21, .string a), (22, .int .i64 x3_1)]) (h' := []) (c' := 0) (by kernel_rfl) ?_
          have e5 : insV (headI ((gsOf E0 26 (opsOf (lft (lft (lft (rgt f20_L1)))))).drop 7) (trS 26 [(0, .string a), (3, .int .i64 x3_1), (20, .bool true), (21, .string a), (22, .int .i64 x3_1)])) (trS 26 [(0, .string a), (3, .int .i64 x3_1), (20, .bool true), (21, .string a), (22, .int .i64 x3_1)]) [] = (match (inRow x3_1 a.size : Bool) with | true => some (.int .u8 (byteAt a x3_1)) | false => none) := by kernel_rfl
          refine XR.rd E0_ok [0, 3, 20, 23] rfl (e5.trans (by rw [b2])) (σ' := [(0, .string a), (3, .int .i64 x3_1), (20, .bool true), (23, .int .u8 (byteAt a x3_1))]) (by kernel_rfl) ?_
          refine XR.run E0_ok 1 2 [0, 3, 25] rfl (σ' := [(0, .string a), (3, .int .i64 x3_1), (25, .bool ((byteAt a x3_1) != 98))]) (h' := []) (c' := 0) (by kernel_rfl) ?_
          refine XR.done (by kernel_rfl) ?_
          show XQ _ _ _ _ _ _ _ _
          cases b6 : ((byteAt a x3_1) != 98 : Bool) with
          | true =>
            have h := cT b6 h
            refine XQ.cond (s := (.tmp 25)) (b := true) (by kernel_rfl) (by kernel_rfl) (fun _ => ?_) (fun q => by cases q)
            refine XQ.seq E0_ok (by kernel_rfl) ?_
            refine XQ.region (by kernel_rfl) ?_
            refine XR.run E0_ok 1 1 [2] rfl (σ' := [(2, .int .i64 10)]) (h' := []) (c' := 0) (by kernel_rfl) ?_
            refine XR.done (by kernel_rfl) ?_
            show XQ _ _ _ _ _ _ _ _
            refine XQ.ren (σ' := [(2, .int .i64 10)]) (h' := []) (c' := 0) [] (by decide) rfl ⟨by kernel_rfl, trivial⟩ trivial rfl ?_
            refine XQ.ret (by kernel_rfl) ?_
            cases h
            exact hQ
          | false =>
            have h := cF b6 h
            refine XQ.cond (s := (.tmp 25)) (b := false) (by kernel_rfl) (by kernel_rfl) (fun q => by cases q) (fun _ => ?_)
            refine XQ.skip (by kernel_rfl) ?_
            show XQ _ _ _ _ _ _ _ _
            refine XQ.region (by kernel_rfl) ?_
            refine XR.run E0_ok 1 3 [0, 3] rfl (σ' := [(0, .string a), (3, .int .i64 (w64 (x3_1 + 1)))]) (h' := []) (c' := 0) (by kernel_rfl) ?_
            refine XR.done (by kernel_rfl) ?_
            show XL _ _ _ _ _ _ _ _ _
            refine XL.ren (σ' := [(0, .string a), (3, .int .i64 (w64 (x3_1 + 1)))]) (h' := []) (c' := 0) [] (by decide) rfl ⟨by kernel_rfl, by kernel_rfl, trivial⟩ trivial rfl ?_
            refine XL.conv (f20_1_ok m fuel a (w64 (x3_1 + 1)) o h Q hQ) (by first | rfl | simp)
        | false =>
          have h := cF b4 h
          refine XR.run E0_ok 1 5 [0, 3, 25] rfl (σ' := [(0, .string a), (3, .int .i64 x3_1), (25, .bool false)]) (h' := []) (c' := 0) (by kernel_rfl) ?_
          refine XR.done (by kernel_rfl) ?_
          show XQ _ _ _ _ _ _ _ _
          refine XQ.cond (s := (.tmp 25)) (b := false) (by kernel_rfl) (by kernel_rfl) (fun q => by cases q) (fun _ => ?_)
          refine XQ.skip (by kernel_rfl) ?_
          show XQ _ _ _ _ _ _ _ _
          refine XQ.region (by kernel_rfl) ?_
          refine XR.run E0_ok 1 3 [0, 3] rfl (σ' := [(0, .string a), (3, .int .i64 (w64 (x3_1 + 1)))]) (h' := []) (c' := 0) (by kernel_rfl) ?_
          refine XR.done (by kernel_rfl) ?_
          show XL _ _ _ _ _ _ _ _ _
          refine XL.ren (σ' := [(0, .string a), (3, .int .i64 (w64 (x3_1 + 1)))]) (h' := []) (c' := 0) [] (by decide) rfl ⟨by kernel_rfl, by kernel_rfl, trivial⟩ trivial rfl ?_
          refine XL.conv (f20_1_ok m fuel a (w64 (x3_1 + 1)) o h Q hQ) (by first | rfl | simp)
    | false =>
      have h := cF b1 h
      refine XQ.cond (s := (.tmp 13)) (b := false) (by kernel_rfl) (by kernel_rfl) (fun q => by cases q) (fun _ => ?_)
      refine XQ.ren (σ' := []) (h' := []) (c' := 0) [] (by decide) rfl trivial trivial rfl ?_
      refine XQ.exit (i := 0) (by kernel_rfl) ?_
      cases h
      exact hQ

def f20 (m : Nat) (a : ByteArray) : Option (Int) :=
  cond (((a.size : Nat) : Int) == 0) (
    some (4)
  ) (
    cond (decide (((a.size : Nat) : Int) > 16)) (
      some (3)
    ) (
      (f20_1 m m a 0).bind fun o1 =>
        match o1 with
        | .r =>
          some (10)
        | .x0 =>
          some (0)
    )
  )

theorem f20_ok (m : Nat) (a : ByteArray) (o : Int) (h : f20 m a = some o) (w : World) (hI : maxInv w) : Calls Proofs.Try.prog 20 #[.string a] w fun e w' => e = .returned (.int .i64 o) ∧ Below w.heap.size w w' := by
  refine KC.calls (E := E0) (args := [.string a]) (v := .int .i64 o) rfl rfl (KC.bodyN E0_ok (F := Proofs.Try.f20) (by kernel_rfl) (code := f20_C20) (by kernel_rfl) (nt := 26) (by kernel_rfl) (rs := [.tmp 2]) (by kernel_rfl) (by kernel_rfl) (σ := [(0, .string a)]) (by kernel_rfl) ?_) w (maxInv_size hI) hI
  unfold f20 at h
  refine XQ.seq E0_ok (by kernel_rfl) ?_
  refine XQ.region (by kernel_rfl) ?_
  refine XR.run E0_ok 1 1 [0] rfl (σ' := [(0, .string a)]) (h' := []) (c' := 0) (by kernel_rfl) ?_
  refine XR.done (by kernel_rfl) ?_
  show XQ _ _ _ _ _ _ _ _
  refine XQ.seq E0_ok (by kernel_rfl) ?_
  refine XQ.seq E0_ok (by kernel_rfl) ?_
  refine XQ.region (by kernel_rfl) ?_
  refine XR.run E0_ok 1 3 [0, 6] rfl (σ' := [(0, .string a), (6, .bool (((a.size : Nat) : Int) == 0))]) (h' := []) (c' := 0) (by kernel_rfl) ?_
  refine XR.done (by kernel_rfl) ?_
  show XQ _ _ _ _ _ _ _ _
  cases b1 : (((a.size : Nat) : Int) == 0 : Bool) with
  | true =>
    have h := cT b1 h
    refine XQ.cond (s := (.tmp 6)) (b := true) (by kernel_rfl) (by kernel_rfl) (fun _ => ?_) (fun q => by cases q)
    refine XQ.seq E0_ok (by kernel_rfl) ?_
    refine XQ.region (by kernel_rfl) ?_
    refine XR.run E0_ok 1 1 [2] rfl (σ' := [(2, .int .i64 4)]) (h' := []) (c' := 0) (by kernel_rfl) ?_
    refine XR.done (by kernel_rfl) ?_
    show XQ _ _ _ _ _ _ _ _
    refine XQ.ret (by kernel_rfl) ?_
    have h := Option.some.inj h
    subst h
    exact ⟨fun i q => (by cases q), .int .i64 4, (by kernel_rfl), rfl⟩
  | false =>
    have h := cF b1 h
    refine XQ.cond (s := (.tmp 6)) (b := false) (by kernel_rfl) (by kernel_rfl) (fun q => by cases q) (fun _ => ?_)
    refine XQ.skip (by kernel_rfl) ?_
    show XQ _ _ _ _ _ _ _ _
    refine XQ.seq E0_ok (by kernel_rfl) ?_
    refine XQ.seq E0_ok (by kernel_rfl) ?_
    refine XQ.region (by kernel_rfl) ?_
    refine XR.run E0_ok 1 3 [0, 9] rfl (σ' := [(0, .string a), (9, .bool (decide (((a.size : Nat) : Int) > 16)))]) (h' := []) (c' := 0) (by kernel_rfl) ?_
    refine XR.done (by kernel_rfl) ?_
    show XQ _ _ _ _ _ _ _ _
    cases b2 : (decide (((a.size : Nat) : Int) > 16) : Bool) with
    | true =>
      have h := cT b2 h
      refine XQ.cond (s := (.tmp 9)) (b := true) (by kernel_rfl) (by kernel_rfl) (fun _ => ?_) (fun q => by cases q)
      refine XQ.seq E0_ok (by kernel_rfl) ?_
      refine XQ.region (by kernel_rfl) ?_
      refine XR.run E0_ok 1 1 [2] rfl (σ' := [(2, .int .i64 3)]) (h' := []) (c' := 0) (by kernel_rfl) ?_
      refine XR.done (by kernel_rfl) ?_
      show XQ _ _ _ _ _ _ _ _
      refine XQ.ret (by kernel_rfl) ?_
      have h := Option.some.inj h
      subst h
      exact ⟨fun i q => (by cases q), .int .i64 3, (by kernel_rfl), rfl⟩
    | false =>
      have h := cF b2 h
      refine XQ.cond (s := (.tmp 9)) (b := false) (by kernel_rfl) (by kernel_rfl) (fun q => by cases q) (fun _ => ?_)
      refine XQ.skip (by kernel_rfl) ?_
      show XQ _ _ _ _ _ _ _ _
      refine XQ.seq E0_ok (by kernel_rfl) ?_
      refine XQ.seq E0_ok (by kernel_rfl) ?_
      refine XQ.region (by kernel_rfl) ?_
      refine XR.run E0_ok 1 1 [0, 3] rfl (σ' := [(0, .string a), (3, .int .i64 0)]) (h' := []) (c' := 0) (by kernel_rfl) ?_
      refine XR.done (by kernel_rfl) ?_
      show XQ _ _ _ _ _ _ _ _
      refine XQ.block (id := 0) (by kernel_rfl) ?_
      refine XQ.loop m (by kernel_rfl) ?_
      obtain ⟨o1, o1_h, h⟩ := bS h
      refine XL.ren (σ' := [(0, .string a), (3, .int .i64 0)]) (h' := []) (c' := 0) [] (by decide) rfl ⟨by kernel_rfl, by kernel_rfl, trivial⟩ trivial rfl ?_
      cases o1 with
      | r =>
        dsimp only at h
        refine XL.conv (f20_1_ok m m a 0 (.r) o1_h _ ?_) (by first | rfl | simp)
        have h := Option.some.inj h
        subst h
        exact ⟨fun i q => (by cases q), .int .i64 10, (by kernel_rfl), rfl⟩
      | x0 =>
        dsimp only at h
        refine XL.conv (f20_1_ok m m a 0 (.x0) o1_h _ ?_) (by first | rfl | simp)
        show XQ _ _ _ _ _ _ _ _
        refine XQ.seq E0_ok (by kernel_rfl) ?_
        refine XQ.region (by kernel_rfl) ?_
        refine XR.run E0_ok 1 1 [2] rfl (σ' := [(2, .int .i64 0)]) (h' := []) (c' := 0) (by kernel_rfl) ?_
        refine XR.done (by kernel_rfl) ?_
        show XQ _ _ _ _ _ _ _ _
        refine XQ.ret (by kernel_rfl) ?_
        have h := Option.some.inj h
        subst h
        exact ⟨fun i q => (by cases q), .int .i64 0, (by kernel_rfl), rfl⟩

/-! vitola/vitolaref08.bands -/
noncomputable def f51_C51 : Code := Proofs.Try.f51.body.getD .skip
noncomputable def f51_L1 : Code := lft (lft (rgt (lft (rgt (rgt f51_C51)))))

def f51_1 (m : Nat) : Nat → ByteArray → Int → Int → Int → Int → Option Int
  | 0, _, _, _, _, _ => none
  | fuel + 1, a, b, c, x7_1, x8_1 =>
    cond (decide (x8_1 < c)) (
      cond (((a.size : Nat) : Int) != 0) (
        cond (inRow (Int.tmod (w64 (b + x8_1)) ((a.size : Nat) : Int)) a.size) (
          f51_1 m fuel a b c (cond ((byteAt a (Int.tmod (w64 (b + x8_1)) ((a.size : Nat) : Int))) == 98) (w64 (x7_1 + 1)) x7_1) (w64 (x8_1 + 1))
        ) none
      ) none
    ) (
      some (x7_1)
    )

theorem f51_1_ok (m : Nat) : ∀ (fuel : Nat) (a : ByteArray) (b : Int) (c : Int) (x7_1 : Int) (x8_1 : Int) (o : Int), f51_1 m fuel a b c x7_1 x8_1 = some o → ∀ Q : QP, Q (.exit 0) [(7, .int .i64 o)] [] 0 → XL E0 26 0 fuel f51_L1 [(0, .string a), (1, .int .i64 b), (2, .int .i64 c), (7, .int .i64 x7_1), (8, .int .i64 x8_1)] [] 0 Q
  | 0, a, b, c, x7_1, x8_1, o, h, Q, hQ => by cases h
  | fuel + 1, a, b, c, x7_1, x8_1, o, h, Q, hQ => by
    unfold f51_1 at h
    refine XL.succ E0_ok ?_
    refine XQ.seq E0_ok (by kernel_rfl) ?_
    refine XQ.seq E0_ok (by kernel_rfl) ?_
    refine XQ.region (by kernel_rfl) ?_
    refine XR.run E0_ok 1 3 [0, 1, 2, 7, 8, 11] rfl (σ' := [(0, .string a), (1, .int .i64 b), (2, .int .i64 c), (7, .int .i64 x7_1), (8, .int .i64 x8_1), (11, .bool (decide (x8_1 < c)))]) (h' := []) (c' := 0) (by kernel_rfl) ?_
    refine XR.done (by kernel_rfl) ?_
    show XQ _ _ _ _ _ _ _ _
    cases b1 : (decide (x8_1 < c) : Bool) with
    | true =>
      have h := cT b1 h
      refine XQ.cond (s := (.tmp 11)) (b := true) (by kernel_rfl) (by kernel_rfl) (fun _ => ?_) (fun q => by cases q)
      refine XQ.skip (by kernel_rfl) ?_
      show XQ _ _ _ _ _ _ _ _
      refine XQ.seq E0_ok (by kernel_rfl) ?_
      refine XQ.block (id := 1) (by kernel_rfl) ?_
      refine XQ.seq E0_ok (by kernel_rfl) ?_
      refine XQ.region (by kernel_rfl) ?_
      refine XR.run E0_ok 1 6 [0, 1, 2, 7, 8, 14, 17, 19] rfl (σ' := [(0, .string a), (1, .int .i64 b), (2, .int .i64 c), (7, .int .i64 x7_1), (8, .int .i64 x8_1), (14, .string a), (17, .int .i64 (w64 (b + x8_1))), (19, .int .i64 ((a.size : Nat) : Int))]) (h' := []) (c' := 0) (by kernel_rfl) ?_
      cases b2 : (((a.size : Nat) : Int) != 0 : Bool) with
      | false => cases (cF b2 h)
      | true =>
        have h := cT b2 h
        have e3 : insV (headI ((gsOf E0 26 (opsOf (lft (lft (lft (rgt f51_L1)))))).drop 6) (trS 26 [(0, .string a), (1, .int .i64 b), (2, .int .i64 c), (7, .int .i64 x7_1), (8, .int .i64 x8_1), (14, .string a), (17, .int .i64 (w64 (b + x8_1))), (19, .int .i64 ((a.size : Nat) : Int))])) (trS 26 [(0, .string a), (1, .int .i64 b), (2, .int .i64 c), (7, .int .i64 x7_1), (8, .int .i64 x8_1), (14, .string a), (17, .int .i64 (w64 (b + x8_1))), (19, .int .i64 ((a.size : Nat) : Int))]) [] = (match (((a.size : Nat) : Int) != 0 : Bool) with | true => some (.int .i64 (Int.tmod (w64 (b + x8_1)) ((a.size : Nat) : Int))) | false => none) := by kernel_rfl
        refine XR.rd E0_ok [0, 1, 2, 7, 8, 14, 20] rfl (e3.trans (by rw [b2])) (σ' := [(0, .string a), (1, .int .i64 b), (2, .int .i64 c), (7, .int .i64 x7_1), (8, .int .i64 x8_1), (14, .string a), (20, .int .i64 (Int.tmod (w64 (b + x8_1)) ((a.size : Nat) : Int)))]) (by kernel_rfl) ?_
        cases b4 : (inRow (Int.tmod (w64 (b + x8_1)) ((a.size : Nat) : Int)) a.size : Bool) with
        | false => cases (cF b4 h)
        | true =>
          have h := cT b4 h
          have e5 : insV (headI ((gsOf E0 26 (opsOf (lft (lft (lft (rgt f51_L1)))))).drop 7) (trS 26 [(0, .string a), (1, .int .i64 b), (2, .int .i64 c), (7, .int .i64 x7_1), (8, .int .i64 x8_1), (14, .string a), (20, .int .i64 (Int.tmod (w64 (b + x8_1)) ((a.size : Nat) : Int)))])) (trS 26 [(0, .string a), (1, .int .i64 b), (2, .int .i64 c), (7, .int .i64 x7_1), (8, .int .i64 x8_1), (14, .string a), (20, .int .i64 (Int.tmod (w64 (b + x8_1)) ((a.size : Nat) : Int)))]) [] = (match (inRow (Int.tmod (w64 (b + x8_1)) ((a.size : Nat) : Int)) a.size : Bool) with | true => some (.int .u8 (byteAt a (Int.tmod (w64 (b + x8_1)) ((a.size : Nat) : Int)))) | false => none) := by kernel_rfl
          refine XR.rd E0_ok [0, 1, 2, 7, 8, 21] rfl (e5.trans (by rw [b4])) (σ' := [(0, .string a), (1, .int .i64 b), (2, .int .i64 c), (7, .int .i64 x7_1), (8, .int .i64 x8_1), (21, .int .u8 (byteAt a (Int.tmod (w64 (b + x8_1)) ((a.size : Nat) : Int))))]) (by kernel_rfl) ?_
          refine XR.run E0_ok 1 1 [0, 1, 2, 7, 8, 22] rfl (σ' := [(0, .string a), (1, .int .i64 b), (2, .int .i64 c), (7, .int .i64 x7_1), (8, .int .i64 x8_1), (22, .bool ((byteAt a (Int.tmod (w64 (b + x8_1)) ((a.size : Nat) : Int))) == 98))]) (h' := []) (c' := 0) (by kernel_rfl) ?_
          refine XR.done (by kernel_rfl) ?_
          show XQ _ _ _ _ _ _ _ _
          refine XQ.meetC (σ' := [(0, .string a), (1, .int .i64 b), (2, .int .i64 c), (7, .int .i64 (cond ((byteAt a (Int.tmod (w64 (b + x8_1)) ((a.size : Nat) : Int))) == 98) (w64 (x7_1 + 1)) x7_1)), (8, .int .i64 x8_1)]) (h' := []) (c' := 0) ?_ ?_
          rotate_left
          · refine XQ.cond (s := (.tmp 22)) (b := (byteAt a (Int.tmod (w64 (b + x8_1)) ((a.size : Nat) : Int))) == 98) (by kernel_rfl) (by kernel_rfl) (fun b6 => ?_) (fun b6 => ?_)
            · refine XQ.region (by kernel_rfl) ?_
              refine XR.run E0_ok 1 3 [0, 1, 2, 7, 8] rfl (σ' := [(0, .string a), (1, .int .i64 b), (2, .int .i64 c), (7, .int .i64 (w64 (x7_1 + 1))), (8, .int .i64 x8_1)]) (h' := []) (c' := 0) (by kernel_rfl) ?_
              refine XR.done (by kernel_rfl) ?_
              refine ⟨rfl, ?_, ?_⟩
              · try rw [b6]
                exact ⟨by kernel_rfl, by kernel_rfl, by kernel_rfl, by kernel_rfl, by kernel_rfl, trivial⟩
              · try rw [b6]
                kernel_rfl
            · refine XQ.skip (by kernel_rfl) ?_
              refine ⟨rfl, ?_, ?_⟩
              · try rw [b6]
                exact ⟨by kernel_rfl, by kernel_rfl, by kernel_rfl, by kernel_rfl, by kernel_rfl, trivial⟩
              · try rw [b6]
                kernel_rfl
          show XQ _ _ _ _ _ _ _ _
          refine XQ.region (by kernel_rfl) ?_
          refine XR.run E0_ok 1 3 [0, 1, 2, 7, 8] rfl (σ' := [(0, .string a), (1, .int .i64 b), (2, .int .i64 c), (7, .int .i64 (cond ((byteAt a (Int.tmod (w64 (b + x8_1)) ((a.size : Nat) : Int))) == 98) (w64 (x7_1 + 1)) x7_1)), (8, .int .i64 (w64 (x8_1 + 1)))]) (h' := []) (c' := 0) (by kernel_rfl) ?_
          refine XR.done (by kernel_rfl) ?_
          show XL _ _ _ _ _ _ _ _ _
          refine XL.ren (σ' := [(0, .string a), (1, .int .i64 b), (2, .int .i64 c), (7, .int .i64 (cond ((byteAt a (Int.tmod (w64 (b + x8_1)) ((a.size : Nat) : Int))) == 98) (w64 (x7_1 + 1)) x7_1)), (8, .int .i64 (w64 (x8_1 + 1)))]) (h' := []) (c' := 0) [] (by decide) rfl ⟨by kernel_rfl, by kernel_rfl, by kernel_rfl, by kernel_rfl, by kernel_rfl, trivial⟩ trivial rfl ?_
          refine XL.conv (f51_1_ok m fuel a b c (cond ((byteAt a (Int.tmod (w64 (b + x8_1)) ((a.size : Nat) : Int))) == 98) (w64 (x7_1 + 1)) x7_1) (w64 (x8_1 + 1)) o h Q hQ) (by first | rfl | simp)
    | false =>
      have h := cF b1 h
      refine XQ.cond (s := (.tmp 11)) (b := false) (by kernel_rfl) (by kernel_rfl) (fun q => by cases q) (fun _ => ?_)
      refine XQ.ren (σ' := [(7, .int .i64 x7_1)]) (h' := []) (c' := 0) [] (by decide) rfl ⟨by kernel_rfl, trivial⟩ trivial rfl ?_
      refine XQ.exit (i := 0) (by kernel_rfl) ?_
      cases h
      exact hQ

def f51 (m : Nat) (a : ByteArray) (b : Int) (c : Int) : Option (Int) :=
  (f51_1 m m a b c 0 0).bind fun o1 =>
    some (o1)

theorem f51_ok (m : Nat) (a : ByteArray) (b : Int) (c : Int) (o : Int) (h : f51 m a b c = some o) (w : World) (hI : maxInv w) : Calls Proofs.Try.prog 51 #[.string a, .int .i64 b, .int .i64 c] w fun e w' => e = .returned (.int .i64 o) ∧ Below w.heap.size w w' := by
  refine KC.calls (E := E0) (args := [.string a, .int .i64 b, .int .i64 c]) (v := .int .i64 o) rfl rfl (KC.bodyN E0_ok (F := Proofs.Try.f51) (by kernel_rfl) (code := f51_C51) (by kernel_rfl) (nt := 26) (by kernel_rfl) (rs := [.tmp 6]) (by kernel_rfl) (by kernel_rfl) (σ := [(0, .string a), (1, .int .i64 b), (2, .int .i64 c)]) (by kernel_rfl) ?_) w (maxInv_size hI) hI
  unfold f51 at h
  refine XQ.seq E0_ok (by kernel_rfl) ?_
  refine XQ.region (by kernel_rfl) ?_
  refine XR.run E0_ok 1 1 [0, 1, 2] rfl (σ' := [(0, .string a), (1, .int .i64 b), (2, .int .i64 c)]) (h' := []) (c' := 0) (by kernel_rfl) ?_
  refine XR.done (by kernel_rfl) ?_
  show XQ _ _ _ _ _ _ _ _
  refine XQ.seq E0_ok (by kernel_rfl) ?_
  refine XQ.region (by kernel_rfl) ?_
  refine XR.run E0_ok 1 1 [0, 1, 2, 7] rfl (σ' := [(0, .string a), (1, .int .i64 b), (2, .int .i64 c), (7, .int .i64 0)]) (h' := []) (c' := 0) (by kernel_rfl) ?_
  refine XR.done (by kernel_rfl) ?_
  show XQ _ _ _ _ _ _ _ _
  refine XQ.seq E0_ok (by kernel_rfl) ?_
  refine XQ.seq E0_ok (by kernel_rfl) ?_
  refine XQ.region (by kernel_rfl) ?_
  refine XR.run E0_ok 1 1 [0, 1, 2, 7, 8] rfl (σ' := [(0, .string a), (1, .int .i64 b), (2, .int .i64 c), (7, .int .i64 0), (8, .int .i64 0)]) (h' := []) (c' := 0) (by kernel_rfl) ?_
  refine XR.done (by kernel_rfl) ?_
  show XQ _ _ _ _ _ _ _ _
  refine XQ.block (id := 0) (by kernel_rfl) ?_
  refine XQ.loop m (by kernel_rfl) ?_
  obtain ⟨o1, o1_h, h⟩ := bS h
  refine XL.ren (σ' := [(0, .string a), (1, .int .i64 b), (2, .int .i64 c), (7, .int .i64 0), (8, .int .i64 0)]) (h' := []) (c' := 0) [] (by decide) rfl ⟨by kernel_rfl, by kernel_rfl, by kernel_rfl, by kernel_rfl, by kernel_rfl, trivial⟩ trivial rfl ?_
  refine XL.conv (f51_1_ok m m a b c 0 0 o1 o1_h _ ?_) (by first | rfl | simp)
  show XQ _ _ _ _ _ _ _ _
  refine XQ.seq E0_ok (by kernel_rfl) ?_
  refine XQ.region (by kernel_rfl) ?_
  refine XR.run E0_ok 1 2 [6] rfl (σ' := [(6, .int .i64 o1)]) (h' := []) (c' := 0) (by kernel_rfl) ?_
  refine XR.done (by kernel_rfl) ?_
  show XQ _ _ _ _ _ _ _ _
  refine XQ.ret (by kernel_rfl) ?_
  have h := Option.some.inj h
  subst h
  exact ⟨fun i q => (by cases q), .int .i64 o1, (by kernel_rfl), rfl⟩

/-! vitola/vitolaref08.against -/
noncomputable def f46_C46 : Code := Proofs.Try.f46.body.getD .skip
noncomputable def f46_L1 : Code := lft (lft (rgt (lft (rgt (rgt f46_C46)))))
noncomputable def f46_L2 : Code := lft (lft (rgt (rgt (rgt (lft (lft (rgt f46_L1)))))))
noncomputable def f46_L3 : Code := lft (lft (rgt (lft (lft (rgt f46_L2)))))

inductive Of46_3 where
  | r (x5_r3 : Int)
  | x4

def f46_3 (m : Nat) : Nat → ByteArray → Bool → Int → Int → Int → Int → Int → Option Of46_3
  | 0, _, _, _, _, _, _, _ => none
  | fuel + 1, a, b, x8_1, x9_1, x10_2, x11_2, x12_3 =>
    cond (decide (x12_3 < x10_2)) (
      (f51 m a x11_2 x9_1).bind fun r53 =>
        (f51 m a x12_3 x9_1).bind fun r54 =>
          cond (decide (r53 ≥ (w64 (r54 + 2)))) (
            some (.r x12_3)
          ) (
            f46_3 m fuel a b x8_1 x9_1 x10_2 x11_2 (w64 (x12_3 + 1))
          )
    ) (
      some (.x4)
    )

theorem f46_3_ok (m : Nat) : ∀ (fuel : Nat) (a : ByteArray) (b : Bool) (x8_1 : Int) (x9_1 : Int) (x10_2 : Int) (x11_2 : Int) (x12_3 : Int) (o : Of46_3), f46_3 m fuel a b x8_1 x9_1 x10_2 x11_2 x12_3 = some o → ∀ Q : QP, (match o with | .r x5_r3 => Q .ret [(4, .int .i64 x11_2), (5, .int .i64 x5_r3), (6, .int .i64 x9_1), (7, .bool true)] [] 0 | .x4 => Q (.exit 4) [(0, .string a), (1, .bool b), (8, .int .i64 x8_1), (9, .int .i64 x9_1), (10, .int .i64 x10_2), (11, .int .i64 x11_2)] [] 0) → XL E0 49 0 fuel f46_L3 [(0, .string a), (1, .bool b), (8, .int .i64 x8_1), (9, .int .i64 x9_1), (10, .int .i64 x10_2), (11, .int .i64 x11_2), (12, .int .i64 x12_3)] [] 0 Q
  | 0, a, b, x8_1, x9_1, x10_2, x11_2, x12_3, o, h, Q, hQ => by cases h
  | fuel + 1, a, b, x8_1, x9_1, x10_2, x11_2, x12_3, o, h, Q, hQ => by
    unfold f46_3 at h
    refine XL.succ E0_ok ?_
    refine XQ.seq E0_ok (by kernel_rfl) ?_
    refine XQ.seq E0_ok (by kernel_rfl) ?_
    refine XQ.region (by kernel_rfl) ?_
    refine XR.run E0_ok 1 3 [0, 1, 8, 9, 10, 11, 12, 33] rfl (σ' := [(0, .string a), (1, .bool b), (8, .int .i64 x8_1), (9, .int .i64 x9_1), (10, .int .i64 x10_2), (11, .int .i64 x11_2), (12, .int .i64 x12_3), (33, .bool (decide (x12_3 < x10_2)))]) (h' := []) (c' := 0) (by kernel_rfl) ?_
    refine XR.done (by kernel_rfl) ?_
    show XQ _ _ _ _ _ _ _ _
    cases b1 : (decide (x12_3 < x10_2) : Bool) with
    | true =>
      have h := cT b1 h
      refine XQ.cond (s := (.tmp 33)) (b := true) (by kernel_rfl) (by kernel_rfl) (fun _ => ?_) (fun q => by cases q)
      refine XQ.skip (by kernel_rfl) ?_
      show XQ _ _ _ _ _ _ _ _
      refine XQ.seq E0_ok (by kernel_rfl) ?_
      refine XQ.block (id := 5) (by kernel_rfl) ?_
      refine XQ.seq E0_ok (by kernel_rfl) ?_
      refine XQ.region (by kernel_rfl) ?_
      refine XR.run E0_ok 1 3 [0, 1, 8, 9, 10, 11, 12, 36, 37, 38] rfl (σ' := [(0, .string a), (1, .bool b), (8, .int .i64 x8_1), (9, .int .i64 x9_1), (10, .int .i64 x10_2), (11, .int .i64 x11_2), (12, .int .i64 x12_3), (36, .string a), (37, .int .i64 x11_2), (38, .int .i64 x9_1)]) (h' := []) (c' := 0) (by kernel_rfl) ?_
      obtain ⟨r53, r53_h, h⟩ := bS h
      refine XR.call E0_ok [0, 1, 8, 9, 10, 11, 12, 39] rfl (K := 51) (args := [.string a, .int .i64 x11_2, .int .i64 x9_1]) (d := (some (path 12 39))) (by kernel_rfl) (KC.of_calls E0_ok (F := Proofs.Try.f51) (v := .int .i64 r53) (by kernel_rfl) rfl rfl (fun w hI => f51_ok m a x11_2 x9_1 r53 r53_h w hI)) ?_
      rintro _ _ _ ⟨rfl, rfl, rfl⟩
      refine XR.conv (σ' := [(0, .string a), (1, .bool b), (8, .int .i64 x8_1), (9, .int .i64 x9_1), (10, .int .i64 x10_2), (11, .int .i64 x11_2), (12, .int .i64 x12_3), (39, .int .i64 r53)]) (h' := []) (c' := 0) ?_ (by kernel_rfl)
      refine XR.run E0_ok 1 3 [0, 1, 8, 9, 10, 11, 12, 39, 40, 41, 42] rfl (σ' := [(0, .string a), (1, .bool b), (8, .int .i64 x8_1), (9, .int .i64 x9_1), (10, .int .i64 x10_2), (11, .int .i64 x11_2), (12, .int .i64 x12_3), (39, .int .i64 r53), (40, .string a), (41, .int .i64 x12_3), (42, .int .i64 x9_1)]) (h' := []) (c' := 0) (by kernel_rfl) ?_
      obtain ⟨r54, r54_h, h⟩ := bS h
      refine XR.call E0_ok [0, 1, 8, 9, 10, 11, 12, 39, 43] rfl (K := 51) (args := [.string a, .int .i64 x12_3, .int .i64 x9_1]) (d := (some (path 12 43))) (by kernel_rfl) (KC.of_calls E0_ok (F := Proofs.Try.f51) (v := .int .i64 r54) (by kernel_rfl) rfl rfl (fun w hI => f51_ok m a x12_3 x9_1 r54 r54_h w hI)) ?_
      rintro _ _ _ ⟨rfl, rfl, rfl⟩
      refine XR.conv (σ' := [(0, .string a), (1, .bool b), (8, .int .i64 x8_1), (9, .int .i64 x9_1), (10, .int .i64 x10_2), (11, .int .i64 x11_2), (12, .int .i64 x12_3), (39, .int .i64 r53), (43, .int .i64 r54)]) (h' := []) (c' := 0) ?_ (by kernel_rfl)
      refine XR.run E0_ok 1 2 [0, 1, 8, 9, 10, 11, 12, 45] rfl (σ' := [(0, .string a), (1, .bool b), (8, .int .i64 x8_1), (9, .int .i64 x9_1), (10, .int .i64 x10_2), (11, .int .i64 x11_2), (12, .int .i64 x12_3), (45, .bool (decide (r53 ≥ (w64 (r54 + 2)))))]) (h' := []) (c' := 0) (by kernel_rfl) ?_
      refine XR.done (by kernel_rfl) ?_
      show XQ _ _ _ _ _ _ _ _
      cases b2 : (decide (r53 ≥ (w64 (r54 + 2))) : Bool) with
      | true =>
        have h := cT b2 h
        refine XQ.cond (s := (.tmp 45)) (b := true) (by kernel_rfl) (by kernel_rfl) (fun _ => ?_) (fun q => by cases q)
        refine XQ.seq E0_ok (by kernel_rfl) ?_
        refine XQ.region (by kernel_rfl) ?_
        refine XR.run E0_ok 1 7 [4, 5, 6, 7] rfl (σ' := [(4, .int .i64 x11_2), (5, .int .i64 x12_3), (6, .int .i64 x9_1), (7, .bool true)]) (h' := []) (c' := 0) (by kernel_rfl) ?_
        refine XR.done (by kernel_rfl) ?_
        show XQ _ _ _ _ _ _ _ _
        refine XQ.ren (σ' := [(4, .int .i64 x11_2), (5, .int .i64 x12_3), (6, .int .i64 x9_1), (7, .bool true)]) (h' := []) (c' := 0) [] (by decide) rfl ⟨by kernel_rfl, by kernel_rfl, by kernel_rfl, by kernel_rfl, trivial⟩ trivial rfl ?_
        refine XQ.ret (by kernel_rfl) ?_
        cases h
        exact hQ
      | false =>
        have h := cF b2 h
        refine XQ.cond (s := (.tmp 45)) (b := false) (by kernel_rfl) (by kernel_rfl) (fun q => by cases q) (fun _ => ?_)
        refine XQ.skip (by kernel_rfl) ?_
        show XQ _ _ _ _ _ _ _ _
        refine XQ.region (by kernel_rfl) ?_
        refine XR.run E0_ok 1 3 [0, 1, 8, 9, 10, 11, 12] rfl (σ' := [(0, .string a), (1, .bool b), (8, .int .i64 x8_1), (9, .int .i64 x9_1), (10, .int .i64 x10_2), (11, .int .i64 x11_2), (12, .int .i64 (w64 (x12_3 + 1)))]) (h' := []) (c' := 0) (by kernel_rfl) ?_
        refine XR.done (by kernel_rfl) ?_
        show XL _ _ _ _ _ _ _ _ _
        refine XL.ren (σ' := [(0, .string a), (1, .bool b), (8, .int .i64 x8_1), (9, .int .i64 x9_1), (10, .int .i64 x10_2), (11, .int .i64 x11_2), (12, .int .i64 (w64 (x12_3 + 1)))]) (h' := []) (c' := 0) [] (by decide) rfl ⟨by kernel_rfl, by kernel_rfl, by kernel_rfl, by kernel_rfl, by kernel_rfl, by kernel_rfl, by kernel_rfl, trivial⟩ trivial rfl ?_
        refine XL.conv (f46_3_ok m fuel a b x8_1 x9_1 x10_2 x11_2 (w64 (x12_3 + 1)) o h Q hQ) (by first | rfl | simp)
    | false =>
      have h := cF b1 h
      refine XQ.cond (s := (.tmp 33)) (b := false) (by kernel_rfl) (by kernel_rfl) (fun q => by cases q) (fun _ => ?_)
      refine XQ.ren (σ' := [(0, .string a), (1, .bool b), (8, .int .i64 x8_1), (9, .int .i64 x9_1), (10, .int .i64 x10_2), (11, .int .i64 x11_2)]) (h' := []) (c' := 0) [] (by decide) rfl ⟨by kernel_rfl, by kernel_rfl, by kernel_rfl, by kernel_rfl, by kernel_rfl, by kernel_rfl, trivial⟩ trivial rfl ?_
      refine XQ.exit (i := 4) (by kernel_rfl) ?_
      cases h
      exact hQ

inductive Of46_2 where
  | r (x4_r2 : Int) (x5_r2 : Int)
  | x2

def f46_2 (m : Nat) : Nat → ByteArray → Bool → Int → Int → Int → Int → Option Of46_2
  | 0, _, _, _, _, _, _ => none
  | fuel + 1, a, b, x8_1, x9_1, x10_2, x11_2 =>
    cond (decide (x11_2 < x10_2)) (
      (f46_3 m m a b x8_1 x9_1 x10_2 x11_2 0).bind fun o3 =>
        match o3 with
        | .r x5_r3 =>
          some (.r x11_2 x5_r3)
        | .x4 =>
          f46_2 m fuel a b x8_1 x9_1 x10_2 (w64 (x11_2 + 1))
    ) (
      some (.x2)
    )

theorem f46_2_ok (m : Nat) : ∀ (fuel : Nat) (a : ByteArray) (b : Bool) (x8_1 : Int) (x9_1 : Int) (x10_2 : Int) (x11_2 : Int) (o : Of46_2), f46_2 m fuel a b x8_1 x9_1 x10_2 x11_2 = some o → ∀ Q : QP, (match o with | .r x4_r2 x5_r2 => Q .ret [(4, .int .i64 x4_r2), (5, .int .i64 x5_r2), (6, .int .i64 x9_1), (7, .bool true)] [] 0 | .x2 => Q (.exit 2) [(0, .string a), (1, .bool b), (8, .int .i64 x8_1), (9, .int .i64 x9_1)] [] 0) → XL E0 49 0 fuel f46_L2 [(0, .string a), (1, .bool b), (8, .int .i64 x8_1), (9, .int .i64 x9_1), (10, .int .i64 x10_2), (11, .int .i64 x11_2)] [] 0 Q
  | 0, a, b, x8_1, x9_1, x10_2, x11_2, o, h, Q, hQ => by cases h
  | fuel + 1, a, b, x8_1, x9_1, x10_2, x11_2, o, h, Q, hQ => by
    unfold f46_2 at h
    refine XL.succ E0_ok ?_
    refine XQ.seq E0_ok (by kernel_rfl) ?_
    refine XQ.seq E0_ok (by kernel_rfl) ?_
    refine XQ.region (by kernel_rfl) ?_
    refine XR.run E0_ok 1 3 [0, 1, 8, 9, 10, 11, 28] rfl (σ' := [(0, .string a), (1, .bool b), (8, .int .i64 x8_1), (9, .int .i64 x9_1), (10, .int .i64 x10_2), (11, .int .i64 x11_2), (28, .bool (decide (x11_2 < x10_2)))]) (h' := []) (c' := 0) (by kernel_rfl) ?_
    refine XR.done (by kernel_rfl) ?_
    show XQ _ _ _ _ _ _ _ _
    cases b1 : (decide (x11_2 < x10_2) : Bool) with
    | true =>
      have h := cT b1 h
      refine XQ.cond (s := (.tmp 28)) (b := true) (by kernel_rfl) (by kernel_rfl) (fun _ => ?_) (fun q => by cases q)
      refine XQ.skip (by kernel_rfl) ?_
      show XQ _ _ _ _ _ _ _ _
      refine XQ.seq E0_ok (by kernel_rfl) ?_
      refine XQ.block (id := 3) (by kernel_rfl) ?_
      refine XQ.seq E0_ok (by kernel_rfl) ?_
      refine XQ.region (by kernel_rfl) ?_
      refine XR.run E0_ok 1 1 [0, 1, 8, 9, 10, 11, 12] rfl (σ' := [(0, .string a), (1, .bool b), (8, .int .i64 x8_1), (9, .int .i64 x9_1), (10, .int .i64 x10_2), (11, .int .i64 x11_2), (12, .int .i64 0)]) (h' := []) (c' := 0) (by kernel_rfl) ?_
      refine XR.done (by kernel_rfl) ?_
      show XQ _ _ _ _ _ _ _ _
      refine XQ.block (id := 4) (by kernel_rfl) ?_
      refine XQ.loop m (by kernel_rfl) ?_
      obtain ⟨o3, o3_h, h⟩ := bS h
      refine XL.ren (σ' := [(0, .string a), (1, .bool b), (8, .int .i64 x8_1), (9, .int .i64 x9_1), (10, .int .i64 x10_2), (11, .int .i64 x11_2), (12, .int .i64 0)]) (h' := []) (c' := 0) [] (by decide) rfl ⟨by kernel_rfl, by kernel_rfl, by kernel_rfl, by kernel_rfl, by kernel_rfl, by kernel_rfl, by kernel_rfl, trivial⟩ trivial rfl ?_
      cases o3 with
      | r x5_r3 =>
        dsimp only at h
        refine XL.conv (f46_3_ok m m a b x8_1 x9_1 x10_2 x11_2 0 (.r x5_r3) o3_h _ ?_) (by first | rfl | simp)
        cases h
        exact hQ
      | x4 =>
        dsimp only at h
        refine XL.conv (f46_3_ok m m a b x8_1 x9_1 x10_2 x11_2 0 (.x4) o3_h _ ?_) (by first | rfl | simp)
        show XQ _ _ _ _ _ _ _ _
        refine XQ.region (by kernel_rfl) ?_
        refine XR.run E0_ok 1 3 [0, 1, 8, 9, 10, 11] rfl (σ' := [(0, .string a), (1, .bool b), (8, .int .i64 x8_1), (9, .int .i64 x9_1), (10, .int .i64 x10_2), (11, .int .i64 (w64 (x11_2 + 1)))]) (h' := []) (c' := 0) (by kernel_rfl) ?_
        refine XR.done (by kernel_rfl) ?_
        show XL _ _ _ _ _ _ _ _ _
        refine XL.ren (σ' := [(0, .string a), (1, .bool b), (8, .int .i64 x8_1), (9, .int .i64 x9_1), (10, .int .i64 x10_2), (11, .int .i64 (w64 (x11_2 + 1)))]) (h' := []) (c' := 0) [] (by decide) rfl ⟨by kernel_rfl, by kernel_rfl, by kernel_rfl, by kernel_rfl, by kernel_rfl, by kernel_rfl, trivial⟩ trivial rfl ?_
        refine XL.conv (f46_2_ok m fuel a b x8_1 x9_1 x10_2 (w64 (x11_2 + 1)) o h Q hQ) (by first | rfl | simp)
    | false =>
      have h := cF b1 h
      refine XQ.cond (s := (.tmp 28)) (b := false) (by kernel_rfl) (by kernel_rfl) (fun q => by cases q) (fun _ => ?_)
      refine XQ.ren (σ' := [(0, .string a), (1, .bool b), (8, .int .i64 x8_1), (9, .int .i64 x9_1)]) (h' := []) (c' := 0) [] (by decide) rfl ⟨by kernel_rfl, by kernel_rfl, by kernel_rfl, by kernel_rfl, trivial⟩ trivial rfl ?_
      refine XQ.exit (i := 2) (by kernel_rfl) ?_
      cases h
      exact hQ

inductive Of46_1 where
  | r (x4_r1 : Int) (x5_r1 : Int) (x6_r1 : Int)
  | x0

def f46_1 (m : Nat) : Nat → ByteArray → Bool → Int → Int → Option Of46_1
  | 0, _, _, _, _ => none
  | fuel + 1, a, b, x8_1, x9_1 =>
    cond (decide (x9_1 ≤ x8_1)) (
      (f46_2 m m a b x8_1 x9_1 (cond (b) (w64 ((w64 (x8_1 - x9_1)) + 1)) x8_1) 0).bind fun o2 =>
        match o2 with
        | .r x4_r2 x5_r2 =>
          some (.r x4_r2 x5_r2 x9_1)
        | .x2 =>
          f46_1 m fuel a b x8_1 (w64 (x9_1 + 1))
    ) (
      some (.x0)
    )

theorem f46_1_ok (m : Nat) : ∀ (fuel : Nat) (a : ByteArray) (b : Bool) (x8_1 : Int) (x9_1 : Int) (o : Of46_1), f46_1 m fuel a b x8_1 x9_1 = some o → ∀ Q : QP, (match o with | .r x4_r1 x5_r1 x6_r1 => Q .ret [(4, .int .i64 x4_r1), (5, .int .i64 x5_r1), (6, .int .i64 x6_r1), (7, .bool true)] [] 0 | .x0 => Q (.exit 0) [] [] 0) → XL E0 49 0 fuel f46_L1 [(0, .string a), (1, .bool b), (8, .int .i64 x8_1), (9, .int .i64 x9_1)] [] 0 Q
  | 0, a, b, x8_1, x9_1, o, h, Q, hQ => by cases h
  | fuel + 1, a, b, x8_1, x9_1, o, h, Q, hQ => by
    unfold f46_1 at h
    refine XL.succ E0_ok ?_
    refine XQ.seq E0_ok (by kernel_rfl) ?_
    refine XQ.seq E0_ok (by kernel_rfl) ?_
    refine XQ.region (by kernel_rfl) ?_
    refine XR.run E0_ok 1 3 [0, 1, 8, 9, 17] rfl (σ' := [(0, .string a), (1, .bool b), (8, .int .i64 x8_1), (9, .int .i64 x9_1), (17, .bool (decide (x9_1 ≤ x8_1)))]) (h' := []) (c' := 0) (by kernel_rfl) ?_
    refine XR.done (by kernel_rfl) ?_
    show XQ _ _ _ _ _ _ _ _
    cases b1 : (decide (x9_1 ≤ x8_1) : Bool) with
    | true =>
      have h := cT b1 h
      refine XQ.cond (s := (.tmp 17)) (b := true) (by kernel_rfl) (by kernel_rfl) (fun _ => ?_) (fun q => by cases q)
      refine XQ.skip (by kernel_rfl) ?_
      show XQ _ _ _ _ _ _ _ _
      refine XQ.seq E0_ok (by kernel_rfl) ?_
      refine XQ.block (id := 1) (by kernel_rfl) ?_
      refine XQ.seq E0_ok (by kernel_rfl) ?_
      refine XQ.region (by kernel_rfl) ?_
      refine XR.run E0_ok 1 2 [0, 1, 8, 9, 10] rfl (σ' := [(0, .string a), (1, .bool b), (8, .int .i64 x8_1), (9, .int .i64 x9_1), (10, .int .i64 x8_1)]) (h' := []) (c' := 0) (by kernel_rfl) ?_
      refine XR.done (by kernel_rfl) ?_
      show XQ _ _ _ _ _ _ _ _
      refine XQ.seq E0_ok (by kernel_rfl) ?_
      refine XQ.seq E0_ok (by kernel_rfl) ?_
      refine XQ.region (by kernel_rfl) ?_
      refine XR.run E0_ok 1 1 [0, 1, 8, 9, 10, 21] rfl (σ' := [(0, .string a), (1, .bool b), (8, .int .i64 x8_1), (9, .int .i64 x9_1), (10, .int .i64 x8_1), (21, .bool b)]) (h' := []) (c' := 0) (by kernel_rfl) ?_
      refine XR.done (by kernel_rfl) ?_
      show XQ _ _ _ _ _ _ _ _
      refine XQ.meetC (σ' := [(0, .string a), (1, .bool b), (8, .int .i64 x8_1), (9, .int .i64 x9_1), (10, .int .i64 (cond (b) (w64 ((w64 (x8_1 - x9_1)) + 1)) x8_1))]) (h' := []) (c' := 0) ?_ ?_
      rotate_left
      · refine XQ.cond (s := (.tmp 21)) (b := b) (by kernel_rfl) (by kernel_rfl) (fun b2 => ?_) (fun b2 => ?_)
        · refine XQ.region (by kernel_rfl) ?_
          refine XR.run E0_ok 1 5 [0, 1, 8, 9, 10] rfl (σ' := [(0, .string a), (1, .bool b), (8, .int .i64 x8_1), (9, .int .i64 x9_1), (10, .int .i64 (w64 ((w64 (x8_1 - x9_1)) + 1)))]) (h' := []) (c' := 0) (by kernel_rfl) ?_
          refine XR.done (by kernel_rfl) ?_
          refine ⟨rfl, ?_, ?_⟩
          · try rw [b2]
            exact ⟨by kernel_rfl, by kernel_rfl, by kernel_rfl, by kernel_rfl, by kernel_rfl, trivial⟩
          · try rw [b2]
            kernel_rfl
        · refine XQ.skip (by kernel_rfl) ?_
          refine ⟨rfl, ?_, ?_⟩
          · try rw [b2]
            exact ⟨by kernel_rfl, by kernel_rfl, by kernel_rfl, by kernel_rfl, by kernel_rfl, trivial⟩
          · try rw [b2]
            kernel_rfl
      show XQ _ _ _ _ _ _ _ _
      refine XQ.seq E0_ok (by kernel_rfl) ?_
      refine XQ.region (by kernel_rfl) ?_
      refine XR.run E0_ok 1 1 [0, 1, 8, 9, 10, 11] rfl (σ' := [(0, .string a), (1, .bool b), (8, .int .i64 x8_1), (9, .int .i64 x9_1), (10, .int .i64 (cond (b) (w64 ((w64 (x8_1 - x9_1)) + 1)) x8_1)), (11, .int .i64 0)]) (h' := []) (c' := 0) (by kernel_rfl) ?_
      refine XR.done (by kernel_rfl) ?_
      show XQ _ _ _ _ _ _ _ _
      refine XQ.block (id := 2) (by kernel_rfl) ?_
      refine XQ.loop m (by kernel_rfl) ?_
      obtain ⟨o2, o2_h, h⟩ := bS h
      refine XL.ren (σ' := [(0, .string a), (1, .bool b), (8, .int .i64 x8_1), (9, .int .i64 x9_1), (10, .int .i64 (cond (b) (w64 ((w64 (x8_1 - x9_1)) + 1)) x8_1)), (11, .int .i64 0)]) (h' := []) (c' := 0) [] (by decide) rfl ⟨by kernel_rfl, by kernel_rfl, by kernel_rfl, by kernel_rfl, by kernel_rfl, by kernel_rfl, trivial⟩ trivial rfl ?_
      cases o2 with
      | r x4_r2 x5_r2 =>
        dsimp only at h
        refine XL.conv (f46_2_ok m m a b x8_1 x9_1 (cond (b) (w64 ((w64 (x8_1 - x9_1)) + 1)) x8_1) 0 (.r x4_r2 x5_r2) o2_h _ ?_) (by first | rfl | simp)
        cases h
        exact hQ
      | x2 =>
        dsimp only at h
        refine XL.conv (f46_2_ok m m a b x8_1 x9_1 (cond (b) (w64 ((w64 (x8_1 - x9_1)) + 1)) x8_1) 0 (.x2) o2_h _ ?_) (by first | rfl | simp)
        show XQ _ _ _ _ _ _ _ _
        refine XQ.region (by kernel_rfl) ?_
        refine XR.run E0_ok 1 3 [0, 1, 8, 9] rfl (σ' := [(0, .string a), (1, .bool b), (8, .int .i64 x8_1), (9, .int .i64 (w64 (x9_1 + 1)))]) (h' := []) (c' := 0) (by kernel_rfl) ?_
        refine XR.done (by kernel_rfl) ?_
        show XL _ _ _ _ _ _ _ _ _
        refine XL.ren (σ' := [(0, .string a), (1, .bool b), (8, .int .i64 x8_1), (9, .int .i64 (w64 (x9_1 + 1)))]) (h' := []) (c' := 0) [] (by decide) rfl ⟨by kernel_rfl, by kernel_rfl, by kernel_rfl, by kernel_rfl, trivial⟩ trivial rfl ?_
        refine XL.conv (f46_1_ok m fuel a b x8_1 (w64 (x9_1 + 1)) o h Q hQ) (by first | rfl | simp)
    | false =>
      have h := cF b1 h
      refine XQ.cond (s := (.tmp 17)) (b := false) (by kernel_rfl) (by kernel_rfl) (fun q => by cases q) (fun _ => ?_)
      refine XQ.ren (σ' := []) (h' := []) (c' := 0) [] (by decide) rfl trivial trivial rfl ?_
      refine XQ.exit (i := 0) (by kernel_rfl) ?_
      cases h
      exact hQ

def f46 (m : Nat) (a : ByteArray) (b : Bool) : Option (Int × Int × Int × Bool) :=
  (f46_1 m m a b ((a.size : Nat) : Int) 1).bind fun o1 =>
    match o1 with
    | .r x4_r1 x5_r1 x6_r1 =>
      some (x4_r1, x5_r1, x6_r1, true)
    | .x0 =>
      some (0, 0, 0, false)

theorem f46_ok (m : Nat) (a : ByteArray) (b : Bool) (o : Int × Int × Int × Bool) (h : f46 m a b = some o) (w : World) (hI : maxInv w) : Calls Proofs.Try.prog 46 #[.string a, .bool b] w fun e w' => e = .returned (.tuple #[.int .i64 o.1, .int .i64 o.2.1, .int .i64 o.2.2.1, .bool o.2.2.2]) ∧ Below w.heap.size w w' := by
  refine KC.calls (E := E0) (args := [.string a, .bool b]) (v := .tuple #[.int .i64 o.1, .int .i64 o.2.1, .int .i64 o.2.2.1, .bool o.2.2.2]) rfl rfl (KC.bodyN E0_ok (F := Proofs.Try.f46) (by kernel_rfl) (code := f46_C46) (by kernel_rfl) (nt := 49) (by kernel_rfl) (rs := [.tmp 4, .tmp 5, .tmp 6, .tmp 7]) (by kernel_rfl) (by kernel_rfl) (σ := [(0, .string a), (1, .bool b)]) (by kernel_rfl) ?_) w (maxInv_size hI) hI
  unfold f46 at h
  refine XQ.seq E0_ok (by kernel_rfl) ?_
  refine XQ.region (by kernel_rfl) ?_
  refine XR.run E0_ok 1 4 [0, 1] rfl (σ' := [(0, .string a), (1, .bool b)]) (h' := []) (c' := 0) (by kernel_rfl) ?_
  refine XR.done (by kernel_rfl) ?_
  show XQ _ _ _ _ _ _ _ _
  refine XQ.seq E0_ok (by kernel_rfl) ?_
  refine XQ.region (by kernel_rfl) ?_
  refine XR.run E0_ok 1 3 [0, 1, 8] rfl (σ' := [(0, .string a), (1, .bool b), (8, .int .i64 ((a.size : Nat) : Int))]) (h' := []) (c' := 0) (by kernel_rfl) ?_
  refine XR.done (by kernel_rfl) ?_
  show XQ _ _ _ _ _ _ _ _
  refine XQ.seq E0_ok (by kernel_rfl) ?_
  refine XQ.seq E0_ok (by kernel_rfl) ?_
  refine XQ.region (by kernel_rfl) ?_
  refine XR.run E0_ok 1 1 [0, 1, 8, 9] rfl (σ' := [(0, .string a), (1, .bool b), (8, .int .i64 ((a.size : Nat) : Int)), (9, .int .i64 1)]) (h' := []) (c' := 0) (by kernel_rfl) ?_
  refine XR.done (by kernel_rfl) ?_
  show XQ _ _ _ _ _ _ _ _
  refine XQ.block (id := 0) (by kernel_rfl) ?_
  refine XQ.loop m (by kernel_rfl) ?_
  obtain ⟨o1, o1_h, h⟩ := bS h
  refine XL.ren (σ' := [(0, .string a), (1, .bool b), (8, .int .i64 ((a.size : Nat) : Int)), (9, .int .i64 1)]) (h' := []) (c' := 0) [] (by decide) rfl ⟨by kernel_rfl, by kernel_rfl, by kernel_rfl, by kernel_rfl, trivial⟩ trivial rfl ?_
  cases o1 with
  | r x4_r1 x5_r1 x6_r1 =>
    dsimp only at h
    refine XL.conv (f46_1_ok m m a b ((a.size : Nat) : Int) 1 (.r x4_r1 x5_r1 x6_r1) o1_h _ ?_) (by first | rfl | simp)
    have h := Option.some.inj h
    subst h
    exact ⟨fun i q => (by cases q), .tuple #[.int .i64 x4_r1, .int .i64 x5_r1, .int .i64 x6_r1, .bool true], (by kernel_rfl), rfl⟩
  | x0 =>
    dsimp only at h
    refine XL.conv (f46_1_ok m m a b ((a.size : Nat) : Int) 1 (.x0) o1_h _ ?_) (by first | rfl | simp)
    show XQ _ _ _ _ _ _ _ _
    refine XQ.seq E0_ok (by kernel_rfl) ?_
    refine XQ.region (by kernel_rfl) ?_
    refine XR.run E0_ok 1 4 [4, 5, 6, 7] rfl (σ' := [(4, .int .i64 0), (5, .int .i64 0), (6, .int .i64 0), (7, .bool false)]) (h' := []) (c' := 0) (by kernel_rfl) ?_
    refine XR.done (by kernel_rfl) ?_
    show XQ _ _ _ _ _ _ _ _
    refine XQ.ret (by kernel_rfl) ?_
    have h := Option.some.inj h
    subst h
    exact ⟨fun i q => (by cases q), .tuple #[.int .i64 0, .int .i64 0, .int .i64 0, .bool false], (by kernel_rfl), rfl⟩

end Go.Xm
