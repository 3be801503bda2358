/- duty.opened, dock.Count and duty.Fewest at the arguments that the statements reach: functions in Lean, and their contracts. Conditions: the library's tables, and the primes, lie in their variables. -/
import Derived.Test.YtcpagojealaigaaGreatDoorFc
import Derived.Test.YtcpagojealaigaaGreatDoorMx
import Derived.Test.YtcpagojealaigaaGreatDoorNd
namespace Go.Xm
open Go.RowKit
set_option maxRecDepth 100000
set_option linter.unusedVariables false
set_option linter.unusedSimpArgs false

theorem op_all (b : Nat) (h1 : 2 ≤ b) (h2 : b ≤ 30) : opT b = true := by
  have : b = 2 ∨ b = 3 ∨ b = 4 ∨ b = 5 ∨ b = 6 ∨ b = 7 ∨ b = 8 ∨ b = 9 ∨ b = 10 ∨ b = 11 ∨ b = 12 ∨ b = 13 ∨ b = 14 ∨ b = 15 ∨ b = 16 ∨ b = 17 ∨ b = 18 ∨ b = 19 ∨ b = 20 ∨ b = 21 ∨ b = 22 ∨ b = 23 ∨ b = 24 ∨ b = 25 ∨ b = 26 ∨ b = 27 ∨ b = 28 ∨ b = 29 ∨ b = 30 := by omega
  rcases this with rfl | rfl | rfl | rfl | rfl | rfl | rfl | rfl | rfl | rfl | rfl | rfl | rfl | rfl | rfl | rfl | rfl | rfl | rfl | rfl | rfl | rfl | rfl | rfl | rfl | rfl | rfl | rfl | rfl
  · exact opT_2
  · exact opT_3
  · exact opT_4
  · exact opT_5
  · exact opT_6
  · exact opT_7
  · exact opT_8
  · exact opT_9
  · exact opT_10
  · exact opT_11
  · exact opT_12
  · exact opT_13
  · exact opT_14
  · exact opT_15
  · exact opT_16
  · exact opT_17
  · exact opT_18
  · exact opT_19
  · exact opT_20
  · exact opT_21
  · exact opT_22
  · exact opT_23
  · exact opT_24
  · exact opT_25
  · exact opT_26
  · exact opT_27
  · exact opT_28
  · exact opT_29
  · exact opT_30

theorem op_at (a b : Nat) (h0 : 0 < a) (h1 : a < b) (h2 : b ≤ 30) : opR a b = some (.tuple #[.agg #[.int .i64 (.ofNat (a / Nat.gcd a b)), .int .i64 (.ofNat (b / Nat.gcd a b))], .int .i64 0]) := by
  have h := List.all_eq_true.1 (op_all b (by omega) h2) (a - 1) (List.mem_range.2 (by omega))
  have e : a - 1 + 1 = a := by omega
  rw [e] at h
  exact opV_eq h

def f17 (m : Nat) (a b : Int) : Option (Int × Int × Int) :=
  match a, b with
  | .ofNat x, .ofNat y => cond (Nat.ble 1 x && (Nat.blt x y && Nat.ble y 30)) (some (.ofNat (x / Nat.gcd x y), .ofNat (y / Nat.gcd x y), 0)) none
  | _, _ => none

theorem f17_ok (m : Nat) (a b : Int) (o : Int × Int × Int) (h : f17 m a b = some o) (w : World) (hI : seatInv w) :
    Calls Proofs.Tryz.prog 17 #[.agg #[ii a, ii b]] w fun e w' => e = .returned (.tuple #[.agg #[ii o.1, ii o.2.1], ii o.2.2]) ∧ Below w.heap.size w w' := by
  unfold f17 at h
  split at h
  · rename_i x y
    cases hb : (Nat.ble 1 x && (Nat.blt x y && Nat.ble y 30)) with
    | false => rw [hb] at h; cases h
    | true =>
      rw [hb] at h
      have h := Option.some.inj h
      subst h
      simp only [Bool.and_eq_true, Nat.ble_eq, Nat.blt_eq] at hb
      have hr := op_at x y (by omega) hb.2.1 hb.2.2
      exact KC.calls (E := Ep) (args := [.agg #[ii (.ofNat x), ii (.ofNat y)]]) rfl rfl (KC.fast (KC.run (fastEnv_ok Ep_ok) (n := 100000) (F := Proofs.Tryz.f17) (by kernel_rfl) hr)) w (seatInv_size hI) hI
  · cases h

/-! ### dock.Count -/
noncomputable def cntR (a b : Nat) : Option Value := callH (fastEnv Ep) 100000 12 [.int .i64 (.ofNat a), .int .i64 (.ofNat b)] [] 0

def cntV (r : Option Value) (x : Nat) : Bool :=
  match r with
  | some (.tuple t) => match t.toList with
    | [.int .i64 (.ofNat p), .int .i64 (.ofNat 0)] => Nat.beq p x
    | _ => false
  | _ => false

theorem cntV_eq {r : Option Value} {x : Nat} (h : cntV r x = true) : r = some (.tuple #[.int .i64 (.ofNat x), .int .i64 0]) := by
  unfold cntV at h
  split at h
  · rename_i t
    split at h
    · rename_i p e
      have e3 : t = #[.int .i64 (.ofNat p), .int .i64 (.ofNat 0)] := Array.ext' e
      rw [e3, Nat.eq_of_beq_eq_true h]
      rfl
    · cases h
  · cases h

theorem cnt2 : cntV (cntR 2 2) 3 = true := by kernel_rfl
theorem cnt3 : cntV (cntR 3 3) 16 = true := by kernel_rfl

def f12 (m : Nat) (a b : Int) : Option (Int × Int) := cond (a == 2 && b == 2) (some (3, 0)) (cond (a == 3 && b == 3) (some (16, 0)) none)

theorem f12_ok (m : Nat) (a b : Int) (o : Int × Int) (h : f12 m a b = some o) (w : World) (hI : seatInv w) :
    Calls Proofs.Tryz.prog 12 #[ii a, ii b] w fun e w' => e = .returned (.tuple #[ii o.1, ii o.2]) ∧ Below w.heap.size w w' := by
  unfold f12 at h
  cases h1 : (a == 2 && b == 2) with
  | true =>
    rw [h1] at h
    have h := Option.some.inj h
    subst h
    simp only [Bool.and_eq_true, beq_iff_eq] at h1
    obtain ⟨rfl, rfl⟩ := h1
    exact KC.calls (E := Ep) (args := [ii 2, ii 2]) rfl rfl (KC.fast (KC.run (fastEnv_ok Ep_ok) (n := 100000) (F := Proofs.Tryz.f12) (by kernel_rfl) (cntV_eq cnt2))) w (seatInv_size hI) hI
  | false =>
    rw [h1] at h
    cases h2 : (a == 3 && b == 3) with
    | false => rw [h2] at h; cases h
    | true =>
      rw [h2] at h
      have h := Option.some.inj h
      subst h
      simp only [Bool.and_eq_true, beq_iff_eq] at h2
      obtain ⟨rfl, rfl⟩ := h2
      exact KC.calls (E := Ep) (args := [ii 3, ii 3]) rfl rfl (KC.fast (KC.run (fastEnv_ok Ep_ok) (n := 100000) (F := Proofs.Tryz.f12) (by kernel_rfl) (cntV_eq cnt3))) w (seatInv_size hI) hI

/-! ### duty.Fewest -/
def natsB : List Value → List Nat → Bool
  | [], [] => true
  | .int .i64 (.ofNat n) :: l, k :: m => Nat.beq n k && natsB l m
  | _, _ => false

theorem natsB_eq : ∀ {cs : List Value} {l : List Nat}, natsB cs l = true → cs = rowC (encI .i64) (l.map Int.ofNat)
  | [], [], _ => rfl
  | [], _ :: _, h => by cases h
  | v :: cs, l, h => by
    unfold natsB at h
    split at h
    · rename_i e; cases e
    · rename_i n l' k m e
      cases e
      simp only [Bool.and_eq_true] at h
      rw [natsB_eq h.2, Nat.eq_of_beq_eq_true h.1]
      rfl
    · cases h

/-- A list of ints, and no error. -/
noncomputable def rowB (r : Option (Value × Heap × Nat)) (xs : List Nat) : Bool :=
  match r with
  | some (.tuple t, h, _) => match t.toList with
    | [.slice (some ⟨i, 0, none⟩) l k, .int .i64 (.ofNat 0)] => match hget h i with
      | some (.cells cs 0 e 1) => Nat.beq l xs.length && (Nat.beq k xs.length && (Nat.beq e 3 && natsB cs xs))
      | _ => false
    | _ => false
  | _ => false

theorem KC.rowR {E : Env} (hE : E.Ok) {K n : Nat} {F : Func} (hF : E.fn K = some F) {args : List Value} {xs : List Nat} (hx : rowB (callF E (exec E n) K args [] 0) xs = true) :
    KC E K args [] 0 (fun v h' c' => v = .tuple #[s0 0 (xs.map Int.ofNat).length, ii 0] ∧ h' = [(0, rc (encI .i64) (xs.map Int.ofNat) 0 3 1)] ∧ c' = 1) := by
  unfold rowB at hx
  split at hx
  · rename_i t h c hr
    split at hx
    · rename_i i l k e
      split at hx
      · rename_i cs e0 hg
        simp only [Bool.and_eq_true] at hx
        obtain ⟨x1, x2, x3, x4⟩ := hx
        have x1 := Nat.eq_of_beq_eq_true x1
        have x2 := Nat.eq_of_beq_eq_true x2
        have x3 := Nat.eq_of_beq_eq_true x3
        have x4 := natsB_eq x4
        subst x1; subst x2; subst x3; subst x4
        have et : t = #[.slice (some ⟨i, 0, none⟩) xs.length xs.length, .int .i64 (.ofNat 0)] := Array.ext' e
        subst et
        refine KC.renO ?_
        intro B ρ w args' h1 h2 h3 h4 h5 h6
        obtain ⟨f1, f2, f3⟩ := hE.fn K F hF
        rcases callF_ok hE (exec_ok hE n).1 K args [] 0 _ _ _ hr B ρ w args' h1 h2 h3 h4 h5 h6 with ⟨v', q, _⟩ | ⟨q1, q2⟩
        · rw [run_callFunc_go f1 f2 f3 _ w] at q
          cases q
        · refine ⟨q1, q2.mono ?_⟩
          rintro e w' ⟨v', ρ', rfl, p1, p2, p3, p4, p5⟩
          refine ⟨_, v', ρ', _, _, rfl, p1, p2, p3, p4, p5, [i], .tuple #[s0 0 xs.length, ii 0], [(0, rc (encI .i64) (xs.map Int.ofNat) 0 3 1)], by simp, rfl, ?_, ⟨⟨i, _, rfl, hg, .inl ⟨rfl, rowC_scal (encI_ok .i64) _⟩⟩, trivial⟩, by rw [List.length_map], rfl, rfl⟩
          rfl
      · cases hx
    · cases hx
  · cases hx

theorem few1 : rowB (callF (fastEnv Ep) (exec (fastEnv Ep) 100000) 13 [.agg #[ii 3, ii 4]] [] 0) [2, 4] = true := by kernel_rfl
theorem few2 : rowB (callF (fastEnv Ep) (exec (fastEnv Ep) 100000) 13 [.agg #[ii 16, ii 27]] [] 0) [2, 11, 594] = true := by kernel_rfl

def f13 (m : Nat) (a b : Int) : Option (List Int × Int) := cond (a == 3 && b == 4) (some ([2, 4], 0)) (cond (a == 16 && b == 27) (some ([2, 11, 594], 0)) none)

theorem f13_ok (m : Nat) (a b : Int) (o : List Int × Int) (h : f13 m a b = some o) : KC Ep 13 [.agg #[ii a, ii b]] [] 0 (fun v h' c' => v = .tuple #[s0 0 o.1.length, ii o.2] ∧ h' = [(0, rc (encI .i64) o.1 0 3 1)] ∧ c' = 1) := by
  unfold f13 at h
  cases h1 : (a == 3 && b == 4) with
  | true =>
    rw [h1] at h
    have h := Option.some.inj h
    subst h
    simp only [Bool.and_eq_true, beq_iff_eq] at h1
    obtain ⟨rfl, rfl⟩ := h1
    exact KC.fast (KC.rowR (fastEnv_ok Ep_ok) (F := Proofs.Tryz.f13) (by kernel_rfl) few1)
  | false =>
    rw [h1] at h
    cases h2 : (a == 16 && b == 27) with
    | false => rw [h2] at h; cases h
    | true =>
      rw [h2] at h
      have h := Option.some.inj h
      subst h
      simp only [Bool.and_eq_true, beq_iff_eq] at h2
      obtain ⟨rfl, rfl⟩ := h2
      exact KC.fast (KC.rowR (fastEnv_ok Ep_ok) (F := Proofs.Tryz.f13) (by kernel_rfl) few2)

end Go.Xm
