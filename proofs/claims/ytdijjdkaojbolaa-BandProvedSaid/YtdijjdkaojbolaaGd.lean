/- BandProved: all parts are asked; the first two that differ are those that are returned. Conditions: none. -/
import Derived.Test.YtdijjdkaojbolaaG5
import Derived.Test.YtdijjdkaojbolaaGc
import Derived.Test.YtdijjdkaojbolaaDr
namespace Go.Xm
set_option linter.unusedVariables false
set_option linter.unusedSimpArgs false

/-- The first parts that were found, as the statement keeps them. -/
def keepX (o : Option (Nat × Nat × Nat)) : Int := match o with | some (l, x, y) => (x : Int) | none => -1
def keepY (o : Option (Nat × Nat × Nat)) : Int := match o with | some (l, x, y) => (y : Int) | none => 0
def keepL (o : Option (Nat × Nat × Nat)) : Int := match o with | some (l, x, y) => (l : Int) | none => 0

theorem keep_none : keepX none = -1 ∧ keepY none = 0 ∧ keepL none = 0 := ⟨rfl, rfl, rfl⟩

theorem keep_dec (o : Option (Nat × Nat × Nat)) : decide (keepX o < 0) = o.isNone := by
  cases o with
  | none => rfl
  | some v =>
    obtain ⟨l, x, y⟩ := v
    have : ¬ ((x : Int) < 0) := by omega
    exact decide_eq_false this

theorem keep_upd (o : Option (Nat × Nat × Nat)) (l x y : Nat) :
    cond (decide (keepX o < 0)) (x : Int) (keepX o) = keepX (o.or (some (l, x, y))) ∧ cond (decide (keepX o < 0)) (y : Int) (keepY o) = keepY (o.or (some (l, x, y))) ∧ cond (decide (keepX o < 0)) (l : Int) (keepL o) = keepL (o.or (some (l, x, y))) := by
  rw [keep_dec]
  cases o with
  | none => exact ⟨rfl, rfl, rfl⟩
  | some v => exact ⟨rfl, rfl, rfl⟩

theorem f8_3_eq (m : Nat) {a : ByteArray} (hc : chk a = 0) (l x : Nat) (hl : 1 ≤ l ∧ l ≤ a.size) (hx : x < a.size) (hm : 100 < m) : ∀ (k y fuel : Nat) (o : Option (Nat × Nat × Nat)), y + k = a.size → k < fuel →
    f8_3 m fuel a.size a (catS a a) l x (keepX o) (keepY o) (keepL o) y =
      some (.x4 (keepX (o.or ((fnd (fun y => decide (prt a l x ≥ prt a l y + 2)) k y).map fun y => (l, x, y)))) (keepY (o.or ((fnd (fun y => decide (prt a l x ≥ prt a l y + 2)) k y).map fun y => (l, x, y)))) (keepL (o.or ((fnd (fun y => decide (prt a l x ≥ prt a l y + 2)) k y).map fun y => (l, x, y)))))
  | 0, y, fuel + 1, o, h1, _ => by
    have : ¬ ((y : Int) < (a.size : Int)) := by omega
    simp only [f8_3, decide_eq_false this, cond_false, fnd, Option.map_none, Option.or_none]
  | k + 1, y, fuel + 1, o, h1, h2 => by
    obtain ⟨hn, hs, _⟩ := chk_ok hc
    have q1 : ((y : Int) < (a.size : Int)) := by omega
    obtain ⟨p1, p2⟩ := count_part hn l x (by omega) (by omega)
    obtain ⟨p3, p4⟩ := count_part hn l y (by omega) (by omega)
    have r := f17_eq m a x y l hm (by omega)
    have q6 : w64 ((y : Int) + 1) = ((y + 1 : Nat) : Int) := by rw [w64_id (by omega) (by omega)]; rfl
    have a1 := prt_range a l x
    have a2 := prt_range a l y
    have q7 : w64 (prt a l x - prt a l y) = prt a l x - prt a l y := w64_id (by omega) (by omega)
    have hp : prw a x y l = if prt a l x < prt a l y + 2 then 14 else 0 := by
      unfold prw
      rw [if_pos hc, if_pos ⟨by omega, by omega, by omega, by omega⟩, if_pos ⟨by omega, by omega⟩]
      simp only [Int.toNat_natCast]
    obtain ⟨u1, u2, u3⟩ := keep_upd o l x y
    simp only [f8_3, decide_eq_true q1, p1, p2, p3, p4, r, q6, q7, cond_true, Option.bind_some, hp, fnd]
    by_cases hh : prt a l x < prt a l y + 2
    · have d1 : decide (prt a l x - prt a l y ≥ 2) = false := decide_eq_false (by omega)
      have d2 : decide (prt a l x ≥ prt a l y + 2) = false := decide_eq_false (by omega)
      have b1 : ((14 : Int) == 0) = false := rfl
      have b2 : ((14 : Int) != 14) = false := rfl
      rw [if_pos hh, d1, d2, b1, b2]
      simp only [Bool.not_false, cond_true, cond_false, beq_self_eq_true, Bool.not_true]
      exact f8_3_eq m hc l x hl hx hm k (y + 1) fuel o (by omega) (by omega)
    · have d1 : decide (prt a l x - prt a l y ≥ 2) = true := decide_eq_true (by omega)
      have d2 : decide (prt a l x ≥ prt a l y + 2) = true := decide_eq_true (by omega)
      rw [if_neg hh, d1, d2]
      simp only [Bool.not_false, cond_true, cond_false, beq_self_eq_true, Bool.not_true, u1, u2, u3, Option.map_some]
      have ih := f8_3_eq m hc l x hl hx hm k (y + 1) fuel (o.or (some (l, x, y))) (by omega) (by omega)
      rw [ih]
      have e : ∀ z, (o.or (some (l, x, y))).or z = o.or (some (l, x, y)) := by
        intro z
        cases o <;> rfl
      rw [e]
  | _, _, 0, _, _, h => by omega

theorem f8_2_eq (m : Nat) {a : ByteArray} (hc : chk a = 0) (l : Nat) (hl : 1 ≤ l ∧ l ≤ a.size) (hm : 100 < m) : ∀ (k x fuel : Nat) (o : Option (Nat × Nat × Nat)), x + k = a.size → k < fuel →
    f8_2 m fuel a.size a (catS a a) l (keepX o) (keepY o) (keepL o) x =
      some (.x2 (keepX (o.or ((fndM (fun x => fnd (fun y => decide (prt a l x ≥ prt a l y + 2)) a.size 0) k x).map fun v => (l, v)))) (keepY (o.or ((fndM (fun x => fnd (fun y => decide (prt a l x ≥ prt a l y + 2)) a.size 0) k x).map fun v => (l, v)))) (keepL (o.or ((fndM (fun x => fnd (fun y => decide (prt a l x ≥ prt a l y + 2)) a.size 0) k x).map fun v => (l, v)))))
  | 0, x, fuel + 1, o, h1, _ => by
    have : ¬ ((x : Int) < (a.size : Int)) := by omega
    simp only [f8_2, decide_eq_false this, cond_false, fndM, Option.map_none, Option.or_none]
  | k + 1, x, fuel + 1, o, h1, h2 => by
    obtain ⟨hn, hs, _⟩ := chk_ok hc
    have q1 : ((x : Int) < (a.size : Int)) := by omega
    have q6 : w64 ((x : Int) + 1) = ((x + 1 : Nat) : Int) := by rw [w64_id (by omega) (by omega)]; rfl
    have r := f8_3_eq m hc l x hl (by omega) hm a.size 0 m o (by omega) (by omega)
    have e0 : ((0 : Nat) : Int) = 0 := rfl
    rw [e0] at r
    simp only [f8_2, decide_eq_true q1, r, q6, cond_true, Option.bind_some, fndM]
    rw [f8_2_eq m hc l hl hm k (x + 1) fuel _ (by omega) (by omega)]
    cases fnd (fun y => decide (prt a l x ≥ prt a l y + 2)) a.size 0 with
    | none => simp only [Option.map_none, Option.or_none]
    | some y =>
      simp only [Option.map_some]
      have e : ∀ z, (o.or (some (l, x, y))).or z = o.or (some (l, x, y)) := by
        intro z
        cases o <;> rfl
      rw [e]
  | _, _, 0, _, _, h => by omega

theorem f8_1_eq (m : Nat) {a : ByteArray} (hc : chk a = 0) (hm : 100 < m) : ∀ (k l fuel : Nat) (o : Option (Nat × Nat × Nat)), 1 ≤ l → l + k = a.size + 1 → k < fuel →
    f8_1 m fuel a.size a (catS a a) (keepX o) (keepY o) (keepL o) l =
      some (.x0 a (keepX (o.or (fndM (fun l => two a (begs a false l) l) k l))) (keepY (o.or (fndM (fun l => two a (begs a false l) l) k l))) (keepL (o.or (fndM (fun l => two a (begs a false l) l) k l))))
  | 0, l, fuel + 1, o, h0, h1, _ => by
    have : ¬ ((l : Int) ≤ (a.size : Int)) := by omega
    simp only [f8_1, decide_eq_false this, cond_false, fndM, Option.or_none]
  | k + 1, l, fuel + 1, o, h0, h1, h2 => by
    obtain ⟨hn, hs, _⟩ := chk_ok hc
    have q1 : ((l : Int) ≤ (a.size : Int)) := by omega
    have q6 : w64 ((l : Int) + 1) = ((l + 1 : Nat) : Int) := by rw [w64_id (by omega) (by omega)]; rfl
    have r := f8_2_eq m hc l ⟨h0, by omega⟩ hm a.size 0 m o (by omega) (by omega)
    have e0 : ((0 : Nat) : Int) = 0 := rfl
    have eb : begs a false l = a.size := rfl
    have et : two a a.size l = fndM (fun x => fnd (fun y => decide (prt a l x ≥ prt a l y + 2)) a.size 0) a.size 0 := rfl
    rw [e0, ← et] at r
    simp only [f8_1, decide_eq_true q1, r, q6, cond_true, Option.bind_some, fndM, eb]
    rw [f8_1_eq m hc hm k (l + 1) fuel _ (by omega) (by omega) (by omega)]
    cases two a a.size l with
    | none => simp only [Option.map_none, Option.or_none]
    | some y =>
      simp only [Option.map_some]
      have e : ∀ z, (o.or (some (l, y))).or z = o.or (some (l, y)) := by
        intro z
        cases o <;> rfl
      rw [e]
  | _, _, 0, _, _, _, h => by omega

theorem f8_word (m : Nat) {a : ByteArray} (hc : chk a = 0) (hm : 100 < m) (g : Option Bool) (hg : g = cond (Nat.ble (a.size + a.size) 9223372036854775807) (
      (f8_1 m m a.size a (catS a a) (-1) 0 0 1).bind fun o1 =>
        match o1 with
        | .r => some (false)
        | .x0 s6_x01 x8_x01 x9_x01 x10_x01 =>
          (f15 m s6_x01).bind fun r30 =>
            cond (decide (x8_x01 < 0)) (
              cond (r30.2.2.2 == 13) (cond (r30.1 == 0) (cond (r30.2.1 == 0) (cond (r30.2.2.1 == 0) ((f39 m s6_x01).bind fun r32 => cond (r32) (some (true)) (some (false))) (some (false))) (some (false))) (some (false))) (some (false))
            ) (
              cond (r30.2.2.2 == 0) (cond (r30.1 == x8_x01) (cond (r30.2.1 == x9_x01) (cond (r30.2.2.1 == x10_x01) ((f39 m s6_x01).bind fun r33 => cond (!r33) (some (true)) (some (false))) (some (false))) (some (false))) (some (false))) (some (false))
            )
    ) none) : g = some true := by
  obtain ⟨hn, hs, _⟩ := chk_ok hc
  have r := f8_1_eq m hc hm a.size 1 m none (by omega) (by omega) (by omega)
  have e1 : ((1 : Nat) : Int) = 1 := rfl
  have ea : fndM (fun l => two a (begs a false l) l) a.size 1 = agn a false := rfl
  rw [e1, keep_none.1, keep_none.2.1, keep_none.2.2, Option.none_or, ea] at r
  rw [hg, dbl_ok hs, r]
  simp only [cond_true, Option.bind_some, f15_eq m a hm (by omega), f39_eq m hn hs hm, keep_dec]
  unfold agw
  rw [if_pos hc]
  cases agn a false with
  | none => rfl
  | some v =>
    obtain ⟨l, x, y⟩ := v
    simp only [Option.isNone_some, cond_false, keepX, keepY, keepL, beq_self_eq_true, cond_true, Bool.not_false]

theorem f8_eq (a : Nat) (b : Int) (ha : a < 256) : f8 101 a b = some true := by
  have h64 : ∀ x : Int, 0 ≤ x → x ≤ 1000 → w64 x = x := fun x h1 h2 => w64_id (by omega) (by omega)
  have hm : a % 12 < 12 := Nat.mod_lt _ (by omega)
  have t1 : Int.tmod (a : Int) 12 = ((a % 12 : Nat) : Int) := rfl
  have eN : w64 (1 + Int.tmod (w64 (a : Int)) 12) = ((a % 12 + 1 : Nat) : Int) := by
    rw [h64 (a : Int) (by omega) (by omega), t1, h64 _ (by omega) (by omega)]
    omega
  have hs := spl_size (a % 12 + 1) b
  have hc := spl_chk (a % 12 + 1) b (by omega) (by omega)
  unfold f8
  rw [eN, f37_eq 101 _ b (by omega) (by omega)]
  simp only [Option.bind_some]
  have eS : ((a % 12 + 1 : Nat) : Int) = (((spl (a % 12 + 1) b).size : Nat) : Int) := by rw [hs]
  rw [eS]
  exact f8_word 101 hc (by omega) _ rfl

end Go.Xm

namespace Go.Proofs.Ytdijjdkaojbolaa.bandProved
open Go.Xm Go.RowKit
set_option linter.unusedVariables false

theorem walk (a0 : Int) (a1 : Int) (w : World) (hI : ∃ m, w.cell? ⟨0, 0, none⟩ = some (.int .i64 m)) (w0 : (Lit.int .u8 a0).wf = true) (w1 : (Lit.int .u16 a1).wf = true) :
    Calls Try.prog 8 #[.int .u8 a0, .int .u16 a1] w fun e w' => e = .returned (.bool true) ∧ Below w.heap.size w w' := by
  have h0 : 0 ≤ a0 ∧ a0 ≤ 255 := by simpa [Lit.wf, IntKind.min, IntKind.max, IntKind.signed, IntKind.bits] using w0
  obtain ⟨a, rfl⟩ : ∃ k : Nat, a0 = k := ⟨a0.toNat, by omega⟩
  exact f8_ok 101 a a1 true (f8_eq a a1 (by omega)) w hI

end Go.Proofs.Ytdijjdkaojbolaa.bandProved
