/- HeapHall: the function is always true; the walk. Conditions: none. -/
import Derived.Test.YtfdeihnkoaihfaaHd
import Derived.Test.YtfdeihnkoaihfaaHe
import Derived.Test.YtfdeihnkoaihfaaCe
import Derived.Test.YtfdeihnkoaihfaaAq
namespace Go.Xm
set_option linter.unusedVariables false
set_option linter.unusedSimpArgs false
set_option maxRecDepth 20000

theorem f20_1_eq (m : Nat) (l : List Int) (h10 : l.length ≤ 1000) : ∀ (r i fuel : Nat), i + r = l.length → r < fuel → f20_1 m fuel l l (i : Int) = some .x0
  | 0, i, fuel + 1, hr, hf => by
    rw [f20_1, dcF (p := (i : Int) < ((l.length : Nat) : Int)) (by omega)]
    rfl
  | r + 1, i, fuel + 1, hr, hf => by
    have hi : i < l.length := by omega
    rw [f20_1, dcT (p := (i : Int) < ((l.length : Nat) : Int)) (by omega), inR hi, nat_succ i (by omega)]
    have : (List.getD l (Int.toNat (i : Int)) 0 != List.getD l (Int.toNat (i : Int)) 0) = false := by simp
    rw [this]
    exact f20_1_eq m l h10 r (i + 1) fuel (by omega) (by omega)

theorem f20_same (m : Nat) (hm : 1001 ≤ m) (l : List Int) (hl : l.length ≤ 1000) : f20 m l l = some true := by
  unfold f20
  have : ((((l.length : Nat) : Int)) != ((l.length : Nat) : Int)) = false := by simp
  rw [this]
  show (f20_1 m m l l ((0 : Nat) : Int)).bind _ = _
  rw [f20_1_eq m l hl l.length 0 m (by omega) (by omega)]
  rfl

theorem f7_3_eq (m : Nat) (k : Int) (b12 : Bool) (f : Int) (l : List Hp) (hl : l.length ≤ 1000) (p : List Int) (b13 : Bool) (x14 x15 t : Int) : ∀ (r i fuel n : Nat), i + r = l.length → r < fuel → n ≤ i → f7_3 m fuel k b12 f l p b13 x14 x15 t (n : Int) ((l.length : Nat) : Int) (i : Int) = some (((n + crw (l.drop i) f t : Nat) : Int))
  | 0, i, fuel + 1, n, hr, hf, hn => by
    rw [f7_3, dcF (p := (i : Int) < ((l.length : Nat) : Int)) (by omega), List.drop_eq_nil_of_le (by omega)]
    rfl
  | r + 1, i, fuel + 1, n, hr, hf, hn => by
    have hi : i < l.length := by omega
    rw [f7_3, dcT (p := (i : Int) < ((l.length : Nat) : Int)) (by omega), inR hi, getDi l hi, nat_succ i (by omega), nat_succ n (by omega), List.drop_eq_getElem_cons hi, crw_cons]
    by_cases e1 : (l[i]).1 ≥ f
    · rw [dcT e1]
      by_cases e2 : (l[i]).2 ≤ t
      · rw [dcT e2, if_pos ⟨e1, e2⟩]
        show f7_3 m fuel k b12 f l p b13 x14 x15 t ((n + 1 : Nat) : Int) ((l.length : Nat) : Int) ((i + 1 : Nat) : Int) = _
        rw [f7_3_eq m k b12 f l hl p b13 x14 x15 t r (i + 1) fuel (n + 1) (by omega) (by omega) (by omega)]
        congr 2; omega
      · rw [dcF e2, if_neg (fun q => e2 q.2)]
        exact f7_3_eq m k b12 f l hl p b13 x14 x15 t r (i + 1) fuel n (by omega) (by omega) (by omega)
    · rw [dcF e1, if_neg (fun q => e1 q.1)]
      exact f7_3_eq m k b12 f l hl p b13 x14 x15 t r (i + 1) fuel n (by omega) (by omega) (by omega)

def sc2 (b13 : Bool) (x14 x15 f : Int) (o : Option Int) : Of7_2 := match b13, o with
  | true, _ => .x2 true x14 x15
  | false, some u => .x2 true f u
  | false, none => .x2 false x14 x15

theorem f7_2_eq (m : Nat) (hm : 1001 ≤ m) (k : Int) (hk : 0 ≤ k ∧ k ≤ 1000) (b12 : Bool) (f : Int) (hf0 : 0 ≤ f) (l : List Hp) (ho : OkL l) (h10 : l.length ≤ 10) (p : List Int) : ∀ (d fuel : Nat) (b13 : Bool) (x14 x15 t : Int), f ≤ t → t + d = 24 → d < fuel →
    f7_2 m fuel k b12 f l p b13 x14 x15 t = some (sc2 b13 x14 x15 f (whyT k l f d t))
  | 0, fuel + 1, b13, x14, x15, t, h1, h2, hf => by
    rw [f7_2, dcF (p := t ≤ 23) (by omega)]
    cases b13 <;> rfl
  | d + 1, fuel + 1, b13, x14, x15, t, h1, h2, hf => by
    have q3 := f7_3_eq m k b12 f l (by omega) p b13 x14 x15 t l.length 0 m 0 (by omega) (by omega) (by omega)
    rw [List.drop_zero, Nat.zero_add] at q3
    have q3 : f7_3 m m k b12 f l p b13 x14 x15 t 0 ((l.length : Nat) : Int) 0 = some ((crw l f t : Nat) : Int) := q3
    have z0 : ((0 : Int) != 0) = false := rfl
    have z1 : (((crw l f t : Nat) : Int) != ((crw l f t : Nat) : Int)) = false := by simp
    rw [f7_2, dcT (p := t ≤ 23) (by omega), q3, crd_w hk.1 hk.2 hf0 h1 (by omega), w64i (x := t + 1) (by omega) (by omega)]
    simp only [cond_true, Option.bind_some, f25_ok1 m hm l ho h10 f t hf0 h1 (by omega), z0, z1, cond_false]
    have ih := fun b x y => f7_2_eq m hm k hk b12 f hf0 l ho h10 p d fuel b x y (t + 1) (by omega) (by omega) (by omega)
    unfold whyT
    by_cases e : Crd k l f t
    · rw [if_pos e]
      have e' : ((crw l f t : Nat) : Int) > k * (t - f + 1) := e
      rw [dcT e']
      cases b13 with
      | true =>
        show f7_2 m fuel k b12 f l p true x14 x15 (t + 1) = _
        rw [ih]; rfl
      | false =>
        show f7_2 m fuel k b12 f l p true f t (t + 1) = _
        rw [ih]; rfl
    · rw [if_neg e]
      have e' : ¬ ((crw l f t : Nat) : Int) > k * (t - f + 1) := e
      rw [dcF e']
      exact ih b13 x14 x15

def sc1 (b13 : Bool) (x14 x15 : Int) (o : Option (Int × Int)) : Bool × Int × Int := match b13, o with
  | true, _ => (true, x14, x15)
  | false, some u => (true, u.1, u.2)
  | false, none => (false, x14, x15)

theorem f7_1_eq (m : Nat) (hm : 1001 ≤ m) (k : Int) (hk : 0 ≤ k ∧ k ≤ 1000) (b12 : Bool) (l : List Hp) (ho : OkL l) (h10 : l.length ≤ 10) (p : List Int) : ∀ (d fuel : Nat) (b13 : Bool) (x14 x15 f : Int), 0 ≤ f → f + d = 24 → d < fuel →
    f7_1 m fuel k b12 b13 x14 x15 f l p = some (.x0 k b12 (sc1 b13 x14 x15 (whyF k l d f)).1 (sc1 b13 x14 x15 (whyF k l d f)).2.1 (sc1 b13 x14 x15 (whyF k l d f)).2.2 l p)
  | 0, fuel + 1, b13, x14, x15, f, h1, h2, hf => by
    rw [f7_1, dcF (p := f ≤ 23) (by omega)]
    cases b13 <;> rfl
  | d + 1, fuel + 1, b13, x14, x15, f, h1, h2, hf => by
    rw [f7_1, dcT (p := f ≤ 23) (by omega), f7_2_eq m hm k hk b12 f h1 l ho h10 p (d + 1) m b13 x14 x15 f (Int.le_refl _) (by omega) (by omega), w64i (x := f + 1) (by omega) (by omega)]
    have ih := fun b x y => f7_1_eq m hm k hk b12 l ho h10 p d fuel b x y (f + 1) (by omega) (by omega) (by omega)
    simp only [cond_true, Option.bind_some]
    have hw : whyF k l (d + 1) f = (match whyT k l f (d + 1) f with | some t => some (f, t) | none => whyF k l d (f + 1)) := rfl
    rw [hw]
    cases b13 with
    | true =>
      show f7_1 m fuel k b12 true x14 x15 (f + 1) l p = _
      rw [ih]; rfl
    | false =>
      cases whyT k l f (d + 1) f with
      | none =>
        show f7_1 m fuel k b12 false x14 x15 (f + 1) l p = _
        rw [ih]
      | some u =>
        show f7_1 m fuel k b12 true f u (f + 1) l p = _
        rw [ih]; rfl

theorem f7_true (m : Nat) (hm : 1001 ≤ m) (a0 b0 a1 b1 a2 b2 a3 b3 a4 b4 a5 b5 a6 b6 a7 b7 b c d : Int) (hy : bytesP [(a0, b0), (a1, b1), (a2, b2), (a3, b3), (a4, b4), (a5, b5), (a6, b6), (a7, b7)]) (hb : 0 ≤ b ∧ b ≤ 255) (hc : 0 ≤ c ∧ c ≤ 255) (hd : 0 ≤ d ∧ d ≤ 255) :
    f7 m a0 b0 a1 b1 a2 b2 a3 b3 a4 b4 a5 b5 a6 b6 a7 b7 b c d = some true := by
  unfold f7
  have he1 : 0 ≤ d % 17 := by omega
  have he2 : d % 17 ≤ 16 := by omega
  rw [w64i (x := b) (by omega) (by omega), w64i (x := c) (by omega) (by omega), w64i (x := d) (by omega) (by omega), tme hd.1, tme hc.1, w64i (x := 1 + c % 4) (by omega) (by omega), f41_eq m (by omega) _ _ _ _ _ _ _ _ _ _ _ _ _ _ _ _ _ _ _ _ hy ⟨by omega, by omega⟩ ⟨by omega, by omega⟩ ⟨by omega, by omega⟩ ⟨by omega, by omega⟩]
  have h8 := heapsOf_len [(a0, b0), (a1, b1), (a2, b2), (a3, b3), (a4, b4), (a5, b5), (a6, b6), (a7, b7)] b 8 8 (d % 17)
  have ho := heapsOf_ok hy (b := b) (c := 8) (d := 8) (e := d % 17) (by omega)
  generalize heapsOf [(a0, b0), (a1, b1), (a2, b2), (a3, b3), (a4, b4), (a5, b5), (a6, b6), (a7, b7)] b 8 8 (d % 17) = l at h8 ho
  have hok : OkL l := fun h hh => by have := ho h hh; unfold okHeap at this; omega
  obtain ⟨k, hk⟩ : ∃ k : Nat, 1 + c % 4 = (k : Int) := ⟨(1 + c % 4).toNat, by omega⟩
  have hk1 : 1 ≤ k := by omega
  have hk4 : k ≤ 4 := by omega
  rw [hk]
  clear hk
  have h7 := fun b p => f7_1_eq m hm (k : Int) ⟨by omega, by omega⟩ b l hok (by omega) p 24 m false 0 0 0 (by omega) (by omega) (by omega)
  have z0 : ((0 : Int) == 0) = true := rfl
  have z12 : ((12 : Int) == 12) = true := rfl
  have z13 : ((13 : Int) == 13) = true := rfl
  have hplan := f18_ok1 m hm l (by omega) hok k hk1 (by omega)
  have hwhy := f27_ok1 m hm l hok (by omega) (k : Int) ⟨by omega, by omega⟩
  have hfirst := f42_eq m hm l k (by omega) (by omega) hok
  simp only [Option.bind_some, hfirst, h7, hplan, hwhy]
  cases hf : fitsB' k l with
  | true =>
    have hff := fitsB'_iff.1 hf
    have hp := plan_ok hok hff
    have hlen : (planL k l.length 0 l []).length ≤ 1000 := by have := hp.1; omega
    rw [whyF_fits.2 hff]
    have hv : f21 m l (k : Int) (planL k l.length 0 l []) = some 0 := by rw [f21_eq m (by omega) _ _ _ hok (by omega) ⟨by omega, by omega⟩, if_pos hp.1, plan_ver hp]
    simp only [cond_true, sc1, f20_same m hm _ hlen, Option.bind_some, hv, z0, z13]
    rfl
  | false =>
    cases hw : whyF (k : Int) l 24 0 with
    | none =>
      have := whyF_fits.1 hw
      rw [fitsB'_iff.2 this] at hf; cases hf
    | some u =>
      have e1 : (u.1 == u.1) = true := by simp
      have e2 : (u.2 == u.2) = true := by simp
      simp only [cond_false, sc1, z0, z12, e1, e2]
      rfl

end Go.Xm

namespace Go.Proofs.Ytfdeihnkoaihfaa.heapHall
open Go.Xm Go.RowKit

theorem u8b {z : Int} (h : (Lit.int .u8 z).wf = true) : 0 ≤ z ∧ z ≤ 255 := by
  simp [Lit.wf, IntKind.min, IntKind.max, IntKind.signed, IntKind.bits] at h
  omega

theorem walk (z0 : List Int) (a1 a2 a3' : Int) (w : World) (l0 : z0.length = 16) (w0 : ∀ z ∈ z0, (Lit.int .u8 z).wf = true) (w1 : (Lit.int .u8 a1).wf = true) (w2 : (Lit.int .u8 a2).wf = true) (w3 : (Lit.int .u8 a3').wf = true) :
    Calls Try.prog 7 #[.agg (z0.map (.int .u8)).toArray, .int .u8 a1, .int .u8 a2, .int .u8 a3'] w fun e w' => e = .returned (.bool true) ∧ Below w.heap.size w w' := by
  obtain ⟨a0, b0, a1', b1, a2', b2, a3, b3, a4', b4, a5, b5, a6, b6, a7, b7, rfl⟩ := list16 l0
  have hy : bytesP [(a0, b0), (a1', b1), (a2', b2), (a3, b3), (a4', b4), (a5, b5), (a6, b6), (a7, b7)] := by
    intro p hp
    have hb : ∀ z, z ∈ [a0, b0, a1', b1, a2', b2, a3, b3, a4', b4, a5, b5, a6, b6, a7, b7] → 0 ≤ z ∧ z ≤ 255 := fun z hz => u8b (w0 z hz)
    simp only [List.mem_cons, List.not_mem_nil, or_false] at hp
    rcases hp with rfl | rfl | rfl | rfl | rfl | rfl | rfl | rfl <;> (refine ⟨(hb _ ?_).1, (hb _ ?_).2, (hb _ ?_).1, (hb _ ?_).2⟩ <;> simp)
  exact f7_ok 1001 _ _ _ _ _ _ _ _ _ _ _ _ _ _ _ _ _ _ _ true (f7_true 1001 (by omega) _ _ _ _ _ _ _ _ _ _ _ _ _ _ _ _ _ _ _ hy (u8b w1) (u8b w2) (u8b w3)) w trivial

end Go.Proofs.Ytfdeihnkoaihfaa.heapHall
