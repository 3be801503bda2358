/- MasterLocked: the walk, as the statement's shell wants it. Conditions: what the rows lay. -/
import Derived.Test.YtglkjlafglpalaaGreatDoorLd
import Derived.Test.YtglkjlafglpalaaGreatDoorPj
namespace Go.Xm
open Go.RowKit
set_option linter.unusedVariables false
def keysL (l : List Nat) : List (ByteArray × Bool) := l.map fun k => (lnC (.key k), true)
theorem key_tab : (allN 3 fun i => allN 3 fun k => !(sameB (lnC (.key i)) (lnC (.key k))) || Nat.beq i k) = true := by kernel_rfl
theorem key_inj {i k : Nat} (hi : i < 3) (hk : k < 3) (h : lnC (.key i) = lnC (.key k)) : i = k := by
 have := allN_spec (allN_spec key_tab i hi) k hk
 have h2 : sameB (lnC (.key i)) (lnC (.key k)) = true := by rw [h]; unfold sameB; exact beq_self_eq_true _
 rw [h2, Bool.not_true, Bool.false_or] at this
 exact Nat.eq_of_beq_eq_true this
theorem put_key {l : List Nat} {k : Nat} (h3 : ∀ x, x ∈ l → x < 3) (hk : k < 3) (hn : k ∉ l) : putS (keysL l) (lnC (.key k)) true = keysL (l ++ [k]) := by
 have : hasS (keysL l) (lnC (.key k)) = false := by
  cases hh : hasS (keysL l) (lnC (.key k)) with
  | false => rfl
  | true =>
   have := hasS_iff.1 hh
   unfold keysL at this
   rw [List.map_map] at this
   obtain ⟨x, hx, e⟩ := List.mem_map.1 this
   have := key_inj (h3 x hx) hk e
   exact absurd (this ▸ hx) hn
 rw [putS_new this]
 simp [keysL]
theorem kc_lt {b : Nat} : ∀ {cs : List Cm}, (∀ c, c ∈ cs → okC b c = true) → ∀ x, x ∈ kc cs → x < 3 := by
 have key : ∀ (cs : List Cm) (l : List Nat), (∀ c, c ∈ cs → okC b c = true) → (∀ x, x ∈ l → x < 3) → ∀ x, x ∈ cs.foldl kc1 l → x < 3 := by
  intro cs
  induction cs with
  | nil => intro l _ h; exact h
  | cons c cs ih =>
   intro l ho h
   refine ih (kc1 l c) (fun c hc => ho c (List.mem_cons_of_mem _ hc)) fun x hx => ?_
   have hc := ho c (List.mem_cons_self ..)
   cases c <;> simp only [kc1] at hx <;> first | exact h x hx | skip
   ·rename_i k
    rcases List.mem_append.1 hx with q | q
    ·exact h x q
    ·rw [List.mem_singleton.1 q]; simpa [okC, Nat.blt_eq] using hc
   ·cases hx
 intro cs ho
 exact key cs [] ho fun x q => by cases q
theorem Inv.knd {b : Nat} {cs : List Cm} {s : BkS} (h : Inv b cs s) {i : Nat} (hi : i ≤ cs.length) : (kc (cs.take i)).Nodup := by
 by_cases q : i < cs.length
 ·have hb : i < s.before.length := by rw [h.len]; exact q
  exact (h.bef i _ (List.getElem?_eq_getElem hb)).knd
 ·have : i = cs.length := by omega
  rw [this, List.take_length]
  exact h.now.knd
theorem take_succ' {cs : List Cm} {i : Nat} (h : i < cs.length) : cs.take (i + 1) = cs.take i ++ [cs[i]] := by
 rw [List.take_add_one, List.getElem?_eq_getElem h]; rfl
theorem f8_2_run (m : Nat) {b : Nat} (h8 : b ≤ 8) {p q : Int} {ds : List (Int × Int × Int × Int)} {L : List ByteArray} {s s0 : BkS} {a : ByteArray} {x7 x8 : Int} {cs : List Cm} (hI : Inv b cs s) (hl : cs.length ≤ 200) :
 ∀ (k i fuel : Nat), i + k = cs.length → k < fuel →
  f8_2 m fuel ds p q s0 L a x7 x8 (cs.length : Int) (i : Int) (keysL (kc (cs.take i))) (cs.map lnC) = some (a, x7, x8, keysL (kc cs))
 | _, _, 0, _, h => by omega
 | 0, i, fuel + 1, hi, _ => by
  obtain rfl : i = cs.length := by omega
  unfold f8_2
  rw [show decide ((cs.length : Int) < (cs.length : Int)) = false from decide_eq_false (by omega), List.take_length]
  rfl
 | k + 1, i, fuel + 1, hi, hf => by
  have hic : i < cs.length := by omega
  have hm := hI.ok _ (List.getElem_mem hic)
  have F := line_f h8 hm
  have ih := f8_2_run m h8 (p := p) (q := q) (ds := ds) (L := L) (s0 := s0) (a := a) (x7 := x7) (x8 := x8) hI hl k (i + 1) fuel (by omega) (by omega)
  have hk1 := hI.knd (i := i + 1) (by omega)
  rw [take_succ' hic, kc_snoc] at ih hk1
  have hlt := kc_lt (b := b) (cs := cs.take i) (fun c hc => hI.ok c (List.mem_of_mem_take hc))
  unfold f8_2
  have ht : Int.toNat (i : Int) = i := rfl
  have hlen : (cs.map lnC).length = cs.length := List.length_map _
  have hg : (cs.map lnC).getD i (bs []) = lnC cs[i] := by
   rw [getD_get (by rw [hlen]; exact hic)]; simp
  rw [show decide ((i : Int) < (cs.length : Int)) = true from decide_eq_true (by omega), hlen, inRow_nat hic, ht, hg, F.shut, F.key, w64_succ (by omega)]
  simp only [cond_true]
  generalize cs[i] = c at *
  cases c with
  | shut => exact ih
  | key j =>
   have hj : j < 3 := by simpa [okC, Nat.blt_eq] using hm
   have hn : j ∉ kc (cs.take i) := fun hx => by
    have := (List.nodup_append.1 hk1).2.2 j hx j (by simp)
    exact this rfl
   show f8_2 m fuel ds p q s0 L a x7 x8 _ _ (putS (keysL (kc (cs.take i))) (lnC (.key j)) true) _ = _
   rw [put_key hlt hj hn]
   exact ih
  | _ => exact ih
theorem N0 : ((0 : Int) == 0) = true := rfl
theorem N1 : ((20 : Int) == 0) = false := rfl
theorem N2 : ((15 : Int) == 0) = false := rfl
theorem N3 : ((15 : Int) != 0) = true := rfl
theorem N4 : ((21 : Int) == 0) = false := rfl
theorem N5 : ((21 : Int) != 0) = true := rfl
theorem N6 : (((0 : Nat) : Int) == 0) = true := rfl
theorem f8_1_run {A : Nat} (hA : A < 256) {ds : List (Int × Int × Int × Int)} {C : List Cm} (hC : C.length ≤ 40) (ho : ∀ c, c ∈ C → okC (1 + A % 8) c = true) :
 ∀ (k i fuel : Nat) (cs : List Cm) (s : BkS), i + k = C.length → k < fuel → Inv (1 + A % 8) cs s → cs.length ≤ i → f8_1 300 fuel ds (C.length : Int) (i : Int) s (C.map lnC) = some ()
 | _, _, 0, _, _, _, h, _, _ => by omega
 | 0, i, fuel + 1, cs, s, hi, _, _, _ => by
  obtain rfl : i = C.length := by omega
  unfold f8_1
  rw [show decide ((C.length : Int) < (C.length : Int)) = false from decide_eq_false (by omega)]
  rfl
 | k + 1, i, fuel + 1, cs, s, hi, hf, hI, hcl => by
  have hic : i < C.length := by omega
  have hb1 : 1 ≤ 1 + A % 8 := by omega
  have hb8 : 1 + A % 8 ≤ 8 := by omega
  have hm := ho _ (List.getElem_mem hic)
  have F := line_f hb8 hm
  obtain ⟨e, s', ht, hT⟩ := tell_inv hb1 hb8 hI (by omega) hm
  obtain ⟨cs', hI', hl'⟩ := hT.inv hI
  have hlen : (C.map lnC).length = C.length := List.length_map _
  have hg : (C.map lnC).getD i (bs []) = lnC C[i] := by
   rw [getD_get (by rw [hlen]; exact hic)]; simp
  have hN : Int.toNat (i : Int) = i := rfl
  have r2 := f8_2_run 300 hb8 (p := (C.length : Int)) (q := (i : Int)) (ds := ds) (L := C.map lnC) (s0 := s) (a := lnC C[i]) (x7 := s.now.out) (x8 := s.now.year) hI (by omega) cs.length 0 300 (by omega) (by omega)
  have r2 : f8_2 300 300 ds (C.length : Int) (i : Int) s (C.map lnC) (lnC C[i]) s.now.out s.now.year (cs.length : Int) 0 [] (cs.map lnC) = some (lnC C[i], s.now.out, s.now.year, keysL (kc cs)) := r2
  have ih := f8_1_run hA (ds := ds) hC ho k (i + 1) fuel cs' s' (by omega) (by omega) hI' (by omega)
  have hkl := kc_len cs
  have hsl : (sortI ((kc cs).map fun k : Nat => (k : Int))).length = (kc cs).length := by rw [(sortI_perm _).length_eq, List.length_map]
  have hkk : (keysL (kc cs)).length = (kc cs).length := by simp [keysL]
  unfold f8_1
  rw [show decide ((i : Int) < (C.length : Int)) = true from decide_eq_true (by omega), hlen, inRow_nat hic, hN, hg]
  simp only [cond_true]
  rw [hI.linesS hb1 (by omega)]
  simp only [Option.bind_some, List.length_map]
  rw [hI.stampsS hb1, hI.yearS hb1, r2]
  simp only [Option.bind_some]
  rw [hI.keysS hb1 300 (by omega)]
  simp only [Option.bind_some]
  rw [hsl, hkk, bne_self_eq_false, cond_false, ht]
  simp only [Option.bind_some]
  rw [F.undo, F.out, F.close, F.ok, hI'.stampsS hb1, hI'.yearS hb1, w64_succ (by omega)]
  simp only [cond_true]
  cases hu : isUndo C[i] with
  | true => exact ih
  | false =>
   obtain ⟨n', hD, hn'⟩ := hT.did hu
   have hkeys : s.now.keys.length = (kc cs).length := by rw [hI.now.keys, List.length_map]
   have hA' : sumW wS cs ≤ 40 * cs.length := sumW_le fun c hc => wS_le (hI.ok c hc)
   have hY' : sumW wY cs ≤ 40 * cs.length := sumW_le fun c _ => wY_le c
   have g3 := hI.now.st
   have g4 := hI.now.p1
   have g5 := hI.now.p2
   have g6 := hI.now.p3
   have g7 := hI.now.p4
   have gy := hI.now.year
   have hno : e ≠ 0 → s' = s := hT.no hu
   have hout : e = 0 → s'.now.out = s.now.out + (cond (isOut C[i]) (numC C[i] : Int) 0) := fun q => by rw [hn' q]; exact hD.out q
   have hyear : e = 0 → s'.now.year = s.now.year + (wY C[i] : Int) := fun q => by
    have h2 := (hD.good q).year
    rw [sumW_snoc] at h2
    rw [hn' q, h2, gy]; simp
   have hnum : numC C[i] ≤ 40 := by
    have : ∀ c, okC (1 + A % 8) c = true → numC c ≤ 40 := fun c hc => by
     cases c <;> simp only [numC] <;> first | omega | skip
     all_goals
      simp only [okC, Bool.and_eq_true, Nat.blt_eq] at hc
      omega
    exact this _ hm
   rw [cond_false]
   cases hO : isOut C[i] with
   | true =>
    rw [hO, cond_true] at hout
    obtain ⟨o1, o2⟩ := hD.outE hO
    rw [hkeys] at o1 o2
    rw [cond_true, F.num (by rw [hO]; rfl)]
    by_cases h2 : (kc cs).length < 2
    ·have he := o1 h2
     have hs := hno (by omega)
     rw [show decide (((kc cs).length : Int) < 2) = true from decide_eq_true (by omega), show decide (((kc cs).length : Int) ≥ 2) = false from decide_eq_false (by omega), he]
     rw [hs] at ih ⊢
     simp only [bne_self_eq_false, cond_true, cond_false, N1]
     exact ih
    ·have he := o2 (by omega)
     rw [show decide (((kc cs).length : Int) < 2) = false from decide_eq_false (by omega), show decide (((kc cs).length : Int) ≥ 2) = true from decide_eq_true (by omega)]
     rcases he with he | he
     ·have ho := hout he
      have hw : w64 (s.now.out + (numC C[i] : Int)) = s.now.out + (numC C[i] : Int) := w64_in (by omega) (by omega)
      rw [he, hw, ho]
      simp only [bne_self_eq_false, cond_true, cond_false, N0]
      exact ih
     ·rw [he]
      simp only [bne_self_eq_false, cond_true, cond_false, N2, N3]
      exact ih
   | false =>
    rw [hO, cond_false] at hout
    have ho : s'.now.out = s.now.out := by
     by_cases he : e = 0
     ·rw [hout he, Int.add_zero]
     ·rw [hno he]
    rw [cond_false, ho, bne_self_eq_false, cond_false]
    cases hc : isClose C[i] with
    | true =>
     have hwy : wY C[i] = 1 := by
      have : ∀ c, isClose c = true → wY c = 1 := fun c q => by cases c <;> first | rfl | cases q
      exact this _ hc
     obtain ⟨k1, k2⟩ := hD.closeE hc
     rw [hkeys] at k1 k2
     rw [cond_true]
     by_cases hk : (kc cs).length = 0
     ·have he := k1 hk
      have hy := hyear he
      rw [hwy] at hy
      have hw : w64 (s.now.year + 1) = s.now.year + 1 := w64_in (by omega) (by omega)
      have hy : s'.now.year = s.now.year + 1 := hy
      rw [he, hw, hk, hy]
      simp only [bne_self_eq_false, cond_true, cond_false, N0, N6, beq_self_eq_true, Bool.not_true]
      exact ih
     ·have he := k2 hk
      have hs := hno (by omega)
      have hz : (((kc cs).length : Int) == 0) = false := by
       have : ((kc cs).length : Int) ≠ 0 := by omega
       simpa using this
      rw [he, hz]
      have hyy : s'.now.year = s.now.year := by rw [hs]
      rw [hyy]
      simp only [bne_self_eq_false, cond_true, cond_false, N4, N5, beq_self_eq_true, Bool.not_true]
      exact ih
    | false =>
     have hwy : wY C[i] = 0 := by
      have : ∀ c, isClose c = false → wY c = 0 := fun c q => by cases c <;> first | rfl | cases q
      exact this _ hc
     have hyy : s'.now.year = s.now.year := by
      by_cases he : e = 0
      ·rw [hyear he, hwy]; simp
      ·rw [hno he]
     rw [cond_false, hyy, bne_self_eq_false]
     exact ih
theorem f8_true {A : Nat} (hA : A < 256) {ds : List (Int × Int × Int × Int)} (hd : ∀ z ∈ ds, u8q z) : f8 300 (A : Int) ds = some true := by
 obtain ⟨C, c1, c2, c3⟩ := f37_run (m := 300) (by omega) hA hd
 have r := f8_1_run hA (ds := ds) c2 c3 C.length 0 300 [] (newS ((1 + A % 8 : Nat) : Int)) (by omega) (by omega) (Inv.new _) (Nat.le_refl _)
 have r : f8_1 300 300 ds (C.length : Int) 0 (newS ((1 + A % 8 : Nat) : Int)) (C.map lnC) = some () := r
 unfold f8
 have hN : okN ((1 + A % 8 : Nat) : Int) = true := by
  unfold okN
  rw [decide_eq_false (by omega), decide_eq_false (by omega)]; rfl
 have e41 : f41 300 (A : Int) ds = some ((1 + A % 8 : Nat) : Int) := by unfold f41; rw [bays_w hA]
 rw [e41]
 simp only [Option.bind_some]
 rw [hN, cond_true, c1]
 simp only [Option.bind_some, List.length_map]
 rw [r]
 rfl
end Go.Xm
namespace Go.Proofs.YtglkjlafglpalaaGreatDoor.masterLocked
open Go.RowKit Go.Xm
theorem walk (a0 : Int) (u0 : Value) (z0 : List (Int × Int × Int × Int)) (w : World) (hI : Go.Xm.maInv w) (w0 : (Lit.int .u8 a0).wf = true) (g0 : RowIn w u0 4 (Xm.rowC encD z0) z0.length) (x0 : ∀ z ∈ z0, u8q z) :
 Calls Proofs.Tryz.prog 8 #[.agg #[.int .u8 a0, u0]] w fun e w' => e = .returned (.bool true) ∧ Below w.heap.size w w' := by
 obtain ⟨A, hA, rfl⟩ := lit_u8 w0
 exact KC.callsS (E := E0) (by decide) rfl rfl (encD_plain z0) rfl (fun z y => f8_ok 300 z y _ _ _ (f8_true hA x0)) w g0 (maInv_size hI) hI
end Go.Proofs.YtglkjlafglpalaaGreatDoor.masterLocked
