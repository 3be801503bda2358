/- MasterKept: the walk, as the statement's shell wants it. Conditions: what the rows lay. -/
import Derived.Test.YtglkjlafglpalaaGreatDoorLd
import Derived.Test.YtglkjlafglpalaaGreatDoorPi
namespace Go.Xm
open Go.RowKit
set_option linter.unusedVariables false
theorem wS_num (c : Cm) : wS c = cond (isSup c) (numC c) 0 := by cases c <;> rfl
theorem wA_num (c : Cm) : wA c = cond (isArr c) (numC c) 0 := by cases c <;> rfl
theorem sup_arr {c : Cm} (h : isSup c = true) : isArr c = false := by cases c <;> first | rfl | cases h
theorem take_succ {cs : List Cm} {i : Nat} (h : i < cs.length) : cs.take (i + 1) = cs.take i ++ [cs[i]] := by
 rw [List.take_add_one, List.getElem?_eq_getElem h]; rfl
theorem sumW_take (f : Cm → Nat) : ∀ (cs : List Cm) (i : Nat), sumW f (cs.take i) ≤ sumW f cs
 | [], i => by simp
 | c :: cs, 0 => by simp [sumW]
 | c :: cs, i + 1 => by
  have := sumW_take f cs i
  simp only [List.take_succ_cons, sumW]; omega
theorem f7_2_run (m : Nat) {b : Nat} (h8 : b ≤ 8) {A p q : Int} {ds : List (Int × Int × Int × Int)} {L : List ByteArray} {s : BkS} {cs : List Cm} (ho : ∀ c, c ∈ cs → okC b c = true) (hl : cs.length ≤ 200) :
 ∀ (k i fuel : Nat), i + k = cs.length → k < fuel →
  f7_2 m fuel A ds p q L (sumW wS (cs.take i) : Int) (sumW wA (cs.take i) : Int) (cs.length : Int) (i : Int) s (cs.map lnC) = some ((sumW wS cs : Int), (sumW wA cs : Int), s)
 | _, _, 0, _, h => by omega
 | 0, i, fuel + 1, hi, _ => by
  obtain rfl : i = cs.length := by omega
  unfold f7_2
  rw [show decide ((cs.length : Int) < (cs.length : Int)) = false from decide_eq_false (by omega), List.take_length]
  rfl
 | k + 1, i, fuel + 1, hi, hf => by
  have hic : i < cs.length := by omega
  have hm := ho _ (List.getElem_mem hic)
  have F := line_f h8 hm
  have ih := f7_2_run m h8 (A := A) (p := p) (q := q) (ds := ds) (L := L) (s := s) ho hl k (i + 1) fuel (by omega) (by omega)
  rw [take_succ hic, sumW_snoc, sumW_snoc, wS_num, wA_num] at ih
  have b1 := sumW_take wS cs i
  have b2 := sumW_take wA cs i
  have b3 : sumW wS cs ≤ 40 * cs.length := sumW_le fun c hc => wS_le (ho c hc)
  have b4 : sumW wA cs ≤ 40 * cs.length := sumW_le fun c hc => wA_le (ho c hc)
  have b5 := wS_le hm
  have b6 := wA_le hm
  rw [wS_num] at b5
  rw [wA_num] at b6
  unfold f7_2
  have ht : Int.toNat (i : Int) = i := rfl
  have hlen : (cs.map lnC).length = cs.length := List.length_map _
  have hg : (cs.map lnC).getD i (bs []) = lnC cs[i] := by
   rw [getD_get (by rw [hlen]; exact hic)]; simp
  rw [show decide ((i : Int) < (cs.length : Int)) = true from decide_eq_true (by omega), hlen, inRow_nat hic, ht, hg, F.sup, F.arr, F.ok, w64_succ (by omega)]
  simp only [cond_true]
  cases hs : isSup cs[i] with
  | true =>
   rw [hs, sup_arr hs, cond_true, cond_false, Nat.add_zero] at ih
   rw [hs, cond_true] at b5
   rw [cond_true, F.num (by rw [hs]; simp)]
   rw [show w64 ((sumW wS (cs.take i) : Int) + (numC cs[i] : Int)) = ((sumW wS (cs.take i) + numC cs[i] : Nat) : Int) from w64_in (by omega) (by omega)]
   exact ih
  | false =>
   rw [hs, cond_false, Nat.add_zero] at ih
   rw [cond_false]
   cases ha : isArr cs[i] with
   | true =>
    rw [ha, cond_true] at ih b6
    obtain ⟨q1, q2, q3⟩ := F.bale ha
    rw [q1, q2, q3]
    simp only [cond_true]
    rw [show w64 ((sumW wA (cs.take i) : Int) + (numC cs[i] : Int)) = ((sumW wA (cs.take i) + numC cs[i] : Nat) : Int) from w64_in (by omega) (by omega)]
    exact ih
   | false =>
    rw [ha, cond_false, Nat.add_zero] at ih
    rw [cond_false]
    exact ih
theorem getS_put {k x : ByteArray} (hne : k ≠ x) : ∀ {l : List (ByteArray × Bool)}, getS false l x = false → getS false (putS l k true) x = false
 | [], _ => by simp [putS, getS, hne]
 | p :: t, h => by
  unfold getS at h
  unfold putS
  by_cases e : p.1 = k
  ·rw [if_pos e]
   unfold getS
   rw [if_neg (e ▸ hne)] at h
   rw [if_neg hne]; exact h
  ·rw [if_neg e]
   unfold getS
   by_cases e2 : p.1 = x
   ·rw [if_pos e2] at h; rw [if_pos e2]; exact h
   ·rw [if_neg e2] at h; rw [if_neg e2]; exact getS_put hne h
theorem sumL_pos : ∀ {l : List Bl}, (∀ z, z ∈ l → 1 ≤ z.2.2) → 0 ≤ sumL l
 | [], _ => Int.le_refl 0
 | x :: l, h => by
  have h1 := sumL_pos fun z hz => h z (List.mem_cons_of_mem _ hz)
  have h2 := h x (List.mem_cons_self ..)
  simp only [sumL]; omega
theorem f7_3_run (m : Nat) {A : Nat} (hA : A < 256) {p q x13 : Int} {ds : List (Int × Int × Int × Int)} {L : List ByteArray} {s : BkS} {R : List Bl} (hR : R.length ≤ 1000) :
 ∀ (suf pre : List Bl) (fuel : Nat) (x8 last : Int) (mh : List (ByteArray × Bool)), R = pre ++ suf → suf.length < fuel → (∀ z, z ∈ suf → last < z.2.1) → (∀ z, z ∈ suf → getS false mh z.1 = false) →
  suf.Pairwise (fun x y => x.2.1 < y.2.1) → (suf.map (·.1)).Nodup → (∀ z, z ∈ suf → 0 ≤ z.2.1 ∧ z.2.1 < ((1 + A % 8 : Nat) : Int) ∧ 1 ≤ z.2.2) → sumL suf ≤ x8 → x8 ≤ 1000000 →
  f7_3 m fuel (A : Int) ds p q L x8 x13 last (R.length : Int) (pre.length : Int) s mh R = some (x8 - sumL suf, x13, s)
 | _, _, 0, _, _, _, _, h, _, _, _, _, _, _, _ => by omega
 | [], pre, fuel + 1, x8, last, mh, he, _, _, _, _, _, _, _, _ => by
  have : R.length = pre.length := by rw [he]; simp
  unfold f7_3
  rw [this, show decide ((pre.length : Int) < (pre.length : Int)) = false from decide_eq_false (by omega)]
  simp [sumL]
 | z :: suf, pre, fuel + 1, x8, last, mh, he, hf, h1, h2, h3, h4, h5, h6, h7 => by
  have hlen : R.length = pre.length + (suf.length + 1) := by rw [he]; simp
  have hz := h5 z (List.mem_cons_self ..)
  have hl := h1 z (List.mem_cons_self ..)
  have hm := h2 z (List.mem_cons_self ..)
  have hp := List.pairwise_cons.1 h3
  rw [List.map_cons, List.nodup_cons] at h4
  have hpos := sumL_pos (l := suf) fun y hy => (h5 y (List.mem_cons_of_mem _ hy)).2.2
  simp only [sumL] at h6
  unfold f7_3
  have ht : Int.toNat (pre.length : Int) = pre.length := rfl
  have hg : R.getD pre.length ((bs []), 0, 0) = z := by rw [he]; exact getD_mid pre z _ suf
  have e41 : f41 m (A : Int) ds = some ((1 + A % 8 : Nat) : Int) := by unfold f41; rw [bays_w hA]
  rw [show decide ((pre.length : Int) < (R.length : Int)) = true from decide_eq_true (by omega), inRow_nat (by omega), ht, hg, e41, hm]
  simp only [cond_true, cond_false, Option.bind_some]
  rw [show decide (z.2.1 ≤ last) = false from decide_eq_false (by omega), show decide (z.2.1 ≥ ((1 + A % 8 : Nat) : Int)) = false from decide_eq_false (by omega), show decide (z.2.2 < 1) = false from decide_eq_false (by omega), cond_false, cond_false, cond_false]
  rw [show w64 (x8 - z.2.2) = x8 - z.2.2 from w64_in (by omega) (by omega), w64_succ (by omega)]
  have ih := f7_3_run m hA (p := p) (q := q) (x13 := x13) (ds := ds) (L := L) (s := s) hR suf (pre ++ [z]) fuel (x8 - z.2.2) z.2.1 (putS mh z.1 true) (by rw [he]; simp) (by simp only [List.length_cons] at hf; omega)
   hp.1 (fun y hy => getS_put (fun e : z.1 = y.1 => h4.1 (List.mem_map.2 ⟨y, hy, e.symm⟩)) (h2 y (List.mem_cons_of_mem _ hy))) hp.2 h4.2 (fun y hy => h5 y (List.mem_cons_of_mem _ hy)) (by omega) (by omega)
  rw [List.length_append, List.length_singleton] at ih
  rw [ih]
  simp only [sumL, Option.some.injEq, Prod.mk.injEq, and_true]
  omega
theorem iMin_pos {x y : Int} (h1 : 0 ≤ x) (h2 : 0 ≤ y) : 0 ≤ iMin x y := by unfold iMin; split <;> assumption
theorem f7_1_run {A : Nat} (hA : A < 256) {ds : List (Int × Int × Int × Int)} {C : List Cm} (hC : C.length ≤ 40) (ho : ∀ c, c ∈ C → okC (1 + A % 8) c = true) :
 ∀ (k i fuel : Nat) (cs : List Cm) (s : BkS), i + k = C.length → k < fuel → Inv (1 + A % 8) cs s → cs.length ≤ i → f7_1 300 fuel (A : Int) ds (C.length : Int) (i : Int) s (C.map lnC) = some ()
 | _, _, 0, _, _, _, h, _, _ => by omega
 | 0, i, fuel + 1, cs, s, hi, _, _, _ => by
  obtain rfl : i = C.length := by omega
  unfold f7_1
  rw [show decide ((C.length : Int) < (C.length : Int)) = false from decide_eq_false (by omega)]
  rfl
 | k + 1, i, fuel + 1, cs, s, hi, hf, hI, hcl => by
  have hic : i < C.length := by omega
  have hb1 : 1 ≤ 1 + A % 8 := by omega
  have hb8 : 1 + A % 8 ≤ 8 := by omega
  obtain ⟨e, s', ht, hT⟩ := tell_inv hb1 hb8 hI (by omega) (ho _ (List.getElem_mem hic))
  obtain ⟨cs', hI', hl'⟩ := hT.inv hI
  have hcs' : cs'.length ≤ 200 := by omega
  have hlen : (C.map lnC).length = C.length := List.length_map _
  have hg : (C.map lnC).getD i (bs []) = lnC C[i] := by
   rw [getD_get (by rw [hlen]; exact hic)]; simp
  have hN : Int.toNat (i : Int) = i := rfl
  have r2 := f7_2_run 300 hb8 (A := (A : Int)) (p := (C.length : Int)) (q := (i : Int)) (ds := ds) (L := C.map lnC) (s := s') hI'.ok hcs' cs'.length 0 300 (by omega) (by omega)
  have r2 : f7_2 300 300 (A : Int) ds (C.length : Int) (i : Int) (C.map lnC) 0 0 (cs'.length : Int) 0 s' (cs'.map lnC) = some ((sumW wS cs' : Int), (sumW wA cs' : Int), s') := r2
  obtain ⟨R, hR, hRow⟩ := hI'.balesS hb1 hb8 (m := 300) (by omega)
  have G := hI'.now
  have hA' : sumW wA cs' ≤ 40 * cs'.length := sumW_le fun c hc => wA_le (hI'.ok c hc)
  have hS' : sumW wS cs' ≤ 40 * cs'.length := sumW_le fun c hc => wS_le (hI'.ok c hc)
  have g2 := G.came
  have g3 := G.st
  have g4 := G.p1
  have g5 := G.p2
  have g6 := G.p3
  have g7 := G.p4
  have g8 := G.p5
  have g9 := G.kil
  have hsum := hRow.sum
  have r3 := f7_3_run 300 hA (p := (C.length : Int)) (q := (i : Int)) (x13 := s'.now.taken) (ds := ds) (L := C.map lnC) (s := s') (R := R) (by have := hRow.len; omega) R [] 300 s'.now.came (-1) [] rfl (by have := hRow.len; omega)
   (fun z hz => by have := (hRow.all z hz).1; omega) (fun z hz => rfl) hRow.asc hRow.nd hRow.all (by omega) (by omega)
  have r3 : f7_3 300 300 (A : Int) ds (C.length : Int) (i : Int) (C.map lnC) s'.now.came s'.now.taken (-1) (R.length : Int) 0 s' [] R = some (s'.now.came - sumL R, s'.now.taken, s') := r3
  have ih := f7_1_run hA (ds := ds) hC ho k (i + 1) fuel cs' s' (by omega) (by omega) hI' (by omega)
  unfold f7_1
  rw [show decide ((i : Int) < (C.length : Int)) = true from decide_eq_true (by omega), hlen, inRow_nat hic, hN, hg, ht]
  simp only [cond_true, Option.bind_some]
  rw [hI'.linesS hb1 hcs']
  simp only [Option.bind_some, List.length_map]
  rw [r2]
  simp only [Option.bind_some]
  rw [hI'.stampsS hb1, hI'.kilosS hb1]
  simp only
  have m1 : ¬ iMin (iMin (iMin (iMin s'.now.chest s'.now.bond) s'.now.spoilt) s'.now.out) s'.now.taken < 0 := by
   have := iMin_pos (iMin_pos (iMin_pos (iMin_pos g4 g5) g6) g7) g8
   omega
  rw [decide_eq_false m1, cond_false]
  have w1 : w64 (s'.now.chest + s'.now.bond) = s'.now.chest + s'.now.bond := w64_in (by omega) (by omega)
  have w2 : w64 (s'.now.chest + s'.now.bond + s'.now.spoilt) = s'.now.chest + s'.now.bond + s'.now.spoilt := w64_in (by omega) (by omega)
  have w3 : w64 (s'.now.chest + s'.now.bond + s'.now.spoilt + s'.now.out) = s'.now.chest + s'.now.bond + s'.now.spoilt + s'.now.out := w64_in (by omega) (by omega)
  rw [w1, w2, w3, g3, bne_self_eq_false, cond_false, ← g2, bne_self_eq_false, cond_false, hR]
  simp only [Option.bind_some]
  rw [r3]
  simp only [Option.bind_some]
  have e1 : s'.now.came - sumL R = s'.now.taken := by omega
  rw [e1, bne_self_eq_false, cond_false, w64_succ (by omega)]
  exact ih
theorem f7_true {A : Nat} (hA : A < 256) {ds : List (Int × Int × Int × Int)} (hd : ∀ z ∈ ds, u8q z) : f7 300 (A : Int) ds = some true := by
 obtain ⟨C, c1, c2, c3⟩ := f37_run (m := 300) (by omega) hA hd
 have e41 : f41 300 (A : Int) ds = some ((1 + A % 8 : Nat) : Int) := by unfold f41; rw [bays_w hA]
 have r := f7_1_run hA (ds := ds) c2 c3 C.length 0 300 [] (newS ((1 + A % 8 : Nat) : Int)) (by omega) (by omega) (Inv.new _) (Nat.le_refl _)
 have r : f7_1 300 300 (A : Int) ds (C.length : Int) 0 (newS ((1 + A % 8 : Nat) : Int)) (C.map lnC) = some () := r
 unfold f7
 rw [e41]
 simp only [Option.bind_some]
 have hN : okN ((1 + A % 8 : Nat) : Int) = true := by
  unfold okN
  rw [decide_eq_false (by omega), decide_eq_false (by omega)]; rfl
 rw [hN, cond_true, c1]
 simp only [Option.bind_some, List.length_map]
 rw [r]
 rfl
end Go.Xm
namespace Go.Proofs.YtglkjlafglpalaaGreatDoor.masterKept
open Go.RowKit Go.Xm
theorem walk (a0 : Int) (u0 : Value) (z0 : List (Int × Int × Int × Int)) (w : World) (hI : Go.Xm.maInv w) (w0 : (Lit.int .u8 a0).wf = true) (g0 : RowIn w u0 4 (Xm.rowC encD z0) z0.length) (x0 : ∀ z ∈ z0, u8q z) :
 Calls Proofs.Tryz.prog 7 #[.agg #[.int .u8 a0, u0]] w fun e w' => e = .returned (.bool true) ∧ Below w.heap.size w w' := by
 obtain ⟨A, hA, rfl⟩ := lit_u8 w0
 exact KC.callsS (E := E0) (by decide) rfl rfl (encD_plain z0) rfl (fun z y => f7_ok 300 z y _ _ _ (f7_true hA x0)) w g0 (maInv_size hI) hI
end Go.Proofs.YtglkjlafglpalaaGreatDoor.masterKept
