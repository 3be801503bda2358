/- What a book answers, as functions; the contracts of its readers, of New. Conditions: those of the theorems. -/
import Derived.Test.YtglkjlafglpalaaGreatDoorEq
import Derived.Test.YtglkjlafglpalaaGreatDoorPd
import Derived.Test.YtglkjlafglpalaaGreatDoorEk
import Derived.Test.YtglkjlafglpalaaGreatDoorSh
import Derived.RangeFuncLeaves
import Derived.OwnWalkIn
import Derived.TacticsInMore
import Derived.LoopNIn
import Derived.LoopIn
import Derived.Sort.MapsRangeIn
import Derived.Test.YtglkjlafglpalaaGreatDoorEn
namespace Go.Xm
open Go.RowKit
set_option linter.unusedVariables false
def baysS (s : BkS) : Int := s.now.bays
def yearS (s : BkS) : Int := cond (s.now.bays == 0) 0 s.now.year
def kilosS (s : BkS) : Int × Int := cond (s.now.bays == 0) (0, 0) (s.now.came, s.now.taken)
def stampsS (s : BkS) : Int × Int × Int × Int := cond (s.now.bays == 0) (0, 0, 0, 0) (s.now.chest, s.now.bond, s.now.spoilt, s.now.out)
def linesS (m : Nat) (s : BkS) : Option (List ByteArray) := cond (s.now.bays == 0) (some []) (cond (fitsB s.lines.length 16) (some s.lines) none)
def textS (m : Nat) (s : BkS) : Option ByteArray := f25 m (bkT s [])
theorem read_cx {K : Nat} {s : BkS} {v : Value} (hv : plain v = true) (hk : ∀ l, KC E0 K [pp 0 0] (bookH (bkT s l)) 5 (fun v' h' _ => v' = v ∧ OutH (bkT s l) (bs []) .same h')) : CX E0 K (bookX s) [] v (bookX s) :=
 CX.ofKC (a := bs []) rfl hv fun l hl => ⟨.same, hk l, rfl, fun x n3 c3 n4 c4 q => by cases q⟩
theorem some_cond {α : Type} (c : Bool) (x y : α) : cond c (some x) (some y) = some (cond c x y) := by cases c <;> rfl
theorem bays_cx (s : BkS) : CX E0 30 (bookX s) [] (ii (baysS s)) (bookX s) :=
 read_cx rfl fun l => f30_ok 0 (bkT s l) _ (by
  unfold f30
  cases h : ((bkT s l).bays == 0) with
  | false => rfl
  | true => exact congrArg some (eq_of_beq h).symm)
theorem year_cx (s : BkS) : CX E0 34 (bookX s) [] (ii (yearS s)) (bookX s) := read_cx rfl fun l => f34_ok 0 (bkT s l) _ (some_cond _ _ _)
theorem kilos_cx (s : BkS) : CX E0 29 (bookX s) [] (.tuple #[ii (kilosS s).1, ii (kilosS s).2]) (bookX s) := read_cx rfl fun l => f29_ok 0 (bkT s l) (kilosS s) (some_cond _ _ _)
theorem stamps_cx (s : BkS) : CX E0 32 (bookX s) [] (.agg #[ii (stampsS s).1, ii (stampsS s).2.1, ii (stampsS s).2.2.1, ii (stampsS s).2.2.2]) (bookX s) := read_cx rfl fun l => f32_ok 0 (bkT s l) (stampsS s) (some_cond _ _ _)
theorem lines_cr {m : Nat} {s : BkS} {r : List ByteArray} (h : linesS m s = some r) : CRX E0 35 (bookX s) [] encS 9 1 r :=
 CRX.ofKC (a := bs []) encS_ok (by decide) rfl fun l hl => f35_ok m (bkT s l) r h
theorem f25_1_any (m : Nat) (s : BkS) (l l' : List Bst) : ∀ (fuel : Nat) (x y : Int) (z : List Int), f25_1 m fuel (bkT s l) x y z = f25_1 m fuel (bkT s l') x y z
 | 0, _, _, _ => rfl
 | fuel + 1, x, y, z => by
  unfold f25_1
  rw [f25_1_any m s l l' fuel]
  rfl
theorem text_cx {m : Nat} {s : BkS} {r : ByteArray} (h : textS m s = some r) : CX E0 25 (bookX s) [] (.string r) (bookX s) :=
 read_cx rfl fun l => f25_ok m (bkT s l) r (by
  rw [← h]
  unfold textS f25
  rw [f25_1_any m s l []]
  rfl)
def okN (a : Int) : Bool := !(decide (a < 1)) && !(decide (a > 8))
def newS (a : Int) : BkS := ⟨⟨a, 0, 0, 0, 0, 0, 0, 0, [], []⟩, [], []⟩
def newE : Int := 1
theorem vrel_two {ρ : Rho} {u v' : Value} {n : Int} (h : VRel ρ (.tuple #[u, ii n]) v') : ∃ u', v' = .tuple #[u', ii n] ∧ VRel ρ u u' := by
 cases h with
 | tuple _ c' hc h1 =>
  rcases c' with ⟨l⟩
  match l, hc, h1 with
  | [a, b], _, h1 =>
   have ha := h1 0 _ a rfl rfl
   have hb := h1 1 _ b rfl rfl
   cases hb
   exact ⟨a, rfl, ha⟩
theorem new_cn {a : Int} (h : okN a = true) : CN E0 16 [ii a] (fun u => .tuple #[u, ii 0]) (bookX (newS a)) := by
 intro w hI hsz
 have hf : f16 0 a = some (0, true) := by
  unfold okN at h
  simp only [Bool.and_eq_true, Bool.not_eq_true'] at h
  unfold f16
  rw [h.1, h.2]
  rfl
 obtain ⟨q1, q2⟩ := f16_ok 0 a _ hf ⟨w.heap.size, []⟩ [] w [ii a] (Cells.plain_refl [] rfl) (HRel.nil _ _ _) rfl (Nat.le_refl _) (Bd.ge_at hsz) hI
 refine ⟨q1, q2.mono ?_⟩
 rintro e w' ⟨v, v', ρ', h', c', rfl, r1, r2, r3, r4, r5, i, j1, j2, j3, j4, rfl, hn, e0, e1, e2, e3, e4⟩
 obtain ⟨K0, k0, m0, o0⟩ := r4.ok i _ e0
 obtain ⟨K1, k1, m1, o1⟩ := r4.ok j1 _ e1
 obtain ⟨K2, k2, m2, o2⟩ := r4.ok j2 _ e2
 obtain ⟨K3, k3, m3, o3⟩ := r4.ok j3 _ e3
 obtain ⟨K4, k4, m4, o4⟩ := r4.ok j4 _ e4
 have g0 : ¬ K0.gho := fun q => q.1 o0.1
 have g1 : ¬ K1.gho := fun q => q.1 o1.2.1
 have g2 : ¬ K2.gho := fun q => q.1 o2.2.1
 have hK0 : K0 = ⟨K0.b, 0, 12, 0⟩ := by
  obtain ⟨z, g | ⟨C, fr, c1, c2, c3, c4, c5, c6⟩⟩ := o0
  ·exact absurd g.1 g0
  ·obtain ⟨z1, z2⟩ := c6 z
   obtain ⟨b, sh, sz, es⟩ := K0
   cases z; cases z1; cases z2; rfl
 obtain ⟨b0, rfl⟩ : ∃ b0, K0 = ⟨b0, 0, 12, 0⟩ := ⟨K0.b, hK0⟩
 have lo : ∀ {L : Loc}, (⟨w.heap.size, []⟩ : Bd).may L.b → w.heap.size ≤ L.b := fun m => by
  rcases m with m | m
  ·exact m
  ·cases m
 have dif : ∀ i j o o' L L', hget h' i = some o → hget h' j = some o' → ρ'[i]? = some L → ρ'[j]? = some L' → ¬ L.gho → ¬ L'.gho → frz o = false → own ρ' L o → own ρ' L' o' → i ≠ j → L.b ≠ L'.b :=
  fun i j o o' L L' hi hj hL hL' g1 g2 hz w1 w2 ne e => ne (r4.inj i j o o' L L' hi hj hL hL' g1 g2 w1 w2 (.inl hz) e)
 simp only [List.nodup_cons, List.mem_cons, List.not_mem_nil, or_false, not_or] at hn
 obtain ⟨⟨n1, n2, n3, n4⟩, ⟨n12, n13, n14⟩, ⟨n23, n24⟩, n34, _⟩ := hn
 have es3 : K3.es = 10 := o3.1
 have es4 : K4.es = 1 := o4.1
 have hW : BookW (bkT (newS a) []) w' ⟨b0, 0, 12, 0⟩ K1 K2 K3 K4 := by
  refine ⟨cellsB_conv o0 (conv_map k1 rfl) (conv_map k2 rfl) (conv_sl k3 rfl (by rw [es3]; decide) (Nat.le_refl _)) (conv_sl k4 rfl (by rw [es4]; decide) (Nat.le_refl _)), o1, o2, o3.flt_any (encSt_flt _), o4.flt_any (encS_flt _), ?_, ?_, ?_, fun g => ⟨?_, ?_, ?_⟩, fun g => ⟨?_, ?_, ?_, fun g3 => ?_⟩⟩
  ·exact dif i j1 _ _ _ _ e0 e1 k0 k1 g0 g1 rfl trivial trivial n1
  ·exact dif i j2 _ _ _ _ e0 e2 k0 k2 g0 g2 rfl trivial trivial n2
  ·exact dif j1 j2 _ _ _ _ e1 e2 k1 k2 g1 g2 rfl trivial trivial n12
  ·exact dif j3 i _ _ _ _ e3 e0 k3 k0 g g0 frz_rc trivial trivial (Ne.symm n3)
  ·exact dif j3 j1 _ _ _ _ e3 e1 k3 k1 g g1 frz_rc trivial trivial (Ne.symm n13)
  ·exact dif j3 j2 _ _ _ _ e3 e2 k3 k2 g g2 frz_rc trivial trivial (Ne.symm n23)
  ·exact dif j4 i _ _ _ _ e4 e0 k4 k0 g g0 frz_rc trivial trivial (Ne.symm n4)
  ·exact dif j4 j1 _ _ _ _ e4 e1 k4 k1 g g1 frz_rc trivial trivial (Ne.symm n14)
  ·exact dif j4 j2 _ _ _ _ e4 e2 k4 k2 g g2 frz_rc trivial trivial (Ne.symm n24)
  ·exact dif j4 j3 _ _ _ _ e4 e3 k4 k3 g g3 frz_rc trivial trivial (Ne.symm n34)
 have inL : ∀ {L : Loc}, L ∈ [K1, K2, K3, K4] → ¬ L.gho → w.heap.size ≤ L.b ∧ L.b < w'.heap.size ∧ L.b ≠ b0 := by
  intro L hL g
  simp only [List.mem_cons, List.not_mem_nil, or_false] at hL
  rcases hL with rfl | rfl | rfl | rfl
  ·exact ⟨lo (m1 rfl g), hW.lt _ (by simp) g, Ne.symm hW.d01⟩
  ·exact ⟨lo (m2 rfl g), hW.lt _ (by simp) g, Ne.symm hW.d02⟩
  ·exact ⟨lo (m3 frz_rc g), hW.lt _ (by simp) g, (hW.d3 g).1⟩
  ·exact ⟨lo (m4 frz_rc g), hW.lt _ (by simp) g, (hW.d4 g).1⟩
 obtain ⟨u', rfl, hu⟩ := vrel_two r1
 cases hu with
 | ptr _ _ M hM =>
  rw [k0] at hM; cases hM
  refine ⟨b0, liveBk [K1, K2, K3, K4], rfl, r5.below, lo (m0 rfl g0), ?_, ?_, ?_⟩
  ·exact ⟨[], K1, K2, K3, K4, hW, fun L hL g => mem_liveBk.2 ⟨L, hL, g, rfl⟩, trivial, trivial, List.nodup_nil, fun t q => (by cases q), fun x hx => by
    obtain ⟨L, l1, l2, rfl⟩ := mem_liveBk.1 hx
    exact (inL l1 l2).2.1⟩
  ·intro q
   obtain ⟨L, l1, l2, l3⟩ := mem_liveBk.1 q
   exact (inL l1 l2).2.2 l3
  ·intro x hx
   obtain ⟨L, l1, l2, rfl⟩ := mem_liveBk.1 hx
   exact (inL l1 l2).1
theorem err_kc {K : Nat} {args : List Value} {n : Int} {R : Value → Heap → Nat → Prop} (hp : args.all plain = true) (hk : KC E0 K args [] 0 R) (hR : ∀ v h' c', R v h' c' → v = .tuple #[.pointer none, ii n]) {h : Heap} {c : Nat} :
 KC E0 K args h c (fun v h' c' => v = .tuple #[.pointer none, ii n] ∧ h' = h ∧ c' = c) := by
 intro B ρ w args' p1 hH p3 p4 p5 p6
 obtain rfl := p1.plain_eq hp
 obtain ⟨q1, q2⟩ := hk ⟨w.heap.size, []⟩ [] w args' (Cells.plain_refl [] hp) (HRel.nil _ _ _) rfl (Nat.le_refl _) (Bd.ge_at (Nat.le_trans p5.1 p4)) p6
 refine ⟨q1, q2.mono ?_⟩
 rintro e w' ⟨v, v', ρ', h', c', rfl, r1, r2, r3, r4, r5, hv⟩
 have hv := hR _ _ _ hv
 subst hv
 obtain ⟨u', rfl, hu⟩ := vrel_two r1
 cases hu
 subst p3
 exact ⟨_, _, ρ, h, _, rfl, VRel.two .pnil (.int _ _), Rho.le_refl ρ, rfl, hH.keep (Rho.le_refl ρ) (fun k hk => r5.below.block k hk), Bel.of r5.below p4, rfl, rfl, rfl⟩
theorem new_no {a : Int} (h : okN a = false) {h0 : Heap} {c : Nat} : KC E0 16 [ii a] h0 c (fun v h' c' => v = .tuple #[.pointer none, ii newE] ∧ h' = h0 ∧ c' = c) := by
 have hf : f16 0 a = some (1, false) := by
  unfold okN at h
  unfold f16
  cases h1 : decide (a < 1) with
  | true => rfl
  | false =>
   rw [h1] at h
   simp only [Bool.not_false, Bool.true_and, Bool.not_eq_false'] at h
   rw [h]
   rfl
 exact err_kc rfl (f16_ok 0 a _ hf) fun v h' c' q => q
theorem get_cn {K : Nat} {args : List Value} {n : Int} {s : BkS} (hp : args.all plain = true) (hk : KC E0 K args [] 0 (fun v h' _ => GetH (n, some s) v h')) : CN E0 K args (fun u => .tuple #[u, ii n]) (bookX s) := by
 intro w hI hsz
 obtain ⟨q1, q2⟩ := hk ⟨w.heap.size, []⟩ [] w args (Cells.plain_refl [] hp) (HRel.nil _ _ _) rfl (Nat.le_refl _) (Bd.ge_at hsz) hI
 refine ⟨q1, q2.mono ?_⟩
 rintro e w' ⟨v, v', ρ', h', c', rfl, r1, r2, r3, r4, r5, i, rfl, hi⟩
 obtain ⟨L, hL, _⟩ := r4.ok i _ hi
 obtain ⟨F, f1, f2, f3, f4, f5, f6, _⟩ := r4.extAt hi hL
 obtain ⟨u', rfl, hu⟩ := vrel_two r1
 have lo : ∀ {x : Nat}, (⟨w.heap.size, []⟩ : Bd).may x → w.heap.size ≤ x := fun m => by
  rcases m with m | m
  ·exact m
  ·cases m
 cases hu with
 | ptr _ _ M hM =>
  rw [hL] at hM; cases hM
  refine ⟨L.b, F, ?_, r5.below, lo f5, f1, f2, fun x hx => lo (f6 x hx)⟩
  rw [f3]
open Go.RowKit Go.ChangeMaps Go.MapKept Go.Maps Go.Sort Go.Shelf Go.Proofs
set_option linter.unusedSimpArgs false
theorem wpListIn_range_raw {F : Fence} {n : Nat} {P : Program} (w : World) {ops : Array Oper} {rest : List Oper} {o : Oper} {a : Act} {Q : Exit → Act → World → Prop} (hg : o.guard = none) (m : Operand) (t : TypeId) (hop : o.op = Op.range t m) (k e : TypeId) (ht : P.underlying t = some (.map k e)) (b : Nat) {E : Array MapEntry} {clock : Nat}
 (hm : a.eval m = .map (some b)) (hb : w.heap[b]? = some (.map E clock))
 (hK : wpListIn F n P ops Q rest (a.put o.dst (.pointer (some ⟨w.heap.size, 0, none⟩))) (w.alloc (.mapIter (some b) clock #[] clock))) : wpListIn F n P ops Q (o :: rest) a w := by
 refine wpListIn_plain hg fun K' hK' => ?_
 have hrun : (Instr.range t (.map (some b))).run P w = .ok (.pointer (some ⟨w.heap.size, 0, none⟩)) (w.alloc (.mapIter (some b) clock #[] clock)) := by
  simp [Instr.range, run_underlying ht, MapKept.run_getObj_map hb, Result.andThen, go_sem]
 unfold Oper.wpIn
 refine ⟨by simp [Oper.about, hop], ?_⟩
 rw [Oper.semAt_plain F _ _ (by rw [hop]; intro c hc'; cases hc')]
 simp [execOp, hop, hm, hrun, Result.andThen]
 exact hK' _ _ hK
theorem wpListIn_next_raw {F : Fence} {n : Nat} {P : Program} (w : World) {ops : Array Oper} {rest : List Oper} {o : Oper} {a : Act} {Q : Exit → Act → World → Prop} (hg : o.guard = none) (it : Operand) (hop : o.op = Op.next it false) (r b since c0 : Nat) (seen : Array Nat) {E : Array MapEntry} {clock : Nat}
 (hit : a.eval it = .pointer (some ⟨r, 0, none⟩)) (hr : w.heap[r]? = some (.mapIter (some b) since seen c0)) (hb : w.heap[b]? = some (.map E clock)) (hold : ∀ x ∈ E.toList, x.born < since) (hsc : since ≤ c0)
 (hDone : (leftOf E seen).size = 0 → wpListIn F n P ops Q rest (a.put o.dst (.tuple #[.bool false])) w)
 (hMore : ∀ (e : MapEntry) (W : World), e ∈ E.toList → seen.contains e.born = false → W.heap[b]? = some (.map E clock) → W.heap[r]? = some (.mapIter (some b) since (seen.push e.born) clock) → w.grownBy W (some r) → W.heap.size = w.heap.size →
  wpListIn F n P ops Q rest (a.put o.dst (.tuple #[.bool true, e.key, e.val])) W) : wpListIn F n P ops Q (o :: rest) a w := by
 refine wpListIn_plain hg fun K' hK' => ?_
 unfold Oper.wpIn
 refine ⟨by simp [Oper.about, hop], ?_⟩
 rw [Oper.semAt_plain F _ _ (by rw [hop]; intro c hc'; cases hc')]
 rcases run_next_at (P := P) w o.type r b since c0 seen E clock hr hb hold hsc with ⟨h0, hrun⟩ | ⟨e, he, w1, hw1, hrun⟩
 ·simp [execOp, hop, hit, hrun, Result.andThen]
  exact hK' _ _ (hDone h0)
 ·simp [execOp, hop, hit, hrun, Result.andThen]
  have hwh : w1.heap = w.heap := by rcases hw1 with rfl | rfl <;> rfl
  have hrs : r < w.heap.size := (Array.getElem?_eq_some_iff.1 hr).1
  have hbr : b ≠ r := fun q => by rw [q, hr] at hb; cases hb
  have hmem : e ∈ E.toList ∧ seen.contains e.born = false := by
   unfold leftOf at he
   simpa using he
  refine hK' _ _ (hMore e (setBlock w1 r (.mapIter (some b) since (seen.push e.born) clock)) hmem.1 hmem.2 ?_ ?_ ⟨?_, ?_, ?_, ?_, ?_⟩ ?_)
  ·show (w1.heap.setIfInBounds r _)[b]? = _
   rw [hwh, Array.getElem?_setIfInBounds, if_neg (Ne.symm hbr), hb]
  ·show (w1.heap.setIfInBounds r _)[r]? = _
   rw [hwh, Array.getElem?_setIfInBounds, if_pos rfl, if_pos hrs]
  ·rcases hw1 with rfl | rfl <;> rfl
  ·rcases hw1 with rfl | rfl <;> rfl
  ·rcases hw1 with rfl | rfl <;> rfl
  ·show w.heap.size ≤ (w1.heap.setIfInBounds r _).size
   rw [hwh, Array.size_setIfInBounds]
   exact Nat.le_refl _
  ·intro i hi hne
   show (w1.heap.setIfInBounds r _)[i]? = _
   rw [hwh, Array.getElem?_setIfInBounds, if_neg (fun q => hne (by rw [q]))]
  ·show (w1.heap.setIfInBounds r _).size = _
   rw [hwh, Array.size_setIfInBounds]
theorem vis_len {E : Array MapEntry} {seen : Array Nat} {vis : List MapEntry} {e : MapEntry} (h1 : ∀ x, x ∈ vis → x ∈ E.toList) (h2 : seen.toList = vis.map (·.born)) (h3 : (vis.map (·.born)).Nodup) (he : e ∈ E.toList) (hne : seen.contains e.born = false) : vis.length < E.size := by
 have hn : ((vis ++ [e]).map (·.born)).Nodup := by
  rw [List.map_append, List.nodup_append]
  refine ⟨h3, by simp, fun a ha b hb q => ?_⟩
  have hb' : b = e.born := by simpa using hb
  rw [← h2] at ha
  have : seen.contains e.born = true := by
   rw [← hb', ← q]
   simpa using ha
  rw [hne] at this
  cases this
 have hv := nodup_len (m := E.toList.map (·.born)) hn (fun x hx => by
  obtain ⟨v, v1, v2⟩ := List.mem_map.1 hx
  refine List.mem_map.2 ⟨v, ?_, v2⟩
  rcases List.mem_append.1 v1 with y | y
  ·exact h1 v y
  ·rw [List.mem_singleton.1 y]; exact he)
 rw [List.length_map, List.length_map, List.length_append] at hv
 have hv2 : E.toList.length = E.size := Array.length_toList
 simp at hv
 omega
theorem vis_more {E : Array MapEntry} {seen : Array Nat} {vis : List MapEntry} {e : MapEntry} (h1 : ∀ x, x ∈ vis → x ∈ E.toList) (h2 : seen.toList = vis.map (·.born)) (h3 : (vis.map (·.born)).Nodup) (he : e ∈ E.toList) (hne : seen.contains e.born = false) :
 (∀ x, x ∈ vis ++ [e] → x ∈ E.toList) ∧ (seen.push e.born).toList = (vis ++ [e]).map (·.born) ∧ ((vis ++ [e]).map (·.born)).Nodup := by
 refine ⟨fun x hx => ?_, ?_, ?_⟩
 ·rcases List.mem_append.1 hx with y | y
  ·exact h1 x y
  ·rw [List.mem_singleton.1 y]; exact he
 ·rw [Array.toList_push, h2, List.map_append]; rfl
 ·rw [List.map_append, List.nodup_append]
  refine ⟨h3, by simp, fun a ha b hb q => ?_⟩
  have hb' : b = e.born := by simpa using hb
  rw [← h2] at ha
  have : seen.contains e.born = true := by
   rw [← hb', ← q]
   simpa using ha
  rw [hne] at this
  cases this
set_option maxRecDepth 100000 in
set_option maxHeartbeats 2000000 in
theorem keysW (F : Fence) (n : Nat) (hf : F.fn 104) (hro : F.round = none) (hn : 1 ≤ n) (Bm b : Nat) {E : Array MapEntry} {clock : Nat} (φ : MapEntry → Int) (hφ : ∀ e, e ∈ E.toList → e.key = encZ (φ e)) (hs : Stm E clock) (w : World)
 (hBm : Bm < w.heap.size) (hm : w.cell? ⟨Bm, 0, none⟩ = some (.map (some b))) (hb : w.heap[b]? = some (.map E clock)) :
 SeqGives F n Proofs.Tryz.prog 104 #[.pointer (some ⟨Bm, 0, none⟩)] encZ (fun ss => ss.Perm (E.toList.map φ)) E.size w := fun l J W hW hJ hY h0 => by
 have hbl : b < w.heap.size := (Array.getElem?_eq_some_iff.1 hb).1
 have hm' : W.cell? ⟨Bm, 0, none⟩ = some (.map (some b)) := (hW.cell (p := ⟨Bm, 0, none⟩) hBm).trans hm
 have hb' : W.heap[b]? = some (.map E clock) := (hW.block b hbl).trans hb
 have hbW : b < W.heap.size := Nat.lt_of_lt_of_le hbl hW.size
 show CallsIn F n Proofs.Tryz.prog 104 #[.func (.yield l) #[] #[], .pointer (some ⟨Bm, 0, none⟩)] W _
 refine callsIn_of_wp Proofs.Tryz.func104 rfl hf ?_ hro
 simp only [Proofs.Tryz.ntmps104, List.size_toArray, List.length_cons, List.length_nil, Nat.reduceAdd, Nat.reduceSub, Array.replicate_succ, Array.replicate_zero, List.push_toArray, List.append_toArray, List.nil_append, List.cons_append]
 gi_wp2_with (first
  | (gi_at_range; refine wpListIn_range_raw _ rfl _ _ rfl 3 4 Proofs.Tryz.underlying48 b rfl hb' ?_)
  | gi_in)
 go_frame
 gi_loopw [3] (fun _ wr => ∃ (vis : List MapEntry) (seen : Array Nat), wr.heap[b]? = some (.map E clock) ∧ wr.heap[W.heap.size]? = some (.mapIter (some b) clock seen clock) ∧ (∀ e, e ∈ vis → e ∈ E.toList) ∧ seen.toList = vis.map (·.born) ∧ (vis.map (·.born)).Nodup ∧ J (vis.map φ) wr)
  (fun _ wr => match wr.heap[W.heap.size]? with | some (.mapIter _ _ seen _) => (leftOf E seen).size | _ => 0)
 case atStart =>
  refine ⟨[], #[], ?_, heap_new W _, fun e he => (by cases he), rfl, List.nodup_nil, hJ [] W _ none h0 (World.grownBy_alloc W _ none) (fun r e => by cases e)⟩
  rw [heap_old W _ hbW]; exact hb'
 case round =>
  obtain ⟨vis, seen, g1, g2, g3, g4, g5, g6⟩ := hrel
  gi_wp2_with (first
   | (gi_at_next; refine wpListIn_next_raw _ rfl _ rfl W.heap.size b clock clock seen rfl g2 g1 hs.1 (Nat.le_refl _) ?_ ?_)
   | gi_in)
  ·intro hc0
   have hc0 : leftOf E seen = #[] := Array.eq_empty_of_size_eq_zero (by simpa using hc0)
   have hp := vis_perm hs.2 hc0 g3 g4 g5
   gi_wp2
   go_end0
   exact ⟨⟨_, rfl⟩, vis.map φ, hp.map φ, g6⟩
  ·intro e W2 he hne k1 k2 k3 k4
   have hJ2 : J (vis.map φ) W2 := hJ _ wr W2 (some W.heap.size) g6 k3 (fun r q => by cases q; exact ⟨Nat.le_refl _, _, g2, rfl⟩)
   have he' : e ∈ E.toList := by simpa using he
   have hne' : seen.contains e.born = false := by simpa using hne
   have hen := run_entry_at (P := Proofs.Tryz.prog) W2 W.heap.size b clock seen E clock e k2 k1 he' hs.2
   rw [hφ e he'] at hen
   obtain ⟨fn, tmps, assign, body, hy, hR⟩ := hY (vis.map φ) (φ e) W2 hJ2 (by rw [List.length_map]; exact vis_len g3 g4 g5 he' hne')
   clear k4
   gi_wp2
   refine hR.mono ?_
   rintro en W3 ⟨rfl, hJ3, hk3⟩
   gi_wp2
   obtain ⟨v1, v2, v3⟩ := vis_more g3 g4 g5 he' hne'
   have i3 := hk3.same _ _ k2 rfl
   go_roundw
   case rel => exact ⟨vis ++ [e], seen.push e.born, hk3.same _ _ k1 rfl, i3, v1, v2, v3, by rw [List.map_append]; exact hJ3⟩
   case measure => rw [i3, g2]; exact left_lt he' hne'
set_option maxRecDepth 100000 in
set_option maxHeartbeats 2000000 in
theorem valsW (F : Fence) (n : Nat) (hf : F.fn 101) (hro : F.round = none) (hn : 1 ≤ n) (Bm b : Nat) {E : Array MapEntry} {clock : Nat} (φ : MapEntry → Bl) (hφ : ∀ e, e ∈ E.toList → e.val = blV (φ e)) (hs : Stm E clock) (w : World)
 (hBm : Bm < w.heap.size) (hm : w.cell? ⟨Bm, 0, none⟩ = some (.map (some b))) (hb : w.heap[b]? = some (.map E clock)) :
 SeqGives F n Proofs.Tryz.prog 101 #[.pointer (some ⟨Bm, 0, none⟩)] blV (fun ss => ss.Perm (E.toList.map φ)) E.size w := fun l J W hW hJ hY h0 => by
 have hbl : b < w.heap.size := (Array.getElem?_eq_some_iff.1 hb).1
 have hm' : W.cell? ⟨Bm, 0, none⟩ = some (.map (some b)) := (hW.cell (p := ⟨Bm, 0, none⟩) hBm).trans hm
 have hb' : W.heap[b]? = some (.map E clock) := (hW.block b hbl).trans hb
 have hbW : b < W.heap.size := Nat.lt_of_lt_of_le hbl hW.size
 show CallsIn F n Proofs.Tryz.prog 101 #[.func (.yield l) #[] #[], .pointer (some ⟨Bm, 0, none⟩)] W _
 refine callsIn_of_wp Proofs.Tryz.func101 rfl hf ?_ hro
 simp only [Proofs.Tryz.ntmps101, List.size_toArray, List.length_cons, List.length_nil, Nat.reduceAdd, Nat.reduceSub, Array.replicate_succ, Array.replicate_zero, List.push_toArray, List.append_toArray, List.nil_append, List.cons_append]
 gi_wp2_with (first
  | (gi_at_range; refine wpListIn_range_raw _ rfl _ _ rfl 9 74 Proofs.Tryz.underlying45 b rfl hb' ?_)
  | gi_in)
 go_frame
 gi_loopw [4] (fun _ wr => ∃ (vis : List MapEntry) (seen : Array Nat), wr.heap[b]? = some (.map E clock) ∧ wr.heap[W.heap.size]? = some (.mapIter (some b) clock seen clock) ∧ (∀ e, e ∈ vis → e ∈ E.toList) ∧ seen.toList = vis.map (·.born) ∧ (vis.map (·.born)).Nodup ∧ J (vis.map φ) wr)
  (fun _ wr => match wr.heap[W.heap.size]? with | some (.mapIter _ _ seen _) => (leftOf E seen).size | _ => 0)
 case atStart =>
  refine ⟨[], #[], ?_, heap_new W _, fun e he => (by cases he), rfl, List.nodup_nil, hJ [] W _ none h0 (World.grownBy_alloc W _ none) (fun r e => by cases e)⟩
  rw [heap_old W _ hbW]; exact hb'
 case round =>
  obtain ⟨vis, seen, g1, g2, g3, g4, g5, g6⟩ := hrel
  gi_wp2_with (first
   | (gi_at_next; refine wpListIn_next_raw _ rfl _ rfl W.heap.size b clock clock seen rfl g2 g1 hs.1 (Nat.le_refl _) ?_ ?_)
   | gi_in)
  ·intro hc0
   have hc0 : leftOf E seen = #[] := Array.eq_empty_of_size_eq_zero (by simpa using hc0)
   have hp := vis_perm hs.2 hc0 g3 g4 g5
   gi_wp2
   go_end0
   exact ⟨⟨_, rfl⟩, vis.map φ, hp.map φ, g6⟩
  ·intro e W2 he hne k1 k2 k3 k4
   have hJ2 : J (vis.map φ) W2 := hJ _ wr W2 (some W.heap.size) g6 k3 (fun r q => by cases q; exact ⟨Nat.le_refl _, _, g2, rfl⟩)
   have he' : e ∈ E.toList := by simpa using he
   have hne' : seen.contains e.born = false := by simpa using hne
   have hen := run_entry_at (P := Proofs.Tryz.prog) W2 W.heap.size b clock seen E clock e k2 k1 he' hs.2
   rw [hφ e he'] at hen
   obtain ⟨nm, by_, kl, hx⟩ : ∃ nm by_ kl, blV (φ e) = .agg #[.string nm, .int .i64 by_, .int .i64 kl] := ⟨_, _, _, rfl⟩
   rw [hx] at hen
   obtain ⟨W2b, hW2b⟩ : ∃ W2b, W2.alloc (.cells #[.string nm, .int .i64 by_, .int .i64 kl] 74) = W2b := ⟨_, rfl⟩
   have hJ2b : J (vis.map φ) W2b := hJ _ W2 W2b none hJ2 (by rw [← hW2b]; exact World.grownBy_alloc W2 _ none) (fun r q => by cases q)
   obtain ⟨fn, tmps, assign, body, hy, hR⟩ := hY (vis.map φ) (φ e) W2b hJ2b (by rw [List.length_map]; exact vis_len g3 g4 g5 he' hne')
   rw [hx] at hy
   subst hW2b
   clear k4
   gi_wp2
   refine hR.mono ?_
   rintro en W3 ⟨rfl, hJ3, hk3⟩
   gi_wp2
   obtain ⟨v1, v2, v3⟩ := vis_more g3 g4 g5 he' hne'
   have m3 := hk3.same b (.map E clock) (by rw [heap_old _ _ (Array.getElem?_eq_some_iff.1 k1).1]; exact k1) rfl
   have i3 := hk3.same W.heap.size _ (by rw [heap_old _ _ (Array.getElem?_eq_some_iff.1 k2).1]; exact k2) rfl
   go_roundw
   case rel => exact ⟨vis ++ [e], seen.push e.born, m3, i3, v1, v2, v3, by rw [List.map_append]; exact hJ3⟩
   case measure => rw [i3, g2]; exact left_lt he' hne'
def balCells (ss : List Bl) : List Value := rowC encL ss
def apAssignB : Code := (Code.region 2 #[{ dst := some 5, op := Op.alloc 74, type := 0, pos := "iter.go:51", after := #[], guard := none }, { dst := none, op := Op.store 74 (Operand.tmp 5) (Operand.tmp 7), type := 0, pos := "iter.go:51", after := #[{ on := 0, ground := Ground.data }, { on := 0, ground := Ground.phase }], guard := none }] false)
def apBodyB : Code := (Code.block 1 (Code.region 3 #[{ dst := some 8, op := Op.load 58 (Operand.tmp 2), type := 58, pos := "iter.go:52", after := #[], guard := none }, { dst := some 9, op := Op.load 74 (Operand.tmp 5), type := 74, pos := "iter.go:52", after := #[], guard := none }, { dst := some 10, op := Op.buildSlice 58 1 #[(0, Operand.tmp 9)], type := 58, pos := "iter.go:52", after := #[{ on := 1, ground := Ground.data }], guard := none }, { dst := some 11, op := Op.call { callee := Callee.builtin Builtin.append, args := #[Operand.tmp 8, Operand.tmp 10], argTypes := #[58, 58] }, type := 58, pos := "iter.go:52", after := #[{ on := 0, ground := Ground.data }, { on := 2, ground := Ground.data }], guard := none }, { dst := none, op := Op.store 58 (Operand.tmp 2) (Operand.tmp 11), type := 0, pos := "iter.go:52", after := #[{ on := 3, ground := Ground.data }, { on := 3, ground := Ground.chain }, { on := 0, ground := Ground.phase }, { on := 1, ground := Ground.phase }, { on := 2, ground := Ground.phase }, { on := 3, ground := Ground.phase }], guard := none }] false))
def apRecB (fn : FuncId) (sv : Value) (Bs D : Nat) (st : LoopState) (pend : Option Code) : Loop :=
 { state := st, pending := pend, fn, tmps := #[.slice none 0 0, sv, .pointer (some ⟨Bs, 0, none⟩), undef, .slice none 0 0, undef, sv, undef, undef, undef, undef, undef, undef], params := #[7], assign := apAssignB, body := apBodyB, defers := D }
structure ApB (w0 : World) (fn : FuncId) (sv : Value) (Bs l D : Nat) (ss : List Bl) (W : World) : Prop where
 box : ∃ v, W.heap[Bs]? = some (.cells #[v] 58 (0, 0)) ∧ W.ownsRow w0.heap.size 74 3 v ss.length (balCells ss) ∧ (v = .slice none 0 0 ↔ ss = [])
 L : W.heap[l]? = some (.loop (apRecB fn sv Bs D .ready none))
 K : W.heap[D]? = some (.deferred (some []))
 below : Below w0.heap.size w0 W
theorem apB_abides (w0 : World) (fn : FuncId) (sv : Value) (Bs l D B : Nat) (hB : w0.heap.size ≤ B) : AbidesFrom B (ApB w0 fn sv Bs l D) := fun s W W' row h hg hrow => by
 have hrow' : ∀ r, row = some r → ∃ o : Obj, W.heap[r]? = some o ∧ o.isWalk = true := fun r e => (hrow r e).2
 obtain ⟨v, hv, hr, hn⟩ := h.box
 exact ⟨⟨v, (grownBy_keeps hg hrow' hv rfl).trans hv, ownsRow_abides_a hr hg hrow', hn⟩, (grownBy_keeps hg hrow' h.L rfl).trans h.L, (grownBy_keeps hg hrow' h.K rfl).trans h.K,
  h.below.grown hg h.below.size (fun k e => Nat.le_trans hB (hrow k e).1)⟩
theorem cells_three (W : World) (a b c : Value) (t : TypeId) (j : Nat) (u : Value) (hj : [a, b, c][j]? = some u) : (W.alloc (.cells #[a, b, c] t)).cell? ((⟨W.heap.size, 0, none⟩ : Addr).add j) = some u := by
 have hn : (W.alloc (.cells #[a, b, c] t)).heap[W.heap.size]? = some (.cells #[a, b, c] t (0, 0)) := World.alloc_heap_new W _
 rcases j with _ | _ | _ | j
 ·cases hj; exact cell_of_heap hn (i := 0)
 ·cases hj; exact cell_of_heap hn (i := 1)
 ·cases hj; exact cell_of_heap hn (i := 2)
 ·cases hj
set_option maxRecDepth 100000 in
set_option maxHeartbeats 4000000 in
theorem apYieldB (F : Fence) (m : Nat) (w0 : World) (fn : FuncId) (hfn : F.fn fn) (sv : Value) (Bs l D : Nat) (hBl : Bs ≠ l) (hDl : D ≠ l) (hDB : D ≠ Bs) (h0B : w0.heap.size ≤ Bs) (h0l : w0.heap.size ≤ l)
 (N : Nat) (hNb : N * 32 ≤ 140737488355328) (ss : List Bl) (x : Bl) (W : World) (h : ApB w0 fn sv Bs l D ss W) (hlen : ss.length < N) :
 YieldAt F m Proofs.Tryz.prog l #[blV x] W fun e W' => e = .returned (.bool true) ∧ ApB w0 fn sv Bs l D (ss ++ [x]) W' ∧ KeepsWalks W W' := by
 have hne : (58 : Nat) ≠ 74 := by decide
 obtain ⟨i0, hi, hz0, hz1, hz2⟩ := info_parts (P := Proofs.Tryz.prog) (e := 74) (z := .agg #[.string ⟨#[]⟩, .int .i64 0, .int .i64 0]) (size := 3) (bytes := 32) (by kernel_rfl)
 obtain ⟨v, hv, hrow, _⟩ := h.box
 refine ⟨fn, #[.slice none 0 0, sv, .pointer (some ⟨Bs, 0, none⟩), undef, .slice none 0 0, undef, sv, blV x, undef, undef, undef, undef, undef], apAssignB, apBodyB, by simpa [apRecB] using run_yield (P := Proofs.Tryz.prog) (args := #[blV x]) h.L rfl, roundIn_of_wpIn hfn ?_⟩
 obtain ⟨nm, by_, kl⟩ := x
 have hx : blV (nm, by_, kl) = .agg #[.string nm, .int .i64 by_, .int .i64 kl] := rfl
 rw [hx]
 have hl : l < W.heap.size := (Array.getElem?_eq_some_iff.1 h.L).1
 have hBlt0 : Bs < W.heap.size := (Array.getElem?_eq_some_iff.1 hv).1
 have hDlt0 : D < W.heap.size := (Array.getElem?_eq_some_iff.1 h.K).1
 -- the bale is boxed
 obtain ⟨Wa, hWa⟩ : ∃ Wa, W.alloc (.cells #[.string nm, .int .i64 by_, .int .i64 kl] 74) = Wa := ⟨_, rfl⟩
 have hva : Wa.heap[Bs]? = some (.cells #[v] 58 (0, 0)) := by rw [← hWa]; exact (Below.heap_alloc _ _ Bs hBlt0).trans hv
 have hLa : Wa.heap[l]? = some (.loop (apRecB fn sv Bs D .ready none)) := by rw [← hWa]; exact (Below.heap_alloc _ _ l hl).trans h.L
 have hKa : Wa.heap[D]? = some (.deferred (some [])) := by rw [← hWa]; exact (Below.heap_alloc _ _ D hDlt0).trans h.K
 have hsa : Wa.heap.size = W.heap.size + 1 := by rw [← hWa]; simp
 have hxa : Wa.heap[W.heap.size]? = some (.cells #[.string nm, .int .i64 by_, .int .i64 kl] 74 (0, 0)) := by rw [← hWa]; exact World.alloc_heap_new W _
 have hrowa : Wa.ownsRow w0.heap.size 74 3 v ss.length (balCells ss) := by rw [← hWa]; exact hrow.alloc _
 have hba : Below w0.heap.size w0 Wa := by rw [← hWa]; exact h.below.alloc h.below.size _
 have hka : KeepsWalks W Wa := by rw [← hWa]; exact KeepsWalks.alloc _ _
 have hla : l < Wa.heap.size := by omega
 have hbr := run_beginRound (P := Proofs.Tryz.prog) hLa rfl
 obtain ⟨W2, hW2⟩ : ∃ W2, Wa.putObj l (.loop { apRecB fn sv Bs D .ready none with state := .busy }) = W2 := ⟨_, rfl⟩
 rw [hW2] at hbr
 have hg2 : Wa.grownBy W2 (some l) := by rw [← hW2]; exact grownBy_putObj_a _ _ _
 have hk2 : KeepsWalks W W2 := hka.trans (by rw [← hW2]; exact KeepsWalks.putObj _ hLa rfl)
 have hv2 : W2.heap[Bs]? = some (.cells #[v] 58 (0, 0)) := by rw [← hW2]; exact (World.putObj_heap_other hBl).trans hva
 have hK2 : W2.heap[D]? = some (.deferred (some [])) := by rw [← hW2]; exact (World.putObj_heap_other hDl).trans hKa
 have hL2 : W2.heap[l]? = some (.loop { apRecB fn sv Bs D .ready none with state := .busy }) := by rw [← hW2]; exact World.putObj_heap_same hla
 have hx2 : W2.heap[W.heap.size]? = some (.cells #[.string nm, .int .i64 by_, .int .i64 kl] 74 (0, 0)) := by rw [← hW2]; exact (World.putObj_heap_other (by omega)).trans hxa
 have hrow2 : W2.ownsRow w0.heap.size 74 3 v ss.length (balCells ss) := hrowa.kept hg2 (ownsRow_ne_a hrowa hLa (fun cur e => by first | cases e | exact hne (Obj.cells.inj e).2.1))
 have hb2 : Below w0.heap.size w0 W2 := hba.grown hg2 hba.size (fun k e => by cases e; exact h0l)
 have ne_of : ∀ {j : Nat} {o : Obj}, W2.heap[j]? = some o → (∀ cur, o ≠ .cells cur 74 (0, 0)) → some j ≠ v.ownBlock := fun hj hno => by
  rcases ownsRow_ne_a hrow2 hj hno with e | e
  ·rw [e]; simp
  ·exact fun e' => e e'.symm
 have hBlt : Bs < W2.heap.size := (Array.getElem?_eq_some_iff.1 hv2).1
 have hl2 : l < W2.heap.size := (Array.getElem?_eq_some_iff.1 hL2).1
 have hDlt : D < W2.heap.size := (Array.getElem?_eq_some_iff.1 hK2).1
 obtain ⟨hc2, hf2⟩ := cell_of_box_a hv2
 have c0 : W2.cell? ⟨W.heap.size, 0, none⟩ = some (.string nm) := cell_of_heap hx2 (i := 0)
 have c1 : W2.cell? ⟨W.heap.size, 1, none⟩ = some (.int .i64 by_) := cell_of_heap hx2 (i := 1)
 have c2 : W2.cell? ⟨W.heap.size, 2, none⟩ = some (.int .i64 kl) := cell_of_heap hx2 (i := 2)
 have hnews : ∀ (j : Nat) (u : Value), [Value.string nm, .int .i64 by_, .int .i64 kl][j]? = some u → (W2.alloc (.cells #[.string nm, .int .i64 by_, .int .i64 kl] 74)).cell? ((⟨W2.heap.size, 0, none⟩ : Addr).add j) = some u := fun j u hj => cells_three W2 _ _ _ _ j u hj
 clear hW2
 unfold apAssignB
 gi_wp2_with gi_round_op_a
 subst hWa
 unfold apBodyB
 gi_wp2_with (first
  | (gi_at_builtin; refine wpListIn_append_own _ rfl _ _ 58 rfl w0.heap.size 74 i0 (.agg #[.string ⟨#[]⟩, .int .i64 0, .int .i64 0]) 3 32 Proofs.Tryz.underlying58 hi hz0 hz1 hz2 rfl (by decide) _ _ _ rfl (hrow2.alloc _) ⟨W2.heap.size, 0, none⟩ 1 1 [.string nm, .int .i64 by_, .int .i64 kl] rfl rfl hnews (fun u hu => by simp at hu; rcases hu with rfl | rfl | rfl <;> rfl) (by unfold maxLen; omega) (by omega) (by have := hb2.size; simp; omega) ?_; intro v' w3 hown' hg3 hnil3
     have hv3 : w3.heap[Bs]? = some (.cells #[v] 58 (0, 0)) := (hg3.block Bs (by simp; omega) (ne_of hv2 (fun cur e => by first | cases e | exact hne (Obj.cells.inj e).2.1))).trans ((Below.heap_alloc _ _ Bs hBlt).trans hv2)
     obtain ⟨hc3, hf3⟩ := cell_of_box_a hv3
     obtain ⟨g', cap', cur', rfl, hbase', hgb', hr1, hr2, hr3, hr4⟩ : ∃ g' cap' cur', v' = .slice (some ⟨g', 0, none⟩) (ss.length + 1) cap' ∧ w0.heap.size ≤ g' ∧ w3.heap[g']? = some (.cells cur' 74 (0, 0)) ∧ ss.length + 1 ≤ cap' ∧ cap' ≤ maxLen ∧ cur'.size = cap' * 3 ∧ cur'.toList.take ((ss.length + 1) * 3) = balCells ss ++ [.string nm, .int .i64 by_, .int .i64 kl] := by
      rcases hown'.2 with ⟨_, h0⟩ | h'
      ·exact absurd h0 (by omega)
      ·exact h'
     go_frame)
  | gi_round_op_a)
 have hg3' : (W2.alloc (.cells #[.string nm, .int .i64 by_, .int .i64 kl] 74)).grownBy w3 v.ownBlock := hg3
 have hL3 : w3.heap[l]? = some (.loop { apRecB fn sv Bs D .ready none with state := .busy }) := (hg3'.block l (by simp; omega) (ne_of hL2 (fun cur e => by first | cases e | exact hne (Obj.cells.inj e).2.1))).trans ((Below.heap_alloc _ _ l hl2).trans hL2)
 have hK3 : w3.heap[D]? = some (.deferred (some [])) := (hg3'.block D (by simp; omega) (ne_of hK2 (fun cur e => by first | cases e | exact hne (Obj.cells.inj e).2.1))).trans ((Below.heap_alloc _ _ D hDlt).trans hK2)
 obtain ⟨w4, hw4⟩ : ∃ w4, w3.setCell ⟨Bs, 0, none⟩ (.slice (some ⟨g', 0, none⟩) (ss.length + 1) cap') = w4 := ⟨_, rfl⟩
 rw [hw4]
 have hg4 : w3.grownBy w4 (some Bs) := by rw [← hw4]; exact grownBy_setCell0_a _ _ _
 have hv4 : w4.heap[Bs]? = some (.cells #[.slice (some ⟨g', 0, none⟩) (ss.length + 1) cap'] 58 (0, 0)) := by rw [← hw4]; exact heap_setCell_box_a _ hv3
 have hL4 : w4.heap[l]? = some (.loop { apRecB fn sv Bs D .ready none with state := .busy }) := (hg4.block l (Array.getElem?_eq_some_iff.1 hL3).1 (fun e => hBl (by cases e; rfl))).trans hL3
 have hK4 : w4.heap[D]? = some (.deferred (some [])) := (hg4.block D (Array.getElem?_eq_some_iff.1 hK3).1 (fun e => hDB (by cases e; rfl))).trans hK3
 have hrow4 := hown'.kept hg4 (ownsRow_ne_a hown' hv3 (fun cur e => by first | cases e | exact hne (Obj.cells.inj e).2.1))
 have hl4 : l < w4.heap.size := (Array.getElem?_eq_some_iff.1 hL4).1
 have hb3 : Below w0.heap.size w0 w3 := (hb2.alloc hb2.size _).grown hg3' (by have := hb2.size; simp; omega) (fun k e => (hrow2.lt k e).1)
 have hb4 : Below w0.heap.size w0 w4 := hb3.grown hg4 hb3.size (fun k e => by cases e; exact h0B)
 have hk4 : KeepsWalks W w4 := ((hk2.trans (KeepsWalks.alloc _ _)).trans (KeepsWalks.of_grownBy hg3' (ownsRow_not_walk_a (hrow2.alloc _)))).trans (by rw [← hw4]; exact KeepsWalks.setCell _ _ _)
 clear hw4
 refine ⟨_, _, run_endRound none hL4, rfl, ⟨⟨_, (World.putObj_heap_other hBl).trans hv4, ?_, by simp⟩, World.putObj_heap_same hl4, (World.putObj_heap_other hDl).trans hK4, hb4.grown (grownBy_putObj_a _ _ _) hb4.size (fun k e => by cases e; exact h0l)⟩, hk4.trans (KeepsWalks.putObj _ hL4 rfl)⟩
 have := hrow4.kept (grownBy_putObj_a w4 l (.loop { { apRecB fn sv Bs D .ready none with state := .busy } with state := if (none : Option Code).isNone then .ready else .done, pending := none })) (ownsRow_ne_a hrow4 hL4 (fun cur e => by first | cases e | exact hne (Obj.cells.inj e).2.1))
 have hcells : balCells (ss ++ [(nm, by_, kl)]) = balCells ss ++ [.string nm, .int .i64 by_, .int .i64 kl] := by
  unfold balCells
  rw [rowC_append]
  rfl
 rw [hcells, List.length_append]
 exact this
set_option maxRecDepth 100000 in
set_option maxHeartbeats 2000000 in
theorem appendSeqB (F : Fence) (n : Nat) (h11 : F.fn 124) (hro : F.round = none) (hn : 2 ≤ n) (g : Nat) (lb : Array Value) (hFg : F.fn g) (eg : ∀ args w, (callFunc g args).run Proofs.Tryz.prog w = .ok (.enter g args) w)
 (S : List Bl → Prop) (N : Nat) (hNb : N * 32 ≤ 140737488355328) (w : World) (hseq : SeqGives F (n - 1) Proofs.Tryz.prog g lb blV S N w) :
 CallsIn F n Proofs.Tryz.prog 124 #[.slice none 0 0, .func (.func g) #[] lb] w fun e w' => ∃ (v : Value) (ss : List Bl), e = .returned v ∧ S ss ∧ w'.ownsRow w.heap.size 74 3 v ss.length (balCells ss) ∧ (v = .slice none 0 0 ↔ ss = []) ∧ Below w.heap.size w w' := by
 have h1 : 1 ≤ n := by omega
 have hne : (58 : Nat) ≠ 74 := by decide
 refine callsIn_of_wp_marks Proofs.Tryz.func124 rfl h11 ?_ hro
 simp only [Proofs.Tryz.ntmps124, List.size_toArray, List.length_cons, List.length_nil, Nat.reduceAdd, Nat.reduceSub, Array.replicate_succ, Array.replicate_zero, List.push_toArray, List.append_toArray, List.nil_append, List.cons_append]
 gi_wp2
 refine wpIn_rangeFunc ?_
 intro fn hfn
 rw [hro]
 obtain ⟨W0, hW0⟩ : ∃ W0, w.alloc (.cells #[.slice none 0 0] 58) = W0 := ⟨_, rfl⟩
 have hs0 : W0.heap.size = w.heap.size + 1 := by rw [← hW0]; simp
 have hv0 : W0.heap[w.heap.size]? = some (.cells #[.slice none 0 0] 58 (0, 0)) := by rw [← hW0]; exact World.alloc_heap_new w _
 have hb0 : Below w.heap.size w W0 := by rw [← hW0]; exact (Below.refl _ w).alloc (Nat.le_refl _) _
 rw [hW0]
 obtain ⟨W1, hW1⟩ : ∃ W1, (W0.alloc (.deferred (some []))).alloc (.loop (apRecB fn (.func (.func g) #[] lb) w.heap.size W0.heap.size .ready none)) = W1 := ⟨_, rfl⟩
 have hold : ∀ k, k < W0.heap.size → W1.heap[k]? = W0.heap[k]? := fun k hk => by
  rw [← hW1]; exact (Below.heap_alloc _ _ k (by simp; omega)).trans (Below.heap_alloc _ _ k hk)
 have hb1 : Below w.heap.size w W1 := by rw [← hW1]; exact (hb0.alloc hb0.size _).alloc (by have := hb0.size; simp; omega) _
 have hs1 : W1.heap.size = W0.heap.size + 2 := by rw [← hW1]; simp
 have hM : ApB w fn (.func (.func g) #[] lb) w.heap.size (W0.heap.size + 1) W0.heap.size [] W1 :=
  ⟨⟨_, (hold w.heap.size (by omega)).trans hv0, ⟨rfl, .inl ⟨rfl, rfl⟩⟩, by simp⟩,
   by rw [← hW1]; have := World.alloc_heap_new (W0.alloc (.deferred (some []))) (.loop (apRecB fn (.func (.func g) #[] lb) w.heap.size W0.heap.size .ready none)); rwa [World.size_alloc] at this,
   by rw [← hW1]; exact (Below.heap_alloc _ _ _ (by simp)).trans (World.alloc_heap_new W0 _), hb1⟩
 refine ⟨W0.heap.size + 1, [{ target := .collected W0.heap.size, args := #[] }], W1, { target := .fn (.func g) lb, args := #[.func (.yield (W0.heap.size + 1)) #[] #[]] }, W1, g,
  #[.func (.yield (W0.heap.size + 1)) #[] #[]] ++ lb, W1, ?_, ?_, ?_, ?_, fun _ => h1, ?_⟩
 ·rw [← hW1]; exact run_enterLoop_outer _ _ _ _ _
 ·simp [resolve, go_sem]
 ·intro f' hf'; simp [Target.leads] at hf'; subst hf'; exact hFg
 ·simp [invoke, go_sem, eg]
 ·refine (hseq (W0.heap.size + 1) (ApB w fn (.func (.func g) #[] lb) w.heap.size (W0.heap.size + 1) W0.heap.size) W1 hb1 (apB_abides _ _ _ _ _ _ _ hb1.size)
   (fun pre x W hJ hl => apYieldB F (n - 1 - 1) w fn hfn _ w.heap.size (W0.heap.size + 1) W0.heap.size (by omega) (by omega) (by omega) (Nat.le_refl _) (by omega) N hNb pre x W hJ hl) hM).mono ?_
  rintro e W2 ⟨⟨v0, rfl⟩, ss, hS, h2⟩
  obtain ⟨v, hv, hrow, hnil⟩ := h2.box
  have hend := run_endLoop (P := Proofs.Tryz.prog) h2.L (by simp [apRecB])
  obtain ⟨W3, hW3⟩ : ∃ W3, W2.putObj (W0.heap.size + 1) (.loop { apRecB fn (.func (.func g) #[] lb) w.heap.size W0.heap.size .ready none with state := .exhausted }) = W3 := ⟨_, rfl⟩
  rw [hW3] at hend
  have hg3 : W2.grownBy W3 (some (W0.heap.size + 1)) := by rw [← hW3]; exact grownBy_putObj_a _ _ _
  have hv3 : W3.heap[w.heap.size]? = some (.cells #[v] 58 (0, 0)) := by rw [← hW3]; exact (World.putObj_heap_other (by omega)).trans hv
  have hK3 : W3.heap[W0.heap.size]? = some (.deferred (some [])) := by rw [← hW3]; exact (World.putObj_heap_other (by omega)).trans h2.K
  have hrow3 := hrow.kept hg3 (ownsRow_ne_a hrow h2.L (fun cur e => by first | cases e | exact hne (Obj.cells.inj e).2.1))
  have hb3 : Below w.heap.size w W3 := h2.below.grown hg3 h2.below.size (fun k e => by cases e; omega)
  obtain ⟨hc3, hf3⟩ := cell_of_box_a hv3
  clear hW3
  refine ⟨none, W3, hend, ?_⟩
  gi_wp2
  rw [← hs0]
  refine ⟨by simp, .inl ⟨_, _, rfl, run_takeDeferred hK3, ?_⟩⟩
  exact ⟨_, results_tmp rfl _ _ _, v, ss, rfl, hS, hrow3.kept (grownBy_putObj_a _ _ _) (ownsRow_ne_a hrow3 hK3 (fun cur e => by first | cases e | exact hne (Obj.cells.inj e).2.1)), hnil, hb3.grown (grownBy_putObj_a _ _ _) hb3.size (fun k e => by cases e; omega)⟩
set_option maxHeartbeats 1000000 in
theorem collectB (F : Fence) (n : Nat) (h8 : F.fn 99) (h11 : F.fn 124) (hro : F.round = none) (hn : 3 ≤ n) (g : Nat) (lb : Array Value) (hFg : F.fn g) (eg : ∀ args w, (callFunc g args).run Proofs.Tryz.prog w = .ok (.enter g args) w)
 (S : List Bl → Prop) (N : Nat) (hNb : N * 32 ≤ 140737488355328) (w : World) (hseq : SeqGives F (n - 1 - 1) Proofs.Tryz.prog g lb blV S N w) :
 CallsIn F n Proofs.Tryz.prog 99 #[.func (.func g) #[] lb] w fun e w' => ∃ (v : Value) (ss : List Bl), e = .returned v ∧ S ss ∧ w'.ownsRow w.heap.size 74 3 v ss.length (balCells ss) ∧ (v = .slice none 0 0 ↔ ss = []) ∧ Below w.heap.size w w' := by
 have h1 : 1 ≤ n := by omega
 refine callsIn_of_wp Proofs.Tryz.func99 rfl h8 ?_ hro
 simp only [Proofs.Tryz.ntmps99, List.size_toArray, List.length_cons, List.length_nil, Nat.reduceAdd, Nat.reduceSub, Array.replicate_succ, Array.replicate_zero, List.push_toArray, List.append_toArray, List.nil_append, List.cons_append]
 gi_wp2_with (gi_at_call 124; refine (appendSeqB F (n - 1) h11 hro (by omega) g lb hFg eg S N hNb _ hseq).mono ?_; rintro e w' ⟨v, ss, rfl, hS, hrow, hnil, hb⟩)
 go_ret
 exact ⟨v, ss, rfl, hS, hrow, hnil, hb⟩
open Go.RowKit Go.Maps Go.Proofs
def insI (x : Int) : List Int → List Int
 | [] => [x]
 | y :: l => if x ≤ y then x :: y :: l else y :: insI x l
def sortI : List Int → List Int
 | [] => []
 | x :: l => insI x (sortI l)
theorem insI_perm (x : Int) : ∀ l : List Int, (insI x l).Perm (x :: l)
 | [] => List.Perm.refl _
 | y :: l => by
  unfold insI
  split
  ·exact List.Perm.refl _
  ·exact ((insI_perm x l).cons y).trans (List.Perm.swap x y l)
theorem sortI_perm : ∀ l : List Int, (sortI l).Perm l
 | [] => List.Perm.refl _
 | x :: l => (insI_perm x (sortI l)).trans ((sortI_perm l).cons x)
theorem insI_asc (x : Int) : ∀ l : List Int, l.Pairwise (· ≤ ·) → (insI x l).Pairwise (· ≤ ·)
 | [], _ => List.pairwise_singleton _ _
 | y :: l, h => by
  obtain ⟨h1, h2⟩ := List.pairwise_cons.1 h
  unfold insI
  split
  ·rename_i hxy
   refine List.pairwise_cons.2 ⟨fun z hz => ?_, h⟩
   rcases List.mem_cons.1 hz with rfl | hz
   ·exact hxy
   ·have := h1 z hz; omega
  ·rename_i hxy
   refine List.pairwise_cons.2 ⟨fun z hz => ?_, insI_asc x l h2⟩
   rcases List.mem_cons.1 ((insI_perm x l).mem_iff.1 hz) with rfl | hz
   ·omega
   ·exact h1 z hz
theorem sortI_asc : ∀ l : List Int, (sortI l).Pairwise (· ≤ ·)
 | [] => List.Pairwise.nil
 | x :: l => insI_asc x _ (sortI_asc l)
theorem sortI_eq (l : List Int) : sortI l = l.mergeSort (fun x y => decide (x ≤ y)) := by
 refine List.Perm.eq_of_pairwise (le := fun x y : Int => x ≤ y) (fun a b _ _ h1 h2 => by omega) (sortI_asc l) ?_ ((sortI_perm l).trans (List.mergeSort_perm l _).symm)
 have := List.pairwise_mergeSort (le := fun x y : Int => decide (x ≤ y)) (fun a b c h1 h2 => by simp at *; omega) (fun a b => by simp; omega) l
 exact this.imp (fun h => by simpa using h)
theorem rowC_sc {α : Type} {f : α → List Value} (hs : ∀ x, (f x).all scal = true) (xs : List α) : (rowC f xs).all scal = true := by
 induction xs with
 | nil => rfl
 | cons x l ih => rw [rowC_cons, List.all_append, hs x, ih]; rfl
theorem own_openF {α : Type} {f : α → List Value} {s : Nat} (hf : Enc f s) (hsc : ∀ x, (f x).all scal = true) (hs : s ≠ 0) {w : World} {base e : Nat} {v : Value} {xs : List α} (h : w.ownsRow base e s v xs.length (rowC f xs)) :
 ∃ L : Loc, (¬ L.gho → base ≤ L.b) ∧ VRel [L] (.slice (some ⟨0, 0, none⟩) xs.length xs.length) v ∧ OOk [L] w L (.cells (rowC f xs) 0 e s) := by
 obtain ⟨h1, ⟨rfl, h2⟩ | ⟨g, cap, cur, rfl, h3, h4, h5, h6, h7, h8⟩⟩ := h
 ·have hz : xs = [] := List.length_eq_zero_iff.1 h2
  subst hz
  exact ⟨⟨0, 0, 0, s⟩, fun g => absurd ⟨hs, rfl⟩ g, .sliceN 0 0 _ rfl ⟨hs, rfl⟩, rfl, .inl ⟨⟨hs, rfl⟩, rfl⟩⟩
 ·have hl := rowC_length hf xs
  have hle : xs.length * s ≤ cap * s := Nat.mul_le_mul_right s h5
  refine ⟨⟨g, 0, cur.size, s⟩, fun _ => h3, .slice 0 0 _ _ ⟨g, 0, cur.size, s⟩ 0 cap rfl (.inl rfl) (fun q => absurd (show s = 0 from q) hs) (fun _ => ⟨h5, by show 0 + cap * s ≤ cur.size; omega, Nat.le_refl _⟩), rfl, .inr ⟨cur, (0, 0), h4, rfl, by show 0 + (rowC f xs).length ≤ cur.size; omega, fun i u hu => ?_, Nat.zero_le _, fun q => absurd q hs⟩⟩
  have hu' : cur[0 + i]? = some u := by
   rw [← h8, List.getElem?_take] at hu
   split at hu
   ·rw [Nat.zero_add, ← Array.getElem?_toList]; exact hu
   ·cases hu
  exact ⟨u, hu', VRel.scal_refl _ (List.all_eq_true.1 (rowC_sc hsc xs) u (List.mem_of_getElem? hu))⟩
theorem func_args {ρ : Rho} {k b : Nat} {args' : List Value} (h : Cells ρ [.func (.func k) #[] #[.pointer (some ⟨b, 0, none⟩)]] args') {L : Loc} (hL : ρ[b]? = some L) (hs : L.sh = 0) : args' = [.func (.func k) #[] #[.pointer (some ⟨L.b, 0, none⟩)]] := by
 have hl := h.1
 match args', hl, h with
 | [y], _, h =>
  have h0 := h.2 0 _ y rfl rfl
  cases h0 with
  | func _ _ f' _ c' hf hc h1 h2 =>
   rcases f' with ⟨lf⟩
   rcases c' with ⟨lc⟩
   match lf, hf with
   | [], _ =>
    match lc, hc, h2 with
    | [u], _, h2 =>
     have := h2 0 _ u rfl rfl
     cases this with
     | ptr _ _ M hM =>
      rw [hL] at hM; cases hM
      rw [hs]
theorem map_box {B : Bd} {ρ : Rho} {h : Heap} {w : World} (hH : HRel B ρ h w) {b j fz e : Nat} {es : List (List Int × Value)} (hb : hget h b = some (.cells [.map (some j)] fz e 0)) (hj : hget h j = some (.imap es)) :
 ∃ (L Lj : Loc) (E : Array MapEntry) (clock : Nat), ρ[b]? = some L ∧ L.sh = 0 ∧ L.b < w.heap.size ∧ w.cell? ⟨L.b, 0, none⟩ = some (.map (some Lj.b)) ∧ w.heap[Lj.b]? = some (.map E clock) ∧ E.toList.map (fun e => (e.key, e.val)) = es.map (fun p => (keyV p.1, p.2)) ∧ Stm E clock := by
 obtain ⟨L, hL, _⟩ := hH.ok b _ hb
 obtain ⟨es0, hng, C, fr, d1, d2, d3, d4, d5, d6⟩ := (hH.at hb hL).2.cells (.inr rfl)
 obtain ⟨s0, s1⟩ := d6 es0
 obtain ⟨v0, a1, a2⟩ := d4.get (i := 0) (v := .map (some j)) rfl
 have hcell : w.cell? ⟨L.b, 0, none⟩ = some v0 := by
  rw [cell_of_heap d1]
  rw [s0, List.drop_zero, List.getElem?_take] at a1
  split at a1
  ·rw [Array.getElem?_toList] at a1; exact a1
  ·cases a1
 cases a2 with
 | map _ Lj hLj =>
  obtain ⟨_, _, E, clock, e1, e2, e3, e4⟩ := (hH.at hj hLj).2
  exact ⟨L, Lj, E, clock, hL, s0, (Array.getElem?_eq_some_iff.1 d1).1, hcell, e1, e2, e4⟩
def keyI : Value → Int
 | .int _ n => n
 | _ => 0
def balO : Value → Bl
 | .agg cs => match cs.toList with
  | [.string n, .int _ b, .int _ k] => (n, b, k)
  | _ => (⟨#[]⟩, 0, 0)
 | _ => (⟨#[]⟩, 0, 0)
theorem keys_list {E : List MapEntry} {M : List (Int × Bool)} (h : E.map (fun e => (e.key, e.val)) = (imC Value.bool M).map (fun p => (keyV p.1, p.2))) : E.map (fun e => keyI e.key) = M.map (·.1) ∧ ∀ e ∈ E, e.key = encZ (keyI e.key) := by
 induction E generalizing M with
 | nil =>
  cases M with
  | nil => exact ⟨rfl, fun e he => by cases he⟩
  | cons p M => cases h
 | cons x E ih =>
  cases M with
  | nil => cases h
  | cons p M =>
   simp only [imC, List.map_cons, List.cons.injEq, Prod.mk.injEq] at h
   obtain ⟨⟨h1, _⟩, h2⟩ := h
   obtain ⟨i1, i2⟩ := ih (M := M) h2
   have hk : x.key = .int .i64 p.1 := h1
   refine ⟨by rw [List.map_cons, List.map_cons, i1, hk]; rfl, fun e he => ?_⟩
   rcases List.mem_cons.1 he with rfl | he
   ·rw [hk]; rfl
   ·exact i2 e he
theorem bales_list {E : List MapEntry} {M : List (ByteArray × Bl)} (h : E.map (fun e => (e.key, e.val)) = (imS blV M).map (fun p => (keyV p.1, p.2))) : E.map (fun e => balO e.val) = M.map (·.2) ∧ ∀ e ∈ E, e.val = blV (balO e.val) := by
 induction E generalizing M with
 | nil =>
  cases M with
  | nil => exact ⟨rfl, fun e he => by cases he⟩
  | cons p M => cases h
 | cons x E ih =>
  cases M with
  | nil => cases h
  | cons p M =>
   simp only [imS, List.map_cons, List.cons.injEq, Prod.mk.injEq] at h
   obtain ⟨⟨_, h1⟩, h2⟩ := h
   obtain ⟨i1, i2⟩ := ih (M := M) h2
   refine ⟨by rw [List.map_cons, List.map_cons, i1, h1]; rfl, fun e he => ?_⟩
   rcases List.mem_cons.1 he with rfl | he
   ·rw [h1]; rfl
   ·exact i2 e he
theorem collect_c {h : Heap} {c b j fz e : Nat} {M : List (ByteArray × Bl)} (hb : hget h b = some (.cells [.map (some j)] fz e 0)) (hj : hget h j = some (.imap (imS blV M))) (hM : Nat.ble M.length 1000000 = true) :
 KC E0 99 [.func (.func 101) #[] #[.pointer (some ⟨b, 0, none⟩)]] h c (fun v h' c' => ∃ l : List Bl, l.Perm (M.map (·.2)) ∧ v = .slice (some ⟨c, 0, none⟩) l.length l.length ∧ h' = (c, .cells (rowC encL l) 0 74 3) :: h ∧ c' = c + 1) := by
 intro B ρ w args' p1 hH p3 p4 p5 p6
 obtain ⟨L, Lj, E, clock, hL, s0, s1, s2, s3, s4, s5⟩ := map_box hH hb hj
 have hM := Nat.le_of_ble_eq_true hM
 obtain rfl := func_args p1 hL s0
 obtain ⟨k1, k2⟩ := bales_list s4
 have hsz : E.size ≤ 1000000 := by
  have := congrArg List.length k1
  rw [List.length_map, List.length_map, Array.length_toList] at this
  omega
 have hc := (callsIn_wide (n := 6)).1 (collectB Fence.wide 6 trivial trivial rfl (by decide) 101 #[.pointer (some ⟨L.b, 0, none⟩)] trivial
  (enters_of Proofs.Tryz.func101 (by kernel_rfl) rfl) _ E.size (by omega) w
  (valsW Fence.wide 4 trivial rfl (by decide) L.b Lj.b (fun e => balO e.val) k2 s5 w s1 s2 s3))
 refine ⟨run_callFunc_go Proofs.Tryz.func99 (by kernel_rfl) (by kernel_rfl) _ w, hc.mono ?_⟩
 rintro en w' ⟨v, ss, rfl, hS, hrow, hnil, hbe⟩
 rw [k1] at hS
 obtain ⟨K, g1, g2, g3⟩ := own_openF encL_ok (fun _ => rfl) (by decide) hrow
 subst p3
 exact ⟨_, v, ρ ++ [K], _, _, rfl, g2.rowAt ρ, Rho.le_push ρ K, by simp, hH.newG p4 g1 (fun k hk => hbe.block k hk) (g3.flt_any (rowC_scal encL_ok ss)), Bel.of hbe p4, ss, hS, rfl, rfl, rfl⟩
theorem sortsK (m : Nat) : AnyZI.SortsIn Proofs.Tryz.prog Proofs.Tryz.sortedA_ren Fence.wide m :=
 ⟨fun blk off cap ss W hH hblk hsz => callsIn_wide.2 (AnyM.slices_Sort_int Proofs.Tryz.sortA blk off cap ss W hH hblk hsz),
  fun p cap W => callsIn_wide.2 (AnyM.slices_Sort_int_none Proofs.Tryz.sortA p cap W)⟩
theorem keys_c {h : Heap} {c b j fz e : Nat} {M : List (Int × Bool)} (hb : hget h b = some (.cells [.map (some j)] fz e 0)) (hj : hget h j = some (.imap (imC Value.bool M))) (hM : Nat.ble M.length 1000000 = true) :
 KC E0 76 [.func (.func 104) #[] #[.pointer (some ⟨b, 0, none⟩)]] h c (fun v h' c' => v = .slice (some ⟨c, 0, none⟩) (sortI (M.map (·.1))).length (sortI (M.map (·.1))).length ∧ h' = (c, .cells (rowC (encI .i64) (sortI (M.map (·.1)))) 0 3 1) :: h ∧ c' = c + 1) := by
 intro B ρ w args' p1 hH p3 p4 p5 p6
 obtain ⟨L, Lj, E, clock, hL, s0, s1, s2, s3, s4, s5⟩ := map_box hH hb hj
 have hM := Nat.le_of_ble_eq_true hM
 obtain rfl := func_args p1 hL s0
 obtain ⟨k1, k2⟩ := keys_list s4
 have hsz : E.size ≤ 1000000 := by
  have := congrArg List.length k1
  rw [List.length_map, List.length_map, Array.length_toList] at this
  omega
 have hsq := keysW Fence.wide 5 trivial rfl (by decide) L.b Lj.b (fun e => keyI e.key) k2 s5 w s1 s2 s3
 have hmx : E.size ≤ maxLen := by unfold maxLen; omega
 have hc := (callsIn_wide (n := 8)).1 (AnyZI.sorted_in Proofs.Tryz.sortedA Fence.wide 8 trivial trivial trivial trivial rfl (by decide) (sortsK 7) (enters_of Proofs.Tryz.func103 (by kernel_rfl) rfl)
  104 #[.pointer (some ⟨L.b, 0, none⟩)] trivial (enters_of Proofs.Tryz.func104 (by kernel_rfl) rfl) _ E.size hmx (by omega) w hsq)
 refine ⟨run_callFunc_go Proofs.Tryz.func76 (by kernel_rfl) (by kernel_rfl) _ w, Calls.mono hc ?_⟩
 rintro en w' ⟨v, ss, rfl, hS, hrow, hnil, hbe⟩
 rw [k1] at hS
 have hl : (sortI (M.map (·.1))) = ss.mergeSort (fun x y => decide (x ≤ y)) := by rw [sortI_eq]; exact mergeSort_of_perm_i hS.symm
 have hrow : w'.ownsRow w.heap.size 3 1 v (sortI (M.map (·.1))).length (rowC (encI .i64) (sortI (M.map (·.1)))) := by
  rw [← rowC_ints, hl, List.length_mergeSort]; exact hrow
 obtain ⟨K, g1, g2, g3⟩ := own_openF (encI_ok .i64) (fun _ => rfl) (by decide) hrow
 subst p3
 exact ⟨_, v, ρ ++ [K], _, _, rfl, g2.rowAt ρ, Rho.le_push ρ K, by simp, hH.newG p4 g1 (fun k hk => hbe.block k hk) (g3.flt_any (rowC_scal (encI_ok .i64) _)), Bel.of hbe p4, rfl, rfl, rfl⟩
end Go.Xm
