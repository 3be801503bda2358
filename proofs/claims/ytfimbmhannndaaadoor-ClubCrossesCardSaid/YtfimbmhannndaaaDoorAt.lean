/- Arguments that are arrays of integers, or arrays of such, opened. Conditions: none; nothing here speaks of one program. -/
import Derived.OpenShut
import Derived.ChangeShapes
import Derived.WideShapes
import Derived.Test.YtfimbmhannndaaaDoorMx
import Derived.Deep.SlicePairs
import Derived.Deep.Slices
import Derived.Lib.SmallJoins
namespace Go.Xm
section
variable {H : Type} {enc : TypeId × Value → H} {P : Program} {w : World} {base : Nat} {spare : Nat → Bool} {held : Bool}

/-- Each value is an integer of this kind, and well formed. -/
def AllI (q : IntKind) (cs : List Value) : Prop := ∀ v ∈ cs, ∃ z, v = .int q z ∧ (Lit.int q z).wf = true

theorem allI_int {q : IntKind} {e : TypeId} (he : P.underlying e = some (.int q)) {m : Nat} {cs : List Value} {x : DataW H × List MemPlace} (h : DataW.trod enc P w base spare held m e cs = some x) : AllI q cs := by
  obtain ⟨n, rfl, _, hw⟩ := DataW.trod_int he h
  intro v hv
  obtain rfl := List.mem_singleton.1 hv
  exact ⟨n, rfl, hw⟩

theorem allI_array {q : IntKind} {t e : TypeId} {n s : Nat} (ht : P.underlying t = some (.array n e)) (hs : P.cellsOf e = s) (hn : P.cellsOf t = n * s) (h0 : 0 < s)
    (hE : ∀ (m : Nat) (cs : List Value) (x : DataW H × List MemPlace), DataW.trod enc P w base spare held m e cs = some x → AllI q cs) {m : Nat} {cs : List Value} {x : DataW H × List MemPlace} (h : DataW.trod enc P w base spare held m t cs = some x) : AllI q cs := by
  obtain ⟨xs, m', _, _, hl, hx, hi⟩ := DataW.trod_array ht h
  intro v hv
  obtain ⟨j, hj, rfl⟩ := List.getElem_of_mem hv
  have hjn : j / s < n := by
    rw [Nat.div_lt_iff_lt_mul h0]; omega
  have h1 := hi (j / s) hjn
  have h2 : xs[j / s]? = some (xs[j / s]'(by omega)) := List.getElem?_eq_getElem _
  rw [h2, hs] at h1
  refine hE _ _ _ h1 _ ?_
  have hm : j / s * s + j % s = j := Nat.div_add_mod' j s
  have hlt : j % s < s := Nat.mod_lt _ h0
  refine List.mem_of_getElem? (i := j % s) ?_
  rw [List.getElem?_take, if_pos hlt, List.getElem?_drop, hm, List.getElem?_eq_getElem hj]

end
end Go.Xm
namespace Go.Xm
set_option linter.unusedVariables false
open Go.RowKit Go.ChangeShapes Go.WideShapes

/-! ### Where a row lies -/
theorem rowAt_le {p : Program} {fits : TypeId → Bool} {d : Nat} {e : TypeId} {count off n : Nat} (h : rowAt p fits d e count off n = true) : off ≤ count * p.cellsOf e := by
  cases d with
  | zero => simp [rowAt] at h
  | succ d =>
    unfold rowAt at h
    simp only at h
    split at h
    · cases h
    · rename_i hs
      have h2 := Nat.div_add_mod off (p.cellsOf e)
      rw [Bool.or_eq_true] at h
      rcases h with h | h
      · simp only [Bool.and_eq_true, beq_iff_eq, decide_eq_true_eq] at h
        obtain ⟨⟨h3, h4⟩, _⟩ := h
        have : p.cellsOf e * (off / p.cellsOf e) ≤ p.cellsOf e * count := Nat.mul_le_mul_left _ (by omega)
        rw [Nat.mul_comm count]
        omega
      · rw [Bool.and_eq_true, decide_eq_true_eq] at h
        have h5 : p.cellsOf e * (off / p.cellsOf e + 1) ≤ p.cellsOf e * count := Nat.mul_le_mul_left _ h.1
        rw [Nat.mul_add, Nat.mul_one] at h5
        have h6 := Nat.mod_lt off (Nat.pos_of_ne_zero hs)
        rw [Nat.mul_comm count]
        omega

theorem liesAt_le {p : Program} {u : TypeId} (hu : ∀ m u', p.underlying u ≠ some (.array m u')) {d : Nat} {e : TypeId} {count off n : Nat} (h : liesAt p d e count off u n = true) : off ≤ count * p.cellsOf e := by
  cases d with
  | zero => simp [liesAt] at h
  | succ d =>
    unfold liesAt at h
    rw [Bool.or_eq_true] at h
    rcases h with h | h
    · exact rowAt_le h
    · split at h
      · rename_i m u' hq
        exact absurd hq (hu m u')
      · cases h

/-- A slice argument: nil, or a part of a block. -/
def RowIn (w : World) (v : Value) (es : Nat) (cs : List Value) (n : Nat) : Prop :=
  (v = .slice none 0 0 ∧ cs = [] ∧ n = 0) ∨ ∃ (b off cap : Nat) (C : Array Value) (el : TypeId) (fr : Nat × Nat), v = .slice (some ⟨b, off, none⟩) n cap ∧ w.heap[b]? = some (.cells C el fr) ∧ off + cap * es ≤ C.size ∧ n ≤ cap ∧ cs.length = n * es ∧
    ∀ (i : Nat) (u : Value), cs[i]? = some u → C[off + i]? = some u

theorem RowIn.loc {w : World} {v : Value} {es : Nat} {cs : List Value} {n : Nat} (h : RowIn w v es cs n) (hes : es ≠ 0) (hp : cs.all plain = true) :
    ∃ (L : Loc) (fz : Nat) (el : TypeId), (∀ ρ, OOk ρ w L (.cells cs fz el es)) ∧ cs.length < fz ∧ ∀ (ρ : Rho) (i : Nat), ρ[i]? = some L → VRel ρ (.slice (some ⟨i, 0, none⟩) n n) v := by
  rcases h with ⟨rfl, rfl, rfl⟩ | ⟨b, off, cap, C, el, fr, rfl, h1, h2, h3, h4, h5⟩
  · exact ⟨⟨0, 0, 0, es⟩, 1, 0, fun ρ => ⟨rfl, .inl ⟨⟨hes, rfl⟩, rfl⟩⟩, by simp, fun ρ i hi => .sliceN i 0 _ hi ⟨hes, rfl⟩⟩
  · have h6 : n * es ≤ cap * es := Nat.mul_le_mul_right _ h3
    refine ⟨⟨b, off, C.size, es⟩, fr.2 + cs.length + 1, el, fun ρ => ⟨rfl, .inr ⟨C, fr, h1, rfl, by show off + cs.length ≤ C.size; omega, fun i u hu => ⟨u, h5 i u hu, VRel.plain_refl ρ ?_⟩, by show fr.2 ≤ off + (fr.2 + cs.length + 1); omega, fun q => absurd q hes⟩⟩, by omega, fun ρ i hi => ?_⟩
    · exact List.all_eq_true.1 hp u (List.mem_of_getElem? hu)
    · exact .slice i 0 n n _ off cap hi (.inl rfl) (fun q => absurd q hes) (fun _ => ⟨h3, h2, Nat.le_refl _⟩)

theorem HRel.ofFrozen {B : Nat} {ρ : Rho} {h : Heap} {w : World} (hx : ∀ i o, hget h i = some o → ∃ L, ρ[i]? = some L ∧ frz o = true ∧ OOk ρ w L o) : HRel B ρ h w := by
  refine ⟨fun i o hi => ?_, fun i j o o' L L' hi hj _ _ _ _ _ _ hz _ => ?_⟩
  · obtain ⟨L, h1, h2, h3⟩ := hx i o hi
    exact ⟨L, h1, fun q => by rw [h2] at q; (cases q), h3⟩
  · obtain ⟨_, _, h2, _⟩ := hx i o hi
    obtain ⟨_, _, h3, _⟩ := hx j o' hj
    rcases hz with q | q
    · rw [h2] at q; cases q
    · rw [h3] at q; cases q

theorem frz_of {cs : List Value} {fz : Nat} {e : TypeId} {es : Nat} (h : cs.length < fz) : frz (.cells cs fz e es) = true := by
  show Nat.blt cs.length fz = true
  rw [Nat.blt_eq]; exact h

/-! ### Arguments, opened -/
section
variable {H : Type} {enc : TypeId × Value → H} {P : Program} {w : World} {base : Nat} {held : Bool}

theorem cell_at {b off : Nat} {C : Array Value} {el : TypeId} {fr : Nat × Nat} (h : w.heap[b]? = some (.cells C el fr)) {k : Nat} {u : Value} (hc : w.cell? ((⟨b, off, none⟩ : Addr).add k) = some u) : C[off + k]? = some u := by
  unfold Addr.add at hc
  split at hc
  · rename_i e; subst e
    simpa [World.cell?, h] using hc
  · simpa [World.cell?, h] using hc

end
end Go.Xm
namespace Go.Xm
open Go.RowKit
set_option linter.unusedVariables false

theorem KC.callsS {E : Env} {K n es : Nat} {args : List Value} {x V v0 : Value} {cs : List Value} (hes : es ≠ 0) (hpx : plain x = true) (hp : args.all plain = true) (hc : cs.all plain = true) (hV : plain V = true)
    (hx : ∀ z y, KC E K (.agg #[x, .slice (some ⟨0, 0, none⟩) n n] :: args) [(0, .cells cs z y es)] 1 (fun v _ _ => v = V)) (w : World) (h0 : RowIn w v0 es cs n) (hG : E.G ≤ w.heap.size) (hI : E.inv w) :
    Calls E.P K (.agg #[x, v0] :: args).toArray w (fun e w' => e = .returned V ∧ Below w.heap.size w w') := by
  obtain ⟨L, fz, el, l1, l2, l3⟩ := h0.loc hes hc
  have hh : HRel w.heap.size [L] [(0, .cells cs fz el es)] w := HRel.ofFrozen (fun i o hi => by
    rw [hget_cons] at hi
    split at hi
    · rename_i e; subst e; cases hi
      exact ⟨L, rfl, frz_of l2, l1 _⟩
    · simp [hget_nil] at hi)
  have ha : Cells [L] (.agg #[x, .slice (some ⟨0, 0, none⟩) n n] :: args) (.agg #[x, v0] :: args) := by
    have q := Cells.plain_refl [L] hp
    refine ⟨by simp, fun i a a' h1 h2 => ?_⟩
    cases i with
    | zero =>
      simp at h1 h2; subst h1; subst h2
      refine .agg _ _ rfl (fun j u u' g1 g2 => ?_)
      match j with
      | 0 => simp at g1 g2; subst g1; subst g2; exact VRel.plain_refl _ hpx
      | 1 => simp at g1 g2; subst g1; subst g2; exact l3 _ 0 rfl
      | j + 2 => simp at g1
    | succ i => exact q.2 i a a' (by simpa using h1) (by simpa using h2)
  obtain ⟨q1, q2⟩ := hx fz el w.heap.size [L] w _ ha hh rfl (Nat.le_refl _) hG hI
  refine q2.mono ?_
  rintro e w' ⟨v1, v', ρ', h', c', rfl, e2, e3, e4, e5, e6, rfl⟩
  exact ⟨by rw [e2.plain_eq hV], e6⟩

end Go.Xm
namespace Go.Xm
open Go.RowKit Go.ChangeShapes Go.WideShapes
set_option linter.unusedVariables false

theorem liesAt_leA {p : Program} {u u1 : TypeId} {k : Nat} (hu : p.underlying u = some (.array k u1)) (hu1 : ∀ m u', p.underlying u1 ≠ some (.array m u')) {d : Nat} {e : TypeId} {count off n : Nat} (h : liesAt p d e count off u n = true) : off ≤ count * p.cellsOf e := by
  cases d with
  | zero => simp [liesAt] at h
  | succ d =>
    unfold liesAt at h
    rw [Bool.or_eq_true] at h
    rcases h with h | h
    · exact rowAt_le h
    · rw [hu] at h
      exact liesAt_le hu1 h

section
variable {H : Type} {enc : TypeId × Value → H} {P : Program} {w : World} {base : Nat} {held : Bool}

theorem okRowA {t e e1 : TypeId} {k : Nat} {v : Value} {r : Reach} {b0 : Nat} (ht : P.underlying t = some (.slice e)) (he : P.underlying e = some (.array k e1)) (hu : ∀ m u', P.underlying e1 ≠ some (.array m u')) (hv : Cell.okWide P w r b0 t v) :
    v = .slice none 0 0 ∨ ∃ (b off len cap : Nat) (C : Array Value) (el : TypeId) (fr : Nat × Nat), v = .slice (some ⟨b, off, none⟩) len cap ∧ len ≤ cap ∧ w.heap[b]? = some (.cells C el fr) ∧ off ≤ C.size := by
  simp only [Cell.okWide, ht] at hv
  cases v with
  | slice a len cap =>
    cases a with
    | none =>
      cases len <;> cases cap <;> simp_all [Cell.ok]
    | some a =>
      right
      simp only [Cell.ok, ht] at hv
      obtain ⟨h1, _, _, h2, row, cells, h3, h4⟩ := hv
      obtain ⟨b, off, spot⟩ := a
      simp only at h2
      subst h2
      unfold World.shape? at h3
      split at h3
      · rename_i C el fr hb
        cases h3
        refine ⟨b, off, len, cap, C, _, fr, rfl, h1, hb, ?_⟩
        have := liesAt_leA he hu h4
        exact Nat.le_trans this (Nat.div_mul_le_self _ _)
      · cases h3
  | _ => simp_all [Cell.ok]

/-- A slice of arrays of two integers. -/
theorem open_rowA {q : IntKind} {t e e1 : TypeId} {v : Value} {r : Reach} {b0 fuel : Nat} {x : DataW H × List MemPlace} (ht : P.underlying t = some (.slice e)) (he : P.underlying e = some (.array 2 e1)) (he1 : P.underlying e1 = some (.int q)) (ce : P.cellsOf e = 2) (ce1 : P.cellsOf e1 = 1)
    (hv : Cell.okWide P w r b0 t v) (h : DataW.trod enc P w base (fun _ => true) held fuel t [v] = some x) : ∃ zs : List (Int × Int), RowIn w v 2 (rowC (encQ q) zs) zs.length ∧ ∀ z ∈ zs, (Lit.int q z.1).wf = true ∧ (Lit.int q z.2).wf = true := by
  have hu : ∀ m u', P.underlying e1 ≠ some (.array m u') := fun m u' hq => by rw [he1] at hq; cases hq
  rcases okRowA ht he hu hv with rfl | ⟨b, off, len, cap, C, el, fr, rfl, h1, h2, h3⟩
  · exact ⟨[], .inl ⟨rfl, rfl, rfl⟩, by simp⟩
  · rcases Go.Deep.open_slice ht h with ⟨hcs, _⟩ | ⟨a, len', cap', m, n, D, Pl, hcs, _, hl, hm, hmm, _, hx⟩
    · simp at hcs
    · simp only [List.cons.injEq, Value.slice.injEq, Option.some.injEq, and_true] at hcs
      obtain ⟨rfl, rfl, rfl⟩ := hcs
      simp only [if_true] at hmm
      subst hmm
      have hex : ∀ i, i < m → ∃ z : Int × Int, w.cell? ((⟨b, off, none⟩ : Addr).add (i * 2)) = some (.int q z.1) ∧ w.cell? ((⟨b, off, none⟩ : Addr).add (i * 2 + 1)) = some (.int q z.2) ∧ (Lit.int q z.1).wf = true ∧ (Lit.int q z.2).wf = true := by
        intro i hi
        obtain ⟨cs', g1, g2⟩ := hx i hi
        rw [ce] at g1
        obtain ⟨_, hlen, hcell⟩ := World.cells?_some g1
        have hA := allI_array he ce1 (by rw [ce]) (by omega) (fun _ _ _ => allI_int he1) g2
        match cs', hlen with
        | [u0, u1], _ =>
          obtain ⟨z0, e0, w0⟩ := hA u0 (by simp)
          obtain ⟨z1, e1, w1⟩ := hA u1 (by simp)
          subst e0
          subst e1
          have k0 := hcell 0 (by omega)
          have k1 := hcell 1 (by omega)
          rw [Go.Deep.add_add] at k0 k1
          exact ⟨(z0, z1), by simpa using k0, by simpa using k1, w0, w1⟩
      obtain ⟨F, hF⟩ := Go.Deep.choose_lt hex
      have hlen : ((List.range len).map F).length = len := by simp
      refine ⟨(List.range len).map F, .inr ⟨b, off, m, C, el, fr, by rw [hlen], h2, ?_, by rw [hlen]; exact h1, ?_, ?_⟩, fun z hz => ?_⟩
      · cases m with
        | zero => omega
        | succ n =>
          have := cell_at h2 (k := n * 2 + 1) (hF n (by omega)).2.1
          have := (Array.getElem?_eq_some_iff.1 this).1
          omega
      · rw [rowC_length (encQ_ok q)]
      · intro i u hi
        have hlt := (List.getElem?_eq_some_iff.1 hi).1
        rw [rowC_length (encQ_ok q), hlen] at hlt
        have hj : i / 2 < len := by omega
        have hg := rowC_get (encQ_ok q) ((List.range len).map F) (i / 2) (i % 2) (0, 0) (by rw [hlen]; exact hj) (by omega)
        have e0 : i / 2 * 2 + i % 2 = i := by omega
        rw [e0, hi] at hg
        have e1 : ((List.range len).map F).getD (i / 2) (0, 0) = F (i / 2) := by
          rw [List.getD_eq_getElem?_getD, List.getElem?_map, List.getElem?_range hj]; rfl
        rw [e1] at hg
        obtain ⟨k0, k1, _, _⟩ := hF (i / 2) (by omega)
        rcases Nat.mod_two_eq_zero_or_one i with hm2 | hm2
        · rw [hm2] at hg
          have := cell_at h2 k0
          have e2 : i / 2 * 2 = i := by omega
          rw [e2] at this
          rw [this, hg]; rfl
        · rw [hm2] at hg
          have := cell_at h2 (k := i / 2 * 2 + 1) k1
          have e2 : i / 2 * 2 + 1 = i := by omega
          rw [e2] at this
          rw [this, hg]; rfl
      · obtain ⟨i, i1, rfl⟩ := List.mem_map.1 hz
        have := hF i (by have := List.mem_range.1 i1; omega)
        exact ⟨this.2.2.1, this.2.2.2⟩

/-- A struct of an integer and a slice of arrays of two integers. -/
theorem open_structIA {q0 q : IntKind} {T e e1 : TypeId} {f0 f1 : Field} {v : Value} {r : Reach} {b0 : Nat} {d : DataW H} {ps : List MemPlace} (hT : P.underlying T = some (.struct #[f0, f1])) (hone : Go.Deep.oneCellFields P #[f0, f1] = true) (hC : P.cellsOf T = 2) (hct : P.cellTypes P.depth T = some [f0.type, f1.type])
    (i0 : P.underlying f0.type = some (.int q0)) (ht : P.underlying f1.type = some (.slice e)) (he : P.underlying e = some (.array 2 e1)) (he1 : P.underlying e1 = some (.int q)) (ce : P.cellsOf e = 2) (ce1 : P.cellsOf e1 = 1)
    (hv : Value.okWide P w r b0 T v) (h : DataW.Trod enc P w base (fun _ => true) held T v d ps) :
    ∃ (a : Int) (u : Value) (zs : List (Int × Int)), v = .agg #[.int q0 a, u] ∧ (Lit.int q0 a).wf = true ∧ RowIn w u 2 (rowC (encQ q) zs) zs.length ∧ ∀ z ∈ zs, (Lit.int q z.1).wf = true ∧ (Lit.int q z.2).wf = true := by
  obtain ⟨v0, v1, y0, y1, n, rfl, _, _, h0, h1⟩ := Go.Joins.open_agg2 hT hone hC hv h
  obtain ⟨a, a1, _, a3⟩ := DataW.trod_int i0 h0
  obtain rfl := (List.cons.inj a1).1
  simp only [Value.okWide, hT] at hv
  obtain ⟨cs, c1, _, ts, c2, _, c3⟩ := hv
  cases c1
  rw [hct] at c2
  cases c2
  obtain ⟨u, u1, u2⟩ := c3 1 v1 rfl
  have u1 : some f1.type = some u := u1
  cases u1
  obtain ⟨zs, g, gw⟩ := open_rowA ht he he1 ce ce1 u2 h1
  exact ⟨a, v1, zs, rfl, a3, g, gw⟩
end
end Go.Xm
