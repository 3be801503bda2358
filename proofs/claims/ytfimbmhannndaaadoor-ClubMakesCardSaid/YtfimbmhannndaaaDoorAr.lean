/- Arguments that are slices of integers, or of pairs of integers, opened as rows that are only read; calls at such arguments. Conditions: none; nothing here speaks of one program. -/
import Derived.Test.YtfimbmhannndaaaDoorMx
import Derived.OpenShut
import Derived.ChangeShapes
import Derived.WideShapes
import Derived.Deep.SlicePairs
namespace Go.Xm
set_option linter.unusedVariables false
open Go.RowKit Go.ChangeShapes Go.WideShapes
theorem rowAt_le {p : Program} {fits : TypeId → Bool} {d : Nat} {e : TypeId} {count off n : Nat} (h : rowAt p fits d e count off n = true) : off ≤ count * p.cellsOf e := by
  cases d with
  | zero => simp [rowAt] at h
  | succ d =>
    unfold rowAt at h
    simp only at h
    split at h
    · cases h
    · rename_i hs
      have h2 := Nat.div_add_mod off (p.cellsOf e)
      rw [Bool.or_eq_true] at h
      rcases h with h | h
      · simp only [Bool.and_eq_true, beq_iff_eq, decide_eq_true_eq] at h
        obtain ⟨⟨h3, h4⟩, _⟩ := h
        have : p.cellsOf e * (off / p.cellsOf e) ≤ p.cellsOf e * count := Nat.mul_le_mul_left _ (by omega)
        rw [Nat.mul_comm count]
        omega
      · rw [Bool.and_eq_true, decide_eq_true_eq] at h
        have h5 : p.cellsOf e * (off / p.cellsOf e + 1) ≤ p.cellsOf e * count := Nat.mul_le_mul_left _ h.1
        rw [Nat.mul_add, Nat.mul_one] at h5
        have h6 := Nat.mod_lt off (Nat.pos_of_ne_zero hs)
        rw [Nat.mul_comm count]
        omega
theorem liesAt_le {p : Program} {u : TypeId} (hu : ∀ m u', p.underlying u ≠ some (.array m u')) {d : Nat} {e : TypeId} {count off n : Nat} (h : liesAt p d e count off u n = true) : off ≤ count * p.cellsOf e := by
  cases d with
  | zero => simp [liesAt] at h
  | succ d =>
    unfold liesAt at h
    rw [Bool.or_eq_true] at h
    rcases h with h | h
    · exact rowAt_le h
    · split at h
      · rename_i m u' hq
        exact absurd hq (hu m u')
      · cases h
def RowIn (w : World) (v : Value) (es : Nat) (cs : List Value) (n : Nat) : Prop :=
  (v = .slice none 0 0 ∧ cs = [] ∧ n = 0) ∨ ∃ (b off cap : Nat) (C : Array Value) (el : TypeId) (fr : Nat × Nat), v = .slice (some ⟨b, off, none⟩) n cap ∧ w.heap[b]? = some (.cells C el fr) ∧ off + cap * es ≤ C.size ∧ n ≤ cap ∧ cs.length = n * es ∧
    ∀ (i : Nat) (u : Value), cs[i]? = some u → C[off + i]? = some u
theorem RowIn.loc {w : World} {v : Value} {es : Nat} {cs : List Value} {n : Nat} (h : RowIn w v es cs n) (hes : es ≠ 0) (hp : cs.all plain = true) :
    ∃ (L : Loc) (fz : Nat) (el : TypeId), (∀ ρ, OOk ρ w L (.cells cs fz el es)) ∧ cs.length < fz ∧ ∀ (ρ : Rho) (i : Nat), ρ[i]? = some L → VRel ρ (.slice (some ⟨i, 0, none⟩) n n) v := by
  rcases h with ⟨rfl, rfl, rfl⟩ | ⟨b, off, cap, C, el, fr, rfl, h1, h2, h3, h4, h5⟩
  · exact ⟨⟨0, 0, 0, es⟩, 1, 0, fun ρ => ⟨rfl, .inl ⟨⟨hes, rfl⟩, rfl⟩⟩, by simp, fun ρ i hi => .sliceN i 0 _ hi ⟨hes, rfl⟩⟩
  · have h6 : n * es ≤ cap * es := Nat.mul_le_mul_right _ h3
    refine ⟨⟨b, off, C.size, es⟩, fr.2 + cs.length + 1, el, fun ρ => ⟨rfl, .inr ⟨C, fr, h1, rfl, by show off + cs.length ≤ C.size; omega, fun i u hu => ⟨u, h5 i u hu, VRel.plain_refl ρ ?_⟩, by show fr.2 ≤ off + (fr.2 + cs.length + 1); omega, fun q => absurd q hes⟩⟩, by omega, fun ρ i hi => ?_⟩
    · exact List.all_eq_true.1 hp u (List.mem_of_getElem? hu)
    · exact .slice i 0 n n _ off cap hi (.inl rfl) (fun q => absurd q hes) (fun _ => ⟨h3, h2, Nat.le_refl _⟩)
theorem HRel.ofFrozen {B : Nat} {ρ : Rho} {h : Heap} {w : World} (hx : ∀ i o, hget h i = some o → ∃ L, ρ[i]? = some L ∧ frz o = true ∧ OOk ρ w L o) : HRel B ρ h w := by
  refine ⟨fun i o hi => ?_, fun i j o o' L L' hi hj _ _ _ _ _ _ hz _ => ?_⟩
  · obtain ⟨L, h1, h2, h3⟩ := hx i o hi
    exact ⟨L, h1, fun q => by rw [h2] at q; (cases q), h3⟩
  · obtain ⟨_, _, h2, _⟩ := hx i o hi
    obtain ⟨_, _, h3, _⟩ := hx j o' hj
    rcases hz with q | q
    · rw [h2] at q; cases q
    · rw [h3] at q; cases q
theorem frz_of {cs : List Value} {fz : Nat} {e : TypeId} {es : Nat} (h : cs.length < fz) : frz (.cells cs fz e es) = true := by
  show Nat.blt cs.length fz = true
  rw [Nat.blt_eq]; exact h
theorem KC.calls1 {E : Env} {K n es : Nat} {args : List Value} {V v0 : Value} {cs : List Value} (hes : es ≠ 0) (hp : args.all plain = true) (hc : cs.all plain = true) (hV : plain V = true)
    (hx : ∀ z y, KC E K (.slice (some ⟨0, 0, none⟩) n n :: args) [(0, .cells cs z y es)] 1 (fun v _ _ => v = V)) (w : World) (h0 : RowIn w v0 es cs n) (hG : E.G ≤ w.heap.size) (hI : E.inv w) :
    Calls E.P K (v0 :: args).toArray w (fun e w' => e = .returned V ∧ Below w.heap.size w w') := by
  obtain ⟨L, fz, el, l1, l2, l3⟩ := h0.loc hes hc
  have hh : HRel w.heap.size [L] [(0, .cells cs fz el es)] w := HRel.ofFrozen (fun i o hi => by
    rw [hget_cons] at hi
    split at hi
    · rename_i e; subst e; cases hi
      exact ⟨L, rfl, frz_of l2, l1 _⟩
    · simp [hget_nil] at hi)
  have ha : Cells [L] (.slice (some ⟨0, 0, none⟩) n n :: args) (v0 :: args) := by
    have q := Cells.plain_refl [L] hp
    refine ⟨by simp, fun i a a' h1 h2 => ?_⟩
    cases i with
    | zero => simp at h1 h2; subst h1; subst h2; exact l3 _ 0 rfl
    | succ i => exact q.2 i a a' (by simpa using h1) (by simpa using h2)
  obtain ⟨q1, q2⟩ := hx fz el w.heap.size [L] w _ ha hh rfl (Nat.le_refl _) (Bd.ge_at hG) hI
  refine q2.mono ?_
  rintro e w' ⟨v1, v', ρ', h', c', rfl, e2, e3, e4, e5, e6, rfl⟩
  exact ⟨by rw [e2.plain_eq hV], e6.below⟩
section
variable {H : Type} {enc : TypeId × Value → H} {P : Program} {w : World} {base : Nat} {held : Bool}
theorem okRow {t e : TypeId} {v : Value} {r : Reach} {b0 : Nat} (ht : P.underlying t = some (.slice e)) (hu : ∀ m u', P.underlying e ≠ some (.array m u')) (hv : Value.okWide P w r b0 t v) :
    v = .slice none 0 0 ∨ ∃ (b off len cap : Nat) (C : Array Value) (el : TypeId) (fr : Nat × Nat), v = .slice (some ⟨b, off, none⟩) len cap ∧ len ≤ cap ∧ w.heap[b]? = some (.cells C el fr) ∧ off ≤ C.size := by
  simp only [Value.okWide, ht, Cell.okWide] at hv
  cases v with
  | slice a len cap =>
    cases a with
    | none =>
      cases len <;> cases cap <;> simp_all [Cell.ok]
    | some a =>
      right
      simp only [Cell.ok, ht] at hv
      obtain ⟨h1, _, _, h2, row, cells, h3, h4⟩ := hv
      obtain ⟨b, off, spot⟩ := a
      simp only at h2
      subst h2
      unfold World.shape? at h3
      split at h3
      · rename_i C el fr hb
        cases h3
        refine ⟨b, off, len, cap, C, _, fr, rfl, h1, hb, ?_⟩
        have := liesAt_le hu h4
        exact Nat.le_trans this (Nat.div_mul_le_self _ _)
      · cases h3
  | _ => simp_all [Cell.ok]
theorem cell_at {b off : Nat} {C : Array Value} {el : TypeId} {fr : Nat × Nat} (h : w.heap[b]? = some (.cells C el fr)) {k : Nat} {u : Value} (hc : w.cell? ((⟨b, off, none⟩ : Addr).add k) = some u) : C[off + k]? = some u := by
  unfold Addr.add at hc
  split at hc
  · rename_i e; subst e
    simpa [World.cell?, h] using hc
  · simpa [World.cell?, h] using hc
theorem open_rowI {q : IntKind} {t e : TypeId} {v : Value} {r : Reach} {b0 : Nat} {d : DataW H} {ps : List MemPlace} (ht : P.underlying t = some (.slice e)) (he : P.underlying e = some (.int q)) (ce : P.cellsOf e = 1)
    (hv : Value.okWide P w r b0 t v) (h : DataW.Trod enc P w base (fun _ => true) held t v d ps) : ∃ zs : List Int, RowIn w v 1 (rowC (encI q) zs) zs.length ∧ ∀ z ∈ zs, (Lit.int q z).wf = true := by
  have hu : ∀ m u', P.underlying e ≠ some (.array m u') := fun m u' hq => by rw [he] at hq; cases hq
  obtain ⟨fuel, hf⟩ := h
  rcases okRow ht hu hv with rfl | ⟨b, off, len, cap, C, el, fr, rfl, h1, h2, h3⟩
  · exact ⟨[], .inl ⟨rfl, rfl, rfl⟩, by simp⟩
  · rcases open_ints ht he ce hf with ⟨hcs, _⟩ | ⟨a, len', cap', zs, hcs, _, hl, hm, hz, _, hcell, hwz⟩
    · simp [Value.cells] at hcs
    · simp only [Value.cells, List.cons.injEq, Value.slice.injEq, Option.some.injEq, and_true] at hcs
      obtain ⟨rfl, rfl, rfl⟩ := hcs
      simp only [if_true] at hz
      refine ⟨zs.take len, .inr ⟨b, off, cap, C, el, fr, ?_, h2, ?_, ?_, ?_, ?_⟩, fun z hz => hwz z (List.mem_of_mem_take hz)⟩
      · rw [List.length_take]; congr 1; omega
      · cases cap with
        | zero => omega
        | succ n =>
          have := cell_at h2 (hcell n (by omega))
          have := (Array.getElem?_eq_some_iff.1 this).1
          omega
      · rw [List.length_take]; omega
      · rw [rowC_length (encI_ok q)]
      · intro i u hi
        have hlt := (List.getElem?_eq_some_iff.1 hi).1
        rw [rowC_length (encI_ok q), List.length_take] at hlt
        have hg := rowC_get (encI_ok q) (zs.take len) i 0 0 (by rw [List.length_take]; omega) (by omega)
        rw [Nat.mul_one, Nat.add_zero] at hg
        rw [hg] at hi
        have e1 : (zs.take len).getD i 0 = zs.getD i 0 := by
          rw [List.getD_eq_getElem?_getD, List.getD_eq_getElem?_getD, List.getElem?_take, if_pos (by omega)]
        rw [e1] at hi
        have := cell_at h2 (hcell i (by omega))
        rw [this, ← hi]
        rfl
end
end Go.Xm
