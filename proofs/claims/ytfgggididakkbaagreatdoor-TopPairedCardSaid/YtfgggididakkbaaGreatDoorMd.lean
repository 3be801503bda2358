/- The abstract machine, part 4: operations that make or write memory. -/
import Derived.Test.YtfgggididakkbaaGreatDoorMc
import Derived.Lib.FrozenHead
import Derived.Lib.OthersKept
namespace Go.Xm
open Go.RowKit

abbrev EF := Tr → Heap → Nat → Option (Value × Heap × Nat)

/-- What an operation with effects leaves. -/
def EfPost (P : Program) (o : Oper) (B : Bd) (ρ : Rho) (a : Act) (w : World) (v : Value) (h' : Heap) (c' : Nat) : Prop :=
  ∃ v' w' ρ', ((execOp a.eval o).run P w = .ok (.value v') w' ∨ ((execOp a.eval o).run P w = .ok .skip w' ∧ v' = undef)) ∧
    VRel ρ' v v' ∧ Rho.le ρ ρ' ∧ ρ'.length = c' ∧ HRel B ρ' h' w' ∧ Bel B w w'

def EfOk (P : Program) (nt : Nat) (o : Oper) (f : EF) : Prop :=
  ∀ tm h c v h' c', f tm h c = some (v, h', c') → ∀ (B : Bd) (ρ : Rho) (a : Act) (w : World), TRel ρ nt tm a → HRel B ρ h w → ρ.length = c → B.n ≤ w.heap.size →
    EfPost P o B ρ a w v h' c'

/-! ### New blocks of cells -/
theorem heap_new (w : World) (o : Obj) : (w.alloc o).heap[w.heap.size]? = some o := by
  show (w.heap.push o)[w.heap.size]? = some o
  simp
theorem heap_old (w : World) (o : Obj) {k : Nat} (h : k < w.heap.size) : (w.alloc o).heap[k]? = w.heap[k]? := Below.heap_alloc w o k h

/-- The values of the cells one by one. -/
def Cells (ρ : Rho) (cs : List Value) (C : List Value) : Prop := cs.length = C.length ∧ ∀ (i : Nat) (v v' : Value), cs[i]? = some v → C[i]? = some v' → VRel ρ v v'

theorem Cells.mono {ρ ρ' : Rho} (hle : Rho.le ρ ρ') {cs C : List Value} (h : Cells ρ cs C) : Cells ρ' cs C := ⟨h.1, fun i v v' a b => (h.2 i v v' a b).mono hle⟩
theorem Cells.nil (ρ : Rho) : Cells ρ [] [] := ⟨rfl, fun i v v' a => by simp at a⟩
theorem Cells.append {ρ : Rho} {a b c d : List Value} (h : Cells ρ a c) (k : Cells ρ b d) : Cells ρ (a ++ b) (c ++ d) := by
  refine ⟨by simp [h.1, k.1], fun i v v' e1 e2 => ?_⟩
  by_cases hi : i < a.length
  · rw [List.getElem?_append_left hi] at e1
    rw [List.getElem?_append_left (by rw [← h.1]; exact hi)] at e2
    exact h.2 i v v' e1 e2
  · rw [List.getElem?_append_right (by omega)] at e1
    rw [List.getElem?_append_right (by rw [← h.1]; omega), ← h.1] at e2
    exact k.2 _ v v' e1 e2
theorem Cells.take {ρ : Rho} {a c : List Value} (h : Cells ρ a c) (n : Nat) : Cells ρ (a.take n) (c.take n) := by
  refine ⟨by simp [h.1], fun i v v' e1 e2 => ?_⟩
  rw [List.getElem?_take] at e1 e2
  split at e1
  · exact h.2 i v v' e1 (by rename_i hi; rw [if_pos hi] at e2; exact e2)
  · cases e1
theorem Cells.drop {ρ : Rho} {a c : List Value} (h : Cells ρ a c) (n : Nat) : Cells ρ (a.drop n) (c.drop n) := by
  refine ⟨by simp [h.1], fun i v v' e1 e2 => ?_⟩
  rw [List.getElem?_drop] at e1 e2
  exact h.2 _ v v' e1 e2

theorem Cells.get {ρ : Rho} {a c : List Value} (h : Cells ρ a c) {i : Nat} {v : Value} (e : a[i]? = some v) : ∃ v', c[i]? = some v' ∧ VRel ρ v v' := by
  have hi : i < c.length := by have := (List.getElem?_eq_some_iff.1 e).1; rw [← h.1]; exact this
  exact ⟨c[i], List.getElem?_eq_getElem hi, h.2 i v _ e (List.getElem?_eq_getElem hi)⟩

/-- What an abstract block of cells is in the world. -/
theorem OOk.cells {ρ : Rho} {w : World} {L : Loc} {cs : List Value} {fz : Nat} {e : TypeId} {es : Nat} (h : OOk ρ w L (.cells cs fz e es)) (hne : cs ≠ [] ∨ es = 0) :
    L.es = es ∧ ¬ L.gho ∧ ∃ C fr, w.heap[L.b]? = some (.cells C e fr) ∧ C.size = L.sz ∧ L.sh + cs.length ≤ L.sz ∧ Cells ρ cs ((C.toList.drop L.sh).take cs.length) ∧ fr.2 ≤ L.sh + fz ∧ (L.es = 0 → L.sh = 0 ∧ L.sz = cs.length) := by
  obtain ⟨h0, hn, C, fr, h1, h2, h3, h4, h5, h6⟩ := h.real hne
  refine ⟨h0, hn, C, fr, h1, h2, h3, ⟨by simp; omega, fun i v v' e1 e2 => ?_⟩, h5, h6⟩
  obtain ⟨u, a, b⟩ := h4 i v e1
  rw [List.getElem?_take] at e2
  split at e2
  · rw [List.getElem?_drop, Array.getElem?_toList, a] at e2
    cases e2
    exact b
  · cases e2

theorem OOk.cellsN {ρ : Rho} {w : World} {L : Loc} {cs : List Value} {fz : Nat} {e : TypeId} {es : Nat} (h : OOk ρ w L (.cells cs fz e es)) (hn : ¬ L.gho) :
    ∃ C fr, w.heap[L.b]? = some (.cells C e fr) ∧ C.size = L.sz ∧ L.sh + cs.length ≤ L.sz ∧ Cells ρ cs ((C.toList.drop L.sh).take cs.length) ∧ fr.2 ≤ L.sh + fz ∧ (L.es = 0 → L.sh = 0 ∧ L.sz = cs.length) := by
  obtain ⟨h0, hg | ⟨C, fr, h1, h2, h3, h4, h5, h6⟩⟩ := h
  · exact absurd hg.1 hn
  refine ⟨C, fr, h1, h2, h3, ⟨by simp; omega, fun i v v' e1 e2 => ?_⟩, h5, h6⟩
  obtain ⟨u, a, b⟩ := h4 i v e1
  rw [List.getElem?_take] at e2
  split at e2
  · rw [List.getElem?_drop, Array.getElem?_toList, a] at e2
    cases e2
    exact b
  · cases e2

theorem OOk.mk_cells {ρ : Rho} {w : World} {L : Loc} {cs : List Value} {fz : Nat} {e : TypeId} {es : Nat} {C : Array Value} {fr : Nat × Nat} (h0 : L.es = es) (h1 : w.heap[L.b]? = some (.cells C e fr)) (h2 : C.size = L.sz)
    (h3 : L.sh + cs.length ≤ L.sz) (h4 : Cells ρ cs ((C.toList.drop L.sh).take cs.length)) (h5 : fr.2 ≤ L.sh + fz) (h6 : L.es = 0 → L.sh = 0 ∧ L.sz = cs.length) : OOk ρ w L (.cells cs fz e es) := by
  refine ⟨h0, .inr ⟨C, fr, h1, h2, h3, fun i v e1 => ?_, h5, h6⟩⟩
  obtain ⟨v', a, b⟩ := h4.get e1
  have hi : i < cs.length := (List.getElem?_eq_some_iff.1 e1).1
  rw [List.getElem?_take, if_pos hi, List.getElem?_drop, Array.getElem?_toList] at a
  exact ⟨v', a, b⟩

/-- A new block, capacities known. -/
theorem HRel.newCells {B : Bd} {ρ : Rho} {h : Heap} {w : World} (H : HRel B ρ h w) (hB : B.n ≤ w.heap.size) {cs : List Value} {C : Array Value} (hc : Cells ρ cs C.toList) (e : TypeId) :
    HRel B (ρ ++ [⟨w.heap.size, 0, C.size, 0⟩]) ((ρ.length, .cells cs 0 e 0) :: h) (w.alloc (.cells C e)) := by
  have hl : cs.length = C.size := by simpa using hc.1
  refine H.new hB (Nat.le_refl _) (fun k hk => heap_old w _ hk) ?_
  refine OOk.mk_cells (C := C) (fr := (0, 0)) rfl (heap_new w _) rfl (by show 0 + cs.length ≤ C.size; omega) ?_ (Nat.zero_le _) (fun _ => ⟨rfl, hl.symm⟩)
  have : (C.toList.drop 0).take cs.length = C.toList := by rw [List.drop_zero, hc.1]; exact List.take_length
  rw [this]
  exact hc.mono (Rho.le_push _ _)

/-- A new block, elements of so many cells, capacities not told. -/
theorem HRel.newCellsS {B : Bd} {ρ : Rho} {h : Heap} {w : World} (H : HRel B ρ h w) (hB : B.n ≤ w.heap.size) {cs : List Value} {C D : Array Value} (hc : Cells ρ cs D.toList) (hD : D = C.extract 0 cs.length) (hl : cs.length ≤ C.size) (e : TypeId) {es : Nat} (hes : es = 0 → cs.length = C.size) :
    HRel B (ρ ++ [⟨w.heap.size, 0, C.size, es⟩]) ((ρ.length, .cells cs 0 e es) :: h) (w.alloc (.cells C e)) := by
  refine H.new hB (Nat.le_refl _) (fun k hk => heap_old w _ hk) ?_
  refine OOk.mk_cells (C := C) (fr := (0, 0)) rfl (heap_new w _) rfl (by show 0 + cs.length ≤ C.size; omega) ?_ (Nat.zero_le _) (fun q => ⟨rfl, (hes q).symm⟩)
  have : (C.toList.drop 0).take cs.length = D.toList := by rw [hD]; simp
  rw [this]
  exact hc.mono (Rho.le_push _ _)

/-- A value that is no poison: its cells. -/
def solid : Value → Bool
  | .chan _ => false
  | _ => true

theorem VRel.cells {ρ : Rho} {v v' : Value} (h : VRel ρ v v') (hs : solid v = true) : Cells ρ v.cells.toList v'.cells.toList := by
  have one : ∀ (a b : Value), VRel ρ a b → Cells ρ [a] [b] := by
    intro a b hab
    refine ⟨rfl, fun i u u' e1 e2 => ?_⟩
    cases i with
    | zero => simp at e1 e2; subst e1; subst e2; exact hab
    | succ i => simp at e1
  cases h with
  | poison v => simp [solid] at hs
  | agg c c' hc hr =>
    exact ⟨by simpa [Value.cells] using hc, fun i u u' e1 e2 => hr i u u' (by simpa [Value.cells] using e1) (by simpa [Value.cells] using e2)⟩
  | bool b => exact one _ _ (.bool b)
  | int k n => exact one _ _ (.int k n)
  | string s => exact one _ _ (.string s)
  | pnil => exact one _ _ .pnil
  | ptr i o L h => exact one _ _ (.ptr i o L h)
  | snil => exact one _ _ .snil
  | slice i o len cap L o' cap' h hz h0 h1 => exact one _ _ (.slice i o len cap L o' cap' h hz h0 h1)
  | sliceN i o L h hes => exact one _ _ (.sliceN i o L h hes)
  | zslice i o k a hk => exact one _ _ (.zslice i o k a hk)
  | mnil => exact one _ _ .mnil
  | map r L h => exact one _ _ (.map r L h)
  | fnil => exact one _ _ .fnil
  | inil => exact one _ _ .inil
  | iface t v v' h => exact one _ _ (.iface t v v' h)
  | func fn f f' c c' hf hc h1 h2 => exact one _ _ (.func fn f f' c c' hf hc h1 h2)
  | tuple c c' hc hr => exact one _ _ (.tuple c c' hc hr)

/-- One cell, no poison. -/
def one1 : Value → Bool
  | .agg _ | .tuple _ | .chan _ => false
  | _ => true

theorem VRel.one1 {ρ : Rho} {v v' : Value} (h : VRel ρ v v') (hs : Xm.one1 v = true) : v'.oneCell' = true := by
  cases h <;> first | rfl | simp [Xm.one1] at hs

theorem Cells.one1 {ρ : Rho} {cs C : List Value} (h : Cells ρ cs C) (hs : cs.all Xm.one1 = true) : ∀ u ∈ C, u.oneCell' = true := by
  intro u hu
  obtain ⟨i, hi⟩ := List.getElem?_of_mem hu
  have hlt : i < cs.length := by have := (List.getElem?_eq_some_iff.1 hi).1; rw [h.1]; exact this
  exact (h.2 i _ u (List.getElem?_eq_getElem hlt) hi).one1 (List.all_eq_true.1 hs _ (List.getElem_mem hlt))

theorem Cells.closed {cs : List Value} (ρ : Rho) (h : cs.all closedV = true) : Cells ρ cs cs := by
  refine ⟨rfl, fun i v v' e1 e2 => ?_⟩
  rw [e1] at e2
  cases e2
  exact VRel.closed_refl ρ (List.all_eq_true.1 h v (List.mem_of_getElem? e1))

/-! alloc, box -/
noncomputable def eAlloc (z : List Value) (e : TypeId) : EF := fun _ h c => some (.pointer (some ⟨c, 0, none⟩), (c, .cells z 0 e 0) :: h, c + 1)

theorem below_alloc {B : Bd} {w : World} (hB : B.n ≤ w.heap.size) (o : Obj) : Bel B w (w.alloc o) := (Bel.refl B w).alloc hB o

theorem eAlloc_ok {P : Program} {ty : Nat → Option XTy} (hT : TyOk P ty) {nt : Nat} {o : Oper} {e : TypeId} {d : XTy} (ho : o.op = .alloc e) (hd : ty e = some d) (hz : d.zero.cells.toList.all closedV = true) : EfOk P nt o (eAlloc d.zero.cells.toList e) := by
  intro tm h c v h' c' hf B ρ a w ht hh hc hB
  cases hf
  subst hc
  have hzr := hT.zero hd w
  refine ⟨.pointer (some ⟨w.heap.size, 0, none⟩), w.alloc (.cells d.zero.cells e), ρ ++ [⟨w.heap.size, 0, d.zero.cells.size, 0⟩], .inl ?_, ?_, Rho.le_push _ _, by simp, hh.newCells hB (Cells.closed ρ hz) e, below_alloc hB _⟩
  · simp [execOp, ho, Instr.alloc, hzr, newVar, newRow]
  · exact .ptr ρ.length 0 ⟨w.heap.size, 0, d.zero.cells.size, 0⟩ (by simp)

noncomputable def eBox (x : Src) (e : TypeId) : EF := fun tm h c =>
  match solid (ev tm x) with
  | true => some (.pointer (some ⟨c, 0, none⟩), (c, .cells (ev tm x).cells.toList 0 e 0) :: h, c + 1)
  | false => none

theorem eBox_ok {P : Program} {nt : Nat} {o : Oper} {e : TypeId} {x : Operand} (ho : o.op = .box e x) : EfOk P nt o (eBox (src nt x) e) := by
  intro tm h c v h' c' hf B ρ a w ht hh hc hB
  have hx := src_ok ht x
  unfold eBox at hf
  split at hf
  · rename_i hs
    cases hf
    subst hc
    refine ⟨.pointer (some ⟨w.heap.size, 0, none⟩), w.alloc (.cells (a.eval x).cells e), ρ ++ [⟨w.heap.size, 0, (a.eval x).cells.size, 0⟩], .inl ?_, ?_, Rho.le_push _ _, by simp, hh.newCells hB (hx.cells hs) e, below_alloc hB _⟩
    · simp [execOp, ho, Instr.box, newVar, newRow]
    · exact .ptr ρ.length 0 ⟨w.heap.size, 0, (a.eval x).cells.size, 0⟩ (by simp)
  · cases hf

/-! fill: what a literal is made of -/
theorem zipIdx_foldl_size (l : List (Value × Nat)) : ∀ (cs : Array Value) (off : Nat), (l.foldl (fun cs (p : Value × Nat) => cs.setIfInBounds (off + p.2) p.1) cs).size = cs.size := by
  induction l with
  | nil => intro cs off; rfl
  | cons p l ih => intro cs off; rw [List.foldl_cons, ih]; simp

theorem fold_rel {ρ : Rho} (off : Nat) : ∀ (l l' : List Value) (n : Nat) (cs C : Array Value), Cells ρ l l' → Cells ρ cs.toList C.toList →
    Cells ρ ((l.zipIdx n).foldl (fun cs (p : Value × Nat) => cs.setIfInBounds (off + p.2) p.1) cs).toList ((l'.zipIdx n).foldl (fun cs (p : Value × Nat) => cs.setIfInBounds (off + p.2) p.1) C).toList
  | [], [], _, _, _, _, h => h
  | [], _ :: _, _, _, _, h, _ => by have := h.1; simp at this
  | _ :: _, [], _, _, _, h, _ => by have := h.1; simp at this
  | v :: l, v' :: l', n, cs, C, hl, h => by
    simp only [List.zipIdx_cons, List.foldl_cons]
    refine fold_rel off l l' (n + 1) _ _ ⟨by have := hl.1; simpa using this, fun i u u' e1 e2 => hl.2 (i + 1) u u' (by simpa using e1) (by simpa using e2)⟩ ?_
    refine ⟨by simpa using h.1, fun i u u' e1 e2 => ?_⟩
    have hsz : cs.size = C.size := by simpa using h.1
    simp only [Array.getElem?_toList, Array.getElem?_setIfInBounds] at e1 e2
    by_cases hi : off + n = i
    · rw [if_pos hi] at e1 e2
      split at e1
      · rw [if_pos (by omega)] at e2
        cases e1; cases e2
        exact hl.2 0 v v' rfl rfl
      · cases e1
    · rw [if_neg hi] at e1 e2
      exact h.2 i u u' (by simpa using e1) (by simpa using e2)

/-- Parts one by one. -/
def PartsRel (ρ : Rho) (l l' : List (Nat × Value)) : Prop := l.length = l'.length ∧ ∀ (i : Nat) (p p' : Nat × Value), l[i]? = some p → l'[i]? = some p' → p.1 = p'.1 ∧ solid p.2 = true ∧ VRel ρ p.2 p'.2

theorem fill_rel {ρ : Rho} (place : Nat → Option (Nat × Nat)) : ∀ (l l' : List (Nat × Value)) (cs C r : Array Value), PartsRel ρ l l' → Cells ρ cs.toList C.toList → Instr.fill place cs l = some r →
    ∃ r', Instr.fill place C l' = some r' ∧ Cells ρ r.toList r'.toList
  | [], [], cs, C, r, _, h, e => by simp only [Instr.fill, Option.some.injEq] at e; subst e; exact ⟨C, rfl, h⟩
  | [], _ :: _, _, _, _, h, _, _ => by have := h.1; simp at this
  | _ :: _, [], _, _, _, h, _, _ => by have := h.1; simp at this
  | (i, v) :: l, (i', v') :: l', cs, C, r, hl, h, e => by
    obtain ⟨e1, e2, e3⟩ := hl.2 0 (i, v) (i', v') rfl rfl
    simp only at e1 e2 e3
    subst e1
    simp only [Instr.fill] at e ⊢
    cases hp : place i with
    | none => rw [hp] at e; cases e
    | some q =>
      obtain ⟨off, size⟩ := q
      rw [hp] at e
      simp only at e ⊢
      have hcl := e3.cells e2
      have hv : v.cells.size = v'.cells.size := by simpa using hcl.1
      have hsz : cs.size = C.size := by simpa using h.1
      by_cases hb : v.cells.size ≠ size ∨ off + v.cells.size > cs.size
      · rw [if_pos (by simpa using hb)] at e; cases e
      · have hb' : ¬ (v'.cells.size ≠ size ∨ off + v'.cells.size > C.size) := by rw [← hv, ← hsz]; exact hb
        rw [if_neg (by simpa using hb)] at e
        rw [if_neg (by simpa using hb')]
        have hf := fold_rel off v.cells.toList v'.cells.toList 0 cs C hcl h
        rw [← Array.foldl_toList] at e ⊢
        simp only [Array.toList_zipIdx] at e ⊢
        exact fill_rel place l l' _ _ r ⟨by have := hl.1; simpa using this, fun j p p' a b => hl.2 (j + 1) p p' (by simpa using a) (by simpa using b)⟩ hf e

noncomputable def partsV (nt : Nat) (tm : Tr) (l : List (Nat × Operand)) : List (Nat × Value) := l.map fun p => (p.1, ev tm (src nt p.2))

theorem parts_rel {ρ : Rho} {nt : Nat} {tm : Tr} {a : Act} (ht : TRel ρ nt tm a) (l : List (Nat × Operand)) (hs : (partsV nt tm l).all (fun p => solid p.2) = true) :
    PartsRel ρ (partsV nt tm l) (l.map fun p => (p.1, a.eval p.2)) := by
  refine ⟨by simp [partsV], fun i p p' e1 e2 => ?_⟩
  have hsol := List.all_eq_true.1 hs p (List.mem_of_getElem? e1)
  simp only [partsV, List.getElem?_map, Option.map_eq_some_iff] at e1 e2
  obtain ⟨q, a1, a2⟩ := e1
  obtain ⟨q', b1, b2⟩ := e2
  rw [a1] at b1
  cases b1
  subst a2; subst b2
  exact ⟨rfl, hsol, src_ok ht q.2⟩

/-! build: a struct or an array as a value -/
noncomputable def rBuild (nt : Nat) (place : Nat → Option (Nat × Nat)) (z : Array Value) (parts : List (Nat × Operand)) : RF := fun tm _ =>
  match (partsV nt tm parts).all (fun p => solid p.2) with
  | true => match Instr.fill place z (partsV nt tm parts) with
    | some r => some (.agg r)
    | none => none
  | false => none

/-- The places of a struct's fields. -/
def placesOf (ty : Nat → Option XTy) : List Field → Option (List (Nat × Nat))
  | [] => some []
  | f :: fs => match ty f.type, placesOf ty fs with
    | some d, some l => some ((f.offset, d.size) :: l)
    | _, _ => none

theorem run_placesOf {P : Program} {ty : Nat → Option XTy} (hT : TyOk P ty) (w : World) : ∀ (fs : List Field) (l : List (Nat × Nat)), placesOf ty fs = some l →
    (fs.mapM fun f => do pure (f.offset, ← sizeOf f.type) : Sem (List (Nat × Nat))).run P w = .ok l w
  | [], l, h => by simp only [placesOf, Option.some.injEq] at h; subst h; rfl
  | f :: fs, l, h => by
    simp only [placesOf] at h
    split at h
    · rename_i d l0 h1 h2
      cases h
      have hs := hT.sizeOf h1 w
      have ih := run_placesOf hT w fs l0 h2
      simp only [List.mapM_cons, Sem.run_bind, hs, Result.andThen_ok, Sem.run_pure, ih]
    · cases h

theorem rBuildS_ok {P : Program} {ty : Nat → Option XTy} (hT : TyOk P ty) {nt : Nat} {o : Oper} {t : TypeId} {parts : Array (Nat × Operand)} {d : XTy} {fs : Array Field} {l : List (Nat × Nat)} (ho : o.op = .build t parts)
    (hd : ty t = some d) (hu : d.u = .struct fs) (hz : d.zero.cells.toList.all closedV = true) (hp : placesOf ty fs.toList = some l) :
    RdOk P nt o (rBuild nt (fun i => l.toArray[i]?) d.zero.cells parts.toList) := by
  apply RdOk.of_all
  intro tm h v hf B ρ a w ht hh
  unfold rBuild at hf
  split at hf
  · rename_i hs
    split at hf
    · rename_i r hr
      cases hf
      obtain ⟨r', e1, e2⟩ := fill_rel (ρ := ρ) (fun i => l.toArray[i]?) _ _ d.zero.cells d.zero.cells r (parts_rel ht parts.toList hs) (Cells.closed ρ hz) hr
      refine ⟨.agg r', .agg r r' (by simpa using e2.1) (fun i u u' a1 a2 => e2.2 i u u' (by simpa using a1) (by simpa using a2)), fun w' => ?_⟩
      have hun := hT.und hd w'
      have hzr := hT.zero hd w'
      have hpl := run_placesOf hT w' fs.toList l hp
      have hmap : (parts.map fun p => (p.1, a.eval p.2)).toList = parts.toList.map fun p => (p.1, a.eval p.2) := by simp
      simp only [execOp, ho, Instr.build, Sem.run_bind, hzr, Result.andThen_ok, hun, hu, Array.mapM_eq_mapM_toList, Sem.run_map, hpl, hmap, e1, Sem.run_pure]
    · cases hf
  · cases hf

theorem rBuildA_ok {P : Program} {ty : Nat → Option XTy} (hT : TyOk P ty) {nt : Nat} {o : Oper} {t e : TypeId} {len : Nat} {parts : Array (Nat × Operand)} {d de : XTy} (ho : o.op = .build t parts)
    (hd : ty t = some d) (hu : d.u = .array len e) (hde : ty e = some de) (hz : d.zero.cells.toList.all closedV = true) :
    RdOk P nt o (rBuild nt (fun i => some (i * de.size, de.size)) d.zero.cells parts.toList) := by
  apply RdOk.of_all
  intro tm h v hf B ρ a w ht hh
  unfold rBuild at hf
  split at hf
  · rename_i hs
    split at hf
    · rename_i r hr
      cases hf
      obtain ⟨r', e1, e2⟩ := fill_rel (ρ := ρ) (fun i => some (i * de.size, de.size)) _ _ d.zero.cells d.zero.cells r (parts_rel ht parts.toList hs) (Cells.closed ρ hz) hr
      refine ⟨.agg r', .agg r r' (by simpa using e2.1) (fun i u u' a1 a2 => e2.2 i u u' (by simpa using a1) (by simpa using a2)), fun w' => ?_⟩
      have hun := hT.und hd w'
      have hzr := hT.zero hd w'
      have hsz := hT.sizeOf hde w'
      have hmap : (parts.map fun p => (p.1, a.eval p.2)).toList = parts.toList.map fun p => (p.1, a.eval p.2) := by simp
      simp only [execOp, ho, Instr.build, Sem.run_bind, hzr, Result.andThen_ok, hun, hu, hsz, hmap, e1, Sem.run_pure]
    · cases hf
  · cases hf

end Go.Xm
