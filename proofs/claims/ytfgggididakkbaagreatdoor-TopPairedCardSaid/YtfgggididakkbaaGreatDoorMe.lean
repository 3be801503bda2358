/- The abstract machine, part 5: slices that are made, written, appended to; strings that are gone through. -/
import Derived.Test.YtfgggididakkbaaGreatDoorMd
import Derived.Lib.Builder
import Derived.Lib.UnsafeStr
namespace Go.Xm
open Go.RowKit

/-- The zero cells of n cells. -/
def bsBase (z : Array Value) (n : Nat) : Array Value := ((List.range n).map fun i => z[i % z.size]!).toArray

theorem bsBase_eq (z : Array Value) (n : Nat) : ((Array.range n).map fun i => z[i % z.size]!) = bsBase z n := by
  apply Array.ext'
  simp [bsBase]

/-! buildSlice -/
noncomputable def eBuildSlice (nt size n len : Nat) (e : TypeId) (z : Array Value) (parts : List (Nat × Operand)) : EF := fun tm h c =>
  match (partsV nt tm parts).all (fun p => solid p.2) with
  | true => match Instr.fill (fun i => some (i * size, size)) (bsBase z n) (partsV nt tm parts) with
    | some r => some (.slice (some ⟨c, 0, none⟩) len len, (c, .cells r.toList 0 e size) :: h, c + 1)
    | none => none
  | false => none

theorem fill_size (place : Nat → Option (Nat × Nat)) : ∀ (l : List (Nat × Value)) (cs r : Array Value), Instr.fill place cs l = some r → r.size = cs.size
  | [], cs, r, h => by simp only [Instr.fill, Option.some.injEq] at h; rw [← h]
  | (i, v) :: l, cs, r, h => by
    simp only [Instr.fill] at h
    cases hp : place i with
    | none => rw [hp] at h; cases h
    | some q =>
      obtain ⟨off, size⟩ := q
      rw [hp] at h
      simp only at h
      split at h
      · cases h
      · rw [← Array.foldl_toList] at h
        simp only [Array.toList_zipIdx] at h
        have := fill_size place l _ r h
        rw [this, zipIdx_foldl_size]

theorem eBuildSlice_ok {P : Program} {ty : Nat → Option XTy} (hT : TyOk P ty) {nt : Nat} {o : Oper} {t e : TypeId} {len : Nat} {parts : Array (Nat × Operand)} {d de : XTy} (ho : o.op = .buildSlice t len parts)
    (hd : ty t = some d) (hu : d.u = .slice e) (hde : ty e = some de) (hn : len * de.size ≤ 16777216) (hz : (bsBase de.zero.cells (len * de.size)).toList.all closedV = true) :
    EfOk P nt o (eBuildSlice nt de.size (len * de.size) len e de.zero.cells parts.toList) := by
  intro tm h c v h' c' hf B ρ a w ht hh hc hB
  unfold eBuildSlice at hf
  split at hf
  · rename_i hs
    split at hf
    · rename_i r hr
      cases hf
      subst hc
      obtain ⟨r', e1, e2⟩ := fill_rel (ρ := ρ) (fun i => some (i * de.size, de.size)) _ _ _ _ r (parts_rel ht parts.toList hs) (Cells.closed ρ hz) hr
      have hun := hT.und hd w
      have hsz := hT.sizeOf hde w
      have hzr := hT.zero hde w
      have hmap : (parts.map fun p => (p.1, a.eval p.2)).toList = parts.toList.map fun p => (p.1, a.eval p.2) := by simp
      have hrs : r'.size = len * de.size := by
        rw [fill_size _ _ _ _ e1]
        simp [bsBase]
      have hl : r.toList.length = r'.size := by simpa using e2.1
      refine ⟨.slice (some ⟨w.heap.size, 0, none⟩) len len, w.alloc (.cells r' e), ρ ++ [⟨w.heap.size, 0, r'.size, de.size⟩], .inl ?_, ?_, Rho.le_push _ _, by simp, hh.newCellsS hB e2 (by rw [hl]; simp) (by omega) e (fun _ => hl), below_alloc hB _⟩
      · have hn' : ¬ (len * de.size > 2 ^ 24) := by omega
        simp only [execOp, ho, Instr.buildSlice, Sem.run_bind, hun, hu, Result.andThen_ok, hsz]
        rw [if_neg hn']
        by_cases h0 : len * de.size = 0
        · have hb0 : bsBase de.zero.cells (len * de.size) = #[] := by rw [h0]; rfl
          rw [hb0] at e1
          have hr0 : Array.range 0 = #[] := rfl
          simp [h0, e1, newRow, hr0]
        · have hb1 : ((Array.range (len * de.size)).map fun x => de.zero.cells[x % de.zero.cells.size]!) = bsBase de.zero.cells (len * de.size) := bsBase_eq _ _
          simp only [h0, if_false, Sem.run_bind, hzr, Result.andThen_ok, Sem.run_pure, hb1, hmap, e1]
          simp [newRow]
      · exact .slice ρ.length 0 len len ⟨w.heap.size, 0, r'.size, de.size⟩ 0 len (by simp) (.inl rfl) (fun _ => rfl) (fun q => ⟨Nat.le_refl _, by show 0 + len * de.size ≤ r'.size; omega, Nat.le_refl _⟩)
    · cases hf
  · cases hf

/-! makeSlice: length and capacity -/
/-- May so many elements be made, with room for so many. -/
def mkOK (l n : Int) (bytes : Nat) : Bool := decide (0 ≤ l) && (decide (l ≤ n) && (Nat.ble (n.toNat * bytes) 1000000000 && decide (n ≤ 1000000000)))

noncomputable def eMakeSlice (size bytes : Nat) (e : TypeId) (z : Array Value) (l c0 : Src) : EF := fun tm h c =>
  match ev tm l, ev tm c0 with
  | .int .i64 l, .int .i64 n => match (z.toList.all closedV && Nat.beq z.size size && Nat.ble 1 size) with
    | true => match mkOK l n bytes with
      | true => some (.slice (some ⟨c, 0, none⟩) l.toNat l.toNat, (c, .cells (bsBase z (l.toNat * size)).toList 0 e size) :: h, c + 1)
      | false => none
    | false => none
  | _, _ => none

theorem bsBase_closed {z : Array Value} (hz : z.toList.all closedV = true) (n : Nat) (h0 : 0 < z.size ∨ n = 0) : (bsBase z n).toList.all closedV = true := by
  simp only [bsBase, List.all_eq_true, List.mem_map, List.mem_range]
  rintro v ⟨i, hi, rfl⟩
  have h1 : 0 < z.size := h0.resolve_right (by omega)
  have h2 : i % z.size < z.size := Nat.mod_lt _ h1
  rw [getElem!_pos z (i % z.size) h2]
  exact List.all_eq_true.1 hz _ (by simp)

theorem bsBase_take (z : Array Value) (m n : Nat) (h : m ≤ n) : bsBase z m = (bsBase z n).extract 0 m := by
  apply Array.ext'
  simp [bsBase, ← List.map_take, List.take_range, Nat.min_eq_left h]

theorem eMakeSlice_ok {P : Program} {ty : Nat → Option XTy} (hT : TyOk P ty) {nt : Nat} {o : Oper} {t e : TypeId} {x y : Operand} {d de : XTy} (ho : o.op = .makeSlice t x y)
    (hd : ty t = some d) (hu : d.u = .slice e) (hde : ty e = some de) :
    EfOk P nt o (eMakeSlice de.size de.bytes e de.zero.cells (src nt x) (src nt y)) := by
  intro tm h c v h' c' hf B ρ a w ht hh hc hB
  have hx := src_ok ht x
  have hy := src_ok ht y
  unfold eMakeSlice at hf
  split at hf
  · rename_i l n hl hn
    rw [hl] at hx
    rw [hn] at hy
    generalize e1 : a.eval x = x' at hx
    generalize e2 : a.eval y = y' at hy
    cases hx
    cases hy
    split at hf
    · rename_i hz
      simp only [Bool.and_eq_true, Nat.ble_eq] at hz
      obtain ⟨⟨hz, hzs⟩, hz1⟩ := hz
      have hzs := Nat.eq_of_beq_eq_true hzs
      split at hf
      · rename_i hb
        cases hf
        subst hc
        simp only [mkOK, Bool.and_eq_true, Nat.ble_eq, decide_eq_true_eq] at hb
        obtain ⟨b0, b1, b2, b3⟩ := hb
        obtain ⟨l, rfl⟩ : ∃ m : Nat, l = m := ⟨l.toNat, by omega⟩
        obtain ⟨n, rfl⟩ : ∃ m : Nat, n = m := ⟨n.toNat, by omega⟩
        simp only [Int.toNat_natCast] at b2 ⊢
        have b1' : l ≤ n := by omega
        have b3' : n ≤ 1000000000 := by omega
        have hun := hT.und hd w
        have hsz := hT.sizeOf hde w
        have hzr := hT.zero hde w
        obtain ⟨_, i, i1, i2, i3, i4⟩ := hT e de hde
        have hls : (bsBase de.zero.cells (l * de.size)).size = l * de.size := by simp [bsBase]
        have hns : (bsBase de.zero.cells (n * de.size)).size = n * de.size := by simp [bsBase]
        have hle : l * de.size ≤ n * de.size := Nat.mul_le_mul_right _ b1'
        have b4 : (bsBase de.zero.cells (l * de.size)).toList.all closedV = true := by
          refine bsBase_closed hz _ ?_
          by_cases q : de.size = 0
          · exact .inr (by rw [q, Nat.mul_zero])
          · exact .inl (by omega)
        refine ⟨.slice (some ⟨w.heap.size, 0, none⟩) l n, w.alloc (.cells (bsBase de.zero.cells (n * de.size)) e), ρ ++ [⟨w.heap.size, 0, (bsBase de.zero.cells (n * de.size)).size, de.size⟩], .inl ?_, ?_, Rho.le_push _ _, by simp,
          hh.newCellsS hB (Cells.closed ρ b4) (by rw [Array.length_toList, hls]; exact bsBase_take _ _ _ hle) (by rw [Array.length_toList]; omega) e (fun q => by rw [Array.length_toList, hls, hns, q, Nat.mul_zero, Nat.mul_zero]), below_alloc hB _⟩
        · have hwl : IntKind.i64.wrap (l : Int) = l := IntWalk.i64_in _ (by omega)
          have hwn : IntKind.i64.wrap (n : Int) = n := IntWalk.i64_in _ (by omega)
          have hby : (de.bytes : Int) * (n : Int) ≤ 1000000000 := by
            have : ((de.bytes * n : Nat) : Int) ≤ ((1000000000 : Nat) : Int) := Int.ofNat_le.2 (by rw [Nat.mul_comm]; exact b2)
            simpa using this
          have hc1 : ¬ ((n : Int) < 0) := by omega
          have hc2 : ¬ ((de.bytes : Int) * (n : Int) > 2 ^ 48) := by omega
          have hc3 : ¬ ((l : Int) < 0) := by omega
          have hc4 : ¬ ((l : Int) > (n : Int)) := by omega
          have hi : (typeInfo e).run P w = .ok i w := by simp [typeInfo, i1]
          simp only [execOp, ho, e1, e2, Instr.makeSlice, Sem.run_bind, hun, hu, Result.andThen_ok, asInt, asIntOf, Sem.run_pure, hi, i3, hwl, hwn]
          have hg : ((decide ((n : Int) < 0) || decide ((de.bytes : Int) * (n : Int) > 2 ^ 48)) || decide ((l : Int) < 0) || decide ((l : Int) > (n : Int))) = false := by
            simp only [decide_eq_false hc1, decide_eq_false hc2, decide_eq_false hc3, decide_eq_false hc4, Bool.or_false]
          rw [if_neg (by rw [hg]; simp)]
          simp only [Int.toNat_natCast, run_askRoom, Result.andThen_ok, Sem.run_bind, hsz]
          by_cases h0 : n * de.size = 0
          · have hr0 : Array.range 0 = #[] := rfl
            simp [h0, bsBase, newRow, hr0]
          · have hb1 : ((Array.range (n * de.size)).map fun x => de.zero.cells[x % de.zero.cells.size]!) = bsBase de.zero.cells (n * de.size) := bsBase_eq _ _
            simp only [h0, if_false, Sem.run_bind, hzr, Result.andThen_ok, Sem.run_pure, hb1]
            simp [newRow]
        · refine .slice ρ.length 0 l l ⟨w.heap.size, 0, (bsBase de.zero.cells (n * de.size)).size, de.size⟩ 0 n (by simp) (.inl rfl) (fun q => by have q : de.size = 0 := q; omega) (fun q => ⟨b1', by show 0 + n * de.size ≤ (bsBase de.zero.cells (n * de.size)).size; omega, Nat.le_refl _⟩)
      · cases hf
    · cases hf
  · cases hf

/-! store -/
theorem below_setRow {B : Bd} {w : World} {g : Nat} (hg : B.may g) (C : Array Value) : Bel B w (w.setRow g C) :=
  ⟨rfl, rfl, rfl, by simp [World.setRow], fun k hk => setRow_other w g k C (fun q => hk (by rw [q]; exact hg))⟩

/-- Cells of a block are written. -/
theorem HRel.setCells {B : Bd} {ρ : Rho} {h : Heap} {w : World} (H : HRel B ρ h w) {i : Nat} {cs : List Value} {fz : Nat} {e : TypeId} {es : Nat} {L : Loc} (hi : hget h i = some (.cells cs fz e es)) (hL : ρ[i]? = some L)
    {off : Nat} {vs vs' : List Value} (hv : Cells ρ vs vs') (hne : cs ≠ [] ∨ es = 0) (hvn : vs ≠ []) (hoff : off + vs.length ≤ cs.length) (hfz : fz ≤ off) {P : Program} (h1 : ∀ u ∈ vs', u.oneCell' = true) :
    ∃ w', (storeCells ⟨L.b, L.sh + off, none⟩ vs').run P w = .ok () w' ∧ HRel B ρ (hset h i (.cells (cs.take off ++ vs ++ cs.drop (off + vs.length)) fz e es)) w' ∧ Bel B w w' := by
  obtain ⟨hB0, ho⟩ := H.at hi hL
  obtain ⟨h0, hng, C, fr, c1, c2, c3, c4, c5, c6⟩ := ho.real hne
  have hvl : vs.length = vs'.length := hv.1
  have hB1 : frz (.cells cs fz e es) = false := by
    cases hf : frz (.cells cs fz e es) with
    | false => rfl
    | true =>
      have := frz_cells hf
      have := List.length_pos_iff.2 hvn
      omega
  have hB : B.may L.b := hB0 hB1
  have hrun := run_storeCells_atF P L.b (L.sh + off) e fr vs' 0 C w c1 (by omega) (by omega) h1
  simp only [Nat.add_zero] at hrun
  refine ⟨_, hrun, H.set hi hL hng hB (fun k _ hk => setRow_other w L.b k _ hk) ?_ hB1, below_setRow hB _⟩
  refine ⟨h0, .inr ⟨_, fr, setRow_heap w L.b C _ e fr c1, ?_, ?_, ?_, c5, ?_⟩⟩
  · simp; omega
  · simp; omega
  · intro j u hj
    simp only [List.getElem?_toArray]
    have hC : (C.toList.take (L.sh + off)).length = L.sh + off := by simp; omega
    have hcs : (cs.take off).length = off := by simp; omega
    by_cases j1 : j < off
    · rw [List.append_assoc, List.getElem?_append_left (by omega)] at hj
      rw [List.append_assoc, List.getElem?_append_left (by omega)]
      rw [List.getElem?_take, if_pos j1] at hj
      rw [List.getElem?_take, if_pos (by omega)]
      obtain ⟨u', q1, q2⟩ := c4 j u hj
      exact ⟨u', by simpa using q1, q2⟩
    · by_cases j2 : j < off + vs.length
      · rw [List.append_assoc, List.getElem?_append_right (by omega), List.getElem?_append_left (by omega)] at hj
        rw [List.append_assoc, List.getElem?_append_right (by omega), List.getElem?_append_left (by omega)]
        have hidx : L.sh + j - (C.toList.take (L.sh + off)).length = j - (cs.take off).length := by omega
        rw [hidx]
        exact hv.get hj
      · rw [List.getElem?_append_right (by simp; omega)] at hj
        rw [List.getElem?_append_right (by simp; omega)]
        rw [List.getElem?_drop] at hj ⊢
        have e1 : off + vs.length + (j - (cs.take off ++ vs).length) = j := by simp; omega
        have e2 : L.sh + off + vs'.length + (L.sh + j - (C.toList.take (L.sh + off) ++ vs').length) = L.sh + j := by simp; omega
        rw [e1] at hj
        rw [e2]
        obtain ⟨u', q1, q2⟩ := c4 j u hj
        exact ⟨u', by simpa using q1, q2⟩
  · intro z
    obtain ⟨z1, z2⟩ := c6 z
    exact ⟨z1, by simp; omega⟩

noncomputable def eStore (size : Nat) (x y : Src) : EF := fun tm h c =>
  match ev tm x with
  | .pointer (some ⟨i, off, _⟩) => match hget h i with
    | some (.cells cs fz e es) =>
      match (Nat.ble 1 size && solid (ev tm y) && (ev tm y).cells.toList.all one1 && Nat.beq (ev tm y).cells.size size && Nat.ble fz off && Nat.ble (off + size) cs.length) with
      | true => some (undef, hset h i (.cells (cs.take off ++ (ev tm y).cells.toList ++ cs.drop (off + size)) fz e es), c)
      | false => none
    | _ => none
  | _ => none

theorem eStore_ok {P : Program} {ty : Nat → Option XTy} (hT : TyOk P ty) {nt : Nat} {o : Oper} {t : TypeId} {x y : Operand} {d : XTy} (ho : o.op = .store t x y) (hd : ty t = some d) : EfOk P nt o (eStore d.size (src nt x) (src nt y)) := by
  intro tm h c v h' c' hf B ρ a w ht hh hc hB
  have hx := src_ok ht x
  have hy := src_ok ht y
  unfold eStore at hf
  split at hf
  · rename_i i off sp hp
    rw [hp] at hx
    generalize e1 : a.eval x = x' at hx
    cases hx with
    | ptr i off L hL =>
      split at hf
      · rename_i cs fz e es hg
        split at hf
        · rename_i hb
          cases hf
          simp only [Bool.and_eq_true, Nat.ble_eq] at hb
          obtain ⟨⟨⟨⟨⟨b0, b1⟩, b2⟩, b3⟩, b4⟩, b5⟩ := hb
          have b3' := Nat.eq_of_beq_eq_true b3
          have hcl := hy.cells b1
          have hlen : (ev tm (src nt y)).cells.toList.length = d.size := by simpa using b3'
          have hlen' : (a.eval y).cells.size = d.size := by have := hcl.1; simp at this; omega
          obtain ⟨w', r1, r2, r3⟩ := hh.setCells (P := P) hg hL hcl (.inl (by intro q; subst q; simp at b5; omega)) (by intro q; rw [q] at hlen; simp at hlen; omega) (by rw [hlen]; exact b5) b4 (hcl.one1 b2)
          have hsz := hT.sizeOf hd w
          refine ⟨undef, w', ρ, .inr ⟨?_, rfl⟩, VRel.undef ρ, Rho.le_refl ρ, hc, ?_, r3⟩
          · simp [execOp, ho, e1, Instr.storeAt, Instr.sureAddr, storeVar, hsz, hlen', r1]
          · rw [hlen] at r2; exact r2
        · cases hf
      · cases hf
  · cases hf

/-- A store of what has no cells. -/
noncomputable def eStore0 (x y : Src) : EF := fun tm h c =>
  match ev tm x with
  | .pointer (some _) => match (solid (ev tm y) && Nat.beq (ev tm y).cells.size 0) with
    | true => some (undef, h, c)
    | false => none
  | _ => none

theorem eStore0_ok {P : Program} {ty : Nat → Option XTy} (hT : TyOk P ty) {nt : Nat} {o : Oper} {t : TypeId} {x y : Operand} {d : XTy} (ho : o.op = .store t x y) (hd : ty t = some d) (h0 : d.size = 0) : EfOk P nt o (eStore0 (src nt x) (src nt y)) := by
  intro tm h c v h' c' hf B ρ a w ht hh hc hB
  have hx := src_ok ht x
  have hy := src_ok ht y
  unfold eStore0 at hf
  split at hf
  · rename_i p hp
    rw [hp] at hx
    generalize e1 : a.eval x = x' at hx
    cases hx with
    | ptr i off L hL =>
      split at hf
      · rename_i hb
        cases hf
        simp only [Bool.and_eq_true] at hb
        obtain ⟨b1, b3⟩ := hb
        have b3' := Nat.eq_of_beq_eq_true b3
        have hcl := hy.cells b1
        have hlen' : (a.eval y).cells.size = 0 := by have := hcl.1; simp at this; omega
        have hnil : (a.eval y).cells.toList = [] := List.eq_nil_of_length_eq_zero (by simpa using hlen')
        have hsz := hT.sizeOf hd w
        rw [h0] at hsz
        refine ⟨undef, w, ρ, .inr ⟨?_, rfl⟩, VRel.undef ρ, Rho.le_refl ρ, hc, hh, Bel.refl _ _⟩
        simp [execOp, ho, e1, Instr.storeAt, Instr.sureAddr, storeVar, hsz, hlen', hnil, storeCells]
      · cases hf
  · cases hf

/-! range over a string -/
noncomputable def eRange (x : Src) : EF := fun tm h c =>
  match ev tm x with
  | .string s => some (.pointer (some ⟨c, 0, none⟩), (c, .iter s 0) :: h, c + 1)
  | _ => none

theorem eRange_ok {P : Program} {ty : Nat → Option XTy} (hT : TyOk P ty) {nt : Nat} {o : Oper} {t : TypeId} {x : Operand} {d : XTy} (ho : o.op = .range t x) (hd : ty t = some d) (hu : d.u = .string) : EfOk P nt o (eRange (src nt x)) := by
  intro tm h c v h' c' hf B ρ a w ht hh hc hB
  have hx := src_ok ht x
  unfold eRange at hf
  split at hf
  · rename_i s hp
    cases hf
    subst hc
    rw [hp] at hx
    generalize e1 : a.eval x = x' at hx
    cases hx
    have hun := hT.und hd w
    refine ⟨.pointer (some ⟨w.heap.size, 0, none⟩), w.alloc (.stringIter s 0), ρ ++ [⟨w.heap.size, 0, 0, 0⟩], .inl ?_, ?_, Rho.le_push _ _, by simp, ?_, below_alloc hB _⟩
    · simp [execOp, ho, e1, Instr.range, hun, hu]
    · exact .ptr ρ.length 0 ⟨w.heap.size, 0, 0, 0⟩ (by simp)
    · exact hh.new hB (Nat.le_refl _) (fun k hk => heap_old w _ hk) ⟨rfl, rfl, heap_new w _⟩
  · cases hf

noncomputable def eNext (x : Src) : EF := fun tm h c =>
  match ev tm x with
  | .pointer (some ⟨i, 0, _⟩) => match hget h i with
    | some (.iter s pos) => match Nat.blt pos s.size with
      | true => some (.tuple #[.bool true, .int .i64 (.ofNat pos), .int .i32 (.ofNat (Utf8.decode s pos).1)], hset h i (.iter s (pos + (Utf8.decode s pos).2)), c)
      | false => some (.tuple #[.bool false], h, c)
    | _ => none
  | _ => none

theorem eNext_ok {P : Program} {nt : Nat} {o : Oper} {x : Operand} (ho : o.op = .next x true) : EfOk P nt o (eNext (src nt x)) := by
  intro tm h c v h' c' hf B ρ a w ht hh hc hB
  have hx := src_ok ht x
  unfold eNext at hf
  split at hf
  · rename_i i sp hp
    rw [hp] at hx
    generalize e1 : a.eval x = x' at hx
    cases hx with
    | ptr i off L hL =>
      split at hf
      · rename_i s pos hg
        obtain ⟨hLB0, hsh, hes, hw⟩ := hh.at hg hL
        have hLB := hLB0 rfl
        have e1' : a.eval x = .pointer (some ⟨L.b, 0, none⟩) := by rw [e1, hsh]
        split at hf
        · rename_i hlt
          have hlt' : pos < s.size := by simpa [Nat.blt_eq] using hlt
          cases hf
          have hr := Lib.run_next_any_at (P := P) w L.b s pos o.type hw hlt'
          refine ⟨.tuple #[.bool true, .int .i64 (.ofNat pos), .int .i32 (.ofNat (Utf8.decode s pos).1)], w.iterAt L.b s (pos + (Utf8.decode s pos).2), ρ, .inl ?_, VRel.plain_refl ρ rfl, Rho.le_refl ρ, hc, ?_, ?_⟩
          · simp only [execOp, ho, e1', Sem.run_bind, hr, Result.andThen_ok, Sem.run_pure]; rfl
          · exact hh.set hg hL (fun q => q.1 hes) hLB (fun k _ hk => Lib.iterAt_other w L.b k s _ hk) ⟨hsh, hes, Lib.iterAt_heap w L.b s pos _ hw⟩ rfl
          · exact (Bel.refl B w).one hLB rfl rfl rfl (by rw [Lib.iterAt_size]; exact Nat.le_refl _) (fun k hk => Lib.iterAt_other w L.b k s _ hk)
        · rename_i hlt
          have hlt' : ¬ pos < s.size := by
            intro q
            have : Nat.blt pos s.size = true := by simpa [Nat.blt_eq] using q
            rw [this] at hlt; cases hlt
          cases hf
          have hr := Lib.run_next_end_at (P := P) w L.b s pos o.type hw hlt'
          exact ⟨.tuple #[.bool false], w, ρ, .inl (by simp only [execOp, ho, e1', Sem.run_bind, hr, Result.andThen_ok, Sem.run_pure]), VRel.plain_refl ρ rfl, Rho.le_refl ρ, hc, hh, Bel.refl B w⟩
      · cases hf
  · cases hf

end Go.Xm
