/- The abstract machine, between parts 6 and 7: pointers held against each other and turned to raw pointers and back; a string over bytes. -/
import Derived.Test.YtfgggididakkbaaGreatDoorMf
namespace Go.Xm
open Go.RowKit

/-! ### Pointers: == and != -/
noncomputable def rPtrEq (neg : Bool) (x y : Src) (fb : RF) : RF := fun tm h =>
  match ev tm x, ev tm y with
  | .pointer none, .pointer none => some (.bool (!neg))
  | .pointer none, .pointer (some _) => some (.bool neg)
  | .pointer (some _), .pointer none => some (.bool neg)
  | .pointer (some a), .pointer (some b) => match Nat.beq a.block b.block with
    | true => some (.bool (Nat.beq a.off b.off != neg))
    | false => none
  | _, _ => fb tm h

theorem run_ptr_eq {P : Program} {t e : TypeId} {i : TypeInfo} (ht : P.underlying t = some (.pointer e)) (hi : P.info? e = some i) (hz : i.size ≠ 0) (w : World) {a b : Option Addr} {r : Bool}
    (h : (a = none ∧ b = none ∧ r = true) ∨ (a = none ∧ b.isSome = true ∧ r = false) ∨ (a.isSome = true ∧ b = none ∧ r = false) ∨ (∃ x y, a = some x ∧ b = some y ∧ x.block = y.block ∧ r = (x == y))) :
    (Op.equal t (.pointer a) (.pointer b)).run P w = .ok r w := by
  have h : ∀ d : Nat, (Op.equalIn (d + 1) t (.pointer a) (.pointer b)).run P w = .ok r w := by
    intro d
    rcases h with ⟨rfl, rfl, rfl⟩ | ⟨rfl, hb, rfl⟩ | ⟨ha, rfl, rfl⟩ | ⟨x, y, rfl, rfl, hxy, rfl⟩
    · simp [Op.equalIn, run_underlying ht]
    · cases b with
      | none => cases hb
      | some b => simp [Op.equalIn, run_underlying ht]
    · cases a with
      | none => cases ha
      | some a => simp [Op.equalIn, run_underlying ht]
    · simp [Op.equalIn, run_underlying ht, sizeOf, typeInfo, hi, hz, sameAddr]
      intro q
      exact absurd hxy q
  simp [Op.equal, Op.maxDepth, h 9999]

theorem run_ptr_bin {P : Program} {t e : TypeId} {i : TypeInfo} (ht : P.underlying t = some (.pointer e)) (hi : P.info? e = some i) (hz : i.size ≠ 0) (w : World) {a b : Option Addr} {r : Bool}
    (h : (a = none ∧ b = none ∧ r = true) ∨ (a = none ∧ b.isSome = true ∧ r = false) ∨ (a.isSome = true ∧ b = none ∧ r = false) ∨ (∃ x y, a = some x ∧ b = some y ∧ x.block = y.block ∧ r = (x == y))) (neg : Bool) :
    (binOp (if neg then .neq else .eql) t (.pointer a) (.pointer b)).run P w = .ok (.bool (r != neg)) w := by
  have he := run_ptr_eq ht hi hz w h
  cases neg
  · have : (binOp .eql t (.pointer a) (.pointer b)) = (do pure (.bool (← Op.equal t (.pointer a) (.pointer b)))) := by unfold binOp; rfl
    simp only [Bool.false_eq_true, if_false, this, Sem.run_bind, he, Result.andThen_ok, Sem.run_pure]
    simp
  · have : (binOp .neq t (.pointer a) (.pointer b)) = (do pure (.bool (!(← Op.equal t (.pointer a) (.pointer b))))) := by unfold binOp; rfl
    simp only [if_true, this, Sem.run_bind, he, Result.andThen_ok, Sem.run_pure]
    simp

theorem rPtrEq_ok {P : Program} {ty : Nat → Option XTy} (hT : TyOk P ty) {nt : Nat} {o : Oper} {neg : Bool} {t t' e : TypeId} {x y : Operand} {d de : XTy} {fb : RF} (ho : o.op = .binOp (if neg then .neq else .eql) t x y t')
    (hd : ty t = some d) (hu : d.u = .pointer e) (hde : ty e = some de) (hz : de.size ≠ 0) (hfb : RdOk P nt o fb) : RdOk P nt o (rPtrEq neg (src nt x) (src nt y) fb) := by
  intro tm h v hf B ρ a w ht hh
  have hx := src_ok ht x
  have hy := src_ok ht y
  obtain ⟨ht', _⟩ := hT t d hd
  rw [hu] at ht'
  obtain ⟨_, i, i1, i2, _⟩ := hT e de hde
  have hz' : i.size ≠ 0 := by rw [i2]; exact hz
  have hex : ∀ {p q : Option Addr} {r : Bool}, a.eval x = .pointer p → a.eval y = .pointer q → ((p = none ∧ q = none ∧ r = true) ∨ (p = none ∧ q.isSome = true ∧ r = false) ∨ (p.isSome = true ∧ q = none ∧ r = false) ∨ (∃ x y, p = some x ∧ q = some y ∧ x.block = y.block ∧ r = (x == y))) →
      ∀ w', (execOp a.eval o).run P w' = .ok (.value (.bool (r != neg))) w' := by
    intro p q r e1 e2 hr w'
    have hb := run_ptr_bin ht' i1 hz' w' hr neg
    have hg : (eqGuard (if neg then .neq else .eql) t x y (.pointer p) (.pointer q)).run P w' = .ok () w' := by
      unfold eqGuard
      cases neg <;> simp
    simp only [execOp, ho, e1, e2, Sem.run_bind, hg, Result.andThen_ok, hb, Sem.run_pure]
  unfold rPtrEq at hf
  split at hf
  · rename_i h1 h2
    cases hf
    rw [h1] at hx
    rw [h2] at hy
    generalize e1 : a.eval x = x' at hx
    generalize e2 : a.eval y = y' at hy
    cases hx
    cases hy
    exact ⟨.bool (!neg), .bool _, fun w' _ => by have := hex (r := true) e1 e2 (.inl ⟨rfl, rfl, rfl⟩) w'; simpa using this⟩
  · rename_i p h1 h2
    cases hf
    rw [h1] at hx
    rw [h2] at hy
    generalize e1 : a.eval x = x' at hx
    generalize e2 : a.eval y = y' at hy
    cases hx
    cases hy
    exact ⟨.bool neg, .bool _, fun w' _ => by have := hex (r := false) e1 e2 (.inr (.inl ⟨rfl, rfl, rfl⟩)) w'; simpa using this⟩
  · rename_i p h1 h2
    cases hf
    rw [h1] at hx
    rw [h2] at hy
    generalize e1 : a.eval x = x' at hx
    generalize e2 : a.eval y = y' at hy
    cases hx
    cases hy
    exact ⟨.bool neg, .bool _, fun w' _ => by have := hex (r := false) e1 e2 (.inr (.inr (.inl ⟨rfl, rfl, rfl⟩))) w'; simpa using this⟩
  · rename_i p q h1 h2
    split at hf
    · rename_i hb
      cases hf
      have hb' := Nat.eq_of_beq_eq_true hb
      rw [h1] at hx
      rw [h2] at hy
      generalize e1 : a.eval x = x' at hx
      generalize e2 : a.eval y = y' at hy
      cases hx with
      | ptr i1 o1 L1 l1 =>
        cases hy with
        | ptr i2 o2 L2 l2 =>
          simp only at hb'
          subst hb'
          rw [l1] at l2
          cases l2
          refine ⟨.bool (Nat.beq o1 o2 != neg), .bool _, fun w' _ => ?_⟩
          have heq : ((⟨L1.b, L1.sh + o1, none⟩ : Addr) == ⟨L1.b, L1.sh + o2, none⟩) = Nat.beq o1 o2 := by
            by_cases ho : o1 = o2
            · subst ho
              have : Nat.beq o1 o1 = true := by simp
              rw [this]; simp
            · rw [nbeq_ne ho]
              simp only [beq_eq_false_iff_ne, ne_eq, Addr.mk.injEq, not_and]
              intro _ hq
              omega
          have := hex (r := Nat.beq o1 o2) e1 e2 (.inr (.inr (.inr ⟨_, _, rfl, rfl, rfl, heq.symm⟩))) w'
          exact this
    · cases hf
  · exact hfb tm h v hf B ρ a w ht hh

/-! ### Raw pointers -/
/-- The block is one whose cells are all known. -/
noncomputable def rToUnsafe (x : Src) (fb : RF) : RF := fun tm h =>
  match ev tm x with
  | .pointer (some a) => match hget h a.block with
    | some (.cells cs _ _ 0) => match Nat.blt a.off cs.length with
      | true => some (.pointer (some ⟨a.block, a.off, none⟩))
      | false => none
    | _ => none
  | _ => fb tm h

theorem HRel.shape {B : Bd} {ρ : Rho} {h : Heap} {w : World} (H : HRel B ρ h w) {i : Nat} {cs : List Value} {fz : Nat} {e : TypeId} {es : Nat} {L : Loc} (hi : hget h i = some (.cells cs fz e es)) (hL : ρ[i]? = some L) (hne : cs ≠ [] ∨ es = 0) :
    ∀ w', Below w.heap.size w w' → w'.shape? L.b = some (e, L.sz) := by
  intro w' hw
  obtain ⟨_, _, C, fr, c1, c2, _⟩ := (H.at hi hL).2.real hne
  have hlt : L.b < w.heap.size := (Array.getElem?_eq_some_iff.1 c1).1
  simp only [World.shape?, hw.block _ hlt, c1, c2]

theorem rToUnsafe_ok {P : Program} {ty : Nat → Option XTy} (hT : TyOk P ty) {nt : Nat} {o : Oper} {s t e : TypeId} {x : Operand} {ds dd de : XTy} {fb : RF} (ho : o.op = .convert s t x) (hs : ty s = some ds) (hus : ds.u = .pointer e) (hd : ty t = some dd) (hud : dd.u = .unsafePointer)
    (hde : ty e = some de) (hz : de.size ≠ 0) (hfb : RdOk P nt o fb) : RdOk P nt o (rToUnsafe (src nt x) fb) := by
  intro tm h v hf B ρ a w ht hh
  have hx := src_ok ht x
  obtain ⟨hs', _⟩ := hT s ds hs
  rw [hus] at hs'
  obtain ⟨hd', _⟩ := hT t dd hd
  rw [hud] at hd'
  obtain ⟨_, i, i1, i2, _⟩ := hT e de hde
  unfold rToUnsafe at hf
  split at hf
  · rename_i p hp
    rw [hp] at hx
    generalize e1 : a.eval x = x' at hx
    cases hx with
    | ptr i off L hL =>
      split at hf
      · rename_i cs fz el hg
        split at hf
        · rename_i hb
          have hb' : off < cs.length := by simpa [Nat.blt_eq] using hb
          cases hf
          refine ⟨.pointer (some ⟨L.b, L.sh + off, none⟩), .ptr i off L hL, fun w' hw' => ?_⟩
          obtain ⟨_, _, C, fr, c1, c2, c3, _⟩ := (hh.at hg hL).2.real (.inr rfl)
          have hsh := hh.shape hg hL (.inr rfl) w' hw'
          have := Lib.run_to_unsafe (P := P) w' (⟨L.b, L.sh + off, none⟩ : Addr) hs' hd' i1 (by rw [i2]; exact hz) hsh (by show L.sh + off < L.sz; omega)
          simp only [execOp, ho, e1, Sem.run_bind, this, Result.andThen_ok, Sem.run_pure]
        · cases hf
      · cases hf
  · exact hfb tm h v hf B ρ a w ht hh

noncomputable def rFromUnsafe (P : Program) (u : TypeId) (x : Src) (fb : RF) : RF := fun tm h =>
  match ev tm x with
  | .pointer (some a) => match hget h a.block with
    | some (.cells cs _ e 0) => match liesAt P P.depth e (cs.length / P.cellsOf e) a.off u 1 with
      | true => some (.pointer (some ⟨a.block, a.off, none⟩))
      | false => none
    | _ => none
  | _ => fb tm h

theorem rFromUnsafe_ok {P : Program} {ty : Nat → Option XTy} (hT : TyOk P ty) {nt : Nat} {o : Oper} {s t u : TypeId} {x : Operand} {ds dd du : XTy} {fb : RF} (ho : o.op = .convert s t x) (hs : ty s = some ds) (hus : ds.u = .unsafePointer) (hd : ty t = some dd) (hud : dd.u = .pointer u)
    (hdu : ty u = some du) (hfb : RdOk P nt o fb) : RdOk P nt o (rFromUnsafe P u (src nt x) fb) := by
  intro tm h v hf B ρ a w ht hh
  have hx := src_ok ht x
  obtain ⟨hs', _⟩ := hT s ds hs
  rw [hus] at hs'
  obtain ⟨hd', _⟩ := hT t dd hd
  rw [hud] at hd'
  obtain ⟨_, i, i1, i2, _⟩ := hT u du hdu
  unfold rFromUnsafe at hf
  split at hf
  · rename_i p hp
    rw [hp] at hx
    generalize e1 : a.eval x = x' at hx
    cases hx with
    | ptr i off L hL =>
      split at hf
      · rename_i cs fz el hg
        split at hf
        · rename_i hb
          cases hf
          refine ⟨.pointer (some ⟨L.b, L.sh + off, none⟩), .ptr i off L hL, fun w' hw' => ?_⟩
          obtain ⟨h0, _, C, fr, c1, c2, c3, c4, c5, c6⟩ := (hh.at hg hL).2.real (.inr rfl)
          obtain ⟨z1, z2⟩ := c6 h0
          have hsh := hh.shape hg hL (.inr rfl) w' hw'
          have := Lib.run_from_unsafe (P := P) w' (⟨L.b, L.sh + off, none⟩ : Addr) hs' hd' i1 hsh (by show liesAt P P.depth el (L.sz / P.cellsOf el) (L.sh + off) u 1 = true; rw [z1, z2, Nat.zero_add]; exact hb)
          simp only [execOp, ho, e1, Sem.run_bind, this, Result.andThen_ok, Sem.run_pure]
        · cases hf
      · cases hf
  · exact hfb tm h v hf B ρ a w ht hh

/-! ### Slice data, strings over bytes -/
noncomputable def rSliceData (x : Src) : RF := fun tm _ =>
  match ev tm x with
  | .slice none 0 0 => some (.pointer none)
  | .slice (some ⟨b, o, _⟩) _ cap => match cap with
    | 0 => none
    | _ + 1 => some (.pointer (some ⟨b, o, none⟩))
  | _ => none

theorem rSliceData_ok {P : Program} {nt : Nat} {o : Oper} {x : Operand} {ts : Array TypeId} (ho : o.op = .call { callee := .builtin .unsafeSliceData, args := #[x], argTypes := ts }) : RdOk P nt o (rSliceData (src nt x)) := by
  apply RdOk.of_all
  intro tm h v hf B ρ a w ht hh
  have hx := src_ok ht x
  unfold rSliceData at hf
  split at hf
  · rename_i hp
    cases hf
    rw [hp] at hx
    generalize e1 : a.eval x = x' at hx
    cases hx
    refine ⟨.pointer none, .pnil, fun w' => ?_⟩
    simp [execOp, ho, resolve, e1, invoke, builtin, Lib.run_unsafeSliceData_nil]
  · rename_i b off sp len cap hp
    rw [hp] at hx
    generalize e1 : a.eval x = x' at hx
    split at hf
    · cases hf
    · rename_i cap0
      cases hf
      cases hx with
      | slice b off len cp L o' cap' hL hz h0 h1 =>
        have hh' : o' = L.sh + off ∧ cap' ≠ 0 := by
          refine ⟨hz.resolve_right (by omega), ?_⟩
          by_cases es : L.es = 0
          · rw [h0 es]; omega
          · have := (h1 es).1
            omega
        obtain ⟨rfl, hc⟩ := hh'
        refine ⟨.pointer (some ⟨L.b, L.sh + off, none⟩), .ptr b off L hL, fun w' => ?_⟩
        have := Lib.run_unsafeSliceData_row (P := P) w' ts o.type ⟨L.b, L.sh + off, none⟩ len cap' hc
        simp [execOp, ho, resolve, e1, invoke, builtin, this]
  · cases hf

theorem liesAt_bytes_off {P : Program} {e : TypeId} (hc : P.cellsOf e = 1) (count off n : Nat) (hn : off + n ≤ count) : liesAt P P.depth e count off e n = true := by
  have hd : P.depth = (2 * (P.types.size + Made.depth) + 1) + 1 := rfl
  rw [hd]
  simp only [liesAt, Bool.or_eq_true]
  left
  rw [hd]
  simp [rowAt, hc, sameLayout, Nat.mod_one, Nat.div_one]
  omega

/-- The bytes that cells hold. -/
def bytesOf : List Value → Option (List UInt8)
  | [] => some []
  | .int .u8 (.ofNat n) :: l => match Nat.blt n 256 with
    | true => match bytesOf l with
      | some bs => some (n.toUInt8 :: bs)
      | none => none
    | false => none
  | _ => none

theorem bytesOf_ok {ρ : Rho} : ∀ (cs C : List Value) (bs : List UInt8), Cells ρ cs C → bytesOf cs = some bs → bs.length = cs.length ∧ ∀ (j : Nat) (b : UInt8), bs[j]? = some b → C[j]? = some (.int .u8 b.toNat)
  | [], C, bs, h, e => by
    simp only [bytesOf, Option.some.injEq] at e
    subst e
    exact ⟨rfl, fun j b hj => by simp at hj⟩
  | v :: cs, [], bs, h, e => by have := h.1; simp at this
  | v :: cs, v' :: C, bs, h, e => by
    unfold bytesOf at e
    split at e
    · cases ‹_ = []›
    · rename_i n l heq
      cases heq
      split at e
      · rename_i hb
        split at e
        · rename_i bs0 hbs
          cases e
          have ih := bytesOf_ok (ρ := ρ) cs C bs0 ⟨by have := h.1; simpa using this, fun i u u' x y => h.2 (i + 1) u u' (by simpa using x) (by simpa using y)⟩ hbs
          have hv := h.2 0 _ v' rfl rfl
          cases hv
          refine ⟨by simp [ih.1], fun j b hj => ?_⟩
          cases j with
          | zero =>
            simp only [List.getElem?_cons_zero, Option.some.injEq] at hj
            subst hj
            have hlt : n < 256 := by simpa [Nat.blt_eq] using hb
            simp [Nat.mod_eq_of_lt hlt]
          | succ j => exact ih.2 j b (by simpa using hj)
        · cases e
      · cases e
    · cases e

noncomputable def eUnsafeString (x y : Src) : EF := fun tm h c =>
  match ev tm x, ev tm y with
  | .pointer none, .int .i64 (.ofNat n) => match n with
    | 0 => some (.string .empty, h, c)
    | _ + 1 => none
  | .pointer (some ⟨i, off, _⟩), .int .i64 (.ofNat n) => match n with
    | 0 => none
    | n + 1 => match hget h i with
      | some (.cells cs fz e es) => match (Nat.ble (off + (n + 1)) cs.length && Nat.ble n 1000000000 && Nat.ble fz cs.length) with
        | true => match bytesOf ((cs.drop off).take (n + 1)) with
          | some bs => some (.string ⟨bs.toArray⟩, hset h i (.cells cs (Nat.max fz (off + (n + 1))) e es), c)
          | none => none
        | false => none
      | _ => none
  | _, _ => none

theorem freeze_heap {w : World} {b off n : Nat} {C : Array Value} {e : TypeId} {fr : Nat × Nat} (h : w.heap[b]? = some (.cells C e fr)) (hn : n ≠ 0) : ∃ fr', (w.freeze ⟨b, off, none⟩ n).heap[b]? = some (.cells C e fr') ∧ fr'.2 ≤ Nat.max fr.2 (off + n) := by
  obtain ⟨lo, hi⟩ := fr
  have hlt : b < w.heap.size := (Array.getElem?_eq_some_iff.1 h).1
  have hv : w.heap[b] = .cells C e (lo, hi) := (Array.getElem?_eq_some_iff.1 h).2
  unfold World.freeze
  rw [if_neg hn]
  refine ⟨if lo == hi then (off, off + n) else (min lo off, max hi (off + n)), ?_, ?_⟩
  · simp only [Array.getElem?_modify, h]
    simp
  · split
    · exact Nat.le_max_right _ _
    · exact Nat.le_refl _

theorem freeze_other {w : World} {b off n k : Nat} (hk : k ≠ b) : (w.freeze ⟨b, off, none⟩ n).heap[k]? = w.heap[k]? := by
  unfold World.freeze
  split
  · rfl
  · simp [Array.getElem?_modify, Ne.symm hk]


theorem below_freeze {B : Bd} {w : World} {b : Nat} (hb : B.may b) (off n : Nat) : Bel B w (w.freeze ⟨b, off, none⟩ n) := by
  have h0 : Below 0 w (w.freeze ⟨b, off, none⟩ n) := Lib.below_freeze (Below.refl 0 w) (Nat.zero_le _) n
  exact (Bel.refl B w).one hb h0.os h0.tape h0.output h0.size (fun k hk => freeze_other hk)

theorem eUnsafeString_ok {P : Program} {ty : Nat → Option XTy} (hT : TyOk P ty) {nt : Nat} {o : Oper} {x y : Operand} {pt it : TypeId} {e : TypeId} {d de : XTy} (ho : o.op = .call { callee := .builtin .unsafeString, args := #[x, y], argTypes := #[pt, it] })
    (hd : ty pt = some d) (hu : d.u = .pointer e) (hde : ty e = some de) (hs1 : de.size = 1):
    EfOk P nt o (fun tm h c => match eUnsafeString (src nt x) (src nt y) tm h c with
      | some r => match ev tm (src nt x) with
        | .pointer (some a) => match hget h a.block with
          | some (.cells _ _ e' _) => match Nat.beq e' e with
            | true => some r
            | false => none
          | _ => none
        | _ => some r
      | none => none) := by
  intro tm h c v h' c' hf B ρ a w ht hh hc hB
  have hx := src_ok ht x
  have hy := src_ok ht y
  obtain ⟨hp', _⟩ := hT pt d hd
  rw [hu] at hp'
  obtain ⟨_, i, i1, i2, _⟩ := hT e de hde
  have hcell : P.cellsOf e = 1 := by simp [Program.cellsOf, i1, i2, hs1]
  have hex : ∀ {V W}, (Builtin.unsafeString_ #[pt, it] o.type #[a.eval x, a.eval y]).run P w = .ok V W → (execOp a.eval o).run P w = .ok (.value V) W := by
    intro V W hr
    simp [execOp, ho, resolve, invoke, builtin, hr]
  simp only at hf
  cases hr : eUnsafeString (src nt x) (src nt y) tm h c with
  | none => rw [hr] at hf; cases hf
  | some r =>
    rw [hr] at hf
    simp only at hf
    unfold eUnsafeString at hr
    split at hr
    · rename_i n h1 h2
      rw [h1] at hf hx
      cases hf
      split at hr
      · cases hr
        rw [h2] at hy
        generalize e1 : a.eval x = x' at hx hex
        generalize e2 : a.eval y = y' at hy hex
        cases hx
        cases hy
        exact ⟨.string .empty, w, ρ, .inl (hex (Lib.run_unsafeString_none (P := P) w pt it o.type none)), .string _, Rho.le_refl ρ, hc, hh, Bel.refl B w⟩
      · cases hr
    · rename_i i0 off sp n h1 h2
      rw [h1] at hf hx
      simp only at hf
      split at hr
      · cases hr
      · rename_i n0
        split at hr
        · rename_i cs fz e' es hg
          rw [hg] at hf
          simp only at hf
          split at hf
          · rename_i hbe
            have hbe' := Nat.eq_of_beq_eq_true hbe
            subst hbe'
            cases hf
            split at hr
            · rename_i hb
              simp only [Bool.and_eq_true, Nat.ble_eq] at hb
              split at hr
              · rename_i bs hbs
                cases hr
                rw [h2] at hy
                generalize e1 : a.eval x = x' at hx hex
                generalize e2 : a.eval y = y' at hy hex
                cases hy
                cases hx with
                | ptr i0 off L hL =>
                  obtain ⟨hLB0, hO⟩ := hh.at hg hL
                  have hLB1 : frz (.cells cs fz e' es) = false := by
                    cases hf : frz (.cells cs fz e' es) with
                    | false => rfl
                    | true => have := frz_cells hf; omega
                  have hLB : B.may L.b := hLB0 hLB1
                  have hne : cs ≠ [] := by
                    intro q
                    subst q
                    simp at hb
                  obtain ⟨hLe, hng, C, fr, c1, c2, c3, c4, c5, c6⟩ := hO.cells (.inl hne)
                  have hsub := (c4.drop off).take (n0 + 1)
                  obtain ⟨b1, b2⟩ := bytesOf_ok (ρ := ρ) _ _ bs hsub hbs
                  have hbl : bs.length = n0 + 1 := by rw [b1]; simp; omega
                  have hcellw : ∀ j b, bs[j]? = some b → w.cell? ((⟨L.b, L.sh + off, none⟩ : Addr).add j) = some (.int .u8 b.toNat) := by
                    intro j b hj
                    have := b2 j b hj
                    rw [Addr.add_none, cell_of_heap c1]
                    have hjl : j < n0 + 1 := by have := (List.getElem?_eq_some_iff.1 hj).1; omega
                    rw [List.getElem?_take, if_pos hjl, List.getElem?_drop, List.getElem?_take, if_pos (by omega), List.getElem?_drop, Array.getElem?_toList] at this
                    rw [Nat.add_assoc]
                    exact this
                  have hsh := hh.shape hg hL (.inl hne) w (Below.refl _ _)
                  have hlb := Lib.run_loadBytes (P := P) w bs ⟨L.b, L.sh + off, none⟩ .empty hcellw
                  have hlies := liesAt_bytes_off (P := P) hcell (L.sz / P.cellsOf e') (L.sh + off) (n0 + 1) (by rw [hcell, Nat.div_one]; omega)
                  have hrun : (Builtin.unsafeString_ #[pt, it] o.type #[.pointer (some ⟨L.b, L.sh + off, none⟩), .int .i64 (Int.ofNat (n0 + 1))]).run P w = .ok (.string ⟨bs.toArray⟩) (w.freeze ⟨L.b, L.sh + off, none⟩ (n0 + 1)) := by
                    have hdef : ∃ (p1 p2 : Sem PUnit) (p3 : Sem Value), Builtin.unsafeString_ #[pt, it] o.type #[.pointer (some ⟨L.b, L.sh + off, none⟩), .int .i64 (Int.ofNat (n0 + 1))] =
                        (do
                          let n ← asInt (.int .i64 (Int.ofNat (n0 + 1)))
                          if n < 0 then p1
                          if n > IntKind.i64.max then p2
                          if n = 0 then pure (.string .empty)
                          else if ← variablesAt ⟨L.b, L.sh + off, none⟩ (← elemOf pt) n.toNat then do
                            let s ← loadBytes ⟨L.b, L.sh + off, none⟩ .empty n.toNat
                            freeze ⟨L.b, L.sh + off, none⟩ n.toNat
                            pure (.string s)
                          else p3) := ⟨_, _, _, rfl⟩
                    obtain ⟨p1, p2, p3, hdef⟩ := hdef
                    rw [hdef]
                    have hmax : IntKind.i64.max = 9223372036854775807 := rfl
                    have q1 : ¬ ((n0 : Int) + 1 < 0) := by omega
                    have q2 : ¬ ((9223372036854775807 : Int) < (n0 : Int) + 1) := by omega
                    have q3 : ¬ ((n0 : Int) + 1 = 0) := by omega
                    have q4 : ((n0 : Int) + 1).toNat = n0 + 1 := by omega
                    rw [hbl] at hlb
                    simp [asInt, asIntOf, hmax, q1, q2, q3, q4, variablesAt, hsh, elemOf, run_underlying hp', hlies, hlb]
                  obtain ⟨fr', f1, f2⟩ := freeze_heap (w := w) (b := L.b) (off := L.sh + off) (n := n0 + 1) c1 (by omega)
                  refine ⟨.string ⟨bs.toArray⟩, _, ρ, .inl (hex hrun), .string _, Rho.le_refl ρ, hc, ?_, below_freeze hLB _ _⟩
                  refine hh.set hg hL hng hLB (fun k _ hk => freeze_other hk) ?_ hLB1
                  refine OOk.mk_cells hLe f1 c2 c3 c4 ?_ c6
                  refine Nat.le_trans f2 ?_
                  have m1 : fz ≤ Nat.max fz (off + (n0 + 1)) := Nat.le_max_left _ _
                  have m2 : off + (n0 + 1) ≤ Nat.max fz (off + (n0 + 1)) := Nat.le_max_right _ _
                  exact Nat.max_le.2 ⟨by omega, by omega⟩
              · cases hr
            · cases hr
          · cases hf
        · cases hr
    · cases hr

end Go.Xm
