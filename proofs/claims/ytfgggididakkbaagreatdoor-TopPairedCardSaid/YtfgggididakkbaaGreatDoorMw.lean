/- The abstract machine, part 13: rows of elements that are not known one by one; calls in drawn regions; states read anew. -/
import Derived.Test.YtfgggididakkbaaGreatDoorMl
namespace Go.Xm
open Go.RowKit

/-! ### Rows -/
/-- The cells of a row of elements. -/
def rowC {α : Type} (f : α → List Value) (xs : List α) : List Value := xs.flatMap f

/-- Elements of s cells, each a scalar. -/
structure Enc {α : Type} (f : α → List Value) (s : Nat) : Prop where
  len : ∀ a, (f a).length = s
  one : ∀ a, (f a).all flt = true

theorem scal_one1 {v : Value} (h : flt v = true) : one1 v = true ∧ solid v = true := by cases v <;> simp_all [flt, one1, solid]

theorem Enc.one1 {α : Type} {f : α → List Value} {s : Nat} (h : Enc f s) (a : α) : (f a).all Xm.one1 = true :=
  List.all_eq_true.2 fun v hv => (scal_one1 (List.all_eq_true.1 (h.one a) v hv)).1

theorem rowC_nil {α : Type} (f : α → List Value) : rowC f [] = [] := rfl
theorem rowC_cons {α : Type} (f : α → List Value) (a : α) (xs : List α) : rowC f (a :: xs) = f a ++ rowC f xs := rfl
theorem rowC_append {α : Type} (f : α → List Value) (xs ys : List α) : rowC f (xs ++ ys) = rowC f xs ++ rowC f ys := by simp [rowC, List.flatMap_append]

theorem rowC_scal {α : Type} {f : α → List Value} {s : Nat} (hf : Enc f s) (xs : List α) : (rowC f xs).all flt = true := by
  induction xs with
  | nil => rfl
  | cons a xs ih => rw [rowC_cons, List.all_append, hf.one a, ih]; rfl

theorem rowC_one1 {α : Type} {f : α → List Value} {s : Nat} (hf : Enc f s) (xs : List α) : (rowC f xs).all one1 = true :=
  List.all_eq_true.2 fun v hv => (scal_one1 (List.all_eq_true.1 (rowC_scal hf xs) v hv)).1

theorem rowC_length {α : Type} {f : α → List Value} {s : Nat} (hf : Enc f s) (xs : List α) : (rowC f xs).length = xs.length * s := by
  induction xs with
  | nil => simp [rowC]
  | cons a xs ih => rw [rowC_cons, List.length_append, hf.len a, ih, List.length_cons, Nat.add_mul, Nat.one_mul, Nat.add_comm]

theorem rowC_drop {α : Type} {f : α → List Value} {s : Nat} (hf : Enc f s) : ∀ (xs : List α) (n : Nat), (rowC f xs).drop (n * s) = rowC f (xs.drop n)
  | xs, 0 => by simp
  | [], n + 1 => by simp [rowC]
  | a :: xs, n + 1 => by
    have e : (n + 1) * s = (f a).length + n * s := by rw [hf.len, Nat.add_mul, Nat.one_mul, Nat.add_comm]
    rw [rowC_cons, e, List.drop_append, List.drop_succ_cons]
    have h1 : (f a).length + n * s - (f a).length = n * s := by omega
    rw [h1, List.drop_eq_nil_of_le (by omega), List.nil_append]
    exact rowC_drop hf xs n

theorem rowC_take {α : Type} {f : α → List Value} {s : Nat} (hf : Enc f s) : ∀ (xs : List α) (n : Nat), (rowC f xs).take (n * s) = rowC f (xs.take n)
  | xs, 0 => by simp [rowC]
  | [], n + 1 => by simp [rowC]
  | a :: xs, n + 1 => by
    have e : (n + 1) * s = (f a).length + n * s := by rw [hf.len, Nat.add_mul, Nat.one_mul, Nat.add_comm]
    rw [rowC_cons, e, List.take_append, List.take_succ_cons]
    have h1 : (f a).length + n * s - (f a).length = n * s := by omega
    rw [h1, List.take_of_length_le (by omega), rowC_cons]
    rw [rowC_take hf xs n]

theorem rowC_split {α : Type} (xs : List α) (n : Nat) (d : α) (hn : n < xs.length) : xs = xs.take n ++ [xs.getD n d] ++ xs.drop (n + 1) := by
  have h := List.take_append_drop n xs
  rw [List.drop_eq_getElem_cons hn] at h
  have e : xs.getD n d = xs[n] := by rw [List.getD_eq_getElem?_getD, List.getElem?_eq_getElem hn]; rfl
  rw [e, List.append_assoc]
  exact h.symm

theorem rowC_get {α : Type} {f : α → List Value} {s : Nat} (hf : Enc f s) (xs : List α) (n k : Nat) (d : α) (hn : n < xs.length) (hk : k < s) : (rowC f xs)[n * s + k]? = (f (xs.getD n d))[k]? := by
  have h := rowC_split xs n d hn
  have hl : (rowC f (xs.take n)).length = n * s := by rw [rowC_length hf, List.length_take]; congr 1; omega
  have e : rowC f xs = rowC f (xs.take n) ++ (f (xs.getD n d) ++ rowC f (xs.drop (n + 1))) := by
    conv => lhs; rw [h]
    rw [rowC_append, rowC_append, List.append_assoc]
    congr 1
    show f (xs.getD n d) ++ [] ++ _ = _
    rw [List.append_nil]
  rw [e, List.getElem?_append_right (by omega), hl]
  have h2 : n * s + k - n * s = k := by omega
  rw [h2, List.getElem?_append_left (by rw [hf.len]; exact hk)]

theorem set_split {α : Type} (xs : List α) (n : Nat) (v : α) (hn : n < xs.length) : xs.set n v = xs.take n ++ v :: xs.drop (n + 1) := List.set_eq_take_append_cons_drop ▸ by rw [if_pos hn]

/-- Cells of one element are written. -/
theorem rowC_set {α : Type} {f : α → List Value} {s : Nat} (hf : Enc f s) (xs : List α) (n k : Nat) (d v : α) (ws : List Value) (hn : n < xs.length) (hk : k + ws.length ≤ s)
    (hv : (f (xs.getD n d)).take k ++ ws ++ (f (xs.getD n d)).drop (k + ws.length) = f v) :
    (rowC f xs).take (n * s + k) ++ ws ++ (rowC f xs).drop (n * s + k + ws.length) = rowC f (xs.set n v) := by
  have h := rowC_split xs n d hn
  have hl : (rowC f (xs.take n)).length = n * s := by rw [rowC_length hf, List.length_take]; congr 1; omega
  have hfa := hf.len (xs.getD n d)
  have e : rowC f xs = rowC f (xs.take n) ++ (f (xs.getD n d) ++ rowC f (xs.drop (n + 1))) := by
    conv => lhs; rw [h]
    rw [rowC_append, rowC_append, List.append_assoc]
    congr 1
    show f (xs.getD n d) ++ [] ++ _ = _
    rw [List.append_nil]
  rw [e, set_split xs n v hn, rowC_append, rowC_cons, ← hv, List.take_append, List.drop_append]
  generalize hr : rowC f (xs.take n) = A at *
  generalize hr2 : rowC f (xs.drop (n + 1)) = C at *
  generalize hr3 : f (xs.getD n d) = M at *
  have e1 : n * s + k - A.length = k := by omega
  have e2 : n * s + k + ws.length - A.length = k + ws.length := by omega
  rw [e1, e2, List.take_of_length_le (by omega), List.drop_eq_nil_of_le (by omega), List.take_append, List.drop_append]
  have e3 : k - M.length = 0 := by omega
  have e4 : k + ws.length - M.length = 0 := by omega
  rw [e3, e4]
  simp [List.append_assoc]

/-! ### Values of operations on rows -/
theorem v_idx {g : Ins} {d : Option (List Bool)} {s : Nat} {x y : Src} {t : Tr} {h : Heap} (hI : g = .rd d (rIdxS s x y)) {b o len cap : Nat} {ik : IntKind} {i : Int} (hx : ev t x = .slice (some ⟨b, o, none⟩) len cap) (hy : ev t y = .int ik i)
    (hc : inRow i len = true) {off : Nat} (ho : o + i.toNat * s = off) : insV g t h = some (.pointer (some ⟨b, off, none⟩)) := by
  subst hI
  simp only [insV, rIdxS, hx, hy, hc, ho]

theorem v_idxA {g : Ins} {d : Option (List Bool)} {len s : Nat} {x y : Src} {t : Tr} {h : Heap} (hI : g = .rd d (rIdxA len s x y)) {b o : Nat} {ik : IntKind} {i : Int} (hx : ev t x = .pointer (some ⟨b, o, none⟩)) (hy : ev t y = .int ik i)
    (hc : inRow i len = true) {off : Nat} (ho : o + i.toNat * s = off) : insV g t h = some (.pointer (some ⟨b, off, none⟩)) := by
  subst hI
  simp only [insV, rIdxA, hx, hy, hc, ho]

theorem v_load1 {α : Type} {f : α → List Value} {s : Nat} (hf : Enc f s) {g : Ins} {d : Option (List Bool)} {x : Src} {t : Tr} {h : Heap} (hI : g = .rd d (rLoad1 x)) {b off : Nat} (hx : ev t x = .pointer (some ⟨b, off, none⟩)) {xs : List α} {fz : Nat} {e : TypeId} {es : Nat}
    (hg : hget h b = some (.cells (rowC f xs) fz e es)) (n k : Nat) (d0 : α) (ho : off = n * s + k) (hn : n < xs.length) (hk : Nat.blt k s = true) {v : Value} (hv : (f (xs.getD n d0))[k]? = some v) : insV g t h = some v := by
  subst hI
  subst ho
  simp only [insV, rLoad1, hx, hg, lget_eq]
  rw [rowC_get hf xs n k d0 hn (by simpa [Nat.blt_eq] using hk), hv]

theorem v_loadN {α : Type} {f : α → List Value} {s : Nat} (hf : Enc f s) {g : Ins} {d : Option (List Bool)} {x : Src} {t : Tr} {h : Heap} (hI : g = .rd d (rLoadN s x)) {b off : Nat} (hx : ev t x = .pointer (some ⟨b, off, none⟩)) {xs : List α} {fz : Nat} {e : TypeId} {es : Nat}
    (hg : hget h b = some (.cells (rowC f xs) fz e es)) (n : Nat) (d0 : α) (ho : off = n * s) (hn : n < xs.length) {v : Value} (hv : Value.agg (f (xs.getD n d0)).toArray = v) : insV g t h = some v := by
  subst hI
  subst ho
  simp only [insV, rLoadN, hx, hg]
  have hl := rowC_length hf xs
  have h1 : (n + 1) * s ≤ xs.length * s := Nat.mul_le_mul_right _ hn
  have h2 : (n + 1) * s = n * s + s := by rw [Nat.add_mul, Nat.one_mul]
  have hb : Nat.ble (n * s + s) (rowC f xs).length = true := by rw [Nat.ble_eq]; omega
  rw [hb]
  have h3 : ((rowC f xs).drop (n * s)).take s = f (xs.getD n d0) := by
    have h4 := rowC_take hf (xs.drop n) 1
    rw [Nat.one_mul] at h4
    rw [rowC_drop hf, h4]
    have h5 : (xs.drop n).take 1 = [xs.getD n d0] := by
      rw [List.drop_eq_getElem_cons hn, List.take_cons (by omega)]
      have e : xs.getD n d0 = xs[n] := by rw [List.getD_eq_getElem?_getD, List.getElem?_eq_getElem hn]; rfl
      rw [e]; rfl
    rw [h5]
    show f _ ++ [] = _
    rw [List.append_nil]
  show some (Value.agg (((rowC f xs).drop (n * s)).take s).toArray) = some v
  rw [h3, hv]

theorem e_store {α : Type} {f : α → List Value} {s : Nat} (hf : Enc f s) {g : Ins} {d : Option (List Bool)} {size : Nat} {x y : Src} {t : Tr} {h h' : Heap} {c : Nat} (hI : g = .ef d (eStore size x y)) {b off : Nat} (hx : ev t x = .pointer (some ⟨b, off, none⟩)) {xs : List α} {e : TypeId} {es : Nat}
    (hg : hget h b = some (.cells (rowC f xs) 0 e es)) (n k : Nat) (d0 : α) (ho : off = n * s + k) (hn : n < xs.length) {w : Value} {ws : List Value} (hw : ev t y = w) (hws : w.cells.toList = ws) (hk : Nat.ble (k + size) s = true) (hs1 : Nat.ble 1 size = true)
    (hsc : (solid w && ws.all one1 && Nat.beq ws.length size) = true) {a : α} (ha : (f (xs.getD n d0)).take k ++ ws ++ (f (xs.getD n d0)).drop (k + ws.length) = f a) (hh : hset h b (.cells (rowC f (xs.set n a)) 0 e es) = h') :
    insE g t h c = some (undef, h', c) := by
  subst hI
  subst ho
  simp only [Bool.and_eq_true] at hsc
  obtain ⟨⟨q1, q2⟩, q3⟩ := hsc
  have q3' := Nat.eq_of_beq_eq_true q3
  have hsz : w.cells.size = size := by rw [← q3', ← hws]; simp
  have hl := rowC_length hf xs
  have hk' : k + size ≤ s := by simpa [Nat.ble_eq] using hk
  have h1 : (n + 1) * s ≤ xs.length * s := Nat.mul_le_mul_right _ hn
  have h2 : (n + 1) * s = n * s + s := by rw [Nat.add_mul, Nat.one_mul]
  have hb : Nat.ble (n * s + k + size) (rowC f xs).length = true := by rw [Nat.ble_eq]; omega
  simp only [insE, eStore, hx, hg, hw]
  have hz : Nat.ble 0 (n * s + k) = true := by rw [Nat.ble_eq]; omega
  rw [hs1, q1, hws, q2, hsz, hb, hz]
  have hbq : Nat.beq size size = true := Nat.beq_refl size
  rw [hbq]
  simp only [Bool.and_self]
  have := rowC_set hf xs n k d0 a ws hn (by omega) ha
  rw [q3'] at this
  rw [this, hh]

/-- Is there room for so many elements. -/
def fitsB (n bytes : Nat) : Bool := Nat.ble (n * bytes) 1000000000 && Nat.ble n 1000000000

theorem fetch_row {α : Type} {f : α → List Value} {s : Nat} (hf : Enc f s) {h : Heap} {b : Nat} {ys : List α} {fz : Nat} {e : TypeId} {es : Nat} (hg : hget h b = some (.cells (rowC f ys) fz e es)) (a m len cap : Nat) (hl : len = m) (hc : Nat.ble len cap = true) (hm : a + m ≤ ys.length) {o : Nat} (ho : o = a * s) :
    fetch h s (.slice (some ⟨b, o, none⟩) len cap) = some (m, rowC f ((ys.drop a).take m)) := by
  subst hl
  subst ho
  cases len with
  | zero => simp [fetch, rowC]
  | succ n =>
    simp only [fetch, hg, hc]
    have h1 : (a + (n + 1)) * s ≤ ys.length * s := Nat.mul_le_mul_right _ hm
    have h2 : (a + (n + 1)) * s = a * s + (n + 1) * s := by rw [Nat.add_mul]
    have hb : Nat.ble (a * s + (n + 1) * s) (rowC f ys).length = true := by rw [Nat.ble_eq, rowC_length hf]; omega
    rw [hb, rowC_drop hf, rowC_take hf]
    rfl

theorem e_append {α : Type} {f : α → List Value} {s : Nat} (hf : Enc f s) {g : Ins} {d : Option (List Bool)} {bytes : Nat} {e : TypeId} {x y : Src} {t : Tr} {h h' : Heap} {c : Nat} (hI : g = .ef d (eAppend false s bytes e x y)) {b len cap : Nat} (hx : ev t x = .slice (some ⟨b, 0, none⟩) len cap) {xs : List α}
    (hg : hget h b = some (.cells (rowC f xs) 0 e s)) {m : Nat} {ys : List α} (hy : fetch h s (ev t y) = some (m + 1, rowC f ys)) (hs1 : Nat.ble 1 s = true) (hlen : len = xs.length) (hcap : cap = xs.length) (hft : fitsB (len + (m + 1)) bytes = true) {n' : Nat} (hn' : len + (m + 1) = n')
    (hh : (c, .cells (rowC f (xs ++ ys)) 0 e s) :: hdel h b = h') :
    insE g t h c = some (.slice (some ⟨c, 0, none⟩) n' n', h', c + 1) := by
  subst hI
  subst hlen
  subst hcap
  subst hn'
  simp only [fitsB, Bool.and_eq_true] at hft
  obtain ⟨t1, t2⟩ := hft
  have hl := rowC_length hf xs
  have b1 : Nat.ble xs.length xs.length = true := Nat.ble_self_eq_true xs.length
  have b2 : Nat.ble (0 + xs.length * s) (rowC f xs).length = true := by rw [Nat.ble_eq]; omega
  have b3 : Nat.beq e e = true := Nat.beq_refl e
  have b4 : Nat.ble 0 (xs.length * s) = true := by rw [Nat.ble_eq]; omega
  have b5 : Nat.beq s s = true := Nat.beq_refl s
  simp only [insE, eAppend, hx, hg, hy, b1, b2, b3, t1, t2, rowC_one1 hf ys, hs1, Bool.and_self]
  cases s with
  | zero => cases hs1
  | succ s' =>
    simp only [b4, b5, Bool.and_self]
    have h3 : ((rowC f xs).drop 0).take (xs.length * (s' + 1)) = rowC f xs := by
      rw [List.drop_zero]; exact List.take_of_length_le (by omega)
    have hw : wasH false h b 0 xs.length (s' + 1) c (rowC f xs) 0 e (s' + 1) = hdel h b := rfl
    rw [h3, ← rowC_append, hw, hh]

theorem v_cut {g : Ins} {d : Option (List Bool)} {nt s : Nat} {x : Src} {lo hi mx : Option Operand} {t : Tr} {h : Heap} (hI : g = .rd d (rCutS nt s x lo hi mx)) {b o len cap : Nat} (hx : ev t x = .slice (some ⟨b, o, none⟩) len cap) {cs : List Value} {fz : Nat} {e : TypeId} {es : Nat}
    (hg : hget h b = some (.cells cs fz e es)) (hes : (Nat.beq es 0 || Nat.beq es s) = true) {l u m : Option Int} (hl : bnd nt t lo = some l) (hu : bnd nt t hi = some u) (hm : bnd nt t mx = some m) (hmu : m.isNone = true)
    (hc : cutOK (l.getD 0) (u.getD len) (m.getD cap) cap = true) {o' len' cap' : Nat} (ho : o + (l.getD 0).toNat * s = o') (hl' : (u.getD len).toNat - (l.getD 0).toNat = len') (hc' : (m.getD cap).toNat - (l.getD 0).toNat = cap') :
    insV g t h = some (.slice (some ⟨b, o', none⟩) len' cap') := by
  subst hI
  subst ho
  subst hl'
  subst hc'
  cases m with
  | some m => cases hmu
  | none => simp only [insV, rCutS, hx, hg, hes, hl, hu, hm, hc, Option.isNone_none, Option.isSome_none, Bool.true_or, Bool.false_and]

/-! ### Rules -/
theorem qops_rd {call : CallQ} {gs : List GI} {t : Tr} {h : Heap} {v : Value} (hv : insV (headI gs t) t h = some v) : qops call (gs.take 1) h t = some (putX (insD (headI gs t)) v t) := by
  cases gs with
  | nil => cases hv
  | cons g gs =>
    cases g with
    | ins i =>
      cases i with
      | rd d f =>
        have hv' : f t h = some v := hv
        show qops call [GI.ins (.rd d f)] h t = _
        simp only [qops, qgi, qins, hv', headI, insD]
      | _ => cases hv
    | g p want d i =>
      simp only [headI] at hv ⊢
      cases hw : wantB (t.get p) want with
      | none => rw [hw] at hv; cases hv
      | some b =>
        rw [hw] at hv
        cases b with
        | false => cases hv
        | true =>
          cases i with
          | rd d f =>
            have hv' : f t h = some v := hv
            show qops call [GI.g p want _ (.rd d f)] h t = _
            simp only [qops, qgi, qins, hv', hw, insD]
          | _ => cases hv
    | bad => cases hv

/-- One operation that reads, by an equation. -/
theorem XU.rd {E : Env} (hE : E.Ok) {nt : Nat} {ops : Array Oper} {j : Nat} (live : List Nat) {σ σ' : St} {h : Heap} {c : Nat} {v : Value} {Q : St → Prop} (hl : live.all (fun i => Nat.blt i nt) = true)
    (hv : insV (headI ((gsOf E nt ops).drop j) (trS nt σ)) (trS nt σ) h = some v) (hσ : readS (putX (insD (headI ((gsOf E nt ops).drop j) (trS nt σ))) v (trS nt σ)) live = σ')
    (hx : XU E nt ops (j + 1) σ' h c Q) : XU E nt ops j σ h c Q := by
  refine XU.step hE (callQ_ok hE (exec_ok hE 0).1) 1 live (σ' := σ') hl ?_ hx
  rw [qops_rd hv, ← hσ]
  rfl

theorem qops_call {call : CallQ} {gs : List GI} {t : Tr} {h : Heap} {K : Nat} {args : List Value} {d : Option (List Bool)} {v : Value} (hc : callee gs t = some (K, args, d)) (hv : call K args = some v) : qops call (gs.take 1) h t = some (putX d v t) := by
  have key : ∀ i, insCallee i t = some (K, args, d) → qins call i t h = some (putX d v t) := by
    intro i hi
    cases i with
    | call d0 f as =>
      simp only [insCallee] at hi
      split at hi
      · rename_i k xs hev
        cases hi
        simp only [qins, hev, hv]
      · cases hi
    | _ => cases hi
  cases gs with
  | nil => cases hc
  | cons g gs =>
    cases g with
    | ins i =>
      have := key i hc
      show qops call [GI.ins i] h t = _
      simp only [qops, qgi, this]
    | g p want dd i =>
      simp only [callee] at hc
      split at hc
      · rename_i hw
        have := key i hc
        show qops call [GI.g p want dd i] h t = _
        simp only [qops, qgi, this, hw]
      · cases hc
    | bad => cases hc

open Classical in
/-- A call with plain arguments and a plain result, by its contract. -/
theorem XU.call {E : Env} (hE : E.Ok) {nt : Nat} {ops : Array Oper} {j : Nat} (live : List Nat) {K : Nat} {F : Func} {args : List Value} {d : Option (List Bool)} {σ σ' : St} {h : Heap} {c : Nat} {v : Value} {Q : St → Prop} (hl : live.all (fun i => Nat.blt i nt) = true)
    (hF : E.fn K = some F) (hc : callee ((gsOf E nt ops).drop j) (trS nt σ) = some (K, args, d)) (hp : args.all plain = true) (hv : plain v = true) (hx : ∀ w, E.inv w → Calls E.P K args.toArray w (fun e w' => e = .returned v ∧ Below w.heap.size w w'))
    (hσ : readS (putX d v (trS nt σ)) live = σ') (hn : XU E nt ops (j + 1) σ' h c Q) : XU E nt ops j σ h c Q := by
  have hq : CallQOk E h c (fun k a => if k = K ∧ a = args then some v else none) := by
    intro k a u hu
    replace hu : (if k = K ∧ a = args then some v else none) = some u := hu
    split at hu
    · rename_i h1
      cases hu
      obtain ⟨rfl, rfl⟩ := h1
      obtain ⟨f1, f2, f3⟩ := hE.fn k F hF
      refine ⟨hv, fun B ρ w args' hargs hh hc hG hI w' hb => .inr ?_⟩
      have he := hargs.plain_eq hp
      subst he
      exact ⟨run_callFunc_go f1 f2 f3 _ w', hx w' (hE.keepN hG hI hb)⟩
    · cases hu
  refine XU.step hE hq 1 live (σ' := σ') hl ?_ hn
  rw [qops_call hc (v := v) (by simp), ← hσ]
  rfl

/-- The same state, told otherwise. -/
theorem XQ.conv {E : Env} {nt k : Nat} {code : Code} {σ σ' : St} {h h' : Heap} {c c' : Nat} {Q : QP} (hx : XQ E nt k code σ' h' c' Q) (e : (σ, h, c) = (σ', h', c')) : XQ E nt k code σ h c Q := by cases e; exact hx
theorem XR.conv {E : Env} {nt k : Nat} {ops : Array Oper} {j : Nat} {σ σ' : St} {h h' : Heap} {c c' : Nat} {Q : QP} (hx : XR E nt k ops j σ' h' c' Q) (e : (σ, h, c) = (σ', h', c')) : XR E nt k ops j σ h c Q := by cases e; exact hx
theorem XL.conv {E : Env} {nt k n : Nat} {code : Code} {σ σ' : St} {h h' : Heap} {c c' : Nat} {Q : QP} (hx : XL E nt k n code σ' h' c' Q) (e : (σ, h, c) = (σ', h', c')) : XL E nt k n code σ h c Q := by cases e; exact hx

/-- Ways that meet again. -/
theorem XQ.meet {E : Env} (hE : E.Ok) {nt k : Nat} {code : Code} (hs : isSeq code = true) {σ σ' : St} {h h' : Heap} {c c' : Nat} {Q : QP} (hy : XQ E nt k (rgt code) σ' h' c' Q)
    (hx : XQ E nt k (lft code) σ h c (Then (fun σ1 h1 c1 => (σ1, h1, c1) = (σ', h', c')) Q)) : XQ E nt k code σ h c Q := by
  refine XQ.seq hE hs (XQ.mono ?_ hx)
  intro e σ1 h1 c1 hq
  cases e with
  | normal =>
    have hq : (σ1, h1, c1) = (σ', h', c') := hq
    cases hq
    exact hy
  | exit i => exact hq
  | ret => exact hq

/-! ### Elements -/
def encI (k : IntKind) (n : Int) : List Value := [.int k n]
def encB (b : Bool) : List Value := [.bool b]
def encS (s : ByteArray) : List Value := [.string s]
def encP (p : Int × Int) : List Value := [.int .i64 p.1, .int .i64 p.2]
theorem encI_ok (k : IntKind) : Enc (encI k) 1 := ⟨fun _ => rfl, fun _ => rfl⟩
theorem encB_ok : Enc encB 1 := ⟨fun _ => rfl, fun _ => rfl⟩
theorem encS_ok : Enc encS 1 := ⟨fun _ => rfl, fun _ => rfl⟩
theorem encP_ok : Enc encP 2 := ⟨fun _ => rfl, fun _ => rfl⟩
def encQ (k : IntKind) (p : Int × Int) : List Value := [.int k p.1, .int k p.2]
theorem encQ_ok (k : IntKind) : Enc (encQ k) 2 := ⟨fun _ => rfl, fun _ => rfl⟩

theorem v_cutA {g : Ins} {d : Option (List Bool)} {nt s n : Nat} {x : Src} {lo hi : Option Operand} {t : Tr} {h : Heap} (hI : g = .rd d (rCutA nt s n x lo hi)) {b o : Nat} (hx : ev t x = .pointer (some ⟨b, o, none⟩)) {cs : List Value} {fz : Nat} {e : TypeId}
    (hg : hget h b = some (.cells cs fz e 0)) {l u : Option Int} (hl : bnd nt t lo = some l) (hu : bnd nt t hi = some u)
    (hc : cutOK (l.getD 0) (u.getD n) n n = true) {o' len' cap' : Nat} (ho : o + (l.getD 0).toNat * s = o') (hl' : (u.getD n).toNat - (l.getD 0).toNat = len') (hc' : n - (l.getD 0).toNat = cap') :
    insV g t h = some (.slice (some ⟨b, o', none⟩) len' cap') := by
  subst hI
  subst ho
  subst hl'
  subst hc'
  simp only [insV, rCutA, hx, hg, hl, hu, hc]

theorem mod_add_one_step (s i : Nat) : (s + i) % s = i % s := by rw [Nat.add_comm]; exact Nat.add_mod_right i s

theorem bsBase_row {α : Type} {f : α → List Value} {s : Nat} (hf : Enc f s) (a : α) (z : Array Value) (hz : z.toList = f a) : ∀ n, (bsBase z (n * s)).toList = rowC f (List.replicate n a)
  | 0 => by simp [bsBase, rowC]
  | n + 1 => by
    have ih := bsBase_row hf a z hz n
    have hzs : z.size = s := by have := hf.len a; rw [← hz] at this; simpa using this
    rw [List.replicate_succ, rowC_cons, ← ih]
    have e : (n + 1) * s = s + n * s := by rw [Nat.add_mul, Nat.one_mul, Nat.add_comm]
    rw [e]
    simp only [bsBase]
    rw [List.range_add, List.map_append, List.map_map]
    congr 1
    · rw [← hz]
      apply List.ext_getElem?
      intro i
      by_cases hi : i < s
      · have h1 : i % z.size = i := by rw [hzs]; exact Nat.mod_eq_of_lt hi
        have h2 : i < z.size := by omega
        simp [hi, h1, h2]
      · have h2 : ¬ i < z.size := by omega
        simp [hi, h2]
    · apply List.map_congr_left
      intro i _
      simp only [Function.comp]
      rw [hzs, mod_add_one_step s i]

theorem e_make {α : Type} {f : α → List Value} {s : Nat} (hf : Enc f s) {g : Ins} {d : Option (List Bool)} {bytes : Nat} {e : TypeId} {z : Array Value} {x y : Src} {t : Tr} {h : Heap} {c : Nat} (hI : g = .ef d (eMakeSlice s bytes e z x y)) {l n : Int} (hx : ev t x = .int .i64 l) (hy : ev t y = .int .i64 n)
    (a : α) (hz : z.toList = f a) (hc : (z.toList.all closedV && Nat.beq z.size s && Nat.ble 1 s) = true) (hm : mkOK l n bytes = true) :
    insE g t h c = some (.slice (some ⟨c, 0, none⟩) l.toNat l.toNat, (c, .cells (rowC f (List.replicate l.toNat a)) 0 e s) :: h, c + 1) := by
  subst hI
  simp only [insE, eMakeSlice, hx, hy, hc, hm]
  rw [bsBase_row hf a z hz]

/-- A row, of which so many elements from a place on are made anew. -/
def clearL {α : Type} (d : α) (xs : List α) (a n : Nat) : List α := xs.take a ++ List.replicate n d ++ xs.drop (a + n)

theorem e_clear {α : Type} {f : α → List Value} {s : Nat} (hf : Enc f s) {g : Ins} {d : Option (List Bool)} {z : Array Value} {x : Src} {t : Tr} {h h' : Heap} {c : Nat} (hI : g = .ef d (eClear z x)) {b o len cap : Nat} (hx : ev t x = .slice (some ⟨b, o, none⟩) len cap) {xs : List α} {e : TypeId} {es : Nat}
    (hg : hget h b = some (.cells (rowC f xs) 0 e es)) (a : Nat) (d0 : α) (hz : z.toList = f d0) (hzs : (Nat.beq z.size s && (Nat.ble 1 z.size && z.toList.all closedV)) = true) (ho : o = a * s) (hal : decide (a + len ≤ xs.length) = true)
    (hh : hset h b (.cells (rowC f (clearL d0 xs a len)) 0 e es) = h') : insE g t h c = some (.tuple #[], h', c) := by
  subst hI
  subst ho
  have hal := of_decide_eq_true hal
  simp only [Bool.and_eq_true] at hzs
  obtain ⟨z1, z2, z3⟩ := hzs
  have z1 := Nat.eq_of_beq_eq_true z1
  subst z1
  have hl := rowC_length hf xs
  cases len with
  | zero =>
    have e1 : clearL d0 xs a 0 = xs := by simp [clearL]
    rw [e1, hset_same hg] at hh
    subst hh
    simp only [insE, eClear, hx]
  | succ n =>
    have hb := bsBase_row hf d0 z hz (n + 1)
    have h1 : (a + (n + 1)) * z.size ≤ xs.length * z.size := Nat.mul_le_mul_right _ hal
    have h2 : (a + (n + 1)) * z.size = a * z.size + (n + 1) * z.size := Nat.add_mul _ _ _
    have q1 : Nat.ble 0 (a * z.size) = true := by rw [Nat.ble_eq]; omega
    have q2 : Nat.ble (a * z.size + (n + 1) * z.size) (rowC f xs).length = true := by rw [Nat.ble_eq]; omega
    have q3 : (bsBase z ((n + 1) * z.size)).toList.all one1 = true := by rw [hb]; exact rowC_one1 hf _
    simp only [insE, eClear, hx, hg, z2, z3, q1, q2, q3, Bool.and_self]
    rw [hb, ← h2, rowC_take hf, rowC_drop hf, ← rowC_append, ← rowC_append]
    unfold clearL at hh
    rw [hh]

/-! ### Nil slices read as rows without elements -/
def unG0 (c : Nat) (v : Value) : Value :=
  match v with
  | .slice (some ⟨i, o, none⟩) l k => match Nat.beq i c with
    | true => match l, k with
      | 0, 0 => .slice none 0 0
      | _, _ => .chan (some 1)
    | false => .slice (some ⟨i, o, none⟩) l k
  | v => v

def unG (c : Nat) (v : Value) : Value :=
  match v with
  | .func fn f k => .func fn ⟨f.toList.map (unG0 c)⟩ ⟨k.toList.map (unG0 c)⟩
  | .agg cs => .agg ⟨cs.toList.map (unG0 c)⟩
  | .tuple cs => .tuple ⟨cs.toList.map (unG0 c)⟩
  | v => unG0 c v

theorem VRel.unG0 {ρ : Rho} {L : Loc} {c : Nat} (hc : ρ.length = c) (hL : L.gho) {v u : Value} (h : VRel ρ (unG0 c v) u) : VRel (ρ ++ [L]) v u := by
  have hm := Rho.le_push ρ L
  unfold Xm.unG0 at h
  split at h
  · rename_i i o l k
    split at h
    · rename_i hb
      have hi := Nat.eq_of_beq_eq_true hb
      split at h
      · cases h
        exact .sliceN i o L (by rw [hi, ← hc]; simp) hL
      · cases h
    · exact h.mono hm
  · exact h.mono hm

theorem arr_unG {ρ : Rho} {L : Loc} {c : Nat} (hc : ρ.length = c) (hL : L.gho) {f f' : Array Value} (hs : (⟨f.toList.map (unG0 c)⟩ : Array Value).size = f'.size) (h : ∀ (i : Nat) (v v' : Value), (⟨f.toList.map (unG0 c)⟩ : Array Value)[i]? = some v → f'[i]? = some v' → VRel ρ v v') :
    f.size = f'.size ∧ ∀ (i : Nat) (v v' : Value), f[i]? = some v → f'[i]? = some v' → VRel (ρ ++ [L]) v v' := by
  refine ⟨by simpa using hs, fun i v v' h1 h2 => VRel.unG0 hc hL (h i (Xm.unG0 c v) v' ?_ h2)⟩
  simp [h1]

theorem VRel.unG {ρ : Rho} {L : Loc} {c : Nat} (hc : ρ.length = c) (hL : L.gho) {v u : Value} (h : VRel ρ (unG c v) u) : VRel (ρ ++ [L]) v u := by
  cases v with
  | func fn f k =>
    simp only [Xm.unG] at h
    cases h with
    | func _ _ f' _ c' hf hc' h1 h2 =>
      obtain ⟨a1, a2⟩ := arr_unG hc hL hf h1
      obtain ⟨b1, b2⟩ := arr_unG hc hL hc' h2
      exact .func fn f f' k c' a1 b1 a2 b2
  | agg cs =>
    simp only [Xm.unG] at h
    cases h with
    | agg _ c' hc' h1 =>
      obtain ⟨a1, a2⟩ := arr_unG hc hL hc' h1
      exact .agg cs c' a1 a2
  | tuple cs =>
    simp only [Xm.unG] at h
    cases h with
    | tuple _ c' hc' h1 =>
      obtain ⟨a1, a2⟩ := arr_unG hc hL hc' h1
      exact .tuple cs c' a1 a2
  | _ => exact VRel.unG0 hc hL h

def ObjGh (c : Nat) (o' o : XObj) : Prop := o = o' ∨ ∃ cs fz e es, o' = .cells cs fz e es ∧ o = .cells (cs.map (unG c)) fz e es

theorem OOk.gh {ρ : Rho} {w : World} {L M : Loc} {c : Nat} (hc : ρ.length = c) (hL : L.gho) {o o' : XObj} (h : OOk ρ w M o) (hr : ObjGh c o' o) : OOk (ρ ++ [L]) w M o' := by
  rcases hr with rfl | ⟨cs, fz, e, es, rfl, rfl⟩
  · exact h.mono (Rho.le_push ρ L)
  · obtain ⟨h0, hg | ⟨C, fr, h1, h2, h3, h4, h5⟩⟩ := h
    · exact ⟨h0, .inl ⟨hg.1, by simpa using hg.2⟩⟩
    refine ⟨h0, .inr ⟨C, fr, h1, h2, by simpa using h3, fun i v hi => ?_, by simpa using h5⟩⟩
    obtain ⟨v', a, b⟩ := h4 i (Xm.unG c v) (by simp [hi])
    exact ⟨v', a, b.unG hc hL⟩

theorem OOk.ghOwn {ρ : Rho} {w : World} {L M : Loc} {c : Nat} {o o' : XObj} (h : OOk ρ w M o) (hr : ObjGh c o' o) (ho : own (ρ ++ [L]) M o') : own ρ M o := by
  rcases hr with rfl | ⟨cs, fz, e, es, rfl, rfl⟩
  · exact own_down (Rho.le_push ρ L) h ho
  · trivial

theorem ObjGh.frz {c : Nat} {o o' : XObj} (h : ObjGh c o' o) : Xm.frz o' = Xm.frz o := by
  rcases h with rfl | ⟨cs, fz, e, es, rfl, rfl⟩
  · rfl
  · simp only [Xm.frz, List.length_map]

def GhH (c : Nat) (h : Heap) : Heap → Prop
  | [] => True
  | (i, o') :: l => (∃ o, hget h i = some o ∧ ObjGh c o' o) ∧ GhH c h l

theorem GhH.get {c : Nat} {h : Heap} : ∀ {h' : Heap}, GhH c h h' → ∀ {i : Nat} {o' : XObj}, hget h' i = some o' → ∃ o, hget h i = some o ∧ ObjGh c o' o
  | [], _, i, o', hi => by cases hi
  | (i0, o0) :: l, hr, i, o', hi => by
    rw [hget_cons] at hi
    split at hi
    · rename_i e
      cases hi
      have e : i0 = i := e
      subst e
      exact hr.1
    · exact GhH.get hr.2 hi

def SubG (c : Nat) (σ : St) : St → Prop
  | [] => True
  | (i, v) :: l => lookS σ i = some (unG c v) ∧ SubG c σ l

theorem SubG.mem {c : Nat} {σ : St} : ∀ {σ' : St}, SubG c σ σ' → ∀ {i : Nat} {v : Value}, (i, v) ∈ σ' → (i, unG c v) ∈ σ
  | [], _, _, _, hm => by cases hm
  | (_, _) :: _, hs, _, _, hm => by
    rcases List.mem_cons.1 hm with e | e
    · cases e; exact lookS_mem hs.1
    · exact SubG.mem hs.2 e

theorem HRel.gh {B : Bd} {ρ : Rho} {h h' : Heap} {w : World} {c : Nat} (H : HRel B ρ h w) (hc : ρ.length = c) (e : TypeId) (es : Nat) (hes : es ≠ 0) (hh : GhH c h h') : HRel B (ρ ++ [⟨B.n, 0, 0, es⟩]) ((c, .cells [] 0 e es) :: h') w := by
  have hnew : (ρ ++ [(⟨B.n, 0, 0, es⟩ : Loc)])[c]? = some ⟨B.n, 0, 0, es⟩ := by rw [← hc]; simp
  refine ⟨fun i o hi => ?_, fun i j o o' L L' hi hj hL hL' n1 n2 s1 s2 hz hb => ?_⟩
  · rw [hget_cons] at hi
    by_cases ei : c = i
    · rw [if_pos ei] at hi
      cases hi
      subst ei
      exact ⟨_, hnew, fun _ => .inl (Nat.le_refl _), rfl, .inl ⟨⟨hes, rfl⟩, rfl⟩⟩
    · rw [if_neg ei] at hi
      obtain ⟨o1, q1, q2⟩ := hh.get hi
      obtain ⟨L, p1, p2, p3⟩ := H.ok i o1 q1
      exact ⟨L, Rho.le_push ρ _ i L p1, fun q => p2 (by rw [← q2.frz]; exact q), p3.gh hc ⟨hes, rfl⟩ q2⟩
  · have key : ∀ i o L, hget ((c, XObj.cells [] 0 e es) :: h') i = some o → (ρ ++ [(⟨B.n, 0, 0, es⟩ : Loc)])[i]? = some L → ¬ L.gho → own (ρ ++ [(⟨B.n, 0, 0, es⟩ : Loc)]) L o → ∃ o1, hget h i = some o1 ∧ ρ[i]? = some L ∧ own ρ L o1 ∧ (frz o = false → frz o1 = false) := by
      intro i o L hi hL hn ho
      rw [hget_cons] at hi
      by_cases ei : c = i
      · subst ei
        rw [hnew] at hL
        cases hL
        exact absurd ⟨hes, rfl⟩ hn
      · rw [if_neg ei] at hi
        obtain ⟨o1, q1, q2⟩ := hh.get hi
        obtain ⟨M, p1, _, p3⟩ := H.ok i o1 q1
        have := Rho.le_push ρ ⟨B.n, 0, 0, es⟩ i M p1
        rw [hL] at this
        cases this
        exact ⟨o1, q1, p1, p3.ghOwn q2 ho, fun q => by rw [← q2.frz]; exact q⟩
    obtain ⟨u, a1, a2, a3, a4⟩ := key i o L hi hL n1 s1
    obtain ⟨u', b1, b2, b3, b4⟩ := key j o' L' hj hL' n2 s2
    exact H.inj i j u u' L L' a1 b1 a2 b2 n1 n2 a3 b3 (hz.imp a4 b4) hb

/-- Nil slices are rows without elements. -/
theorem XQ.ghost {E : Env} {nt k : Nat} {code : Code} (e : TypeId) (es : Nat) (hes : Nat.ble 1 es = true) {σ σ' : St} {h h' : Heap} {c : Nat} {Q : QP} (hσ : SubG c σ σ') (hh : GhH c h h') (hx : XQ E nt k code σ' ((c, .cells [] 0 e es) :: h') (c + 1) Q) : XQ E nt k code σ h c Q := by
  intro B ρ a w h1 h2 h3 h4 h5 h6 h7
  have hes' : es ≠ 0 := by have : 1 ≤ es := by simpa [Nat.ble_eq] using hes
                           omega
  have hK : Keeps k ρ (ρ ++ [(⟨B.n, 0, 0, es⟩ : Loc)]) := Keeps.of_le h7 (Rho.le_push _ _)
  refine wp_mono (hx B (ρ ++ [⟨B.n, 0, 0, es⟩]) a w ⟨h1.1, h1.2.1, fun i v hm => ?_⟩ (h2.gh h3 e es hes' hh) (by simp [h3]) h4 h5 h6 hK.le) (fun e a' w' hA => hA.trans hK (Bel.refl B w))
  have := h1.2.2 i _ (hσ.mem hm)
  exact ⟨this.1, this.2.unG h3 ⟨hes', rfl⟩⟩

#print axioms XU.call
/-! ### Maps -/
def imC {α : Type} (g : α → Value) (l : List (Int × α)) : List (List Int × Value) := l.map fun p => ([p.1], g p.2)

/-- What a map holds at a key, or d. -/
def getM {α : Type} (d : α) : List (Int × α) → Int → α
  | [], _ => d
  | p :: t, k => if p.1 = k then p.2 else getM d t k

def putM {α : Type} : List (Int × α) → Int → α → List (Int × α)
  | [], k, v => [(k, v)]
  | p :: t, k, v => if p.1 = k then (k, v) :: t else p :: putM t k v

theorem one_key {a b : Int} : ([a] = [b]) ↔ a = b := by simp

theorem mfind_imC {α : Type} (g : α → Value) (d : α) (l : List (Int × α)) (k : Int) : (mfind (imC g l) [k]).getD (g d) = g (getM d l k) := by
  induction l with
  | nil => rfl
  | cons p l ih =>
    show (if [p.1] = [k] then some (g p.2) else mfind (imC g l) [k]).getD (g d) = g (if p.1 = k then p.2 else getM d l k)
    by_cases e : p.1 = k
    · rw [if_pos (one_key.2 e), if_pos e]; rfl
    · rw [if_neg (fun q => e (one_key.1 q)), if_neg e]; exact ih

theorem mput_imC {α : Type} (g : α → Value) (l : List (Int × α)) (k : Int) (v : α) : mput (imC g l) [k] (g v) = imC g (putM l k v) := by
  induction l with
  | nil => rfl
  | cons p l ih =>
    show (if [p.1] = [k] then ([k], g v) :: imC g l else ([p.1], g p.2) :: mput (imC g l) [k] (g v)) = imC g (if p.1 = k then (k, v) :: l else p :: putM l k v)
    by_cases e : p.1 = k
    · rw [if_pos (one_key.2 e), if_pos e]; rfl
    · rw [if_neg (fun q => e (one_key.1 q)), if_neg e, ih]; rfl

theorem lens_imC {α : Type} (g : α → Value) (l : List (Int × α)) : lens 1 (imC g l) = true := by
  unfold lens imC
  rw [List.all_map]
  exact List.all_eq_true.2 (fun _ _ => rfl)

theorem v_mget {α : Type} (g : α → Value) {J : Ins} {d : Option (List Bool)} {x i : Src} {z : Value} {t : Tr} {h : Heap} (hI : J = .rd d (rLookup 1 x i z false)) {b : Nat} {k : Int} (hx : ev t x = .map (some b)) (hi : ev t i = .int .i64 k) {l : List (Int × α)}
    (hg : hget h b = some (.imap (imC g l))) {d0 : α} (hz : z = g d0) (hs : scal z = true) {v : Value} (hv : g (getM d0 l k) = v) : insV J t h = some v := by
  subst hI
  have e1 : Nat.beq [k].length 1 = true := rfl
  simp only [insV, rLookup, hx, hg, hi, hs, keyL, e1, lens_imC, Bool.and_self]
  rw [hz, mfind_imC, hv]

theorem e_mput {α : Type} (g : α → Value) {J : Ins} {d : Option (List Bool)} {m i x : Src} {t : Tr} {h h' : Heap} {c : Nat} (hI : J = .ef d (eMapUpdate 1 m i x)) {b : Nat} {k : Int} (hx : ev t m = .map (some b)) (hi : ev t i = .int .i64 k) {l : List (Int × α)}
    (hg : hget h b = some (.imap (imC g l))) {a : α} (hv : ev t x = g a) (hs : scal (g a) = true) (hh : hset h b (.imap (imC g (putM l k a))) = h') : insE J t h c = some (undef, h', c) := by
  subst hI
  have e1 : Nat.beq [k].length 1 = true := rfl
  simp only [insE, eMapUpdate, hx, hg, hi, hv, hs, keyL, e1, lens_imC, Bool.and_self]
  rw [mput_imC, hh]

end Go.Xm
