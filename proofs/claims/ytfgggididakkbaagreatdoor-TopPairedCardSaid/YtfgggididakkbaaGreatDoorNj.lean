/- The abstract machine: structs that end in an array, of which the elements are not known one by one. Conditions: none. -/
import Derived.Test.YtfgggididakkbaaGreatDoorNa
import Derived.Test.YtfgggididakkbaaGreatDoorNc
namespace Go.Xm
open Go.RowKit
set_option linter.unusedVariables false
set_option linter.unusedSimpArgs false

theorem preC_scal {pre cs : List Value} (hp : pre.all flt = true) (h : cs.all flt = true) : (pre ++ cs).all flt = true := by
  rw [List.all_append, hp, h]; rfl

theorem v_load1P {α : Type} {f : α → List Value} {s : Nat} (hf : Enc f s) {pre : List Value} {p : Nat} (hp : pre.length = p) {g : Ins} {d : Option (List Bool)} {x : Src} {t : Tr} {h : Heap} (hI : g = .rd d (rLoad1 x)) {b off : Nat} (hx : ev t x = .pointer (some ⟨b, off, none⟩)) {xs : List α} {fz : Nat} {e : TypeId} {es : Nat}
    (hg : hget h b = some (.cells (pre ++ rowC f xs) fz e es)) (n k : Nat) (d0 : α) (ho : off = n * s + k + p) (hn : n < xs.length) (hk : Nat.blt k s = true) {v : Value} (hv : (f (xs.getD n d0))[k]? = some v) : insV g t h = some v := by
  subst hI
  subst ho
  subst hp
  simp only [insV, rLoad1, hx, hg, lget_eq]
  rw [List.getElem?_append_right (by omega)]
  have e1 : n * s + k + pre.length - pre.length = n * s + k := by omega
  rw [e1, rowC_get hf xs n k d0 hn (by simpa [Nat.blt_eq] using hk), hv]

theorem e_storeP {α : Type} {f : α → List Value} {s : Nat} (hf : Enc f s) {pre : List Value} {p : Nat} (hp : pre.length = p) {g : Ins} {d : Option (List Bool)} {size : Nat} {x y : Src} {t : Tr} {h h' : Heap} {c : Nat} (hI : g = .ef d (eStore size x y)) {b off : Nat} (hx : ev t x = .pointer (some ⟨b, off, none⟩)) {xs : List α} {e : TypeId} {es : Nat}
    (hg : hget h b = some (.cells (pre ++ rowC f xs) 0 e es)) (n k : Nat) (d0 : α) (ho : off = n * s + k + p) (hn : n < xs.length) {w : Value} {ws : List Value} (hw : ev t y = w) (hws : w.cells.toList = ws) (hk : Nat.ble (k + size) s = true) (hs1 : Nat.ble 1 size = true)
    (hsc : (solid w && ws.all one1 && Nat.beq ws.length size) = true) {a : α} (ha : (f (xs.getD n d0)).take k ++ ws ++ (f (xs.getD n d0)).drop (k + ws.length) = f a) (hh : hset h b (.cells (pre ++ rowC f (xs.set n a)) 0 e es) = h') :
    insE g t h c = some (undef, h', c) := by
  subst hI
  subst ho
  subst hp
  simp only [Bool.and_eq_true] at hsc
  obtain ⟨⟨q1, q2⟩, q3⟩ := hsc
  have q3' := Nat.eq_of_beq_eq_true q3
  have hsz : w.cells.size = size := by rw [← q3', ← hws]; simp
  have hl := rowC_length hf xs
  have hk' : k + size ≤ s := by simpa [Nat.ble_eq] using hk
  have h1 : (n + 1) * s ≤ xs.length * s := Nat.mul_le_mul_right _ hn
  have h2 : (n + 1) * s = n * s + s := by rw [Nat.add_mul, Nat.one_mul]
  have hb : Nat.ble (n * s + k + pre.length + size) (pre ++ rowC f xs).length = true := by rw [Nat.ble_eq, List.length_append]; omega
  simp only [insE, eStore, hx, hg, hw]
  have hz : Nat.ble 0 (n * s + k + pre.length) = true := by rw [Nat.ble_eq]; omega
  rw [hs1, q1, hws, q2, hsz, hb, hz]
  have hbq : Nat.beq size size = true := Nat.beq_refl size
  rw [hbq]
  simp only [Bool.and_self]
  have key := rowC_set hf xs n k d0 a ws hn (by omega) ha
  rw [q3'] at key
  have e1 : (pre ++ rowC f xs).take (n * s + k + pre.length) = pre ++ (rowC f xs).take (n * s + k) := by
    rw [List.take_append, List.take_of_length_le (by omega)]
    have : n * s + k + pre.length - pre.length = n * s + k := by omega
    rw [this]
  have e2 : (pre ++ rowC f xs).drop (n * s + k + pre.length + size) = (rowC f xs).drop (n * s + k + size) := by
    rw [List.drop_append, List.drop_eq_nil_of_le (by omega), List.nil_append]
    have : n * s + k + pre.length + size - pre.length = n * s + k + size := by omega
    rw [this]
  rw [e1, e2, List.append_assoc, List.append_assoc, ← List.append_assoc (List.take (n * s + k) (rowC f xs)), key, hh]

def encR (q : Int × Int × Int × Int) : List Value := [.int .i64 q.1, .int .i64 q.2.1, .int .i64 q.2.2.1, .int .i64 q.2.2.2]
theorem encR_ok : Enc encR 4 := ⟨fun _ => rfl, fun _ => rfl⟩

theorem eqIs_row : ∀ (L M : List Int), L.length = M.length → eqIs (rowC (encI .i64) L) (rowC (encI .i64) M) = some (L == M)
  | [], [], _ => rfl
  | [], _ :: _, h => by cases h
  | _ :: _, [], h => by cases h
  | a :: L, b :: M, h => by
    have ih := eqIs_row L M (Nat.succ.inj h)
    show eqIs (.int .i64 a :: rowC (encI .i64) L) (.int .i64 b :: rowC (encI .i64) M) = _
    simp only [eqIs, ih]
    rfl

theorem v_eqA {g : Ins} {d : Option (List Bool)} {neg : Bool} {n : Nat} {x y : Src} {t : Tr} {h : Heap} (hI : g = .rd d (rEqA neg n x y rNone)) {L M : List Int} (hx : ev t x = .agg (rowC (encI .i64) L).toArray) (hy : ev t y = .agg (rowC (encI .i64) M).toArray)
    (h1 : L.length = n) (h2 : M.length = n) {r : Bool} (hr : cond neg (!(L == M)) (L == M) = r) : insV g t h = some (.bool r) := by
  subst hI
  subst hr
  have e1 : (rowC (encI .i64) L).length = n := by rw [rowC_length (encI_ok .i64), h1, Nat.mul_one]
  have e2 : Nat.beq n n = true := Nat.beq_refl n
  simp only [insV, rEqA, hx, hy, e1, e2, eqIs_row L M (h1.trans h2.symm)]
  cases neg <;> rfl

theorem e_storeA {k : IntKind} {g : Ins} {d : Option (List Bool)} {n : Nat} {x y : Src} {t : Tr} {h h' : Heap} {c : Nat} (hI : g = .ef d (eStore n x y)) {b : Nat} (hx : ev t x = .pointer (some ⟨b, 0, none⟩)) {cs : List Value} {e : TypeId} {es : Nat}
    (hg : hget h b = some (.cells cs 0 e es)) (hcs : cs.length = n) {L : List Int} (hw : ev t y = .agg (rowC (encI k) L).toArray) (hl : L.length = n) (h1 : Nat.ble 1 n = true) (hh : hset h b (.cells (rowC (encI k) L) 0 e es) = h') :
    insE g t h c = some (undef, h', c) := by
  subst hI
  have e1 : (rowC (encI k) L).length = n := by rw [rowC_length (encI_ok k), hl, Nat.mul_one]
  have e2 : (Value.agg (rowC (encI k) L).toArray).cells.size = n := by simpa [Value.cells] using e1
  have e3 : (Value.agg (rowC (encI k) L).toArray).cells.toList = rowC (encI k) L := by simp [Value.cells]
  have e4 : Nat.ble (0 + n) cs.length = true := by rw [Nat.ble_eq]; omega
  have e5 : Nat.beq n n = true := Nat.beq_refl n
  have e6 : Nat.ble 0 0 = true := rfl
  simp only [insE, eStore, hx, hg, hw]
  rw [h1, e3, e2, rowC_one1 (encI_ok k) L, e4, e5, e6]
  simp only [solid, Bool.and_self]
  have e7 : cs.drop (0 + n) = [] := List.drop_eq_nil_of_le (by omega)
  rw [e7, List.append_nil, List.take_zero, List.nil_append, hh]

/-- An array that lies in a cell, as a result. -/
theorem scal_rowI (k : IntKind) : ∀ l : List Int, (rowC (encI k) l).all scal = true
  | [] => rfl
  | a :: l => by rw [rowC_cons, List.all_append, scal_rowI k l]; rfl

theorem plain_aggl (k : IntKind) (l : List Int) : plain (.agg (rowC (encI k) l).toArray) = true := by
  show ((rowC (encI k) l).toArray.toList).all scal = true
  exact scal_rowI k l

theorem resA {E : Env} {nt : Nat} {tm : Tr} {h : Heap} {a n : Nat} {t : TypeId} {k : IntKind} {b : Nat} {L : List Int} {fz : Nat} {e : TypeId} {es : Nat} (ht : (match E.ty t with | some d => aggB d.u && Nat.beq d.size n | none => false) = true)
    (hx : ev tm (src nt (.tmp a)) = .pointer (some ⟨b, 0, none⟩)) (hg : hget h b = some (.cells (rowC (encI k) L) fz e es)) (hl : L.length = n) : resOf E nt tm h [.cell a t] = some (.agg (rowC (encI k) L).toArray) := by
  have e1 : (rowC (encI k) L).length = n := by rw [rowC_length (encI_ok k), hl, Nat.mul_one]
  split at ht
  · rename_i d hd
    simp only [Bool.and_eq_true] at ht
    obtain ⟨h1, h2⟩ := ht
    have h2 := Nat.eq_of_beq_eq_true h2
    have e2 : Nat.ble (0 + n) (rowC (encI k) L).length = true := by rw [Nat.ble_eq]; omega
    have e3 : ((rowC (encI k) L).drop 0).take n = rowC (encI k) L := by rw [List.drop_zero]; exact List.take_of_length_le (by omega)
    simp only [resOf, resL, resV, hd, h1, h2, rLoadN, hx, hg, e2, e3]
  · cases ht

/-! ### Maps with integer keys: is there an entry; how many -/
def hasM {α : Type} : List (Int × α) → Int → Bool
  | [], _ => false
  | p :: t, k => if p.1 = k then true else hasM t k

theorem hasM_imC {α : Type} (g : α → Value) (k : Int) : ∀ l : List (Int × α), (mfind (imC g l) [k]).isSome = hasM l k
  | [] => rfl
  | p :: l => by
    have ih := hasM_imC g k l
    show (if [p.1] = [k] then some (g p.2) else mfind (imC g l) [k]).isSome = (if p.1 = k then true else hasM l k)
    by_cases e : p.1 = k
    · rw [if_pos (one_key.2 e), if_pos e]; rfl
    · rw [if_neg (fun q => e (one_key.1 q)), if_neg e, ih]

theorem v_mgeto {α : Type} (g : α → Value) {J : Ins} {d : Option (List Bool)} {x i : Src} {z : Value} {t : Tr} {h : Heap} (hI : J = .rd d (rLookup 1 x i z true)) {b : Nat} {k : Int} (hx : ev t x = .map (some b)) (hi : ev t i = .int .i64 k) {l : List (Int × α)}
    (hg : hget h b = some (.imap (imC g l))) {d0 : α} (hz : z = g d0) (hs : scal z = true) {v : Value} (hv : .tuple #[g (getM d0 l k), .bool (hasM l k)] = v) : insV J t h = some v := by
  subst hI
  have e1 : Nat.beq [k].length 1 = true := rfl
  simp only [insV, rLookup, hx, hg, hi, hs, keyL, e1, lens_imC, Bool.and_self]
  rw [hz, mfind_imC, hasM_imC, hv]

theorem v_mlen {J : Ins} {d : Option (List Bool)} {x : Src} {t : Tr} {h : Heap} (hI : J = .rd d (rMapLen x)) {b : Nat} (hx : ev t x = .map (some b)) {es : List (List Int × Value)} (hg : hget h b = some (.imap es)) {n : Nat} (hn : es.length = n) :
    insV J t h = some (.int .i64 ((n : Nat) : Int)) := by
  subst hI
  subst hn
  simp only [insV, rMapLen, hx, hg]
  rfl

theorem imC_len {α : Type} (g : α → Value) (l : List (Int × α)) : (imC g l).length = l.length := by simp [imC]
theorem imA_len {α : Type} (g : α → Value) (l : List (List Int × α)) : (imA g l).length = l.length := by simp [imA]

end Go.Xm
