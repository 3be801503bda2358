/- The abstract machine, more: maps whose keys are arrays of ints; copy into a row. -/
import Derived.Test.YtfgggididakkbaaGreatDoorNb
namespace Go.Xm
open Go.RowKit
set_option linter.unusedVariables false
set_option linter.unusedSimpArgs false

def imA {α : Type} (g : α → Value) (l : List (List Int × α)) : List (List Int × Value) := l.map fun p => (p.1, g p.2)

/-- What a map holds at a key, or d. -/
def getA {α : Type} (d : α) : List (List Int × α) → List Int → α
  | [], _ => d
  | p :: t, k => if p.1 = k then p.2 else getA d t k

def putA {α : Type} : List (List Int × α) → List Int → α → List (List Int × α)
  | [], k, v => [(k, v)]
  | p :: t, k, v => if p.1 = k then (k, v) :: t else p :: putA t k v

theorem getA_putA {α : Type} (d v : α) (k x : List Int) : ∀ l : List (List Int × α), getA d (putA l k v) x = if x = k then v else getA d l x
  | [] => by
    show (if k = x then v else d) = if x = k then v else d
    by_cases e : x = k
    · rw [if_pos e, if_pos e.symm]
    · rw [if_neg e, if_neg (Ne.symm e)]
  | p :: l => by
    have ih := getA_putA d v k x l
    by_cases e1 : p.1 = k
    · rw [show putA (p :: l) k v = (k, v) :: l by simp [putA, e1]]
      show (if k = x then v else getA d l x) = if x = k then v else (if p.1 = x then p.2 else getA d l x)
      by_cases e : x = k
      · rw [if_pos e, if_pos e.symm]
      · rw [if_neg e, if_neg (Ne.symm e), if_neg (fun q => e (q.symm.trans e1))]
    · rw [show putA (p :: l) k v = p :: putA l k v by simp [putA, e1]]
      show (if p.1 = x then p.2 else getA d (putA l k v) x) = if x = k then v else (if p.1 = x then p.2 else getA d l x)
      rw [ih]
      by_cases e2 : p.1 = x
      · rw [if_pos e2, if_pos e2, if_neg (fun q => e1 (e2.trans q))]
      · rw [if_neg e2, if_neg e2]

def lensA {α : Type} (n : Nat) (l : List (List Int × α)) : Bool := l.all fun p => Nat.beq p.1.length n

theorem lensA_put {α : Type} {n : Nat} {k : List Int} {v : α} (hk : Nat.beq k.length n = true) : ∀ {l : List (List Int × α)}, lensA n l = true → lensA n (putA l k v) = true
  | [], _ => by simp only [lensA, putA, List.all_cons, List.all_nil, hk, Bool.and_self]
  | p :: l, h => by
    simp only [lensA, List.all_cons, Bool.and_eq_true] at h
    have ih := lensA_put (v := v) hk (l := l) h.2
    unfold putA
    by_cases e : p.1 = k
    · rw [if_pos e]
      simp only [lensA, List.all_cons, Bool.and_eq_true]
      exact ⟨hk, h.2⟩
    · rw [if_neg e]
      simp only [lensA, List.all_cons, Bool.and_eq_true]
      exact ⟨h.1, ih⟩

theorem lens_imA {α : Type} (g : α → Value) (n : Nat) (l : List (List Int × α)) : lens n (imA g l) = lensA n l := by
  unfold lens imA lensA
  rw [List.all_map]
  rfl

theorem mfind_imA {α : Type} (g : α → Value) (d : α) (k : List Int) : ∀ l : List (List Int × α), (mfind (imA g l) k).getD (g d) = g (getA d l k)
  | [] => rfl
  | p :: l => by
    have ih := mfind_imA g d k l
    show (if p.1 = k then some (g p.2) else mfind (imA g l) k).getD (g d) = g (if p.1 = k then p.2 else getA d l k)
    by_cases e : p.1 = k
    · rw [if_pos e, if_pos e]; rfl
    · rw [if_neg e, if_neg e, ih]

theorem mput_imA {α : Type} (g : α → Value) (k : List Int) (v : α) : ∀ l : List (List Int × α), mput (imA g l) k (g v) = imA g (putA l k v)
  | [] => rfl
  | p :: l => by
    have ih := mput_imA g k v l
    show (if p.1 = k then (k, g v) :: imA g l else (p.1, g p.2) :: mput (imA g l) k (g v)) = imA g (if p.1 = k then (k, v) :: l else p :: putA l k v)
    by_cases e : p.1 = k
    · rw [if_pos e, if_pos e]; rfl
    · rw [if_neg e, if_neg e, ih]; rfl

theorem intsA_row : ∀ L : List Int, intsL (rowC (encI .i64) L) = some L
  | [] => rfl
  | x :: L => by
    have ih := intsA_row L
    show intsL (Value.int .i64 x :: rowC (encI .i64) L) = some (x :: L)
    simp only [intsL, ih]

theorem keyL_row {L : List Int} (h : Nat.beq L.length 1 = false) : keyL (.agg (rowC (encI .i64) L).toArray) = some L := by
  simp only [keyL, intsA_row, h]

theorem v_mgetA {α : Type} (g : α → Value) {J : Ins} {d : Option (List Bool)} {n : Nat} {x i : Src} {z : Value} {t : Tr} {h : Heap} (hI : J = .rd d (rLookup n x i z false)) {b : Nat} {k : List Int} (hx : ev t x = .map (some b)) (hi : ev t i = .agg (rowC (encI .i64) k).toArray) (hn : Nat.beq n 1 = false) {l : List (List Int × α)}
    (hg : hget h b = some (.imap (imA g l))) (hl : (Nat.beq k.length n && lensA n l) = true) {d0 : α} (hz : z = g d0) (hs : scal z = true) {v : Value} (hv : g (getA d0 l k) = v) : insV J t h = some v := by
  subst hI
  obtain ⟨l1, l2⟩ := Bool.and_eq_true_iff.1 hl
  have e0 : k.length = n := Nat.eq_of_beq_eq_true l1
  have e1 : Nat.beq k.length 1 = false := by rw [e0]; exact hn
  simp only [insV, rLookup, hx, hg, hi, hs, keyL_row e1, l1, lens_imA, l2, Bool.and_self]
  rw [hz, mfind_imA, hv]

theorem e_mputA {α : Type} (g : α → Value) {J : Ins} {d : Option (List Bool)} {n : Nat} {m i x : Src} {t : Tr} {h h' : Heap} {c : Nat} (hI : J = .ef d (eMapUpdate n m i x)) {b : Nat} {k : List Int} (hx : ev t m = .map (some b)) (hi : ev t i = .agg (rowC (encI .i64) k).toArray) (hn : Nat.beq n 1 = false) {l : List (List Int × α)}
    (hg : hget h b = some (.imap (imA g l))) (hl : (Nat.beq k.length n && lensA n l) = true) {a : α} (hv : ev t x = g a) (hs : scal (g a) = true) (hh : hset h b (.imap (imA g (putA l k a))) = h') : insE J t h c = some (undef, h', c) := by
  subst hI
  obtain ⟨l1, l2⟩ := Bool.and_eq_true_iff.1 hl
  have e0 : k.length = n := Nat.eq_of_beq_eq_true l1
  have e1 : Nat.beq k.length 1 = false := by rw [e0]; exact hn
  simp only [insE, eMapUpdate, hx, hg, hi, hv, hs, keyL_row e1, l1, lens_imA, l2, Bool.and_self]
  rw [mput_imA, hh]

/-- A whole array, whose cells are a row. -/
theorem v_loadA {J : Ins} {d : Option (List Bool)} {n : Nat} {x : Src} {t : Tr} {h : Heap} (hI : J = .rd d (rLoadN n x)) {b : Nat} (hx : ev t x = .pointer (some ⟨b, 0, none⟩)) {L : List Int} {fz : Nat} {e : TypeId} {es : Nat}
    (hg : hget h b = some (.cells (rowC (encI .i64) L) fz e es)) (hn : decide (L.length = n) = true) : insV J t h = some (.agg (rowC (encI .i64) L).toArray) := by
  subst hI
  have hn := of_decide_eq_true hn
  have l2 : (rowC (encI .i64) L).length = L.length := by rw [rowC_length (encI_ok .i64)]; simp
  have hb : Nat.ble (0 + n) (rowC (encI .i64) L).length = true := by rw [Nat.ble_eq]; omega
  simp only [insV, rLoadN, hx, hg, hb, List.drop_zero]
  rw [List.take_of_length_le (by omega)]

theorem hset_own : ∀ {h : Heap} {i : Nat} {o : XObj}, hget h i = some o → hset h i o = h
  | [], _, _, hg => by rw [hget_nil] at hg; cases hg
  | p :: t, i, o, hg => by
    rw [hget_cons] at hg
    rw [hset_cons]
    by_cases e : p.1 = i
    · rw [if_pos e] at hg
      cases hg
      rw [if_pos e, ← e]
    · rw [if_neg e] at hg
      rw [if_neg e, hset_own hg]

theorem fetch_cut {h : Heap} {size : Nat} {v : Value} {n len : Nat} {l : List Value} (hf : fetch h size v = some (n, l)) (hn : n ≤ len) : fetch h size (cutV len v) = some (n, l) := by
  have e0 : cutV len v = v := by
    unfold cutV
    split
    · rename_i j o n0 cap
      have e : n0 = n := by
        cases n0 with
        | zero => cases hf; rfl
        | succ m =>
          unfold fetch at hf
          simp only at hf
          split at hf
          · split at hf
            · cases hf; rfl
            · cases hf
          · cases hf
      have q : Nat.ble n0 len = true := by rw [Nat.ble_eq, e]; exact hn
      rw [q]
    · rfl
  rw [e0]
  exact hf

/-- copy: a row's first elements become those of another one. -/
theorem e_copy {J : Ins} {d : Option (List Bool)} {s x : Src} {t : Tr} {h h' : Heap} {c : Nat} (hI : J = .ef d (eCopy 1 s x)) {b len cap : Nat} {L ys : List Int} {e : TypeId} {es : Nat} (hs : ev t s = .slice (some ⟨b, 0, none⟩) len cap)
    {V : Value} (hV : ev t x = V) (hx : fetch h 1 V = some (ys.length, rowC (encI .i64) ys)) (hg : hget h b = some (.cells (rowC (encI .i64) L) 0 e es)) (hb : (Nat.ble ys.length len && Nat.ble ys.length L.length) = true)
    (hh : hset h b (.cells (rowC (encI .i64) (ys ++ L.drop ys.length)) 0 e es) = h') : insE J t h c = some (.int .i64 ((ys.length : Nat) : Int), h', c) := by
  subst hI
  subst hV
  obtain ⟨b1, b2⟩ := Bool.and_eq_true_iff.1 hb
  have k2 := Nat.le_of_ble_eq_true b2
  have hx := fetch_cut hx (Nat.le_of_ble_eq_true b1)
  cases ys with
  | nil =>
    have e1 : hset h b (.cells (rowC (encI .i64) ([] ++ L.drop 0)) 0 e es) = h := hset_own hg
    rw [← hh]
    simp only [insE, eCopy, hs, hx]
    show some (Value.int .i64 0, h, c) = some (Value.int .i64 0, hset h b (.cells (rowC (encI .i64) ([] ++ L.drop 0)) 0 e es), c)
    rw [e1]
  | cons y ys =>
    have l1 : (rowC (encI .i64) (y :: ys)).length = ys.length + 1 := by rw [rowC_length (encI_ok .i64)]; simp
    have l2 : (rowC (encI .i64) L).length = L.length := by rw [rowC_length (encI_ok .i64)]; simp
    have q1 : (rowC (encI .i64) (y :: ys)).all one1 = true := rowC_one1 (encI_ok .i64) _
    have q2 : Nat.ble (ys.length + 1) len = true := b1
    have q3 : Nat.ble (0 + (rowC (encI .i64) (y :: ys)).length) (rowC (encI .i64) L).length = true := by
      rw [l1, l2, Nat.zero_add]; exact b2
    have q4 : Nat.ble 1 1 = true := rfl
    have q5 : Nat.ble 0 0 = true := rfl
    have hd : (rowC (encI .i64) L).drop (0 + (rowC (encI .i64) (y :: ys)).length) = rowC (encI .i64) (L.drop (y :: ys).length) := by
      have := rowC_drop (encI_ok .i64) L (y :: ys).length
      rw [Nat.mul_one] at this
      rw [l1, Nat.zero_add]
      exact this
    have hx' : fetch h 1 (cutV len (ev t x)) = some (ys.length + 1, rowC (encI .i64) (y :: ys)) := hx
    rw [← hh, rowC_append]
    simp only [insE, eCopy, hs, hx', hg, q1, q2, q3, q4, q5, Bool.and_self, hd, List.take_zero, List.nil_append]
    rfl

#print axioms e_copy
#print axioms e_mputA
end Go.Xm
