/- Books: what calls hand back; readers; rows of bytes that a string is appended to. Conditions: none. -/
import Derived.Test.YtglkjlafglpalaaGreatDoorEk
namespace Go.Xm
open Go.RowKit
set_option linter.unusedVariables false
def bytesI (s : ByteArray) : List Int := s.data.toList.map fun b => Int.ofNat b.toNat
theorem bytesI_len (s : ByteArray) : (bytesI s).length = s.size := by
 unfold bytesI
 rw [List.length_map, Array.length_toList]
 rfl
theorem bytesI_row (s : ByteArray) : (s.data.toList.map fun b => Value.int .u8 (.ofNat b.toNat)) = rowC (encI .u8) (bytesI s) := by
 unfold bytesI
 induction s.data.toList with
 | nil => rfl
 | cons x l ih => rw [List.map_cons, List.map_cons, rowC_cons, ih]; rfl
theorem e_appendStr {g : Ins} {d : Option (List Bool)} {bytes : Nat} {e : TypeId} {x y : Src} {t : Tr} {h h' : Heap} {c : Nat} (hI : g = .ef d (eAppend false 1 bytes e x y)) {b len cap : Nat} (hx : ev t x = .slice (some ⟨b, 0, none⟩) len cap) {xs : List Int}
 (hg : hget h b = some (.cells (rowC (encI .u8) xs) 0 e 1)) {s : ByteArray} (hy : ev t y = .string s) (hlen : len = xs.length) (hcap : cap = xs.length) (h0 : decide (0 < s.size) = true) (hft : fitsB (len + s.size) bytes = true) {n' : Nat} (hn' : xs.length + s.size = n')
 (hh : (c, .cells (rowC (encI .u8) (xs ++ bytesI s)) 0 e 1) :: hdel h b = h') :
 insE g t h c = some (.slice (some ⟨c, 0, none⟩) n' n', h', c + 1) := by
 have h0 := of_decide_eq_true h0
 have hs : s.size - 1 + 1 = s.size := by omega
 refine e_append (encI_ok .u8) hI hx hg (m := s.size - 1) (ys := bytesI s) ?_ rfl hlen hcap (by rw [hs]; exact hft) (by rw [hs, hlen]; exact hn') hh
 rw [hy, hs]
 show some (s.size, s.data.toList.map fun b => Value.int .u8 (.ofNat b.toNat)) = _
 rw [bytesI_row]
theorem fz_le (n : Nat) : Nat.ble (Nat.max 0 (0 + n)) n = true := by
 rw [Nat.ble_eq, Nat.zero_add]
 exact Nat.max_le.2 ⟨Nat.zero_le _, Nat.le_refl _⟩
theorem e_ustrF {g : Ins} {d : Option (List Bool)} {e : TypeId} {x y : Src} {t : Tr} {h h' : Heap} {c : Nat} (hI : g = .ef d (eUStr e x y)) {b n fz : Nat} (hx : ev t x = .pointer (some ⟨b, 0, none⟩)) (hy : ev t y = .int .i64 (Int.ofNat n)) {xs : List Int} {es : Nat}
 (hg : hget h b = some (.cells (rowC (encI .u8) xs) fz e es)) (hn : n = xs.length) (hz : Nat.ble fz xs.length = true) (h0 : decide (0 < n) = true) (h1 : decide (n ≤ 1000000000) = true) (hb : bytesB xs = true) (hh : hset h b (.cells (rowC (encI .u8) xs) (Nat.max fz (0 + n)) e es) = h') :
 insE g t h c = some (.string (strI xs), h', c) := by
 subst hI
 subst hn
 have h0 := of_decide_eq_true h0
 have h1 := of_decide_eq_true h1
 obtain ⟨m, hm⟩ : ∃ m, xs.length = m + 1 := ⟨xs.length - 1, by omega⟩
 have hl := rowC_length (encI_ok .u8) xs
 have q1 : Nat.ble (0 + (m + 1)) (rowC (encI .u8) xs).length = true := by rw [Nat.ble_eq]; omega
 have q2 : Nat.ble m 1000000000 = true := by rw [Nat.ble_eq]; omega
 have q3 : (List.drop 0 (rowC (encI .u8) xs)).take (m + 1) = rowC (encI .u8) xs := by
  rw [List.drop_zero]; exact List.take_of_length_le (by omega)
 have q4 : Nat.beq e e = true := Nat.beq_refl e
 have q5 : Nat.ble fz (rowC (encI .u8) xs).length = true := by rw [hl, Nat.mul_one]; exact hz
 rw [hm] at hy hh
 simp only [insE, eUStr, eUnsafeString, hx, hy, hg, q1, q2, q3, q4, q5, bytesOf_row xs hb, Bool.and_self, hh]
 rfl
def RowAt {α : Type} (f : α → List Value) (el : TypeId) (s : Nat) (xs : List α) (v : Value) (h : Heap) : Prop :=
 (v = .slice none 0 0 ∧ xs = []) ∨ ∃ j, 4 < j ∧ v = .slice (some ⟨j, 0, none⟩) xs.length xs.length ∧ hget h j = some (.cells (rowC f xs) 0 el s)
def NewH (a : Int) (o : Int × Bool) (v : Value) (h : Heap) : Prop :=
 match o.2 with
 | false => v = .tuple #[.pointer none, ii o.1]
 | true => ∃ i j1 j2 j3 j4, v = .tuple #[pp i 0, ii o.1] ∧ [i, j1, j2, j3, j4].Nodup ∧ hget h i = some (cellsB a 0 0 0 0 0 0 0 (.map (some j1)) (.map (some j2)) (s0 j3 0) (s0 j4 0)) ∧ hget h j1 = some (.imap (imS blV [])) ∧ hget h j2 = some (.imap (imC Value.bool [])) ∧
  hget h j3 = some (rc encSt [] 0 50 10) ∧ hget h j4 = some (rc encS [] 0 9 1)
def GetH (o : Int × Option BkS) (v : Value) (h : Heap) : Prop :=
 match o.2 with
 | none => v = .tuple #[.pointer none, ii o.1]
 | some s => ∃ i, v = .tuple #[pp i 0, ii o.1] ∧ hget h i = some (.ext (bookX s))
theorem g_ok {n : Int} (ρ : Rho) (u u' : Value) (h : VRel ρ u u') : VRel ρ (.tuple #[u, ii n]) (.tuple #[u', ii n]) := VRel.two h (.int _ _)
def CRX {α : Type} (E : Env) (K : Nat) (p : Ext) (args : List Value) (f : α → List Value) (el : TypeId) (s : Nat) (xs : List α) : Prop :=
 ∀ (w : World) (b : Nat) (F : List Nat), E.inv w → p.P w b F → b ∉ F → (∀ x, x = b ∨ x ∈ F → E.G ≤ x) → E.G ≤ w.heap.size →
  (callFunc K (.pointer (some ⟨b, 0, none⟩) :: args).toArray).run E.P w = .ok (.enter K (.pointer (some ⟨b, 0, none⟩) :: args).toArray) w ∧
  Calls E.P K (.pointer (some ⟨b, 0, none⟩) :: args).toArray w (fun e w' => ∃ v' L, e = .returned v' ∧ Bel ⟨w.heap.size, b :: F⟩ w w' ∧ p.P w' b F ∧ (¬ L.gho → w.heap.size ≤ L.b) ∧ VRel [L] (.slice (some ⟨0, 0, none⟩) xs.length xs.length) v' ∧ OOk [L] w' L (.cells (rowC f xs) 0 el s))
def World.cutTo (w : World) (n : Nat) : World := { w with heap := w.heap.extract 0 n }
theorem cutTo_get {w : World} {n k : Nat} (h : k < n) : (World.cutTo w n).heap[k]? = w.heap[k]? := by
 show (w.heap.extract 0 n)[k]? = _
 rw [Array.getElem?_extract]
 by_cases hk : k < w.heap.size
 ·rw [if_pos (by omega), Nat.zero_add]
 ·rw [if_neg (by omega), Array.getElem?_eq_none (Nat.le_of_not_lt hk)]
theorem cutTo_size {w : World} {n : Nat} (h : n ≤ w.heap.size) : (World.cutTo w n).heap.size = n := by
 show (w.heap.extract 0 n).size = _
 rw [Array.size_extract]
 omega
theorem HRel.newG {B : Bd} {ρ : Rho} {h : Heap} {w w' : World} (H : HRel B ρ h w) (hB : B.n ≤ w.heap.size) {cs : List Value} {e : TypeId} {s : Nat} {L : Loc} (hb : ¬ L.gho → w.heap.size ≤ L.b) (e1 : ∀ k, k < w.heap.size → w'.heap[k]? = w.heap[k]?) (ho : OOk (ρ ++ [L]) w' L (.cells cs 0 e s)) :
 HRel B (ρ ++ [L]) ((ρ.length, .cells cs 0 e s) :: h) w' := by
 by_cases g : L.gho
 ·obtain ⟨q0, q | ⟨C, fr, q1, q2, q3, _⟩⟩ := ho
  ·rw [q.2]
   exact (H.keep (Rho.le_refl ρ) e1).putG g q0
  ·have hz := g.2
   have : cs = [] := List.eq_nil_of_length_eq_zero (by omega)
   rw [this]
   exact (H.keep (Rho.le_refl ρ) e1).putG g q0
 ·exact H.new hB (hb g) e1 ho
theorem KC.ofRX {α : Type} {E : Env} {K : Nat} {p : Ext} {args : List Value} {f : α → List Value} {el : TypeId} {s : Nat} {xs : List α} (hf : Enc f s) (hp : args.all plain = true) (hx : CRX E K p args f el s xs) {i : Nat} {h : Heap} {c : Nat} (hi : hget h i = some (.ext p)) :
 KC E K (.pointer (some ⟨i, 0, none⟩) :: args) h c (fun v h' c' => v = .slice (some ⟨c, 0, none⟩) xs.length xs.length ∧ h' = (c, .cells (rowC f xs) 0 el s) :: h ∧ c' = c + 1) := by
 intro B ρ w args' h1 hH h3 h4 h5 h6
 obtain ⟨L, hL, _⟩ := hH.ok i _ hi
 obtain ⟨F, f1, f2, f3, f4, f5, f6, f7⟩ := hH.extAt hi hL
 rw [ptr_args hp h1 hL f3]
 have hlt := p.lt _ _ _ f1
 obtain ⟨q1, q2⟩ := hx w L.b F h6 f1 f2 (fun x hx => by
  rcases hx with e | e
  ·rw [e]; exact Bd.may_ge h5 f5
  ·exact Bd.may_ge h5 (f6 x e)) (Nat.le_trans h5.1 h4)
 refine ⟨q1, q2.mono ?_⟩
 rintro e w' ⟨v', M, rfl, hb, g1, g2, g3, g4⟩
 subst h3
 have hc : ∀ k, k < w.heap.size → (World.cutTo w' w.heap.size).heap[k]? = w'.heap[k]? := fun k hk => cutTo_get hk
 have hs : (World.cutTo w' w.heap.size).heap.size = w.heap.size := cutTo_size hb.size
 have H1 : HRel B ρ (hset h i (.ext p)) (World.cutTo w' w.heap.size) := f7 _ p F (p.frame w' _ _ _ g1 (fun x hx => hc x (hlt x hx))) f2 (fun x hx => .inl hx) (fun k k1 k2 k3 => (hc k k1).trans (bel_at hb k1 k2 k3))
 have H2 : HRel B ρ h (World.cutTo w' w.heap.size) := H1.sub fun j o hj => by
  rw [hget_hset hi]
  by_cases ej : j = i
  ·subst ej; rw [if_pos rfl, ← hi, hj]
  ·rw [if_neg ej]; exact hj
 refine ⟨_, v', ρ ++ [M], _, _, rfl, g3.rowAt ρ, Rho.le_push ρ M, by simp, H2.newG (by rw [hs]; exact h4) (by rw [hs]; exact g2) (fun k hk => (cutTo_get (by rw [hs] at hk; exact hk)).symm) (g4.flt_any (rowC_scal hf xs)), bel_ext hb h4 f5 f6, rfl, rfl, rfl⟩
def liveBk (Ls : List Loc) : List Nat := (Ls.filter fun L => !(decide (L.es ≠ 0) && decide (L.sz = 0))).map (·.b)
theorem mem_liveBk {Ls : List Loc} {x : Nat} : x ∈ liveBk Ls ↔ ∃ L, L ∈ Ls ∧ ¬ L.gho ∧ L.b = x := by
 unfold liveBk Loc.gho
 rw [List.mem_map]
 constructor
 ·rintro ⟨L, h1, h2⟩
  rw [List.mem_filter] at h1
  refine ⟨L, h1.1, ?_, h2⟩
  have := h1.2
  simp only [Bool.not_eq_true', Bool.and_eq_false_iff, decide_eq_false_iff_not] at this
  rintro ⟨a, b⟩
  rcases this with q | q
  ·exact q a
  ·exact q b
 ·rintro ⟨L, h1, h2, h3⟩
  refine ⟨L, List.mem_filter.2 ⟨h1, ?_⟩, h3⟩
  simp only [Bool.not_eq_true', Bool.and_eq_false_iff, decide_eq_false_iff_not]
  by_cases a : L.es ≠ 0
  ·exact .inr fun b => h2 ⟨a, b⟩
  ·exact .inl a
theorem book_open {s : BkS} {w : World} {b : Nat} {F : List Nat} (hP : bookP s w b F) : ∃ (l : List Bst) (L1 L2 L3 L4 : Loc) (M : List Nat),
 BookW (bkT s l) w ⟨b, 0, 12, 0⟩ L1 L2 L3 L4 ∧ (∀ L, L ∈ [L1, L2, L3, L4] → ¬ L.gho → L.b ∈ F) ∧ FitN s.before l ∧ Hid w s.before l ∧ (toks l).Nodup ∧
 (∀ t, t ∈ toks l → t ∈ F ∧ t ≠ b ∧ ∀ L, L ∈ [L1, L2, L3, L4] → ¬ L.gho → L.b ≠ t) ∧ (∀ x, x ∈ F → x < w.heap.size) ∧
 (∀ x, x ∈ M → x = b ∨ ∃ L, L ∈ [L1, L2, L3, L4] ∧ ¬ L.gho ∧ L.b = x) ∧ (∀ x, x ∈ M → x = b ∨ x ∈ F) ∧ HRel ⟨w.heap.size, M⟩ [⟨b, 0, 12, 0⟩, L1, L2, L3, L4] (bookH (bkT s l)) w := by
 obtain ⟨l, L1, L2, L3, L4, h1, h2, h3, h4, h5, h6, h7⟩ := hP
 refine ⟨l, L1, L2, L3, L4, b :: liveBk [L1, L2, L3, L4], h1, h2, h3, h4, h5, h6, h7, fun x hx => ?_, fun x hx => ?_, h1.rel.reB (noX_book _) (fun i o L hi hL _ g => .inr ?_)⟩
 ·rcases List.mem_cons.1 hx with e | hx
  ·exact .inl e
  ·exact .inr (mem_liveBk.1 hx)
 ·rcases List.mem_cons.1 hx with e | hx
  ·exact .inl e
  ·obtain ⟨L, l1, l2, rfl⟩ := mem_liveBk.1 hx
   exact .inr (h2 L l1 l2)
 ·have hm : L ∈ ([⟨b, 0, 12, 0⟩, L1, L2, L3, L4] : Rho) := List.mem_of_getElem? hL
  rcases List.mem_cons.1 hm with rfl | hm
  ·exact List.mem_cons_self ..
  ·exact List.mem_cons_of_mem _ (mem_liveBk.2 ⟨L, hm, g, rfl⟩)
theorem bel_more {w w' : World} {M : List Nat} {b : Nat} {F : List Nat} (h : Bel ⟨w.heap.size, M⟩ w w') (hM : ∀ x, x ∈ M → x = b ∨ x ∈ F) : Bel ⟨w.heap.size, b :: F⟩ w w' :=
 ⟨h.os, h.tape, h.output, h.size, fun k hk => h.block k fun q => hk (by
  rcases q with q | q
  ·exact .inl q
  ·exact .inr (by
    rcases hM k q with e | e
    ·rw [e]; exact List.mem_cons_self ..
    ·exact List.mem_cons_of_mem _ e))⟩
theorem book_args {b : Nat} {L1 L2 L3 L4 : Loc} {args : List Value} (hp : args.all plain = true) : Cells [⟨b, 0, 12, 0⟩, L1, L2, L3, L4] (pp 0 0 :: args) (.pointer (some ⟨b, 0, none⟩) :: args) := by
 refine ⟨rfl, fun i v v' e1 e2 => ?_⟩
 cases i with
 | zero =>
  cases e1; cases e2
  have := VRel.ptr (ρ := [⟨b, 0, 12, 0⟩, L1, L2, L3, L4]) 0 0 ⟨b, 0, 12, 0⟩ rfl
  simpa using this
 | succ i =>
  rw [List.getElem?_cons_succ] at e1 e2
  rw [e1] at e2; cases e2
  exact VRel.plain_refl _ (List.all_eq_true.1 hp v (List.mem_of_getElem? e1))
theorem CX.ofKC {K : Nat} {args : List Value} {v : Value} {s s' : BkS} {a : ByteArray} (hp : args.all plain = true) (hv : plain v = true)
 (hk : ∀ l, FitN s.before l → ∃ o, KC E0 K (pp 0 0 :: args) (bookH (bkT s l)) 5 (fun v' h' _ => v' = v ∧ OutH (bkT s l) a o h') ∧ nextS s a o = s' ∧
  ∀ x n3 c3 n4 c4, o = .back x n3 c3 n4 c4 → l.getLast? = some x ∧ n3 + 1 = l.length ∧ n3 ≤ c3 ∧ n4 + 1 = s.lines.length ∧ n4 ≤ c4) : CX E0 K (bookX s) args v (bookX s') := by
 intro w b F hI hP hbF hG hsz
 obtain ⟨l, L1, L2, L3, L4, M, h1, h2, h3, h4, h5, h6, h7, h8, h9, H⟩ := book_open hP
 obtain ⟨o, k1, k2, k3⟩ := hk l h3
 have hbG : ∀ x, x ∈ M → E0.G ≤ x := fun x hx => hG x (h9 x hx)
 obtain ⟨q1, q2⟩ := k1 ⟨w.heap.size, M⟩ _ w _ (book_args hp) H rfl (Nat.le_refl _) ⟨hsz, hbG⟩ hI
 refine ⟨q1, q2.mono ?_⟩
 rintro e w' ⟨u, u', ρ', h', c', rfl, r1, r2, r3, r4, r5, rfl, r6⟩
 obtain ⟨F', g1, g2, g3⟩ := out_next h1 h2 h3 h4 h5 h6 h7 hbF h8 r4 r2 r5 r6 k3
 rw [k2] at g1
 exact ⟨by rw [r1.plain_eq hv], bel_more r5 h9, F', g1, g2, g3⟩
theorem same_next {s : BkS} {l : List Bst} {L1 L2 L3 L4 : Loc} {w w' : World} {b : Nat} {F M : List Nat} {a : ByteArray} {ρ' : Rho} {h' : Heap}
 (hW : BookW (bkT s l) w ⟨b, 0, 12, 0⟩ L1 L2 L3 L4) (hF : ∀ L, L ∈ [L1, L2, L3, L4] → ¬ L.gho → L.b ∈ F) (hfit : FitN s.before l) (hh : Hid w s.before l) (hnd : (toks l).Nodup)
 (ht : ∀ t, t ∈ toks l → t ∈ F ∧ t ≠ b ∧ ∀ L, L ∈ [L1, L2, L3, L4] → ¬ L.gho → L.b ≠ t) (hlt : ∀ x, x ∈ F → x < w.heap.size)
 (hM : ∀ x, x ∈ M → x = b ∨ ∃ L, L ∈ [L1, L2, L3, L4] ∧ ¬ L.gho ∧ L.b = x)
 (H : HRel ⟨w.heap.size, M⟩ ρ' h' w') (hle : Rho.le [⟨b, 0, 12, 0⟩, L1, L2, L3, L4] ρ') (hbel : Bel ⟨w.heap.size, M⟩ w w') (hO : OutH (bkT s l) a .same h') : bookP s w' b F := by
 obtain ⟨e0, e1, e2, e3, e4⟩ := hO
 have h0 := hle 0 _ rfl
 have k1 := hle 1 _ rfl
 have k2 := hle 2 _ rfl
 have k3 := hle 3 _ rfl
 have k4 := hle 4 _ rfl
 have o0 := (H.at e0 h0).2
 have o1 := (H.at e1 k1).2
 have o2 := (H.at e2 k2).2
 have o3 := (H.at e3 k3).2
 have o4 := (H.at e4 k4).2
 have es3 : L3.es = 10 := o3.1
 have es4 : L4.es = 1 := o4.1
 have htok : ∀ t, t ∈ toks l → w'.heap[t]? = w.heap[t]? := fun t q => hbel.block t (fun m => by
  rcases m with m | m
  ·exact absurd (hh.lt t q) (Nat.not_lt.2 m)
  ·rcases hM t m with e | ⟨L, e1, e2, e3⟩
   ·exact (ht t q).2.1 e
   ·exact (ht t q).2.2 L e1 e2 e3)
 exact ⟨l, L1, L2, L3, L4, ⟨cellsB_conv o0 (conv_map k1 rfl) (conv_map k2 rfl) (conv_sl k3 rfl (by rw [es3]; decide) (Nat.le_refl _)) (conv_sl k4 rfl (by rw [es4]; decide) (Nat.le_refl _)), o1, o2, o3.flt_any (encSt_flt _), o4.flt_any (encS_flt _), hW.d01, hW.d02, hW.d12, hW.d3, hW.d4⟩,
  hF, hfit, hh.world htok, hnd, ht, fun x hx => Nat.lt_of_lt_of_le (hlt x hx) hbel.size⟩
theorem CRX.ofKC {α : Type} {f : α → List Value} {K : Nat} {args : List Value} {s : BkS} {a : ByteArray} {el : TypeId} {sz : Nat} {xs : List α} (hf : Enc f sz) (hsz0 : sz ≠ 0) (hp : args.all plain = true)
 (hk : ∀ l, FitN s.before l → KC E0 K (pp 0 0 :: args) (bookH (bkT s l)) 5 (fun v' h' _ => RowAt f el sz xs v' h' ∧ OutH (bkT s l) a .same h')) : CRX E0 K (bookX s) args f el sz xs := by
 intro w b F hI hP hbF hG hsz
 obtain ⟨l, L1, L2, L3, L4, M, h1, h2, h3, h4, h5, h6, h7, h8, h9, H⟩ := book_open hP
 have hbG : ∀ x, x ∈ M → E0.G ≤ x := fun x hx => hG x (h9 x hx)
 obtain ⟨q1, q2⟩ := hk l h3 ⟨w.heap.size, M⟩ _ w _ (book_args hp) H rfl (Nat.le_refl _) ⟨hsz, hbG⟩ hI
 refine ⟨q1, q2.mono ?_⟩
 rintro e w' ⟨u, u', ρ', h', c', rfl, r1, r2, r3, r4, r5, r6, r7⟩
 have hP' := same_next h1 h2 h3 h4 h5 h6 h7 h8 r4 r2 r5 r7
 rcases r6 with ⟨rfl, rfl⟩ | ⟨j, j4, rfl, hj⟩
 ·cases r1
  exact ⟨.slice none 0 0, ⟨0, 0, 0, sz⟩, rfl, bel_more r5 h9, hP', fun g => absurd ⟨hsz0, rfl⟩ g, .sliceN 0 0 _ rfl ⟨hsz0, rfl⟩, rfl, .inl ⟨⟨hsz0, rfl⟩, rfl⟩⟩
 ·obtain ⟨L, hL, m, ho⟩ := r4.ok j _ hj
  have hes : L.es = sz := ho.1
  refine ⟨u', L, rfl, bel_more r5 h9, hP', fun g => ?_, conv_sl hL rfl (by rw [hes]; exact hsz0) (Nat.le_refl _) _ r1, ho.flt_any (rowC_scal hf xs)⟩
  rcases m frz_rc g with q | q
  ·exact q
  ·exfalso
   obtain ⟨e0, e1, e2, e3, e4⟩ := r7
   have dif : ∀ i o K, hget h' i = some o → ρ'[i]? = some K → ¬ K.gho → own ρ' K o → i ≤ 4 → K.b ≠ L.b := fun i o K hi hK gK ow h4 e => by
    have := r4.inj j i _ o L K hj hi hL hK g gK trivial ow (.inl frz_rc) e.symm
    omega
   have n0 : ¬ (⟨b, 0, 12, 0⟩ : Loc).gho := fun q => q.1 rfl
   rcases h8 _ q with e | ⟨N, n1, n2, n3⟩
   ·exact dif 0 _ _ e0 (r2 0 _ rfl) n0 trivial (by decide) e.symm
   ·simp only [List.mem_cons, List.not_mem_nil, or_false] at n1
    rcases n1 with rfl | rfl | rfl | rfl
    ·exact dif 1 _ _ e1 (r2 1 _ rfl) n2 trivial (by decide) n3
    ·exact dif 2 _ _ e2 (r2 2 _ rfl) n2 trivial (by decide) n3
    ·exact dif 3 _ _ e3 (r2 3 _ rfl) n2 trivial (by decide) n3
    ·exact dif 4 _ _ e4 (r2 4 _ rfl) n2 trivial (by decide) n3
theorem KC.ofV {E : Env} {K : Nat} {p : Ext} {args : List Value} {v : Value} (hp : args.all plain = true) (hv : plain v = true) (hx : CX E K p args v p) {i : Nat} {h : Heap} {c : Nat} (hi : hget h i = some (.ext p)) :
 KC E K (.pointer (some ⟨i, 0, none⟩) :: args) h c (fun v' h' c' => v' = v ∧ h' = h ∧ c' = c) := KC.ofX hp hv hx hi (hset_same hi)
end Go.Xm
