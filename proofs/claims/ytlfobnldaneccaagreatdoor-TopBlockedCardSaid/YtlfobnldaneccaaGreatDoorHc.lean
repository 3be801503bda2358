/- slices.Clone, by contract: a new row with the same elements, whether the slice is nil or not. Conditions: none. -/
import Derived.Test.YtlfobnldaneccaaGreatDoorTe
import Derived.Test.YtlfobnldaneccaaGreatDoorMr
import Derived.Test.YtlfobnldaneccaaGreatDoorZk
import Derived.Test.YtlfobnldaneccaaGreatDoorHb
namespace Go.Xm
open Go.RowKit
set_option linter.unusedVariables false
set_option linter.unusedSimpArgs false
set_option maxRecDepth 20000
theorem HRel.free {B : Bd} {ρ : Rho} {h : Heap} {w : World} (H : HRel B ρ h w) {c : Nat} (hc : ρ.length = c) : hget h c = none := by
  cases hg : hget h c with
  | none => rfl
  | some o =>
    obtain ⟨L, l1, _⟩ := H.ok c o hg
    have := (List.getElem?_eq_some_iff.1 l1).1
    omega
theorem HRel.ghostRow {B : Bd} {ρ : Rho} {h : Heap} {w : World} (H : HRel B ρ h w) (hB : B.n ≤ w.heap.size) (e : TypeId) {s : Nat} (hs : s ≠ 0) : HRel B (ρ ++ [⟨w.heap.size, 0, 0, s⟩]) ((ρ.length, .cells [] 0 e s) :: h) w :=
  H.new hB (Nat.le_refl _) (fun _ _ => rfl) ⟨rfl, .inl ⟨⟨hs, rfl⟩, rfl⟩⟩
theorem e_append0 {s : Nat} {g : Ins} {d : Option (List Bool)} {bytes : Nat} {e : TypeId} {x y : Src} {t : Tr} {h : Heap} {c : Nat} (hI : g = .ef d (eAppend false s bytes e x y)) {b : Nat} (hx : ev t x = .slice (some ⟨b, 0, none⟩) 0 0) {cs : List Value}
    (hg : hget h b = some (.cells cs 0 e s)) {l : List Value} (hy : fetch h s (ev t y) = some (0, l)) (hl : (Nat.ble 1 s && l.all one1) = true) : insE g t h c = some (.slice (some ⟨b, 0, none⟩) 0 0, h, c) := by
  subst hI
  simp only [Bool.and_eq_true] at hl
  have b1 : Nat.ble (0 + 0 * s) cs.length = true := by rw [Nat.ble_eq]; omega
  have b2 : Nat.ble ((0 + 0) * bytes) 1000000000 = true := by rw [Nat.ble_eq]; omega
  have b3 : Nat.beq e e = true := Nat.beq_refl e
  have b5 : Nat.ble 0 (0 * s) = true := by rw [Nat.ble_eq]; omega
  have b6 : Nat.ble 0 0 = true := rfl
  have b7 : Nat.ble (0 + 0) 1000000000 = true := rfl
  cases s with
  | zero => exact absurd hl.1 (by decide)
  | succ s =>
    have b4 : Nat.beq (s + 1) (s + 1) = true := Nat.beq_refl _
    simp only [insE, eAppend, hx, hg, hy, b1, b2, b3, b4, b5, b6, b7, hl.1, hl.2, Bool.and_self]
theorem drop_free {c : Nat} {h : Heap} (hf : hget h c = none) (o o' : XObj) {d : Nat} : ∀ i u, hget ((d, o) :: h) i = some u → hget ((d, o) :: hdel ((c, o') :: h) c) i = some u := by
  intro i u hi
  rw [hget_cons] at hi ⊢
  split
  · rename_i e; rw [if_pos e] at hi; exact hi
  · rename_i e
    rw [if_neg e] at hi
    rw [hget_hdel]
    split
    · rename_i e2; subst e2; rw [hf] at hi; cases hi
    · rename_i e2; rw [hget_cons, if_neg (by omega)]; exact hi
noncomputable def cl26 : Code := Proofs.Tryz.f26.body.getD .skip
theorem clone26_nil (h : Heap) (c : Nat) : KC E0 26 [.slice none 0 0] h c (fun v h' c' => v = .slice none 0 0 ∧ h' = h ∧ c' = c) := by
  refine KC.bodyN E0_ok (F := Proofs.Tryz.f26) (by kernel_rfl) (code := cl26) (by kernel_rfl) (nt := 8) (by kernel_rfl) (rs := [.tmp 2]) (by kernel_rfl) (by kernel_rfl) (σ := [(0, .slice none 0 0)]) (by kernel_rfl) ?_
  refine XQ.seq E0_ok (by kernel_rfl) ?_
  refine XQ.region (by kernel_rfl) ?_
  refine XR.run E0_ok 1 1 [0] rfl (σ' := [(0, .slice none 0 0)]) (h' := h) (c' := c) (by kernel_rfl) ?_
  refine XR.done (by kernel_rfl) ?_
  show XQ _ _ _ _ _ _ _ _
  refine XQ.seq E0_ok (by kernel_rfl) ?_
  refine XQ.seq E0_ok (by kernel_rfl) ?_
  refine XQ.region (by kernel_rfl) ?_
  refine XR.run E0_ok 1 2 [0, 4] rfl (σ' := [(0, .slice none 0 0), (4, .bool true)]) (h' := h) (c' := c) (by kernel_rfl) ?_
  refine XR.done (by kernel_rfl) ?_
  show XQ _ _ _ _ _ _ _ _
  refine XQ.cond (s := (.tmp 4)) (b := true) (by kernel_rfl) (by kernel_rfl) (fun _ => ?_) (fun q => by cases q)
  refine XQ.seq E0_ok (by kernel_rfl) ?_
  refine XQ.region (by kernel_rfl) ?_
  refine XR.run E0_ok 1 1 [2] rfl (σ' := [(2, .slice none 0 0)]) (h' := h) (c' := c) (by kernel_rfl) ?_
  refine XR.done (by kernel_rfl) ?_
  show XQ _ _ _ _ _ _ _ _
  refine XQ.ret (by kernel_rfl) ?_
  exact ⟨fun i q => (by cases q), .slice none 0 0, (by kernel_rfl), rfl, rfl, rfl⟩
theorem clone26_some (V : Value) (hV : (∃ i o, V = .slice (some ⟨i, o, some 1⟩) 0 0) ∨ ∃ i o l cap, V = .slice (some ⟨i, o, none⟩) l (cap + 1)) (ys : List (Int)) (h : Heap) (c : Nat) (hf : ∀ o, fetch ((c, o) :: h) 1 V = some (ys.length, rowC (encI .i64) ys)) (hfit : fitsB ys.length 8 = true) :
    KC E0 26 [V] h c (fun v h' c' => (ys = [] ∧ v = .slice (some ⟨c, 0, none⟩) 0 0 ∧ h' = (c, .cells [] 0 3 1) :: h ∧ c' = c + 1) ∨ (v = .slice (some ⟨c + 1, 0, none⟩) ys.length ys.length ∧ h' = (c + 1, .cells (rowC (encI .i64) ys) 0 3 1) :: hdel ((c, .cells [] 0 3 1) :: h) c ∧ c' = c + 2)) := by
  refine KC.bodyN E0_ok (F := Proofs.Tryz.f26) (by kernel_rfl) (code := cl26) (by kernel_rfl) (nt := 8) (by kernel_rfl) (rs := [.tmp 2]) (by kernel_rfl) (by kernel_rfl) (σ := [(0, V)]) (by kernel_rfl) ?_
  refine XQ.seq E0_ok (by kernel_rfl) ?_
  refine XQ.region (by kernel_rfl) ?_
  refine XR.run E0_ok 1 1 [0] rfl (σ' := [(0, V)]) (h' := h) (c' := c) (by kernel_rfl) ?_
  refine XR.done (by kernel_rfl) ?_
  show XQ _ _ _ _ _ _ _ _
  refine XQ.seq E0_ok (by kernel_rfl) ?_
  refine XQ.seq E0_ok (by kernel_rfl) ?_
  refine XQ.region (by kernel_rfl) ?_
  refine XR.run E0_ok 1 1 [0, 3] rfl (σ' := [(0, V), (3, V)]) (h' := h) (c' := c) (by kernel_rfl) ?_
  refine XR.rd E0_ok [0, 4] rfl (v := .bool false) (σ' := [(0, V), (4, .bool false)]) ?_ (by kernel_rfl) ?_
  · show rSliceNil false (src 8 (.tmp 3)) (.k (.slice none 0 0)) (trS 8 [(0, V), (3, V)]) h = some (.bool false)
    have e3 : ev (trS 8 [(0, V), (3, V)]) (src 8 (.tmp 3)) = V := by kernel_rfl
    unfold rSliceNil
    rw [e3]
    rcases hV with ⟨i, o, rfl⟩ | ⟨i, o, l, cap, rfl⟩ <;> rfl
  refine XR.done (by kernel_rfl) ?_
  show XQ _ _ _ _ _ _ _ _
  refine XQ.cond (s := (.tmp 4)) (b := false) (by kernel_rfl) (by kernel_rfl) (fun q => by cases q) (fun _ => ?_)
  refine XQ.skip (by kernel_rfl) ?_
  show XQ _ _ _ _ _ _ _ _
  refine XQ.seq E0_ok (by kernel_rfl) ?_
  refine XQ.region (by kernel_rfl) ?_
  refine XR.run E0_ok 1 2 [5, 6] rfl (σ' := [(5, .slice (some ⟨c, 0, none⟩) 0 0), (6, V)]) (h' := (c, .cells [] 0 3 1) :: h) (c' := c + 1) (by kernel_rfl) ?_
  have h5 : ev (trS 8 [(5, .slice (some ⟨c, 0, none⟩) 0 0), (6, V)]) (src 8 (.tmp 5)) = .slice (some ⟨c, 0, none⟩) 0 0 := by kernel_rfl
  have h6 : ev (trS 8 [(5, .slice (some ⟨c, 0, none⟩) 0 0), (6, V)]) (src 8 (.tmp 6)) = V := by kernel_rfl
  have hgc : hget ((c, .cells [] 0 3 1) :: h) c = some (.cells (rowC (encI .i64) []) 0 3 1) := by rw [hget_cons, if_pos rfl]; rfl
  have hfc := hf (.cells [] 0 3 1)
  cases ys with
  | nil =>
    refine XR.ef E0_ok [7] rfl (v := .slice (some ⟨c, 0, none⟩) 0 0) (σ' := [(7, .slice (some ⟨c, 0, none⟩) 0 0)]) (h' := (c, .cells [] 0 3 1) :: h) (c' := c + 1) (e_append0 (s := 1) (bytes := 8) (e := 3) (x := src 8 (.tmp 5)) (y := src 8 (.tmp 6)) (d := some (path 12 7)) (by kernel_rfl) h5 (cs := []) hgc (by rw [h6]; exact hfc) rfl) (by kernel_rfl) ?_
    refine XR.run E0_ok 1 1 [2] rfl (σ' := [(2, .slice (some ⟨c, 0, none⟩) 0 0)]) (h' := (c, .cells [] 0 3 1) :: h) (c' := c + 1) (by kernel_rfl) ?_
    refine XR.done (by kernel_rfl) ?_
    show XQ _ _ _ _ _ _ _ _
    refine XQ.ret (by kernel_rfl) ?_
    exact ⟨fun i q => (by cases q), .slice (some ⟨c, 0, none⟩) 0 0, (by kernel_rfl), .inl ⟨rfl, rfl, rfl, rfl⟩⟩
  | cons y ys =>
    refine XR.ef E0_ok [7] rfl (e_append (encI_ok .i64) (bytes := 8) (e := 3) (x := src 8 (.tmp 5)) (y := src 8 (.tmp 6)) (b := c) (len := 0) (cap := 0) (xs := []) (m := ys.length) (ys := y :: ys) (d := some (path 12 7)) (n' := (y :: ys).length) (h' := (c + 1, .cells (rowC (encI .i64) (y :: ys)) 0 3 1) :: hdel ((c, .cells [] 0 3 1) :: h) c) (by kernel_rfl) h5 hgc (by rw [h6]; exact hfc) rfl rfl rfl (by rw [Nat.zero_add]; exact hfit) (by simp) rfl) (σ' := [(7, .slice (some ⟨c + 1, 0, none⟩) (y :: ys).length (y :: ys).length)]) (by kernel_rfl) ?_
    refine XR.run E0_ok 1 1 [2] rfl (σ' := [(2, .slice (some ⟨c + 1, 0, none⟩) (y :: ys).length (y :: ys).length)]) (h' := (c + 1, .cells (rowC (encI .i64) (y :: ys)) 0 3 1) :: hdel ((c, .cells [] 0 3 1) :: h) c) (c' := c + 2) (by kernel_rfl) ?_
    refine XR.done (by kernel_rfl) ?_
    show XQ _ _ _ _ _ _ _ _
    refine XQ.ret (by kernel_rfl) ?_
    exact ⟨fun i q => (by cases q), .slice (some ⟨c + 1, 0, none⟩) (y :: ys).length (y :: ys).length, (by kernel_rfl), .inr ⟨rfl, rfl, rfl⟩⟩
theorem clone26_ok {h : Heap} {c i o len cap : Nat} {xs : List (Int)} {fz : Nat} {e0 : TypeId} {es0 : Nat} (a : Nat) (hg : hget h i = some (.cells (rowC (encI .i64) xs) fz e0 es0)) (ho : o = a * 1) (hal : a + len ≤ xs.length) (hcap : len ≤ cap) (hfit : fitsB len 8 = true) :
    KC E0 26 [.slice (some ⟨i, o, none⟩) len cap] h c (fun v h' c' => v = .slice (some ⟨c + 1, 0, none⟩) len len ∧ h' = (c + 1, .cells (rowC (encI .i64) ((xs.drop a).take len)) 0 3 1) :: h ∧ c' = c + 2) := by
  intro B ρ w args' hargs hH hρ hB hG hI
  have hfree := hH.free hρ
  have hic : i ≠ c := by intro q; subst q; rw [hfree] at hg; cases hg
  obtain ⟨y, rfl⟩ : ∃ y, args' = [y] := by
    have := hargs.1
    match args', this with
    | [y], _ => exact ⟨y, rfl⟩
  have hrel : VRel ρ (.slice (some ⟨i, o, none⟩) len cap) y := hargs.2 0 _ y rfl rfl
  generalize hys : (xs.drop a).take len = ys
  have hylen : ys.length = len := by rw [← hys, List.length_take, List.length_drop]; omega
  -- what is behind a call of a slice that is not nil
  have main : ∀ V : Value, VRel ρ V y → ((∃ i o, V = .slice (some ⟨i, o, some 1⟩) 0 0) ∨ ∃ i o l cap, V = .slice (some ⟨i, o, none⟩) l (cap + 1)) → (∀ o, fetch ((c, o) :: h) 1 V = some (ys.length, rowC (encI .i64) ys)) →
      (callFunc 26 [y].toArray).run E0.P w = .ok (.enter 26 [y].toArray) w ∧ Calls E0.P 26 [y].toArray w (fun e w' => ∃ v v' ρ' h' c', e = .returned v' ∧ VRel ρ' v v' ∧ Rho.le ρ ρ' ∧ ρ'.length = c' ∧ HRel B ρ' h' w' ∧ Bel B w w' ∧ v = .slice (some ⟨c + 1, 0, none⟩) len len ∧ h' = (c + 1, .cells (rowC (encI .i64) ys) 0 3 1) :: h ∧ c' = c + 2) := by
    intro V hV h1 h2
    obtain ⟨q1, q2⟩ := clone26_some V h1 ys h c h2 (by rw [hylen]; exact hfit) B ρ w [y] ⟨rfl, fun j v v' e1 e2 => by
      cases j with
      | zero => cases e1; cases e2; exact hV
      | succ j => cases e1⟩ hH hρ hB hG hI
    refine ⟨q1, q2.mono ?_⟩
    rintro e w' ⟨v, v', ρ', h', c', e1, e2, e3, e4, e5, e6, ⟨y0, rfl, rfl, rfl⟩ | ⟨rfl, rfl, rfl⟩⟩
    · subst y0
      obtain rfl : len = 0 := hylen.symm
      cases e2 with
      | slice _ _ _ _ L o' cap' hL hz h0 hh1 =>
        have hgc : hget ((c, XObj.cells [] 0 3 1) :: h) c = some (.cells [] 0 3 1) := by rw [hget_cons, if_pos rfl]
        obtain ⟨l1, l2⟩ := e5.at hgc hL
        have hLs : L.es = 1 := l2.1
        obtain ⟨b1, b2, b3⟩ := hh1 (by rw [hLs]; decide)
        by_cases hn : L.gho
        · refine ⟨_, .slice (some ⟨L.b, o', none⟩) 0 cap', ρ' ++ [L], _, _, e1, .slice (c + 1) 0 0 0 L o' cap' (by rw [← e4]; simp) (.inr ⟨rfl, rfl⟩) h0 hh1, fun j M hj => Rho.le_push ρ' L j M (e3 j M hj), by simp [e4], ?_, e6, rfl, rfl, rfl⟩
          have HN : HRel B (ρ' ++ [L]) ((ρ'.length, .cells [] 0 3 1) :: h) w' := by
            refine ⟨fun j u hj => ?_, fun j k2 u u' M M' hj hk hM hM' g1 g2 o1 o2 hz hb => ?_⟩
            · rw [hget_cons] at hj
              by_cases ej : ρ'.length = j
              · rw [if_pos ej] at hj; cases hj; subst ej
                exact ⟨L, by simp, fun q => l1 q, hLs, .inl ⟨hn, rfl⟩⟩
              · rw [if_neg ej] at hj
                obtain ⟨M, m1, m2, m3⟩ := e5.ok j u (by rw [hget_cons]; split; · rename_i e0; subst e0; rw [hfree] at hj; cases hj
                                                        · exact hj)
                exact ⟨M, Rho.le_push ρ' L j M m1, m2, m3.mono (Rho.le_push ρ' L)⟩
            · have key : ∀ j u M, hget ((ρ'.length, XObj.cells [] 0 3 1) :: h) j = some u → (ρ' ++ [L])[j]? = some M → ¬ M.gho → own (ρ' ++ [L]) M u → hget ((c, XObj.cells [] 0 3 1) :: h) j = some u ∧ ρ'[j]? = some M ∧ own ρ' M u := by
                intro j u M hj hM hg0 ho0
                rw [hget_cons] at hj
                by_cases ej : ρ'.length = j
                · subst ej
                  have : (ρ' ++ [L])[ρ'.length]? = some L := by simp
                  rw [this] at hM; cases hM
                  exact absurd hn hg0
                · rw [if_neg ej] at hj
                  have hj2 : hget ((c, XObj.cells [] 0 3 1) :: h) j = some u := by
                    rw [hget_cons]; split
                    · rename_i e0; subst e0; rw [hfree] at hj; cases hj
                    · exact hj
                  obtain ⟨N, n1, _, n3⟩ := e5.ok j u hj2
                  have := Rho.le_push ρ' L j N n1
                  rw [hM] at this; cases this
                  exact ⟨hj2, n1, own_down (Rho.le_push ρ' L) n3 ho0⟩
              obtain ⟨a1, a2, a3⟩ := key j u M hj hM g1 o1
              obtain ⟨c1, c2, c3⟩ := key k2 u' M' hk hM' g2 o2
              exact e5.inj j k2 u u' M M' a1 c1 a2 c2 g1 g2 a3 c3 hz hb
          rw [e4] at HN
          exact HN
        · have HM := e5.move (o := .cells [] 0 3 1) (L := L) hgc hL rfl hn (l1 rfl) rfl (fun _ _ _ => rfl) (l2.mono (Rho.le_push ρ' L))
          refine ⟨_, .slice (some ⟨L.b, o', none⟩) 0 cap', ρ' ++ [L], _, _, e1, .slice (c + 1) 0 0 0 L o' cap' (by rw [← e4]; simp) (.inr ⟨rfl, rfl⟩) h0 hh1, fun j M hj => Rho.le_push ρ' L j M (e3 j M hj), by simp [e4], ?_, e6, rfl, rfl, rfl⟩
          rw [e4] at HM
          exact HM.sub (drop_free hfree _ _)
      | sliceN _ _ L hL hes =>
        have HG := (e5.sub (h' := h) (fun j u hj => by
          rw [hget_cons]; split
          · rename_i e0; subst e0; rw [hfree] at hj; cases hj
          · exact hj)).ghostRow (by exact Nat.le_trans hB e6.size) 3 (s := 1) (by decide)
        refine ⟨_, .slice none 0 0, ρ' ++ [⟨w'.heap.size, 0, 0, 1⟩], _, _, e1, .sliceN (c + 1) 0 ⟨w'.heap.size, 0, 0, 1⟩ (by rw [← e4]; simp) ⟨by show 1 ≠ 0; decide, rfl⟩, fun j M hj => Rho.le_push ρ' _ j M (e3 j M hj), by simp [e4], ?_, e6, rfl, rfl, rfl⟩
        rw [e4] at HG
        exact HG
    · refine ⟨_, v', ρ', _, _, e1, by rw [← hylen]; exact e2, e3, e4, e5.sub (drop_free hfree _ _), e6, rfl, rfl, rfl⟩
  have hfe : ∀ (cp : Nat), len ≤ cp → ∀ u : XObj, fetch ((c, u) :: h) 1 (.slice (some ⟨i, o, none⟩) len cp) = some (ys.length, rowC (encI .i64) ys) := by
    intro cp hcp u
    have := fetch_row (f := (encI .i64)) (encI_ok .i64) (h := (c, u) :: h) (b := i) (ys := xs) (fz := fz) (e := e0) (es := es0) (by rw [hget_cons, if_neg (Ne.symm hic)]; exact hg) a len len cp rfl (by rw [Nat.ble_eq]; exact hcp) hal ho
    rw [this, hylen, hys]
  cases hrel with
  | sliceN _ _ L hL hes =>
    obtain rfl : ys = [] := List.eq_nil_of_length_eq_zero hylen
    obtain ⟨q1, q2⟩ := clone26_nil h c B ρ w [.slice none 0 0] ⟨rfl, fun j v v' e1 e2 => by
      cases j with
      | zero => cases e1; cases e2; exact .snil
      | succ j => cases e1⟩ hH hρ hB hG hI
    refine ⟨q1, q2.mono ?_⟩
    rintro e w' ⟨v, v', ρ', h', c', e1, e2, e3, e4, e5, e6, rfl, rfl, rfl⟩
    cases e2
    have H1 := e5.ghostRow (Nat.le_trans hB e6.size) 3 (s := 1) (by decide)
    have H2 := H1.ghostRow (Nat.le_trans hB e6.size) 3 (s := 1) (by decide)
    have hlen2 : (ρ' ++ [(⟨w'.heap.size, 0, 0, 1⟩ : Loc)]).length = c' + 1 := by simp [e4]
    rw [hlen2, e4] at H2
    refine ⟨_, .slice none 0 0, _, _, _, e1, .sliceN (c' + 1) 0 ⟨w'.heap.size, 0, 0, 1⟩ (by rw [← e4]; simp) ⟨by show 1 ≠ 0; decide, rfl⟩, fun j M hj => Rho.le_push _ _ j M (Rho.le_push ρ' _ j M (e3 j M hj)), by simp [e4], H2.sub (fun j u hj => ?_), e6, rfl, rfl, rfl⟩
    rw [hget_cons] at hj ⊢
    split
    · rename_i e0; rw [if_pos e0] at hj; exact hj
    · rename_i e0
      rw [if_neg e0] at hj
      rw [hget_cons]; split
      · rename_i e00; subst e00; rw [hfree] at hj; cases hj
      · exact hj
  | slice _ _ _ _ L o' cap' hL hz h0 hh1 =>
    obtain ⟨LL, l1, l2, l3⟩ := hH.ok i _ hg
    rw [hL] at l1; cases l1
    have hcc : cap ≤ cap' := by
      by_cases z : L.es = 0
      · rw [h0 z]; exact Nat.le_refl _
      · exact (hh1 z).1
    cases cap with
    | succ cp => exact main _ (.slice i o len (cp + 1) L o' cap' hL hz h0 hh1) (.inr ⟨_, _, _, _, rfl⟩) (hfe _ hcap)
    | zero =>
      obtain rfl : len = 0 := by omega
      have y0 : ys = [] := List.eq_nil_of_length_eq_zero hylen
      cases cap' with
      | zero => exact main (.slice (some ⟨0, 0, some 1⟩) 0 0) (.zslice 0 0 1 _ (fun _ => rfl)) (.inl ⟨0, 0, rfl⟩) (fun u => by rw [y0]; rfl)
      | succ cp =>
        by_cases z : L.es = 0
        · have := h0 z; omega
        · obtain ⟨b1, b2, b3⟩ := hh1 z
          refine main (.slice (some ⟨i, o' - L.sh, none⟩) 0 (cp + 1)) (.slice i (o' - L.sh) 0 (cp + 1) L o' (cp + 1) hL (.inl (by omega)) (fun q => absurd q z) (fun _ => ⟨Nat.le_refl _, b2, b3⟩)) (.inr ⟨_, _, _, _, rfl⟩) (fun u => by rw [y0]; rfl)
theorem clone26_part {h : Heap} {c i o len cap : Nat} {xs : List (Int)} {fz : Nat} {e0 : TypeId} {es0 : Nat} (a : Nat) (hg : hget h i = some (.cells (rowC (encI .i64) xs) fz e0 es0)) (ho : o = a * 1) (hal : decide (a + len ≤ xs.length) = true) (hcap : decide (len ≤ cap) = true) (hfit : fitsB len 8 = true) :
    KC E0 26 [.slice (some ⟨i, o, none⟩) len cap] h c (fun v h' c' => v = .slice (some ⟨c + 1, 0, none⟩) (List.take len (List.drop a xs)).length (List.take len (List.drop a xs)).length ∧ h' = (c + 1, .cells (rowC (encI .i64) (List.take len (List.drop a xs))) 0 3 1) :: h ∧ c' = c + 2) := by
  have hal := of_decide_eq_true hal
  have e : (List.take len (List.drop a xs)).length = len := by rw [List.length_take, List.length_drop]; omega
  rw [e]
  exact clone26_ok a hg ho hal (of_decide_eq_true hcap) hfit
end Go.Xm
namespace Go.Xm
open Go.RowKit
set_option linter.unusedVariables false
set_option linter.unusedSimpArgs false
set_option maxRecDepth 20000
set_option maxHeartbeats 4000000
noncomputable def f25_C25 : Code := Proofs.Tryz.f25.body.getD .skip
noncomputable def f25_L1 : Code := lft (lft (rgt (lft (rgt (rgt f25_C25)))))
noncomputable def f25_L2 : Code := lft (lft (rgt (rgt (rgt (rgt (rgt f25_C25))))))
noncomputable def f25_L3 : Code := lft (lft (rgt (lft (rgt (rgt (lft (lft f25_L2)))))))
def f25_1 (m : Nat) : Nat → Int → Int → Int → List Int → Int → Int → Int → List Int → Option (List Int)
 | 0, _, _, _, _, _, _, _, _ => none
 | fuel + 1, a_rows, a_columns, a_bales, a_near, b_sick, b_frozen, x12_1, lh3_1 =>
  cond (decide (x12_1 < 25)) (
   cond (inRow x12_1 25) (
    cond (decide (Int.toNat x12_1 < lh3_1.length)) (
     (f40 m b_sick x12_1).bind fun r4 =>
      cond (r4) (
       f25_1 m fuel a_rows a_columns a_bales a_near b_sick b_frozen (w64 (x12_1 + 1)) (List.set (List.set lh3_1 (Int.toNat x12_1) (-1)) (Int.toNat x12_1) 0)
      ) (
       f25_1 m fuel a_rows a_columns a_bales a_near b_sick b_frozen (w64 (x12_1 + 1)) (List.set lh3_1 (Int.toNat x12_1) (-1))
      )
    ) none
   ) none
  ) (
   some (lh3_1)
  )
abbrev qhc1 (b_frozen : Int) (b_sick : Int) (t : Heap) : Heap := (2, .cells [ii 0, ii 0, ii 0, ii 0, ii 0, ii 0, ii 0, ii 0, ii 0, ii 0, ii 0, ii 0, ii 0, ii 0, ii 0, ii 0, ii 0, ii 0, ii 0, ii 0, ii 0, ii 0, ii 0, ii 0, ii 0] 0 67 0) :: (1, .cells [.int .u32 b_sick, .int .u32 b_frozen] 0 63 0) :: t
abbrev qhc2 (t : St) : St := (0, pp 0 0) :: (3, pp 1 0) :: (4, pp 2 0) :: (5, pp 3 0) :: t
theorem f25_1_ok (m : Nat) : ∀ (fuel : Nat) (z0 : Nat) (a_rows : Int) (a_columns : Int) (a_bales : Int) (a_near : List Int) (b_sick : Int) (b_frozen : Int) (x12_1 : Int) (lh3_1 : List Int) (o : (List Int)), f25_1 m fuel a_rows a_columns a_bales a_near b_sick b_frozen x12_1 lh3_1 = some o → ∀ Q : QP, Q (.exit 0) (qhc2 []) ((3, rc (encI .i64) o 0 67 0) :: qhc1 b_frozen b_sick [(0, .cells ([ii a_rows, ii a_columns, ii a_bales] ++ rowC (encI .u32) a_near) z0 72 0)]) 4 → XL E0 73 1 fuel f25_L1 (qhc2 [(12, ii x12_1)]) ((3, rc (encI .i64) lh3_1 0 67 0) :: qhc1 b_frozen b_sick [(0, .cells ([ii a_rows, ii a_columns, ii a_bales] ++ rowC (encI .u32) a_near) z0 72 0)]) 4 Q
 | 0, z0, a_rows, a_columns, a_bales, a_near, b_sick, b_frozen, x12_1, lh3_1, o, h, Q, hQ => by cases h
 | fuel + 1, z0, a_rows, a_columns, a_bales, a_near, b_sick, b_frozen, x12_1, lh3_1, o, h, Q, hQ => by
  unfold f25_1 at h
  refine XL.succ E0_ok ?_
  refine qQ ?_
  refine rS 1 (qhc2 [(12, ii x12_1), (13, .bool (decide (x12_1 < 25)))]) ?_
  refine dQ ?_
  show XQ _ _ _ _ _ _ _ _
  refine sQ ?_
  cases b1 : (decide (x12_1 < 25) : Bool) with
  | true =>
   have h := cT b1 h
   refine iT (.tmp 13) ?_
   refine kQ ?_
   show XQ _ _ _ _ _ _ _ _
   refine sQ ?_
   refine XQ.block (id := 1) (by kernel_rfl) ?_
   refine qQ ?_
   refine rS 2 (qhc2 [(6, ii x12_1), (12, ii x12_1)]) ?_
   refine nQ id ?_
   refine rS 1 (qhc2 [(6, ii x12_1), (12, ii x12_1), (15, ii x12_1)]) ?_
   cases b2 : (inRow x12_1 25 : Bool) with
   | false => cases (cF b2 h)
   | true =>
    have h := cT b2 h
    refine XR.rd E0_ok [0, 3, 4, 5, 6, 12, 16] rfl (v := pp 3 ((Int.toNat x12_1) * 1)) (v_idxA (s := 1) (len := 25) (x := (src 73 (.tmp 5))) (y := (src 73 (.tmp 15))) (b := 3) (o := 0) (ik := .i64) (i := x12_1) (off := (Int.toNat x12_1) * 1) (d := (some (path 12 16))) (by kernel_rfl) (by kernel_rfl) (by kernel_rfl) b2 (by omega)) (σ' := (qhc2 [(6, ii x12_1), (12, ii x12_1), (16, pp 3 ((Int.toNat x12_1) * 1))])) (by kernel_rfl) ?_
    cases b3 : (decide (Int.toNat x12_1 < lh3_1.length) : Bool) with
    | false => cases (cF b3 h)
    | true =>
     have h := cT b3 h
     refine XR.ef E0_ok [0, 3, 4, 5, 6, 12] rfl (e_store (encI_ok .i64) (size := 1) (x := (src 73 (.tmp 16))) (y := (src 73 (.const (ii (-1))))) (b := 3) (off := (Int.toNat x12_1) * 1) (xs := lh3_1) (e := 67) (es := 0) (d := none) (h' := ((3, rc (encI .i64) (List.set lh3_1 (Int.toNat x12_1) (-1)) 0 67 0) :: qhc1 b_frozen b_sick [(0, .cells ([ii a_rows, ii a_columns, ii a_bales] ++ rowC (encI .u32) a_near) z0 72 0)])) (w := ii (-1)) (ws := [ii (-1)]) (a := (-1)) (by kernel_rfl) (by kernel_rfl) (by kernel_rfl) (Int.toNat x12_1) 0 0 (by first | with_reducible rfl | omega | rfl) (row_len b3 (by simp)) (by kernel_rfl) rfl rfl rfl rfl rfl (by kernel_rfl)) (σ' := (qhc2 [(6, ii x12_1), (12, ii x12_1)])) (by kernel_rfl) ?_
     refine nQ id ?_
     refine rS 3 (qhc2 [(6, ii x12_1), (12, ii x12_1), (18, .int .u32 b_sick), (19, ii x12_1)]) ?_
     obtain ⟨r4, r4_h, h⟩ := bS h
     refine XR.call E0_ok [0, 3, 4, 5, 6, 12, 20] rfl (K := 40) (args := [.int .u32 b_sick, ii x12_1]) (d := (some (path 12 20))) (by kernel_rfl) (KC.of_calls E0_ok (F := Proofs.Tryz.f40) (v := .bool r4) (by kernel_rfl) rfl rfl (fun w hI => f40_ok m b_sick x12_1 r4 r4_h w hI)) ?_
     rintro _ _ _ ⟨rfl, rfl, rfl⟩
     refine XR.conv (σ' := (qhc2 [(6, ii x12_1), (12, ii x12_1), (20, .bool r4)])) (h' := ((3, rc (encI .i64) (List.set lh3_1 (Int.toNat x12_1) (-1)) 0 67 0) :: qhc1 b_frozen b_sick [(0, .cells ([ii a_rows, ii a_columns, ii a_bales] ++ rowC (encI .u32) a_near) z0 72 0)])) (c' := 4) ?_ (by kernel_rfl)
     refine dQ ?_
     show XQ _ _ _ _ _ _ _ _
     cases b4 : (r4 : Bool) with
     | true =>
      have h := cT b4 h
      refine iT (.tmp 20) ?_
      refine rQ ?_
      refine rS 1 (qhc2 [(12, ii x12_1), (21, ii x12_1)]) ?_
      refine XR.rd E0_ok [0, 3, 4, 5, 12, 22] rfl (v := pp 3 ((Int.toNat x12_1) * 1)) (v_idxA (s := 1) (len := 25) (x := (src 73 (.tmp 5))) (y := (src 73 (.tmp 21))) (b := 3) (o := 0) (ik := .i64) (i := x12_1) (off := (Int.toNat x12_1) * 1) (d := (some (path 12 22))) (by kernel_rfl) (by kernel_rfl) (by kernel_rfl) b2 (by omega)) (σ' := (qhc2 [(12, ii x12_1), (22, pp 3 ((Int.toNat x12_1) * 1))])) (by kernel_rfl) ?_
      refine XR.ef E0_ok [0, 3, 4, 5, 12] rfl (e_store (encI_ok .i64) (size := 1) (x := (src 73 (.tmp 22))) (y := (src 73 (.const (ii 0)))) (b := 3) (off := (Int.toNat x12_1) * 1) (xs := List.set lh3_1 (Int.toNat x12_1) (-1)) (e := 67) (es := 0) (d := none) (h' := ((3, rc (encI .i64) (List.set (List.set lh3_1 (Int.toNat x12_1) (-1)) (Int.toNat x12_1) 0) 0 67 0) :: qhc1 b_frozen b_sick [(0, .cells ([ii a_rows, ii a_columns, ii a_bales] ++ rowC (encI .u32) a_near) z0 72 0)])) (w := ii 0) (ws := [ii 0]) (a := 0) (by kernel_rfl) (by kernel_rfl) (by kernel_rfl) (Int.toNat x12_1) 0 0 (by first | with_reducible rfl | omega | rfl) (row_len b3 (by simp)) (by kernel_rfl) rfl rfl rfl rfl rfl (by kernel_rfl)) (σ' := (qhc2 [(12, ii x12_1)])) (by kernel_rfl) ?_
      refine dQ ?_
      show XQ _ _ _ _ _ _ _ _
      refine rQ ?_
      refine rS 2 (qhc2 [(12, ii (w64 (x12_1 + 1)))]) ?_
      refine dQ ?_
      show XL _ _ _ _ _ _ _ _ _
      refine XL.ren (σ' := (qhc2 [(12, ii (w64 (x12_1 + 1)))])) (h' := ((3, rc (encI .i64) (List.set (List.set lh3_1 (Int.toNat x12_1) (-1)) (Int.toNat x12_1) 0) 0 67 0) :: qhc1 b_frozen b_sick [(0, .cells ([ii a_rows, ii a_columns, ii a_bales] ++ rowC (encI .u32) a_near) z0 72 0)])) (c' := 4) [0, 1, 2, 3] (by decide) rfl ⟨rfl, rfl, rfl, rfl, rfl, trivial⟩ ⟨⟨_, _, rfl, rfl, .inl ⟨rfl, rwI⟩⟩, ⟨_, _, rfl, rfl, .inr ⟨_, _, _, _, rfl, rfl⟩⟩, ⟨_, _, rfl, rfl, .inr ⟨_, _, _, _, rfl, rfl⟩⟩, ⟨_, _, rfl, rfl, .inl ⟨rfl, preC_scal rfl (rowC_scal (encI_ok .u32) _)⟩⟩, trivial⟩ rfl ?_
      refine XL.conv (f25_1_ok m fuel z0 a_rows a_columns a_bales a_near b_sick b_frozen (w64 (x12_1 + 1)) (List.set (List.set lh3_1 (Int.toNat x12_1) (-1)) (Int.toNat x12_1) 0) o h Q hQ) (by first | with_reducible rfl | simp | rfl)
     | false =>
      have h := cF b4 h
      refine iF (.tmp 20) ?_
      refine kQ ?_
      show XQ _ _ _ _ _ _ _ _
      refine rQ ?_
      refine rS 2 (qhc2 [(12, ii (w64 (x12_1 + 1)))]) ?_
      refine dQ ?_
      show XL _ _ _ _ _ _ _ _ _
      refine XL.ren (σ' := (qhc2 [(12, ii (w64 (x12_1 + 1)))])) (h' := ((3, rc (encI .i64) (List.set lh3_1 (Int.toNat x12_1) (-1)) 0 67 0) :: qhc1 b_frozen b_sick [(0, .cells ([ii a_rows, ii a_columns, ii a_bales] ++ rowC (encI .u32) a_near) z0 72 0)])) (c' := 4) [0, 1, 2, 3] (by decide) rfl ⟨rfl, rfl, rfl, rfl, rfl, trivial⟩ ⟨⟨_, _, rfl, rfl, .inl ⟨rfl, rwI⟩⟩, ⟨_, _, rfl, rfl, .inr ⟨_, _, _, _, rfl, rfl⟩⟩, ⟨_, _, rfl, rfl, .inr ⟨_, _, _, _, rfl, rfl⟩⟩, ⟨_, _, rfl, rfl, .inl ⟨rfl, preC_scal rfl (rowC_scal (encI_ok .u32) _)⟩⟩, trivial⟩ rfl ?_
      refine XL.conv (f25_1_ok m fuel z0 a_rows a_columns a_bales a_near b_sick b_frozen (w64 (x12_1 + 1)) (List.set lh3_1 (Int.toNat x12_1) (-1)) o h Q hQ) (by first | with_reducible rfl | simp | rfl)
  | false =>
   have h := cF b1 h
   refine iF (.tmp 13) ?_
   refine XQ.ren (σ' := (qhc2 [])) (h' := ((3, rc (encI .i64) lh3_1 0 67 0) :: qhc1 b_frozen b_sick [(0, .cells ([ii a_rows, ii a_columns, ii a_bales] ++ rowC (encI .u32) a_near) z0 72 0)])) (c' := 4) [0, 1, 2, 3] (by decide) rfl ⟨rfl, rfl, rfl, rfl, trivial⟩ ⟨⟨_, _, rfl, rfl, .inl ⟨rfl, rwI⟩⟩, ⟨_, _, rfl, rfl, .inr ⟨_, _, _, _, rfl, rfl⟩⟩, ⟨_, _, rfl, rfl, .inr ⟨_, _, _, _, rfl, rfl⟩⟩, ⟨_, _, rfl, rfl, .inl ⟨rfl, preC_scal rfl (rowC_scal (encI_ok .u32) _)⟩⟩, trivial⟩ rfl ?_
   refine XQ.exit (i := 0) (by kernel_rfl) ?_
   cases h
   exact hQ
def f25_3 (m : Nat) : Nat → Int → Int → Int → List Int → Int → Int → Int → Int → List Int → Int → Int → List Int → Option (Int × (List Int))
 | 0, _, _, _, _, _, _, _, _, _, _, _, _ => none
 | fuel + 1, a_rows, a_columns, a_bales, a_near, b_sick, b_frozen, x7_2, x8_2, lh3_2, x10_3, x34_3, lh3_3 =>
  cond (decide (x34_3 < a_bales)) (
   (f40 m x7_2 x34_3).bind fun r29 =>
    cond (!r29) (
     (f40 m b_frozen x34_3).bind fun r30 =>
      cond (!r30) (
       cond (inRow x34_3 25) (
        cond (decide (Int.toNat x34_3 < a_near.length)) (
         (f56 m (andV .u32 (List.getD a_near (Int.toNat x34_3) 0) x7_2)).bind fun r31 =>
          cond (decide (r31 > 1)) (
           cond (decide (Int.toNat x34_3 < lh3_3.length)) (
            cond (decide (0 ≤ x34_3)) (
             f25_3 m fuel a_rows a_columns a_bales a_near b_sick b_frozen x7_2 x8_2 lh3_2 (orV .u32 x10_3 (shV true .u32 1 x34_3)) (w64 (x34_3 + 1)) (List.set lh3_3 (Int.toNat x34_3) x8_2)
            ) none
           ) none
          ) (
           f25_3 m fuel a_rows a_columns a_bales a_near b_sick b_frozen x7_2 x8_2 lh3_2 x10_3 (w64 (x34_3 + 1)) lh3_3
          )
        ) none
       ) none
      ) (
       f25_3 m fuel a_rows a_columns a_bales a_near b_sick b_frozen x7_2 x8_2 lh3_2 x10_3 (w64 (x34_3 + 1)) lh3_3
      )
    ) (
     f25_3 m fuel a_rows a_columns a_bales a_near b_sick b_frozen x7_2 x8_2 lh3_2 x10_3 (w64 (x34_3 + 1)) lh3_3
    )
  ) (
   some (x10_3, lh3_3)
  )
abbrev qhc3 (x7_2 : Int) (x8_2 : Int) (t : St) : St := (0, pp 0 0) :: (3, pp 1 0) :: (4, pp 2 0) :: (5, pp 3 0) :: (7, .int .u32 x7_2) :: (8, ii x8_2) :: (9, pp 4 0) :: t
abbrev qhc4 (b_frozen : Int) (b_sick : Int) (t : Heap) : Heap := (2, .cells [ii 0, ii 0, ii 0, ii 0, ii 0, ii 0, ii 0, ii 0, ii 0, ii 0, ii 0, ii 0, ii 0, ii 0, ii 0, ii 0, ii 0, ii 0, ii 0, ii 0, ii 0, ii 0, ii 0, ii 0, ii 0] 0 67 0) :: (1, .cells [.int .u32 b_sick, .int .u32 b_frozen] 0 63 0) :: t
abbrev qhc5 (a_bales : Int) (x10_3 : Int) (x34_3 : Int) (t : St) : St := (10, .int .u32 x10_3) :: (11, ii x34_3) :: (33, ii a_bales) :: (34, ii x34_3) :: t
theorem f25_3_ok (m : Nat) : ∀ (fuel : Nat) (z0 : Nat) (a_rows : Int) (a_columns : Int) (a_bales : Int) (a_near : List Int) (b_sick : Int) (b_frozen : Int) (x7_2 : Int) (x8_2 : Int) (lh3_2 : List Int) (x10_3 : Int) (x34_3 : Int) (lh3_3 : List Int) (o : (Int × (List Int))), f25_3 m fuel a_rows a_columns a_bales a_near b_sick b_frozen x7_2 x8_2 lh3_2 x10_3 x34_3 lh3_3 = some o → ∀ Q : QP, Q (.exit 4) [(0, pp 0 0), (3, pp 1 0), (4, pp 2 0), (5, pp 3 0), (8, ii x8_2), (9, pp 4 0), (10, .int .u32 o.1)] ((4, rc (encI .i64) lh3_2 0 67 0) :: (3, rc (encI .i64) o.2 0 67 0) :: qhc4 b_frozen b_sick [(0, .cells ([ii a_rows, ii a_columns, ii a_bales] ++ rowC (encI .u32) a_near) z0 72 0)]) 5 → XL E0 73 1 fuel f25_L3 (qhc3 x7_2 x8_2 [(10, .int .u32 x10_3), (33, ii a_bales), (34, ii x34_3)]) ((4, rc (encI .i64) lh3_2 0 67 0) :: (3, rc (encI .i64) lh3_3 0 67 0) :: qhc4 b_frozen b_sick [(0, .cells ([ii a_rows, ii a_columns, ii a_bales] ++ rowC (encI .u32) a_near) z0 72 0)]) 5 Q
 | 0, z0, a_rows, a_columns, a_bales, a_near, b_sick, b_frozen, x7_2, x8_2, lh3_2, x10_3, x34_3, lh3_3, o, h, Q, hQ => by cases h
 | fuel + 1, z0, a_rows, a_columns, a_bales, a_near, b_sick, b_frozen, x7_2, x8_2, lh3_2, x10_3, x34_3, lh3_3, o, h, Q, hQ => by
  unfold f25_3 at h
  refine XL.succ E0_ok ?_
  refine qQ ?_
  refine rS 1 (qhc3 x7_2 x8_2 [(10, .int .u32 x10_3), (33, ii a_bales), (34, ii x34_3), (35, .bool (decide (x34_3 < a_bales)))]) ?_
  refine dQ ?_
  show XQ _ _ _ _ _ _ _ _
  refine sQ ?_
  cases b1 : (decide (x34_3 < a_bales) : Bool) with
  | true =>
   have h := cT b1 h
   refine iT (.tmp 35) ?_
   refine kQ ?_
   show XQ _ _ _ _ _ _ _ _
   refine sQ ?_
   refine XQ.block (id := 5) (by kernel_rfl) ?_
   refine qQ ?_
   refine rS 2 (qhc3 x7_2 x8_2 (qhc5 a_bales x10_3 x34_3 [])) ?_
   refine nQ id ?_
   refine rS 2 (qhc3 x7_2 x8_2 (qhc5 a_bales x10_3 x34_3 [(37, .int .u32 x7_2), (38, ii x34_3)])) ?_
   obtain ⟨r29, r29_h, h⟩ := bS h
   refine XR.call E0_ok [0, 3, 4, 5, 7, 8, 9, 10, 11, 33, 34, 39] rfl (K := 40) (args := [.int .u32 x7_2, ii x34_3]) (d := (some (path 12 39))) (by kernel_rfl) (KC.of_calls E0_ok (F := Proofs.Tryz.f40) (v := .bool r29) (by kernel_rfl) rfl rfl (fun w hI => f40_ok m x7_2 x34_3 r29 r29_h w hI)) ?_
   rintro _ _ _ ⟨rfl, rfl, rfl⟩
   refine XR.conv (σ' := (qhc3 x7_2 x8_2 (qhc5 a_bales x10_3 x34_3 [(39, .bool r29)]))) (h' := ((4, rc (encI .i64) lh3_2 0 67 0) :: (3, rc (encI .i64) lh3_3 0 67 0) :: qhc4 b_frozen b_sick [(0, .cells ([ii a_rows, ii a_columns, ii a_bales] ++ rowC (encI .u32) a_near) z0 72 0)])) (c' := 5) ?_ (by kernel_rfl)
   refine rS 2 (qhc3 x7_2 x8_2 (qhc5 a_bales x10_3 x34_3 [(41, .bool (!r29))])) ?_
   cases b2 : (!r29 : Bool) with
   | true =>
    have h := cT b2 h
    refine rS 3 (qhc3 x7_2 x8_2 (qhc5 a_bales x10_3 x34_3 [(41, .bool true), (43, .int .u32 b_frozen), (44, ii x34_3)])) ?_
    obtain ⟨r30, r30_h, h⟩ := bS h
    refine XR.call E0_ok [0, 3, 4, 5, 7, 8, 9, 10, 11, 33, 34, 41, 45] rfl (K := 40) (args := [.int .u32 b_frozen, ii x34_3]) (d := (some (path 12 45))) (by kernel_rfl) (KC.of_calls E0_ok (F := Proofs.Tryz.f40) (v := .bool r30) (by kernel_rfl) rfl rfl (fun w hI => f40_ok m b_frozen x34_3 r30 r30_h w hI)) ?_
    rintro _ _ _ ⟨rfl, rfl, rfl⟩
    refine XR.conv (σ' := (qhc3 x7_2 x8_2 (qhc5 a_bales x10_3 x34_3 [(41, .bool true), (45, .bool r30)]))) (h' := ((4, rc (encI .i64) lh3_2 0 67 0) :: (3, rc (encI .i64) lh3_3 0 67 0) :: qhc4 b_frozen b_sick [(0, .cells ([ii a_rows, ii a_columns, ii a_bales] ++ rowC (encI .u32) a_near) z0 72 0)])) (c' := 5) ?_ (by kernel_rfl)
    refine rS 3 (qhc3 x7_2 x8_2 (qhc5 a_bales x10_3 x34_3 [(48, .bool (!r30))])) ?_
    cases b3 : (!r30 : Bool) with
    | true =>
     have h := cT b3 h
     refine rS 4 (qhc3 x7_2 x8_2 (qhc5 a_bales x10_3 x34_3 [(48, .bool true), (50, ii x34_3), (52, pp 0 3)])) ?_
     cases b4 : (inRow x34_3 25 : Bool) with
     | false => cases (cF b4 h)
     | true =>
      have h := cT b4 h
      refine XR.rd E0_ok [0, 3, 4, 5, 7, 8, 9, 10, 11, 33, 34, 48, 53] rfl (v := pp 0 ((Int.toNat x34_3) * 1 + 3)) (v_idxA (s := 1) (len := 25) (x := (src 73 (.tmp 52))) (y := (src 73 (.tmp 50))) (b := 0) (o := 3) (ik := .i64) (i := x34_3) (off := (Int.toNat x34_3) * 1 + 3) (d := (some (path 12 53))) (by kernel_rfl) (by kernel_rfl) (by kernel_rfl) b4 (by omega)) (σ' := (qhc3 x7_2 x8_2 (qhc5 a_bales x10_3 x34_3 [(48, .bool true), (53, pp 0 ((Int.toNat x34_3) * 1 + 3))]))) (by kernel_rfl) ?_
      cases b5 : (decide (Int.toNat x34_3 < a_near.length) : Bool) with
      | false => cases (cF b5 h)
      | true =>
       have h := cT b5 h
       refine XR.rd E0_ok [0, 3, 4, 5, 7, 8, 9, 10, 11, 33, 34, 48, 54] rfl (v := .int .u32 (List.getD a_near (Int.toNat x34_3) 0)) (v_load1P (encI_ok .u32) (x := (src 73 (.tmp 53))) (b := 0) (off := (Int.toNat x34_3) * 1 + 3) (pre := [ii a_rows, ii a_columns, ii a_bales]) (p := 3) rfl (xs := a_near) (fz := z0) (e := 72) (es := 0) (d := (some (path 12 54))) (by kernel_rfl) (by kernel_rfl) (by kernel_rfl) (Int.toNat x34_3) 0 0 (by first | with_reducible rfl | omega | rfl) (row_len b5 (by simp)) rfl rfl) (σ' := (qhc3 x7_2 x8_2 (qhc5 a_bales x10_3 x34_3 [(48, .bool true), (54, .int .u32 (List.getD a_near (Int.toNat x34_3) 0))]))) (by kernel_rfl) ?_
       refine rS 2 (qhc3 x7_2 x8_2 (qhc5 a_bales x10_3 x34_3 [(48, .bool true), (56, .int .u32 (andV .u32 (List.getD a_near (Int.toNat x34_3) 0) x7_2))])) ?_
       obtain ⟨r31, r31_h, h⟩ := bS h
       refine XR.call E0_ok [0, 3, 4, 5, 7, 8, 9, 10, 11, 33, 34, 48, 57] rfl (K := 56) (args := [.int .u32 (andV .u32 (List.getD a_near (Int.toNat x34_3) 0) x7_2)]) (d := (some (path 12 57))) (by kernel_rfl) (KC.of_calls E0_ok (F := Proofs.Tryz.f56) (v := ii r31) (by kernel_rfl) rfl rfl (fun w hI => f56_ok m (andV .u32 (List.getD a_near (Int.toNat x34_3) 0) x7_2) r31 r31_h w hI)) ?_
       rintro _ _ _ ⟨rfl, rfl, rfl⟩
       refine XR.conv (σ' := (qhc3 x7_2 x8_2 (qhc5 a_bales x10_3 x34_3 [(48, .bool true), (57, ii r31)]))) (h' := ((4, rc (encI .i64) lh3_2 0 67 0) :: (3, rc (encI .i64) lh3_3 0 67 0) :: qhc4 b_frozen b_sick [(0, .cells ([ii a_rows, ii a_columns, ii a_bales] ++ rowC (encI .u32) a_near) z0 72 0)])) (c' := 5) ?_ (by kernel_rfl)
       refine rS 2 (qhc3 x7_2 x8_2 (qhc5 a_bales x10_3 x34_3 [(59, .bool (decide (r31 > 1)))])) ?_
       refine dQ ?_
       show XQ _ _ _ _ _ _ _ _
       cases b6 : (decide (r31 > 1) : Bool) with
       | true =>
        have h := cT b6 h
        refine iT (.tmp 59) ?_
        refine qQ ?_
        refine rS 2 (qhc3 x7_2 x8_2 (qhc5 a_bales x10_3 x34_3 [(60, ii x34_3), (61, ii x8_2)])) ?_
        refine XR.rd E0_ok [0, 3, 4, 5, 7, 8, 9, 10, 11, 33, 34, 61, 62] rfl (v := pp 3 ((Int.toNat x34_3) * 1)) (v_idxA (s := 1) (len := 25) (x := (src 73 (.tmp 5))) (y := (src 73 (.tmp 60))) (b := 3) (o := 0) (ik := .i64) (i := x34_3) (off := (Int.toNat x34_3) * 1) (d := (some (path 12 62))) (by kernel_rfl) (by kernel_rfl) (by kernel_rfl) b4 (by omega)) (σ' := (qhc3 x7_2 x8_2 (qhc5 a_bales x10_3 x34_3 [(61, ii x8_2), (62, pp 3 ((Int.toNat x34_3) * 1))]))) (by kernel_rfl) ?_
        cases b7 : (decide (Int.toNat x34_3 < lh3_3.length) : Bool) with
        | false => cases (cF b7 h)
        | true =>
         have h := cT b7 h
         refine XR.ef E0_ok [0, 3, 4, 5, 7, 8, 9, 10, 11, 33, 34] rfl (e_store (encI_ok .i64) (size := 1) (x := (src 73 (.tmp 62))) (y := (src 73 (.tmp 61))) (b := 3) (off := (Int.toNat x34_3) * 1) (xs := lh3_3) (e := 67) (es := 0) (d := none) (h' := ((4, rc (encI .i64) lh3_2 0 67 0) :: (3, rc (encI .i64) (List.set lh3_3 (Int.toNat x34_3) x8_2) 0 67 0) :: qhc4 b_frozen b_sick [(0, .cells ([ii a_rows, ii a_columns, ii a_bales] ++ rowC (encI .u32) a_near) z0 72 0)])) (w := ii x8_2) (ws := [ii x8_2]) (a := x8_2) (by kernel_rfl) (by kernel_rfl) (by kernel_rfl) (Int.toNat x34_3) 0 0 (by first | with_reducible rfl | omega | rfl) (row_len b7 (by simp)) (by kernel_rfl) rfl rfl rfl rfl rfl (by kernel_rfl)) (σ' := (qhc3 x7_2 x8_2 (qhc5 a_bales x10_3 x34_3 []))) (by kernel_rfl) ?_
         refine dQ ?_
         show XQ _ _ _ _ _ _ _ _
         refine rQ ?_
         refine rS 2 (qhc3 x7_2 x8_2 [(33, ii a_bales), (34, ii x34_3), (63, .int .u32 x10_3), (64, ii x34_3)]) ?_
         cases b8 : (decide (0 ≤ x34_3) : Bool) with
         | false => cases (cF b8 h)
         | true =>
          have h := cT b8 h
          have e9 : insV (headI ((gsOf E0 73 (opsOf (rgt (lft (rgt (rgt (lft (lft (rgt (rgt f25_L3)))))))))).drop 2) (trS 73 (qhc3 x7_2 x8_2 [(33, ii a_bales), (34, ii x34_3), (63, .int .u32 x10_3), (64, ii x34_3)]))) (trS 73 (qhc3 x7_2 x8_2 [(33, ii a_bales), (34, ii x34_3), (63, .int .u32 x10_3), (64, ii x34_3)])) ((4, rc (encI .i64) lh3_2 0 67 0) :: (3, rc (encI .i64) (List.set lh3_3 (Int.toNat x34_3) x8_2) 0 67 0) :: qhc4 b_frozen b_sick [(0, .cells ([ii a_rows, ii a_columns, ii a_bales] ++ rowC (encI .u32) a_near) z0 72 0)]) = (match (decide (0 ≤ x34_3) : Bool) with | true => some (.int .u32 (shV true .u32 1 x34_3)) | false => none) := by kernel_rfl
          refine XR.rd E0_ok [0, 3, 4, 5, 7, 8, 9, 33, 34, 63, 65] rfl (e9.trans (by rw [b8])) (σ' := (qhc3 x7_2 x8_2 [(33, ii a_bales), (34, ii x34_3), (63, .int .u32 x10_3), (65, .int .u32 (shV true .u32 1 x34_3))])) (by kernel_rfl) ?_
          refine rS 2 (qhc3 x7_2 x8_2 [(10, .int .u32 (orV .u32 x10_3 (shV true .u32 1 x34_3))), (33, ii a_bales), (34, ii x34_3)]) ?_
          refine dQ ?_
          show XQ _ _ _ _ _ _ _ _
          refine rQ ?_
          refine rS 2 (qhc3 x7_2 x8_2 [(10, .int .u32 (orV .u32 x10_3 (shV true .u32 1 x34_3))), (33, ii a_bales), (34, ii (w64 (x34_3 + 1)))]) ?_
          refine dQ ?_
          show XL _ _ _ _ _ _ _ _ _
          refine XL.ren (σ' := (qhc3 x7_2 x8_2 [(10, .int .u32 (orV .u32 x10_3 (shV true .u32 1 x34_3))), (33, ii a_bales), (34, ii (w64 (x34_3 + 1)))])) (h' := ((4, rc (encI .i64) lh3_2 0 67 0) :: (3, rc (encI .i64) (List.set lh3_3 (Int.toNat x34_3) x8_2) 0 67 0) :: qhc4 b_frozen b_sick [(0, .cells ([ii a_rows, ii a_columns, ii a_bales] ++ rowC (encI .u32) a_near) z0 72 0)])) (c' := 5) [0, 1, 2, 3, 4] (by decide) rfl ⟨rfl, rfl, rfl, rfl, rfl, rfl, rfl, rfl, rfl, rfl, trivial⟩ ⟨⟨_, _, rfl, rfl, .inl ⟨rfl, rwI⟩⟩, ⟨_, _, rfl, rfl, .inl ⟨rfl, rwI⟩⟩, ⟨_, _, rfl, rfl, .inr ⟨_, _, _, _, rfl, rfl⟩⟩, ⟨_, _, rfl, rfl, .inr ⟨_, _, _, _, rfl, rfl⟩⟩, ⟨_, _, rfl, rfl, .inl ⟨rfl, preC_scal rfl (rowC_scal (encI_ok .u32) _)⟩⟩, trivial⟩ rfl ?_
          refine XL.conv (f25_3_ok m fuel z0 a_rows a_columns a_bales a_near b_sick b_frozen x7_2 x8_2 lh3_2 (orV .u32 x10_3 (shV true .u32 1 x34_3)) (w64 (x34_3 + 1)) (List.set lh3_3 (Int.toNat x34_3) x8_2) o h Q hQ) (by first | with_reducible rfl | simp | rfl)
       | false =>
        have h := cF b6 h
        refine iF (.tmp 59) ?_
        refine kQ ?_
        show XQ _ _ _ _ _ _ _ _
        refine rQ ?_
        refine rS 2 (qhc3 x7_2 x8_2 [(10, .int .u32 x10_3), (33, ii a_bales), (34, ii (w64 (x34_3 + 1)))]) ?_
        refine dQ ?_
        show XL _ _ _ _ _ _ _ _ _
        refine XL.ren (σ' := (qhc3 x7_2 x8_2 [(10, .int .u32 x10_3), (33, ii a_bales), (34, ii (w64 (x34_3 + 1)))])) (h' := ((4, rc (encI .i64) lh3_2 0 67 0) :: (3, rc (encI .i64) lh3_3 0 67 0) :: qhc4 b_frozen b_sick [(0, .cells ([ii a_rows, ii a_columns, ii a_bales] ++ rowC (encI .u32) a_near) z0 72 0)])) (c' := 5) [0, 1, 2, 3, 4] (by decide) rfl ⟨rfl, rfl, rfl, rfl, rfl, rfl, rfl, rfl, rfl, rfl, trivial⟩ ⟨⟨_, _, rfl, rfl, .inl ⟨rfl, rwI⟩⟩, ⟨_, _, rfl, rfl, .inl ⟨rfl, rwI⟩⟩, ⟨_, _, rfl, rfl, .inr ⟨_, _, _, _, rfl, rfl⟩⟩, ⟨_, _, rfl, rfl, .inr ⟨_, _, _, _, rfl, rfl⟩⟩, ⟨_, _, rfl, rfl, .inl ⟨rfl, preC_scal rfl (rowC_scal (encI_ok .u32) _)⟩⟩, trivial⟩ rfl ?_
        refine XL.conv (f25_3_ok m fuel z0 a_rows a_columns a_bales a_near b_sick b_frozen x7_2 x8_2 lh3_2 x10_3 (w64 (x34_3 + 1)) lh3_3 o h Q hQ) (by first | with_reducible rfl | simp | rfl)
    | false =>
     have h := cF b3 h
     refine rS 11 (qhc3 x7_2 x8_2 (qhc5 a_bales x10_3 x34_3 [(59, .bool false)])) ?_
     refine dQ ?_
     show XQ _ _ _ _ _ _ _ _
     refine iF (.tmp 59) ?_
     refine kQ ?_
     show XQ _ _ _ _ _ _ _ _
     refine rQ ?_
     refine rS 2 (qhc3 x7_2 x8_2 [(10, .int .u32 x10_3), (33, ii a_bales), (34, ii (w64 (x34_3 + 1)))]) ?_
     refine dQ ?_
     show XL _ _ _ _ _ _ _ _ _
     refine XL.ren (σ' := (qhc3 x7_2 x8_2 [(10, .int .u32 x10_3), (33, ii a_bales), (34, ii (w64 (x34_3 + 1)))])) (h' := ((4, rc (encI .i64) lh3_2 0 67 0) :: (3, rc (encI .i64) lh3_3 0 67 0) :: qhc4 b_frozen b_sick [(0, .cells ([ii a_rows, ii a_columns, ii a_bales] ++ rowC (encI .u32) a_near) z0 72 0)])) (c' := 5) [0, 1, 2, 3, 4] (by decide) rfl ⟨rfl, rfl, rfl, rfl, rfl, rfl, rfl, rfl, rfl, rfl, trivial⟩ ⟨⟨_, _, rfl, rfl, .inl ⟨rfl, rwI⟩⟩, ⟨_, _, rfl, rfl, .inl ⟨rfl, rwI⟩⟩, ⟨_, _, rfl, rfl, .inr ⟨_, _, _, _, rfl, rfl⟩⟩, ⟨_, _, rfl, rfl, .inr ⟨_, _, _, _, rfl, rfl⟩⟩, ⟨_, _, rfl, rfl, .inl ⟨rfl, preC_scal rfl (rowC_scal (encI_ok .u32) _)⟩⟩, trivial⟩ rfl ?_
     refine XL.conv (f25_3_ok m fuel z0 a_rows a_columns a_bales a_near b_sick b_frozen x7_2 x8_2 lh3_2 x10_3 (w64 (x34_3 + 1)) lh3_3 o h Q hQ) (by first | with_reducible rfl | simp | rfl)
   | false =>
    have h := cF b2 h
    refine rS 18 (qhc3 x7_2 x8_2 (qhc5 a_bales x10_3 x34_3 [(59, .bool false)])) ?_
    refine dQ ?_
    show XQ _ _ _ _ _ _ _ _
    refine iF (.tmp 59) ?_
    refine kQ ?_
    show XQ _ _ _ _ _ _ _ _
    refine rQ ?_
    refine rS 2 (qhc3 x7_2 x8_2 [(10, .int .u32 x10_3), (33, ii a_bales), (34, ii (w64 (x34_3 + 1)))]) ?_
    refine dQ ?_
    show XL _ _ _ _ _ _ _ _ _
    refine XL.ren (σ' := (qhc3 x7_2 x8_2 [(10, .int .u32 x10_3), (33, ii a_bales), (34, ii (w64 (x34_3 + 1)))])) (h' := ((4, rc (encI .i64) lh3_2 0 67 0) :: (3, rc (encI .i64) lh3_3 0 67 0) :: qhc4 b_frozen b_sick [(0, .cells ([ii a_rows, ii a_columns, ii a_bales] ++ rowC (encI .u32) a_near) z0 72 0)])) (c' := 5) [0, 1, 2, 3, 4] (by decide) rfl ⟨rfl, rfl, rfl, rfl, rfl, rfl, rfl, rfl, rfl, rfl, trivial⟩ ⟨⟨_, _, rfl, rfl, .inl ⟨rfl, rwI⟩⟩, ⟨_, _, rfl, rfl, .inl ⟨rfl, rwI⟩⟩, ⟨_, _, rfl, rfl, .inr ⟨_, _, _, _, rfl, rfl⟩⟩, ⟨_, _, rfl, rfl, .inr ⟨_, _, _, _, rfl, rfl⟩⟩, ⟨_, _, rfl, rfl, .inl ⟨rfl, preC_scal rfl (rowC_scal (encI_ok .u32) _)⟩⟩, trivial⟩ rfl ?_
    refine XL.conv (f25_3_ok m fuel z0 a_rows a_columns a_bales a_near b_sick b_frozen x7_2 x8_2 lh3_2 x10_3 (w64 (x34_3 + 1)) lh3_3 o h Q hQ) (by first | with_reducible rfl | simp | rfl)
  | false =>
   have h := cF b1 h
   refine iF (.tmp 35) ?_
   refine XQ.ren (σ' := [(0, pp 0 0), (3, pp 1 0), (4, pp 2 0), (5, pp 3 0), (8, ii x8_2), (9, pp 4 0), (10, .int .u32 x10_3)]) (h' := ((4, rc (encI .i64) lh3_2 0 67 0) :: (3, rc (encI .i64) lh3_3 0 67 0) :: qhc4 b_frozen b_sick [(0, .cells ([ii a_rows, ii a_columns, ii a_bales] ++ rowC (encI .u32) a_near) z0 72 0)])) (c' := 5) [0, 1, 2, 3, 4] (by decide) rfl ⟨rfl, rfl, rfl, rfl, rfl, rfl, rfl, trivial⟩ ⟨⟨_, _, rfl, rfl, .inl ⟨rfl, rwI⟩⟩, ⟨_, _, rfl, rfl, .inl ⟨rfl, rwI⟩⟩, ⟨_, _, rfl, rfl, .inr ⟨_, _, _, _, rfl, rfl⟩⟩, ⟨_, _, rfl, rfl, .inr ⟨_, _, _, _, rfl, rfl⟩⟩, ⟨_, _, rfl, rfl, .inl ⟨rfl, preC_scal rfl (rowC_scal (encI_ok .u32) _)⟩⟩, trivial⟩ rfl ?_
   refine XQ.exit (i := 4) (by kernel_rfl) ?_
   cases h
   exact hQ
def f25_2 (m : Nat) : Nat → Int → Int → Int → List Int → Int → Int → Int → Int → List Int → Option (List Int)
 | 0, _, _, _, _, _, _, _, _, _ => none
 | fuel + 1, a_rows, a_columns, a_bales, a_near, b_sick, b_frozen, x7_2, x8_2, lh3_2 =>
  cond (decide (lh3_2.length = 25)) (
   (f25_3 m m a_rows a_columns a_bales a_near b_sick b_frozen x7_2 x8_2 lh3_2 x7_2 0 lh3_2).bind fun o3 =>
    cond (decide (o3.2.length = 25)) (
     cond (o3.2 == lh3_2) (
      some (o3.2)
     ) (
      f25_2 m fuel a_rows a_columns a_bales a_near b_sick b_frozen o3.1 (w64 (x8_2 + 1)) o3.2
     )
    ) none
  ) none
abbrev qhc6 (b_frozen : Int) (b_sick : Int) (t : Heap) : Heap := (2, .cells [ii 0, ii 0, ii 0, ii 0, ii 0, ii 0, ii 0, ii 0, ii 0, ii 0, ii 0, ii 0, ii 0, ii 0, ii 0, ii 0, ii 0, ii 0, ii 0, ii 0, ii 0, ii 0, ii 0, ii 0, ii 0] 0 67 0) :: (1, .cells [.int .u32 b_sick, .int .u32 b_frozen] 0 63 0) :: t
abbrev qhc7 (t : St) : St := (0, pp 0 0) :: (3, pp 1 0) :: (4, pp 2 0) :: (5, pp 3 0) :: t
theorem f25_2_ok (m : Nat) : ∀ (fuel : Nat) (z0 : Nat) (a_rows : Int) (a_columns : Int) (a_bales : Int) (a_near : List Int) (b_sick : Int) (b_frozen : Int) (x7_2 : Int) (x8_2 : Int) (lh3_2 : List Int) (o : (List Int)), f25_2 m fuel a_rows a_columns a_bales a_near b_sick b_frozen x7_2 x8_2 lh3_2 = some o → ∀ Q : QP, Q .ret [(4, pp 1 0)] [(1, rc (encI .i64) o 0 67 0), (0, .cells ([ii a_rows, ii a_columns, ii a_bales] ++ rowC (encI .u32) a_near) z0 72 0)] 2 → XL E0 73 1 fuel f25_L2 (qhc7 [(7, .int .u32 x7_2), (8, ii x8_2)]) ((3, rc (encI .i64) lh3_2 0 67 0) :: qhc6 b_frozen b_sick [(0, .cells ([ii a_rows, ii a_columns, ii a_bales] ++ rowC (encI .u32) a_near) z0 72 0)]) 4 Q
 | 0, z0, a_rows, a_columns, a_bales, a_near, b_sick, b_frozen, x7_2, x8_2, lh3_2, o, h, Q, hQ => by cases h
 | fuel + 1, z0, a_rows, a_columns, a_bales, a_near, b_sick, b_frozen, x7_2, x8_2, lh3_2, o, h, Q, hQ => by
  unfold f25_2 at h
  refine XL.succ E0_ok ?_
  refine sQ ?_
  refine XQ.block (id := 3) (by kernel_rfl) ?_
  refine qQ ?_
  cases b1 : (decide (lh3_2.length = 25) : Bool) with
  | false => cases (cF b1 h)
  | true =>
   have h := cT b1 h
   refine XR.rd E0_ok [0, 3, 4, 5, 7, 8, 28] rfl (v := .agg (rowC (encI .i64) lh3_2).toArray) (v_loadA (n := 25) (x := (src 73 (.tmp 5))) (b := 3) (L := lh3_2) (fz := 0) (e := 67) (es := 0) (d := (some (path 12 28))) (by kernel_rfl) (by kernel_rfl) (by kernel_rfl) b1) (σ' := (qhc7 [(7, .int .u32 x7_2), (8, ii x8_2), (28, .agg (rowC (encI .i64) lh3_2).toArray)])) (by kernel_rfl) ?_
   refine rT 1 (qhc7 [(7, .int .u32 x7_2), (8, ii x8_2), (9, pp 4 0), (28, .agg (rowC (encI .i64) lh3_2).toArray)]) ((4, .cells [ii 0, ii 0, ii 0, ii 0, ii 0, ii 0, ii 0, ii 0, ii 0, ii 0, ii 0, ii 0, ii 0, ii 0, ii 0, ii 0, ii 0, ii 0, ii 0, ii 0, ii 0, ii 0, ii 0, ii 0, ii 0] 0 67 0) :: (3, rc (encI .i64) lh3_2 0 67 0) :: qhc6 b_frozen b_sick [(0, .cells ([ii a_rows, ii a_columns, ii a_bales] ++ rowC (encI .u32) a_near) z0 72 0)]) 5 ?_
   refine XR.ef E0_ok [0, 3, 4, 5, 7, 8, 9] rfl (e_storeA (k := .i64) (n := 25) (x := (src 73 (.tmp 9))) (y := (src 73 (.tmp 28))) (b := 4) (cs := [ii 0, ii 0, ii 0, ii 0, ii 0, ii 0, ii 0, ii 0, ii 0, ii 0, ii 0, ii 0, ii 0, ii 0, ii 0, ii 0, ii 0, ii 0, ii 0, ii 0, ii 0, ii 0, ii 0, ii 0, ii 0]) (e := 67) (es := 0) (d := none) (L := lh3_2) (h' := ((4, rc (encI .i64) lh3_2 0 67 0) :: (3, rc (encI .i64) lh3_2 0 67 0) :: qhc6 b_frozen b_sick [(0, .cells ([ii a_rows, ii a_columns, ii a_bales] ++ rowC (encI .u32) a_near) z0 72 0)])) (by kernel_rfl) (by kernel_rfl) (by kernel_rfl) rfl (by kernel_rfl) (of_decide_eq_true b1) rfl (by kernel_rfl)) (σ' := (qhc7 [(7, .int .u32 x7_2), (8, ii x8_2), (9, pp 4 0)])) (by kernel_rfl) ?_
   refine nQ id ?_
   refine rS 2 (qhc7 [(7, .int .u32 x7_2), (8, ii x8_2), (9, pp 4 0), (10, .int .u32 x7_2)]) ?_
   refine dQ ?_
   show XQ _ _ _ _ _ _ _ _
   refine sQ ?_
   refine qQ ?_
   refine rS 5 (qhc7 [(7, .int .u32 x7_2), (8, ii x8_2), (9, pp 4 0), (10, .int .u32 x7_2), (33, ii a_bales), (34, ii 0)]) ?_
   refine dQ ?_
   show XQ _ _ _ _ _ _ _ _
   refine XQ.block (id := 4) (by kernel_rfl) ?_
   refine XQ.loop m (by kernel_rfl) ?_
   obtain ⟨o3, o3_h, h⟩ := bS h
   refine XL.ren (σ' := (qhc7 [(7, .int .u32 x7_2), (8, ii x8_2), (9, pp 4 0), (10, .int .u32 x7_2), (33, ii a_bales), (34, ii 0)])) (h' := ((4, rc (encI .i64) lh3_2 0 67 0) :: (3, rc (encI .i64) lh3_2 0 67 0) :: qhc6 b_frozen b_sick [(0, .cells ([ii a_rows, ii a_columns, ii a_bales] ++ rowC (encI .u32) a_near) z0 72 0)])) (c' := 5) [0, 1, 2, 3, 4] (by decide) rfl ⟨rfl, rfl, rfl, rfl, rfl, rfl, rfl, rfl, rfl, rfl, trivial⟩ ⟨⟨_, _, rfl, rfl, .inl ⟨rfl, rwI⟩⟩, ⟨_, _, rfl, rfl, .inl ⟨rfl, rwI⟩⟩, ⟨_, _, rfl, rfl, .inr ⟨_, _, _, _, rfl, rfl⟩⟩, ⟨_, _, rfl, rfl, .inr ⟨_, _, _, _, rfl, rfl⟩⟩, ⟨_, _, rfl, rfl, .inl ⟨rfl, preC_scal rfl (rowC_scal (encI_ok .u32) _)⟩⟩, trivial⟩ rfl ?_
   refine XL.conv (f25_3_ok m m z0 a_rows a_columns a_bales a_near b_sick b_frozen x7_2 x8_2 lh3_2 x7_2 0 lh3_2 o3 o3_h _ ?_) (by first | with_reducible rfl | simp | rfl)
   show XQ _ _ _ _ _ _ _ _
   refine sQ ?_
   refine qQ ?_
   cases b3 : (decide (o3.2.length = 25) : Bool) with
   | false => cases (cF b3 h)
   | true =>
    have h := cT b3 h
    refine XR.rd E0_ok [0, 3, 4, 5, 8, 9, 10, 68] rfl (v := .agg (rowC (encI .i64) o3.2).toArray) (v_loadA (n := 25) (x := (src 73 (.tmp 5))) (b := 3) (L := o3.2) (fz := 0) (e := 67) (es := 0) (d := (some (path 12 68))) (by kernel_rfl) (by kernel_rfl) (by kernel_rfl) b3) (σ' := (qhc7 [(8, ii x8_2), (9, pp 4 0), (10, .int .u32 o3.1), (68, .agg (rowC (encI .i64) o3.2).toArray)])) (by kernel_rfl) ?_
    refine XR.rd E0_ok [0, 3, 4, 5, 8, 10, 68, 69] rfl (v := .agg (rowC (encI .i64) lh3_2).toArray) (v_loadA (n := 25) (x := (src 73 (.tmp 9))) (b := 4) (L := lh3_2) (fz := 0) (e := 67) (es := 0) (d := (some (path 12 69))) (by kernel_rfl) (by kernel_rfl) (by kernel_rfl) b1) (σ' := (qhc7 [(8, ii x8_2), (10, .int .u32 o3.1), (68, .agg (rowC (encI .i64) o3.2).toArray), (69, .agg (rowC (encI .i64) lh3_2).toArray)])) (by kernel_rfl) ?_
    refine XR.rd E0_ok [0, 3, 4, 5, 8, 10, 70] rfl (v := .bool (o3.2 == lh3_2)) (v_eqA (neg := false) (n := 25) (x := (src 73 (.tmp 68))) (y := (src 73 (.tmp 69))) (d := (some (path 12 70))) (L := o3.2) (M := lh3_2) (by kernel_rfl) (by kernel_rfl) (by kernel_rfl) (of_decide_eq_true b3) (of_decide_eq_true b1) rfl) (σ' := (qhc7 [(8, ii x8_2), (10, .int .u32 o3.1), (70, .bool (o3.2 == lh3_2))])) (by kernel_rfl) ?_
    refine dQ ?_
    show XQ _ _ _ _ _ _ _ _
    cases b4 : (o3.2 == lh3_2 : Bool) with
    | true =>
     have h := cT b4 h
     refine iT (.tmp 70) ?_
     refine qQ ?_
     refine XR.rd E0_ok [4, 71] rfl (v := .agg (rowC (encI .i64) o3.2).toArray) (v_loadA (n := 25) (x := (src 73 (.tmp 5))) (b := 3) (L := o3.2) (fz := 0) (e := 67) (es := 0) (d := (some (path 12 71))) (by kernel_rfl) (by kernel_rfl) (by kernel_rfl) b3) (σ' := [(4, pp 2 0), (71, .agg (rowC (encI .i64) o3.2).toArray)]) (by kernel_rfl) ?_
     refine XR.ef E0_ok [4] rfl (e_storeA (k := .i64) (n := 25) (x := (src 73 (.tmp 4))) (y := (src 73 (.tmp 71))) (b := 2) (cs := [ii 0, ii 0, ii 0, ii 0, ii 0, ii 0, ii 0, ii 0, ii 0, ii 0, ii 0, ii 0, ii 0, ii 0, ii 0, ii 0, ii 0, ii 0, ii 0, ii 0, ii 0, ii 0, ii 0, ii 0, ii 0]) (e := 67) (es := 0) (d := none) (L := o3.2) (h' := [(4, rc (encI .i64) lh3_2 0 67 0), (3, rc (encI .i64) o3.2 0 67 0), (2, rc (encI .i64) o3.2 0 67 0), (1, .cells [.int .u32 b_sick, .int .u32 b_frozen] 0 63 0), (0, .cells ([ii a_rows, ii a_columns, ii a_bales] ++ rowC (encI .u32) a_near) z0 72 0)]) (by kernel_rfl) (by kernel_rfl) (by kernel_rfl) rfl (by kernel_rfl) (of_decide_eq_true b3) rfl (by kernel_rfl)) (σ' := [(4, pp 2 0)]) (by kernel_rfl) ?_
     refine dQ ?_
     show XQ _ _ _ _ _ _ _ _
     refine XQ.ren (σ' := [(4, pp 1 0)]) (h' := [(1, rc (encI .i64) o3.2 0 67 0), (0, .cells ([ii a_rows, ii a_columns, ii a_bales] ++ rowC (encI .u32) a_near) z0 72 0)]) (c' := 2) [0, 2] (by decide) rfl ⟨rfl, trivial⟩ ⟨⟨_, _, rfl, rfl, .inl ⟨rfl, rwI⟩⟩, ⟨_, _, rfl, rfl, .inl ⟨rfl, preC_scal rfl (rowC_scal (encI_ok .u32) _)⟩⟩, trivial⟩ rfl ?_
     refine XQ.ret (by kernel_rfl) ?_
     cases h
     exact hQ
    | false =>
     have h := cF b4 h
     refine iF (.tmp 70) ?_
     refine kQ ?_
     show XQ _ _ _ _ _ _ _ _
     refine rQ ?_
     refine rS 2 (qhc7 [(7, .int .u32 o3.1), (8, ii x8_2)]) ?_
     refine dQ ?_
     show XQ _ _ _ _ _ _ _ _
     refine rQ ?_
     refine rS 3 (qhc7 [(7, .int .u32 o3.1), (8, ii (w64 (x8_2 + 1)))]) ?_
     refine dQ ?_
     show XL _ _ _ _ _ _ _ _ _
     refine XL.ren (σ' := (qhc7 [(7, .int .u32 o3.1), (8, ii (w64 (x8_2 + 1)))])) (h' := ((3, rc (encI .i64) o3.2 0 67 0) :: qhc6 b_frozen b_sick [(0, .cells ([ii a_rows, ii a_columns, ii a_bales] ++ rowC (encI .u32) a_near) z0 72 0)])) (c' := 4) [0, 1, 2, 3] (by decide) rfl ⟨rfl, rfl, rfl, rfl, rfl, rfl, trivial⟩ ⟨⟨_, _, rfl, rfl, .inl ⟨rfl, rwI⟩⟩, ⟨_, _, rfl, rfl, .inr ⟨_, _, _, _, rfl, rfl⟩⟩, ⟨_, _, rfl, rfl, .inr ⟨_, _, _, _, rfl, rfl⟩⟩, ⟨_, _, rfl, rfl, .inl ⟨rfl, preC_scal rfl (rowC_scal (encI_ok .u32) _)⟩⟩, trivial⟩ rfl ?_
     refine XL.conv (f25_2_ok m fuel z0 a_rows a_columns a_bales a_near b_sick b_frozen o3.1 (w64 (x8_2 + 1)) o3.2 o h Q hQ) (by first | with_reducible rfl | simp | rfl)
def f25 (m : Nat) (a_rows : Int) (a_columns : Int) (a_bales : Int) (a_near : List Int) (b_sick : Int) (b_frozen : Int) : Option (List Int) :=
 (f25_1 m m a_rows a_columns a_bales a_near b_sick b_frozen 0 [0, 0, 0, 0, 0, 0, 0, 0, 0, 0, 0, 0, 0, 0, 0, 0, 0, 0, 0, 0, 0, 0, 0, 0, 0]).bind fun o1 =>
  (f25_2 m m a_rows a_columns a_bales a_near b_sick b_frozen b_sick 1 o1).bind fun o2 =>
   cond (decide (o2.length = 25)) (
    some (o2)
   ) none
abbrev qhc8 (b_frozen : Int) (b_sick : Int) (t : Heap) : Heap := (2, .cells [ii 0, ii 0, ii 0, ii 0, ii 0, ii 0, ii 0, ii 0, ii 0, ii 0, ii 0, ii 0, ii 0, ii 0, ii 0, ii 0, ii 0, ii 0, ii 0, ii 0, ii 0, ii 0, ii 0, ii 0, ii 0] 0 67 0) :: (1, .cells [.int .u32 b_sick, .int .u32 b_frozen] 0 63 0) :: t
abbrev qhc9 (t : St) : St := (0, pp 0 0) :: (3, pp 1 0) :: (4, pp 2 0) :: (5, pp 3 0) :: t
theorem f25_ok (m : Nat) (z0 : Nat) (a_rows : Int) (a_columns : Int) (a_bales : Int) (a_near : List Int) (b_sick : Int) (b_frozen : Int) (o : List Int) (h : f25 m a_rows a_columns a_bales a_near b_sick b_frozen = some o) : KC E0 25 [pp 0 0, .agg #[.int .u32 b_sick, .int .u32 b_frozen]] [(0, .cells ([ii a_rows, ii a_columns, ii a_bales] ++ rowC (encI .u32) a_near) z0 72 0)] 1 (fun v _ _ => v = .agg (rowC (encI .i64) o).toArray) := by
 refine KC.bodyN E0_ok (F := Proofs.Tryz.f25) (by kernel_rfl) (code := f25_C25) (by kernel_rfl) (nt := 73) (by kernel_rfl) (rs := [.cell 4 67]) (by kernel_rfl) (by kernel_rfl) (σ := [(0, pp 0 0), (1, .agg #[.int .u32 b_sick, .int .u32 b_frozen])]) (by kernel_rfl) ?_
 unfold f25 at h
 refine qQ ?_
 refine rT 2 [(0, pp 0 0), (3, pp 1 0), (4, pp 2 0)] (qhc8 b_frozen b_sick [(0, .cells ([ii a_rows, ii a_columns, ii a_bales] ++ rowC (encI .u32) a_near) z0 72 0)]) 3 ?_
 refine nQ id ?_
 refine rT 1 (qhc9 []) ((3, .cells [ii 0, ii 0, ii 0, ii 0, ii 0, ii 0, ii 0, ii 0, ii 0, ii 0, ii 0, ii 0, ii 0, ii 0, ii 0, ii 0, ii 0, ii 0, ii 0, ii 0, ii 0, ii 0, ii 0, ii 0, ii 0] 0 67 0) :: qhc8 b_frozen b_sick [(0, .cells ([ii a_rows, ii a_columns, ii a_bales] ++ rowC (encI .u32) a_near) z0 72 0)]) 4 ?_
 refine dQ ?_
 show XQ _ _ _ _ _ _ _ _
 refine sQ ?_
 refine qQ ?_
 refine rS 1 (qhc9 [(12, ii 0)]) ?_
 refine dQ ?_
 show XQ _ _ _ _ _ _ _ _
 refine XQ.block (id := 0) (by kernel_rfl) ?_
 refine XQ.loop m (by kernel_rfl) ?_
 obtain ⟨o1, o1_h, h⟩ := bS h
 refine XL.ren (σ' := (qhc9 [(12, ii 0)])) (h' := ((3, .cells [ii 0, ii 0, ii 0, ii 0, ii 0, ii 0, ii 0, ii 0, ii 0, ii 0, ii 0, ii 0, ii 0, ii 0, ii 0, ii 0, ii 0, ii 0, ii 0, ii 0, ii 0, ii 0, ii 0, ii 0, ii 0] 0 67 0) :: qhc8 b_frozen b_sick [(0, .cells ([ii a_rows, ii a_columns, ii a_bales] ++ rowC (encI .u32) a_near) z0 72 0)])) (c' := 4) [0, 1, 2, 3] (by decide) rfl ⟨rfl, rfl, rfl, rfl, rfl, trivial⟩ ⟨⟨_, _, rfl, rfl, .inr ⟨_, _, _, _, rfl, rfl⟩⟩, ⟨_, _, rfl, rfl, .inr ⟨_, _, _, _, rfl, rfl⟩⟩, ⟨_, _, rfl, rfl, .inr ⟨_, _, _, _, rfl, rfl⟩⟩, ⟨_, _, rfl, rfl, .inl ⟨rfl, preC_scal rfl (rowC_scal (encI_ok .u32) _)⟩⟩, trivial⟩ rfl ?_
 refine XL.conv (σ' := (qhc9 [(12, ii 0)])) (h' := ((3, rc (encI .i64) [0, 0, 0, 0, 0, 0, 0, 0, 0, 0, 0, 0, 0, 0, 0, 0, 0, 0, 0, 0, 0, 0, 0, 0, 0] 0 67 0) :: qhc8 b_frozen b_sick [(0, .cells ([ii a_rows, ii a_columns, ii a_bales] ++ rowC (encI .u32) a_near) z0 72 0)])) (c' := 4) ?_ (by kernel_rfl)
 refine XL.conv (f25_1_ok m m z0 a_rows a_columns a_bales a_near b_sick b_frozen 0 [0, 0, 0, 0, 0, 0, 0, 0, 0, 0, 0, 0, 0, 0, 0, 0, 0, 0, 0, 0, 0, 0, 0, 0, 0] o1 o1_h _ ?_) (by first | with_reducible rfl | simp | rfl)
 show XQ _ _ _ _ _ _ _ _
 refine qQ ?_
 refine rS 3 (qhc9 [(7, .int .u32 b_sick)]) ?_
 refine nQ id ?_
 refine rS 1 (qhc9 [(7, .int .u32 b_sick), (8, ii 1)]) ?_
 refine dQ ?_
 show XQ _ _ _ _ _ _ _ _
 refine XQ.block (id := 2) (by kernel_rfl) ?_
 refine XQ.loop m (by kernel_rfl) ?_
 obtain ⟨o2, o2_h, h⟩ := bS h
 refine XL.ren (σ' := (qhc9 [(7, .int .u32 b_sick), (8, ii 1)])) (h' := ((3, rc (encI .i64) o1 0 67 0) :: qhc8 b_frozen b_sick [(0, .cells ([ii a_rows, ii a_columns, ii a_bales] ++ rowC (encI .u32) a_near) z0 72 0)])) (c' := 4) [0, 1, 2, 3] (by decide) rfl ⟨rfl, rfl, rfl, rfl, rfl, rfl, trivial⟩ ⟨⟨_, _, rfl, rfl, .inl ⟨rfl, rwI⟩⟩, ⟨_, _, rfl, rfl, .inr ⟨_, _, _, _, rfl, rfl⟩⟩, ⟨_, _, rfl, rfl, .inr ⟨_, _, _, _, rfl, rfl⟩⟩, ⟨_, _, rfl, rfl, .inl ⟨rfl, preC_scal rfl (rowC_scal (encI_ok .u32) _)⟩⟩, trivial⟩ rfl ?_
 refine XL.conv (f25_2_ok m m z0 a_rows a_columns a_bales a_near b_sick b_frozen b_sick 1 o1 o2 o2_h _ ?_) (by first | with_reducible rfl | simp | rfl)
 cases b3 : (decide (o2.length = 25) : Bool) with
 | false => cases (cF b3 h)
 | true =>
  have h := cT b3 h
  have h := Option.some.inj h
  subst h
  exact ⟨fun i q => (by cases q), .agg (rowC (encI .i64) o2).toArray, resA (k := .i64) (b := 1) (L := o2) (fz := 0) (e := 67) (es := 0) (by kernel_rfl) (by kernel_rfl) (by kernel_rfl) (of_decide_eq_true b3), rfl⟩
noncomputable def f7_C7 : Code := Proofs.Tryz.f7.body.getD .skip
def f7 (m : Nat) (a_Rows : Int) (a_Columns : Int) (a_Sick : List Int) (a_Frozen : List Int) : Option ((List Int) × Int) :=
 (f24 m a_Rows a_Columns a_Sick a_Frozen).bind fun r1 =>
  cond (r1.2.2.2.2.2.2 != 0) (
   some ([], r1.2.2.2.2.2.2)
  ) (
   (f25 m r1.1 r1.2.1 r1.2.2.1 r1.2.2.2.1 r1.2.2.2.2.1 r1.2.2.2.2.2.1).bind fun r2 =>
    cond (decide (r2.length = 25)) (
     cond (cutOK 0 r1.2.2.1 ((25 : Nat) : Int) 25) (
      cond (decide (0 + (Int.toNat r1.2.2.1) ≤ r2.length)) (
       cond (decide ((Int.toNat r1.2.2.1) ≤ 25)) (
        cond (fitsB (Int.toNat r1.2.2.1) 8) (
         some (List.take (Int.toNat r1.2.2.1) (List.drop 0 r2), 0)
        ) none
       ) none
      ) none
     ) none
    ) none
  )
abbrev qhc10 (a_Columns : Int) (a_Frozen : List Int) (a_Rows : Int) (a_Sick : List Int) (y0 : Nat) (y1 : Nat) (z0 : Nat) (z1 : Nat) (t : Heap) : Heap := (2, .cells [ii a_Rows, ii a_Columns, s0 0 a_Sick.length, s0 1 a_Frozen.length] 0 29 0) :: (1, rc (encI .i64) a_Frozen z1 y1 1) :: (0, rc (encI .i64) a_Sick z0 y0 1) :: t
theorem f7_ok (m : Nat) (z0 : Nat) (y0 : Nat) (z1 : Nat) (y1 : Nat) (a_Rows : Int) (a_Columns : Int) (a_Sick : List Int) (a_Frozen : List Int) (o : (List Int) × Int) (h : f7 m a_Rows a_Columns a_Sick a_Frozen = some o) : KC E0 7 [.agg #[ii a_Rows, ii a_Columns, s0 0 a_Sick.length, s0 1 a_Frozen.length]] [(1, rc (encI .i64) a_Frozen z1 y1 1), (0, rc (encI .i64) a_Sick z0 y0 1)] 2 (fun v h' c' => v = .tuple #[s0 2 o.1.length, ii o.2] ∧ h' = [(2, rI o.1)] ++ [(1, rc (encI .i64) a_Frozen z1 y1 1), (0, rc (encI .i64) a_Sick z0 y0 1)] ∧ c' = 3) := by
 refine KC.bodyN E0_ok (F := Proofs.Tryz.f7) (by kernel_rfl) (code := f7_C7) (by kernel_rfl) (nt := 26) (by kernel_rfl) (rs := [.tmp 2, .tmp 3]) (by kernel_rfl) (by kernel_rfl) (σ := [(0, .agg #[ii a_Rows, ii a_Columns, s0 0 a_Sick.length, s0 1 a_Frozen.length])]) (by kernel_rfl) ?_
 unfold f7 at h
 refine qQ ?_
 refine rT 3 [(1, pp 2 0)] (qhc10 a_Columns a_Frozen a_Rows a_Sick y0 y1 z0 z1 []) 3 ?_
 refine nQ id ?_
 refine rS 1 [(9, .agg #[ii a_Rows, ii a_Columns, s0 0 a_Sick.length, s0 1 a_Frozen.length])] ?_
 obtain ⟨r1, r1_h, h⟩ := bS h
 refine XR.call E0_ok [10] rfl (K := 24) (args := [.agg #[ii a_Rows, ii a_Columns, s0 0 a_Sick.length, s0 1 a_Frozen.length]]) (d := (some (path 12 10))) (by kernel_rfl) (KC.liftH (n0 := 2) (m := 1) (args0 := [.agg #[ii a_Rows, ii a_Columns, s0 0 a_Sick.length, s0 1 a_Frozen.length]]) (h0 := [(1, rc (encI .i64) a_Frozen (z1 + ((rowC (encI .i64) a_Frozen).length + 1)) y1 1), (0, rc (encI .i64) a_Sick (z0 + ((rowC (encI .i64) a_Sick).length + 1)) y0 1)]) (V := .tuple #[pp 2 0, .agg #[.int .u32 r1.2.2.2.2.1, .int .u32 r1.2.2.2.2.2.1], ii r1.2.2.2.2.2.2]) (V2 := .tuple #[pp 3 0, .agg #[.int .u32 r1.2.2.2.2.1, .int .u32 r1.2.2.2.2.2.1], ii r1.2.2.2.2.2.2]) (H := [(2, .cells ([ii r1.1, ii r1.2.1, ii r1.2.2.1] ++ rowC (encI .u32) r1.2.2.2.1) 0 72 0)]) (H2 := [(3, .cells ([ii r1.1, ii r1.2.1, ii r1.2.2.1] ++ rowC (encI .u32) r1.2.2.2.1) 0 72 0)]) [0, 1] [3, 4, 5, 2] (f24_ok m (z0 + ((rowC (encI .i64) a_Sick).length + 1)) y0 (z1 + ((rowC (encI .i64) a_Frozen).length + 1)) y1 a_Rows a_Columns a_Sick a_Frozen r1 r1_h) (by rfl) (by decide) rfl (by kernel_rfl) ⟨⟨_, _, rfl, rfl, .inl ⟨rfl, rwI⟩⟩, ⟨_, _, rfl, rfl, .inl ⟨rfl, rwI⟩⟩, trivial⟩ (by decide) (by decide) (by kernel_rfl) ⟨⟨_, _, rfl, rfl, .inl ⟨rfl, preC_scal rfl (rowC_scal (encI_ok .u32) _)⟩⟩, trivial⟩ (by rfl)) ?_
 rintro _ _ _ ⟨rfl, rfl, rfl⟩
 refine XR.conv (σ' := [(10, .tuple #[pp 3 0, .agg #[.int .u32 r1.2.2.2.2.1, .int .u32 r1.2.2.2.2.2.1], ii r1.2.2.2.2.2.2])]) (h' := ((3, .cells ([ii r1.1, ii r1.2.1, ii r1.2.2.1] ++ rowC (encI .u32) r1.2.2.2.1) 0 72 0) :: qhc10 a_Columns a_Frozen a_Rows a_Sick y0 y1 z0 z1 [])) (c' := 4) ?_ (by kernel_rfl)
 refine rT 8 [(4, pp 3 0), (5, pp 4 0), (6, ii r1.2.2.2.2.2.2)] ((4, .cells [.int .u32 r1.2.2.2.2.1, .int .u32 r1.2.2.2.2.2.1] 0 63 0) :: (3, .cells ([ii r1.1, ii r1.2.1, ii r1.2.2.1] ++ rowC (encI .u32) r1.2.2.2.1) 0 72 0) :: qhc10 a_Columns a_Frozen a_Rows a_Sick y0 y1 z0 z1 []) 5 ?_
 refine dQ ?_
 show XQ _ _ _ _ _ _ _ _
 refine sQ ?_
 refine qQ ?_
 refine rS 2 [(4, pp 3 0), (5, pp 4 0), (6, ii r1.2.2.2.2.2.2), (15, .bool (r1.2.2.2.2.2.2 != 0))] ?_
 refine dQ ?_
 show XQ _ _ _ _ _ _ _ _
 cases b1 : (r1.2.2.2.2.2.2 != 0 : Bool) with
 | true =>
  have h := cT b1 h
  refine iT (.tmp 15) ?_
  refine qQ ?_
  refine rS 3 [(2, .slice none 0 0), (3, ii r1.2.2.2.2.2.2)] ?_
  refine dQ ?_
  show XQ _ _ _ _ _ _ _ _
  refine XQ.ghost 3 1 rfl (σ' := [(2, s0 5 0), (3, ii r1.2.2.2.2.2.2)]) (h' := ((4, .cells [.int .u32 r1.2.2.2.2.1, .int .u32 r1.2.2.2.2.2.1] 0 63 0) :: (3, .cells ([ii r1.1, ii r1.2.1, ii r1.2.2.1] ++ rowC (encI .u32) r1.2.2.2.1) 0 72 0) :: qhc10 a_Columns a_Frozen a_Rows a_Sick y0 y1 z0 z1 [])) ⟨rfl, rfl, trivial⟩ ⟨⟨_, rfl, .inl rfl⟩, ⟨_, rfl, .inl rfl⟩, ⟨_, rfl, .inl rfl⟩, ⟨_, rfl, .inl rfl⟩, ⟨_, rfl, .inl rfl⟩, trivial⟩ ?_
  refine XQ.conv (σ' := [(2, s0 5 0), (3, ii r1.2.2.2.2.2.2)]) (h' := ((5, rI []) :: (4, .cells [.int .u32 r1.2.2.2.2.1, .int .u32 r1.2.2.2.2.2.1] 0 63 0) :: (3, .cells ([ii r1.1, ii r1.2.1, ii r1.2.2.1] ++ rowC (encI .u32) r1.2.2.2.1) 0 72 0) :: qhc10 a_Columns a_Frozen a_Rows a_Sick y0 y1 z0 z1 [])) (c' := 6) ?_ (by kernel_rfl)
  refine XQ.ren (σ' := [(2, s0 2 0), (3, ii r1.2.2.2.2.2.2)]) (h' := [(2, rI []), (1, rc (encI .i64) a_Frozen z1 y1 1), (0, rc (encI .i64) a_Sick z0 y0 1)]) (c' := 3) [0, 1, 5] (by decide) rfl ⟨rfl, rfl, trivial⟩ ⟨⟨_, _, rfl, rfl, .inl ⟨rfl, rwI⟩⟩, ⟨_, _, rfl, rfl, .inl ⟨rfl, rwI⟩⟩, ⟨_, _, rfl, rfl, .inl ⟨rfl, rwI⟩⟩, trivial⟩ rfl ?_
  refine XQ.ret (by kernel_rfl) ?_
  have h := Option.some.inj h
  subst h
  exact ⟨fun i q => (by cases q), .tuple #[s0 2 0, ii r1.2.2.2.2.2.2], (by kernel_rfl), (by kernel_rfl), (by kernel_rfl), rfl⟩
 | false =>
  have h := cF b1 h
  refine iF (.tmp 15) ?_
  refine kQ ?_
  show XQ _ _ _ _ _ _ _ _
  refine qQ ?_
  refine rS 2 [(4, pp 3 0), (17, pp 3 0), (18, .agg #[.int .u32 r1.2.2.2.2.1, .int .u32 r1.2.2.2.2.2.1])] ?_
  obtain ⟨r2, r2_h, h⟩ := bS h
  refine XR.call E0_ok [4, 19] rfl (K := 25) (args := [pp 3 0, .agg #[.int .u32 r1.2.2.2.2.1, .int .u32 r1.2.2.2.2.2.1]]) (d := (some (path 12 19))) (by kernel_rfl) (KQ.call (KC.quiet E0_ok (args0 := [pp 0 0, .agg #[.int .u32 r1.2.2.2.2.1, .int .u32 r1.2.2.2.2.2.1]]) (h0 := [(0, .cells ([ii r1.1, ii r1.2.1, ii r1.2.2.1] ++ rowC (encI .u32) r1.2.2.2.1) (0 + (([ii r1.1, ii r1.2.1, ii r1.2.2.1] ++ rowC (encI .u32) r1.2.2.2.1).length + 1)) 72 0)]) (n := 1) (V := .agg (rowC (encI .i64) r2).toArray) [3] (f25_ok m (0 + (([ii r1.1, ii r1.2.1, ii r1.2.2.1] ++ rowC (encI .u32) r1.2.2.2.1).length + 1)) r1.1 r1.2.1 r1.2.2.1 r1.2.2.2.1 r1.2.2.2.2.1 r1.2.2.2.2.2.1 r2 r2_h) (plain_aggl _ _) (by rfl) (by decide) rfl (by kernel_rfl) ⟨⟨_, _, rfl, rfl, .inl ⟨rfl, preC_scal rfl (rowC_scal (encI_ok .u32) _)⟩⟩, trivial⟩) (plain_aggl _ _)) ?_
  rintro _ _ _ ⟨rfl, rfl, rfl⟩
  refine XR.conv (σ' := [(4, pp 3 0), (19, .agg (rowC (encI .i64) r2).toArray)]) (h' := ((4, .cells [.int .u32 r1.2.2.2.2.1, .int .u32 r1.2.2.2.2.2.1] 0 63 0) :: (3, .cells ([ii r1.1, ii r1.2.1, ii r1.2.2.1] ++ rowC (encI .u32) r1.2.2.2.1) 0 72 0) :: qhc10 a_Columns a_Frozen a_Rows a_Sick y0 y1 z0 z1 [])) (c' := 5) ?_ (by kernel_rfl)
  refine rT 1 [(4, pp 3 0), (7, pp 5 0), (19, .agg (rowC (encI .i64) r2).toArray)] ((5, .cells [ii 0, ii 0, ii 0, ii 0, ii 0, ii 0, ii 0, ii 0, ii 0, ii 0, ii 0, ii 0, ii 0, ii 0, ii 0, ii 0, ii 0, ii 0, ii 0, ii 0, ii 0, ii 0, ii 0, ii 0, ii 0] 0 67 0) :: (4, .cells [.int .u32 r1.2.2.2.2.1, .int .u32 r1.2.2.2.2.2.1] 0 63 0) :: (3, .cells ([ii r1.1, ii r1.2.1, ii r1.2.2.1] ++ rowC (encI .u32) r1.2.2.2.1) 0 72 0) :: qhc10 a_Columns a_Frozen a_Rows a_Sick y0 y1 z0 z1 []) 6 ?_
  cases b2 : (decide (r2.length = 25) : Bool) with
  | false => cases (cF b2 h)
  | true =>
   have h := cT b2 h
   refine XR.ef E0_ok [4, 7] rfl (e_storeA (k := .i64) (n := 25) (x := (src 26 (.tmp 7))) (y := (src 26 (.tmp 19))) (b := 5) (cs := [ii 0, ii 0, ii 0, ii 0, ii 0, ii 0, ii 0, ii 0, ii 0, ii 0, ii 0, ii 0, ii 0, ii 0, ii 0, ii 0, ii 0, ii 0, ii 0, ii 0, ii 0, ii 0, ii 0, ii 0, ii 0]) (e := 67) (es := 0) (d := none) (L := r2) (h' := ((5, rc (encI .i64) r2 0 67 0) :: (4, .cells [.int .u32 r1.2.2.2.2.1, .int .u32 r1.2.2.2.2.2.1] 0 63 0) :: (3, .cells ([ii r1.1, ii r1.2.1, ii r1.2.2.1] ++ rowC (encI .u32) r1.2.2.2.1) 0 72 0) :: qhc10 a_Columns a_Frozen a_Rows a_Sick y0 y1 z0 z1 [])) (by kernel_rfl) (by kernel_rfl) (by kernel_rfl) rfl (by kernel_rfl) (of_decide_eq_true b2) rfl (by kernel_rfl)) (σ' := [(4, pp 3 0), (7, pp 5 0)]) (by kernel_rfl) ?_
   refine nQ id ?_
   refine rS 4 [(7, pp 5 0), (23, ii r1.2.2.1)] ?_
   cases b3 : (cutOK 0 r1.2.2.1 ((25 : Nat) : Int) 25 : Bool) with
   | false => cases (cF b3 h)
   | true =>
    have h := cT b3 h
    refine XR.rd E0_ok [24] rfl (v := sl 5 0 (Int.toNat r1.2.2.1) 25) (v_cutA (nt := 26) (s := 1) (n := 25) (x := (src 26 (.tmp 7))) (lo := none) (hi := (some (.tmp 23))) (b := 5) (o := 0) (l := none) (u := (some r1.2.2.1)) (cs := rowC (encI .i64) r2) (fz := 0) (e := 67) (o' := 0) (len' := Int.toNat r1.2.2.1) (cap' := 25) (d := (some (path 12 24))) (by kernel_rfl) (by kernel_rfl) (by kernel_rfl) (by kernel_rfl) (by kernel_rfl) b3 (by simp only [Option.getD_none, Option.getD_some] <;> omega) (by simp only [Option.getD_none, Option.getD_some] <;> omega) (by simp only [Option.getD_none, Option.getD_some] <;> omega)) (σ' := [(24, sl 5 0 (Int.toNat r1.2.2.1) 25)]) (by kernel_rfl) ?_
    cases b4 : (decide (0 + (Int.toNat r1.2.2.1) ≤ r2.length) : Bool) with
    | false => cases (cF b4 h)
    | true =>
     have h := cT b4 h
     cases b5 : (decide ((Int.toNat r1.2.2.1) ≤ 25) : Bool) with
     | false => cases (cF b5 h)
     | true =>
      have h := cT b5 h
      cases b6 : (fitsB (Int.toNat r1.2.2.1) 8 : Bool) with
      | false => cases (cF b6 h)
      | true =>
       have h := cT b6 h
       refine XR.call E0_ok [25] rfl (K := 26) (args := [sl 5 0 (Int.toNat r1.2.2.1) 25]) (d := (some (path 12 25))) (by kernel_rfl) (clone26_part (xs := r2) (fz := 0) (e0 := 67) (es0 := 0) (c := 6) 0 (by kernel_rfl) (by simp) b4 b5 b6) ?_
       rintro _ _ _ ⟨rfl, rfl, rfl⟩
       refine XR.conv (σ' := [(25, s0 7 ((List.take (Int.toNat r1.2.2.1) (List.drop 0 r2)).length))]) (h' := ((7, rI (List.take (Int.toNat r1.2.2.1) (List.drop 0 r2))) :: (5, rc (encI .i64) r2 0 67 0) :: (4, .cells [.int .u32 r1.2.2.2.2.1, .int .u32 r1.2.2.2.2.2.1] 0 63 0) :: (3, .cells ([ii r1.1, ii r1.2.1, ii r1.2.2.1] ++ rowC (encI .u32) r1.2.2.2.1) 0 72 0) :: qhc10 a_Columns a_Frozen a_Rows a_Sick y0 y1 z0 z1 [])) (c' := 8) ?_ (by kernel_rfl)
       refine rS 2 [(2, s0 7 ((List.take (Int.toNat r1.2.2.1) (List.drop 0 r2)).length)), (3, ii 0)] ?_
       refine dQ ?_
       show XQ _ _ _ _ _ _ _ _
       refine XQ.ren (σ' := [(2, s0 2 ((List.take (Int.toNat r1.2.2.1) (List.drop 0 r2)).length)), (3, ii 0)]) (h' := [(2, rI (List.take (Int.toNat r1.2.2.1) (List.drop 0 r2))), (1, rc (encI .i64) a_Frozen z1 y1 1), (0, rc (encI .i64) a_Sick z0 y0 1)]) (c' := 3) [0, 1, 7] (by decide) rfl ⟨rfl, rfl, trivial⟩ ⟨⟨_, _, rfl, rfl, .inl ⟨rfl, rwI⟩⟩, ⟨_, _, rfl, rfl, .inl ⟨rfl, rwI⟩⟩, ⟨_, _, rfl, rfl, .inl ⟨rfl, rwI⟩⟩, trivial⟩ rfl ?_
       refine XQ.ret (by kernel_rfl) ?_
       have h := Option.some.inj h
       subst h
       exact ⟨fun i q => (by cases q), .tuple #[s0 2 ((List.take (Int.toNat r1.2.2.1) (List.drop 0 r2)).length), ii 0], (by kernel_rfl), (by kernel_rfl), (by kernel_rfl), rfl⟩
end Go.Xm
