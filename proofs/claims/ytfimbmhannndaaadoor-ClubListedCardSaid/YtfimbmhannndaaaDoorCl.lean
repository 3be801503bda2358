/- slices.Clone, by contract: a new row with the same elements, whether the slice is nil or not. Conditions: none. -/
import Derived.Test.YtfimbmhannndaaaDoorTe
import Derived.Test.YtfimbmhannndaaaDoorMq
namespace Go.Xm
open Go.RowKit
set_option linter.unusedVariables false
set_option linter.unusedSimpArgs false
set_option maxRecDepth 20000
theorem HRel.free {B : Bd} {ρ : Rho} {h : Heap} {w : World} (H : HRel B ρ h w) {c : Nat} (hc : ρ.length = c) : hget h c = none := by
  cases hg : hget h c with
  | none => rfl
  | some o =>
    obtain ⟨L, l1, _⟩ := H.ok c o hg
    have := (List.getElem?_eq_some_iff.1 l1).1
    omega
theorem HRel.ghostRow {B : Bd} {ρ : Rho} {h : Heap} {w : World} (H : HRel B ρ h w) (hB : B.n ≤ w.heap.size) (e : TypeId) {s : Nat} (hs : s ≠ 0) : HRel B (ρ ++ [⟨w.heap.size, 0, 0, s⟩]) ((ρ.length, .cells [] 0 e s) :: h) w :=
  H.new hB (Nat.le_refl _) (fun _ _ => rfl) ⟨rfl, .inl ⟨⟨hs, rfl⟩, rfl⟩⟩
theorem e_append0 {s : Nat} {g : Ins} {d : Option (List Bool)} {bytes : Nat} {e : TypeId} {x y : Src} {t : Tr} {h : Heap} {c : Nat} (hI : g = .ef d (eAppend false s bytes e x y)) {b : Nat} (hx : ev t x = .slice (some ⟨b, 0, none⟩) 0 0) {cs : List Value}
    (hg : hget h b = some (.cells cs 0 e s)) {l : List Value} (hy : fetch h s (ev t y) = some (0, l)) (hl : (Nat.ble 1 s && l.all one1) = true) : insE g t h c = some (.slice (some ⟨b, 0, none⟩) 0 0, h, c) := by
  subst hI
  simp only [Bool.and_eq_true] at hl
  have b1 : Nat.ble (0 + 0 * s) cs.length = true := by rw [Nat.ble_eq]; omega
  have b2 : Nat.ble ((0 + 0) * bytes) 1000000000 = true := by rw [Nat.ble_eq]; omega
  have b3 : Nat.beq e e = true := Nat.beq_refl e
  have b5 : Nat.ble 0 (0 * s) = true := by rw [Nat.ble_eq]; omega
  have b6 : Nat.ble 0 0 = true := rfl
  have b7 : Nat.ble (0 + 0) 1000000000 = true := rfl
  cases s with
  | zero => exact absurd hl.1 (by decide)
  | succ s =>
    have b4 : Nat.beq (s + 1) (s + 1) = true := Nat.beq_refl _
    simp only [insE, eAppend, hx, hg, hy, b1, b2, b3, b4, b5, b6, b7, hl.1, hl.2, Bool.and_self]
theorem drop_free {c : Nat} {h : Heap} (hf : hget h c = none) (o o' : XObj) {d : Nat} : ∀ i u, hget ((d, o) :: h) i = some u → hget ((d, o) :: hdel ((c, o') :: h) c) i = some u := by
  intro i u hi
  rw [hget_cons] at hi ⊢
  split
  · rename_i e; rw [if_pos e] at hi; exact hi
  · rename_i e
    rw [if_neg e] at hi
    rw [hget_hdel]
    split
    · rename_i e2; subst e2; rw [hf] at hi; cases hi
    · rename_i e2; rw [hget_cons, if_neg (by omega)]; exact hi
noncomputable def cl55 : Code := Proofs.Tryd.f55.body.getD .skip
theorem clone55_nil (h : Heap) (c : Nat) : KC E0 55 [.slice none 0 0] h c (fun v h' c' => v = .slice none 0 0 ∧ h' = h ∧ c' = c) := by
  refine KC.bodyN E0_ok (F := Proofs.Tryd.f55) (by kernel_rfl) (code := cl55) (by kernel_rfl) (nt := 8) (by kernel_rfl) (rs := [.tmp 2]) (by kernel_rfl) (by kernel_rfl) (σ := [(0, .slice none 0 0)]) (by kernel_rfl) ?_
  refine XQ.seq E0_ok (by kernel_rfl) ?_
  refine XQ.region (by kernel_rfl) ?_
  refine XR.run E0_ok 1 1 [0] rfl (σ' := [(0, .slice none 0 0)]) (h' := h) (c' := c) (by kernel_rfl) ?_
  refine XR.done (by kernel_rfl) ?_
  show XQ _ _ _ _ _ _ _ _
  refine XQ.seq E0_ok (by kernel_rfl) ?_
  refine XQ.seq E0_ok (by kernel_rfl) ?_
  refine XQ.region (by kernel_rfl) ?_
  refine XR.run E0_ok 1 2 [0, 4] rfl (σ' := [(0, .slice none 0 0), (4, .bool true)]) (h' := h) (c' := c) (by kernel_rfl) ?_
  refine XR.done (by kernel_rfl) ?_
  show XQ _ _ _ _ _ _ _ _
  refine XQ.cond (s := (.tmp 4)) (b := true) (by kernel_rfl) (by kernel_rfl) (fun _ => ?_) (fun q => by cases q)
  refine XQ.seq E0_ok (by kernel_rfl) ?_
  refine XQ.region (by kernel_rfl) ?_
  refine XR.run E0_ok 1 1 [2] rfl (σ' := [(2, .slice none 0 0)]) (h' := h) (c' := c) (by kernel_rfl) ?_
  refine XR.done (by kernel_rfl) ?_
  show XQ _ _ _ _ _ _ _ _
  refine XQ.ret (by kernel_rfl) ?_
  exact ⟨fun i q => (by cases q), .slice none 0 0, (by kernel_rfl), rfl, rfl, rfl⟩
theorem clone55_some (V : Value) (hV : (∃ i o, V = .slice (some ⟨i, o, some 1⟩) 0 0) ∨ ∃ i o l cap, V = .slice (some ⟨i, o, none⟩) l (cap + 1)) (ys : List (Int)) (h : Heap) (c : Nat) (hf : ∀ o, fetch ((c, o) :: h) 1 V = some (ys.length, rowC (encI .i64) ys)) (hfit : fitsB ys.length 8 = true) :
    KC E0 55 [V] h c (fun v h' c' => (ys = [] ∧ v = .slice (some ⟨c, 0, none⟩) 0 0 ∧ h' = (c, .cells [] 0 3 1) :: h ∧ c' = c + 1) ∨ (v = .slice (some ⟨c + 1, 0, none⟩) ys.length ys.length ∧ h' = (c + 1, .cells (rowC (encI .i64) ys) 0 3 1) :: hdel ((c, .cells [] 0 3 1) :: h) c ∧ c' = c + 2)) := by
  refine KC.bodyN E0_ok (F := Proofs.Tryd.f55) (by kernel_rfl) (code := cl55) (by kernel_rfl) (nt := 8) (by kernel_rfl) (rs := [.tmp 2]) (by kernel_rfl) (by kernel_rfl) (σ := [(0, V)]) (by kernel_rfl) ?_
  refine XQ.seq E0_ok (by kernel_rfl) ?_
  refine XQ.region (by kernel_rfl) ?_
  refine XR.run E0_ok 1 1 [0] rfl (σ' := [(0, V)]) (h' := h) (c' := c) (by kernel_rfl) ?_
  refine XR.done (by kernel_rfl) ?_
  show XQ _ _ _ _ _ _ _ _
  refine XQ.seq E0_ok (by kernel_rfl) ?_
  refine XQ.seq E0_ok (by kernel_rfl) ?_
  refine XQ.region (by kernel_rfl) ?_
  refine XR.run E0_ok 1 1 [0, 3] rfl (σ' := [(0, V), (3, V)]) (h' := h) (c' := c) (by kernel_rfl) ?_
  refine XR.rd E0_ok [0, 4] rfl (v := .bool false) (σ' := [(0, V), (4, .bool false)]) ?_ (by kernel_rfl) ?_
  · show rSliceNil false (src 8 (.tmp 3)) (.k (.slice none 0 0)) (trS 8 [(0, V), (3, V)]) h = some (.bool false)
    have e3 : ev (trS 8 [(0, V), (3, V)]) (src 8 (.tmp 3)) = V := by kernel_rfl
    unfold rSliceNil
    rw [e3]
    rcases hV with ⟨i, o, rfl⟩ | ⟨i, o, l, cap, rfl⟩ <;> rfl
  refine XR.done (by kernel_rfl) ?_
  show XQ _ _ _ _ _ _ _ _
  refine XQ.cond (s := (.tmp 4)) (b := false) (by kernel_rfl) (by kernel_rfl) (fun q => by cases q) (fun _ => ?_)
  refine XQ.skip (by kernel_rfl) ?_
  show XQ _ _ _ _ _ _ _ _
  refine XQ.seq E0_ok (by kernel_rfl) ?_
  refine XQ.region (by kernel_rfl) ?_
  refine XR.run E0_ok 1 2 [5, 6] rfl (σ' := [(5, .slice (some ⟨c, 0, none⟩) 0 0), (6, V)]) (h' := (c, .cells [] 0 3 1) :: h) (c' := c + 1) (by kernel_rfl) ?_
  have h5 : ev (trS 8 [(5, .slice (some ⟨c, 0, none⟩) 0 0), (6, V)]) (src 8 (.tmp 5)) = .slice (some ⟨c, 0, none⟩) 0 0 := by kernel_rfl
  have h6 : ev (trS 8 [(5, .slice (some ⟨c, 0, none⟩) 0 0), (6, V)]) (src 8 (.tmp 6)) = V := by kernel_rfl
  have hgc : hget ((c, .cells [] 0 3 1) :: h) c = some (.cells (rowC (encI .i64) []) 0 3 1) := by rw [hget_cons, if_pos rfl]; rfl
  have hfc := hf (.cells [] 0 3 1)
  cases ys with
  | nil =>
    refine XR.ef E0_ok [7] rfl (v := .slice (some ⟨c, 0, none⟩) 0 0) (σ' := [(7, .slice (some ⟨c, 0, none⟩) 0 0)]) (h' := (c, .cells [] 0 3 1) :: h) (c' := c + 1) (e_append0 (s := 1) (bytes := 8) (e := 3) (x := src 8 (.tmp 5)) (y := src 8 (.tmp 6)) (d := some (path 12 7)) (by kernel_rfl) h5 (cs := []) hgc (by rw [h6]; exact hfc) rfl) (by kernel_rfl) ?_
    refine XR.run E0_ok 1 1 [2] rfl (σ' := [(2, .slice (some ⟨c, 0, none⟩) 0 0)]) (h' := (c, .cells [] 0 3 1) :: h) (c' := c + 1) (by kernel_rfl) ?_
    refine XR.done (by kernel_rfl) ?_
    show XQ _ _ _ _ _ _ _ _
    refine XQ.ret (by kernel_rfl) ?_
    exact ⟨fun i q => (by cases q), .slice (some ⟨c, 0, none⟩) 0 0, (by kernel_rfl), .inl ⟨rfl, rfl, rfl, rfl⟩⟩
  | cons y ys =>
    refine XR.ef E0_ok [7] rfl (e_append (encI_ok .i64) (bytes := 8) (e := 3) (x := src 8 (.tmp 5)) (y := src 8 (.tmp 6)) (b := c) (len := 0) (cap := 0) (xs := []) (m := ys.length) (ys := y :: ys) (d := some (path 12 7)) (n' := (y :: ys).length) (h' := (c + 1, .cells (rowC (encI .i64) (y :: ys)) 0 3 1) :: hdel ((c, .cells [] 0 3 1) :: h) c) (by kernel_rfl) h5 hgc (by rw [h6]; exact hfc) rfl rfl rfl (by rw [Nat.zero_add]; exact hfit) (by simp) rfl) (σ' := [(7, .slice (some ⟨c + 1, 0, none⟩) (y :: ys).length (y :: ys).length)]) (by kernel_rfl) ?_
    refine XR.run E0_ok 1 1 [2] rfl (σ' := [(2, .slice (some ⟨c + 1, 0, none⟩) (y :: ys).length (y :: ys).length)]) (h' := (c + 1, .cells (rowC (encI .i64) (y :: ys)) 0 3 1) :: hdel ((c, .cells [] 0 3 1) :: h) c) (c' := c + 2) (by kernel_rfl) ?_
    refine XR.done (by kernel_rfl) ?_
    show XQ _ _ _ _ _ _ _ _
    refine XQ.ret (by kernel_rfl) ?_
    exact ⟨fun i q => (by cases q), .slice (some ⟨c + 1, 0, none⟩) (y :: ys).length (y :: ys).length, (by kernel_rfl), .inr ⟨rfl, rfl, rfl⟩⟩
theorem clone55_ok {h : Heap} {c i o len cap : Nat} {xs : List (Int)} {fz : Nat} {e0 : TypeId} {es0 : Nat} (a : Nat) (hg : hget h i = some (.cells (rowC (encI .i64) xs) fz e0 es0)) (ho : o = a * 1) (hal : a + len ≤ xs.length) (hcap : len ≤ cap) (hfit : fitsB len 8 = true) :
    KC E0 55 [.slice (some ⟨i, o, none⟩) len cap] h c (fun v h' c' => v = .slice (some ⟨c + 1, 0, none⟩) len len ∧ h' = (c + 1, .cells (rowC (encI .i64) ((xs.drop a).take len)) 0 3 1) :: h ∧ c' = c + 2) := by
  intro B ρ w args' hargs hH hρ hB hG hI
  have hfree := hH.free hρ
  have hic : i ≠ c := by intro q; subst q; rw [hfree] at hg; cases hg
  obtain ⟨y, rfl⟩ : ∃ y, args' = [y] := by
    have := hargs.1
    match args', this with
    | [y], _ => exact ⟨y, rfl⟩
  have hrel : VRel ρ (.slice (some ⟨i, o, none⟩) len cap) y := hargs.2 0 _ y rfl rfl
  generalize hys : (xs.drop a).take len = ys
  have hylen : ys.length = len := by rw [← hys, List.length_take, List.length_drop]; omega
  -- what is behind a call of a slice that is not nil
  have main : ∀ V : Value, VRel ρ V y → ((∃ i o, V = .slice (some ⟨i, o, some 1⟩) 0 0) ∨ ∃ i o l cap, V = .slice (some ⟨i, o, none⟩) l (cap + 1)) → (∀ o, fetch ((c, o) :: h) 1 V = some (ys.length, rowC (encI .i64) ys)) →
      (callFunc 55 [y].toArray).run E0.P w = .ok (.enter 55 [y].toArray) w ∧ Calls E0.P 55 [y].toArray w (fun e w' => ∃ v v' ρ' h' c', e = .returned v' ∧ VRel ρ' v v' ∧ Rho.le ρ ρ' ∧ ρ'.length = c' ∧ HRel B ρ' h' w' ∧ Bel B w w' ∧ v = .slice (some ⟨c + 1, 0, none⟩) len len ∧ h' = (c + 1, .cells (rowC (encI .i64) ys) 0 3 1) :: h ∧ c' = c + 2) := by
    intro V hV h1 h2
    obtain ⟨q1, q2⟩ := clone55_some V h1 ys h c h2 (by rw [hylen]; exact hfit) B ρ w [y] ⟨rfl, fun j v v' e1 e2 => by
      cases j with
      | zero => cases e1; cases e2; exact hV
      | succ j => cases e1⟩ hH hρ hB hG hI
    refine ⟨q1, q2.mono ?_⟩
    rintro e w' ⟨v, v', ρ', h', c', e1, e2, e3, e4, e5, e6, ⟨y0, rfl, rfl, rfl⟩ | ⟨rfl, rfl, rfl⟩⟩
    · subst y0
      obtain rfl : len = 0 := hylen.symm
      cases e2 with
      | slice _ _ _ _ L o' cap' hL hz h0 hh1 =>
        have hgc : hget ((c, XObj.cells [] 0 3 1) :: h) c = some (.cells [] 0 3 1) := by rw [hget_cons, if_pos rfl]
        obtain ⟨l1, l2⟩ := e5.at hgc hL
        have hLs : L.es = 1 := l2.1
        obtain ⟨b1, b2, b3⟩ := hh1 (by rw [hLs]; decide)
        by_cases hn : L.gho
        · refine ⟨_, .slice (some ⟨L.b, o', none⟩) 0 cap', ρ' ++ [L], _, _, e1, .slice (c + 1) 0 0 0 L o' cap' (by rw [← e4]; simp) (.inr ⟨rfl, rfl⟩) h0 hh1, fun j M hj => Rho.le_push ρ' L j M (e3 j M hj), by simp [e4], ?_, e6, rfl, rfl, rfl⟩
          have HN : HRel B (ρ' ++ [L]) ((ρ'.length, .cells [] 0 3 1) :: h) w' := by
            refine ⟨fun j u hj => ?_, fun j k2 u u' M M' hj hk hM hM' g1 g2 o1 o2 hz hb => ?_⟩
            · rw [hget_cons] at hj
              by_cases ej : ρ'.length = j
              · rw [if_pos ej] at hj; cases hj; subst ej
                exact ⟨L, by simp, fun q => l1 q, hLs, .inl ⟨hn, rfl⟩⟩
              · rw [if_neg ej] at hj
                obtain ⟨M, m1, m2, m3⟩ := e5.ok j u (by rw [hget_cons]; split; · rename_i e0; subst e0; rw [hfree] at hj; cases hj
                                                        · exact hj)
                exact ⟨M, Rho.le_push ρ' L j M m1, m2, m3.mono (Rho.le_push ρ' L)⟩
            · have key : ∀ j u M, hget ((ρ'.length, XObj.cells [] 0 3 1) :: h) j = some u → (ρ' ++ [L])[j]? = some M → ¬ M.gho → own (ρ' ++ [L]) M u → hget ((c, XObj.cells [] 0 3 1) :: h) j = some u ∧ ρ'[j]? = some M ∧ own ρ' M u := by
                intro j u M hj hM hg0 ho0
                rw [hget_cons] at hj
                by_cases ej : ρ'.length = j
                · subst ej
                  have : (ρ' ++ [L])[ρ'.length]? = some L := by simp
                  rw [this] at hM; cases hM
                  exact absurd hn hg0
                · rw [if_neg ej] at hj
                  have hj2 : hget ((c, XObj.cells [] 0 3 1) :: h) j = some u := by
                    rw [hget_cons]; split
                    · rename_i e0; subst e0; rw [hfree] at hj; cases hj
                    · exact hj
                  obtain ⟨N, n1, _, n3⟩ := e5.ok j u hj2
                  have := Rho.le_push ρ' L j N n1
                  rw [hM] at this; cases this
                  exact ⟨hj2, n1, own_down (Rho.le_push ρ' L) n3 ho0⟩
              obtain ⟨a1, a2, a3⟩ := key j u M hj hM g1 o1
              obtain ⟨c1, c2, c3⟩ := key k2 u' M' hk hM' g2 o2
              exact e5.inj j k2 u u' M M' a1 c1 a2 c2 g1 g2 a3 c3 hz hb
          rw [e4] at HN
          exact HN
        · have HM := e5.move (o := .cells [] 0 3 1) (L := L) hgc hL rfl hn (l1 rfl) rfl (fun _ _ _ => rfl) (l2.mono (Rho.le_push ρ' L))
          refine ⟨_, .slice (some ⟨L.b, o', none⟩) 0 cap', ρ' ++ [L], _, _, e1, .slice (c + 1) 0 0 0 L o' cap' (by rw [← e4]; simp) (.inr ⟨rfl, rfl⟩) h0 hh1, fun j M hj => Rho.le_push ρ' L j M (e3 j M hj), by simp [e4], ?_, e6, rfl, rfl, rfl⟩
          rw [e4] at HM
          exact HM.sub (drop_free hfree _ _)
      | sliceN _ _ L hL hes =>
        have HG := (e5.sub (h' := h) (fun j u hj => by
          rw [hget_cons]; split
          · rename_i e0; subst e0; rw [hfree] at hj; cases hj
          · exact hj)).ghostRow (by exact Nat.le_trans hB e6.size) 3 (s := 1) (by decide)
        refine ⟨_, .slice none 0 0, ρ' ++ [⟨w'.heap.size, 0, 0, 1⟩], _, _, e1, .sliceN (c + 1) 0 ⟨w'.heap.size, 0, 0, 1⟩ (by rw [← e4]; simp) ⟨by show 1 ≠ 0; decide, rfl⟩, fun j M hj => Rho.le_push ρ' _ j M (e3 j M hj), by simp [e4], ?_, e6, rfl, rfl, rfl⟩
        rw [e4] at HG
        exact HG
    · refine ⟨_, v', ρ', _, _, e1, by rw [← hylen]; exact e2, e3, e4, e5.sub (drop_free hfree _ _), e6, rfl, rfl, rfl⟩
  have hfe : ∀ (cp : Nat), len ≤ cp → ∀ u : XObj, fetch ((c, u) :: h) 1 (.slice (some ⟨i, o, none⟩) len cp) = some (ys.length, rowC (encI .i64) ys) := by
    intro cp hcp u
    have := fetch_row (f := (encI .i64)) (encI_ok .i64) (h := (c, u) :: h) (b := i) (ys := xs) (fz := fz) (e := e0) (es := es0) (by rw [hget_cons, if_neg (Ne.symm hic)]; exact hg) a len len cp rfl (by rw [Nat.ble_eq]; exact hcp) hal ho
    rw [this, hylen, hys]
  cases hrel with
  | sliceN _ _ L hL hes =>
    obtain rfl : ys = [] := List.eq_nil_of_length_eq_zero hylen
    obtain ⟨q1, q2⟩ := clone55_nil h c B ρ w [.slice none 0 0] ⟨rfl, fun j v v' e1 e2 => by
      cases j with
      | zero => cases e1; cases e2; exact .snil
      | succ j => cases e1⟩ hH hρ hB hG hI
    refine ⟨q1, q2.mono ?_⟩
    rintro e w' ⟨v, v', ρ', h', c', e1, e2, e3, e4, e5, e6, rfl, rfl, rfl⟩
    cases e2
    have H1 := e5.ghostRow (Nat.le_trans hB e6.size) 3 (s := 1) (by decide)
    have H2 := H1.ghostRow (Nat.le_trans hB e6.size) 3 (s := 1) (by decide)
    have hlen2 : (ρ' ++ [(⟨w'.heap.size, 0, 0, 1⟩ : Loc)]).length = c' + 1 := by simp [e4]
    rw [hlen2, e4] at H2
    refine ⟨_, .slice none 0 0, _, _, _, e1, .sliceN (c' + 1) 0 ⟨w'.heap.size, 0, 0, 1⟩ (by rw [← e4]; simp) ⟨by show 1 ≠ 0; decide, rfl⟩, fun j M hj => Rho.le_push _ _ j M (Rho.le_push ρ' _ j M (e3 j M hj)), by simp [e4], H2.sub (fun j u hj => ?_), e6, rfl, rfl, rfl⟩
    rw [hget_cons] at hj ⊢
    split
    · rename_i e0; rw [if_pos e0] at hj; exact hj
    · rename_i e0
      rw [if_neg e0] at hj
      rw [hget_cons]; split
      · rename_i e00; subst e00; rw [hfree] at hj; cases hj
      · exact hj
  | slice _ _ _ _ L o' cap' hL hz h0 hh1 =>
    obtain ⟨LL, l1, l2, l3⟩ := hH.ok i _ hg
    rw [hL] at l1; cases l1
    have hcc : cap ≤ cap' := by
      by_cases z : L.es = 0
      · rw [h0 z]; exact Nat.le_refl _
      · exact (hh1 z).1
    cases cap with
    | succ cp => exact main _ (.slice i o len (cp + 1) L o' cap' hL hz h0 hh1) (.inr ⟨_, _, _, _, rfl⟩) (hfe _ hcap)
    | zero =>
      obtain rfl : len = 0 := by omega
      have y0 : ys = [] := List.eq_nil_of_length_eq_zero hylen
      cases cap' with
      | zero => exact main (.slice (some ⟨0, 0, some 1⟩) 0 0) (.zslice 0 0 1 _ (fun _ => rfl)) (.inl ⟨0, 0, rfl⟩) (fun u => by rw [y0]; rfl)
      | succ cp =>
        by_cases z : L.es = 0
        · have := h0 z; omega
        · obtain ⟨b1, b2, b3⟩ := hh1 z
          refine main (.slice (some ⟨i, o' - L.sh, none⟩) 0 (cp + 1)) (.slice i (o' - L.sh) 0 (cp + 1) L o' (cp + 1) hL (.inl (by omega)) (fun q => absurd q z) (fun _ => ⟨Nat.le_refl _, b2, b3⟩)) (.inr ⟨_, _, _, _, rfl⟩) (fun u => by rw [y0]; rfl)
theorem clone55_all {h : Heap} {c i len cap : Nat} {xs : List (Int)} {fz : Nat} {e0 : TypeId} {es0 : Nat} (hg : hget h i = some (.cells (rowC (encI .i64) xs) fz e0 es0)) (hl : len = xs.length) (hcap : len ≤ cap) (hfit : fitsB xs.length 8 = true) :
    KC E0 55 [.slice (some ⟨i, 0, none⟩) len cap] h c (fun v h' c' => v = .slice (some ⟨c + 1, 0, none⟩) xs.length xs.length ∧ h' = (c + 1, .cells (rowC (encI .i64) xs) 0 3 1) :: h ∧ c' = c + 2) := by
  subst hl
  have := clone55_ok (c := c) (cap := cap) (o := 0) (len := xs.length) 0 hg (by simp) (by simp) hcap hfit
  rw [List.drop_zero, List.take_length] at this
  exact this
theorem clone55_part {h : Heap} {c i o len cap : Nat} {xs : List (Int)} {fz : Nat} {e0 : TypeId} {es0 : Nat} (a : Nat) (hg : hget h i = some (.cells (rowC (encI .i64) xs) fz e0 es0)) (ho : o = a * 1) (hal : decide (a + len ≤ xs.length) = true) (hcap : decide (len ≤ cap) = true) (hfit : fitsB len 8 = true) :
    KC E0 55 [.slice (some ⟨i, o, none⟩) len cap] h c (fun v h' c' => v = .slice (some ⟨c + 1, 0, none⟩) (List.take len (List.drop a xs)).length (List.take len (List.drop a xs)).length ∧ h' = (c + 1, .cells (rowC (encI .i64) (List.take len (List.drop a xs))) 0 3 1) :: h ∧ c' = c + 2) := by
  have hal := of_decide_eq_true hal
  have e : (List.take len (List.drop a xs)).length = len := by rw [List.length_take, List.length_drop]; omega
  rw [e]
  exact clone55_ok a hg ho hal (of_decide_eq_true hcap) hfit
end Go.Xm
