/- The abstract machine, part 16: append of a row of any length: the answer has a new number, whether a block is made or not. Conditions: none; nothing here speaks of one program. -/
import Derived.Test.YtfgggididakkbaaGreatDoorMx
namespace Go.Xm
open Go.RowKit

/-- A new number for a block; the old one is dead. -/
theorem HRel.alias {B : Bd} {ρ : Rho} {h : Heap} {w : World} (H : HRel B ρ h w) {b : Nat} {cs : List Value} {fz : Nat} {e : TypeId} {es : Nat} {L : Loc} (hb : hget h b = some (.cells cs fz e es)) (hL : ρ[b]? = some L) :
    HRel B (ρ ++ [L]) ((ρ.length, .cells cs fz e es) :: hdel h b) w := by
  have hnew : (ρ ++ [L])[ρ.length]? = some L := by simp
  have hd : ∀ j x, hget (hdel h b) j = some x → j ≠ b ∧ hget h j = some x := by
    intro j x hj
    rw [hget_hdel] at hj
    by_cases ej : j = b
    · rw [if_pos ej] at hj; cases hj
    · rw [if_neg ej] at hj; exact ⟨ej, hj⟩
  have oldL : ∀ z u N, hget h z = some u → (ρ ++ [L])[z]? = some N → ρ[z]? = some N ∧ (own (ρ ++ [L]) N u → own ρ N u) := by
    intro z u N hz hN
    obtain ⟨N', n1, _, n3⟩ := H.ok z u hz
    have := Rho.le_push ρ L z N' n1
    rw [hN] at this; cases this
    exact ⟨n1, own_down (Rho.le_push ρ L) n3⟩
  obtain ⟨L', l1, l2, l3⟩ := H.ok b _ hb
  rw [hL] at l1; cases l1
  refine ⟨fun j x hj => ?_, fun j k x y M M' hj hk hM hM' g1 g2 o1 o2 hz hbb => ?_⟩
  · rw [hget_cons] at hj
    by_cases ei : ρ.length = j
    · rw [if_pos ei] at hj
      cases hj
      subst ei
      exact ⟨L, hnew, l2, l3.mono (Rho.le_push ρ L)⟩
    · rw [if_neg ei] at hj
      obtain ⟨_, hj'⟩ := hd j x hj
      obtain ⟨N, n1, n2, n3⟩ := H.ok j x hj'
      exact ⟨N, Rho.le_push ρ L j N n1, n2, n3.mono (Rho.le_push ρ L)⟩
  · rw [hget_cons] at hj hk
    by_cases ei : ρ.length = j <;> by_cases ej : ρ.length = k
    · omega
    · rw [if_neg ej] at hk
      obtain ⟨ne, hk'⟩ := hd k y hk
      subst ei
      rw [if_pos rfl] at hj; cases hj
      rw [hnew] at hM; cases hM
      have n1 := oldL k y M' hk' hM'
      exact absurd (H.inj k b y _ M' L hk' hb n1.1 hL g2 g1 (n1.2 o2) trivial hz.symm hbb.symm) ne
    · rw [if_neg ei] at hj
      obtain ⟨ne, hj'⟩ := hd j x hj
      subst ej
      rw [if_pos rfl] at hk; cases hk
      rw [hnew] at hM'; cases hM'
      have n1 := oldL j x M hj' hM
      exact absurd (H.inj j b x _ M L hj' hb n1.1 hL g1 g2 (n1.2 o1) trivial hz hbb) ne
    · rw [if_neg ei] at hj
      rw [if_neg ej] at hk
      obtain ⟨_, hj'⟩ := hd j x hj
      obtain ⟨_, hk'⟩ := hd k y hk
      have q1 := oldL j x M hj' hM
      have q2 := oldL k y M' hk' hM'
      exact H.inj j k x y M M' hj' hk' q1.1 q2.1 g1 g2 (q1.2 o1) (q2.2 o2) hz hbb

/-- The answer's block under a new number. -/
noncomputable def aliasV (v : Value) (h : Heap) (c : Nat) : Option (Value × Heap × Nat) :=
  match v with
  | .slice (some ⟨b, off, none⟩) len cap => match hget h b with
    | some (.cells cs fz e es) => some (.slice (some ⟨c, off, none⟩) len cap, (c, .cells cs fz e es) :: hdel h b, c + 1)
    | _ => none
  | _ => none

/-- append, whose answer always has a new number. -/
noncomputable def eAppendA (size bytes : Nat) (e : TypeId) (s x : Src) : EF := fun tm h c =>
  match eAppend false size bytes e s x tm h c with
  | some (v, h', c') => match Nat.beq c' c with
    | true => aliasV v h' c
    | false => some (v, h', c')
  | none => none

theorem eAppendA_ok {P : Program} {nt : Nat} {o : Oper} {size bytes : Nat} {e : TypeId} {s x : Src} (H : EfOk P nt o (eAppend false size bytes e s x)) : EfOk P nt o (eAppendA size bytes e s x) := by
  intro tm h c v h' c' hf B ρ a w ht hh hc hB
  unfold eAppendA at hf
  cases h0 : eAppend false size bytes e s x tm h c with
  | none => rw [h0] at hf; cases hf
  | some r =>
    obtain ⟨v0, h1, c1⟩ := r
    rw [h0] at hf
    simp only at hf
    cases hb : Nat.beq c1 c with
    | false =>
      rw [hb] at hf
      cases hf
      exact H _ _ _ _ _ _ h0 B ρ a w ht hh hc hB
    | true =>
      rw [hb] at hf
      have hcc := Nat.eq_of_beq_eq_true hb
      subst hcc
      simp only [aliasV] at hf
      split at hf
      · rename_i b off len cap
        split at hf
        · rename_i cs fz e1 es hg
          cases hf
          obtain ⟨v', w', ρ', r1, r2, r3, r4, r5, r6⟩ := H _ _ _ _ _ _ h0 B ρ a w ht hh hc hB
          obtain ⟨L, l1, l2, l3⟩ := r5.ok b _ hg
          have hal := r5.alias hg l1
          rw [r4] at hal
          refine ⟨v', w', ρ' ++ [L], r1, ?_, Rho.le_trans r3 (Rho.le_push ρ' L), by simp [r4], hal, r6⟩
          cases r2 with
          | slice _ _ _ _ L' o' cap' hL hz h0' hh1 =>
            rw [l1] at hL
            cases hL
            exact .slice _ _ _ _ L o' cap' (by rw [← r4]; simp) hz h0' hh1
          | sliceN _ _ L' hL hes =>
            rw [l1] at hL
            cases hL
            exact .sliceN _ _ L (by rw [← r4]; simp) hes
        · cases hf
      · cases hf

/-- One operation that writes, told in another way. -/
theorem XR.efX {E : Env} (hE : E.Ok) {nt k : Nat} {ops : Array Oper} {j : Nat} (live : List Nat) {σ σ' : St} {h h' : Heap} {c c' : Nat} {v : Value} {Q : QP} {d : Option (List Bool)} {f f' : EF} (hl : live.all (fun i => Nat.blt i nt) = true)
    (hI : headI ((gsOf E nt ops).drop j) (trS nt σ) = .ef d f) (hff : ∀ o, EfOk E.P nt o f → EfOk E.P nt o f') (hv : f' (trS nt σ) h c = some (v, h', c')) (hσ : readS (putX d v (trS nt σ)) live = σ')
    (hx : XR E nt k ops (j + 1) σ' h' c' Q) : XR E nt k ops j σ h c Q := by
  intro B ρ a w h1 h2 h3 h4 h5 h6 ρ0 w0 ds h7 h8 h9
  obtain ⟨s1, s2⟩ := sub_ok hE nt ops j 1
  have hlist : ops.toList.drop j = (ops.toList.drop j).take 1 ++ ops.toList.drop (j + 1) := by
    rw [← List.drop_drop, List.take_append_drop]
  have harr : ops.toList.toArray = ops := by simp
  rw [hlist]
  cases hgs : (gsOf E nt ops).drop j with
  | nil => rw [hgs] at hI; cases hI
  | cons g gs =>
    rw [hgs] at hI s1 s2
    cases hos : (ops.toList.drop j).take 1 with
    | nil => rw [hos] at s1; simp at s1
    | cons o os =>
      rw [hos] at s1 s2
      have hos0 : os = [] := by
        cases os with
        | nil => rfl
        | cons o2 os2 => simp at s1
      subst hos0
      have hg := s2 0 o g rfl rfl
      cases g with
      | bad => cases hI
      | ins i =>
        have hi : i = .ef d f := hI
        subst hi
        have key := xops_pre hE (callF_ok hE (exec_ok hE 0).1) (all := ops.toList) (Q := After k B nt ρ0 w0 ds Q) (ops.toList.drop (j + 1)) [o] [.ins (.ef d f')] rfl (by
          intro i o2 g2 e1 e2
          cases i with
          | zero => cases e1; cases e2; exact ⟨hg.1, hg.2.1, hff o hg.2.2⟩
          | succ i => cases e1) _ (putX d v (trS nt σ)) h h' c c' (by
            have h0 : xops (callF E (exec E 0)) ([GI.ins (.ef d f')]) (trS nt σ) h c = Os.casesOn (motive := fun _ => Os) (Option.casesOn (motive := fun _ => Os) (f' (trS nt σ) h c) .none (fun r => .some (putX d r.1 (trS nt σ)) r.2.1 r.2.2)) .none (xops (callF E (exec E 0)) []) := rfl
            rw [h0, hv]
            rfl) B ρ a w h1.tr h2 h3 h4 h5 h6 ?_
        · rw [harr] at key; exact key
        · rintro a' w' ⟨q, ρ', p1, p2, p3, p4, p5⟩
          rw [harr]
          refine hx B ρ' a' w' ?_ p4 p3 (Nat.le_trans h4 p5.size) h5 (hE.keep h5 h6 p5) ρ0 w0 ds (h7.trans (Keeps.of_le h7.le p2)) (h8.trans p5) (q.trans h9)
          rw [← hσ]
          exact SRel.of_tr p1 hl
      | g p want d0 i =>
        cases hw : wantB ((trS nt σ).get p) want with
        | none => simp only [headI, hw] at hI; cases hI
        | some b =>
          cases b with
          | false => simp only [headI, hw] at hI; cases hI
          | true =>
            have hi : headI (.g p want d0 i :: gs) (trS nt σ) = i := by simp only [headI, hw]
            rw [hi] at hI
            subst hI
            obtain ⟨j0, dj, q1, q2, q3, q4, q5, q6⟩ := hg
            have key := xops_pre hE (callF_ok hE (exec_ok hE 0).1) (all := ops.toList) (Q := After k B nt ρ0 w0 ds Q) (ops.toList.drop (j + 1)) [o] [.g p want d0 (.ef d f')] rfl (by
              intro i o2 g2 e1 e2
              cases i with
              | zero => cases e1; cases e2; exact ⟨j0, dj, q1, q2, q3, q4, q5, q6.1, hff o q6.2⟩
              | succ i => cases e1) _ (putX d v (trS nt σ)) h h' c c' (by
                have h0 : xops (callF E (exec E 0)) ([GI.g p want d0 (.ef d f')]) (trS nt σ) h c = Os.casesOn (motive := fun _ => Os) (Option.casesOn (motive := fun _ => Os) (wantB ((trS nt σ).get p) want) .none (fun b => Bool.casesOn b (.some (putX d0 undef (trS nt σ)) h c) (Option.casesOn (f' (trS nt σ) h c) .none (fun r => .some (putX d r.1 (trS nt σ)) r.2.1 r.2.2)))) .none (xops (callF E (exec E 0)) []) := rfl
                rw [h0, hw, hv]
                rfl) B ρ a w h1.tr h2 h3 h4 h5 h6 ?_
            · rw [harr] at key; exact key
            · rintro a' w' ⟨q, ρ', p1, p2, p3, p4, p5⟩
              rw [harr]
              refine hx B ρ' a' w' ?_ p4 p3 (Nat.le_trans h4 p5.size) h5 (hE.keep h5 h6 p5) ρ0 w0 ds (h7.trans (Keeps.of_le h7.le p2)) (h8.trans p5) (q.trans h9)
              rw [← hσ]
              exact SRel.of_tr p1 hl

theorem fetch_all {α : Type} {f : α → List Value} {s : Nat} (hf : Enc f s) {h : Heap} {b : Nat} {ys : List α} {fz : Nat} {e : TypeId} {es : Nat} (hg : hget h b = some (.cells (rowC f ys) fz e es)) {n cap : Nat} (hn : n = ys.length) (hc : n ≤ cap) :
    fetch h s (.slice (some ⟨b, 0, none⟩) n cap) = some (n, rowC f ys) := by
  subst hn
  have h0 := fetch_row hf hg 0 ys.length ys.length cap rfl (by rw [Nat.ble_eq]; exact hc) (by omega) (o := 0) (by omega)
  rw [h0, List.drop_zero, List.take_length]

/-- append of a row to a row. -/
theorem e_appendA {α : Type} {f : α → List Value} {s : Nat} (hf : Enc f s) {bytes : Nat} {e : TypeId} {x y : Src} {t : Tr} {h h' : Heap} {c : Nat} {b len cap : Nat} (hx : ev t x = .slice (some ⟨b, 0, none⟩) len cap) {xs : List α}
    (hg : hget h b = some (.cells (rowC f xs) 0 e s)) {Y : Value} (hyv : ev t y = Y) {n : Nat} {ys : List α} (hy : fetch h s Y = some (n, rowC f ys)) (hn : ys.length = n) (hs1 : Nat.ble 1 s = true) (hlen : len = xs.length) (hcap : cap = xs.length) (hft : fitsB (len + n) bytes = true) {n' : Nat} (hn' : len + n = n')
    (hh : (c, .cells (rowC f (xs ++ ys)) 0 e s) :: hdel h b = h') :
    eAppendA s bytes e x y t h c = some (.slice (some ⟨c, 0, none⟩) n' n', h', c + 1) := by
  subst hyv
  cases n with
  | succ m =>
    have h0 := e_append hf (g := .ef none (eAppend false s bytes e x y)) (d := none) rfl hx hg hy hs1 hlen hcap hft hn' hh
    have h0 : eAppend false s bytes e x y t h c = some (.slice (some ⟨c, 0, none⟩) n' n', h', c + 1) := h0
    have hb : Nat.beq (c + 1) c = false := by
      cases hq : Nat.beq (c + 1) c with
      | false => rfl
      | true => have := Nat.eq_of_beq_eq_true hq; omega
    unfold eAppendA
    rw [h0]
    simp only [hb]
  | zero =>
    have hys : ys = [] := List.eq_nil_of_length_eq_zero hn
    subst hys
    subst hn'
    subst hh
    subst hlen
    subst hcap
    simp only [fitsB, Bool.and_eq_true] at hft
    obtain ⟨t1, t2⟩ := hft
    have hl := rowC_length hf xs
    have b1 : Nat.ble xs.length xs.length = true := Nat.ble_self_eq_true xs.length
    have b2 : Nat.ble (0 + xs.length * s) (rowC f xs).length = true := by rw [Nat.ble_eq]; omega
    have b3 : Nat.beq e e = true := Nat.beq_refl e
    have b4 : Nat.ble 0 (xs.length * s) = true := by rw [Nat.ble_eq]; omega
    have b5 : Nat.beq s s = true := Nat.beq_refl s
    have h0 : eAppend false s bytes e x y t h c = some (.slice (some ⟨b, 0, none⟩) xs.length xs.length, h, c) := by
      simp only [eAppend, hx, hg, hy, b1, b2, b3, t1, t2, rowC_one1 hf ([] : List α), hs1, Bool.and_self]
      cases s with
      | zero => cases hs1
      | succ s' => simp only [b4, b5, Bool.and_self]
    have hb : Nat.beq c c = true := Nat.beq_refl c
    unfold eAppendA
    rw [h0]
    simp only [hb, aliasV, hg, List.append_nil, Nat.add_zero]

end Go.Xm
