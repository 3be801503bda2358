/- The abstract machine, part 21: a part of a row is appended to another part of the same row, within what the row is known to hold; cuts with a third bound. Conditions: none; nothing here speaks of one program. -/
import Derived.Test.YtfgggididakkbaaGreatDoorMt
namespace Go.Xm
open Go.RowKit

/-- The operation at a place of a region. -/
def opAt (ops : Array Oper) (j : Nat) : Option Op := (ops.toList[j]?).map (·.op)

/-- The types that an append speaks of. -/
noncomputable def appT (E : Env) (t xt : TypeId) (size : Nat) : Bool :=
  match E.ty t, E.ty xt with
  | some D, some Dx => match D.u with
    | .slice e => match E.ty e with
      | some De => (Nat.beq De.size size && Nat.ble 1 size && (match Dx.u with | .string => true | .slice _ => true | _ => false))
      | none => false
    | _ => false
  | _, _ => false

/-- One operation that writes, told in another way, by its text. -/
theorem XR.efOp {E : Env} (hE : E.Ok) {nt k : Nat} {ops : Array Oper} {j : Nat} (live : List Nat) {σ σ' : St} {h h' : Heap} {c c' : Nat} {v : Value} {Q : QP} {d : Option (List Bool)} {f f' : EF} {op : Op} (hl : live.all (fun i => Nat.blt i nt) = true)
    (hI : headI ((gsOf E nt ops).drop j) (trS nt σ) = .ef d f) (hop : opAt ops j = some op) (hff : ∀ o, o.op = op → EfOk E.P nt o f') (hv : f' (trS nt σ) h c = some (v, h', c')) (hσ : readS (putX d v (trS nt σ)) live = σ')
    (hx : XR E nt k ops (j + 1) σ' h' c' Q) : XR E nt k ops j σ h c Q := by
  intro B ρ a w h1 h2 h3 h4 h5 h6 ρ0 w0 ds h7 h8 h9
  obtain ⟨s1, s2⟩ := sub_ok hE nt ops j 1
  have hlist : ops.toList.drop j = (ops.toList.drop j).take 1 ++ ops.toList.drop (j + 1) := by
    rw [← List.drop_drop, List.take_append_drop]
  have harr : ops.toList.toArray = ops := by simp
  rw [hlist]
  cases hgs : (gsOf E nt ops).drop j with
  | nil => rw [hgs] at hI; cases hI
  | cons g gs =>
    rw [hgs] at hI s1 s2
    cases hos : (ops.toList.drop j).take 1 with
    | nil => rw [hos] at s1; simp at s1
    | cons o os =>
      have hoj : o.op = op := by
        have q : ((ops.toList.drop j).take 1)[0]? = some o := by rw [hos]; rfl
        rw [List.getElem?_take_of_lt (by omega), List.getElem?_drop, Nat.add_zero] at q
        unfold opAt at hop
        rw [q] at hop
        exact Option.some.inj hop
      rw [hos] at s1 s2
      have hos0 : os = [] := by
        cases os with
        | nil => rfl
        | cons o2 os2 => simp at s1
      subst hos0
      have hg := s2 0 o g rfl rfl
      cases g with
      | bad => cases hI
      | ins i =>
        have hi : i = .ef d f := hI
        subst hi
        have key := xops_pre hE (callF_ok hE (exec_ok hE 0).1) (all := ops.toList) (Q := After k B nt ρ0 w0 ds Q) (ops.toList.drop (j + 1)) [o] [.ins (.ef d f')] rfl (by
          intro i o2 g2 e1 e2
          cases i with
          | zero => cases e1; cases e2; exact ⟨hg.1, hg.2.1, hff o hoj⟩
          | succ i => cases e1) _ (putX d v (trS nt σ)) h h' c c' (by
            have h0 : xops (callF E (exec E 0)) ([GI.ins (.ef d f')]) (trS nt σ) h c = Os.casesOn (motive := fun _ => Os) (Option.casesOn (motive := fun _ => Os) (f' (trS nt σ) h c) .none (fun r => .some (putX d r.1 (trS nt σ)) r.2.1 r.2.2)) .none (xops (callF E (exec E 0)) []) := rfl
            rw [h0, hv]
            rfl) B ρ a w h1.tr h2 h3 h4 h5 h6 ?_
        · rw [harr] at key; exact key
        · rintro a' w' ⟨q, ρ', p1, p2, p3, p4, p5⟩
          rw [harr]
          refine hx B ρ' a' w' ?_ p4 p3 (Nat.le_trans h4 p5.size) h5 (hE.keep h5 h6 p5) ρ0 w0 ds (h7.trans (Keeps.of_le h7.le p2)) (h8.trans p5) (q.trans h9)
          rw [← hσ]
          exact SRel.of_tr p1 hl
      | g p want d0 i =>
        cases hw : wantB ((trS nt σ).get p) want with
        | none => simp only [headI, hw] at hI; cases hI
        | some b =>
          cases b with
          | false => simp only [headI, hw] at hI; cases hI
          | true =>
            have hi : headI (.g p want d0 i :: gs) (trS nt σ) = i := by simp only [headI, hw]
            rw [hi] at hI
            subst hI
            obtain ⟨j0, dj, q1, q2, q3, q4, q5, q6⟩ := hg
            have key := xops_pre hE (callF_ok hE (exec_ok hE 0).1) (all := ops.toList) (Q := After k B nt ρ0 w0 ds Q) (ops.toList.drop (j + 1)) [o] [.g p want d0 (.ef d f')] rfl (by
              intro i o2 g2 e1 e2
              cases i with
              | zero => cases e1; cases e2; exact ⟨j0, dj, q1, q2, q3, q4, q5, q6.1, hff o hoj⟩
              | succ i => cases e1) _ (putX d v (trS nt σ)) h h' c c' (by
                have h0 : xops (callF E (exec E 0)) ([GI.g p want d0 (.ef d f')]) (trS nt σ) h c = Os.casesOn (motive := fun _ => Os) (Option.casesOn (motive := fun _ => Os) (wantB ((trS nt σ).get p) want) .none (fun b => Bool.casesOn b (.some (putX d0 undef (trS nt σ)) h c) (Option.casesOn (f' (trS nt σ) h c) .none (fun r => .some (putX d r.1 (trS nt σ)) r.2.1 r.2.2)))) .none (xops (callF E (exec E 0)) []) := rfl
                rw [h0, hw, hv]
                rfl) B ρ a w h1.tr h2 h3 h4 h5 h6 ?_
            · rw [harr] at key; exact key
            · rintro a' w' ⟨q, ρ', p1, p2, p3, p4, p5⟩
              rw [harr]
              refine hx B ρ' a' w' ?_ p4 p3 (Nat.le_trans h4 p5.size) h5 (hE.keep h5 h6 p5) ρ0 w0 ds (h7.trans (Keeps.of_le h7.le p2)) (h8.trans p5) (q.trans h9)
              rw [← hσ]
              exact SRel.of_tr p1 hl

/-- append within a row. -/
theorem XR.appF {E : Env} (hE : E.Ok) {nt k : Nat} {ops : Array Oper} {j : Nat} (live : List Nat) {σ σ' : St} {h h' : Heap} {c c' : Nat} {v : Value} {Q : QP} {d : Option (List Bool)} {f : EF} (s x : Operand) (t xt size : Nat) (hl : live.all (fun i => Nat.blt i nt) = true)
    (hI : headI ((gsOf E nt ops).drop j) (trS nt σ) = .ef d f) (hop : opAt ops j = some (.call { callee := .builtin .append, args := #[s, x], argTypes := #[t, xt] })) (hT : appT E t xt size = true) (hv : eAppendF size (src nt s) (src nt x) (trS nt σ) h c = some (v, h', c')) (hσ : readS (putX d v (trS nt σ)) live = σ')
    (hx : XR E nt k ops (j + 1) σ' h' c' Q) : XR E nt k ops j σ h c Q := by
  refine XR.efOp hE live hl hI hop (fun o ho => ?_) hv hσ hx
  unfold appT at hT
  split at hT
  · rename_i D Dx hD hDx
    split at hT
    · rename_i e hu
      split at hT
      · rename_i De hDe
        simp only [Bool.and_eq_true, Nat.ble_eq] at hT
        obtain ⟨⟨b1, b2⟩, b3⟩ := hT
        have b1 := Nat.eq_of_beq_eq_true b1
        subst b1
        refine eAppendF_ok hE.ty ho hD hu hDx ?_ hDe (by omega)
        cases hdx : Dx.u <;> rw [hdx] at b3 <;> first | exact .inl rfl | exact .inr ⟨_, rfl⟩ | cases b3
      · cases hT
    · cases hT
  · cases hT

theorem e_appendF {α : Type} {f : α → List Value} {s : Nat} (hf : Enc f s) {x y : Src} {t : Tr} {h h' : Heap} {c b n cap : Nat} (hx : ev t x = .slice (some ⟨b, 0, none⟩) n cap) {xs : List α} {e : TypeId} (hg : hget h b = some (.cells (rowC f xs) 0 e s)) {Y : Value} (hyv : ev t y = Y)
    {m : Nat} {ys : List α} (hy : fetch h s Y = some (m, rowC f ys)) (hm : ys.length = m) (hs1 : Nat.ble 1 s = true) (h1 : 1 ≤ cap) (h2 : n + m ≤ cap) (h3 : n + m ≤ xs.length) {n' : Nat} (hn : n + m = n') (hh : hset h b (.cells (rowC f (xs.take n ++ ys ++ xs.drop (n + m))) 0 e s) = h') :
    eAppendF s x y t h c = some (.slice (some ⟨b, 0, none⟩) n' cap, h', c) := by
  subst hn
  subst hyv
  subst hh
  have hl := rowC_length hf xs
  have hl2 := rowC_length hf ys
  have h4 : (n + m) * s ≤ xs.length * s := Nat.mul_le_mul_right _ h3
  have h5 : (n + m) * s = n * s + m * s := Nat.add_mul _ _ _
  have q1 : Nat.ble 1 cap = true := Nat.ble_eq_true_of_le h1
  have q2 : Nat.ble (n + m) cap = true := Nat.ble_eq_true_of_le h2
  have q3 : Nat.ble (0 + n * s + (rowC f ys).length) (rowC f xs).length = true := by rw [Nat.ble_eq, hl2, hm]; omega
  have q5 : Nat.beq s s = true := Nat.beq_refl s
  simp only [eAppendF, hx, hg, hy, q1, q2, q3, rowC_one1 hf ys, hs1, q5, Bool.and_self]
  have e1 : 0 + n * s = n * s := Nat.zero_add _
  have e2 : n * s + (rowC f ys).length = (n + m) * s := by rw [hl2, hm, h5]
  rw [e1, e2, rowC_take hf, rowC_drop hf, ← rowC_append, ← rowC_append]

theorem v_cutM {g : Ins} {d : Option (List Bool)} {nt s : Nat} {x : Src} {lo hi mx : Option Operand} {t : Tr} {h : Heap} (hI : g = .rd d (rCutS nt s x lo hi mx)) {b o len cap : Nat} (hx : ev t x = .slice (some ⟨b, o, none⟩) len cap) {cs : List Value} {fz : Nat} {e : TypeId} {es : Nat}
    (hg : hget h b = some (.cells cs fz e es)) (hes : (Nat.beq es 0 || Nat.beq es s) = true) {l u m : Option Int} (hl : bnd nt t lo = some l) (hu : bnd nt t hi = some u) (hm : bnd nt t mx = some m) (hmu : u.isSome = true)
    (hc : cutOK (l.getD 0) (u.getD len) (m.getD cap) cap = true) (hp : decide (0 < (m.getD cap).toNat - (l.getD 0).toNat) = true) {o' len' cap' : Nat} (ho : o + (l.getD 0).toNat * s = o') (hl' : (u.getD len).toNat - (l.getD 0).toNat = len') (hc' : (m.getD cap).toNat - (l.getD 0).toNat = cap') :
    insV g t h = some (.slice (some ⟨b, o', none⟩) len' cap') := by
  subst hI
  subst ho
  subst hl'
  subst hc'
  have hp := of_decide_eq_true hp
  have hq : Nat.beq ((m.getD cap).toNat - (l.getD 0).toNat) 0 = false := by
    cases hq : Nat.beq ((m.getD cap).toNat - (l.getD 0).toNat) 0 with
    | false => rfl
    | true => have := Nat.eq_of_beq_eq_true hq; omega
  simp only [insV, rCutS, hx, hg, hes, hl, hu, hm, hc, hmu, hq, Bool.or_true, Bool.and_false]

end Go.Xm
