/- slices.Sorted over the values of a slice, as a call of the abstract machine. Conditions: none. -/
import Derived.Test.YtfgggididakkbaaGreatDoorCs
import Derived.Test.YtfgggididakkbaaGreatDoorMx
namespace Go.Xm
open Go.RowKit
set_option linter.unusedVariables false
set_option linter.unusedSimpArgs false

/-! ### Sorted lists of ints -/
def insI (x : Int) : List Int → List Int
  | [] => [x]
  | y :: l => if x ≤ y then x :: y :: l else y :: insI x l

def sortI : List Int → List Int
  | [] => []
  | x :: l => insI x (sortI l)

theorem insI_perm (x : Int) : ∀ l : List Int, (insI x l).Perm (x :: l)
  | [] => List.Perm.refl _
  | y :: l => by
    unfold insI
    split
    · exact List.Perm.refl _
    · exact ((insI_perm x l).cons y).trans (List.Perm.swap x y l)

theorem sortI_perm : ∀ l : List Int, (sortI l).Perm l
  | [] => List.Perm.refl _
  | x :: l => (insI_perm x (sortI l)).trans ((sortI_perm l).cons x)

theorem insI_asc (x : Int) : ∀ l : List Int, l.Pairwise (· ≤ ·) → (insI x l).Pairwise (· ≤ ·)
  | [], _ => List.pairwise_singleton _ _
  | y :: l, h => by
    obtain ⟨h1, h2⟩ := List.pairwise_cons.1 h
    unfold insI
    split
    · rename_i hxy
      refine List.pairwise_cons.2 ⟨fun z hz => ?_, h⟩
      rcases List.mem_cons.1 hz with rfl | hz
      · exact hxy
      · have := h1 z hz; omega
    · rename_i hxy
      refine List.pairwise_cons.2 ⟨fun z hz => ?_, insI_asc x l h2⟩
      rcases List.mem_cons.1 ((insI_perm x l).mem_iff.1 hz) with rfl | hz
      · omega
      · exact h1 z hz

theorem sortI_asc : ∀ l : List Int, (sortI l).Pairwise (· ≤ ·)
  | [] => List.Pairwise.nil
  | x :: l => insI_asc x _ (sortI_asc l)

theorem sortI_eq (l : List Int) : sortI l = l.mergeSort (fun x y => decide (x ≤ y)) := by
  refine List.Perm.eq_of_pairwise (le := fun x y : Int => x ≤ y) (fun a b _ _ h1 h2 => by omega) (sortI_asc l) ?_ ((sortI_perm l).trans (List.mergeSort_perm l _).symm)
  have := List.pairwise_mergeSort (le := fun x y : Int => decide (x ≤ y)) (fun a b c h1 h2 => by simp at *; omega) (fun a b => by simp; omega) l
  exact this.imp (fun h => by simpa using h)

theorem sortI_len (l : List Int) : (sortI l).length = l.length := (sortI_perm l).length_eq

/-! ### What the call answers -/
def isSl : Value → Bool
  | .slice _ _ _ => true
  | _ => false

noncomputable def pSorted (args : List Value) (h : Heap) (c : Nat) : Option (Value × Heap × Nat) :=
  match args with
  | [.func (.func k) fa ca] => match (Nat.beq k 67 && fa.toList.isEmpty) with
    | true => match ca.toList with
      | [.pointer (some ⟨b, o, none⟩)] => match hget h b with
        | some (.cells cs _ _ _) => match lget cs o with
          | some sv => match isSl sv with
            | true => match fetch h 1 sv with
              | some (_, vals) => match intsL vals with
                | some zs => match Nat.ble zs.length 1000000 with
                  | true => some (.slice (some ⟨c, 0, none⟩) zs.length zs.length, (c, .cells ((sortI zs).map fun z => Value.int .i64 z) 0 3 1) :: h, c + 1)
                  | false => none
                | none => none
              | none => none
            | false => none
          | none => none
        | _ => none
      | _ => none
    | false => none
  | _ => none

theorem cells_ints {ρ : Rho} {zs : List Int} {C : List Value} (h : Cells ρ (zs.map fun n => Value.int .i64 n) C) : C = zs.map fun n => Value.int .i64 n :=
  Cells.plain_eq h (List.all_eq_true.2 (fun v hv => by obtain ⟨z, _, rfl⟩ := List.mem_map.1 hv; rfl))

/-- The ints that a slice holds, in the world. -/
theorem fetch_ints {B : Bd} {ρ : Rho} {h : Heap} {w : World} (H : HRel B ρ h w) {sv sv' : Value} (hs : isSl sv = true) (hv : VRel ρ sv sv') {n : Nat} {vals : List Value} (hf : fetch h 1 sv = some (n, vals)) {zs : List Int} (hz : intsL vals = some zs) :
    (zs = [] ∧ ∃ a cap, sv' = .slice a 0 cap) ∨ ∃ b off cap, b < w.heap.size ∧ sv' = .slice (some ⟨b, off, none⟩) zs.length cap ∧ ∀ j, j < zs.length → w.cell? ⟨b, off + j, none⟩ = some (.int .i64 (zs[j]?.getD 0)) := by
  have hvals := intsL_eq hz
  unfold fetch at hf
  split at hf
  · cases hf
    cases hz
    cases hv
    exact .inl ⟨rfl, _, _, rfl⟩
  · rename_i j off sp n0 cap
    split at hf
    · cases hf
      cases hz
      cases hv with
      | slice i o len cap L o' cap' hL hz h0 h1 => exact .inl ⟨rfl, _, _, rfl⟩
      | sliceN i o L h hes => exact .inl ⟨rfl, _, _, rfl⟩
      | zslice i o k a hk => exact .inl ⟨rfl, _, _, rfl⟩
    · rename_i n1
      split at hf
      · rename_i cs fz e es hg
        split at hf
        · rename_i hb
          simp only [Bool.and_eq_true, Nat.ble_eq] at hb
          cases hf
          cases hv with
          | slice i o len cap L o' cap' hL hz' h0 h1 =>
            have ho : o' = L.sh + off := by
              rcases hz' with q | q
              · exact q
              · omega
            obtain ⟨C', c1, c2, c3⟩ := cells_read H hg hL (off := off) (len := (n1 + 1) * 1) hb.2
            rw [hvals] at c1
            have c4 := cells_ints c1
            have hlen : zs.length = n1 + 1 := by rw [c4, List.length_map] at c2; omega
            right
            have hne : cs ≠ [] := fun q => by subst q; simp at hb
            obtain ⟨_, _, C, fr, d1, _⟩ := (H.at hg hL).2.cells (.inl hne)
            refine ⟨L.b, o', cap', (Array.getElem?_eq_some_iff.1 d1).1, by rw [hlen], fun j hj => ?_⟩
            have := c3 w (Below.refl _ _) j (.int .i64 zs[j]) (by rw [c4]; simp [hj])
            rw [Addr.add_none] at this
            rw [ho]
            simpa [hj] using this
        · cases hf
      · cases hf
  · cases hs
  · cases hf

theorem ghost_row {B : Bd} {ρ : Rho} {h : Heap} {w : World} (H : HRel B ρ h w) (hB : B.n ≤ w.heap.size) (e : TypeId) {s : Nat} (hs : s ≠ 0) : HRel B (ρ ++ [⟨w.heap.size, 0, 0, s⟩]) ((ρ.length, .cells [] 0 e s) :: h) w :=
  H.new hB (Nat.le_refl _) (fun _ _ => rfl) ⟨rfl, .inl ⟨⟨hs, rfl⟩, rfl⟩⟩

theorem pSorted_ok {args : List Value} {h : Heap} {c : Nat} {v : Value} {h' : Heap} {c' : Nat} (hp : pSorted args h c = some (v, h', c')) {B : Bd} {ρ : Rho} {w : World} {args' : List Value} (hargs : Cells ρ args args') (hh : HRel B ρ h w) (hc : ρ.length = c) (hB : B.n ≤ w.heap.size) :
    Calls Proofs.Tryz.prog 53 args'.toArray w (fun e w' => ∃ v' ρ', e = .returned v' ∧ VRel ρ' v v' ∧ Rho.le ρ ρ' ∧ ρ'.length = c' ∧ HRel B ρ' h' w' ∧ Bel B w w') := by
  unfold pSorted at hp
  split at hp
  · rename_i k fa ca
    split at hp
    · rename_i hk
      simp only [Bool.and_eq_true, List.isEmpty_iff] at hk
      have hk1 := Nat.eq_of_beq_eq_true hk.1
      subst hk1
      split at hp
      · rename_i b o hca
        split at hp
        · rename_i cs fz e es hg
          split at hp
          · rename_i sv hsv
            split at hp
            · rename_i hsl
              split at hp
              · rename_i n0 vals hfe
                split at hp
                · rename_i zs hz
                  split at hp
                  · rename_i hle
                    rw [Nat.ble_eq] at hle
                    cases hp
                    -- the argument
                    obtain ⟨x', x1, x2⟩ := hargs.get (i := 0) rfl
                    have hl := hargs.1
                    match args', hl, x1 with
                    | [x], _, x1 =>
                    simp only [List.getElem?_cons_zero, Option.some.injEq] at x1
                    subst x1
                    cases x2 with
                    | func _ _ fa' _ ca' hf hcs h1 h2 =>
                    have hfa : fa' = #[] := by
                      have : fa.size = 0 := by rw [← Array.length_toList, hk.2]; rfl
                      exact Array.eq_empty_of_size_eq_zero (by omega)
                    have hca1 : ca = #[.pointer (some ⟨b, o, none⟩)] := by apply Array.ext'; simpa using hca
                    subst hca1
                    have hcs1 : ca'.size = 1 := by simpa using hcs.symm
                    obtain ⟨y, hy⟩ : ∃ y, ca' = #[y] := Array.size_eq_one_iff.1 hcs1
                    subst hy
                    have hyr := h2 0 _ y rfl rfl
                    cases hyr with
                    | ptr _ _ L hL =>
                    subst hfa
                    -- the box
                    rw [lget_eq] at hsv
                    have hne : cs ≠ [] := fun q => by subst q; cases hsv
                    obtain ⟨_, hng, C, fr, d1, d2, d3, d4, _⟩ := (hh.at hg hL).2.cells (.inl hne)
                    obtain ⟨sv', s1, s2⟩ := d4.get hsv
                    have hcell : w.cell? ⟨L.b, L.sh + o, none⟩ = some sv' := by
                      rw [cell_of_heap d1]
                      rw [List.getElem?_take] at s1
                      split at s1
                      · rw [List.getElem?_drop, Array.getElem?_toList] at s1; exact s1
                      · cases s1
                    have hI : Proofs.Tryz.IntsAt w ⟨L.b, L.sh + o, none⟩ zs := by
                      rcases fetch_ints hh hsl s2 hfe hz with ⟨q1, a, cap, rfl⟩ | ⟨b', off, cap, q1, rfl, q3⟩
                      · exact .inl ⟨q1, a, cap, hcell⟩
                      · exact .inr ⟨b', off, cap, q1, hcell, q3⟩
                    have hLb : L.b < w.heap.size := (Array.getElem?_eq_some_iff.1 d1).1
                    refine (Proofs.Tryz.sorted_vals ⟨L.b, L.sh + o, none⟩ zs (by omega) w hLb hI).mono ?_
                    rintro e' w' ⟨v', rfl, hrow, hnil, hb⟩
                    have hB' : Bel B w w' := Bel.of hb hB
                    have hk' := fun k (hk : k < w.heap.size) => hb.block k hk
                    by_cases hz0 : zs = []
                    · subst hz0
                      have hv : v' = .slice none 0 0 := hnil.2 rfl
                      subst hv
                      have hh' := (hh.keep (Rho.le_refl ρ) hk')
                      subst hc
                      refine ⟨.slice none 0 0, ρ ++ [⟨w'.heap.size, 0, 0, 1⟩], rfl, ?_, Rho.le_push _ _, by simp, ghost_row hh' (Nat.le_trans hB hb.size) _ (by decide), hB'⟩
                      exact .sliceN ρ.length 0 ⟨w'.heap.size, 0, 0, 1⟩ (by simp) ⟨Nat.one_ne_zero, rfl⟩
                    · rcases hrow.2 with ⟨q, _⟩ | ⟨gb, cap, cur, rfl, r1, r2, r3, r4, r5, r6⟩
                      · exact absurd (hnil.1 q) hz0
                      · subst hc
                        have hcl : cur.size = cap := by omega
                        refine ⟨_, ρ ++ [⟨gb, 0, cur.size, 1⟩], rfl, ?_, Rho.le_push _ _, by simp, hh.new hB r1 hk' ⟨rfl, .inr ⟨cur, (0, 0), r2, rfl, ?_, ?_, Nat.zero_le _, fun q => by cases q⟩⟩, hB'⟩
                        · exact .slice ρ.length 0 _ _ ⟨gb, 0, cur.size, 1⟩ 0 cap (by simp) (.inl rfl) (fun q => by cases q) (fun _ => ⟨r3, by show 0 + cap * 1 ≤ cur.size; omega, Nat.le_refl _⟩)
                        · show 0 + ((sortI zs).map fun z => Value.int .i64 z).length ≤ cur.size
                          rw [List.length_map, sortI_len]; omega
                        · intro i u hi
                          have hmem : i < zs.length := by
                            have := (List.getElem?_eq_some_iff.1 hi).1
                            rw [List.length_map, sortI_len] at this; exact this
                          have hcur : cur.toList[i]? = some u := by
                            have h6 := congrArg (fun l => l[i]?) r6
                            simp only [← sortI_eq] at h6
                            rw [List.getElem?_take, if_pos (by omega)] at h6
                            rw [h6]
                            exact hi
                          refine ⟨u, ?_, ?_⟩
                          · show cur[0 + i]? = some u
                            rw [Nat.zero_add, ← Array.getElem?_toList]; exact hcur
                          · obtain ⟨z, _, rfl⟩ := List.mem_map.1 (List.mem_of_getElem? hi)
                            exact .int _ _
                  · cases hp
                · cases hp
              · cases hp
            · cases hp
          · cases hp
        · cases hp
      · cases hp
    · cases hp
  · cases hp

#print axioms pSorted_ok
end Go.Xm
