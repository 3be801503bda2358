/- The abstract machine at this program: its tables, with the numbers of trailing zeros, and slices.Sorted, by contract. Conditions: the library's tables lie in their variables. -/
import Derived.Test.YtfgggididakkbaaGreatDoorCt
import Derived.Test.YtfgggididakkbaaGreatDoorMy
import Derived.Test.YtfgggididakkbaaGreatDoorTa
namespace Go.Xm
open Go.RowKit

noncomputable def sortPrim (k : Nat) : Option (List Value → Heap → Nat → Option (Value × Heap × Nat)) := Bool.casesOn (Nat.beq k 53) none (some pSorted)

theorem sortPrim_eq {k : Nat} {g : List Value → Heap → Nat → Option (Value × Heap × Nat)} (h : sortPrim k = some g) : k = 53 ∧ g = pSorted := by
  unfold sortPrim at h
  cases hb : Nat.beq k 53 with
  | true =>
    rw [hb] at h
    cases h
    exact ⟨Nat.eq_of_beq_eq_true hb, rfl⟩
  | false => rw [hb] at h; cases h

noncomputable def E0 : Env := { stdEnv Proofs.Tryz.prog tzPrim (fun _ => none) (fun _ => false) seatG seatInv with hprim := sortPrim }

set_option maxRecDepth 20000 in
theorem E0_ok : E0.Ok := by
  have h : (stdEnv Proofs.Tryz.prog tzPrim (fun _ => none) (fun _ => false) seatG seatInv).Ok := stdEnv_ok (by kernel_rfl) tzPrim_ok seatInv_keeps (fun k g h => by cases h) (fun k h => by cases h)
  refine ⟨h.mixed, h.ty, h.fn, h.prim, h.ext, fun k g hg => ?_, h.keeps, h.same, h.meth, h.glob⟩
  obtain ⟨rfl, rfl⟩ := sortPrim_eq hg
  exact ⟨⟨_, Proofs.Tryz.func53, by kernel_rfl, by kernel_rfl⟩, fun args h c v h' c' hp B ρ w args' h1 h2 h3 h4 _ _ => pSorted_ok hp h1 h2 h3 h4⟩

theorem run1 {n k : Nat} {args : List Value} {v : Value} (hp : args.all plain = true) (hk : (tzPrim k).isNone = true) (h : call (fastEnv E0) n k args = some v) (w : World) (hI : seatInv w) :
    Calls Proofs.Tryz.prog k args.toArray w (fun e w' => e = .returned v ∧ Below w.heap.size w w') :=
  run_ok (fastEnv_ok E0_ok) hp hk rfl rfl h w (seatInv_size hI) hI

/-! ### slices.Sorted over the values of a row -/
theorem intsL_row : ∀ xs : List Int, intsL (rowC (encI .i64) xs) = some xs
  | [] => rfl
  | x :: l => by
    have h := intsL_row l
    rw [rowC_cons]
    show intsL (.int .i64 x :: rowC (encI .i64) l) = some (x :: l)
    unfold intsL
    rw [h]

theorem map_row (xs : List Int) : (xs.map fun z => Value.int .i64 z) = rowC (encI .i64) xs := by
  induction xs with
  | nil => rfl
  | cons x l ih => rw [rowC_cons, List.map_cons, ih]; rfl

theorem sorted_row {h : Heap} {c b : Nat} {V : Value} {ys : List Int} {n fz1 e1 es1 : Nat} (hb : hget h b = some (.cells [V] fz1 e1 es1)) (hV : isSl V = true) (hf : fetch h 1 V = some (n, rowC (encI .i64) ys)) (hfit : Nat.ble ys.length 1000000 = true) :
    KC E0 53 [.func (.func 67) #[] #[.pointer (some ⟨b, 0, none⟩)]] h c (fun v h' c' => v = .slice (some ⟨c, 0, none⟩) (sortI ys).length (sortI ys).length ∧ h' = (c, .cells (rowC (encI .i64) (sortI ys)) 0 3 1) :: h ∧ c' = c + 1) := by
  intro B ρ w args' h1 h2 h3 h4 h5 h6
  have hp : pSorted [.func (.func 67) #[] #[.pointer (some ⟨b, 0, none⟩)]] h c = some (.slice (some ⟨c, 0, none⟩) ys.length ys.length, (c, .cells ((sortI ys).map fun z => Value.int .i64 z) 0 3 1) :: h, c + 1) := by
    have e0 : lget [V] 0 = some V := rfl
    simp only [pSorted, hb, e0, hV, hf, intsL_row, hfit, Nat.beq_refl, List.isEmpty_nil, Bool.and_self]
  obtain ⟨⟨F, f1, f2, f3⟩, q⟩ := E0_ok.hprim 53 pSorted rfl
  refine ⟨run_callFunc_go f1 f2 f3 _ w, (q _ h c _ _ _ hp B ρ w args' h1 h2 h3 h4 h5 h6).mono ?_⟩
  rintro e w' ⟨v', ρ', rfl, q1, q2, q3, q4, q5⟩
  exact ⟨_, v', ρ', _, _, rfl, q1, q2, q3, q4, q5, by rw [sortI_len], by rw [map_row], rfl⟩

#print axioms run1
end Go.Xm
