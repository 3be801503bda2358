/- All counts of two to eight sorters are tried: one of them sits with those of the greatest counts. Conditions: none. -/
import Derived.Test.YtfimbmhannndaaaDoorHb
namespace Go.Xm
set_option maxRecDepth 100000

theorem hav2 : (dls 2 2).all chkA = true := by kernel_rfl
theorem hav3 : (dls 3 3).all chkA = true := by kernel_rfl
theorem hav4 : (dls 4 4).all chkA = true := by kernel_rfl
theorem hav5 : (dls 5 5).all chkA = true := by kernel_rfl
theorem hav6 : (dls 6 6).all chkA = true := by kernel_rfl
theorem hav7 : (dls 7 7).all chkA = true := by kernel_rfl

theorem hav8a : (((List.range 6).flatMap fun x => (dls 7 (x + 1)).map fun l => x :: l).all chkA) = true := by kernel_rfl
theorem hav8b : (((dls 7 7).map fun l => 6 :: l).all chkA) = true := by kernel_rfl
theorem hav8c : (((dls 7 8).map fun l => 7 :: l).all chkA) = true := by kernel_rfl

theorem hav8 : (dls 8 8).all chkA = true := by
  refine List.all_eq_true.2 (fun l hl => ?_)
  obtain ⟨x, hx, hm⟩ := List.mem_flatMap.1 hl
  have hx8 := List.mem_range.1 hx
  by_cases e : x = 7
  · subst e
    exact List.all_eq_true.1 hav8c l hm
  · by_cases e2 : x = 6
    · subst e2
      exact List.all_eq_true.1 hav8b l hm
    · exact List.all_eq_true.1 hav8a l (List.mem_flatMap.2 ⟨x, List.mem_range.2 (by omega), hm⟩)

theorem havs {l : List Nat} (h1 : 2 ≤ l.length) (h8 : l.length ≤ 8) (hp : l.Pairwise (· ≥ ·)) (hx : ∀ x ∈ l, x < l.length) : chkA l = true := by
  have key : ∀ n, n = l.length → l ∈ dls n n := fun n hn => mem_dls hn.symm hp (fun x hx' => by have := hx x hx'; omega)
  rcases (show l.length = 2 ∨ l.length = 3 ∨ l.length = 4 ∨ l.length = 5 ∨ l.length = 6 ∨ l.length = 7 ∨ l.length = 8 by omega) with h | h | h | h | h | h | h
  · exact List.all_eq_true.1 hav2 l (key 2 h.symm)
  · exact List.all_eq_true.1 hav3 l (key 3 h.symm)
  · exact List.all_eq_true.1 hav4 l (key 4 h.symm)
  · exact List.all_eq_true.1 hav5 l (key 5 h.symm)
  · exact List.all_eq_true.1 hav6 l (key 6 h.symm)
  · exact List.all_eq_true.1 hav7 l (key 7 h.symm)
  · exact List.all_eq_true.1 hav8 l (key 8 h.symm)

end Go.Xm
