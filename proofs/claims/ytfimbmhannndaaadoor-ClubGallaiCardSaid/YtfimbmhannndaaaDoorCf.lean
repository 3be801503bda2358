/- All counts of eight sorters in descending order are tried. Conditions: none. -/
import Derived.Test.YtfimbmhannndaaaDoorCe
namespace Go.Xm
set_option maxRecDepth 100000

theorem tab8a : (((List.range 7).flatMap fun x => (dls 7 (x + 1)).map fun l => x :: l).all chk) = true := by kernel_rfl
theorem tab8b : (((dls 7 8).map fun l => 7 :: l).all chk) = true := by kernel_rfl

theorem tab8 : (dls 8 8).all chk = true := by
  refine List.all_eq_true.2 (fun l hl => ?_)
  obtain ⟨x, hx, hm⟩ := List.mem_flatMap.1 hl
  have hx8 := List.mem_range.1 hx
  by_cases e : x = 7
  · subst e
    exact List.all_eq_true.1 tab8b l hm
  · exact List.all_eq_true.1 tab8a l (List.mem_flatMap.2 ⟨x, List.mem_range.2 (by omega), hm⟩)

end Go.Xm
