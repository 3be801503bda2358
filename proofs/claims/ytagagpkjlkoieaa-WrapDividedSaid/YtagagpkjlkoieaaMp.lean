/- The abstract machine, part 16: append of a row of any length: the answer has a new number, whether a block is made or not. Conditions: none; nothing here speaks of one program. -/
import Derived.Test.YtagagpkjlkoieaaMx
namespace Go.Xm
open Go.RowKit

theorem fetch_all {α : Type} {f : α → List Value} {s : Nat} (hf : Enc f s) {h : Heap} {b : Nat} {ys : List α} {fz : Nat} {e : TypeId} {es : Nat} (hg : hget h b = some (.cells (rowC f ys) fz e es)) {n cap : Nat} (hn : n = ys.length) (hc : n ≤ cap) :
    fetch h s (.slice (some ⟨b, 0, none⟩) n cap) = some (n, rowC f ys) := by
  subst hn
  have h0 := fetch_row hf hg 0 ys.length ys.length cap rfl (by rw [Nat.ble_eq]; exact hc) (by omega) (o := 0) (by omega)
  rw [h0, List.drop_zero, List.take_length]

end Go.Xm
