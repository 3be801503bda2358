/- append to nothing of so many zeros; append to a slice of length 0 that lies in a row (slices.Grow, slices.Concat). -/
import Derived.Test.YtlfobnldaneccaaGreatDoorMw
namespace Go.Xm
open Go.RowKit

theorem rowC_zeros (k : IntKind) : ∀ n, rowC (encI k) (List.replicate n (0 : Int)) = List.replicate n (.int k 0)
  | 0 => rfl
  | n + 1 => by
    have e1 : List.replicate (n + 1) (0 : Int) = [0] ++ List.replicate n 0 := rfl
    rw [e1, rowC_append, rowC_zeros k n]
    rfl

theorem e_appendZ {g : Ins} {d : Option (List Bool)} {bytes : Nat} {e : TypeId} {k : IntKind} {s x : Src} {t : Tr} {h h' : Heap} {c : Nat} (hI : g = .ef d (eAppendZ bytes e (.int k 0) s x)) (hs : ev t s = .slice none 0 0) {m : Int} (hx : ev t x = .int .i64 m)
    (hc : (decide (0 < m) && Nat.ble (m.toNat * bytes) 1000000000 && Nat.ble m.toNat 1000000000) = true) {n : Nat} (hn : m.toNat = n) (hh : (c, .cells (rowC (encI k) (List.replicate n 0)) 0 e 1) :: h = h') :
    insE g t h c = some (.slice (some ⟨c, 0, none⟩) n n, h', c + 1) := by
  subst hI
  subst hh
  subst hn
  rw [rowC_zeros]
  simp only [insE, eAppendZ, hs, hx, hc]

theorem e_appendN {α : Type} {f : α → List Value} {s : Nat} (hf : Enc f s) {g : Ins} {d : Option (List Bool)} {bytes : Nat} {e : TypeId} {x y : Src} {t : Tr} {h h' : Heap} {c : Nat} (hI : g = .ef d (eAppend false s bytes e x y)) {b cap : Nat} (hx : ev t x = .slice (some ⟨b, 0, none⟩) 0 cap) {xs : List α}
    (hg : hget h b = some (.cells (rowC f xs) 0 e s)) {n : Nat} {ys : List α} (hy : fetch h s (ev t y) = some (n, rowC f ys)) (hn : ys.length = n) (h0 : decide (1 ≤ ys.length) = true) (hs1 : Nat.ble 1 s = true) (hft : fitsB n bytes = true)
    (hh : (c, .cells (rowC f ys) 0 e s) :: hdel h b = h') :
    insE g t h c = some (.slice (some ⟨c, 0, none⟩) ys.length ys.length, h', c + 1) := by
  subst hI
  subst hh
  have h0 := of_decide_eq_true h0
  obtain ⟨m, rfl⟩ : ∃ m, n = m + 1 := ⟨n - 1, by omega⟩
  rw [hn]
  simp only [fitsB, Bool.and_eq_true] at hft
  obtain ⟨t1, t2⟩ := hft
  have z1 : 0 + (m + 1) = m + 1 := Nat.zero_add _
  have b1 : Nat.ble 0 cap = true := by rw [Nat.ble_eq]; omega
  have b2 : Nat.ble (0 + 0 * s) (rowC f xs).length = true := by rw [Nat.ble_eq]; omega
  have b3 : Nat.beq e e = true := Nat.beq_refl e
  have b4 : Nat.ble 0 (0 * s) = true := by rw [Nat.ble_eq]; omega
  have b5 : Nat.beq s s = true := Nat.beq_refl s
  simp only [insE, eAppend, hx, hg, hy, z1, b1, b2, b3, t1, t2, rowC_one1 hf ys, hs1, Bool.and_self]
  cases s with
  | zero => cases hs1
  | succ s' =>
    simp only [b4, b5, Bool.and_self, wasH_zero]
    have h3 : ((rowC f xs).drop 0).take (0 * (s' + 1)) = [] := by rw [Nat.zero_mul]; rfl
    rw [h3, List.nil_append]

end Go.Xm
