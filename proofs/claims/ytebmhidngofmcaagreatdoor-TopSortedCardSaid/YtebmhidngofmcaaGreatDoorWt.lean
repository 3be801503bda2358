/- Sorted wishes: the lists, and what dock.Serves and dock.Way are to answer. Conditions: none. -/
import Derived.Test.YtebmhidngofmcaaGreatDoorWb
namespace Go.Xm
open Go.RowKit

noncomputable def cellsI (l : List Nat) : List Value := List.rec [] (fun n _ ih => Value.int .i64 (.ofNat n) :: ih) l

noncomputable def rowR (k n : Nat) (l : List Nat) : Option Value :=
  callH (fastEnv Em) 1000 k [.int .i64 (.ofNat n), .slice (some ⟨0, 0, none⟩) l.length (cellsI l).length] (rowH 3 (cellsI l)) 1

def okS (r : Option Value) (b : Bool) : Bool :=
  match r with
  | some (.tuple a) => match a.toList with
    | [.bool b', .int .i64 (.ofNat 0)] => b == b'
    | _ => false
  | _ => false

def okW (r : Option Value) (k : Nat) : Bool :=
  match r with
  | some (.tuple a) => match a.toList with
    | [.int .i64 (.ofNat m), .int .i64 (.ofNat 0)] => Nat.beq m k
    | _ => false
  | _ => false

theorem okS_eq {r : Option Value} {b : Bool} (h : okS r b = true) : r = some (.tuple #[.bool b, .int .i64 0]) := by
  unfold okS at h
  split at h
  · rename_i a
    split at h
    · rename_i b' e
      have hb : b = b' := by simpa using h
      subst hb
      have : a = #[.bool b, .int .i64 (.ofNat 0)] := Array.ext' e
      rw [this]
      rfl
    · cases h
  · cases h

theorem okW_eq {r : Option Value} {k : Nat} (h : okW r k = true) : r = some (.tuple #[.int .i64 (.ofNat k), .int .i64 0]) := by
  unfold okW at h
  split at h
  · rename_i a
    split at h
    · rename_i m e
      have hb : m = k := Nat.eq_of_beq_eq_true h
      subst hb
      have : a = #[.int .i64 (.ofNat m), .int .i64 (.ofNat 0)] := Array.ext' e
      rw [this]
      rfl
    · cases h
  · cases h

/-- All lists of k numbers from lo on, below n, none smaller than the one before it. -/
def ascL (n : Nat) : Nat → Nat → List (List Nat)
  | 0, _ => [[]]
  | k + 1, lo => (List.range' lo (n - lo)).flatMap fun w => (ascL n k w).map (w :: ·)

def ascOk (n : Nat) : Nat → List Nat → Bool
  | _, [] => true
  | lo, w :: l => Nat.ble lo w && (Nat.blt w n && ascOk n w l)

theorem mem_asc {n : Nat} : ∀ (l : List Nat) (lo : Nat), ascOk n lo l = true → l ∈ ascL n l.length lo
  | [], _, _ => List.mem_singleton.2 rfl
  | w :: l, lo, h => by
    simp only [ascOk, Bool.and_eq_true] at h
    obtain ⟨h1, h2, h3⟩ := h
    have h1 := Nat.le_of_ble_eq_true h1
    have h2 : w < n := by simpa [Nat.blt_eq] using h2
    show w :: l ∈ (List.range' lo (n - lo)).flatMap fun w => (ascL n l.length w).map (w :: ·)
    refine List.mem_flatMap.2 ⟨w, ?_, List.mem_map.2 ⟨l, mem_asc l w h3, rfl⟩⟩
    rw [List.mem_range'_1]
    omega

/-- None wishes for more than its number among the sorted ones. -/
def parkN : Nat → List Nat → Bool
  | _, [] => true
  | i, w :: l => Nat.ble w i && parkN (i + 1) l

def wayN : Nat → List Nat → Nat
  | _, [] => 0
  | i, w :: l => i - w + wayN (i + 1) l

noncomputable def oneOk (n : Nat) (l : List Nat) : Bool :=
  okS (rowR 5 n l) (parkN 0 l) && Bool.casesOn (parkN 0 l) true (okW (rowR 6 n l) (wayN 0 l))

/-- Some of the lists are answered so. -/
noncomputable def tabOk (n i k : Nat) : Bool := (((ascL n n 0).drop i).take k).all (oneOk n)

theorem tab_cons {n i k : Nat} (h : tabOk n i k = true) (hr : ((ascL n n 0).drop (i + k)).all (oneOk n) = true) : ((ascL n n 0).drop i).all (oneOk n) = true := by
  rw [← List.take_append_drop k ((ascL n n 0).drop i), List.all_append, Bool.and_eq_true, List.drop_drop]
  exact ⟨h, hr⟩

theorem tab_end {n i : Nat} (h : Nat.ble (ascL n n 0).length i = true) : ((ascL n n 0).drop i).all (oneOk n) = true := by
  rw [List.drop_eq_nil_of_le (Nat.le_of_ble_eq_true h)]
  rfl

end Go.Xm
