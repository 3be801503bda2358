/- The abstract machine, more: lookups that tell whether there is an entry, in maps whose keys are arrays of ints. -/
import Derived.Test.YtlfobnldaneccaaGreatDoorNd
import Derived.Test.YtlfobnldaneccaaGreatDoorTe
namespace Go.Xm
open Go.RowKit
set_option linter.unusedVariables false
set_option linter.unusedSimpArgs false
def hasA {α : Type} : List (List Int × α) → List Int → Bool
  | [], _ => false
  | p :: t, k => if p.1 = k then true else hasA t k
theorem hasA_imA {α : Type} (g : α → Value) (k : List Int) : ∀ l : List (List Int × α), (mfind (imA g l) k).isSome = hasA l k
  | [] => rfl
  | p :: l => by
    have ih := hasA_imA g k l
    show (if p.1 = k then some (g p.2) else mfind (imA g l) k).isSome = (if p.1 = k then true else hasA l k)
    by_cases e : p.1 = k
    · rw [if_pos e, if_pos e]; rfl
    · rw [if_neg e, if_neg e, ih]
theorem v_mgetAo {α : Type} (g : α → Value) {J : Ins} {d : Option (List Bool)} {n : Nat} {x i : Src} {z : Value} {t : Tr} {h : Heap} (hI : J = .rd d (rLookup n x i z true)) {b : Nat} {k : List Int} (hx : ev t x = .map (some b)) (hi : ev t i = .agg (rowC (encI .i64) k).toArray) (hn : Nat.beq n 1 = false) {l : List (List Int × α)}
    (hg : hget h b = some (.imap (imA g l))) (hl : (Nat.beq k.length n && lensA n l) = true) {d0 : α} (hz : z = g d0) (hs : scal z = true) {v : Value} (hv : .tuple #[g (getA d0 l k), .bool (hasA l k)] = v) : insV J t h = some v := by
  subst hI
  obtain ⟨l1, l2⟩ := Bool.and_eq_true_iff.1 hl
  have e0 : k.length = n := Nat.eq_of_beq_eq_true l1
  have e1 : Nat.beq k.length 1 = false := by rw [e0]; exact hn
  simp only [insV, rLookup, hx, hg, hi, hs, keyL_row e1, l1, lens_imA, l2, Bool.and_self]
  rw [hz, mfind_imA, hasA_imA, hv]
def tzG (x : Int) : Int := tz32Tab.getD (tzJx x).toNat 0
def tzD (x : Int) : Bool := !(x == 0) && (decide (0 ≤ tzJx x) && decide (tzJx x < 32))
theorem tzG_ok {x : Int} (h : tzD x = true) (w : World) (hI : seatInv w) : Calls Proofs.Tryz.prog 39 #[.int .u32 x] w (fun e w' => e = .returned (.int .i64 (tzG x)) ∧ Below w.heap.size w w') := by
  have hp : pTz32 [.int .u32 x] = some (.int .i64 (tzG x)) := by
    unfold tzD at h
    simp only [pTz32, h]
    rfl
  exact ((tzPrim_ok 39 pTz32 rfl).2 [.int .u32 x] _ hp).2.2 w hI
end Go.Xm
