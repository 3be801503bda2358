/- The abstract machine at this program: its tables, with the library's contracts for searches in strings. Conditions: the library's variable MaxLen holds some int. -/
import Derived.Test.YtdijjdkaojbolaaMj
import Derived.Test.YtdijjdkaojbolaaShelf
namespace Go.Xm
open Go.RowKit

def maxInv (w : World) : Prop := ∃ m, w.cell? ⟨0, 0, none⟩ = some (.int .i64 m)

theorem maxInv_keeps (w w' : World) (h : maxInv w) (hk : ∀ k, k < 0 + 1 → w'.heap[k]? = w.heap[k]?) : maxInv w' := by
  obtain ⟨m, hm⟩ := h
  exact ⟨m, by rw [← hm]; exact World.cell?_of_block (w := w) (hk _ (Nat.lt_succ_self _))⟩

theorem maxInv_size {w : World} (h : maxInv w) : 0 + 1 ≤ w.heap.size := by
  obtain ⟨m, hm⟩ := h
  unfold World.cell? at hm
  split at hm
  · rename_i h1
    exact (Array.getElem?_eq_some_iff.1 h1).1
  · cases hm

def pIndex (args : List Value) : Option Value :=
  match args with
  | [.string s, .string sub] => match Nat.blt s.size 4294967281 with
    | true => some (.int .i64 (Lib.index s.data.toList sub.data.toList))
    | false => none
  | _ => none

def pCount (args : List Value) : Option Value :=
  match args with
  | [.string s, .string ⟨⟨[c]⟩⟩] => some (.int .i64 (Lib.countByte s.data.toList c))
  | _ => none

def strPrim (k : Nat) : Option (List Value → Option Value) :=
  match Nat.beq k 40 with
  | true => some pIndex
  | false => match Nat.beq k 38 with
    | true => some pCount
    | false => none

theorem strPrim_ok : ∀ k g, strPrim k = some g → (∃ F, Proofs.Try.prog.funcs[k]? = some F ∧ (F.name == "runtime.NumGoroutine") = false ∧ F.body.isSome = true) ∧
    ∀ args v, g args = some v → args.all plain = true ∧ plain v = true ∧ ∀ w, maxInv w → Calls Proofs.Try.prog k args.toArray w (fun e w' => e = .returned v ∧ Below w.heap.size w w') := by
  intro k g h
  unfold strPrim at h
  split at h
  · rename_i hk
    have hk := Nat.eq_of_beq_eq_true hk
    subst hk
    cases h
    refine ⟨⟨_, Proofs.Try.func40, by kernel_rfl, by kernel_rfl⟩, ?_⟩
    intro args v hv
    unfold pIndex at hv
    split at hv
    · rename_i s sub
      split at hv
      · rename_i hs
        cases hv
        refine ⟨rfl, rfl, fun w hI => ?_⟩
        obtain ⟨m, hm⟩ := hI
        exact (Proofs.Try.strings_Index s sub m w (by simpa [Nat.blt_eq] using hs) hm).mono (fun e w' ⟨he, hw⟩ => ⟨he, hw ▸ Below.refl _ _⟩)
      · cases hv
    · cases hv
  · split at h
    · rename_i hk
      have hk := Nat.eq_of_beq_eq_true hk
      subst hk
      cases h
      refine ⟨⟨_, Proofs.Try.func38, by kernel_rfl, by kernel_rfl⟩, ?_⟩
      intro args v hv
      unfold pCount at hv
      split at hv
      · rename_i s c
        cases hv
        refine ⟨rfl, rfl, fun w hI => ?_⟩
        exact (Proofs.Try.strings_Count_one s c w).mono (fun e w' ⟨he, hw⟩ => ⟨he, hw ▸ Below.refl _ _⟩)
      · cases hv
    · cases h

def sameFn (k : Nat) : Bool := Nat.beq k 73

theorem sameFn_ok : ∀ k, sameFn k = true → ∀ v w, (callFunc k #[v]).run Proofs.Try.prog w = .ok (.value v) w := by
  intro k h v w
  have hk := Nat.eq_of_beq_eq_true h
  subst hk
  rw [Go.run_callFunc_extern Proofs.Try.func73 (by kernel_rfl) (by kernel_rfl) (by kernel_rfl) (e := Extern.AbiNoEscape.same) (by kernel_rfl)]
  rfl

noncomputable def E0 : Env := stdEnv Proofs.Try.prog strPrim (fun _ => none) sameFn (0 + 1) maxInv

theorem E0_ok : E0.Ok := stdEnv_ok (by kernel_rfl) strPrim_ok maxInv_keeps (fun k g h => by cases h) sameFn_ok

theorem run0 {n k : Nat} {args : List Value} {v : Value} (hp : args.all plain = true) (hk : (strPrim k).isNone = true) (hk3 : sameFn k = false) (h : call E0 n k args = some v) (w : World) (hI : maxInv w) :
    Calls Proofs.Try.prog k args.toArray w (fun e w' => e = .returned v ∧ Below w.heap.size w w') :=
  run_ok E0_ok hp hk rfl hk3 h w (maxInv_size hI) hI

#print axioms run0
end Go.Xm
