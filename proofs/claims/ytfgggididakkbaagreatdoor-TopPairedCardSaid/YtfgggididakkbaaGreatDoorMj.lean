/- The abstract machine, part 10: its tables read off the program itself. -/
import Derived.Test.YtfgggididakkbaaGreatDoorMi
namespace Go.Xm
set_option linter.unusedVariables false
set_option linter.unusedSimpArgs false

def xty (P : Program) (t : Nat) : Option XTy :=
  match P.underlying t with
  | some u => match P.info? t with
    | some i => match i.zero with
      | some z => some ⟨u, i.size, i.bytes, z⟩
      | none => none
    | none => none
  | none => none

theorem xty_ok (P : Program) : TyOk P (xty P) := by
  intro t x h
  unfold xty at h
  split at h
  · rename_i u hu
    split at h
    · rename_i i hi
      split at h
      · rename_i z hz
        cases h
        exact ⟨hu, i, hi, rfl, rfl, hz⟩
      · cases h
    · cases h
  · cases h

def xfn (P : Program) (k : Nat) : Option Func :=
  match P.funcs[k]? with
  | some F => match (F.body.isSome && !(F.name == "runtime.NumGoroutine")) with
    | true => some F
    | false => none
  | none => none

theorem xfn_ok (P : Program) : ∀ k F, xfn P k = some F → P.funcs[k]? = some F ∧ (F.name == "runtime.NumGoroutine") = false ∧ F.body.isSome = true := by
  intro k F h
  unfold xfn at h
  split at h
  · rename_i F0 hF
    split at h
    · rename_i hb
      cases h
      simp only [Bool.and_eq_true, Bool.not_eq_true'] at hb
      exact ⟨hF, hb.2, hb.1⟩
    · cases h
  · cases h

/-- The tables of a program, with what is told of some functions. -/
def stdEnv (P : Program) (prim ext : Nat → Option (List Value → Option Value)) (same : Nat → Bool) (G : Nat) (inv : World → Prop) : Env := ⟨P, xty P, xfn P, prim, ext, fun _ => none, same, G, inv, false, false, fun _ => [], fun _ _ => none, false⟩

/-- The same tables, where append keeps what was. -/
def keepEnv (E : Env) : Env := { E with keep := true }

/-- The same tables, where append keeps what was, and stays within known cells. -/
def inEnv (E : Env) : Env := { E with keep := true, inpl := true }

theorem inEnv_ok {E : Env} (h : E.Ok) : (inEnv E).Ok := ⟨h.mixed, h.ty, h.fn, h.prim, h.ext, h.hprim, h.keeps, h.same, h.meth, h.glob⟩

/-- And where operations on small ints are quick. -/
def fastEnv (E : Env) : Env := { inEnv E with fast := true }

theorem fastEnv_ok {E : Env} (h : E.Ok) : (fastEnv E).Ok := ⟨h.mixed, h.ty, h.fn, h.prim, h.ext, h.hprim, h.keeps, h.same, h.meth, h.glob⟩

theorem keepEnv_ok {E : Env} (h : E.Ok) : (keepEnv E).Ok := ⟨h.mixed, h.ty, h.fn, h.prim, h.ext, h.hprim, h.keeps, h.same, h.meth, h.glob⟩

theorem stdEnv_ok {P : Program} {prim ext : Nat → Option (List Value → Option Value)} {same : Nat → Bool} {G : Nat} {inv : World → Prop} (hm : P.follows .mixedOrders = true)
    (hp : ∀ k g, prim k = some g → (∃ F, P.funcs[k]? = some F ∧ (F.name == "runtime.NumGoroutine") = false ∧ F.body.isSome = true) ∧
      ∀ args v, g args = some v → args.all plain = true ∧ plain v = true ∧ ∀ w, inv w → Calls P k args.toArray w (fun e w' => e = .returned v ∧ RowKit.Below w.heap.size w w'))
    (hk : ∀ w w', inv w → (∀ k, k < G → w'.heap[k]? = w.heap[k]?) → inv w')
    (he : ∀ k g, ext k = some g → ∀ args v, g args = some v → args.all plain = true ∧ plain v = true ∧ ∀ w, (callFunc k args.toArray).run P w = .ok (.value v) w) (hs : ∀ k, same k = true → ∀ v w, (callFunc k #[v]).run P w = .ok (.value v) w) : (stdEnv P prim ext same G inv).Ok :=
  ⟨hm, xty_ok P, xfn_ok P, hp, he, (fun k g h => by cases h), hk, hs, (fun name t k h => by cases h), fun g t v h => by cases h⟩

end Go.Xm
