/- Calls that read one row and are told by a table. Conditions: none. -/
import Derived.Test.YtfgggididakkbaaGreatDoorMx
import Derived.Test.YtfgggididakkbaaGreatDoorTw
namespace Go.Xm
open Go.RowKit
set_option linter.unusedVariables false
set_option linter.unusedSimpArgs false

theorem frzH_get : ∀ {h : Heap} {b : Nat} {cs : List Value} {fz : Nat} {e : TypeId} {es : Nat}, hget h b = some (.cells cs fz e es) → hget (frzH h) b = some (.cells cs (fz + (cs.length + 1)) e es)
  | [], b, cs, fz, e, es, hi => by cases hi
  | (j, o) :: h, b, cs, fz, e, es, hi => by
    rw [hget_cons] at hi
    by_cases q : j = b
    · rw [if_pos q] at hi
      have hi : o = .cells cs fz e es := Option.some.inj hi
      subst hi
      have e0 : frzH ((j, .cells cs fz e es) :: h) = (j, .cells cs (fz + (cs.length + 1)) e es) :: frzH h := rfl
      rw [e0, hget_cons, if_pos q]
    · rw [if_neg q] at hi
      have ih := frzH_get hi
      cases o with
      | cells cs1 fz1 e1 es1 =>
        have e0 : frzH ((j, .cells cs1 fz1 e1 es1) :: h) = (j, .cells cs1 (fz1 + (cs1.length + 1)) e1 es1) :: frzH h := rfl
        rw [e0, hget_cons, if_neg q]
        exact ih
      | iter s pos => exact ih
      | imap l => exact ih
      | was _ _ _ _ _ => exact ih

/-- What the machine answers to a call, at a heap. -/
noncomputable def callH (E : Env) (n K : Nat) (args : List Value) (h : Heap) (c : Nat) : Option Value :=
  match callF E (exec E n) K args h c with
  | some (v, _, _) => some v
  | none => none

theorem KC.run {E : Env} (hE : E.Ok) {K n : Nat} {F : Func} (hF : E.fn K = some F) {args : List Value} {h : Heap} {c : Nat} {v : Value} (hx : callH E n K args h c = some v) : KC E K args h c (fun v1 _ _ => v1 = v) := by
  unfold callH at hx
  split at hx
  · rename_i v0 h0 c0 hr
    cases hx
    intro B ρ w args' h1 h2 h3 h4 h5 h6
    obtain ⟨f1, f2, f3⟩ := hE.fn K F hF
    rcases callF_ok hE (exec_ok hE n).1 K args h c _ _ _ hr B ρ w args' h1 h2 h3 h4 h5 h6 with ⟨v', q, _⟩ | ⟨q1, q2⟩
    · rw [run_callFunc_go f1 f2 f3 _ w] at q
      cases q
    · refine ⟨q1, q2.mono ?_⟩
      rintro e w' ⟨v', ρ', rfl, p1, p2, p3, p4, p5⟩
      exact ⟨_, v', ρ', _, _, rfl, p1, p2, p3, p4, p5, rfl⟩
  · cases hx

theorem KC.fast {E : Env} {K : Nat} {args : List Value} {h : Heap} {c : Nat} {R : Value → Heap → Nat → Prop} (hx : KC (fastEnv E) K args h c R) : KC E K args h c R := hx

theorem get_one (b : Nat) (o : XObj) : hget [(b, o)] b = some o := by rw [hget_cons, if_pos rfl]

/-- Of the heap only one block matters. -/
theorem KQ.sub {E : Env} {K : Nat} {args : List Value} {h : Heap} {b : Nat} {o : XObj} {V : Value} (hb : hget h b = some o) (hx : KQ E K args [(b, o)] V) : KQ E K args h V := by
  intro B ρ w args' h1 h2 h3 h4 w' h5
  refine hx B ρ w args' h1 (h2.sub (fun i o' q => ?_)) h3 h4 w' h5
  rw [hget_cons] at q
  by_cases e : b = i
  · rw [if_pos e] at q
    subst e
    rw [hb]; exact q
  · rw [if_neg e] at q
    cases q

/-- A call with an int and one whole row of scalars, told by a function. -/
noncomputable def tabPrim (e : TypeId) (f : Int → Nat → List Value → Option Value) (args : List Value) (h : Heap) (c : Nat) : Option (Value × Heap × Nat) :=
  match args with
  | [.int .i64 z, .slice (some ⟨b, 0, none⟩) len cap] => match hget h b with
    | some (.cells cs fz e' es) => match (Nat.beq fz 0 && (Nat.beq e' e && (Nat.beq es 1 && (Nat.beq cap cs.length && cs.all scal)))) with
      | true => match f z len cs with
        | some v => some (v, h, c)
        | none => none
      | false => none
    | _ => none
  | _ => none

/-- The heap that holds that row alone, to be read. -/
def rowH (e : TypeId) (cs : List Value) : Heap := [(0, .cells cs (cs.length + 1) e 1)]

theorem tabPrim_ok {E : Env} (hE : E.Ok) {K : Nat} {e : TypeId} {f : Int → Nat → List Value → Option Value}
    (hf : ∀ z len cs v, f z len cs = some v → plain v = true ∧ KC E K [.int .i64 z, .slice (some ⟨0, 0, none⟩) len cs.length] (rowH e cs) 1 (fun v1 _ _ => v1 = v))
    {args : List Value} {h : Heap} {c : Nat} {v : Value} {h' : Heap} {c' : Nat} (hx : tabPrim e f args h c = some (v, h', c')) :
    KC E K args h c (fun v1 h1 c1 => v1 = v ∧ h1 = h' ∧ c1 = c') := by
  unfold tabPrim at hx
  split at hx
  · rename_i z b len cap
    split at hx
    · rename_i cs fz e' es hb
      split at hx
      · rename_i hg
        simp only [Bool.and_eq_true] at hg
        obtain ⟨g1, g2, g3, g4, g5⟩ := hg
        have g1 := Nat.eq_of_beq_eq_true g1
        have g2 := Nat.eq_of_beq_eq_true g2
        have g3 := Nat.eq_of_beq_eq_true g3
        have g4 := Nat.eq_of_beq_eq_true g4
        subst g1; subst g2; subst g3; subst g4
        split at hx
        · rename_i v0 hv
          cases hx
          obtain ⟨hp, hK⟩ := hf _ _ _ _ hv
          have hq : KQ E K [.int .i64 z, .slice (some ⟨b, 0, none⟩) len cs.length] h v :=
            KQ.sub hb (KC.quiet hE [b] hK hp rfl (by simp) rfl rfl ⟨⟨b, .cells cs (0 + (cs.length + 1)) e' 1, rfl, frzH_get (get_one _ _), .inl ⟨by rw [Nat.zero_add], all_flt g5⟩⟩, trivial⟩)
          exact hq.call hp
        · cases hx
      · cases hx
    · cases hx
  · cases hx

/-- The tables, with one more call that is told so. -/
noncomputable def withTab (E : Env) (K : Nat) (e : TypeId) (f : Int → Nat → List Value → Option Value) : Env :=
  { E with hprim := fun k => Bool.casesOn (Nat.beq k K) (E.hprim k) (some (tabPrim e f)) }

theorem withTab_ok {E : Env} (hE : E.Ok) {K : Nat} {e : TypeId} {f : Int → Nat → List Value → Option Value} {F : Func} (hF : E.fn K = some F)
    (hf : ∀ z len cs v, f z len cs = some v → plain v = true ∧ KC E K [.int .i64 z, .slice (some ⟨0, 0, none⟩) len cs.length] (rowH e cs) 1 (fun v1 _ _ => v1 = v)) : (withTab E K e f).Ok := by
  refine ⟨hE.mixed, hE.ty, hE.fn, hE.prim, hE.ext, fun k g hg => ?_, hE.keeps, hE.same, hE.meth, hE.glob⟩
  have hg : Bool.casesOn (motive := fun _ => Option (List Value → Heap → Nat → Option (Value × Heap × Nat))) (Nat.beq k K) (E.hprim k) (some (tabPrim e f)) = some g := hg
  cases hb : Nat.beq k K with
  | false => rw [hb] at hg; exact hE.hprim k g hg
  | true =>
    rw [hb] at hg
    cases hg
    have hk := Nat.eq_of_beq_eq_true hb
    subst hk
    refine ⟨⟨F, hE.fn k F hF⟩, fun args h c v h' c' hx B ρ w args' h1 h2 h3 h4 h5 h6 => ?_⟩
    refine ((tabPrim_ok hE hf hx) B ρ w args' h1 h2 h3 h4 h5 h6).2.mono ?_
    rintro e1 w' ⟨v1, v', ρ', h1', c1', rfl, p1, p2, p3, p4, p5, rfl, rfl, rfl⟩
    exact ⟨v', ρ', rfl, p1, p2, p3, p4, p5⟩

end Go.Xm
