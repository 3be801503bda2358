/- Arguments that are arrays of integers, or arrays of such, opened. Conditions: none; nothing here speaks of one program. -/
import Derived.OpenShut
import Derived.ChangeShapes
import Derived.WideShapes
namespace Go.Xm
section
variable {H : Type} {enc : TypeId × Value → H} {P : Program} {w : World} {base : Nat} {spare : Nat → Bool} {held : Bool}

/-- Each value is an integer of this kind, and well formed. -/
def AllI (q : IntKind) (cs : List Value) : Prop := ∀ v ∈ cs, ∃ z, v = .int q z ∧ (Lit.int q z).wf = true

theorem allI_list {q : IntKind} : ∀ {cs : List Value}, AllI q cs → ∃ zs : List Int, cs = zs.map (.int q) ∧ ∀ z ∈ zs, (Lit.int q z).wf = true
  | [], _ => ⟨[], rfl, by simp⟩
  | v :: cs, h => by
    obtain ⟨z, rfl, hz⟩ := h v (List.mem_cons_self ..)
    obtain ⟨zs, rfl, hw⟩ := allI_list (cs := cs) (fun v hv => h v (List.mem_cons_of_mem _ hv))
    refine ⟨z :: zs, rfl, fun y hy => ?_⟩
    rcases List.mem_cons.1 hy with rfl | hy
    · exact hz
    · exact hw y hy

theorem allI_int {q : IntKind} {e : TypeId} (he : P.underlying e = some (.int q)) {m : Nat} {cs : List Value} {x : DataW H × List MemPlace} (h : DataW.trod enc P w base spare held m e cs = some x) : AllI q cs := by
  obtain ⟨n, rfl, _, hw⟩ := DataW.trod_int he h
  intro v hv
  obtain rfl := List.mem_singleton.1 hv
  exact ⟨n, rfl, hw⟩

theorem allI_array {q : IntKind} {t e : TypeId} {n s : Nat} (ht : P.underlying t = some (.array n e)) (hs : P.cellsOf e = s) (hn : P.cellsOf t = n * s) (h0 : 0 < s)
    (hE : ∀ (m : Nat) (cs : List Value) (x : DataW H × List MemPlace), DataW.trod enc P w base spare held m e cs = some x → AllI q cs) {m : Nat} {cs : List Value} {x : DataW H × List MemPlace} (h : DataW.trod enc P w base spare held m t cs = some x) : AllI q cs := by
  obtain ⟨xs, m', _, _, hl, hx, hi⟩ := DataW.trod_array ht h
  intro v hv
  obtain ⟨j, hj, rfl⟩ := List.getElem_of_mem hv
  have hjn : j / s < n := by
    rw [Nat.div_lt_iff_lt_mul h0]; omega
  have h1 := hi (j / s) hjn
  have h2 : xs[j / s]? = some (xs[j / s]'(by omega)) := List.getElem?_eq_getElem _
  rw [h2, hs] at h1
  refine hE _ _ _ h1 _ ?_
  have hm : j / s * s + j % s = j := Nat.div_add_mod' j s
  have hlt : j % s < s := Nat.mod_lt _ h0
  refine List.mem_of_getElem? (i := j % s) ?_
  rw [List.getElem?_take, if_pos hlt, List.getElem?_drop, hm, List.getElem?_eq_getElem hj]

theorem okWide_array {r : Reach} {b0 : Nat} {t e : TypeId} {n : Nat} {v : Value} (ht : P.underlying t = some (.array n e)) (h : Value.okWide P w r b0 t v) : ∃ cs : Array Value, v = .agg cs ∧ cs.size = P.cellsOf t := by
  simp only [Value.okWide, ht] at h
  obtain ⟨cs, h1, h2, _⟩ := h
  exact ⟨cs, h1, h2⟩

theorem open_array1 {r : Reach} {b0 : Nat} {q : IntKind} {t e : TypeId} {n c : Nat} {v : Value} {d : DataW H} {ps : List MemPlace} (ht : P.underlying t = some (.array n e)) (he : P.underlying e = some (.int q)) (hs : P.cellsOf e = 1) (hn : P.cellsOf t = n * 1) (hc : P.cellsOf t = c)
    (hv : Value.okWide P w r b0 t v) (h : DataW.Trod enc P w base spare held t v d ps) : ∃ zs : List Int, v = .agg (zs.map (.int q)).toArray ∧ zs.length = c ∧ ∀ z ∈ zs, (Lit.int q z).wf = true := by
  obtain ⟨cs, rfl, hsz⟩ := okWide_array ht hv
  obtain ⟨m, hm⟩ := h
  obtain ⟨zs, h1, h2⟩ := allI_list (allI_array ht hs hn (by omega) (fun _ _ _ => allI_int he) hm)
  have h1 : cs.toList = zs.map (.int q) := h1
  refine ⟨zs, by rw [← h1], ?_, h2⟩
  have := congrArg List.length h1
  simp only [List.length_map, Array.length_toList] at this
  omega

theorem open_array2 {r : Reach} {b0 : Nat} {q : IntKind} {t e e' : TypeId} {n k c : Nat} {v : Value} {d : DataW H} {ps : List MemPlace} (ht : P.underlying t = some (.array n e)) (he : P.underlying e = some (.array k e')) (he' : P.underlying e' = some (.int q)) (hs' : P.cellsOf e' = 1)
    (hk : P.cellsOf e = k * 1) (hs : P.cellsOf e = k) (hn : P.cellsOf t = n * k) (h0 : 0 < k) (hc : P.cellsOf t = c)
    (hv : Value.okWide P w r b0 t v) (h : DataW.Trod enc P w base spare held t v d ps) : ∃ zs : List Int, v = .agg (zs.map (.int q)).toArray ∧ zs.length = c ∧ ∀ z ∈ zs, (Lit.int q z).wf = true := by
  obtain ⟨cs, rfl, hsz⟩ := okWide_array ht hv
  obtain ⟨m, hm⟩ := h
  obtain ⟨zs, h1, h2⟩ := allI_list (allI_array ht hs hn h0 (fun _ _ _ => allI_array he hs' hk (by omega) (fun _ _ _ => allI_int he')) hm)
  have h1 : cs.toList = zs.map (.int q) := h1
  refine ⟨zs, by rw [← h1], ?_, h2⟩
  have := congrArg List.length h1
  simp only [List.length_map, Array.length_toList] at this
  omega

theorem list8 {α : Type} {l : List α} (h : l.length = 8) : ∃ a0 a1 a2 a3 a4 a5 a6 a7, l = [a0, a1, a2, a3, a4, a5, a6, a7] := by
  match l, h with
  | [a0, a1, a2, a3, a4, a5, a6, a7], _ => exact ⟨a0, a1, a2, a3, a4, a5, a6, a7, rfl⟩

theorem list16 {α : Type} {l : List α} (h : l.length = 16) : ∃ a0 a1 a2 a3 a4 a5 a6 a7 b0 b1 b2 b3 b4 b5 b6 b7, l = [a0, a1, a2, a3, a4, a5, a6, a7, b0, b1, b2, b3, b4, b5, b6, b7] := by
  match l, h with
  | [a0, a1, a2, a3, a4, a5, a6, a7, b0, b1, b2, b3, b4, b5, b6, b7], _ => exact ⟨a0, a1, a2, a3, a4, a5, a6, a7, b0, b1, b2, b3, b4, b5, b6, b7, rfl⟩
end
end Go.Xm
