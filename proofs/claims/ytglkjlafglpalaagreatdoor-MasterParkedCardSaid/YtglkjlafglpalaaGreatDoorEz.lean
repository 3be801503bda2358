/- The chapter's examples hold. Conditions: none. -/
import Derived.Test.YtglkjlafglpalaaGreatDoorPg
import Derived.Test.YtglkjlafglpalaaGreatDoorDf
import Derived.Deep.Slices
import Derived.Lib.SmallJoins
import Derived.OpenShut
import Derived.ChangeShapes
import Derived.WideShapes
import Derived.LaidLaws
import Derived.Shelf.Vars
import Derived.Test.YtglkjlafglpalaaGreatDoorRows
namespace Go.Xm
open Go.RowKit
set_option linter.unusedVariables false
set_option maxRecDepth 100000 in
theorem works_run : f15 40 = some true := by kernel_rfl
theorem works_ok (w : World) (hI : maInv w) : Calls Proofs.Tryz.prog 15 #[] w fun e w' => e = .returned (.bool true) ∧ Below w.heap.size w w' := f15_ok 40 true works_run w hI
end Go.Xm
namespace Go.Xm
open Go.RowKit Go.ChangeShapes Go.WideShapes
set_option linter.unusedVariables false
section
variable {H : Type} {enc : TypeId × Value → H} {P : Program} {w : World} {base : Nat} {held : Bool}
end
theorem lit_u8 {z : Int} (h : (Lit.int .u8 z).wf = true) : ∃ n : Nat, n < 256 ∧ z = (n : Int) := by
 simp [Lit.wf, IntKind.min, IntKind.max, IntKind.signed, IntKind.bits] at h
 exact ⟨z.toNat, by omega, by omega⟩
end Go.Xm
namespace Go.Xm
section
variable {H : Type} {enc : TypeId × Value → H} {P : Program} {w : World} {base : Nat} {spare : Nat → Bool} {held : Bool}
def AllI (q : IntKind) (cs : List Value) : Prop := ∀ v ∈ cs, ∃ z, v = .int q z ∧ (Lit.int q z).wf = true
theorem allI_list {q : IntKind} : ∀ {cs : List Value}, AllI q cs → ∃ zs : List Int, cs = zs.map (.int q) ∧ ∀ z ∈ zs, (Lit.int q z).wf = true
 | [], _ => ⟨[], rfl, by simp⟩
 | v :: cs, h => by
  obtain ⟨z, rfl, hz⟩ := h v (List.mem_cons_self ..)
  obtain ⟨zs, rfl, hw⟩ := allI_list (cs := cs) (fun v hv => h v (List.mem_cons_of_mem _ hv))
  refine ⟨z :: zs, rfl, fun y hy => ?_⟩
  rcases List.mem_cons.1 hy with rfl | hy
  ·exact hz
  ·exact hw y hy
theorem allI_int {q : IntKind} {e : TypeId} (he : P.underlying e = some (.int q)) {m : Nat} {cs : List Value} {x : DataW H × List MemPlace} (h : DataW.trod enc P w base spare held m e cs = some x) : AllI q cs := by
 obtain ⟨n, rfl, _, hw⟩ := DataW.trod_int he h
 intro v hv
 obtain rfl := List.mem_singleton.1 hv
 exact ⟨n, rfl, hw⟩
theorem allI_array {q : IntKind} {t e : TypeId} {n s : Nat} (ht : P.underlying t = some (.array n e)) (hs : P.cellsOf e = s) (hn : P.cellsOf t = n * s) (h0 : 0 < s)
 (hE : ∀ (m : Nat) (cs : List Value) (x : DataW H × List MemPlace), DataW.trod enc P w base spare held m e cs = some x → AllI q cs) {m : Nat} {cs : List Value} {x : DataW H × List MemPlace} (h : DataW.trod enc P w base spare held m t cs = some x) : AllI q cs := by
 obtain ⟨xs, m', _, _, hl, hx, hi⟩ := DataW.trod_array ht h
 intro v hv
 obtain ⟨j, hj, rfl⟩ := List.getElem_of_mem hv
 have hjn : j / s < n := by
  rw [Nat.div_lt_iff_lt_mul h0]; omega
 have h1 := hi (j / s) hjn
 have h2 : xs[j / s]? = some (xs[j / s]'(by omega)) := List.getElem?_eq_getElem _
 rw [h2, hs] at h1
 refine hE _ _ _ h1 _ ?_
 have hm : j / s * s + j % s = j := Nat.div_add_mod' j s
 have hlt : j % s < s := Nat.mod_lt _ h0
 refine List.mem_of_getElem? (i := j % s) ?_
 rw [List.getElem?_take, if_pos hlt, List.getElem?_drop, hm, List.getElem?_eq_getElem hj]
theorem okWide_array {r : Reach} {b0 : Nat} {t e : TypeId} {n : Nat} {v : Value} (ht : P.underlying t = some (.array n e)) (h : Value.okWide P w r b0 t v) : ∃ cs : Array Value, v = .agg cs ∧ cs.size = P.cellsOf t := by
 simp only [Value.okWide, ht] at h
 obtain ⟨cs, h1, h2, _⟩ := h
 exact ⟨cs, h1, h2⟩
theorem open_array1 {r : Reach} {b0 : Nat} {q : IntKind} {t e : TypeId} {n c : Nat} {v : Value} {d : DataW H} {ps : List MemPlace} (ht : P.underlying t = some (.array n e)) (he : P.underlying e = some (.int q)) (hs : P.cellsOf e = 1) (hn : P.cellsOf t = n * 1) (hc : P.cellsOf t = c)
 (hv : Value.okWide P w r b0 t v) (h : DataW.Trod enc P w base spare held t v d ps) : ∃ zs : List Int, v = .agg (zs.map (.int q)).toArray ∧ zs.length = c ∧ ∀ z ∈ zs, (Lit.int q z).wf = true := by
 obtain ⟨cs, rfl, hsz⟩ := okWide_array ht hv
 obtain ⟨m, hm⟩ := h
 obtain ⟨zs, h1, h2⟩ := allI_list (allI_array ht hs hn (by omega) (fun _ _ _ => allI_int he) hm)
 have h1 : cs.toList = zs.map (.int q) := h1
 refine ⟨zs, by rw [← h1], ?_, h2⟩
 have := congrArg List.length h1
 simp only [List.length_map, Array.length_toList] at this
 omega
end
end Go.Xm
namespace Go.Xm
open Go.RowKit
set_option linter.unusedVariables false
theorem laidVars_err {P : Program} {W : World} {name nm : String} {d : DataW Unit} {g : Nat} {t : TypeId} {ms : Array (String × TypeId)} (hg : P.globalNamed name = some g) (hty : (P.globals[g]?).map (·.type) = some t) (ht : P.underlying t = some (.interface ms)) :
 ∀ {l : List (String × DataW Unit)} {ps : List MemPlace}, DataW.LaidVars P W l ps → (name, DataW.iface nm d) ∈ l → ∃ tp p, W.var? P name = some #[.iface tp p]
 | [], _, _, h => by cases h
 | (m, d0) :: r, ps, hl, hm => by
  obtain ⟨g', t', cs, fuel, p, q, hg', ht', hvar, hd, hr, _⟩ := hl
  rcases List.mem_cons.1 hm with e1 | e1
  ·obtain ⟨rfl, rfl⟩ := Prod.mk.inj e1
   obtain rfl := Option.some.inj (hg.symm.trans hg')
   obtain rfl := Option.some.inj (hty.symm.trans ht')
   cases fuel with
   | zero => simp [DataW.trod] at hd
   | succ fuel =>
    rcases cs with ⟨l⟩
    unfold DataW.trod at hd
    rw [ht] at hd
    split at hd <;> first | (cases hd; done) | skip
    all_goals rename_i h1 h2
    all_goals first | (cases h1; done) | skip
    all_goals first
     | (have h2 : l = _ := h2; subst h2; exact ⟨_, _, hvar⟩)
     | (cases hd; done)
     | (simp at hd; done)
  ·exact laidVars_err hg hty ht hr e1
theorem maInv_of {W : World} {l : List (String × DataW Unit)} (h : laidMet Proofs.Tryz.prog l W) (hs : W.ShapedOpen Proofs.Tryz.prog) (h32 : ("math/bits.deBruijn32tab", Lib.tabData .u8 tz32Tab) ∈ l) (h64 : ("math/bits.deBruijn64tab", Lib.tabData .u8 tz64Tab) ∈ l)
 (hp : ("internal/strconv.uint64pow10", Lib.tabData .u64 Lib.pow10Tab) ∈ l) {d1 d2 : DataW Unit} (he1 : ("strconv.ErrSyntax", DataW.iface "*errors.errorString" d1) ∈ l) (he2 : ("strconv.ErrRange", DataW.iface "*errors.errorString" d2) ∈ l) : maInv W := by
 have e1 : Proofs.Tryz.prog.globalNamed "internal/strconv.uint64pow10" = some 3 := by kernel_rfl
 have e2 : Proofs.Tryz.prog.globalNamed "strconv.ErrSyntax" = some 1 := by kernel_rfl
 have e3 : Proofs.Tryz.prog.globalNamed "strconv.ErrRange" = some 2 := by kernel_rfl
 refine ⟨seatInv_of h h32 h64, Go.Proofs.cell_of_shapedOpen_int (zero := #[.int .i64 0]) (t := 3) hs (of_decide_eq_true (by kernel_rfl)) (by kernel_rfl) rfl (by kernel_rfl) (by kernel_rfl) Proofs.Tryz.underlying3, ?_, ?_, ?_⟩
 ·obtain ⟨ps, hl, _, _⟩ := h
  exact laidVars_tab (t := 249) (e := 210) (n := 20) e1 (by kernel_rfl) (by kernel_rfl) (by kernel_rfl) (by kernel_rfl) (by kernel_rfl) hl hp
 ·obtain ⟨ps, hl, _, _⟩ := h
  exact laidVars_err (t := 121) e2 (by kernel_rfl) Proofs.Tryz.underlying121 hl he1
 ·obtain ⟨ps, hl, _, _⟩ := h
  exact laidVars_err (t := 121) e3 (by kernel_rfl) Proofs.Tryz.underlying121 hl he2
def flatD : Nat → DataW Unit → List Value
 | 0, _ => []
 | n + 1, d => match d with
  | .lit (.int k z) => [.int k z]
  | .agg l => l.flatMap (flatD n)
  | _ => []
noncomputable def putD (d : DataW Unit) : Obj → Obj
 | .cells _ t frozen => .cells (flatD 4 d).toArray t frozen
 | o => o
noncomputable def putV (v : Value) : Obj → Obj
 | .cells _ t frozen => .cells #[v] t frozen
 | o => o
noncomputable def lowM : Nat := (World.holding Proofs.Tryz.prog default ⟨#[], #[], []⟩).heap.size
noncomputable def laidWorldM (acc fst pow : DataW Unit) (s1 s2 : ByteArray) (os : Go.Os) : World :=
 let w0 := World.holding Proofs.Tryz.prog os ⟨#[.cells #[.string s1] 265, .cells #[.string s2] 265], #[], []⟩
 { w0 with heap := ((((((w0.heap.modify 4 (putTab tz32Tab)).modify 5 (putTab tz64Tab)).modify 3 (putD pow)).modify 7 (putD acc)).modify 6 (putD fst)).modify 2 (putV (.iface 263 (.pointer (some ⟨lowM, 0, none⟩))))).modify 1 (putV (.iface 263 (.pointer (some ⟨lowM + 1, 0, none⟩)))) }
end Go.Xm
namespace Go.Xm
open Go.RowKit Go.Proofs.YtglkjlafglpalaaGreatDoor
set_option linter.unusedVariables false
noncomputable abbrev WM (os : Go.Os) : World := laidWorldM Rows.laid_unicode_utf8_acceptRanges Rows.laid_unicode_utf8_first Rows.laid_internal_strconv_uint64pow10 ⟨#[118, 97, 108, 117, 101, 32, 111, 117, 116, 32, 111, 102, 32, 114, 97, 110, 103, 101]⟩ ⟨#[105, 110, 118, 97, 108, 105, 100, 32, 115, 121, 110, 116, 97, 120]⟩ os
set_option maxRecDepth 100000 in
theorem laidM_met (os : Go.Os) (args : Array Value) : laidMet Proofs.Tryz.prog Rows.masterKnownRow.laid ((WM os).forCall (fun _ _ => 0) ⟨#[], args, []⟩).memory :=
 laidMet_of_run' 8 (by kernel_rfl) (by kernel_rfl)
end Go.Xm
