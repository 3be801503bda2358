/- The chapter's examples hold. Conditions: none. -/
import Derived.Test.YtglkjlafglpalaaGreatDoorPg
import Derived.Test.YtglkjlafglpalaaGreatDoorEe
import Derived.LaidLaws
import Derived.Shelf.Vars
import Derived.Test.YtglkjlafglpalaaGreatDoorRows
namespace Go.Xm
open Go.RowKit
set_option linter.unusedVariables false
def encD (q : Int × Int × Int × Int) : List Value := [.int .u8 q.1, .int .u8 q.2.1, .int .u8 q.2.2.1, .int .u8 q.2.2.2]
theorem encD_ok : Enc encD 4 := ⟨fun _ => rfl, fun _ => rfl⟩
set_option maxRecDepth 100000 in
theorem works_run : f15 40 = some true := by kernel_rfl
theorem works_ok (w : World) (hI : maInv w) : Calls Proofs.Tryz.prog 15 #[] w fun e w' => e = .returned (.bool true) ∧ Below w.heap.size w w' := f15_ok 40 true works_run w hI
end Go.Xm
namespace Go.Xm
open Go.RowKit
set_option linter.unusedVariables false
theorem laidVars_err {P : Program} {W : World} {name nm : String} {d : DataW Unit} {g : Nat} {t : TypeId} {ms : Array (String × TypeId)} (hg : P.globalNamed name = some g) (hty : (P.globals[g]?).map (·.type) = some t) (ht : P.underlying t = some (.interface ms)) :
 ∀ {l : List (String × DataW Unit)} {ps : List MemPlace}, DataW.LaidVars P W l ps → (name, DataW.iface nm d) ∈ l → ∃ tp p, W.var? P name = some #[.iface tp p]
 | [], _, _, h => by cases h
 | (m, d0) :: r, ps, hl, hm => by
  obtain ⟨g', t', cs, fuel, p, q, hg', ht', hvar, hd, hr, _⟩ := hl
  rcases List.mem_cons.1 hm with e1 | e1
  ·obtain ⟨rfl, rfl⟩ := Prod.mk.inj e1
   obtain rfl := Option.some.inj (hg.symm.trans hg')
   obtain rfl := Option.some.inj (hty.symm.trans ht')
   cases fuel with
   | zero => simp [DataW.trod] at hd
   | succ fuel =>
    rcases cs with ⟨l⟩
    unfold DataW.trod at hd
    rw [ht] at hd
    split at hd <;> first | (cases hd; done) | skip
    all_goals rename_i h1 h2
    all_goals first | (cases h1; done) | skip
    all_goals first
     | (have h2 : l = _ := h2; subst h2; exact ⟨_, _, hvar⟩)
     | (cases hd; done)
     | (simp at hd; done)
  ·exact laidVars_err hg hty ht hr e1
theorem maInv_of {W : World} {l : List (String × DataW Unit)} (h : laidMet Proofs.Tryz.prog l W) (hs : W.ShapedOpen Proofs.Tryz.prog) (h32 : ("math/bits.deBruijn32tab", Lib.tabData .u8 tz32Tab) ∈ l) (h64 : ("math/bits.deBruijn64tab", Lib.tabData .u8 tz64Tab) ∈ l)
 (hp : ("internal/strconv.uint64pow10", Lib.tabData .u64 Lib.pow10Tab) ∈ l) {d1 d2 : DataW Unit} (he1 : ("strconv.ErrSyntax", DataW.iface "*errors.errorString" d1) ∈ l) (he2 : ("strconv.ErrRange", DataW.iface "*errors.errorString" d2) ∈ l) : maInv W := by
 have e1 : Proofs.Tryz.prog.globalNamed "internal/strconv.uint64pow10" = some 3 := by kernel_rfl
 have e2 : Proofs.Tryz.prog.globalNamed "strconv.ErrSyntax" = some 1 := by kernel_rfl
 have e3 : Proofs.Tryz.prog.globalNamed "strconv.ErrRange" = some 2 := by kernel_rfl
 refine ⟨seatInv_of h h32 h64, Go.Proofs.cell_of_shapedOpen_int (zero := #[.int .i64 0]) (t := 3) hs (of_decide_eq_true (by kernel_rfl)) (by kernel_rfl) rfl (by kernel_rfl) (by kernel_rfl) Proofs.Tryz.underlying3, ?_, ?_, ?_⟩
 ·obtain ⟨ps, hl, _, _⟩ := h
  exact laidVars_tab (t := 249) (e := 210) (n := 20) e1 (by kernel_rfl) (by kernel_rfl) (by kernel_rfl) (by kernel_rfl) (by kernel_rfl) hl hp
 ·obtain ⟨ps, hl, _, _⟩ := h
  exact laidVars_err (t := 121) e2 (by kernel_rfl) Proofs.Tryz.underlying121 hl he1
 ·obtain ⟨ps, hl, _, _⟩ := h
  exact laidVars_err (t := 121) e3 (by kernel_rfl) Proofs.Tryz.underlying121 hl he2
def flatD : Nat → DataW Unit → List Value
 | 0, _ => []
 | n + 1, d => match d with
  | .lit (.int k z) => [.int k z]
  | .agg l => l.flatMap (flatD n)
  | _ => []
noncomputable def putD (d : DataW Unit) : Obj → Obj
 | .cells _ t frozen => .cells (flatD 4 d).toArray t frozen
 | o => o
noncomputable def putV (v : Value) : Obj → Obj
 | .cells _ t frozen => .cells #[v] t frozen
 | o => o
noncomputable def lowM : Nat := (World.holding Proofs.Tryz.prog default ⟨#[], #[], []⟩).heap.size
noncomputable def laidWorldM (acc fst pow : DataW Unit) (s1 s2 : ByteArray) (os : Go.Os) : World :=
 let w0 := World.holding Proofs.Tryz.prog os ⟨#[.cells #[.string s1] 265, .cells #[.string s2] 265], #[], []⟩
 { w0 with heap := ((((((w0.heap.modify 4 (putTab tz32Tab)).modify 5 (putTab tz64Tab)).modify 3 (putD pow)).modify 7 (putD acc)).modify 6 (putD fst)).modify 2 (putV (.iface 263 (.pointer (some ⟨lowM, 0, none⟩))))).modify 1 (putV (.iface 263 (.pointer (some ⟨lowM + 1, 0, none⟩)))) }
end Go.Xm
namespace Go.Xm
open Go.RowKit Go.Proofs.YtglkjlafglpalaaGreatDoor
set_option linter.unusedVariables false
noncomputable abbrev WM (os : Go.Os) : World := laidWorldM Rows.laid_unicode_utf8_acceptRanges Rows.laid_unicode_utf8_first Rows.laid_internal_strconv_uint64pow10 ⟨#[118, 97, 108, 117, 101, 32, 111, 117, 116, 32, 111, 102, 32, 114, 97, 110, 103, 101]⟩ ⟨#[105, 110, 118, 97, 108, 105, 100, 32, 115, 121, 110, 116, 97, 120]⟩ os
set_option maxRecDepth 100000 in
theorem laidM_met (os : Go.Os) (args : Array Value) : laidMet Proofs.Tryz.prog Rows.masterKnownRow.laid ((WM os).forCall (fun _ _ => 0) ⟨#[], args, []⟩).memory :=
 laidMet_of_run' 8 (by kernel_rfl) (by kernel_rfl)
end Go.Xm
