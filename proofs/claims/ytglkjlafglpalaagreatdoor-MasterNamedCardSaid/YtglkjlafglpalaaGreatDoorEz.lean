/- The chapter's examples hold. Conditions: none. -/
import Derived.Test.YtglkjlafglpalaaGreatDoorPg
import Derived.Test.YtglkjlafglpalaaGreatDoorEe
import Derived.Deep.Slices
import Derived.Lib.SmallJoins
import Derived.LaidLaws
import Derived.Shelf.Vars
import Derived.Test.YtglkjlafglpalaaGreatDoorRows
namespace Go.Xm
open Go.RowKit
set_option linter.unusedVariables false
def encD (q : Int × Int × Int × Int) : List Value := [.int .u8 q.1, .int .u8 q.2.1, .int .u8 q.2.2.1, .int .u8 q.2.2.2]
theorem encD_ok : Enc encD 4 := ⟨fun _ => rfl, fun _ => rfl⟩
theorem oS {α : Type} {x : Option α} (d : α) (h : Option.isSome x = true) : x = some (Option.getD x d) := by
 cases x with
 | none => cases h
 | some a => rfl
set_option maxRecDepth 100000 in
theorem works_run : f15 40 = some true := by kernel_rfl
theorem works_ok (w : World) (hI : maInv w) : Calls Proofs.Tryz.prog 15 #[] w fun e w' => e = .returned (.bool true) ∧ Below w.heap.size w w' := f15_ok 40 true works_run w hI
open Go.RowKit Go.ChangeShapes Go.WideShapes
section
variable {H : Type} {enc : TypeId × Value → H} {P : Program} {w : World} {base : Nat} {held : Bool}
theorem okRowC {t e : TypeId} {v : Value} {r : Reach} {b0 : Nat} (ht : P.underlying t = some (.slice e)) (hu : ∀ m u', P.underlying e ≠ some (.array m u')) (hv : Cell.okWide P w r b0 t v) :
 v = .slice none 0 0 ∨ ∃ (b off len cap : Nat) (C : Array Value) (el : TypeId) (fr : Nat × Nat), v = .slice (some ⟨b, off, none⟩) len cap ∧ len ≤ cap ∧ w.heap[b]? = some (.cells C el fr) ∧ off ≤ C.size := by
 simp only [Cell.okWide, ht] at hv
 cases v with
 | slice a len cap =>
  cases a with
  | none =>
   cases len <;> cases cap <;> simp_all [Cell.ok]
  | some a =>
   right
   simp only [Cell.ok, ht] at hv
   obtain ⟨h1, _, _, h2, row, cells, h3, h4⟩ := hv
   obtain ⟨b, off, spot⟩ := a
   simp only at h2
   subst h2
   unfold World.shape? at h3
   split at h3
   ·rename_i C el fr hb
    cases h3
    refine ⟨b, off, len, cap, C, _, fr, rfl, h1, hb, ?_⟩
    exact Nat.le_trans (liesAt_le hu h4) (Nat.div_mul_le_self _ _)
   ·cases h3
 | _ => simp_all [Cell.ok]
def u8q (z : Int × Int × Int × Int) : Prop := (Lit.int .u8 z.1).wf = true ∧ (Lit.int .u8 z.2.1).wf = true ∧ (Lit.int .u8 z.2.2.1).wf = true ∧ (Lit.int .u8 z.2.2.2).wf = true
theorem open_rowD {t e : TypeId} {f0 f1 f2 f3 : Field} {v : Value} {r : Reach} {b0 fuel : Nat} {x : DataW H × List MemPlace} (ht : P.underlying t = some (.slice e)) (he : P.underlying e = some (.struct #[f0, f1, f2, f3])) (ce : P.cellsOf e = 4) (hone : Go.Deep.oneCellFields P #[f0, f1, f2, f3] = true)
 (i0 : P.underlying f0.type = some (.int .u8)) (i1 : P.underlying f1.type = some (.int .u8)) (i2 : P.underlying f2.type = some (.int .u8)) (i3 : P.underlying f3.type = some (.int .u8))
 (hv : Cell.okWide P w r b0 t v) (h : DataW.trod enc P w base (fun _ => true) held fuel t [v] = some x) : ∃ zs : List (Int × Int × Int × Int), RowIn w v 4 (rowC encD zs) zs.length ∧ ∀ z ∈ zs, u8q z := by
 have hu : ∀ m u', P.underlying e ≠ some (.array m u') := fun m u' hq => by rw [he] at hq; cases hq
 rcases okRowC ht hu hv with rfl | ⟨b, off, len, cap, C, el, fr, rfl, h1, h2, h3⟩
 ·exact ⟨[], .inl ⟨rfl, rfl, rfl⟩, by simp⟩
 ·rcases Go.Deep.open_slice ht h with ⟨hcs, _⟩ | ⟨a, len', cap', m, n, D, Pl, hcs, _, hl, hm, hmm, _, hx⟩
  ·simp at hcs
  ·simp only [List.cons.injEq, Value.slice.injEq, Option.some.injEq, and_true] at hcs
   obtain ⟨rfl, rfl, rfl⟩ := hcs
   simp only [if_true] at hmm
   subst hmm
   have hex : ∀ i, i < m → ∃ z : Int × Int × Int × Int, w.cell? ((⟨b, off, none⟩ : Addr).add (i * 4)) = some (.int .u8 z.1) ∧ w.cell? ((⟨b, off, none⟩ : Addr).add (i * 4 + 1)) = some (.int .u8 z.2.1) ∧ w.cell? ((⟨b, off, none⟩ : Addr).add (i * 4 + 2)) = some (.int .u8 z.2.2.1) ∧ w.cell? ((⟨b, off, none⟩ : Addr).add (i * 4 + 3)) = some (.int .u8 z.2.2.2) ∧ u8q z := by
    intro i hi
    obtain ⟨cs', g1, g2⟩ := hx i hi
    rw [ce] at g1
    obtain ⟨_, hlen, hcell⟩ := World.cells?_some g1
    obtain ⟨y0, y1, y2, y3, n', _, _, t0, t1, t2, t3⟩ := Go.Joins.trod_struct4 he g2
    obtain ⟨o0, k0⟩ := Go.Deep.hone_of hone 0 f0 rfl
    obtain ⟨o1, k1⟩ := Go.Deep.hone_of hone 1 f1 rfl
    obtain ⟨o2, k2⟩ := Go.Deep.hone_of hone 2 f2 rfl
    obtain ⟨o3, k3⟩ := Go.Deep.hone_of hone 3 f3 rfl
    match cs', hlen with
    | [u0, u1, u2, u3], _ =>
     obtain ⟨z0, e0, _, w0⟩ := DataW.trod_int i0 (by simpa [o0, k0] using t0)
     obtain ⟨z1, e1, _, w1⟩ := DataW.trod_int i1 (by simpa [o1, k1] using t1)
     obtain ⟨z2, e2, _, w2⟩ := DataW.trod_int i2 (by simpa [o2, k2] using t2)
     obtain ⟨z3, e3, _, w3⟩ := DataW.trod_int i3 (by simpa [o3, k3] using t3)
     obtain rfl := (List.cons.inj e0).1
     obtain rfl := (List.cons.inj e1).1
     obtain rfl := (List.cons.inj e2).1
     obtain rfl := (List.cons.inj e3).1
     have k0 := hcell 0 (by omega)
     have k1 := hcell 1 (by omega)
     have k2 := hcell 2 (by omega)
     have k3 := hcell 3 (by omega)
     rw [Go.Deep.add_add] at k0 k1 k2 k3
     exact ⟨(z0, z1, z2, z3), by simpa using k0, by simpa using k1, by simpa using k2, by simpa using k3, w0, w1, w2, w3⟩
   obtain ⟨F, hF⟩ := Go.Deep.choose_lt hex
   have hlen : ((List.range len).map F).length = len := by simp
   refine ⟨(List.range len).map F, .inr ⟨b, off, m, C, el, fr, by rw [hlen], h2, ?_, by rw [hlen]; exact h1, ?_, ?_⟩, fun z hz => ?_⟩
   ·cases m with
    | zero => omega
    | succ n =>
     have := cell_at h2 (k := n * 4 + 3) (hF n (by omega)).2.2.2.1
     have := (Array.getElem?_eq_some_iff.1 this).1
     omega
   ·rw [rowC_length encD_ok]
   ·intro i u hi
    have hlt := (List.getElem?_eq_some_iff.1 hi).1
    rw [rowC_length encD_ok, hlen] at hlt
    have hj : i / 4 < len := by omega
    have hg := rowC_get encD_ok ((List.range len).map F) (i / 4) (i % 4) (0, 0, 0, 0) (by rw [hlen]; exact hj) (by omega)
    have e0 : i / 4 * 4 + i % 4 = i := by omega
    rw [e0, hi] at hg
    have e1 : ((List.range len).map F).getD (i / 4) (0, 0, 0, 0) = F (i / 4) := by
     rw [List.getD_eq_getElem?_getD, List.getElem?_map, List.getElem?_range hj]; rfl
    rw [e1] at hg
    obtain ⟨k0, k1, k2, k3, _⟩ := hF (i / 4) (by omega)
    rcases (show i % 4 = 0 ∨ i % 4 = 1 ∨ i % 4 = 2 ∨ i % 4 = 3 by omega) with hm2 | hm2 | hm2 | hm2
    ·rw [hm2] at hg
     have := cell_at h2 k0
     have e2 : i / 4 * 4 = i := by omega
     rw [e2] at this
     rw [this, hg]; rfl
    ·rw [hm2] at hg
     have := cell_at h2 k1
     have e2 : i / 4 * 4 + 1 = i := by omega
     rw [e2] at this
     rw [this, hg]; rfl
    ·rw [hm2] at hg
     have := cell_at h2 k2
     have e2 : i / 4 * 4 + 2 = i := by omega
     rw [e2] at this
     rw [this, hg]; rfl
    ·rw [hm2] at hg
     have := cell_at h2 k3
     have e2 : i / 4 * 4 + 3 = i := by omega
     rw [e2] at this
     rw [this, hg]; rfl
   ·obtain ⟨i, i1, rfl⟩ := List.mem_map.1 hz
    exact (hF i (by have := List.mem_range.1 i1; omega)).2.2.2.2
theorem open_structD {T e : TypeId} {f0 f1 g0 g1 g2 g3 : Field} {v : Value} {r : Reach} {b0 : Nat} {d : DataW H} {ps : List MemPlace} (hT : P.underlying T = some (.struct #[f0, f1])) (hone : Go.Deep.oneCellFields P #[f0, f1] = true) (hC : P.cellsOf T = 2) (hct : P.cellTypes P.depth T = some [f0.type, f1.type])
 (i0 : P.underlying f0.type = some (.int .u8)) (ht : P.underlying f1.type = some (.slice e)) (he : P.underlying e = some (.struct #[g0, g1, g2, g3])) (ce : P.cellsOf e = 4) (hone4 : Go.Deep.oneCellFields P #[g0, g1, g2, g3] = true)
 (j0 : P.underlying g0.type = some (.int .u8)) (j1 : P.underlying g1.type = some (.int .u8)) (j2 : P.underlying g2.type = some (.int .u8)) (j3 : P.underlying g3.type = some (.int .u8))
 (hv : Value.okWide P w r b0 T v) (h : DataW.Trod enc P w base (fun _ => true) held T v d ps) :
 ∃ (a : Int) (u : Value) (zs : List (Int × Int × Int × Int)), v = .agg #[.int .u8 a, u] ∧ (Lit.int .u8 a).wf = true ∧ RowIn w u 4 (rowC encD zs) zs.length ∧ ∀ z ∈ zs, u8q z := by
 obtain ⟨v0, v1, y0, y1, n, rfl, _, _, h0, h1⟩ := Go.Joins.open_agg2 hT hone hC hv h
 obtain ⟨a, a1, _, a3⟩ := DataW.trod_int i0 h0
 obtain rfl := (List.cons.inj a1).1
 simp only [Value.okWide, hT] at hv
 obtain ⟨cs, c1, _, ts, c2, _, c3⟩ := hv
 cases c1
 rw [hct] at c2
 cases c2
 obtain ⟨u, u1, u2⟩ := c3 1 v1 rfl
 have u1 : some f1.type = some u := u1
 cases u1
 obtain ⟨zs, g, gw⟩ := open_rowD ht he ce hone4 j0 j1 j2 j3 u2 h1
 exact ⟨a, v1, zs, rfl, a3, g, gw⟩
end
theorem lit_u8 {z : Int} (h : (Lit.int .u8 z).wf = true) : ∃ n : Nat, n < 256 ∧ z = (n : Int) := by
 simp [Lit.wf, IntKind.min, IntKind.max, IntKind.signed, IntKind.bits] at h
 exact ⟨z.toNat, by omega, by omega⟩
theorem laidVars_err {P : Program} {W : World} {name nm : String} {d : DataW Unit} {g : Nat} {t : TypeId} {ms : Array (String × TypeId)} (hg : P.globalNamed name = some g) (hty : (P.globals[g]?).map (·.type) = some t) (ht : P.underlying t = some (.interface ms)) :
 ∀ {l : List (String × DataW Unit)} {ps : List MemPlace}, DataW.LaidVars P W l ps → (name, DataW.iface nm d) ∈ l → ∃ tp p, W.var? P name = some #[.iface tp p]
 | [], _, _, h => by cases h
 | (m, d0) :: r, ps, hl, hm => by
  obtain ⟨g', t', cs, fuel, p, q, hg', ht', hvar, hd, hr, _⟩ := hl
  rcases List.mem_cons.1 hm with e1 | e1
  ·obtain ⟨rfl, rfl⟩ := Prod.mk.inj e1
   obtain rfl := Option.some.inj (hg.symm.trans hg')
   obtain rfl := Option.some.inj (hty.symm.trans ht')
   cases fuel with
   | zero => simp [DataW.trod] at hd
   | succ fuel =>
    rcases cs with ⟨l⟩
    unfold DataW.trod at hd
    rw [ht] at hd
    split at hd <;> first | (cases hd; done) | skip
    all_goals rename_i h1 h2
    all_goals first | (cases h1; done) | skip
    all_goals first
     | (have h2 : l = _ := h2; subst h2; exact ⟨_, _, hvar⟩)
     | (cases hd; done)
     | (simp at hd; done)
  ·exact laidVars_err hg hty ht hr e1
theorem maInv_of {W : World} {l : List (String × DataW Unit)} (h : laidMet Proofs.Tryz.prog l W) (hs : W.ShapedOpen Proofs.Tryz.prog) (h32 : ("math/bits.deBruijn32tab", Lib.tabData .u8 tz32Tab) ∈ l) (h64 : ("math/bits.deBruijn64tab", Lib.tabData .u8 tz64Tab) ∈ l)
 (hp : ("internal/strconv.uint64pow10", Lib.tabData .u64 Lib.pow10Tab) ∈ l) {d1 d2 : DataW Unit} (he1 : ("strconv.ErrSyntax", DataW.iface "*errors.errorString" d1) ∈ l) (he2 : ("strconv.ErrRange", DataW.iface "*errors.errorString" d2) ∈ l) : maInv W := by
 have e1 : Proofs.Tryz.prog.globalNamed "internal/strconv.uint64pow10" = some 3 := by kernel_rfl
 have e2 : Proofs.Tryz.prog.globalNamed "strconv.ErrSyntax" = some 1 := by kernel_rfl
 have e3 : Proofs.Tryz.prog.globalNamed "strconv.ErrRange" = some 2 := by kernel_rfl
 refine ⟨seatInv_of h h32 h64, Go.Proofs.cell_of_shapedOpen_int (zero := #[.int .i64 0]) (t := 3) hs (of_decide_eq_true (by kernel_rfl)) (by kernel_rfl) rfl (by kernel_rfl) (by kernel_rfl) Proofs.Tryz.underlying3, ?_, ?_, ?_⟩
 ·obtain ⟨ps, hl, _, _⟩ := h
  exact laidVars_tab (t := 249) (e := 210) (n := 20) e1 (by kernel_rfl) (by kernel_rfl) (by kernel_rfl) (by kernel_rfl) (by kernel_rfl) hl hp
 ·obtain ⟨ps, hl, _, _⟩ := h
  exact laidVars_err (t := 121) e2 (by kernel_rfl) Proofs.Tryz.underlying121 hl he1
 ·obtain ⟨ps, hl, _, _⟩ := h
  exact laidVars_err (t := 121) e3 (by kernel_rfl) Proofs.Tryz.underlying121 hl he2
def flatD : Nat → DataW Unit → List Value
 | 0, _ => []
 | n + 1, d => match d with
  | .lit (.int k z) => [.int k z]
  | .agg l => l.flatMap (flatD n)
  | _ => []
noncomputable def putD (d : DataW Unit) : Obj → Obj
 | .cells _ t frozen => .cells (flatD 4 d).toArray t frozen
 | o => o
noncomputable def putV (v : Value) : Obj → Obj
 | .cells _ t frozen => .cells #[v] t frozen
 | o => o
noncomputable def lowM : Nat := (World.holding Proofs.Tryz.prog default ⟨#[], #[], []⟩).heap.size
noncomputable def laidWorldM (acc fst pow : DataW Unit) (s1 s2 : ByteArray) (os : Go.Os) : World :=
 let w0 := World.holding Proofs.Tryz.prog os ⟨#[.cells #[.string s1] 265, .cells #[.string s2] 265], #[], []⟩
 { w0 with heap := ((((((w0.heap.modify 4 (putTab tz32Tab)).modify 5 (putTab tz64Tab)).modify 3 (putD pow)).modify 7 (putD acc)).modify 6 (putD fst)).modify 2 (putV (.iface 263 (.pointer (some ⟨lowM, 0, none⟩))))).modify 1 (putV (.iface 263 (.pointer (some ⟨lowM + 1, 0, none⟩)))) }
open Go.RowKit Go.Proofs.YtglkjlafglpalaaGreatDoor
noncomputable abbrev WM (os : Go.Os) : World := laidWorldM Rows.laid_unicode_utf8_acceptRanges Rows.laid_unicode_utf8_first Rows.laid_internal_strconv_uint64pow10 ⟨#[118, 97, 108, 117, 101, 32, 111, 117, 116, 32, 111, 102, 32, 114, 97, 110, 103, 101]⟩ ⟨#[105, 110, 118, 97, 108, 105, 100, 32, 115, 121, 110, 116, 97, 120]⟩ os
set_option maxRecDepth 100000 in
theorem laidM_met (os : Go.Os) (args : Array Value) : laidMet Proofs.Tryz.prog Rows.masterKnownRow.laid ((WM os).forCall (fun _ _ => 0) ⟨#[], args, []⟩).memory :=
 laidMet_of_run' 8 (by kernel_rfl) (by kernel_rfl)
end Go.Xm
