/- What functions of the program compute, and the proofs. Conditions: the library's variables hold what their texts lay. -/
import Derived.Test.YtglkjlafglpalaaGreatDoorWe
import Derived.Test.YtglkjlafglpalaaGreatDoorEn
namespace Go.Xm
open Go.RowKit
set_option linter.unusedVariables false
set_option linter.unusedSimpArgs false
set_option maxRecDepth 20000
set_option maxHeartbeats 4000000
abbrev qPd0 : Nat × XObj := (5, .cells [.pointer none, s0 6 0] 0 119 0)
noncomputable def f64_C64 : Code := Proofs.Tryz.f64.body.getD .skip
noncomputable def f64_L1 : Code := lft (lft (rgt (lft (rgt (rgt f64_C64)))))
def f64_1 (m : Nat) : Nat → ByteArray → Int → Int → Int → Option Int
 | 0, _, _, _, _ => none
 | fuel + 1, a, Tg, Th, Ti =>
  cond (decide (Ti < Th)) (
   cond (inRow Ti a.size) (
    f64_1 m fuel a (Int.tmod (w64 ((w64 (31 * Tg)) + (w64 (byteAt a Ti)))) 9973) Th (w64 (Ti + 1))
   ) none
  ) (
   some (Tg)
  )
theorem f64_1_ok (m : Nat) : ∀ (fuel : Nat) (a : ByteArray) (Tg : Int) (Th : Int) (Ti : Int) (o : Int), f64_1 m fuel a Tg Th Ti = some o → ∀ Q : QP, Q (.exit 0) [(3, ii o)] [] 0 → XL E0 20 0 fuel f64_L1 [(0, .string a), (3, ii Tg), (6, ii Th), (7, ii Ti)] [] 0 Q
 | 0, a, Tg, Th, Ti, o, h, Q, hQ => by cases h
 | fuel + 1, a, Tg, Th, Ti, o, h, Q, hQ => by
  unfold f64_1 at h
  refine XL.succ E0_ok ?_
  refine qE 1 [(0, .string a), (3, ii Tg), (6, ii Th), (7, ii Ti), (8, .bool (decide (Ti < Th)))] id ?_
  refine sQ ?_
  cases b1 : (decide (Ti < Th) : Bool)
  case false =>
   have h := cF b1 h
   refine iF 8 ?_
   refine nR [(3, ii Tg)] [] 0 [] ?_
   refine XQ.exit (i := 0) (by kernel_rfl) ?_
   cases h
   exact hQ
  have h := cT b1 h
  refine iT 8 ?_
  refine kQ ?_
  show XQ _ _ _ _ _ _ _ _
  refine sQ ?_
  refine XQ.block (id := 1) (by kernel_rfl) ?_
  refine qE 2 [(0, .string a), (3, ii Tg), (4, ii Ti), (6, ii Th), (7, ii Ti)] id ?_
  refine rQ ?_
  refine rS 4 [(0, .string a), (6, ii Th), (7, ii Ti), (11, ii (w64 (31 * Tg))), (12, .string a), (13, ii Ti)] ?_
  obtain ⟨b2, h⟩ := oC h
  refine rR (.int .u8 (byteAt a Ti)) (mR b2) [(0, .string a), (6, ii Th), (7, ii Ti), (11, ii (w64 (31 * Tg))), (14, .int .u8 (byteAt a Ti))] ?_
  refine rE 4 [(0, .string a), (3, ii (Int.tmod (w64 ((w64 (31 * Tg)) + (w64 (byteAt a Ti)))) 9973)), (6, ii Th), (7, ii Ti)] id ?_
  refine rQ ?_
  refine rS 2 [(0, .string a), (3, ii (Int.tmod (w64 ((w64 (31 * Tg)) + (w64 (byteAt a Ti)))) 9973)), (6, ii Th), (7, ii (w64 (Ti + 1)))] ?_
  refine dQ ?_
  show XL _ _ _ _ _ _ _ _ _
  refine nL [(0, .string a), (3, ii (Int.tmod (w64 ((w64 (31 * Tg)) + (w64 (byteAt a Ti)))) 9973)), (6, ii Th), (7, ii (w64 (Ti + 1)))] [] 0 [] ?_
  refine XL.conv (f64_1_ok m fuel a (Int.tmod (w64 ((w64 (31 * Tg)) + (w64 (byteAt a Ti)))) 9973) Th (w64 (Ti + 1)) o h Q hQ) (by first | with_reducible rfl | simp | rfl)
def f64 (m : Nat) (a : ByteArray) : Option (Int) :=
 (f64_1 m m a 1 ((a.size : Nat) : Int) 0).bind fun o1 =>
  some (o1)
theorem f64_ok (m : Nat) (a : ByteArray) (o : Int) (h : f64 m a = some o) (w : World) (hI : maInv w) : Calls Proofs.Tryz.prog 64 #[.string a] w fun e w' => e = .returned (ii o) ∧ Below w.heap.size w w' := by
 refine KC.calls (E := E0) (args := [.string a]) (v := ii o) rfl rfl (KC.bodyN E0_ok (F := Proofs.Tryz.f64) (by kernel_rfl) (code := f64_C64) (by kernel_rfl) (nt := 20) (by kernel_rfl) (rs := [.tmp 2]) (by kernel_rfl) (by kernel_rfl) (σ := [(0, .string a)]) (by kernel_rfl) ?_) w (maInv_size hI) hI
 unfold f64 at h
 refine qQ ?_
 refine rS 1 [(0, .string a)] ?_
 refine nQ id ?_
 refine rE 1 [(0, .string a), (3, ii 1)] id ?_
 refine sQ ?_
 refine qE 3 [(0, .string a), (3, ii 1), (6, ii ((a.size : Nat) : Int)), (7, ii 0)] id ?_
 refine XQ.block (id := 0) (by kernel_rfl) ?_
 refine XQ.loop m (by kernel_rfl) ?_
 obtain ⟨o1, o1_h, h⟩ := bS h
 refine nL [(0, .string a), (3, ii 1), (6, ii ((a.size : Nat) : Int)), (7, ii 0)] [] 0 [] ?_
 refine XL.conv (f64_1_ok m m a 1 ((a.size : Nat) : Int) 0 o1 o1_h _ ?_) (by first | with_reducible rfl | simp | rfl)
 show XQ _ _ _ _ _ _ _ _
 refine qE 2 [(2, ii o1)] id ?_
 obtain rfl := sI h
 exact tV (ii o1) id rfl
noncomputable def f30_C30 : Code := Proofs.Tryz.f30.body.getD .skip
noncomputable def f30_C52 : Code := Proofs.Tryz.f52.body.getD .skip
def f30 (m : Nat) (b : Bk) : Option (Int) :=
 cond (b.bays == 0) (
  some (0)
 ) (
  some (b.bays)
 )
theorem f30_ok (m : Nat) (b : Bk) (o : Int) (h : f30 m b = some o) : KC E0 30 [pp 0 0] (bookH b) 5 (fun v h' _ => v = ii o ∧ OutH b (bs []) .same h') := by
 refine kN Proofs.Tryz.f30 f30_C30 10 [.tmp 2] ?_
 unfold f30 at h
 refine qE 1 [(0, pp 0 0)] id ?_
 refine sQ ?_
 refine qQ ?_
 refine rS 1 [(0, pp 0 0), (3, pp 0 0)] ?_
 refine cK [0, 4] 52 [pp 0 0] 4 ?_
 refine kN Proofs.Tryz.f52 f30_C52 13 [.tmp 2] ?_
 refine qQ ?_
 refine rS 1 [(0, pp 0 0)] ?_
 refine nQ id ?_
 refine rE 11 [(2, .bool (b.bays == 0))] id ?_
 refine tV (.bool (b.bays == 0)) id ?_
 refine eQ id ?_
 cases b1 : (b.bays == 0 : Bool)
 case true =>
  have h := cT b1 h
  refine iT 4 ?_
  refine qE 1 [(2, ii 0)] id ?_
  obtain rfl := sI h
  exact tV (ii 0) id ⟨rfl, by kernel_rfl, by kernel_rfl, by kernel_rfl, by kernel_rfl, by kernel_rfl⟩
 have h := cF b1 h
 refine iK 4 id ?_
 refine qE 6 [(2, ii b.bays)] id ?_
 obtain rfl := sI h
 exact tV (ii b.bays) id ⟨rfl, by kernel_rfl, by kernel_rfl, by kernel_rfl, by kernel_rfl, by kernel_rfl⟩
noncomputable def f29_C29 : Code := Proofs.Tryz.f29.body.getD .skip
noncomputable def f29_C52 : Code := Proofs.Tryz.f52.body.getD .skip
def f29 (m : Nat) (b : Bk) : Option (Int × Int) :=
 cond (b.bays == 0) (
  some (0, 0)
 ) (
  some (b.came, b.taken)
 )
theorem f29_ok (m : Nat) (b : Bk) (o : Int × Int) (h : f29 m b = some o) : KC E0 29 [pp 0 0] (bookH b) 5 (fun v h' _ => v = .tuple #[ii o.1, ii o.2] ∧ OutH b (bs []) .same h') := by
 refine kN Proofs.Tryz.f29 f29_C29 16 [.tmp 2, .tmp 3] ?_
 unfold f29 at h
 refine qE 2 [(0, pp 0 0)] id ?_
 refine sQ ?_
 refine qQ ?_
 refine rS 1 [(0, pp 0 0), (4, pp 0 0)] ?_
 refine cK [0, 5] 52 [pp 0 0] 5 ?_
 refine kN Proofs.Tryz.f52 f29_C52 13 [.tmp 2] ?_
 refine qQ ?_
 refine rS 1 [(0, pp 0 0)] ?_
 refine nQ id ?_
 refine rE 11 [(2, .bool (b.bays == 0))] id ?_
 refine tV (.bool (b.bays == 0)) id ?_
 refine eQ id ?_
 cases b1 : (b.bays == 0 : Bool)
 case true =>
  have h := cT b1 h
  refine iT 5 ?_
  refine qE 2 [(2, ii 0), (3, ii 0)] id ?_
  obtain rfl := sI h
  exact tV (.tuple #[ii 0, ii 0]) id ⟨rfl, by kernel_rfl, by kernel_rfl, by kernel_rfl, by kernel_rfl, by kernel_rfl⟩
 have h := cF b1 h
 refine iK 5 id ?_
 refine sQ ?_
 refine XQ.quiet E0_ok (by kernel_rfl) (by kernel_rfl) ?_
 refine XU.run E0_ok 1 12 [2, 3] rfl (σ' := [(2, ii b.came), (3, ii b.taken)]) (by kernel_rfl) ?_
 refine XU.done (by kernel_rfl) ?_
 show XQ _ _ _ _ _ _ _ _
 obtain rfl := sI h
 exact tV (.tuple #[ii b.came, ii b.taken]) id ⟨rfl, by kernel_rfl, by kernel_rfl, by kernel_rfl, by kernel_rfl, by kernel_rfl⟩
noncomputable def f32_C32 : Code := Proofs.Tryz.f32.body.getD .skip
noncomputable def f32_C52 : Code := Proofs.Tryz.f52.body.getD .skip
def f32 (m : Nat) (b : Bk) : Option (Int × Int × Int × Int) :=
 cond (b.bays == 0) (
  some (0, 0, 0, 0)
 ) (
  some (b.chest, b.bond, b.spoilt, b.out)
 )
theorem f32_ok (m : Nat) (b : Bk) (o : Int × Int × Int × Int) (h : f32 m b = some o) : KC E0 32 [pp 0 0] (bookH b) 5 (fun v h' _ => v = .agg #[ii o.1, ii o.2.1, ii o.2.2.1, ii o.2.2.2] ∧ OutH b (bs []) .same h') := by
 refine kN Proofs.Tryz.f32 f32_C32 11 [.cell 2 47] ?_
 unfold f32 at h
 refine qG 1 [(0, pp 0 0), (2, pp 5 0)] (fun h => (5, .cells [ii 0, ii 0, ii 0, ii 0] 0 47 0) :: h) 6 id ?_
 refine sQ ?_
 refine qQ ?_
 refine rS 1 [(0, pp 0 0), (2, pp 5 0), (3, pp 0 0)] ?_
 refine cK [0, 2, 4] 52 [pp 0 0] 4 ?_
 refine kN Proofs.Tryz.f52 f32_C52 13 [.tmp 2] ?_
 refine qQ ?_
 refine rS 1 [(0, pp 0 0)] ?_
 refine nQ id ?_
 refine rE 11 [(2, .bool (b.bays == 0))] id ?_
 refine tV (.bool (b.bays == 0)) id ?_
 refine eQ id ?_
 cases b1 : (b.bays == 0 : Bool)
 case true =>
  have h := cT b1 h
  refine iT 4 ?_
  refine qE 2 [(2, pp 5 0)] id ?_
  obtain rfl := sI h
  exact tV (.agg #[ii 0, ii 0, ii 0, ii 0]) id ⟨rfl, by kernel_rfl, by kernel_rfl, by kernel_rfl, by kernel_rfl, by kernel_rfl⟩
 have h := cF b1 h
 refine iK 4 id ?_
 refine qG 6 [(2, pp 5 0)] (fun h => hset h 5 (.cells [ii b.chest, ii b.bond, ii b.spoilt, ii b.out] 0 47 0)) 6 id ?_
 obtain rfl := sI h
 exact tV (.agg #[ii b.chest, ii b.bond, ii b.spoilt, ii b.out]) id ⟨rfl, by kernel_rfl, by kernel_rfl, by kernel_rfl, by kernel_rfl, by kernel_rfl⟩
noncomputable def f34_C34 : Code := Proofs.Tryz.f34.body.getD .skip
noncomputable def f34_C52 : Code := Proofs.Tryz.f52.body.getD .skip
def f34 (m : Nat) (b : Bk) : Option (Int) :=
 cond (b.bays == 0) (
  some (0)
 ) (
  some (b.year)
 )
theorem f34_ok (m : Nat) (b : Bk) (o : Int) (h : f34 m b = some o) : KC E0 34 [pp 0 0] (bookH b) 5 (fun v h' _ => v = ii o ∧ OutH b (bs []) .same h') := by
 refine kN Proofs.Tryz.f34 f34_C34 10 [.tmp 2] ?_
 unfold f34 at h
 refine qE 1 [(0, pp 0 0)] id ?_
 refine sQ ?_
 refine qQ ?_
 refine rS 1 [(0, pp 0 0), (3, pp 0 0)] ?_
 refine cK [0, 4] 52 [pp 0 0] 4 ?_
 refine kN Proofs.Tryz.f52 f34_C52 13 [.tmp 2] ?_
 refine qQ ?_
 refine rS 1 [(0, pp 0 0)] ?_
 refine nQ id ?_
 refine rE 11 [(2, .bool (b.bays == 0))] id ?_
 refine tV (.bool (b.bays == 0)) id ?_
 refine eQ id ?_
 cases b1 : (b.bays == 0 : Bool)
 case true =>
  have h := cT b1 h
  refine iT 4 ?_
  refine qE 1 [(2, ii 0)] id ?_
  obtain rfl := sI h
  exact tV (ii 0) id ⟨rfl, by kernel_rfl, by kernel_rfl, by kernel_rfl, by kernel_rfl, by kernel_rfl⟩
 have h := cF b1 h
 refine iK 4 id ?_
 refine qE 6 [(2, ii b.year)] id ?_
 obtain rfl := sI h
 exact tV (ii b.year) id ⟨rfl, by kernel_rfl, by kernel_rfl, by kernel_rfl, by kernel_rfl, by kernel_rfl⟩
noncomputable def f35_C35 : Code := Proofs.Tryz.f35.body.getD .skip
noncomputable def f35_C52 : Code := Proofs.Tryz.f52.body.getD .skip
def f35 (m : Nat) (b : Bk) : Option (List ByteArray) :=
 cond (b.bays == 0) (
  some ([])
 ) (
  cond (fitsB b.lines.length 16) (
   some (b.lines)
  ) none
 )
theorem f35_ok (m : Nat) (b : Bk) (o : List ByteArray) (h : f35 m b = some o) : KC E0 35 [pp 0 0] (bookH b) 5 (fun v h' _ => RowAt encS 9 1 o v h' ∧ OutH b (bs []) .same h') := by
 refine kN Proofs.Tryz.f35 f35_C35 10 [.tmp 2] ?_
 unfold f35 at h
 refine qE 1 [(0, pp 0 0)] id ?_
 refine sQ ?_
 refine qQ ?_
 refine rS 1 [(0, pp 0 0), (3, pp 0 0)] ?_
 refine cK [0, 4] 52 [pp 0 0] 4 ?_
 refine kN Proofs.Tryz.f52 f35_C52 13 [.tmp 2] ?_
 refine qQ ?_
 refine rS 1 [(0, pp 0 0)] ?_
 refine nQ id ?_
 refine rE 11 [(2, .bool (b.bays == 0))] id ?_
 refine tV (.bool (b.bays == 0)) id ?_
 refine eQ id ?_
 cases b1 : (b.bays == 0 : Bool)
 case true =>
  have h := cT b1 h
  refine iT 4 ?_
  refine qE 1 [(2, .slice none 0 0)] id ?_
  refine XQ.ghost 9 1 rfl (σ' := [(2, s0 5 0)]) (h' := (bookH b)) ⟨by kernel_rfl, trivial⟩ ⟨⟨_, rfl, .inl rfl⟩, ⟨_, rfl, .inl rfl⟩, ⟨_, rfl, .inl rfl⟩, ⟨_, rfl, .inl rfl⟩, ⟨_, rfl, .inl rfl⟩, trivial⟩ ?_
  refine XQ.conv (σ' := [(2, s0 5 0)]) (h' := ((5, rc encS [] 0 9 1) :: bookH b)) (c' := 6) ?_ (by kernel_rfl)
  obtain rfl := sI h
  exact tV (s0 5 0) id ⟨.inr ⟨5, (by decide), by kernel_rfl, by kernel_rfl⟩, by kernel_rfl, by kernel_rfl, by kernel_rfl, by kernel_rfl, by kernel_rfl⟩
 have h := cF b1 h
 refine iK 4 id ?_
 refine qQ ?_
 refine rS 4 [(8, s0 4 b.lines.length)] ?_
 obtain ⟨b2, h⟩ := oC h
 refine cA [9] 9 [s0 4 b.lines.length] (clone72_all (xs := b.lines) (fz := 0) (e0 := 9) (es0 := 1) (c := 5) (by kernel_rfl) (by simp) (Nat.le_refl _) b2) ?_
 refine rE 1 [(2, s0 6 b.lines.length)] id ?_
 obtain rfl := sI h
 exact tV (s0 6 b.lines.length) id ⟨.inr ⟨6, (by decide), by kernel_rfl, by kernel_rfl⟩, by kernel_rfl, by kernel_rfl, by kernel_rfl, by kernel_rfl, by kernel_rfl⟩
noncomputable def f25_C25 : Code := Proofs.Tryz.f25.body.getD .skip
noncomputable def f25_C52 : Code := Proofs.Tryz.f52.body.getD .skip
noncomputable def f25_C69 : Code := Proofs.Tryz.f69.body.getD .skip
noncomputable def f25_C98 : Code := Proofs.Tryz.f98.body.getD .skip
noncomputable def f25_C70 : Code := Proofs.Tryz.f70.body.getD .skip
noncomputable def f25_L1 : Code := lft (lft (rgt (lft (rgt (rgt (rgt (rgt f25_C25)))))))
def f25_1 (m : Nat) : Nat → Bk → Int → Int → List Int → Option (List Int)
 | 0, _, _, _, _ => none
 | fuel + 1, b, Tj, U, Tk =>
  cond (decide (U < Tj)) (
   cond (inRow U b.lines.length) (
    cond (Nat.ble ((List.getD b.lines (Int.toNat U) (bs [])).size + (bs [10]).size) 9223372036854775807) (
     cond (decide (0 < (catS (List.getD b.lines (Int.toNat U) (bs [])) (bs [10])).size)) (
      cond (fitsB (Tk.length + (catS (List.getD b.lines (Int.toNat U) (bs [])) (bs [10])).size) 1) (
       f25_1 m fuel b Tj (w64 (U + 1)) (Tk ++ bytesI (catS (List.getD b.lines (Int.toNat U) (bs [])) (bs [10])))
      ) none
     ) none
    ) none
   ) none
  ) (
   some (Tk)
  )
abbrev aPd1 (b : Bk) (U : Int) := (catS (List.getD b.lines (Int.toNat U) (bs [])) (bs [10]))
abbrev aPd3 (b : Bk) : Nat × Value := (20, s0 4 b.lines.length)
theorem f25_1_ok (m : Nat) : ∀ (fuel : Nat) (b : Bk) (Tj : Int) (U : Int) (Tk : List Int) (o : (List Int)), f25_1 m fuel b Tj U Tk = some o → ∀ Q : QP, Q (.exit 0) [(3, pp 5 0)] ((6, rc (encI .u8) o 0 5 1) :: (5, .cells [pp 5 0, s0 6 o.length] 0 119 0) :: bookH b) 7 → XL E0 37 5 fuel f25_L1 [(3, pp 5 0), (20, s0 4 b.lines.length), (21, ii Tj), (22, ii U)] ((6, rc (encI .u8) Tk 0 5 1) :: (5, .cells [pp 5 0, s0 6 Tk.length] 0 119 0) :: bookH b) 7 Q
 | 0, b, Tj, U, Tk, o, h, Q, hQ => by cases h
 | fuel + 1, b, Tj, U, Tk, o, h, Q, hQ => by
  unfold f25_1 at h
  refine XL.succ E0_ok ?_
  refine qE 1 [(3, pp 5 0), (aPd3 b), (21, ii Tj), (22, ii U), (23, .bool (decide (U < Tj)))] id ?_
  refine sQ ?_
  cases b1 : (decide (U < Tj) : Bool)
  case false =>
   have h := cF b1 h
   refine iF 23 ?_
   refine nR [(3, pp 5 0)] ((6, rc (encI .u8) Tk 0 5 1) :: (5, .cells [pp 5 0, s0 6 Tk.length] 0 119 0) :: bookH b) 7 [0, 1, 2, 3, 4, 5, 6] ?_
   refine XQ.exit (i := 0) (by kernel_rfl) ?_
   cases h
   exact hQ
  have h := cT b1 h
  refine iT 23 ?_
  refine kQ ?_
  show XQ _ _ _ _ _ _ _ _
  refine sQ ?_
  refine XQ.block (id := 1) (by kernel_rfl) ?_
  refine qQ ?_
  obtain ⟨b2, h⟩ := oC h
  refine rR (pp 4 ((Int.toNat U) * 1)) (iV 20 (.tmp 22) 24 1 0 b2) [(3, pp 5 0), (aPd3 b), (21, ii Tj), (22, ii U), (24, pp 4 ((Int.toNat U) * 1))] ?_
  refine rR _ (lV encS_ok 24 25 4 ((Int.toNat U) * 1) b.lines 0 9 1 (Int.toNat U) 0 (bs []) (rl b2)) [(3, pp 5 0), (aPd3 b), (21, ii Tj), (22, ii U), (25, .string (List.getD b.lines (Int.toNat U) (bs [])))] ?_
  refine rE 1 [(3, pp 5 0), (5, .string (List.getD b.lines (Int.toNat U) (bs []))), (aPd3 b), (21, ii Tj), (22, ii U)] id ?_
  refine rQ ?_
  refine rS 1 [(3, pp 5 0), (aPd3 b), (21, ii Tj), (22, ii U), (26, .string (List.getD b.lines (Int.toNat U) (bs [])))] ?_
  obtain ⟨b3, h⟩ := oC h
  refine rR (.string (aPd1 b U)) (mR b3) [(3, pp 5 0), (aPd3 b), (21, ii Tj), (22, ii U), (27, .string (aPd1 b U))] ?_
  refine cK [3, 20, 21, 22] 69 [pp 5 0, .string (aPd1 b U)] 28 ?_
  refine kN Proofs.Tryz.f69 f25_C69 19 [.tmp 4, .tmp 5] ?_
  refine qQ ?_
  refine rS 2 [(0, pp 5 0), (1, .string (aPd1 b U))] ?_
  refine nQ id ?_
  refine rS 1 [(0, pp 5 0), (1, .string (aPd1 b U)), (6, pp 5 0)] ?_
  refine cK [0, 1] 98 [pp 5 0] 7 ?_
  refine kN Proofs.Tryz.f98 f25_C98 20 [] ?_
  refine qE 5 [(0, pp 5 0), (6, .bool false)] id ?_
  refine iF 6 ?_
  refine qE 6 [(19, .bool false)] id ?_
  refine iF 19 ?_
  refine kQ ?_
  refine ⟨fun i q => (by cases q), .tuple #[], (by kernel_rfl), ?_⟩
  refine nQ id ?_
  refine rS 6 [(1, .string (aPd1 b U)), (8, pp 5 0), (12, s0 6 Tk.length), (13, .string (aPd1 b U))] ?_
  obtain ⟨b5, h⟩ := oC h
  obtain ⟨b6, h⟩ := oC h
  refine eR (e_appendStr (bytes := 1) (e := 5) (x := (src 19 (.tmp 12))) (y := (src 19 (.tmp 13))) (b := 6) (len := Tk.length) (cap := Tk.length) (xs := Tk) (s := (aPd1 b U)) (d := (some (path 12 14))) (n' := (Tk ++ bytesI (aPd1 b U)).length) (h' := ((7, rc (encI .u8) (Tk ++ bytesI (aPd1 b U)) 0 5 1) :: (5, .cells [pp 5 0, s0 6 Tk.length] 0 119 0) :: bookH b)) (by kernel_rfl) (by kernel_rfl) (by kernel_rfl) (by kernel_rfl) (by simp) (by simp) b5 b6 (by simp [bytesI_len]) (by kernel_rfl)) [(1, .string (aPd1 b U)), (8, pp 5 0), (14, s0 7 ((Tk ++ bytesI (aPd1 b U)).length))] ?_
  refine rD 3 [(1, .string (aPd1 b U))] (fun h => hset h 5 (.cells [pp 5 0, s0 7 ((Tk ++ bytesI (aPd1 b U)).length)] 0 119 0)) 8 ?_
  refine nQ id ?_
  refine rE 4 [(4, ii (((aPd1 b U).size : Nat) : Int)), (5, .nilIface)] id ?_
  refine tV (.tuple #[ii (((aPd1 b U).size : Nat) : Int), .nilIface]) id ?_
  refine eQ id ?_
  refine rQ ?_
  refine rS 2 [(3, pp 5 0), (aPd3 b), (21, ii Tj), (22, ii (w64 (U + 1)))] ?_
  refine dQ ?_
  show XL _ _ _ _ _ _ _ _ _
  refine nL [(3, pp 5 0), (aPd3 b), (21, ii Tj), (22, ii (w64 (U + 1)))] ((6, rc (encI .u8) (Tk ++ bytesI (aPd1 b U)) 0 5 1) :: (5, .cells [pp 5 0, s0 6 ((Tk ++ bytesI (aPd1 b U)).length)] 0 119 0) :: bookH b) 7 [0, 1, 2, 3, 4, 5, 7] ?_
  refine XL.conv (f25_1_ok m fuel b Tj (w64 (U + 1)) (Tk ++ bytesI (aPd1 b U)) o h Q hQ) (by first | with_reducible rfl | simp | rfl)
abbrev aPd4 := (bs [118, 105, 116, 111, 108, 97, 32])
abbrev aPd0 (b : Bk) := (catS (catS aPd4 (itoaV b.bays)) (bs [10]))
abbrev aPd2 := (bs [101, 110, 100, 32])
def f25 (m : Nat) (b : Bk) : Option (ByteArray) :=
 cond (b.bays == 0) (
  some ((bs []))
 ) (
  cond (okI b.bays) (
   cond (Nat.ble (aPd4.size + (itoaV b.bays).size) 9223372036854775807) (
    cond (Nat.ble ((catS aPd4 (itoaV b.bays)).size + (bs [10]).size) 9223372036854775807) (
     cond (decide (0 < (aPd0 b).size)) (
      cond (fitsB (0 + (aPd0 b).size) 1) (
       (f25_1 m m b ((b.lines.length : Nat) : Int) 0 (bytesI (aPd0 b))).bind fun o1 =>
        cond (decide (0 < o1.length)) (
         cond (decide (o1.length ≤ 1000000000)) (
          cond (bytesB o1) (
           cond (Nat.ble ((strI o1).size + aPd2.size) 9223372036854775807) (
            (f64 m (strI o1)).bind fun r1 =>
             cond (okI r1) (
              cond (Nat.ble ((catS (strI o1) aPd2).size + (itoaV r1).size) 9223372036854775807) (
               cond (Nat.ble ((catS (catS (strI o1) aPd2) (itoaV r1)).size + (bs [10]).size) 9223372036854775807) (
                some (catS (catS (catS (strI o1) aPd2) (itoaV r1)) (bs [10]))
               ) none
              ) none
             ) none
           ) none
          ) none
         ) none
        ) none
      ) none
     ) none
    ) none
   ) none
  ) none
 )
theorem f25_ok (m : Nat) (b : Bk) (o : ByteArray) (h : f25 m b = some o) : KC E0 25 [pp 0 0] (bookH b) 5 (fun v h' _ => v = .string o ∧ OutH b (bs []) .same h') := by
 refine kN Proofs.Tryz.f25 f25_C25 37 [.tmp 2] ?_
 unfold f25 at h
 refine qE 1 [(0, pp 0 0)] id ?_
 refine sQ ?_
 refine qQ ?_
 refine rS 1 [(0, pp 0 0), (6, pp 0 0)] ?_
 refine cK [0, 7] 52 [pp 0 0] 7 ?_
 refine kN Proofs.Tryz.f52 f25_C52 13 [.tmp 2] ?_
 refine qQ ?_
 refine rS 1 [(0, pp 0 0)] ?_
 refine nQ id ?_
 refine rE 11 [(2, .bool (b.bays == 0))] id ?_
 refine tV (.bool (b.bays == 0)) id ?_
 refine eQ id ?_
 cases b1 : (b.bays == 0 : Bool)
 case true =>
  have h := cT b1 h
  refine iT 7 ?_
  refine qE 1 [(2, .string (bs []))] id ?_
  obtain rfl := sI h
  exact tV (.string (bs [])) id ⟨rfl, by kernel_rfl, by kernel_rfl, by kernel_rfl, by kernel_rfl, by kernel_rfl⟩
 have h := cF b1 h
 refine iK 7 id ?_
 refine qG 1 [(0, pp 0 0), (3, pp 5 0)] (fun h => (5, .cells [.pointer none, .slice none 0 0] 0 119 0) :: h) 6 id ?_
 refine XQ.ghost 5 1 rfl (σ' := [(0, pp 0 0), (3, pp 5 0)]) (h' := (qPd0 :: bookH b)) ⟨by kernel_rfl, by kernel_rfl, trivial⟩ ⟨⟨_, rfl, .inr ⟨_, _, _, _, rfl, rfl⟩⟩, ⟨_, rfl, .inl rfl⟩, ⟨_, rfl, .inl rfl⟩, ⟨_, rfl, .inl rfl⟩, ⟨_, rfl, .inl rfl⟩, ⟨_, rfl, .inl rfl⟩, trivial⟩ ?_
 refine XQ.conv (σ' := [(0, pp 0 0), (3, pp 5 0)]) (h' := ((6, rc (encI .u8) [] 0 5 1) :: qPd0 :: bookH b)) (c' := 7) ?_ (by kernel_rfl)
 refine qQ ?_
 refine rS 5 [(0, pp 0 0), (3, pp 5 0), (12, ii b.bays)] ?_
 obtain ⟨b2, h⟩ := oC h
 refine cQ [0, 3, 13] 13 (KC.of_calls E0_ok (F := Proofs.Tryz.f44) (v := .string (itoaV b.bays)) (by kernel_rfl) rfl rfl (itoaV_ok b2)) ?_
 obtain ⟨b3, h⟩ := oC h
 refine rR (.string (catS aPd4 (itoaV b.bays))) (mR b3) [(0, pp 0 0), (3, pp 5 0), (14, .string (catS aPd4 (itoaV b.bays)))] ?_
 obtain ⟨b5, h⟩ := oC h
 refine rR (.string (aPd0 b)) (mR b5) [(0, pp 0 0), (3, pp 5 0), (15, .string (aPd0 b))] ?_
 refine cK [0, 3] 69 [pp 5 0, .string (aPd0 b)] 16 ?_
 refine kN Proofs.Tryz.f69 f25_C69 19 [.tmp 4, .tmp 5] ?_
 refine qQ ?_
 refine rS 2 [(0, pp 5 0), (1, .string (aPd0 b))] ?_
 refine nQ id ?_
 refine rS 1 [(0, pp 5 0), (1, .string (aPd0 b)), (6, pp 5 0)] ?_
 refine cK [0, 1] 98 [pp 5 0] 7 ?_
 refine kN Proofs.Tryz.f98 f25_C98 20 [] ?_
 refine qE 5 [(0, pp 5 0), (6, .bool true)] id ?_
 refine iT 6 ?_
 refine rQ ?_
 refine rD 8 [] (fun h => hset h 5 (.cells [pp 5 0, s0 6 0] 0 119 0)) 7 ?_
 refine dQ ?_
 refine ⟨fun i q => (by cases q), .tuple #[], (by kernel_rfl), ?_⟩
 refine nQ id ?_
 refine rS 6 [(1, .string (aPd0 b)), (8, pp 5 0), (12, s0 6 0), (13, .string (aPd0 b))] ?_
 obtain ⟨b7, h⟩ := oC h
 obtain ⟨b8, h⟩ := oC h
 refine eR (e_appendStr (bytes := 1) (e := 5) (x := (src 19 (.tmp 12))) (y := (src 19 (.tmp 13))) (b := 6) (len := 0) (cap := 0) (xs := ([] : List Int)) (s := (aPd0 b)) (d := (some (path 12 14))) (n' := (bytesI (aPd0 b)).length) (h' := ((7, rc (encI .u8) (bytesI (aPd0 b)) 0 5 1) :: (5, .cells [pp 5 0, s0 6 0] 0 119 0) :: bookH b)) (by kernel_rfl) (by kernel_rfl) (by kernel_rfl) (by kernel_rfl) (by simp) (by simp) b7 b8 (by simp [bytesI_len]) (by kernel_rfl)) [(1, .string (aPd0 b)), (8, pp 5 0), (14, s0 7 ((bytesI (aPd0 b)).length))] ?_
 refine rD 3 [(1, .string (aPd0 b))] (fun h => hset h 5 (.cells [pp 5 0, s0 7 ((bytesI (aPd0 b)).length)] 0 119 0)) 8 ?_
 refine nQ id ?_
 refine rE 4 [(4, ii (((aPd0 b).size : Nat) : Int)), (5, .nilIface)] id ?_
 refine tV (.tuple #[ii (((aPd0 b).size : Nat) : Int), .nilIface]) id ?_
 refine eQ id ?_
 refine sQ ?_
 refine qE 6 [(3, pp 5 0), (aPd3 b), (21, ii ((b.lines.length : Nat) : Int)), (22, ii 0)] id ?_
 refine XQ.block (id := 0) (by kernel_rfl) ?_
 refine XQ.loop m (by kernel_rfl) ?_
 obtain ⟨o1, o1_h, h⟩ := bS h
 refine nL [(3, pp 5 0), (aPd3 b), (21, ii ((b.lines.length : Nat) : Int)), (22, ii 0)] ((6, rc (encI .u8) (bytesI (aPd0 b)) 0 5 1) :: (5, .cells [pp 5 0, s0 6 ((bytesI (aPd0 b)).length)] 0 119 0) :: bookH b) 7 [0, 1, 2, 3, 4, 5, 7] ?_
 refine XL.conv (f25_1_ok m m b ((b.lines.length : Nat) : Int) 0 (bytesI (aPd0 b)) o1 o1_h _ ?_) (by first | with_reducible rfl | simp | rfl)
 show XQ _ _ _ _ _ _ _ _
 refine qQ ?_
 refine cK [3, 30] 70 [pp 5 0] 30 ?_
 refine kN Proofs.Tryz.f70 f25_C70 14 [.tmp 2] ?_
 refine qE 1 [(0, pp 5 0)] id ?_
 refine sQ ?_
 refine XQ.tail E0_ok 10 (by kernel_rfl) (by kernel_rfl) ?_
 refine XS.step E0_ok 4 rfl [0, 6] rfl (σ' := [(0, pp 5 0), (6, s0 6 o1.length)]) (by kernel_rfl) ?_
 obtain ⟨b10, h⟩ := oC h
 refine sR (pp 6 0) (v_sdata (x := (src 14 (.tmp 6))) (b := 6) (o := 0) (len := o1.length) (cap := o1.length) (d := (some (path 12 7))) (by kernel_rfl) (by kernel_rfl) b10) [(0, pp 5 0), (7, pp 6 0)] ?_
 refine XS.step E0_ok 5 rfl [7, 12] rfl (σ' := [(7, pp 6 0), (12, ii ((o1.length : Nat) : Int))]) (by kernel_rfl) ?_
 refine XS.done (by kernel_rfl) ?_
 obtain ⟨b11, h⟩ := oC h
 obtain ⟨b12, h⟩ := oC h
 refine eR (e_ustr (e := 5) (x := (src 14 (.tmp 7))) (y := (src 14 (.tmp 12))) (b := 6) (n := o1.length) (xs := o1) (es := 1) (d := (some (path 12 13))) (h' := ((6, rc (encI .u8) o1 (Nat.max 0 (0 + o1.length)) 5 1) :: (5, .cells [pp 5 0, s0 6 o1.length] 0 119 0) :: bookH b)) (by kernel_rfl) (by kernel_rfl) (by kernel_rfl) (by kernel_rfl) (by simp) b10 b11 b12 (by kernel_rfl)) [(13, .string (strI o1))] ?_
 refine rE 1 [(2, .string (strI o1))] id ?_
 refine tV (.string (strI o1)) id ?_
 obtain ⟨b13, h⟩ := oC h
 refine rR (.string (catS (strI o1) aPd2)) (mR b13) [(3, pp 5 0), (31, .string (catS (strI o1) aPd2))] ?_
 refine cK [31, 32] 70 [pp 5 0] 32 ?_
 refine kN Proofs.Tryz.f70 f25_C70 14 [.tmp 2] ?_
 refine qE 1 [(0, pp 5 0)] id ?_
 refine sQ ?_
 refine XQ.tail E0_ok 10 (by kernel_rfl) (by kernel_rfl) ?_
 refine XS.step E0_ok 4 rfl [0, 6] rfl (σ' := [(0, pp 5 0), (6, s0 6 o1.length)]) (by kernel_rfl) ?_
 refine sR (pp 6 0) (v_sdata (x := (src 14 (.tmp 6))) (b := 6) (o := 0) (len := o1.length) (cap := o1.length) (d := (some (path 12 7))) (by kernel_rfl) (by kernel_rfl) b10) [(0, pp 5 0), (7, pp 6 0)] ?_
 refine XS.step E0_ok 5 rfl [7, 12] rfl (σ' := [(7, pp 6 0), (12, ii ((o1.length : Nat) : Int))]) (by kernel_rfl) ?_
 refine XS.done (by kernel_rfl) ?_
 refine eR (e_ustrF (e := 5) (x := (src 14 (.tmp 7))) (y := (src 14 (.tmp 12))) (b := 6) (n := o1.length) (fz := (Nat.max 0 (0 + o1.length))) (xs := o1) (es := 1) (d := (some (path 12 13))) (h' := ((6, rc (encI .u8) o1 (Nat.max (Nat.max 0 (0 + o1.length)) (0 + o1.length)) 5 1) :: (5, .cells [pp 5 0, s0 6 o1.length] 0 119 0) :: bookH b)) (by kernel_rfl) (by kernel_rfl) (by kernel_rfl) (by kernel_rfl) (by simp) (fz_le _) b10 b11 b12 (by kernel_rfl)) [(13, .string (strI o1))] ?_
 refine rE 1 [(2, .string (strI o1))] id ?_
 refine tV (.string (strI o1)) id ?_
 obtain ⟨r1, r1_h, h⟩ := bS h
 refine cQ [31, 33] 33 (KC.of_calls E0_ok (F := Proofs.Tryz.f64) (v := ii r1) (by kernel_rfl) rfl rfl (fun w hI => f64_ok m (strI o1) r1 r1_h w hI)) ?_
 obtain ⟨b15, h⟩ := oC h
 refine cQ [31, 34] 34 (KC.of_calls E0_ok (F := Proofs.Tryz.f44) (v := .string (itoaV r1)) (by kernel_rfl) rfl rfl (itoaV_ok b15)) ?_
 obtain ⟨b16, h⟩ := oC h
 refine rR (.string (catS (catS (strI o1) aPd2) (itoaV r1))) (mR b16) [(35, .string (catS (catS (strI o1) aPd2) (itoaV r1)))] ?_
 obtain ⟨b18, h⟩ := oC h
 refine rR (.string (catS (catS (catS (strI o1) aPd2) (itoaV r1)) (bs [10]))) (mR b18) [(36, .string (catS (catS (catS (strI o1) aPd2) (itoaV r1)) (bs [10])))] ?_
 refine rE 1 [(2, .string (catS (catS (catS (strI o1) aPd2) (itoaV r1)) (bs [10])))] id ?_
 obtain rfl := sI h
 exact tV (.string (catS (catS (catS (strI o1) aPd2) (itoaV r1)) (bs [10]))) id ⟨rfl, by kernel_rfl, by kernel_rfl, by kernel_rfl, by kernel_rfl, by kernel_rfl⟩
noncomputable def f16_C16 : Code := Proofs.Tryz.f16.body.getD .skip
def f16 (m : Nat) (a : Int) : Option (Int × Bool) :=
 cond (decide (a < 1)) (
  some (1, false)
 ) (
  cond (decide (a > 8)) (
   some (1, false)
  ) (
   some (0, true)
  )
 )
abbrev aPd5 : Nat × XObj := (1, .imap (imC Value.bool []))
theorem f16_ok (m : Nat) (a : Int) (o : Int × Bool) (h : f16 m a = some o) : KC E0 16 [ii a] [] 0 (fun v h' _ => NewH a o v h') := by
 refine kN Proofs.Tryz.f16 f16_C16 16 [.tmp 2, .tmp 3] ?_
 unfold f16 at h
 refine qE 2 [(0, ii a)] id ?_
 refine sQ ?_
 refine qQ ?_
 refine rS 3 [(0, ii a), (6, .bool (decide (a < 1)))] ?_
 cases b1 : (decide (a < 1) : Bool)
 case true =>
  have h := cT b1 h
  refine rE 3 [(0, ii a), (9, .bool true)] id ?_
  refine iT 9 ?_
  refine qE 2 [(2, .pointer none), (3, ii 1)] id ?_
  obtain rfl := sI h
  exact tV (.tuple #[.pointer none, ii 1]) id rfl
 have h := cF b1 h
 refine rE 3 [(0, ii a), (9, .bool (decide (a > 8)))] id ?_
 cases b2 : (decide (a > 8) : Bool)
 case true =>
  have h := cT b2 h
  refine iT 9 ?_
  refine qE 2 [(2, .pointer none), (3, ii 1)] id ?_
  obtain rfl := sI h
  exact tV (.tuple #[.pointer none, ii 1]) id rfl
 have h := cF b2 h
 refine iK 9 id ?_
 refine qG 8 [(2, pp 2 0), (3, ii 0)] (fun h => (2, .cells [ii a, .map (some 0), ii 0, ii 0, ii 0, ii 0, ii 0, ii 0, .map (some 1), ii 0, .slice none 0 0, .slice none 0 0] 0 53 0) :: aPd5 :: (0, .imap (imS blV [])) :: h) 3 id ?_
 refine XQ.ghost 50 10 rfl (σ' := [(2, pp 2 0), (3, ii 0)]) (h' := [(2, .cells [ii a, .map (some 0), ii 0, ii 0, ii 0, ii 0, ii 0, ii 0, .map (some 1), ii 0, s0 3 0, .slice none 0 0] 0 53 0), aPd5, (0, .imap (imS blV []))]) ⟨by kernel_rfl, by kernel_rfl, trivial⟩ ⟨⟨_, rfl, .inr ⟨_, _, _, _, rfl, rfl⟩⟩, ⟨_, rfl, .inl rfl⟩, ⟨_, rfl, .inl rfl⟩, trivial⟩ ?_
 refine XQ.conv (σ' := [(2, pp 2 0), (3, ii 0)]) (h' := [(3, rc encSt [] 0 50 10), (2, .cells [ii a, .map (some 0), ii 0, ii 0, ii 0, ii 0, ii 0, ii 0, .map (some 1), ii 0, s0 3 0, .slice none 0 0] 0 53 0), aPd5, (0, .imap (imS blV []))]) (c' := 4) ?_ (by kernel_rfl)
 refine XQ.ghost 9 1 rfl (σ' := [(2, pp 2 0), (3, ii 0)]) (h' := [(3, rc encSt [] 0 50 10), (2, .cells [ii a, .map (some 0), ii 0, ii 0, ii 0, ii 0, ii 0, ii 0, .map (some 1), ii 0, s0 3 0, s0 4 0] 0 53 0), aPd5, (0, .imap (imS blV []))]) ⟨by kernel_rfl, by kernel_rfl, trivial⟩ ⟨⟨_, rfl, .inl rfl⟩, ⟨_, rfl, .inr ⟨_, _, _, _, rfl, rfl⟩⟩, ⟨_, rfl, .inl rfl⟩, ⟨_, rfl, .inl rfl⟩, trivial⟩ ?_
 refine XQ.conv (σ' := [(2, pp 2 0), (3, ii 0)]) (h' := [(4, rc encS [] 0 9 1), (3, rc encSt [] 0 50 10), (2, .cells [ii a, .map (some 0), ii 0, ii 0, ii 0, ii 0, ii 0, ii 0, .map (some 1), ii 0, s0 3 0, s0 4 0] 0 53 0), aPd5, (0, .imap (imS blV []))]) (c' := 5) ?_ (by kernel_rfl)
 obtain rfl := sI h
 exact tV (.tuple #[pp 2 0, ii 0]) id ⟨2, 0, 1, 3, 4, rfl, (by decide), by kernel_rfl, by kernel_rfl, by kernel_rfl, by kernel_rfl, by kernel_rfl⟩
end Go.Xm
