/- The abstract machine, part 14: small words for texts that 'dc.py' prints. -/
import Derived.Test.YtfgggididakkbaaGreatDoorMw
namespace Go.Xm
open Go.RowKit

abbrev w64 (x : Int) : Int := IntKind.wrap .i64 x
abbrev bs (l : List UInt8) : ByteArray := ⟨⟨l⟩⟩
abbrev catS (a b : ByteArray) : ByteArray := ⟨⟨a.data.toList ++ b.data.toList⟩⟩
def andV (k : IntKind) (x y : Int) : Int := k.wrap (BitVec.ofInt k.bits x &&& BitVec.ofInt k.bits y).toNat
def orV (k : IntKind) (x y : Int) : Int := k.wrap (BitVec.ofInt k.bits x ||| BitVec.ofInt k.bits y).toNat
def xorV (k : IntKind) (x y : Int) : Int := k.wrap (BitVec.ofInt k.bits x ^^^ BitVec.ofInt k.bits y).toNat
def andNotV (k : IntKind) (x y : Int) : Int := k.wrap (BitVec.ofInt k.bits x &&& ~~~BitVec.ofInt k.bits y).toNat
def iMin (x y : Int) : Int := if y < x then y else x
def iMax (x y : Int) : Int := if y > x then y else x

theorem cT {α : Type} {c : Bool} {a b : Option α} {o : α} (hc : c = true) (h : cond c a b = some o) : a = some o := by rw [hc] at h; exact h
theorem cF {α : Type} {c : Bool} {a b : Option α} {o : α} (hc : c = false) (h : cond c a b = some o) : b = some o := by rw [hc] at h; exact h
theorem bS {α β : Type} {x : Option α} {f : α → Option β} {o : β} (h : x.bind f = some o) : ∃ a, x = some a ∧ f a = some o := by
  cases x with
  | none => cases h
  | some a => exact ⟨a, rfl, h⟩

theorem row_len {n m : Nat} {α : Type} {xs : List α} (h : decide (n < m) = true) (e : m = xs.length) : n < xs.length := by
  have := of_decide_eq_true h; omega
theorem inRow_toNat {i : Int} {n : Nat} (h : inRow i n = true) : decide (i.toNat < n) = true := by
  obtain ⟨h1, h2⟩ := inRow_iff.1 h
  exact decide_eq_true (by omega)

/-- A call, and what follows it at each return. -/
theorem XR.callK {E : Env} (hE : E.Ok) {nt k : Nat} {ops : Array Oper} {j : Nat} (live : List Nat) {K : Nat} {args : List Value} {d : Option (List Bool)} {σ : St} {h : Heap} {c : Nat} {Q : QP} (hl : live.all (fun i => Nat.blt i nt) = true)
    (hc : callee ((gsOf E nt ops).drop j) (trS nt σ) = some (K, args, d)) (hx : KC E K args h c (fun v h' c' => XR E nt k ops (j + 1) (readS (putX d v (trS nt σ)) live) h' c' Q)) : XR E nt k ops j σ h c Q :=
  XR.call hE live hl hc hx (fun _ _ _ q => q)

theorem KC.bodyN {E : Env} (hE : E.Ok) {K : Nat} {F : Func} (hF : E.fn K = some F) {code : Code} (hb : F.body = some code) {args : List Value} {nt : Nat} (hnt : F.ntmps = nt) {rs : List ResultVar} (hrs : F.results.toList = rs) (hn : (Nat.ble args.length nt && Nat.ble nt 4000) = true) {σ : St} (hσ : argS args 0 = σ)
    {h : Heap} {c : Nat} {R : Value → Heap → Nat → Prop}
    (hx : XQ E nt c code σ h c (fun e σ h' c' => (∀ i, e ≠ .exit i) ∧ ∃ v, resOf E nt (trS nt σ) h' rs = some v ∧ R v h' c')) : KC E K args h c R := by
  subst hnt; subst hrs; subst hσ
  exact KC.body hE hF hb hn hx

def SubI (σ : St) : St → Prop
  | [] => True
  | (i, v) :: l => lookS σ i = some v ∧ SubI σ l

theorem SubI.mem {σ : St} : ∀ {σ' : St}, SubI σ σ' → ∀ i v, (i, v) ∈ σ' → (i, v) ∈ σ
  | [], _, _, _, hm => by cases hm
  | (_, _) :: _, hs, _, _, hm => by
    rcases List.mem_cons.1 hm with e | e
    · cases e; exact lookS_mem hs.1
    · exact SubI.mem hs.2 _ _ e

/-- Slots are forgotten. -/
theorem XQ.drop {E : Env} {nt k : Nat} {code : Code} {σ σ' : St} {h : Heap} {c : Nat} {Q : QP} (hs : SubI σ σ') (hx : XQ E nt k code σ' h c Q) : XQ E nt k code σ h c Q := XQ.weak hs.mem (fun _ _ q => q) hx

theorem XQ.sub {E : Env} {nt k : Nat} {code : Code} {σ : St} {h : Heap} {c : Nat} {Q Q' : QP} (hq : ∀ e σ h c, Q e σ h c → ∃ σ', (∀ i v, (i, v) ∈ σ' → (i, v) ∈ σ) ∧ Q' e σ' h c) (hx : XQ E nt k code σ h c Q) : XQ E nt k code σ h c Q' := by
  intro B ρ a w h1 h2 h3 h4 h5 h6 h7
  refine wp_mono (hx B ρ a w h1 h2 h3 h4 h5 h6 h7) ?_
  rintro e a' w' ⟨e, σ, h, c, ρ', q1, q2, q3, q4, q5, q6, q7, q8⟩
  obtain ⟨σ', s1, s2⟩ := hq _ _ _ _ q8
  exact ⟨e, σ', h, c, ρ', q1, q2, ⟨q3.1, q3.2.1, fun i v hm => q3.2.2 i v (s1 i v hm)⟩, q4, q5, q6, q7, s2⟩

/-- Ways that meet again at the end. -/
theorem XQ.meetC {E : Env} {nt k : Nat} {code : Code} {σ σ' : St} {h h' : Heap} {c c' : Nat} {Q : QP} (hq : Q .normal σ' h' c') (hx : XQ E nt k code σ h c (fun e σ1 h1 c1 => e = .normal ∧ SubI σ1 σ' ∧ (h1, c1) = (h', c'))) : XQ E nt k code σ h c Q := by
  refine XQ.sub ?_ hx
  rintro e σ1 h1 c1 ⟨rfl, hs, hq2⟩
  cases hq2
  exact ⟨σ', hs.mem, hq⟩

/-- One operation that reads, by an equation, ahead of the operations that write. -/
theorem XS.rd {E : Env} (hE : E.Ok) {nt k : Nat} {ops : Array Oper} {m j : Nat} (hi : Nat.ble (j + 1) m = true) (live : List Nat) {σ σ' : St} {h : Heap} {c : Nat} {v : Value} {Q : QP} (hl : live.all (fun i => Nat.blt i nt) = true)
    (hv : insV (headI ((gsOf E nt ops).drop j) (trS nt σ)) (trS nt σ) h = some v) (hσ : readS (putX (insD (headI ((gsOf E nt ops).drop j) (trS nt σ))) v (trS nt σ)) live = σ')
    (hx : XS E nt k ops m (j + 1) σ' h c Q) : XS E nt k ops m j σ h c Q := by
  refine XS.step hE 1 hi live (σ' := σ') hl ?_ hx
  rw [qops_rd hv, ← hσ]
  rfl

/-! ### A string over a row of bytes -/
def bytesB (xs : List Int) : Bool := xs.all (fun n => decide (0 ≤ n) && decide (n < 256))
def strI (xs : List Int) : ByteArray := ⟨(xs.map fun n => n.toNat.toUInt8).toArray⟩

theorem bytesOf_row : ∀ (xs : List Int), bytesB xs = true → bytesOf (rowC (encI .u8) xs) = some (xs.map fun n => n.toNat.toUInt8)
  | [], _ => rfl
  | n :: xs, h => by
    simp only [bytesB, List.all_cons, Bool.and_eq_true, decide_eq_true_eq] at h
    obtain ⟨⟨h0, h1⟩, h2⟩ := h
    obtain ⟨m, rfl⟩ : ∃ m : Nat, n = m := ⟨n.toNat, by omega⟩
    have ih := bytesOf_row xs h2
    have e : rowC (encI .u8) ((m : Int) :: xs) = .int .u8 (.ofNat m) :: rowC (encI .u8) xs := rfl
    have hb : Nat.blt m 256 = true := by simp only [Nat.blt_eq]; omega
    rw [e]
    simp only [bytesOf, hb, ih]
    rfl

theorem v_sdata {g : Ins} {d : Option (List Bool)} {x : Src} {t : Tr} {h : Heap} (hI : g = .rd d (rSliceData x)) {b o len cap : Nat} (hx : ev t x = .slice (some ⟨b, o, none⟩) len cap) (hc : decide (0 < cap) = true) : insV g t h = some (.pointer (some ⟨b, o, none⟩)) := by
  subst hI
  have hc := of_decide_eq_true hc
  cases cap with
  | zero => omega
  | succ n => simp only [insV, rSliceData, hx]

/-- unsafe.String over bytes of the type e. -/
noncomputable def eUStr (e : TypeId) (x y : Src) : EF := fun tm h c => match eUnsafeString x y tm h c with
  | some r => match ev tm x with
    | .pointer (some a) => match hget h a.block with
      | some (.cells _ _ e' _) => match Nat.beq e' e with
        | true => some r
        | false => none
      | _ => none
    | _ => some r
  | none => none

theorem e_ustr {g : Ins} {d : Option (List Bool)} {e : TypeId} {x y : Src} {t : Tr} {h h' : Heap} {c : Nat} (hI : g = .ef d (eUStr e x y)) {b n : Nat} (hx : ev t x = .pointer (some ⟨b, 0, none⟩)) (hy : ev t y = .int .i64 (Int.ofNat n)) {xs : List Int} {es : Nat}
    (hg : hget h b = some (.cells (rowC (encI .u8) xs) 0 e es)) (hn : n = xs.length) (h0 : decide (0 < n) = true) (h1 : decide (n ≤ 1000000000) = true) (hb : bytesB xs = true) (hh : hset h b (.cells (rowC (encI .u8) xs) (Nat.max 0 (0 + n)) e es) = h') :
    insE g t h c = some (.string (strI xs), h', c) := by
  subst hI
  subst hn
  have h0 := of_decide_eq_true h0
  have h1 := of_decide_eq_true h1
  obtain ⟨m, hm⟩ : ∃ m, xs.length = m + 1 := ⟨xs.length - 1, by omega⟩
  have hl := rowC_length (encI_ok .u8) xs
  have q1 : Nat.ble (0 + (m + 1)) (rowC (encI .u8) xs).length = true := by rw [Nat.ble_eq]; omega
  have q2 : Nat.ble m 1000000000 = true := by rw [Nat.ble_eq]; omega
  have q3 : (List.drop 0 (rowC (encI .u8) xs)).take (m + 1) = rowC (encI .u8) xs := by
    rw [List.drop_zero]; exact List.take_of_length_le (by omega)
  have q4 : Nat.beq e e = true := Nat.beq_refl e
  have q5 : Nat.ble 0 (rowC (encI .u8) xs).length = true := by rw [Nat.ble_eq]; omega
  rw [hm] at hy hh
  simp only [insE, eUStr, eUnsafeString, hx, hy, hg, q1, q2, q3, q4, q5, bytesOf_row xs hb, Bool.and_self, hh]
  rfl

theorem Rho.le_append (ρ ρ' : Rho) : Rho.le ρ (ρ ++ ρ') := fun i L h => by
  rw [List.getElem?_append_left (List.getElem?_eq_some_iff.1 h).1]; exact h

/-- A call with plain arguments that makes blocks of its own, at a heap that is there already. -/
theorem KC.lift {E : Env} {K n c : Nat} {args : List Value} {V V2 : Value} {H H2 h : Heap} (s : List Nat) (hx : KC E K args [] 0 (fun v h' c' => v = V ∧ h' = H ∧ c' = n)) (hp : args.all plain = true)
    (hs : s = (List.range c).map (fun i => n + i) ++ List.range n) (hn : s.Nodup) (hv : renV s V2 = V) (hh : RenH s H H2) (hfr : noFrz H2 = true) : KC E K args h c (fun v h' c' => v = V2 ∧ h' = H2 ++ h ∧ c' = c + n) := by
  intro B ρ w args' hargs hH hρ hB hG hI
  have he := hargs.plain_eq hp
  subst he
  obtain ⟨q1, q2⟩ := hx w.heap.size [] w args' (Cells.plain_refl [] hp) (HRel.nil _ _ _) rfl (Nat.le_refl _) (Bd.ge_at (Nat.le_trans hG.1 hB)) hI
  refine ⟨q1, q2.mono ?_⟩
  rintro e w' ⟨v, v', ρ', h', c', rfl, e2, e3, e4, e5, e6, rfl, rfl, rfl⟩
  have hR : renR s (ρ' ++ ρ) = ρ ++ ρ' := by
    rw [hs]
    unfold renR
    rw [List.map_append, List.map_map]
    congr 1
    · apply List.ext_getElem?
      intro i
      by_cases hi : i < c
      · have h1 : i < ρ.length := by omega
        simp only [List.getElem?_map, List.getElem?_range hi, Option.map_some, Function.comp]
        rw [List.getD_eq_getElem?_getD, List.getElem?_append_right (by omega)]
        have h2 : c' + i - ρ'.length = i := by omega
        rw [h2, List.getElem?_eq_getElem h1]
        rfl
      · rw [List.getElem?_eq_none (by simp; omega), List.getElem?_eq_none (by omega)]
    · apply List.ext_getElem?
      intro i
      by_cases hi : i < c'
      · have h1 : i < ρ'.length := by omega
        simp only [List.getElem?_map, List.getElem?_range hi, Option.map_some]
        rw [List.getD_eq_getElem?_getD, List.getElem?_append_left h1, List.getElem?_eq_getElem h1]
        rfl
      · rw [List.getElem?_eq_none (by simp; omega), List.getElem?_eq_none (by omega)]
  have hle : Rho.le ρ' (ρ' ++ ρ) := Rho.le_append ρ' ρ
  have v1 : VRel (renR s (ρ' ++ ρ)) V2 v' := VRel.renV (by rw [hv]; exact e2.mono hle)
  have H1 : HRel w.heap.size (renR s (ρ' ++ ρ)) H2 w' := (e5.keep hle (fun _ _ => rfl)).ren hn hh
  rw [hR] at v1 H1
  exact ⟨V2, v', ρ ++ ρ', H2 ++ h, c + c', rfl, v1, Rho.le_append ρ ρ', by rw [List.length_append, hρ, e4], hH.union (Rho.le_append ρ ρ') H1 (noFrz_ok _ hfr) hB e6.below, Bel.of e6.below hB, rfl, rfl, rfl⟩

/-! ### Calls that only read what is there -/
/-- What a call that only reads is worth, in every later world. -/
def KQ (E : Env) (K : Nat) (args : List Value) (h : Heap) (V : Value) : Prop :=
  ∀ (B : Bd) (ρ : Rho) (w : World) (args' : List Value), Cells ρ args args' → HRel B ρ h w → E.G ≤ w.heap.size → E.inv w → ∀ w', Below w.heap.size w w' →
    (callFunc K args'.toArray).run E.P w' = .ok (.enter K args'.toArray) w' ∧ Calls E.P K args'.toArray w' (fun e w'' => e = .returned V ∧ Below w'.heap.size w' w'')

theorem KC.quiet {E : Env} (hE : E.Ok) {K n : Nat} {args args0 : List Value} {V : Value} {h h0 : Heap} (s : List Nat) (hx : KC E K args0 h0 n (fun v _ _ => v = V)) (hV : plain V = true) (ha : args0.map (renV s) = args) (hn : s.Nodup) (hlen : s.length = n)
    (hk : keysOk h = true) (hh : RenH s (frzH h) h0) : KQ E K args h V := by
  intro B ρ w args' hargs hH hG hI w' hb
  have H1 := ((hH.keepB hb).frozen hk w'.heap.size).ren hn hh
  have hc : Cells (renR s ρ) args0 args' := by
    subst ha
    refine ⟨by simpa using hargs.1, fun i v v' e1 e2 => ?_⟩
    exact (hargs.2 i (renV s v) v' (by simp [e1]) e2).renV
  obtain ⟨q1, q2⟩ := hx w'.heap.size (renR s ρ) w' args' hc H1 (by simpa [renR] using hlen) (Nat.le_refl _) (Bd.ge_at (Nat.le_trans hG hb.size)) (hE.keepN hG hI hb)
  refine ⟨q1, q2.mono ?_⟩
  rintro e w2 ⟨v, v', ρ', h', c', rfl, e2, e3, e4, e5, e6, rfl⟩
  exact ⟨by rw [e2.plain_eq hV], e6.below⟩

/-- A call that reads what it is handed, and makes blocks of its own. -/
theorem KC.liftH {E : Env} {K n0 m c : Nat} {args args0 : List Value} {V V2 : Value} {h h0 H H2 : Heap} (s0 s : List Nat) (hx : KC E K args0 h0 n0 (fun v h' c' => v = V ∧ h' = H ++ h0 ∧ c' = n0 + m)) (ha : args0.map (renV s0) = args) (hn0 : s0.Nodup) (hlen : s0.length = n0)
    (hk : keysOk h = true) (hh0 : RenH s0 (frzH h) h0) (hs : s = (List.range c).map (fun i => n0 + m + i) ++ (List.range m).map (fun i => n0 + i)) (hn : s.Nodup) (hv : renV s V2 = V) (hh : RenH s H H2) (hfr : noFrz H2 = true) :
    KC E K args h c (fun v h' c' => v = V2 ∧ h' = H2 ++ h ∧ c' = c + m) := by
  intro B ρ w args' hargs hH hρ hB hG hI
  have H1 := (hH.frozen hk w.heap.size).ren hn0 hh0
  have hc : Cells (renR s0 ρ) args0 args' := by
    subst ha
    refine ⟨by simpa using hargs.1, fun i v v' e1 e2 => ?_⟩
    exact (hargs.2 i (renV s0 v) v' (by simp [e1]) e2).renV
  obtain ⟨q1, q2⟩ := hx w.heap.size (renR s0 ρ) w args' hc H1 (by simpa [renR] using hlen) (Nat.le_refl _) (Bd.ge_at (Nat.le_trans hG.1 hB)) hI
  refine ⟨q1, q2.mono ?_⟩
  rintro e w' ⟨v, v', ρ', h', c', rfl, e2, e3, e4, e5, e6, rfl, rfl, rfl⟩
  have hR : renR s (ρ' ++ ρ) = ρ ++ ρ'.drop n0 := by
    rw [hs]
    unfold renR
    rw [List.map_append, List.map_map]
    congr 1
    · apply List.ext_getElem?
      intro i
      by_cases hi : i < c
      · have h1 : i < ρ.length := by omega
        simp only [List.getElem?_map, List.getElem?_range hi, Option.map_some, Function.comp]
        rw [List.getD_eq_getElem?_getD, List.getElem?_append_right (by omega)]
        have h2 : n0 + m + i - ρ'.length = i := by omega
        rw [h2, List.getElem?_eq_getElem h1]
        rfl
      · rw [List.getElem?_eq_none (by simp; omega), List.getElem?_eq_none (by omega)]
    · rw [List.map_map]
      apply List.ext_getElem?
      intro i
      by_cases hi : i < m
      · have h1 : n0 + i < ρ'.length := by omega
        simp only [List.getElem?_map, List.getElem?_range hi, Option.map_some, Function.comp]
        rw [List.getD_eq_getElem?_getD, List.getElem?_append_left h1, List.getElem?_drop, List.getElem?_eq_getElem h1]
        rfl
      · rw [List.getElem?_eq_none (by simp; omega), List.getElem?_eq_none (by rw [List.length_drop]; omega)]
  have hle : Rho.le ρ' (ρ' ++ ρ) := Rho.le_append ρ' ρ
  have v1 : VRel (renR s (ρ' ++ ρ)) V2 v' := VRel.renV (by rw [hv]; exact e2.mono hle)
  have e5' : HRel w.heap.size ρ' H w' := e5.sub (fun i o q => by rw [hget_append, q]; rfl)
  have H3 : HRel w.heap.size (renR s (ρ' ++ ρ)) H2 w' := (e5'.keep hle (fun _ _ => rfl)).ren hn hh
  rw [hR] at v1 H3
  exact ⟨V2, v', ρ ++ ρ'.drop n0, H2 ++ h, c + m, rfl, v1, Rho.le_append ρ _, by rw [List.length_append, List.length_drop, hρ, e4]; omega, hH.union (Rho.le_append ρ _) H3 (noFrz_ok _ hfr) hB e6.below, Bel.of e6.below hB, rfl, rfl, rfl⟩

theorem KQ.call {E : Env} {K c : Nat} {args : List Value} {V : Value} {h : Heap} (hx : KQ E K args h V) (hV : plain V = true) : KC E K args h c (fun v h' c' => v = V ∧ h' = h ∧ c' = c) := by
  intro B ρ w args' hargs hH hρ hB hG hI
  obtain ⟨q1, q2⟩ := hx B ρ w args' hargs hH (Nat.le_trans hG.1 hB) hI w (Below.refl _ _)
  refine ⟨q1, q2.mono ?_⟩
  rintro e w2 ⟨rfl, hb⟩
  exact ⟨V, V, ρ, h, c, rfl, VRel.plain_refl ρ hV, Rho.le_refl ρ, hρ, hH.keepB hb, Bel.of hb hB, rfl, rfl, rfl⟩

/-- A call that only reads, in a drawn region. -/
theorem XU.callH {E : Env} (hE : E.Ok) {nt : Nat} {ops : Array Oper} {j : Nat} (live : List Nat) {K : Nat} {args : List Value} {d : Option (List Bool)} {σ σ' : St} {h : Heap} {c : Nat} {V : Value} {Q : St → Prop} (hl : live.all (fun i => Nat.blt i nt) = true)
    (hc : callee ((gsOf E nt ops).drop j) (trS nt σ) = some (K, args, d)) (hV : plain V = true) (hx : KQ E K args h V) (hσ : readS (putX d V (trS nt σ)) live = σ') (hn : XU E nt ops (j + 1) σ' h c Q) : XU E nt ops j σ h c Q := by
  intro ρ a w B h1 h2 h3 h4 h5 ds h6
  cases hgs : (gsOf E nt ops).drop j with
  | nil => rw [hgs] at hc; cases hc
  | cons g gs =>
    have hg : (gsOf E nt ops)[j]? = some g := by
      have h0 : ((gsOf E nt ops).drop j)[0]? = some g := by rw [hgs]; rfl
      rw [List.getElem?_drop, Nat.add_zero] at h0
      exact h0
    have hlen : (gsOf E nt ops).length = ops.toList.length := by simp [gsOf]
    have hj : j < ops.toList.length := by rw [← hlen]; exact (List.getElem?_eq_some_iff.1 hg).1
    have ho : ops.toList[j]? = some ops.toList[j] := List.getElem?_eq_getElem hj
    have hok : GIOk E nt ops.toList ops.toList[j] g := map_get hE nt ops.toList j _ g ho hg
    have hdrop : ops.toList.drop j = ops.toList[j] :: ops.toList.drop (j + 1) := by
      rw [List.drop_eq_getElem_cons hj]
    rw [hdrop]
    have harr : ops.toList.toArray = ops := by simp
    refine wpQuiet_step (fun K0 hK0 => ?_)
    have after : ∀ a', a'.defers = a.defers → TRel ρ nt (putX d V (trS nt σ)) a' → K0 a' := by
      intro a' d1 t1
      exact hK0 _ (hn ρ a' w B (by rw [← hσ]; exact SRel.of_tr t1 hl) h2 h3 h4 h5 ds (d1.trans h6))
    have key : ∀ i, InsOk E nt ops.toList[j] i → insCallee i (trS nt σ) = some (K, args, d) → ops.toList[j].quiet E.P a (fun w' => Below w.heap.size w w') K0 := by
      intro i hi hic
      cases i with
      | call d0 f as =>
        obtain ⟨hd, hcs⟩ := hi
        simp only [insCallee] at hic
        split at hic
        · rename_i k xs hev
          cases hic
          obtain ⟨xs', hargs, hex⟩ := hcs ρ (trS nt σ) a h1.tr _ _ hev
          refine ⟨V, fun w' hw' => ?_, after _ (put_defers _ _ _) (putX_ok h1.tr hd (VRel.plain_refl ρ hV))⟩
          obtain ⟨q1, q2⟩ := hx B ρ w _ hargs h2 h4 h5 w' hw'
          unfold Oper.quietAt
          rw [hex, q1]
          exact ⟨rfl, q2.mono fun e w'' ⟨he, hb⟩ => ⟨he, hw'.trans (hb.mono hw'.size)⟩⟩
        · cases hic
      | _ => cases hic
    rw [hgs] at hc
    cases g with
    | ins i =>
      obtain ⟨hgd, hi⟩ := hok
      rw [if_pos (by simp only [Region.wanted]; rw [hgd])]
      exact key i hi hc
    | g p want d1 i =>
      obtain ⟨j1, dj, q1, q2, q3, q4, q5, q6⟩ := hok
      subst q4
      simp only [callee] at hc
      cases hw : wantB ((trS nt σ).get (path 12 dj)) want with
      | none => rw [hw] at hc; cases hc
      | some r =>
        rw [hw] at hc
        have hwd := wanted_of h1.tr q1 q2 q3 hw
        rw [harr] at hwd
        cases r with
        | true =>
          rw [if_pos hwd]
          exact key i q6 hc
        | false => cases hc
    | bad => cases hc

/-! Shifts and bits, with open numbers. -/
theorem XL.conv' {E : Env} {nt k n : Nat} {code : Code} {σ σ' : St} {h h' : Heap} {c c' : Nat} {Q : QP} (e : (σ, h, c) = (σ', h', c')) (hx : XL E nt k n code σ' h' c' Q) : XL E nt k n code σ h c Q := by cases e; exact hx
#print axioms KC.bodyN
/-! ### Regions that draw: loose operations first -/
noncomputable def reOps (ops : Array Oper) (is : List Nat) : Array Oper := (opsAt ops.toList is).toArray

def freeOf (l : List Oper) : Bool := l.all fun o => o.guard.isNone

theorem free_wanted {o : Oper} (h : o.guard.isNone = true) (y : Nat → Option Bool) : Region.wanted o y = true := by
  have : o.guard = none := by simpa using h
  simp [Region.wanted, this]

theorem wpStill_other {P : Program} {ops ops' : Array Oper} {w : World} {Q Q' : Act → Prop} (hQ : ∀ a, Q a → Q' a) : ∀ (l : List Oper), freeOf l = true → ∀ a, wpStill P ops w Q l a → wpStill P ops' w Q' l a
  | [], _, a, h => hQ a h
  | o :: l, hf, a, h => by
    simp only [freeOf, List.all_cons, Bool.and_eq_true] at hf
    unfold wpStill at h ⊢
    rw [if_pos (free_wanted hf.1 _)] at h ⊢
    exact Oper.still_mono (fun a h => wpStill_other hQ l hf.2 a h) h

theorem wpList_other {P : Program} {ops ops' : Array Oper} {Q : Exit → Act → World → Prop} : ∀ (l : List Oper), freeOf l = true → ∀ a w, wpList P ops Q l a w → wpList P ops' Q l a w
  | [], _, a, w, h => h
  | o :: l, hf, a, w, h => by
    simp only [freeOf, List.all_cons, Bool.and_eq_true] at hf
    unfold wpList at h ⊢
    rw [if_pos (free_wanted hf.1 _)] at h ⊢
    rcases h with h | h
    · exact .inl (Oper.wp_mono (fun a w h => wpList_other l hf.2 a w h) h)
    · exact .inr h

theorem opsAt_append (l : List Oper) (a b : List Nat) : opsAt l (a ++ b) = opsAt l a ++ opsAt l b := by
  simp [opsAt, List.filterMap_append]

theorem opsAt_free {l : List Oper} (h : freeOf l = true) (is : List Nat) : freeOf (opsAt l is) = true := by
  refine List.all_eq_true.2 fun o ho => ?_
  obtain ⟨i, _, hi⟩ := List.mem_filterMap.1 ho
  exact List.all_eq_true.1 h o (List.mem_of_getElem? hi)

theorem XQ.pre {E : Env} (hE : E.Ok) {nt k : Nat} {code : Code} (p H : List Nat) (t0 : Nat) (T : List Nat) (hs : drawOf code = some true) (hB : preTailB .any (opsOf code).toList.toArray p H t0 T = true) (hf : freeOf (opsOf code).toList = true)
    (live : List Nat) {σ σ' : St} {h : Heap} {c : Nat} {Q : QP} (hl : live.all (fun i => Nat.blt i nt) = true) (hp : obsT live (pops ((opsAt (opsOf code).toList p).map fun o => (isMove o, compG E nt (opsOf code).toList o)) (trS nt σ)) = some σ')
    (hx : XS E nt k (reOps (opsOf code) (H ++ t0 :: T)) H.length 0 σ' h c Q) : XQ E nt k code σ h c Q := by
  cases code with
  | region id ops d =>
    cases hs
    intro B ρ a w h1 h2 h3 h4 h5 h6 h7
    have hb := drew_below w
    have hhd : HRel B ρ h w.drew := h2.keepB hb
    have hId : E.inv w.drew := hE.keepN (Nat.le_trans h5.1 h4) h6 hb
    have hx : XS E nt k (reOps ops (H ++ t0 :: T)) H.length 0 σ' h c Q := hx
    have hf : freeOf ops.toList = true := hf
    have hB : preTailB .any ops.toList.toArray p H t0 T = true := hB
    have hlt : ∀ i ∈ H, i < ops.toList.length := by
      have hB2 := hB
      simp only [preTailB, Bool.and_eq_true] at hB2
      intro i hi
      have := List.all_eq_true.1 hB2.1.1.1.1.1.1.2 i (by simp only [List.mem_append]; exact .inl (.inr hi))
      simpa [Nat.blt_eq] using this
    have hlen : (opsAt ops.toList H).length = H.length := by
      have := congrArg List.length (opsAt_map (l := ops.toList) H hlt)
      simpa using this.symm
    have hwp := wp_region_pre (P := E.P) (id := id) (Q := After k B nt ρ w a.defers Q) (a := a) (w := w) (l := ops.toList) p H t0 T hE.mixed hB (fun cc a w ⟨e, _, _, _, _, q, _⟩ => by cases e <;> cases q) ?_
    · simpa using hwp
    · cases hx0 : pops ((opsAt ops.toList p).map fun o => (isMove o, compG E nt ops.toList o)) (trS nt σ) with
      | none =>
        have hp : obsT live (pops ((opsAt ops.toList p).map fun o => (isMove o, compG E nt ops.toList o)) (trS nt σ)) = some σ' := hp
        rw [hx0] at hp; cases hp
      | some t2 =>
        have hp : obsT live (pops ((opsAt ops.toList p).map fun o => (isMove o, compG E nt ops.toList o)) (trS nt σ)) = some σ' := hp
        rw [hx0] at hp
        cases hp
        refine pops_ok hE w (all := ops.toList) (opsAt ops.toList p) (trS nt σ) t2 hx0 a h1.tr (fun a' d1 r1 => ?_)
        have key := hx B ρ a' w.drew (SRel.of_tr r1 hl) hhd h3 h4 h5 hId ρ w a.defers ⟨h7, fun _ _ => rfl⟩ (Bel.refl B w).drew d1
        have e1 : (reOps ops (H ++ t0 :: T)).toList = opsAt ops.toList H ++ opsAt ops.toList (t0 :: T) := by
          show (opsAt ops.toList (H ++ t0 :: T)).toArray.toList = _
          rw [opsAt_append]
        rw [e1, ← hlen, List.take_left', List.drop_left', List.drop_zero] at key
        · exact wpStill_other (fun a h => wpList_other _ (opsAt_free hf _) a _ h) _ (opsAt_free hf _) a' key
        · rfl
        · rfl
  | _ => cases hs

end Go.Xm
