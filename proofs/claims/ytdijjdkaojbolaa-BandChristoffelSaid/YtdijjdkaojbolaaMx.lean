/- The abstract machine, part 14: small words for texts that 'dc.py' prints. -/
import Derived.Test.YtdijjdkaojbolaaMw
namespace Go.Xm
open Go.RowKit

abbrev w64 (x : Int) : Int := IntKind.wrap .i64 x
abbrev bs (l : List UInt8) : ByteArray := ⟨⟨l⟩⟩
abbrev catS (a b : ByteArray) : ByteArray := ⟨⟨a.data.toList ++ b.data.toList⟩⟩
def andV (k : IntKind) (x y : Int) : Int := k.wrap (BitVec.ofInt k.bits x &&& BitVec.ofInt k.bits y).toNat
def orV (k : IntKind) (x y : Int) : Int := k.wrap (BitVec.ofInt k.bits x ||| BitVec.ofInt k.bits y).toNat
def xorV (k : IntKind) (x y : Int) : Int := k.wrap (BitVec.ofInt k.bits x ^^^ BitVec.ofInt k.bits y).toNat
def andNotV (k : IntKind) (x y : Int) : Int := k.wrap (BitVec.ofInt k.bits x &&& ~~~BitVec.ofInt k.bits y).toNat
def iMin (x y : Int) : Int := if y < x then y else x
def iMax (x y : Int) : Int := if y > x then y else x

theorem cT {α : Type} {c : Bool} {a b : Option α} {o : α} (hc : c = true) (h : cond c a b = some o) : a = some o := by rw [hc] at h; exact h
theorem cF {α : Type} {c : Bool} {a b : Option α} {o : α} (hc : c = false) (h : cond c a b = some o) : b = some o := by rw [hc] at h; exact h
theorem bS {α β : Type} {x : Option α} {f : α → Option β} {o : β} (h : x.bind f = some o) : ∃ a, x = some a ∧ f a = some o := by
  cases x with
  | none => cases h
  | some a => exact ⟨a, rfl, h⟩

theorem row_len {n m : Nat} {α : Type} {xs : List α} (h : decide (n < m) = true) (e : m = xs.length) : n < xs.length := by
  have := of_decide_eq_true h; omega
theorem inRow_toNat {i : Int} {n : Nat} (h : inRow i n = true) : decide (i.toNat < n) = true := by
  obtain ⟨h1, h2⟩ := inRow_iff.1 h
  exact decide_eq_true (by omega)

/-- A call, and what follows it at each return. -/
theorem XR.callK {E : Env} (hE : E.Ok) {nt k : Nat} {ops : Array Oper} {j : Nat} (live : List Nat) {K : Nat} {args : List Value} {d : Option (List Bool)} {σ : St} {h : Heap} {c : Nat} {Q : QP} (hl : live.all (fun i => Nat.blt i nt) = true)
    (hc : callee ((gsOf E nt ops).drop j) (trS nt σ) = some (K, args, d)) (hx : KC E K args h c (fun v h' c' => XR E nt k ops (j + 1) (readS (putX d v (trS nt σ)) live) h' c' Q)) : XR E nt k ops j σ h c Q :=
  XR.call hE live hl hc hx (fun _ _ _ q => q)

theorem KC.bodyN {E : Env} (hE : E.Ok) {K : Nat} {F : Func} (hF : E.fn K = some F) {code : Code} (hb : F.body = some code) {args : List Value} {nt : Nat} (hnt : F.ntmps = nt) {rs : List ResultVar} (hrs : F.results.toList = rs) (hn : (Nat.ble args.length nt && Nat.ble nt 4000) = true) {σ : St} (hσ : argS args 0 = σ)
    {h : Heap} {c : Nat} {R : Value → Heap → Nat → Prop}
    (hx : XQ E nt c code σ h c (fun e σ h' c' => (∀ i, e ≠ .exit i) ∧ ∃ v, resOf E nt (trS nt σ) h' rs = some v ∧ R v h' c')) : KC E K args h c R := by
  subst hnt; subst hrs; subst hσ
  exact KC.body hE hF hb hn hx

def SubI (σ : St) : St → Prop
  | [] => True
  | (i, v) :: l => lookS σ i = some v ∧ SubI σ l

theorem SubI.mem {σ : St} : ∀ {σ' : St}, SubI σ σ' → ∀ i v, (i, v) ∈ σ' → (i, v) ∈ σ
  | [], _, _, _, hm => by cases hm
  | (_, _) :: _, hs, _, _, hm => by
    rcases List.mem_cons.1 hm with e | e
    · cases e; exact lookS_mem hs.1
    · exact SubI.mem hs.2 _ _ e

/-- Slots are forgotten. -/
theorem XQ.drop {E : Env} {nt k : Nat} {code : Code} {σ σ' : St} {h : Heap} {c : Nat} {Q : QP} (hs : SubI σ σ') (hx : XQ E nt k code σ' h c Q) : XQ E nt k code σ h c Q := XQ.weak hs.mem (fun _ _ q => q) hx

theorem XQ.sub {E : Env} {nt k : Nat} {code : Code} {σ : St} {h : Heap} {c : Nat} {Q Q' : QP} (hq : ∀ e σ h c, Q e σ h c → ∃ σ', (∀ i v, (i, v) ∈ σ' → (i, v) ∈ σ) ∧ Q' e σ' h c) (hx : XQ E nt k code σ h c Q) : XQ E nt k code σ h c Q' := by
  intro B ρ a w h1 h2 h3 h4 h5 h6 h7
  refine wp_mono (hx B ρ a w h1 h2 h3 h4 h5 h6 h7) ?_
  rintro e a' w' ⟨e, σ, h, c, ρ', q1, q2, q3, q4, q5, q6, q7, q8⟩
  obtain ⟨σ', s1, s2⟩ := hq _ _ _ _ q8
  exact ⟨e, σ', h, c, ρ', q1, q2, ⟨q3.1, q3.2.1, fun i v hm => q3.2.2 i v (s1 i v hm)⟩, q4, q5, q6, q7, s2⟩

/-- Ways that meet again at the end. -/
theorem XQ.meetC {E : Env} {nt k : Nat} {code : Code} {σ σ' : St} {h h' : Heap} {c c' : Nat} {Q : QP} (hq : Q .normal σ' h' c') (hx : XQ E nt k code σ h c (fun e σ1 h1 c1 => e = .normal ∧ SubI σ1 σ' ∧ (h1, c1) = (h', c'))) : XQ E nt k code σ h c Q := by
  refine XQ.sub ?_ hx
  rintro e σ1 h1 c1 ⟨rfl, hs, hq2⟩
  cases hq2
  exact ⟨σ', hs.mem, hq⟩

/-- One operation that reads, by an equation, ahead of the operations that write. -/
theorem XS.rd {E : Env} (hE : E.Ok) {nt k : Nat} {ops : Array Oper} {m j : Nat} (hi : Nat.ble (j + 1) m = true) (live : List Nat) {σ σ' : St} {h : Heap} {c : Nat} {v : Value} {Q : QP} (hl : live.all (fun i => Nat.blt i nt) = true)
    (hv : insV (headI ((gsOf E nt ops).drop j) (trS nt σ)) (trS nt σ) h = some v) (hσ : readS (putX (insD (headI ((gsOf E nt ops).drop j) (trS nt σ))) v (trS nt σ)) live = σ')
    (hx : XS E nt k ops m (j + 1) σ' h c Q) : XS E nt k ops m j σ h c Q := by
  refine XS.step hE 1 hi live (σ' := σ') hl ?_ hx
  rw [qops_rd hv, ← hσ]
  rfl

/-! ### A string over a row of bytes -/
def bytesB (xs : List Int) : Bool := xs.all (fun n => decide (0 ≤ n) && decide (n < 256))
def strI (xs : List Int) : ByteArray := ⟨(xs.map fun n => n.toNat.toUInt8).toArray⟩

theorem bytesOf_row : ∀ (xs : List Int), bytesB xs = true → bytesOf (rowC (encI .u8) xs) = some (xs.map fun n => n.toNat.toUInt8)
  | [], _ => rfl
  | n :: xs, h => by
    simp only [bytesB, List.all_cons, Bool.and_eq_true, decide_eq_true_eq] at h
    obtain ⟨⟨h0, h1⟩, h2⟩ := h
    obtain ⟨m, rfl⟩ : ∃ m : Nat, n = m := ⟨n.toNat, by omega⟩
    have ih := bytesOf_row xs h2
    have e : rowC (encI .u8) ((m : Int) :: xs) = .int .u8 (.ofNat m) :: rowC (encI .u8) xs := rfl
    have hb : Nat.blt m 256 = true := by simp only [Nat.blt_eq]; omega
    rw [e]
    simp only [bytesOf, hb, ih]
    rfl

theorem v_sdata {g : Ins} {d : Option (List Bool)} {x : Src} {t : Tr} {h : Heap} (hI : g = .rd d (rSliceData x)) {b o len cap : Nat} (hx : ev t x = .slice (some ⟨b, o, none⟩) len cap) (hc : decide (0 < cap) = true) : insV g t h = some (.pointer (some ⟨b, o, none⟩)) := by
  subst hI
  have hc := of_decide_eq_true hc
  cases cap with
  | zero => omega
  | succ n => simp only [insV, rSliceData, hx]

/-- unsafe.String over bytes of the type e. -/
noncomputable def eUStr (e : TypeId) (x y : Src) : EF := fun tm h c => match eUnsafeString x y tm h c with
  | some r => match ev tm x with
    | .pointer (some a) => match hget h a.block with
      | some (.cells _ _ e' _) => match Nat.beq e' e with
        | true => some r
        | false => none
      | _ => none
    | _ => some r
  | none => none

theorem e_ustr {g : Ins} {d : Option (List Bool)} {e : TypeId} {x y : Src} {t : Tr} {h h' : Heap} {c : Nat} (hI : g = .ef d (eUStr e x y)) {b n : Nat} (hx : ev t x = .pointer (some ⟨b, 0, none⟩)) (hy : ev t y = .int .i64 (Int.ofNat n)) {xs : List Int} {es : Nat}
    (hg : hget h b = some (.cells (rowC (encI .u8) xs) 0 e es)) (hn : n = xs.length) (h0 : decide (0 < n) = true) (h1 : decide (n ≤ 1000000000) = true) (hb : bytesB xs = true) (hh : hset h b (.cells (rowC (encI .u8) xs) (Nat.max 0 (0 + n)) e es) = h') :
    insE g t h c = some (.string (strI xs), h', c) := by
  subst hI
  subst hn
  have h0 := of_decide_eq_true h0
  have h1 := of_decide_eq_true h1
  obtain ⟨m, hm⟩ : ∃ m, xs.length = m + 1 := ⟨xs.length - 1, by omega⟩
  have hl := rowC_length (encI_ok .u8) xs
  have q1 : Nat.ble (0 + (m + 1)) (rowC (encI .u8) xs).length = true := by rw [Nat.ble_eq]; omega
  have q2 : Nat.ble m 1000000000 = true := by rw [Nat.ble_eq]; omega
  have q3 : (List.drop 0 (rowC (encI .u8) xs)).take (m + 1) = rowC (encI .u8) xs := by
    rw [List.drop_zero]; exact List.take_of_length_le (by omega)
  have q4 : Nat.beq e e = true := Nat.beq_refl e
  rw [hm] at hy hh
  simp only [insE, eUStr, eUnsafeString, hx, hy, hg, q1, q2, q3, q4, bytesOf_row xs hb, Bool.and_self, hh]
  rfl

/-! Shifts and bits, with open numbers. -/
theorem XL.conv' {E : Env} {nt k n : Nat} {code : Code} {σ σ' : St} {h h' : Heap} {c c' : Nat} {Q : QP} (e : (σ, h, c) = (σ', h', c')) (hx : XL E nt k n code σ' h' c' Q) : XL E nt k n code σ h c Q := by cases e; exact hx
#print axioms KC.bodyN
end Go.Xm
