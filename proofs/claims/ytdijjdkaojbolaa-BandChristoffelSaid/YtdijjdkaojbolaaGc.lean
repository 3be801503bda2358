/- Words that are spelled by the bits of a number. Conditions: none. -/
import Derived.Test.YtdijjdkaojbolaaGb
namespace Go.Xm
set_option linter.unusedVariables false
set_option linter.unusedSimpArgs false

/-- Bit i of a number. -/
def bitV (b : Int) (i : Int) : Int := andV .u16 (shV false .u16 b i) 1

theorem bitV_01 (b i : Int) : bitV b i = 0 ∨ bitV b i = 1 := by
  unfold bitV andV
  generalize BitVec.ofInt IntKind.u16.bits (shV false .u16 b i) = x
  have h1 : (BitVec.ofInt IntKind.u16.bits 1).toNat = 1 := rfl
  rw [BitVec.toNat_and, h1, Nat.and_one_is_mod]
  rcases Nat.mod_two_eq_zero_or_one x.toNat with h | h <;> rw [h]
  · exact .inl rfl
  · exact .inr rfl

/-- The letter of bit i. -/
def letter (b : Int) (i : Int) : UInt8 := cond (bitV b i == 0) 97 98

def spL (b : Int) : Nat → List UInt8
  | 0 => []
  | k + 1 => letter b k :: spL b k

theorem spL_length (b : Int) : ∀ k, (spL b k).length = k
  | 0 => rfl
  | k + 1 => by simp [spL, spL_length b k]

theorem letter_cut (b i : Int) : cutOk (bitV b i) ((bs [97, 98]).size : Int) (bs [97, 98]).size = true ∧ cutOk 0 1 (cutT (bs [97, 98]) (bitV b i) ((bs [97, 98]).size : Int)).size = true ∧
    cutT (cutT (bs [97, 98]) (bitV b i) ((bs [97, 98]).size : Int)) 0 1 = bs [letter b i] := by
  unfold letter
  rcases bitV_01 b i with h | h <;> rw [h] <;> exact ⟨rfl, rfl, rfl⟩

theorem f37_1_eq (m : Nat) (b : Int) : ∀ (k fuel : Nat) (s : ByteArray), k ≤ 16 → k < fuel → s.size + k ≤ 1000 → f37_1 m fuel b s ((k : Int) - 1) = some ⟨⟨s.data.toList ++ spL b k⟩⟩
  | 0, fuel + 1, s, _, _, _ => by
    have : ¬ (((0 : Nat) : Int) - 1 ≥ 0) := by omega
    simp only [f37_1, decide_eq_false this, cond_false, spL, List.append_nil]
  | k + 1, fuel + 1, s, hk, h2, hs => by
    have q1 : (((k + 1 : Nat) : Int) - 1 ≥ 0) := by omega
    have q1' : (0 ≤ ((k + 1 : Nat) : Int) - 1) := q1
    have q2 : ((k + 1 : Nat) : Int) - 1 = (k : Int) := by omega
    rw [q2] at q1 q1' ⊢
    obtain ⟨l1, l2, l3⟩ := letter_cut b (k : Int)
    have q3 : Nat.ble (s.size + (bs [letter b (k : Int)]).size) 9223372036854775807 = true := by
      have : (bs [letter b (k : Int)]).size = 1 := rfl
      rw [Nat.ble_eq, this]; omega
    have q4 : w64 ((k : Int) - 1) = (k : Int) - 1 := w64_id (by omega) (by omega)
    have hsz : (catS s (bs [letter b (k : Int)])).size = s.size + 1 := catS_len _ _
    have ih := f37_1_eq m b k fuel (catS s (bs [letter b (k : Int)])) (by omega) (by omega) (by omega)
    have e : andV .u16 (shV false .u16 b (k : Int)) 1 = bitV b (k : Int) := rfl
    simp only [f37_1, e, decide_eq_true q1, decide_eq_true q1', l1, l2, l3, q3, q4, cond_true, ih]
    show some (ByteArray.mk ⟨(s.data.toList ++ [letter b (k : Int)]) ++ spL b k⟩) = _
    rw [List.append_assoc]
    rfl
  | _, 0, _, _, h, _ => by omega

def spl (n : Nat) (b : Int) : ByteArray := ⟨⟨spL b n⟩⟩

theorem f37_eq (m n : Nat) (b : Int) (hn : n ≤ 16) (hm : n < m) : f37 m n b = some (spl n b) := by
  have r := f37_1_eq m b n m (bs []) hn hm (by show 0 + n ≤ 1000; omega)
  have q4 : w64 ((n : Int) - 1) = (n : Int) - 1 := w64_id (by omega) (by omega)
  unfold f37
  rw [q4, r]
  rfl

theorem spl_size (n : Nat) (b : Int) : (spl n b).size = n := spL_length b n

theorem spL_get (b : Int) : ∀ (k i : Nat), i < k → (spL b k).getD i 0 = letter b ((k - 1 - i : Nat) : Int)
  | 0, i, h => by omega
  | k + 1, 0, _ => by
    have e : k + 1 - 1 - 0 = k := by omega
    rw [e]; rfl
  | k + 1, i + 1, h => by
    have e : k + 1 - 1 - (i + 1) = k - 1 - i := by omega
    rw [e, ← spL_get b k i (by omega)]
    rfl

theorem spl_byte (n : Nat) (b : Int) (i : Nat) (h : i < n) : byteAt (spl n b) (i : Int) = ((letter b ((n - 1 - i : Nat) : Int)).toNat : Int) := by
  unfold byteAt
  rw [Int.toNat_natCast]
  show (((spL b n).getD i 0).toNat : Int) = _
  rw [spL_get b n i h]

theorem letter_ab (b i : Int) : ((letter b i).toNat : Int) = 97 ∨ ((letter b i).toNat : Int) = 98 := by
  unfold letter
  cases (bitV b i == 0)
  · exact .inr rfl
  · exact .inl rfl

theorem spl_chk (n : Nat) (b : Int) (h0 : 0 < n) (hn : n ≤ 16) : chk (spl n b) = 0 := by
  have hs := spl_size n b
  unfold chk
  rw [if_neg (by omega), if_neg (by omega)]
  have : fnd (badAt (spl n b)) (spl n b).size 0 = none := by
    refine fnd_none _ _ (fun i _ hi => ?_)
    unfold badAt
    rw [spl_byte n b i (by omega)]
    rcases letter_ab b ((n - 1 - i : Nat) : Int) with h | h <;> rw [h] <;> rfl
  rw [this]

end Go.Xm
