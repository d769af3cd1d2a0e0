/- Plain laws on the words of a sum: a turn of a word, eight turns, the table of all bytes' words. -/
import Derived.Laws.BitsLemmas
import Derived.Test.YtabejlldemhfaaaWWords
set_option linter.unusedVariables false
set_option linter.unusedSimpArgs false
namespace Go.Proofs.Ytabejlldemhfaaa
open Go.RowKit

def T (x : Nat) : Nat := if x % 2 = 1 then (x / 2) ^^^ 3988292384 else x / 2
def Tn : Nat → Nat → Nat
  | 0, x => x
  | k + 1, x => Tn k (T x)
theorem Tn_succ (k x : Nat) : Tn (k + 1) x = T (Tn k x) := by
  induction k generalizing x with
  | zero => rfl
  | succ k ih => rw [Tn, ih, Tn]
theorem T_lt {x : Nat} (h : x < 4294967296) : T x < 4294967296 := by
  unfold T
  split
  · exact Nat.xor_lt_two_pow (n := 32) (by omega) (by omega)
  · omega
theorem Tn_lt (k : Nat) {x : Nat} (h : x < 4294967296) : Tn k x < 4294967296 := by
  induction k generalizing x with
  | zero => exact h
  | succ k ih => exact ih (T_lt h)
/-- The word behind a byte. -/
def stepN (w b : Nat) : Nat := Tn 8 (w ^^^ b)
def cellsAt (k : Nat) : Array Value := (Array.range 256).map fun j => .int .u32 (if j < k then ((Tn 8 j : Nat) : Int) else 0)
theorem cellsAt_size (k : Nat) : (cellsAt k).size = 256 := by simp [cellsAt]
theorem cellsAt_zero : cellsAt 0 = Array.replicate 256 (.int .u32 0) := by
  apply Array.ext_getElem?
  intro i
  simp [cellsAt, Array.getElem?_replicate, Array.getElem?_range]
theorem cellsAt_at (k j : Nat) (h : j < 256) : (cellsAt k)[j]? = some (.int .u32 (if j < k then ((Tn 8 j : Nat) : Int) else 0)) := by
  simp [cellsAt, h]
theorem cellsAt_set (k : Nat) (h : k < 256) : (cellsAt k).setIfInBounds k (.int .u32 ((Tn 8 k : Nat) : Int)) = cellsAt (k + 1) := by
  apply Array.ext_getElem?
  intro i
  rw [Array.getElem?_setIfInBounds]
  by_cases hi : i < 256
  · rw [cellsAt_at _ _ hi, cellsAt_at _ _ hi]
    by_cases e : k = i
    · subst e
      simp [cellsAt_size, h]
    · rw [if_neg e]
      by_cases h2 : i < k
      · rw [if_pos h2, if_pos (by omega)]
      · rw [if_neg h2, if_neg (by omega)]
  · have h1 : (cellsAt k)[i]? = none := by simp [cellsAt_size]; omega
    have h2 : (cellsAt (k + 1))[i]? = none := by simp [cellsAt_size]; omega
    rw [if_neg (by omega), h1, h2]
theorem cellsAt_one (k : Nat) : (cellsAt k).all (·.oneCell') = true := by
  rw [Array.all_eq_true]
  intro i hi
  simp [cellsAt, Value.oneCell']
theorem wraps_u32 (n : Int) (h₀ : 0 ≤ n) (h₁ : n < 2 ^ 32) : IntKind.u32.wrap n = n := by rw [IntKind.wrap_u32]; omega
theorem bits_and_one (x : Nat) (h : x < 4294967296) : bits .and .u32 (x : Int) 1 = ((x % 2 : Nat) : Int) := by
  have := bits_mask .u32 32 (by decide) wraps_u32 1 (by decide) (x : Int) (by omega) (by omega)
  simpa using this
theorem bits_xor (k : IntKind) (j : Nat) (hj : j ≤ k.bits) (hk : ∀ n : Int, 0 ≤ n → n < 2 ^ j → k.wrap n = n) (a b : Nat) (ha : a < 2 ^ j) (hb : b < 2 ^ j) :
    bits .xor k a b = ((a ^^^ b : Nat) : Int) := by
  have hp : 2 ^ j ≤ 2 ^ k.bits := Nat.pow_le_pow_right (by decide) hj
  have ha' : a % 2 ^ k.bits = a := Nat.mod_eq_of_lt (Nat.lt_of_lt_of_le ha hp)
  have hb' : b % 2 ^ k.bits = b := Nat.mod_eq_of_lt (Nat.lt_of_lt_of_le hb hp)
  have cast : ∀ n : Nat, n < 2 ^ j → ((n : Nat) : Int) < 2 ^ j := fun n h => by exact_mod_cast h
  simp only [bits, BitVec.ofInt_natCast, BitVec.toNat_xor, BitVec.toNat_ofNat, ha', hb']
  exact hk _ (Int.natCast_nonneg _) (cast _ (Nat.xor_lt_two_pow ha hb))
theorem bits_xor_nat (x y : Nat) (h : x < 4294967296) (h' : y < 4294967296) : bits .xor .u32 (x : Int) (y : Int) = ((x ^^^ y : Nat) : Int) :=
  bits_xor .u32 32 (by decide) wraps_u32 x y h h'
theorem bits_xor_u8 (x y : Nat) (h : x < 256) (h' : y < 256) : bits .xor .u8 (x : Int) (y : Int) = ((x ^^^ y : Nat) : Int) :=
  bits_xor .u8 8 (by decide) wraps_u8 x y h h'
/-! ### A turn is linear -/
theorem T_eq (x : Nat) : T x = (x / 2) ^^^ (if x % 2 = 1 then 3988292384 else 0) := by
  unfold T
  split <;> simp
theorem T_xor (x y : Nat) : T (x ^^^ y) = T x ^^^ T y := by
  rw [T_eq, T_eq, T_eq]
  have hd : (x ^^^ y) / 2 = x / 2 ^^^ y / 2 := by
    apply Nat.eq_of_testBit_eq
    intro i
    simp [Nat.testBit_div_two]
  have hm : (x ^^^ y) % 2 = (x % 2 + y % 2) % 2 := by
    have h := Nat.testBit_xor x y 0
    simp only [Nat.testBit_zero] at h
    rcases Nat.mod_two_eq_zero_or_one x with h1 | h1 <;> rcases Nat.mod_two_eq_zero_or_one y with h2 | h2 <;> rcases Nat.mod_two_eq_zero_or_one (x ^^^ y) with h3 | h3 <;> simp [h1, h2, h3] at h ⊢
  rw [hd, hm]
  rcases Nat.mod_two_eq_zero_or_one x with h1 | h1 <;> rcases Nat.mod_two_eq_zero_or_one y with h2 | h2 <;> simp only [h1, h2]
  · simp
  · simp [Nat.xor_assoc]
  · simp only [Nat.reduceAdd, Nat.reduceMod, if_true, if_false, Nat.zero_ne_one, Nat.xor_zero]
    rw [Nat.xor_assoc, Nat.xor_comm (y / 2), ← Nat.xor_assoc]
  · simp only [Nat.reduceAdd, Nat.reduceMod, if_true, if_false, Nat.zero_ne_one, Nat.xor_zero]
    rw [Nat.xor_assoc, ← Nat.xor_assoc 3988292384, Nat.xor_comm 3988292384 (y / 2), Nat.xor_assoc (y / 2), Nat.xor_self, Nat.xor_zero]
theorem Tn_xor (k x y : Nat) : Tn k (x ^^^ y) = Tn k x ^^^ Tn k y := by
  induction k generalizing x y with
  | zero => rfl
  | succ k ih => rw [Tn, T_xor, ih]; rfl
theorem Tn_shift (k c : Nat) : Tn k (c * 2 ^ k) = c := by
  induction k generalizing c with
  | zero => simp [Tn]
  | succ k ih =>
    rw [Tn_succ, show c * 2 ^ (k + 1) = (c * 2) * 2 ^ k by rw [Nat.pow_succ, Nat.mul_comm (2 ^ k) 2, Nat.mul_assoc], ih]
    unfold T
    rw [if_neg (by omega)]
    omega
theorem split_256 (y : Nat) : y = (y % 256) ^^^ (y / 256 * 2 ^ 8) := by
  have h := Nat.two_pow_add_eq_or_of_lt (i := 8) (b := y % 256) (by omega) (y / 256)
  have h2 : (2 ^ 8 * (y / 256) ||| y % 256) = (y % 256) ^^^ (y / 256 * 2 ^ 8) := by
    apply Nat.eq_of_testBit_eq
    intro i
    rw [Nat.testBit_or, Nat.testBit_xor, Nat.mul_comm]
    by_cases hi : i < 8
    · have : (y / 256 * 2 ^ 8).testBit i = false := by rw [Nat.testBit_mul_two_pow]; simp; omega
      rw [this]; simp
    · have : (y % 256).testBit i = false := by
        refine Nat.testBit_lt_two_pow (Nat.lt_of_lt_of_le (m := 2 ^ 8) (by omega) (Nat.pow_le_pow_right (by omega) (by omega)))
      rw [this]; simp
  rw [← h2, ← h]
  omega
/-- The word behind a byte, out of the table. -/
theorem step_table (y b : Nat) : Tn 8 (y % 256 ^^^ b) ^^^ (y / 256) = stepN y b := by
  have h1 : y ^^^ b = (y % 256 ^^^ b) ^^^ (y / 256 * 2 ^ 8) := by
    rw [Nat.xor_assoc, Nat.xor_comm b, ← Nat.xor_assoc, ← split_256]
  unfold stepN
  have h2 := Tn_shift 8 (y / 256)
  rw [h1, Tn_xor 8 (y % 256 ^^^ b), h2]
end Go.Proofs.Ytabejlldemhfaaa
