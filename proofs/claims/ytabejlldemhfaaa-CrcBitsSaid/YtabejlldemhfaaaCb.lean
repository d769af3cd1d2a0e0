/- Plain law: texts that differ within 32 bits have unlike sums. -/
import Derived.Test.YtabejlldemhfaaaCw4
set_option linter.unusedVariables false
set_option linter.unusedSimpArgs false
namespace Go.Proofs.Ytabejlldemhfaaa
open Go.RowKit

/-- The bytes as one number, the first the lowest. -/
def val : List UInt8 → Nat
  | [] => 0
  | b :: l => b.toNat + 256 * val l
theorem Tn_add (a b x : Nat) : Tn (a + b) x = Tn a (Tn b x) := by
  induction b generalizing x with
  | zero => rfl
  | succ b ih => rw [← Nat.add_assoc, Tn, ih]; rfl
theorem low_xor {b v : Nat} (h : b < 256) : b + 256 * v = b ^^^ (v * 2 ^ 8) := by
  have := split_256 (b + 256 * v)
  rw [show (b + 256 * v) % 256 = b by omega, show (b + 256 * v) / 256 = v by omega] at this
  exact this
theorem fold_val (l : List UInt8) : ∀ x, foldN x l = Tn (8 * l.length) (x ^^^ val l) := by
  induction l with
  | nil => intro x; simp [foldN, val, Tn]
  | cons b l ih =>
    intro x
    have h1 : foldN x (b :: l) = foldN (stepN x b.toNat) l := rfl
    have h2 := Tn_shift 8 (val l)
    rw [h1, ih, List.length_cons, Nat.mul_add, Nat.mul_one, Tn_add, val, low_xor b.toNat_lt, ← Nat.xor_assoc, Tn_xor 8 (x ^^^ b.toNat), h2]
    rfl
/-- Bit i turned. -/
def flip (l : List UInt8) (i : Nat) : List UInt8 := l.set (i / 8) (UInt8.ofNat ((l.getD (i / 8) 0).toNat ^^^ 2 ^ (i % 8)))
theorem flip_length (l : List UInt8) (i : Nat) : (flip l i).length = l.length := by simp [flip]
theorem pow_mod_lt (i : Nat) : 2 ^ (i % 8) < 256 := by
  have : 2 ^ (i % 8) ≤ 2 ^ 7 := Nat.pow_le_pow_right (by omega) (by omega)
  omega
theorem ofNat_toNat {n : Nat} (h : n < 256) : (UInt8.ofNat n).toNat = n := by
  rw [UInt8.toNat_ofNat']
  omega
theorem val_flip (l : List UInt8) : ∀ i, i < 8 * l.length → val (flip l i) = val l ^^^ 2 ^ i := by
  induction l with
  | nil => intro i h; simp at h
  | cons b l ih =>
    intro i h
    by_cases hi : i < 8
    · have h0 : i / 8 = 0 := by omega
      have h1 : i % 8 = i := by omega
      have hp := pow_mod_lt i
      rw [h1] at hp
      have hx : b.toNat ^^^ 2 ^ i < 256 := Nat.xor_lt_two_pow (n := 8) b.toNat_lt hp
      unfold flip
      rw [h0, h1]
      simp only [List.getD_cons_zero, List.set_cons_zero, val]
      rw [ofNat_toNat hx, low_xor hx, low_xor b.toNat_lt, Nat.xor_assoc, Nat.xor_comm (2 ^ i), ← Nat.xor_assoc]
    · obtain ⟨j, rfl⟩ : ∃ j, i = j + 8 := ⟨i - 8, by omega⟩
      have h0 : (j + 8) / 8 = j / 8 + 1 := by omega
      have h1 : (j + 8) % 8 = j % 8 := by omega
      have := ih j (by simp at h; omega)
      unfold flip at this ⊢
      rw [h0, h1]
      simp only [List.getD_cons_succ, List.set_cons_succ, val]
      rw [this, low_xor b.toNat_lt, low_xor b.toNat_lt, Nat.xor_assoc]
      congr 1
      apply Nat.eq_of_testBit_eq
      intro q
      simp only [Nat.testBit_xor, Nat.testBit_mul_two_pow, Nat.testBit_two_pow]
      by_cases hq : 8 ≤ q
      · simp [hq]
        by_cases e : j = q - 8
        · simp [e]; omega
        · have : ¬ j + 8 = q := by omega
          simp [e, this]
      · have : ¬ j + 8 = q := by omega
        simp [hq, this]
/-- The bytes behind k rounds, from bit 'at_' on. -/
def turned (l : List UInt8) (at_ by_ : Nat) : Nat → List UInt8
  | 0 => l
  | k + 1 => if by_ / 2 ^ k % 2 = 1 then flip (turned l at_ by_ k) (at_ + k) else turned l at_ by_ k
theorem turned_length (l : List UInt8) (at_ by_ k : Nat) : (turned l at_ by_ k).length = l.length := by
  induction k with
  | zero => rfl
  | succ k ih => unfold turned; split <;> simp [flip_length, ih]
theorem mod_succ (y k : Nat) : y % 2 ^ (k + 1) = (y % 2 ^ k) ^^^ (if y / 2 ^ k % 2 = 1 then 2 ^ k else 0) := by
  apply Nat.eq_of_testBit_eq
  intro q
  rw [Nat.testBit_xor, Nat.testBit_mod_two_pow, Nat.testBit_mod_two_pow]
  have hb : (y / 2 ^ k % 2 = 1) ↔ y.testBit k = true := by
    rw [Nat.testBit_eq_decide_div_mod_eq]
    simp
  by_cases h : y / 2 ^ k % 2 = 1
  · rw [if_pos h, Nat.testBit_two_pow]
    have := hb.1 h
    by_cases e : k = q
    · subst e; simp [this]
    · by_cases hq : q < k
      · simp [hq, e, show q < k + 1 by omega]
      · simp [hq, e, show ¬ q < k + 1 by omega]
  · rw [if_neg h]
    have : y.testBit k = false := by
      cases hy : y.testBit k with
      | true => exact absurd (hb.2 hy) h
      | false => rfl
    by_cases e : k = q
    · subst e; simp [this]
    · by_cases hq : q < k
      · simp [hq, show q < k + 1 by omega]
      · simp [hq, show ¬ q < k + 1 by omega]
theorem val_turned (l : List UInt8) (at_ by_ : Nat) : ∀ k, at_ + k ≤ 8 * l.length → val (turned l at_ by_ k) = val l ^^^ ((by_ % 2 ^ k) * 2 ^ at_) := by
  intro k
  induction k with
  | zero => intro _; simp [turned, Nat.mod_one]
  | succ k ih =>
    intro h
    have ih := ih (by omega)
    rw [mod_succ]
    have hd : ∀ a b : Nat, (a ^^^ b) * 2 ^ at_ = a * 2 ^ at_ ^^^ b * 2 ^ at_ := by
      intro a b
      apply Nat.eq_of_testBit_eq
      intro q
      simp only [Nat.testBit_xor, Nat.testBit_mul_two_pow]
      by_cases hq : at_ ≤ q <;> simp [hq]
    unfold turned
    by_cases hb : by_ / 2 ^ k % 2 = 1
    · rw [if_pos hb, if_pos hb, val_flip _ _ (by rw [turned_length]; omega), ih, hd, Nat.xor_assoc, ← Nat.pow_add, Nat.add_comm k]
    · rw [if_neg hb, if_neg hb, ih]
      simp
theorem T_zero {x : Nat} (hx : x < 4294967296) (h : T x = 0) : x = 0 := by
  unfold T at h
  split at h
  · have h1 : x / 2 = 3988292384 := by
      have := congrArg (fun z => z ^^^ 3988292384) h
      simpa [Nat.xor_assoc] using this
    omega
  · omega
theorem Tn_zero (k : Nat) {x : Nat} (hx : x < 4294967296) (h : Tn k x = 0) : x = 0 := by
  induction k generalizing x with
  | zero => exact h
  | succ k ih => exact T_zero hx (ih (T_lt hx) h)
/-- P2.3: texts that differ within 32 bits have unlike sums. -/
theorem sums_unlike (l : List UInt8) (at_ by_ k : Nat) (hk : at_ + k ≤ 8 * l.length) (hk2 : k ≤ 32) (hne : by_ % 2 ^ k ≠ 0) : sumN (turned l at_ by_ k) ≠ sumN l := by
  intro h
  have h1 := foldN_lt (turned l at_ by_ k) (x := 4294967295) (by decide)
  have h2 := foldN_lt l (x := 4294967295) (by decide)
  have h3 : foldN 4294967295 (turned l at_ by_ k) = foldN 4294967295 l := by unfold sumN at h; omega
  rw [fold_val, fold_val, turned_length, val_turned l at_ by_ k hk, ← Nat.xor_assoc, Tn_xor (8 * l.length) (4294967295 ^^^ val l)] at h3
  have h4 : Tn (8 * l.length) ((by_ % 2 ^ k) * 2 ^ at_) = 0 := by
    have := congrArg (fun z => Tn (8 * l.length) (4294967295 ^^^ val l) ^^^ z) h3
    simpa [← Nat.xor_assoc] using this
  have h5 := Tn_shift at_ (by_ % 2 ^ k)
  rw [show 8 * l.length = (8 * l.length - at_) + at_ by omega, Tn_add, h5] at h4
  have h6 : by_ % 2 ^ k < 4294967296 := by
    have h7 := Nat.mod_lt by_ (Nat.two_pow_pos k)
    have h8 : 2 ^ k ≤ 2 ^ 32 := Nat.pow_le_pow_right (by omega) hk2
    omega
  exact hne (Tn_zero _ h6 h4)
end Go.Proofs.Ytabejlldemhfaaa
