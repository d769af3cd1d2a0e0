/- Whole numbers as floats against 1.0, 2.0 and 3.0: the same just where the numbers are. -/
import Derived.Test.YtbocbaakknkfiaaNf
import Derived.WalkLawsBesides
set_option linter.unusedVariables false
set_option linter.unusedSimpArgs false
namespace Go.Proofs.Ytbocbaakknkfiaa
open Ieee

def B52 : Nat := 4503599627370496
theorem binade_eq : double.binade = B52 := by decide
theorem sw_eq : double.signWeight = 2048 * B52 := by decide
theorem inf_eq : double.infRung = 2047 * B52 := by decide
theorem lp_eq : double.leastPlace = -1074 := by decide
/-- The word of 1.0, of 2.0, of 3.0. -/
def fl (k : Int) : Nat := if k = 1 then 4607182418800017408 else if k = 2 then 4611686018427387904 else 4613937818241073152
theorem read_fl (k : Int) (h : 1 ≤ k) (h3 : k ≤ 3) : double.read (fl k) = .number false (if k = 3 then B52 + B52 / 2 else B52) (if k = 1 then -52 else -51) := by
  have : k = 1 ∨ k = 2 ∨ k = 3 := by omega
  rcases this with rfl | rfl | rfl <;> decide
theorem log2_ge (m : Nat) (h : 4 ≤ m) : 2 ≤ m.log2 := (Nat.le_log2 (by omega)).2 (by omega)
theorem cut_low (n drop : Nat) (neg : Bool) : n / (1 <<< min drop (n.log2 + 2)) ≤ Toward.even.cut neg n drop := by
  unfold Toward.cut
  dsimp only
  omega
theorem kept_ge (m : Nat) (h : 1 ≤ m) (neg : Bool) (a b : Nat) (hab : (a = 52 - m.log2 ∧ b = 0 ∧ m.log2 ≤ 52) ∨ (a = 0 ∧ b = m.log2 - 52 ∧ 52 ≤ m.log2)) :
    B52 ≤ Toward.even.cut neg (m <<< a) b := by
  refine Nat.le_trans ?_ (cut_low _ _ _)
  have hm : 2 ^ m.log2 ≤ m := Nat.log2_self_le (by omega)
  rcases hab with ⟨rfl, rfl, hl⟩ | ⟨rfl, rfl, hl⟩
  · have e0 : min 0 ((m <<< (52 - m.log2)).log2 + 2) = 0 := by omega
    rw [e0, Nat.shiftLeft_zero, Nat.div_one, Nat.shiftLeft_eq]
    have : 2 ^ m.log2 * 2 ^ (52 - m.log2) ≤ m * 2 ^ (52 - m.log2) := Nat.mul_le_mul_right _ hm
    rw [← Nat.pow_add, show m.log2 + (52 - m.log2) = 52 by omega] at this
    exact this
  · rw [Nat.shiftLeft_zero]
    have e0 : min (m.log2 - 52) (m.log2 + 2) = m.log2 - 52 := by omega
    rw [e0, Nat.shiftLeft_eq, Nat.one_mul, Nat.le_div_iff_mul_le (Nat.two_pow_pos _)]
    have : B52 * 2 ^ (m.log2 - 52) = 2 ^ m.log2 := by
      rw [show B52 = 2 ^ 52 from by decide, ← Nat.pow_add, show 52 + (m.log2 - 52) = m.log2 by omega]
    rw [this]; exact hm
/-- The word of a number: its rung is at least that of its binade. -/
theorem nearest_rung (neg : Bool) (m : Nat) (h : 1 ≤ m) (hb : m.log2 ≤ 900) : ∃ r, double.nearest neg m 0 = double.word neg r ∧ (m.log2 + 1023) * B52 ≤ r ∧ r ≤ 2047 * B52 := by
  unfold Format.nearest
  rw [if_neg (by omega)]
  refine ⟨_, rfl, ?_, by rw [inf_eq]; exact Nat.min_le_right _ _⟩
  rw [lp_eq, binade_eq, inf_eq, show ((double.fractionBits : Nat) : Int) = 52 from rfl]
  have e1 : max ((0 : Int) + (m.log2 : Nat) - 52) (-1074) = (m.log2 : Int) - 52 := by omega
  rw [e1]
  have hk := kept_ge m h neg (0 - ((m.log2 : Int) - 52)).toNat ((m.log2 : Int) - 52 - 0).toNat (by omega)
  have e2 : ((m.log2 : Int) - 52 - -1074).toNat = m.log2 + 1022 := by omega
  rw [e2]
  refine Nat.le_min.2 ⟨?_, Nat.mul_le_mul_right _ (by omega)⟩
  rw [show m.log2 + 1023 = m.log2 + 1022 + 1 from rfl, Nat.add_mul, Nat.one_mul]
  omega
theorem read_word (neg : Bool) (r : Nat) (h : B52 ≤ r) (h2 : r ≤ 2047 * B52) :
    double.read (double.word neg r) = .infinity neg ∨ ∃ m, B52 ≤ m ∧ double.read (double.word neg r) = .number neg m (-1075 + (r / B52 : Nat)) := by
  have hB : B52 = 4503599627370496 := rfl
  have hw : double.word neg r = (if neg then 2048 * B52 + r else r) := by unfold Format.word; rw [sw_eq]
  have h1 : double.word neg r / double.signWeight % 2 = (if neg then 1 else 0) := by
    rw [hw, sw_eq]; cases neg
    · simp only [Bool.false_eq_true, if_false]; rw [Nat.div_eq_of_lt (by omega)]
    · simp only [if_true]; rw [Nat.add_div_left _ (by omega), Nat.div_eq_of_lt (by omega)]
  have h3 : double.word neg r % double.signWeight = r := by
    rw [hw, sw_eq]; cases neg
    · simp only [Bool.false_eq_true, if_false]; exact Nat.mod_eq_of_lt (by omega)
    · simp only [if_true]; rw [Nat.add_mod_left]; exact Nat.mod_eq_of_lt (by omega)
  unfold Format.read
  dsimp only
  rw [h1, h3, binade_eq, inf_eq, lp_eq, if_neg (by omega)]
  have hn : ((if neg = true then 1 else 0) == 1) = neg := by cases neg <;> rfl
  rw [hn]
  by_cases hi : r < 2047 * B52
  · right
    rw [if_pos hi]
    refine ⟨B52 + r % B52, Nat.le_add_right _ _, ?_⟩
    have : 1 ≤ r / B52 := (Nat.le_div_iff_mul_le (by omega)).2 (by omega)
    congr 1
    omega
  · left
    rw [if_neg hi, if_pos (by omega)]
theorem order_far (neg : Bool) (r : Nat) (k : Int) (h : B52 ≤ r) (h2 : r ≤ 2047 * B52) (hk : 1 ≤ k ∧ k ≤ 3) (hr : neg = true ∨ 1025 * B52 ≤ r) :
    Go.Op.floatEq .f64 (double.word neg r) (fl k) = false := by
  have hB : B52 = 4503599627370496 := rfl
  unfold Go.Op.floatEq
  show (double.order (double.word neg r) (fl k) == some .eq) = false
  unfold Format.order
  rw [read_fl k hk.1 hk.2]
  rcases read_word neg r h h2 with e | ⟨m, hm, e⟩
  · rw [e]; cases neg <;> rfl
  · rw [e]
    generalize hM : (if k = 3 then B52 + B52 / 2 else B52) = M
    generalize hJ : (if k = 1 then (-52 : Int) else -51) = J
    have hM1 : B52 ≤ M := by split at hM <;> omega
    unfold Datum.order
    dsimp only
    have hs2 : signed false M (J - min (-1075 + ((r / B52 : Nat) : Int)) J).toNat = ((M * 2 ^ (J - min (-1075 + ((r / B52 : Nat) : Int)) J).toNat : Nat) : Int) := by
      unfold signed; simp [Nat.shiftLeft_eq]
    rw [hs2]
    cases neg with
    | true =>
      have hs1 : ∀ x : Nat, signed true m x = -((m * 2 ^ x : Nat) : Int) := by intro x; unfold signed; simp [Nat.shiftLeft_eq]
      rw [hs1]
      have p1 : 0 < m * 2 ^ (-1075 + ((r / B52 : Nat) : Int) - min (-1075 + ((r / B52 : Nat) : Int)) J).toNat := Nat.mul_pos (by omega) (Nat.two_pow_pos _)
      have : compare (-((m * 2 ^ (-1075 + ((r / B52 : Nat) : Int) - min (-1075 + ((r / B52 : Nat) : Int)) J).toNat : Nat) : Int)) ((M * 2 ^ (J - min (-1075 + ((r / B52 : Nat) : Int)) J).toNat : Nat) : Int) = .lt := by
        rw [Int.compare_eq_lt]; omega
      rw [this]; rfl
    | false =>
      have hr' : 1025 * B52 ≤ r := by simpa using hr
      have hq : 1025 ≤ r / B52 := (Nat.le_div_iff_mul_le (by omega)).2 (by omega)
      have hmin : min (-1075 + ((r / B52 : Nat) : Int)) J = J := by split at hJ <;> omega
      rw [hmin]
      have hs1 : ∀ x : Nat, signed false m x = ((m * 2 ^ x : Nat) : Int) := by intro x; unfold signed; simp [Nat.shiftLeft_eq]
      rw [hs1]
      have e0 : (J - J).toNat = 0 := by omega
      rw [e0, Nat.pow_zero, Nat.mul_one]
      have hx : 2 ^ (if k = 1 then 2 else 1) ≤ 2 ^ (-1075 + ((r / B52 : Nat) : Int) - J).toNat := Nat.pow_le_pow_right (by omega) (by split at hJ <;> simp_all <;> omega)
      have hx2 : m * 2 ^ (if k = 1 then 2 else 1) ≤ m * 2 ^ (-1075 + ((r / B52 : Nat) : Int) - J).toNat := Nat.mul_le_mul_left _ hx
      have hx3 : M < m * 2 ^ (if k = 1 then 2 else 1) := by
        by_cases h1 : k = 1
        · subst h1; simp at hM ⊢; omega
        · rw [if_neg h1]; split at hM <;> omega
      have : compare ((m * 2 ^ (-1075 + ((r / B52 : Nat) : Int) - J).toNat : Nat) : Int) (M : Int) = .gt := by
        rw [Int.compare_eq_gt]; omega
      rw [this]; rfl
/-- A whole number's float is 1.0 (2.0, 3.0) just where it is 1 (2, 3). -/
theorem feq (a k : Int) (ha : -9223372036854775808 ≤ a) (ha2 : a ≤ 9223372036854775807) (hk : 1 ≤ k ∧ k ≤ 3) : Go.Op.floatEq .f64 (Go.FloatKind.f64.nearest a) (fl k) = decide (a = k) := by
  by_cases h0 : 0 ≤ a ∧ a ≤ 3
  · have h1 : a = 0 ∨ a = 1 ∨ a = 2 ∨ a = 3 := by omega
    have h2 : k = 1 ∨ k = 2 ∨ k = 3 := by omega
    rcases h1 with rfl | rfl | rfl | rfl <;> rcases h2 with rfl | rfl | rfl <;> decide
  · have hne : decide (a = k) = false := by simp; omega
    rw [hne]
    unfold Go.FloatKind.nearest Go.FloatKind.encode
    show Go.Op.floatEq .f64 (double.nearest (decide (a < 0)) a.natAbs 0) (fl k) = false
    have hl : a.natAbs.log2 ≤ 900 := by
      have : a.natAbs.log2 < 64 := (Nat.log2_lt (by omega)).2 (by omega)
      omega
    obtain ⟨r, e, hr1, hr2⟩ := nearest_rung (decide (a < 0)) a.natAbs (by omega) hl
    rw [e]
    have hB : B52 = 4503599627370496 := rfl
    refine order_far _ _ _ (Nat.le_trans ?_ hr1) hr2 hk ?_
    · rw [Nat.add_mul]; omega
    · by_cases hn : a < 0
      · left; simpa using hn
      · right
        have : 2 ≤ a.natAbs.log2 := log2_ge _ (by omega)
        exact Nat.le_trans (Nat.mul_le_mul_right _ (by omega)) hr1
end Go.Proofs.Ytbocbaakknkfiaa
