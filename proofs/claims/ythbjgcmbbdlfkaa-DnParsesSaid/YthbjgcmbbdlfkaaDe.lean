/- The reference's Parse is ours: plain. -/
import Derived.Test.YthbjgcmbbdlfkaaDc
import Derived.Test.YthbjgcmbbdlfkaaPDnParsesx5
set_option linter.unusedVariables false
set_option linter.unusedSimpArgs false
namespace Go.Proofs.Ythbjgcmbbdlfkaa.PDnParses
open Go.RowKit Go.Shelf Go.Proofs.Ythbjgcmbbdlfkaa Go.Proofs.YthbjgcmbbdlfkaaW.PrintWords Go.Proofs.YthbjgcmbbdlfkaaW.PrintMore Go.Proofs.YthbjgcmbbdlfkaaW.PrintLast

theorem sign_ours (x : Int) : cardcaseref06_sign.f x = some (signB x) := by
  unfold cardcaseref06_sign.f signB
  by_cases a : x = 44
  · subst a; rfl
  by_cases b : x = 43
  · subst b; rfl
  by_cases c : x = 34
  · subst c; rfl
  by_cases d : x = 92
  · subst d; rfl
  by_cases e : x = 60
  · subst e; rfl
  by_cases f : x = 62
  · subst f; rfl
  by_cases g : x = 59
  · subst g; rfl
  have a' : (44 == x) = false := by simpa using Ne.symm a
  have b' : (43 == x) = false := by simpa using Ne.symm b
  have c' : (34 == x) = false := by simpa using Ne.symm c
  have d' : (92 == x) = false := by simpa using Ne.symm d
  have e' : (60 == x) = false := by simpa using Ne.symm e
  have f' : (62 == x) = false := by simpa using Ne.symm f
  have g' : (59 == x) = false := by simpa using Ne.symm g
  rw [if_neg a, if_neg b, if_neg c, if_neg d, if_neg e, if_neg f, if_neg g, a', b', c', d', e', f', g']
  simp only [Bool.false_or]
  rw [show (x == 61) = (61 == x) from Bool.beq_comm]
theorem dj0 (k : Nat) (x : Int) (b : Bool) : cardcaseref06_digit.j0 (k + 1) x b = if b = true then (some (wrap64 ((wrap64 (x)) - 48))) else (if x ≥ 97 then (cardcaseref06_digit.j1 k x (decide (x ≤ 102))) else (cardcaseref06_digit.j1 k x false)) := by
  conv => lhs; unfold cardcaseref06_digit.j0
theorem dj1 (k : Nat) (x : Int) (b : Bool) : cardcaseref06_digit.j1 (k + 1) x b = if b = true then (some (wrap64 ((wrap64 (x)) - 87))) else (if x ≥ 65 then (if x ≤ 70 then (some (wrap64 ((wrap64 (x)) - 55))) else (some (-1))) else (some (-1))) := by
  conv => lhs; unfold cardcaseref06_digit.j1
theorem oj1 (k : Nat) (s : ByteArray) (p y : Int) (b : Bool) : cardcaseref06_one.j1 (k + 1) s p y b = if b = true then (some (0, 0, false)) else ((cardcaseref06_digit.f k y).bind fun t118 => (if 0 ≤ (wrap64 (p + 2)) then (if (wrap64 (p + 2)) < (s.size : Int) then ((cardcaseref06_digit.f k (bt s (wrap64 (p + 2)))).bind fun t119 => (some ((wrap64 ((wrap64 (16 * t118)) + t119)) % 256, 3, true))) else (none)) else (none))) := by
  conv => lhs; unfold cardcaseref06_one.j1
theorem oj0 (k : Nat) (s : ByteArray) (p y : Int) (b : Bool) : cardcaseref06_one.j0 (k + 1) s p y b = if b = true then (some (y, 2, true)) else (if (wrap64 (p + 2)) ≥ (s.size : Int) then (cardcaseref06_one.j1 k s p y true) else ((cardcaseref06_digit.f k y).bind fun t116 => (if t116 < 0 then (cardcaseref06_one.j1 k s p y true) else (if 0 ≤ (wrap64 (p + 2)) then (if (wrap64 (p + 2)) < (s.size : Int) then ((cardcaseref06_digit.f k (bt s (wrap64 (p + 2)))).bind fun t117 => (cardcaseref06_one.j1 k s p y (decide (t117 < 0)))) else (none)) else (none))))) := by
  conv => lhs; unfold cardcaseref06_one.j0
theorem digit_ours (k : Nat) (x : Int) (h0 : 0 ≤ x) (h1 : x < 256) : cardcaseref06_digit.f (k + 1 + 1) x = some (if digitB x < 16 then digitB x else -1) := by
  have w1 : wrap64 (wrap64 x - 48) = x - 48 := by unfold wrap64; omega
  have w2 : wrap64 (wrap64 x - 87) = x - 87 := by unfold wrap64; omega
  have w3 : wrap64 (wrap64 x - 55) = x - 55 := by unfold wrap64; omega
  unfold cardcaseref06_digit.f digitB
  by_cases a : 48 ≤ x ∧ x ≤ 57
  · rw [if_pos a, if_pos a.1, decide_eq_true a.2]
    rw [dj0 (k + 1), if_pos rfl, w1, if_pos (show x - 48 < 16 by omega)]
  · have hj : (if x ≥ 48 then cardcaseref06_digit.j0 (k + 1 + 1) x (decide (x ≤ 57)) else cardcaseref06_digit.j0 (k + 1 + 1) x false) = cardcaseref06_digit.j0 (k + 1 + 1) x false := by
      by_cases c : x ≥ 48
      · rw [if_pos c, decide_eq_false (fun h => a ⟨c, h⟩)]
      · rw [if_neg c]
    rw [hj, if_neg a]
    rw [dj0 (k + 1), if_neg (by simp)]
    by_cases b : 97 ≤ x ∧ x ≤ 102
    · rw [if_pos b, if_pos b.1, decide_eq_true b.2]
      rw [dj1 k, if_pos rfl, w2, if_pos (show x - 87 < 16 by omega)]
    · have hj : (if x ≥ 97 then cardcaseref06_digit.j1 (k + 1) x (decide (x ≤ 102)) else cardcaseref06_digit.j1 (k + 1) x false) = cardcaseref06_digit.j1 (k + 1) x false := by
        by_cases c : x ≥ 97
        · rw [if_pos c, decide_eq_false (fun h => b ⟨c, h⟩)]
        · rw [if_neg c]
      rw [hj, if_neg b]
      rw [dj1 k, if_neg (by simp)]
      by_cases c : 65 ≤ x ∧ x ≤ 70
      · rw [if_pos c, if_pos c.1, if_pos c.2, w3, if_pos (show x - 55 < 16 by omega)]
      · rw [if_neg c, if_neg (show ¬ (16 : Int) < 16 by omega)]
        by_cases d : x ≥ 65
        · rw [if_pos d, if_neg (fun h => c ⟨d, h⟩)]
        · rw [if_neg d]
def oneF (s : ByteArray) (p : Nat) : Int × Int × Bool :=
  if bt s (p : Int) = 92 then
    match toldF s (p + 1) with
    | some (y, q) => (y, (q : Int) - p, true)
    | none => (0, 0, false)
  else if signB (bt s (p : Int)) = false ∧ 32 ≤ bt s (p : Int) ∧ bt s (p : Int) ≤ 126 then (bt s (p : Int), 1, false) else (0, 0, false)
theorem one_ours (k : Nat) (s : ByteArray) (p : Nat) (hs : s.size ≤ 4000) (hp : p < s.size) : cardcaseref06_one.f (k + 1 + 1 + 1 + 1) s (p : Int) = some (oneF s p) := by
  have w1 : wrap64 ((p : Int) + 1) = ((p + 1 : Nat) : Int) := by unfold wrap64; omega
  have w2 : wrap64 ((p : Int) + 2) = ((p + 1 + 1 : Nat) : Int) := by unfold wrap64; omega
  unfold cardcaseref06_one.f oneF
  rw [if_pos (by omega), if_pos (by omega), w1]
  by_cases c92 : bt s (p : Int) = 92
  · rw [if_pos c92, if_pos c92]
    unfold toldF
    by_cases c1 : p + 1 < s.size
    · rw [if_neg (by omega), if_pos (by omega), if_pos (by omega), if_pos c1, sign_ours]
      obtain ⟨y0, y1⟩ := bt_range s ((p + 1 : Nat) : Int)
      obtain ⟨z0, z1⟩ := bt_range s ((p + 1 + 1 : Nat) : Int)
      obtain ⟨y, hy⟩ : ∃ y, bt s ((p + 1 : Nat) : Int) = y := ⟨_, rfl⟩
      obtain ⟨z, hz⟩ : ∃ z, bt s ((p + 1 + 1 : Nat) : Int) = z := ⟨_, rfl⟩
      rw [hy] at y0 y1
      rw [hz] at z0 z1
      rw [hy, hz]
      simp only [Option.bind_some]
      have hj : (if signB y = true then cardcaseref06_one.j0 (k + 1 + 1 + 1 + 1) s (p : Int) y true else if y = 32 then cardcaseref06_one.j0 (k + 1 + 1 + 1 + 1) s (p : Int) y true else cardcaseref06_one.j0 (k + 1 + 1 + 1 + 1) s (p : Int) y (y == 35)) = cardcaseref06_one.j0 (k + 1 + 1 + 1 + 1) s (p : Int) y (signB y || (y == 32) || (y == 35)) := by
        cases signB y with
        | true => rw [if_pos rfl, Bool.true_or, Bool.true_or]
        | false =>
          by_cases c : y = 32
          · rw [if_neg (by simp), if_pos c, beq_iff_eq.2 c, Bool.false_or, Bool.true_or]
          · rw [if_neg (by simp), if_neg c, beq_eq_false_iff_ne.2 c, Bool.false_or, Bool.false_or]
      rw [hj]
      by_cases c : signB y = true ∨ y = 32 ∨ y = 35
      · rw [if_pos c, show (signB y || (y == 32) || (y == 35)) = true by simpa [or_assoc] using c]
        rw [oj0 (k + 1 + 1 + 1), if_pos rfl]
        simp only [Option.some.injEq, Prod.mk.injEq, true_and, and_true]
        omega
      · rw [if_neg c, show (signB y || (y == 32) || (y == 35)) = false by rw [Bool.eq_false_iff]; intro h; apply c; simpa [or_assoc] using h]
        rw [oj0 (k + 1 + 1 + 1), if_neg (by simp), w2]
        have hbad : cardcaseref06_one.j1 (k + 1 + 1 + 1) s (p : Int) y true = some (0, 0, false) := by rw [oj1 (k + 1 + 1), if_pos rfl]
        obtain ⟨dy0, dy1⟩ := digitB_bound y0
        obtain ⟨dz0, dz1⟩ := digitB_bound z0
        by_cases c2 : p + 1 + 1 < s.size
        · rw [if_neg (by omega), digit_ours (k + 1) y y0 (by omega)]
          simp only [Option.bind_some]
          by_cases dy : digitB y < 16
          · rw [if_pos dy, if_neg (by omega), if_pos (by omega), if_pos (by omega), hz, digit_ours (k + 1) z z0 (by omega)]
            simp only [Option.bind_some]
            by_cases dz : digitB z < 16
            · rw [if_pos dz, decide_eq_false (by omega), if_pos ⟨c2, dy, dz⟩]
              rw [oj1 (k + 1 + 1), if_neg (by simp), digit_ours k y y0 (by omega), w2, hz, digit_ours k z z0 (by omega), if_pos dy, if_pos dz]
              simp only [Option.bind_some]
              rw [if_pos (by omega), if_pos (by omega)]
              simp only [Option.some.injEq, Prod.mk.injEq, and_true]
              refine ⟨?_, by omega⟩
              unfold wrap64
              omega
            · rw [if_neg dz, decide_eq_true (by omega), if_neg (fun h => dz h.2.2)]
              exact hbad
          · rw [if_neg dy, if_pos (by omega), if_neg (fun h => dy h.2.1)]
            exact hbad
        · rw [if_pos (by omega), if_neg (fun h => c2 h.1)]
          exact hbad
    · rw [if_pos (by omega), if_neg c1]
  · rw [if_neg c92, if_neg c92, sign_ours]
    simp only [Option.bind_some]
    cases signB (bt s (p : Int)) with
    | true => simp
    | false =>
      rw [if_neg (by simp)]
      by_cases a : bt s (p : Int) < 32
      · rw [if_pos a, if_neg (fun h => by omega)]
      · rw [if_neg a]
        by_cases b : bt s (p : Int) > 126
        · rw [if_pos b, if_neg (fun h => by omega)]
        · rw [if_neg b, if_pos ⟨rfl, by omega, by omega⟩]
end Go.Proofs.Ythbjgcmbbdlfkaa.PDnParses
