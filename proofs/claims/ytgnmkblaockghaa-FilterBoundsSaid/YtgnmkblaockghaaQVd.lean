/- The value of an or of many: plain. -/
import Derived.Test.YtgnmkblaockghaaQVa
import Derived.Test.YtgnmkblaockghaaQVc
import Derived.Test.YtgnmkblaockghaaQPFilterBoundsx10
set_option linter.unusedVariables false
set_option linter.unusedSimpArgs false
namespace Go.Proofs.Ytgnmkblaockghaa
open Go.RowKit Go.Shelf Go.Proofs.YtgnmkblaockghaaW.PrintWords Go.Proofs.YtgnmkblaockghaaW.PrintMore Go.Proofs.YtgnmkblaockghaaW.PrintLast PFilterBounds

/-- The value of has a. -/
def leafV : S55 := ⟨2, 7, false, [97], []⟩
/-- The value of an or of so many. -/
def valN (n : Nat) : S55 := ⟨2, 1, true, [], List.replicate n leafV⟩
theorem arg_leaf : B.argT leafV = true := rfl
theorem deep_leaf : B.deepT 2 leafV = true := rfl
theorem size_leaf : B.sizeT leafV = 3 := rfl
theorem w_leaf : B.wT leafV = 2 := rfl
theorem sizeL_rep (n : Nat) : B.sizeL (List.replicate n leafV) = 3 * n := by
  induction n with
  | zero => rfl
  | succ n ih => rw [List.replicate_succ, B.sizeL, ih, size_leaf]; omega
theorem wL_rep (n : Nat) : B.wL (List.replicate n leafV) = 2 * n := by
  induction n with
  | zero => rfl
  | succ n ih => rw [List.replicate_succ, B.wL, ih, w_leaf]; omega
theorem wT_val (n : Nat) : B.wT (valN n) = 1 + 2 * n := by
  unfold valN
  rw [B.wT, wL_rep]
  rfl
theorem arg_val (n : Nat) : B.argT (valN n) = true := by
  unfold valN
  rw [B.argT, (B.argL_iff _).2 (fun x hx => by rw [(List.mem_replicate.1 hx).2]; exact arg_leaf)]
  rfl
theorem deep_val (n : Nat) : B.deepT 1 (valN n) = true := by
  unfold valN
  rw [B.deepT, (B.deepL_iff _ _).2 (fun x hx => by rw [(List.mem_replicate.1 hx).2]; exact deep_leaf)]
  rfl
theorem check_val (n : Nat) (hn : n ≤ 1000) : B.checkN (valN n) = 0 := by
  unfold B.checkN B.rightN
  rw [arg_val, deep_val, if_pos rfl, if_pos rfl, if_pos rfl]
  unfold valN
  rw [B.sizeT, sizeL_rep]
  have := (B.lenL_length (([] : List Int).length + 3 * n)).2
  rw [if_neg]
  simp only [List.length_nil] at this ⊢
  omega
theorem rd_rep {n : Nat} {j : Nat} (h : j < n) : rd_T55 (List.replicate n leafV) (j : Int) = leafV := by
  unfold rd_T55
  simp [List.getD_eq_getElem?_getD, List.getElem?_replicate, h]
theorem vals_leaf (K : Nat) (w d : Int) (h1 : 1 ≤ w) (h2 : w ≤ 100000) (hd : d ≤ 40) : cardcaselaw08_values.f (K + 3) 2 7 false [97] [] w d = some (w - 2) := by
  rw [cardcaselaw08_values.f, if_neg (by omega), if_neg (by simp; omega), decide_eq_false (by simp; omega), cardcaselaw08_values.j0, if_neg (by decide), cardcaselaw08_values.l0, if_neg (by simp)]
  rw [wrap_in (w - 1) (by omega)]
  show some (wrap64 (w - 1 - 1)) = _
  rw [wrap_in _ (by omega)]
  congr 1; omega
theorem vals_loop (n : Nat) (hn : n ≤ 1000) : ∀ m j (w : Int), j + m = n → 2 * (m : Int) ≤ w → w ≤ 100000 → cardcaselaw08_values.l0 (m + 4) w 1 (j : Int) 2 1 true [] (List.replicate n leafV) = some (w - 2 * m) := by
  intro m
  induction m with
  | zero =>
    intro j w hj h1 h2
    rw [cardcaselaw08_values.l0, if_neg (by rw [List.length_replicate]; omega)]
    congr 1; omega
  | succ m ih =>
    intro j w hj h1 h2
    rw [show m + 1 + 4 = (m + 4) + 1 by omega, cardcaselaw08_values.l0, if_pos (by rw [List.length_replicate]; omega), if_pos (by omega), if_pos (by omega), rd_rep (by omega), show wrap64 (1 + 1) = 2 by decide +kernel]
    show (cardcaselaw08_values.f (m + 4) 2 7 false [97] [] w 2).bind _ = _
    rw [show m + 4 = (m + 1) + 3 by omega, vals_leaf (m + 1) w 2 (by omega) h2 (by omega), Option.bind_some, show (m + 1) + 3 = m + 4 by omega]
    rw [show wrap64 ((j : Int) + 1) = ((j + 1 : Nat) : Int) by rw [wrap_in _ (by omega)]; omega]
    rw [ih (j + 1) (w - 2) (by omega) (by omega) (by omega)]
    congr 1; omega
theorem vals_val (n : Nat) (hn : n ≤ 210) : cardcaselaw08_values.f (n + 6) 2 1 true [] (List.replicate n leafV) 3000 1 = some (2999 - 2 * (n : Int)) := by
  rw [cardcaselaw08_values.f, if_neg (by decide), if_neg (by rw [List.length_replicate]; omega), show decide ((([] : List Int).length : Int) > 3000) = false by decide, cardcaselaw08_values.j0, if_neg (by decide)]
  show cardcaselaw08_values.l0 (n + 4) (wrap64 (wrap64 (3000 - 1) - 0)) 1 ((0 : Nat) : Int) 2 1 true [] _ = _
  rw [show wrap64 (wrap64 (3000 - 1) - 0) = 2999 by decide +kernel, vals_loop n (by omega) n 0 2999 (by omega) (by omega) (by omega)]
theorem flaws_leaf (K : Nat) (d : Int) (hd : d ≤ 16) : cardcaseref05_flaws.f (K + 3) 2 7 false [97] [] d = some (false, false) := by
  rw [cardcaseref05_flaws.f, if_neg (by decide), if_neg (by decide), if_neg (by decide), show decide ((([] : List S55).length : Int) > 0) = false by decide, cardcaseref05_flaws.j0, decide_eq_false (by omega), cardcaseref05_flaws.l0, if_neg (by simp)]
theorem flaws_loop (n : Nat) (hn : n ≤ 1000) : ∀ m j, j + m = n → cardcaseref05_flaws.l0 (m + 4) 1 false false (j : Int) 2 1 true [] (List.replicate n leafV) = some (false, false) := by
  intro m
  induction m with
  | zero =>
    intro j hj
    rw [cardcaseref05_flaws.l0, if_neg (by rw [List.length_replicate]; omega)]
  | succ m ih =>
    intro j hj
    rw [show m + 1 + 4 = (m + 4) + 1 by omega, cardcaseref05_flaws.l0, if_pos (by rw [List.length_replicate]; omega), if_pos (by omega), rd_rep (by omega), show wrap64 (1 + 1) = 2 by decide +kernel]
    show (cardcaseref05_flaws.f (m + 4) 2 7 false [97] [] 2).bind _ = _
    rw [show m + 4 = (m + 1) + 3 by omega, flaws_leaf (m + 1) 2 (by omega), Option.bind_some, if_neg (by decide), if_neg (by decide), show (m + 1) + 3 = m + 4 by omega]
    rw [show wrap64 ((j : Int) + 1) = ((j + 1 : Nat) : Int) by rw [wrap_in _ (by omega)]; omega]
    exact ih (j + 1) (by omega)
theorem flaws_val (n : Nat) (hn : n ≤ 1000) : cardcaseref05_flaws.f (n + 6) 2 1 true [] (List.replicate n leafV) 1 = some (false, false) := by
  rw [cardcaseref05_flaws.f, if_neg (by decide), if_neg (by decide), if_pos rfl, if_neg (by simp), cardcaseref05_flaws.j0, show decide ((1 : Int) > 16) = false by decide]
  exact flaws_loop n hn n 0 (by omega)
theorem many_some (K : Nat) (x : Int) (h0 : 0 ≤ x) (h1 : x ≤ 60000) : ∃ r : Int, cardcaseref05_many.f (K + 4) x = some r ∧ 0 ≤ r ∧ r ≤ 4 := by
  unfold cardcaseref05_many.f
  by_cases c : x < 128
  · exact ⟨1, if_pos c, by decide, by decide⟩
  · rw [if_neg c, cardcaseref05_many.l0, if_pos (by omega)]
    have e1 : Int.tdiv x 256 = x / 256 := Int.tdiv_eq_ediv_of_nonneg h0
    rw [e1, wrap_in (x / 256) (by omega), show wrap64 (1 + 1) = 2 by decide +kernel, cardcaseref05_many.l0]
    by_cases c2 : x / 256 > 0
    · have e2 : Int.tdiv (x / 256) 256 = x / 256 / 256 := Int.tdiv_eq_ediv_of_nonneg (by omega)
      rw [if_pos c2, e2, show x / 256 / 256 = 0 by omega, show wrap64 0 = 0 by decide +kernel, show wrap64 (2 + 1) = 3 by decide +kernel, cardcaseref05_many.l0, if_neg (by decide)]
      exact ⟨3, rfl, by decide, by decide⟩
    · rw [if_neg c2]
      exact ⟨2, rfl, by decide, by decide⟩
theorem rsize_leaf (K : Nat) : cardcaseref05_Size.f (K + 3) 2 7 false [97] [] = some 3 := by
  rw [cardcaseref05_Size.f, cardcaseref05_Size.l0, if_neg (by simp)]
  show (cardcaseref05_many.f (K + 1) 1).bind _ = _
  unfold cardcaseref05_many.f
  rw [if_pos (by decide), Option.bind_some]
  decide +kernel
theorem rsize_loop (n : Nat) (hn : n ≤ 1000) : ∀ m j, j + m = n → ∃ r : Int, cardcaseref05_Size.l0 (m + 5) (3 * (j : Int)) (j : Int) 2 1 true [] (List.replicate n leafV) = some r ∧ r ≤ 65536 := by
  intro m
  induction m with
  | zero =>
    intro j hj
    obtain ⟨r, h1, h2, h3⟩ := many_some 0 (3 * (j : Int)) (by omega) (by omega)
    rw [cardcaseref05_Size.l0, if_neg (by rw [List.length_replicate]; omega)]
    refine ⟨_, by rw [h1]; rfl, ?_⟩
    rw [wrap_in (1 + r) (by omega), wrap_in _ (by omega)]
    omega
  | succ m ih =>
    intro j hj
    rw [show m + 1 + 5 = (m + 5) + 1 by omega, cardcaseref05_Size.l0, if_pos (by rw [List.length_replicate]; omega), if_pos (by omega), if_pos (by omega), rd_rep (by omega)]
    have h := ih (j + 1) (by omega)
    show ∃ r, (cardcaseref05_Size.f (m + 5) 2 7 false [97] []).bind _ = some r ∧ _
    rw [show m + 5 = (m + 2) + 3 by omega, rsize_leaf (m + 2), Option.bind_some, show (m + 2) + 3 = m + 5 by omega]
    rw [show wrap64 ((j : Int) + 1) = ((j + 1 : Nat) : Int) by rw [wrap_in _ (by omega)]; omega, show wrap64 (3 * (j : Int) + 3) = 3 * ((j + 1 : Nat) : Int) by rw [wrap_in _ (by omega)]; omega]
    exact h
theorem rcheck_val (n : Nat) (hn : n ≤ 1000) : cardcaseref05_Check.f (n + 6) 2 1 true [] (List.replicate n leafV) = some 0 := by
  unfold cardcaseref05_Check.f
  rw [flaws_val n hn, Option.bind_some, if_neg (by decide), if_neg (by decide)]
  obtain ⟨r, h1, h2⟩ := rsize_loop n hn n 0 (by omega)
  have h : cardcaseref05_Size.f (n + 6) 2 1 true [] (List.replicate n leafV) = some r := by rw [cardcaseref05_Size.f]; exact h1
  rw [h, Option.bind_some, if_neg (by omega)]
end Go.Proofs.Ytgnmkblaockghaa
