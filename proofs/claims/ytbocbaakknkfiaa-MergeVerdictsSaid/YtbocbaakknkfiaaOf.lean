/- MergeVerdicts: the walk. -/
import Derived.Test.YtbocbaakknkfiaaOe
import Derived.Test.YtbocbaakknkfiaaPMergeVerdictsx1
set_option linter.unusedVariables false
set_option linter.unusedSimpArgs false
namespace Go.Proofs.Ytbocbaakknkfiaa
open Go.Proofs.Ytbocbaakknkfiaa.PMergeVerdicts
open Go.RowKit Go.Shelf Go.Proofs.YtbocbaakknkfiaaW.PrintWords Go.Proofs.YtbocbaakknkfiaaW.PrintMore Go.Proofs.YtbocbaakknkfiaaW.PrintLast

theorem i64_bounds {n : Int} (h : (Lit.int .i64 n).wf = true) : -9223372036854775808 ≤ n ∧ n ≤ 9223372036854775807 := by
  simp [Lit.wf, IntKind.min, IntKind.max, IntKind.signed, IntKind.bits] at h
  omega
theorem refVer (a b : Int) : cardcaseref19_Verdict.f a b = some (ver a b) := by
  unfold cardcaseref19_Verdict.f ver
  by_cases h : inDeeds a b = true
  · rw [if_pos h]
    have c2 : (1 ≤ a ∧ a ≤ 3) ∧ (1 ≤ b ∧ b ≤ 3) := by unfold inDeeds at h; simpa [and_assoc] using h
    have h1 : a = 1 ∨ a = 2 ∨ a = 3 := by omega
    have h2 : b = 1 ∨ b = 2 ∨ b = 3 := by omega
    rcases h1 with rfl | rfl | rfl <;> rcases h2 with rfl | rfl | rfl <;> decide +kernel
  · rw [if_neg h]
    by_cases h1 : a < 1
    · rw [if_pos h1]
    · rw [if_neg h1]
      by_cases h2 : 3 < a
      · rw [if_pos (show a > 3 from h2)]
      · rw [if_neg (show ¬ a > 3 from h2)]
        by_cases h3 : b < 1
        · rw [if_pos h3]
        · rw [if_neg h3, if_pos]
          have : ¬ (1 ≤ a ∧ a ≤ 3 ∧ 1 ≤ b ∧ b ≤ 3) := by intro hh; apply h; unfold inDeeds; simp [hh]
          omega
theorem nameNone (a : Int) (h : a < 1 ∨ 7 < a) : merge_Name.f a = some (⟨#[]⟩, false) := by
  unfold merge_Name.f
  simp only [Option.bind_some]
  by_cases h1 : a < 1
  · rw [if_pos h1]
  · rw [if_neg h1, if_pos (show a > 7 by omega)]
def nameOf (a : Int) : ByteArray := ([⟨#[110, 111, 116, 104, 105, 110, 103]⟩, ⟨#[109, 101, 114, 103, 101]⟩, ⟨#[100, 114, 111, 112, 45, 99, 97, 114, 100]⟩, ⟨#[110, 101, 119, 45, 101, 110, 116, 114, 121]⟩, ⟨#[100, 114, 111, 112, 45, 101, 110, 116, 114, 121]⟩, ⟨#[110, 101, 119, 45, 99, 97, 114, 100]⟩, ⟨#[102, 111, 114, 103, 101, 116]⟩] : List ByteArray).getD (a - 1).toNat ByteArray.empty
theorem nameSome (a : Int) (h : 1 ≤ a ∧ a ≤ 7) : merge_Name.f a = some (nameOf a, true) := by
  have h1 : a = 1 ∨ a = 2 ∨ a = 3 ∨ a = 4 ∨ a = 5 ∨ a = 6 ∨ a = 7 := by omega
  rcases h1 with rfl | rfl | rfl | rfl | rfl | rfl | rfl <;> decide +kernel
theorem vd_pos (a b : Int) (h : inDeeds a b = true) : 1 ≤ ver a b ∧ ver a b ≤ 7 := by
  unfold ver
  rw [if_pos h]
  have c2 : (1 ≤ a ∧ a ≤ 3) ∧ (1 ≤ b ∧ b ≤ 3) := by unfold inDeeds at h; simpa [and_assoc] using h
  have h1 : a = 1 ∨ a = 2 ∨ a = 3 := by omega
  have h2 : b = 1 ∨ b = 2 ∨ b = 3 := by omega
  rcases h1 with rfl | rfl | rfl <;> rcases h2 with rfl | rfl | rfl <;> decide
set_option maxHeartbeats 4000000 in
theorem mergeVerdicts_row (W : World) (a : Int) (wa : (Lit.int .i64 a).wf = true) (b : Int) (wb : (Lit.int .i64 b).wf = true) :
    Calls Try.prog 6 #[.int .i64 a, .int .i64 b] W fun e w' => e = .returned (.bool true) ∧ Below W.heap.size W w' := by
  have ra := i64_bounds wa
  have rb := i64_bounds wb
  have hv := Aside0.mk (fun w => verdict_calls a b ra rb w)
  have hr := Aside0.mk (fun w => cardcaseref19_Verdict.calls a b (ver a b) w (refVer a b))
  have hk := Aside0.mk (fun w => known_calls w)
  have hcase : ∃ v e, ver a b = v ∧ verErr a b = e ∧ ((e = 0 ∧ v ≠ 0) ∨ (e = 2 ∧ v = 0)) := by
    refine ⟨_, _, rfl, rfl, ?_⟩
    cases c : inDeeds a b with
    | true => exact .inl ⟨by unfold verErr; rw [c]; rfl, by have := vd_pos a b c; omega⟩
    | false => exact .inr ⟨by unfold verErr; rw [c]; rfl, by unfold ver; rw [c]; rfl⟩
  obtain ⟨v, e0, hv0, he0, hcase⟩ := hcase
  rw [hv0, he0] at hv
  rw [hv0] at hr
  clear hv0 he0 ra rb wb
  have hname : (a < 1 ∨ 7 < a) ∨ (a = 1 ∨ a = 2 ∨ a = 3 ∨ a = 4 ∨ a = 5 ∨ a = 6 ∨ a = 7) := by omega
  rcases hname with ho | hi
  · have hn := Aside0.mk (fun w => merge_Name.calls a _ _ w (nameNone a ho))
    have f1 : decide (a < 1) = true ∨ (decide (a < 1) = false ∧ decide (7 < a) = true) := by
      by_cases h : a < 1
      · exact .inl (decide_eq_true h)
      · exact .inr ⟨decide_eq_false h, decide_eq_true (by omega)⟩
    clear ho wa
    rcases f1 with f1 | ⟨f1, f2⟩ <;> rcases hcase with ⟨rfl, hne⟩ | ⟨rfl, rfl⟩
    all_goals
      first
      | (have g1 : (v == 0) = false := by simpa using hne
         have g2 : (v != 0) = true := by simpa using hne
         clear hne
         go_enter Try.func6, Try.ntmps6
         go_wp2_with fail
         refine (hv.out _).mono ?_
         rintro e w1 ⟨rfl, hb1⟩
         go_wp2_with fail
         refine (hr.out _).mono ?_
         rintro e w2 ⟨rfl, hb2⟩
         have hb2 := Aside0.mk (below_then hb1 hb1.size hb2)
         clear hb1
         go_wp2_with fail
         refine (hn.out _).mono ?_
         rintro e w3 ⟨rfl, hb3⟩
         have hb3 := Aside0.mk (below_then hb2.out hb2.out.size hb3)
         go_wp2_with fail
         refine (hk.out _).mono ?_
         rintro e w4 ⟨rfl, hb4⟩
         have hb4 := Aside0.mk (below_then hb3.out hb3.out.size hb4)
         go_wp2_with fail
         go_ret
         exact ⟨rfl, hb4.out⟩)
      | (go_enter Try.func6, Try.ntmps6
         go_wp2_with fail
         refine (hv.out _).mono ?_
         rintro e w1 ⟨rfl, hb1⟩
         go_wp2_with fail
         refine (hr.out _).mono ?_
         rintro e w2 ⟨rfl, hb2⟩
         have hb2 := Aside0.mk (below_then hb1 hb1.size hb2)
         clear hb1
         go_wp2_with fail
         refine (hn.out _).mono ?_
         rintro e w3 ⟨rfl, hb3⟩
         have hb3 := Aside0.mk (below_then hb2.out hb2.out.size hb3)
         go_wp2_with fail
         refine (hk.out _).mono ?_
         rintro e w4 ⟨rfl, hb4⟩
         have hb4 := Aside0.mk (below_then hb3.out hb3.out.size hb4)
         go_wp2_with fail
         go_ret
         exact ⟨rfl, hb4.out⟩)
  · have hn := fun w => merge_Name.calls a _ _ w (nameSome a (by omega))
    clear wa
    obtain ⟨n, e⟩ : ∃ n, nameOf a = n := ⟨_, rfl⟩
    rw [e] at hn
    rcases hi with rfl | rfl | rfl | rfl | rfl | rfl | rfl <;> rcases hcase with ⟨rfl, hne⟩ | ⟨rfl, rfl⟩
    all_goals
      simp [nameOf] at e
      subst e
      first
      | (have g1 : (v == 0) = false := by simpa using hne
         have g2 : (v != 0) = true := by simpa using hne
         clear hne
         go_enter Try.func6, Try.ntmps6
         go_wp2_with fail
         refine (hv.out _).mono ?_
         rintro e w1 ⟨rfl, hb1⟩
         go_wp2_with fail
         refine (hr.out _).mono ?_
         rintro e w2 ⟨rfl, hb2⟩
         have hb2 := Aside0.mk (below_then hb1 hb1.size hb2)
         clear hb1
         go_wp2_with fail
         refine (hn _).mono ?_
         rintro e w3 ⟨rfl, hb3⟩
         have hb3 := Aside0.mk (below_then hb2.out hb2.out.size hb3)
         go_wp2_with fail
         refine (hk.out _).mono ?_
         rintro e w4 ⟨rfl, hb4⟩
         have hb4 := Aside0.mk (below_then hb3.out hb3.out.size (below_then (below_alloc (Below.refl _ _) _) (by simp) hb4))
         go_wp2_with fail
         go_ret
         exact ⟨rfl, hb4.out⟩)
      | (have g1 := True.intro
         go_enter Try.func6, Try.ntmps6
         go_wp2_with fail
         refine (hv.out _).mono ?_
         rintro e w1 ⟨rfl, hb1⟩
         go_wp2_with fail
         refine (hr.out _).mono ?_
         rintro e w2 ⟨rfl, hb2⟩
         have hb2 := Aside0.mk (below_then hb1 hb1.size hb2)
         clear hb1
         go_wp2_with fail
         refine (hn _).mono ?_
         rintro e w3 ⟨rfl, hb3⟩
         have hb3 := Aside0.mk (below_then hb2.out hb2.out.size hb3)
         go_wp2_with fail
         refine (hk.out _).mono ?_
         rintro e w4 ⟨rfl, hb4⟩
         have hb4 := Aside0.mk (below_then hb3.out hb3.out.size (below_then (below_alloc (Below.refl _ _) _) (by simp) hb4))
         go_wp2_with fail
         go_ret
         exact ⟨rfl, hb4.out⟩)
end Go.Proofs.Ytbocbaakknkfiaa
