/- dn.must; dn.digit. -/
import Derived.Test.YthbjgcmbbdlfkaaCf
import Derived.Recover
set_option linter.unusedVariables false
set_option linter.unusedSimpArgs false
namespace Go.Proofs.Ythbjgcmbbdlfkaa
open Go.RowKit Go.Shelf Go.Proofs.YthbjgcmbbdlfkaaW.PrintWords Go.Proofs.YthbjgcmbbdlfkaaW.PrintMore Go.Proofs.YthbjgcmbbdlfkaaW.PrintLast

abbrev stopE : Ending := .panicked [{ v := .iface 48 (.agg #[]), recovered := false }]
theorem must_yes (w : World) : Calls Try.prog 37 #[.bool true] w fun e w' => e = .returned (.tuple #[]) ∧ w' = w := by
  go_enter Try.func37, Try.ntmps37
  go_wp2_with fail
  go_end0
  exact ⟨rfl, rfl⟩
theorem must_no (w : World) : Calls Try.prog 37 #[.bool false] w fun e w' => e = stopE ∧ w' = w := by
  go_enter Try.func37, Try.ntmps37
  go_wp2_with fail
  exact ⟨rfl, rfl, rfl⟩
def digitB (x : Int) : Int := if 48 ≤ x ∧ x ≤ 57 then x - 48 else if 97 ≤ x ∧ x ≤ 102 then x - 87 else if 65 ≤ x ∧ x ≤ 70 then x - 55 else 16
theorem digitB_bound {x : Int} (h0 : 0 ≤ x) : 0 ≤ digitB x ∧ digitB x ≤ 16 := by unfold digitB; split <;> (try split) <;> (try split) <;> omega
theorem digit_calls (x : Int) (h0 : 0 ≤ x) (h1 : x < 256) (w : World) : Calls Try.prog 57 #[.int .u8 x] w fun e w' => e = .returned (.int .u8 (digitB x)) ∧ w' = w := by
  have c1 := Aside0.mk (fun W => within_calls x 48 57 W)
  have c2 := Aside0.mk (fun W => within_calls x 97 102 W)
  have c3 := Aside0.mk (fun W => within_calls x 65 70 W)
  have q1 : (decide (48 ≤ x) && decide (x ≤ 57)) = decide (48 ≤ x ∧ x ≤ 57) := by simp
  have q2 : (decide (97 ≤ x) && decide (x ≤ 102)) = decide (97 ≤ x ∧ x ≤ 102) := by simp
  have q3 : (decide (65 ≤ x) && decide (x ≤ 70)) = decide (65 ≤ x ∧ x ≤ 70) := by simp
  rw [q1] at c1
  rw [q2] at c2
  rw [q3] at c3
  clear q1 q2 q3
  by_cases d1 : 48 ≤ x ∧ x ≤ 57
  · rw [decide_eq_true d1] at c1
    have hr' := Aside0.mk (show digitB x = x - 48 from by unfold digitB; rw [if_pos d1])
    obtain ⟨l1, l2⟩ := d1
    go_enter Try.func57, Try.ntmps57
    go_wp2_with fail
    refine (c1.out _).mono ?_
    rintro _ _ ⟨rfl, rfl⟩
    go_wp2_with fail
    go_ret
    exact ⟨by rw [hr'.out]; rfl, rfl⟩
  · rw [decide_eq_false d1] at c1
    replace d1 := Aside0.mk d1
    by_cases d2 : 97 ≤ x ∧ x ≤ 102
    · rw [decide_eq_true d2] at c2
      have hr' := Aside0.mk (show digitB x = x - 87 from by unfold digitB; rw [if_neg d1.out, if_pos d2])
      obtain ⟨l1, l2⟩ := d2
      have e1 : x - 97 + 10 = x - 87 := by omega
      go_enter Try.func57, Try.ntmps57
      go_wp2_with fail
      refine (c1.out _).mono ?_
      rintro _ _ ⟨rfl, rfl⟩
      go_wp2_with fail
      refine (c2.out _).mono ?_
      rintro _ _ ⟨rfl, rfl⟩
      go_wp2_with fail
      go_ret
      exact ⟨by rw [hr'.out]; rfl, rfl⟩
    · rw [decide_eq_false d2] at c2
      replace d2 := Aside0.mk d2
      by_cases d3 : 65 ≤ x ∧ x ≤ 70
      · rw [decide_eq_true d3] at c3
        have hr' := Aside0.mk (show digitB x = x - 55 from by unfold digitB; rw [if_neg d1.out, if_neg d2.out, if_pos d3])
        obtain ⟨l1, l2⟩ := d3
        have e1 : x - 65 + 10 = x - 55 := by omega
        go_enter Try.func57, Try.ntmps57
        go_wp2_with fail
        refine (c1.out _).mono ?_
        rintro _ _ ⟨rfl, rfl⟩
        go_wp2_with fail
        refine (c2.out _).mono ?_
        rintro _ _ ⟨rfl, rfl⟩
        go_wp2_with fail
        refine (c3.out _).mono ?_
        rintro _ _ ⟨rfl, rfl⟩
        go_wp2_with fail
        go_ret
        exact ⟨by rw [hr'.out]; rfl, rfl⟩
      · rw [decide_eq_false d3] at c3
        have hr' := Aside0.mk (show digitB x = 16 from by unfold digitB; rw [if_neg d1.out, if_neg d2.out, if_neg d3])
        replace d3 := Aside0.mk d3
        go_enter Try.func57, Try.ntmps57
        go_wp2_with fail
        refine (c1.out _).mono ?_
        rintro _ _ ⟨rfl, rfl⟩
        go_wp2_with fail
        refine (c2.out _).mono ?_
        rintro _ _ ⟨rfl, rfl⟩
        go_wp2_with fail
        refine (c3.out _).mono ?_
        rintro _ _ ⟨rfl, rfl⟩
        go_wp2_with fail
        go_ret
        exact ⟨by rw [hr'.out]; rfl, rfl⟩
end Go.Proofs.Ythbjgcmbbdlfkaa
