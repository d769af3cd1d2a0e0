/- The reference: may a contact be? The same as the program's answer. -/
import Derived.Test.YtbocbaakknkfiaaOe
set_option linter.unusedVariables false
set_option linter.unusedSimpArgs false
namespace Go.Proofs.Ytbocbaakknkfiaa
open Go.RowKit Go.Shelf Go.Proofs.YtbocbaakknkfiaaW.PrintWords Go.Proofs.YtbocbaakknkfiaaW.PrintMore Go.Proofs.YtbocbaakknkfiaaW.PrintLast

theorem any_not_all (p : ByteArray → Bool) : ∀ l : Fld, (!(l.any fun s => !p s)) = l.all p
  | [] => rfl
  | a :: l => by
    have := any_not_all p l
    simp only [List.any_cons, List.all_cons, Bool.not_or, Bool.not_not, this]
theorem rOk_far {f : Nat} (h : f ≠ 0) (l : Fld) : rOk f l = fOk f l := by
  unfold rOk fOk
  rw [any_not_all]
  have : ((f : Int) == 0) = false := by simpa using h
  rw [this]; simp
theorem rOk_zero (l : Fld) : rOk 0 l = (fOk 0 l && decide (l.length = 1)) := by
  have e : fOk 0 l = (!(decide (mostOf 0 < (l.length : Int))) && (l.all (valOk 0) && rise l)) := by
    unfold fOk; rw [any_not_all]; rfl
  rw [e]
  unfold rOk
  have h2 : (!((0 : Int) == 0 && ((l.length : Int) != 1))) = decide (l.length = 1) := by
    by_cases c : l.length = 1
    · rw [c]; rfl
    · rw [decide_eq_false c]
      have : ((l.length : Int) != 1) = true := by simp; omega
      rw [this]; rfl
  rw [h2]
  cases decide (l.length = 1) <;> cases decide (mostOf 0 < (l.length : Int)) <;> simp
theorem checkOk_r {L : Nat → Fld} : checkOk L = true ↔ ∀ i : Nat, i < 8 → rOk i (L i) = true := by
  rw [checkOk_iff]
  constructor
  · rintro ⟨h1, h2⟩ i hi
    by_cases c : i = 0
    · subst c
      show rOk 0 (L 0) = true
      rw [rOk_zero, h1 0 hi, h2]; rfl
    · rw [rOk_far c]; exact h1 i hi
  · intro h
    have h0 : rOk 0 (L 0) = true := h 0 (by omega)
    rw [rOk_zero, Bool.and_eq_true, decide_eq_true_eq] at h0
    refine ⟨fun i hi => ?_, h0.2⟩
    by_cases c : i = 0
    · subst c; exact h0.1
    · rw [← rOk_far c]; exact h i hi
set_option maxHeartbeats 2000000 in
theorem rright_calls (x : CT) (w : World) (hx : x.In w) :
    Calls Try.prog 11 #[.agg (conV x.V)] w fun e w' => e = .returned (.bool (checkOk x.L)) ∧ Below w.heap.size w w' := by
  have hb0 := Aside0.mk (below_alloc (Below.refl w.heap.size w) (.cells (conV x.V) 24))
  have h0 := Aside0.mk (heap_alloc_new w (.cells (conV x.V) 24))
  replace hx := Aside0.mk hx
  go_enter Try.func11, Try.ntmps11
  go_wp2_with fail
  go_loopw [3] (fun s3 wr => ∃ i : Nat, i ≤ 8 ∧ s3 = .int .i64 i ∧ Aside0 (Below w.heap.size w wr) ∧ Aside0 (wr.heap[w.heap.size]? = some (.cells (conV x.V) 24 (0, 0))) ∧ Aside0 (∀ j : Nat, j < i → rOk j (x.L j) = true)) (fun s3 _ => 8 - (intOf s3).toNat)
  case atStart => exact ⟨0, by omega, rfl, hb0, h0, ⟨fun _ h => by omega⟩⟩
  case round =>
    clear h0 hb0
    obtain ⟨i, hi, rfl, hb, h0, hall⟩ := hrel
    by_cases hlt : i < 8
    · have hVx : x.V i = .slice (x.A i) (x.L i).length (x.c i) := rfl
      have g0 := con_cell h0.out i hlt
      rw [hVx] at g0
      have hi1 := hx.out.below hb.out
      have hv := Aside0.mk (values_calls (i : Int) (x.A i) (x.c i) (x.L i) wr (hi1.2 i hlt).1 (hi1.2 i hlt).2 (hi1.1.row i hlt))
      have i1 : (0 : Int) ≤ (i : Int) := by omega
      have i2 : (i : Int) < 8 := by omega
      clear hi1 hVx
      cases hr : rOk (i : Int) (x.L i) with
      | true =>
        rw [hr] at hv
        have hall2 := Aside0.mk (show ∀ j : Nat, j < i + 1 → rOk j (x.L j) = true from fun j hj => by
          by_cases c : j = i
          · subst c; exact hr
          · exact hall.out j (by omega))
        clear hr
        go_wp2_with fail
        refine hv.out.mono ?_
        rintro e w1 ⟨rfl, hb1⟩
        have hb2 := Aside0.mk (below_then hb.out hb.out.size hb1)
        have h02 := Aside0.mk ((hb1.block _ (Array.getElem?_eq_some_iff.1 h0.out).1).trans h0.out)
        clear hb1
        go_wp2_with fail
        go_roundw
        case rel => exact ⟨i + 1, by omega, by go_num, hb2, h02, hall2⟩
        case measure => simp [intOf]; omega
      | false =>
        rw [hr] at hv
        have hno : checkOk x.L = false := by
          rw [Bool.eq_false_iff]
          intro h
          rw [checkOk_r.1 h i hlt] at hr; cases hr
        replace hno := Aside0.mk hno
        clear hr
        go_wp2_with fail
        refine hv.out.mono ?_
        rintro e w1 ⟨rfl, hb1⟩
        have hb2 := Aside0.mk (below_then hb.out hb.out.size hb1)
        clear hb1
        go_wp2_with fail
        go_ret
        exact ⟨by rw [hno.out]; rfl, hb2.out⟩
    · have hi8 : i = 8 := by omega
      subst hi8
      have hyes := Aside0.mk (checkOk_r.2 hall.out)
      go_wp2_with fail
      go_ret
      exact ⟨by rw [hyes.out]; rfl, hb.out⟩
end Go.Proofs.Ytbocbaakknkfiaa
