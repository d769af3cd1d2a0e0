/- merge.verdicts, merge.both, merge.Verdict. -/
import Derived.Test.YtbocbaakknkfiaaOc
set_option linter.unusedVariables false
set_option linter.unusedSimpArgs false
namespace Go.Proofs.Ytbocbaakknkfiaa
open Go.RowKit Go.Shelf Go.Proofs.YtbocbaakknkfiaaW.PrintWords Go.Proofs.YtbocbaakknkfiaaW.PrintMore Go.Proofs.YtbocbaakknkfiaaW.PrintLast

theorem under59 : ∃ k v, Try.prog.underlying 59 = some (.map k v) ∧ Try.prog.underlying k = some (.complex .f64) ∧ ∀ w, (zeroValue v).run Try.prog w = .ok (.int .i64 0) w := ⟨_, _, by rfl, by rfl, fun w => by rfl⟩
theorem wpAny_only {P : Program} {md : Region.Mode} {ops : Array Oper} {Q : Exit → Act → World → Prop} {i fuel : Nat} {listed : Array Bool} {a : Act} {w : World} (hr : Region.ready md ops listed = [i])
    (h : wpOp P ops Q i (wpAny P md ops Q fuel (listed.setIfInBounds i true)) a w) : wpAny P md ops Q (fuel + 1) listed a w :=
  ⟨fun e => (by rw [hr] at e; cases e), fun j hj => (by rw [hr] at hj; cases List.mem_singleton.1 hj; exact h)⟩
theorem verdicts_calls (w : World) : Calls Try.prog 29 #[] w fun e w' => ∃ es clock, e = .returned (.map (some w.heap.size)) ∧ Below w.heap.size w w' ∧ w'.heap[w.heap.size]? = some (.map es clock) ∧ AllNine es := by
  go_enter Try.func29, Try.ntmps29
  go_wp2_with fail
  rename_i Q' K hK
  obtain ⟨k, v, ht, hk, hz0⟩ := under59
  refine wp_region_any (by rfl) ?_
  refine wpAny_only (i := 0) (fuel := 11) (by kernel_rfl) ?_
  refine Or.inl ?_
  show wpAny Try.prog .any _ _ (9 + 2) #[true, false, false, false, false, false, false, false, false, false, false, false] _ ({ w with drawn := w.drawn + 1 }.alloc (.map #[] 0))
  refine nine_any (k := k) (v := v) (t := 59) (r := w.heap.size) (w0 := w) ht hk (by rfl) ?_ ?_ ?_ rfl (Nat.le_refl _) ?_ 9 _ _ #[] 0 rfl rfl rfl rfl rfl ?_ ?_ ?_
  · intro i h1 h9
    have h2 : i = 1 ∨ i = 2 ∨ i = 3 ∨ i = 4 ∨ i = 5 ∨ i = 6 ∨ i = 7 ∨ i = 8 ∨ i = 9 := by omega
    rcases h2 with rfl | rfl | rfl | rfl | rfl | rfl | rfl | rfl | rfl <;> exact ⟨_, rfl, rfl, rfl, rfl, by simp⟩
  · refine ⟨_, rfl, fun i h1 h9 => ⟨{ on := i, ground := .data }, ?_, rfl, rfl⟩⟩
    have h2 : i = 1 ∨ i = 2 ∨ i = 3 ∨ i = 4 ∨ i = 5 ∨ i = 6 ∨ i = 7 ∨ i = 8 ∨ i = 9 := by omega
    rcases h2 with rfl | rfl | rfl | rfl | rfl | rfl | rfl | rfl | rfl <;> simp
  · exact ⟨_, rfl, { on := 10, ground := .data }, by simp, rfl, rfl⟩
  · intro W es clock hb hall hB
    refine wpAny_only (i := 10) (fuel := 1) (by kernel_rfl) ?_
    refine Or.inl ?_
    refine wpAny_only (i := 11) (fuel := 0) (by kernel_rfl) ?_
    refine Or.inl ?_
    refine ⟨by kernel_rfl, ?_⟩
    show K { tmps := #[.map (some w.heap.size), .map (some w.heap.size), .map (some w.heap.size)], defers := [] } W
    refine hK _ _ ?_
    go_wp2_with fail
    go_ret
    exact ⟨es, clock, rfl, hB, hb, hall⟩
  · show ((w.heap.push _)[w.heap.size]?) = _
    simp
  · exact ⟨fun e he => by simp at he, fun i h1 h9 h => by
      have h2 : i = 1 ∨ i = 2 ∨ i = 3 ∨ i = 4 ∨ i = 5 ∨ i = 6 ∨ i = 7 ∨ i = 8 ∨ i = 9 := by omega
      rcases h2 with rfl | rfl | rfl | rfl | rfl | rfl | rfl | rfl | rfl <;> cases h⟩
  · exact below_alloc (w := w) (W := { w with drawn := w.drawn + 1 }) (below_drew (Below.refl _ _)) _
theorem both_calls (a b : Int) (w : World) : Calls Try.prog 30 #[.int .i64 a, .int .i64 b] w fun e w' => e = .returned (.complex .f64 (FloatKind.f64.nearest a) (FloatKind.f64.nearest b)) ∧ w = w' := by
  go_enter Try.func30, Try.ntmps30
  go_wp2_with fail
  go_ret
  exact ⟨rfl, rfl⟩
/-- Is there a verdict, and which. -/
def inDeeds (a b : Int) : Bool := decide (1 ≤ a) && decide (a ≤ 3) && decide (1 ≤ b) && decide (b ≤ 3)
def verErr (a b : Int) : Int := if inDeeds a b then 0 else 2
def ver (a b : Int) : Int := if inDeeds a b then vd (3 * a + b - 3).toNat else 0
theorem hit_deeds (a b : Int) (ha : -9223372036854775808 ≤ a ∧ a ≤ 9223372036854775807) (hb : -9223372036854775808 ≤ b ∧ b ≤ 9223372036854775807) (i : Nat) (hi : 1 ≤ i ∧ i ≤ 9) :
    hitK (FloatKind.f64.nearest a) (FloatKind.f64.nearest b) (keyOf i) = (decide (a = pOf i) && decide (b = qOf i)) := by
  unfold hitK keyOf
  have hp : 1 ≤ pOf i ∧ pOf i ≤ 3 := by unfold pOf; omega
  have hq : 1 ≤ qOf i ∧ qOf i ≤ 3 := by unfold qOf; omega
  show (Op.floatEq .f64 _ _ && Op.floatEq .f64 _ _) = _
  rw [feq a _ ha.1 ha.2 hp, feq b _ hb.1 hb.2 hq]
theorem run_lookup_v (a b : Int) (ha : -9223372036854775808 ≤ a ∧ a ≤ 9223372036854775807) (hb : -9223372036854775808 ≤ b ∧ b ≤ 9223372036854775807) (w : World) (r : Nat) (es : Array MapEntry) (clock : Nat)
    (hm : w.heap[r]? = some (.map es clock)) (h9 : AllNine es) :
    (Instr.lookup 59 (.map (some r)) (.complex .f64 (FloatKind.f64.nearest a) (FloatKind.f64.nearest b)) true).run Try.prog w = .ok (.tuple #[.int .i64 (ver a b), .bool (inDeeds a b)]) w := by
  obtain ⟨k, v, ht, hk, hz0⟩ := under59
  have hf := run_findKey_c (P := Try.prog) (w := w) hk (FloatKind.f64.nearest a) (FloatKind.f64.nearest b) es.toList (fun e he => by obtain ⟨j, _, _, h, _⟩ := h9.1 e he; exact ⟨j, h⟩)
  have hc := run_checkKey_c (P := Try.prog) (w := w) hk (FloatKind.f64.nearest a) (FloatKind.f64.nearest b) es.isEmpty
  have hz := hz0 w
  by_cases c : inDeeds a b = true
  · have hfs : ∃ n, findC (FloatKind.f64.nearest a) (FloatKind.f64.nearest b) es.toList 0 = some (n, .int .i64 (ver a b)) := by
      have c2 : 1 ≤ a ∧ a ≤ 3 ∧ 1 ≤ b ∧ b ≤ 3 := by unfold inDeeds at c; simpa [and_assoc] using c
      refine findC_some _ _ _ _ _ (fun e he hh => ?_) ?_
      · obtain ⟨i, h1, h2, hkey, hval⟩ := h9.1 e he
        rw [hkey, hit_deeds a b ha hb i ⟨h1, h2⟩] at hh
        have hh2 : a = pOf i ∧ b = qOf i := by simpa using hh
        rw [hval]
        unfold valOf ver
        rw [if_pos c]
        congr 2
        unfold pOf qOf at hh2
        omega
      · obtain ⟨e, he, hkey⟩ := h9.2 (3 * a + b - 3).toNat (by omega) (by omega)
        refine ⟨e, he, ?_⟩
        rw [hkey, hit_deeds a b ha hb _ (by omega)]
        unfold pOf qOf
        simp only [Bool.and_eq_true, decide_eq_true_eq]
        omega
    obtain ⟨n, hfs⟩ := hfs
    rw [hfs] at hf
    unfold Instr.lookup
    simp only [Sem.run_bind, run_underlying ht, Result.andThen, MapKept.run_getObj_map hm, hc, hf, Sem.run_pure, c]
    rfl
  · have c2 : inDeeds a b = false := by simpa using c
    have hfs : findC (FloatKind.f64.nearest a) (FloatKind.f64.nearest b) es.toList 0 = none := by
      refine findC_none _ _ _ _ fun e he => ?_
      obtain ⟨i, h1, h2, hkey, hval⟩ := h9.1 e he
      rw [hkey, hit_deeds a b ha hb i ⟨h1, h2⟩]
      have c3 : ¬(1 ≤ a ∧ a ≤ 3 ∧ 1 ≤ b ∧ b ≤ 3) := by intro h; unfold inDeeds at c; simp [h] at c
      unfold pOf qOf
      rw [Bool.eq_false_iff]
      intro h
      simp only [Bool.and_eq_true, decide_eq_true_eq] at h
      omega
    rw [hfs] at hf
    have hv : ver a b = 0 := by unfold ver; rw [c2]; rfl
    unfold Instr.lookup
    simp only [Sem.run_bind, run_underlying ht, Result.andThen, MapKept.run_getObj_map hm, hc, hf, Sem.run_pure, c2, hv, hz]
    rfl
theorem verdict_calls (a b : Int) (ha : -9223372036854775808 ≤ a ∧ a ≤ 9223372036854775807) (hb : -9223372036854775808 ≤ b ∧ b ≤ 9223372036854775807) (w : World) :
    Calls Try.prog 16 #[.int .i64 a, .int .i64 b] w fun e w' => e = .returned (.tuple #[.int .i64 (ver a b), .int .i64 (verErr a b)]) ∧ Below w.heap.size w w' := by
  go_enter Try.func16, Try.ntmps16
  go_wp2_with fail
  refine (verdicts_calls w).mono ?_
  rintro e w1 ⟨es, clock, rfl, hb1, hm, h9⟩
  go_wp2_with fail
  refine (both_calls a b w1).mono ?_
  rintro e w2 ⟨rfl, rfl⟩
  have hlk := run_lookup_v a b ha hb w1 _ es clock hm h9
  clear h9 hm
  have hb1' := Aside0.mk hb1
  clear hb1
  obtain ⟨v, hv⟩ : ∃ v, ver a b = v := ⟨_, rfl⟩
  rw [hv] at hlk
  replace hv := Aside0.mk hv
  cases c : inDeeds a b with
  | true =>
    rw [c] at hlk
    have he : verErr a b = 0 := by unfold verErr; rw [c]; rfl
    replace he := Aside0.mk he
    replace c := Aside0.mk c
    go_wp2_with fail
    go_ret2
    exact ⟨by rw [hv.out, he.out]; rfl, hb1'.out⟩
  | false =>
    have hv0 : v = 0 := by rw [← hv.out]; unfold ver; rw [c]; rfl
    subst hv0
    rw [c] at hlk
    have he : verErr a b = 2 := by unfold verErr; rw [c]; rfl
    replace he := Aside0.mk he
    replace c := Aside0.mk c
    go_wp2_with fail
    go_ret2
    exact ⟨by rw [hv.out, he.out]; rfl, hb1'.out⟩
end Go.Proofs.Ytbocbaakknkfiaa
