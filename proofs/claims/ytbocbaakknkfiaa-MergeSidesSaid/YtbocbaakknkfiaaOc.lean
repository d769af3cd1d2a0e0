/- merge.verdicts: the map, laid in any order. -/
import Derived.Test.YtbocbaakknkfiaaOb
import Derived.Orders
set_option linter.unusedVariables false
set_option linter.unusedSimpArgs false
namespace Go.Proofs.Ytbocbaakknkfiaa
open Go.RowKit Go.Shelf Go.Proofs.YtbocbaakknkfiaaW.PrintWords Go.Proofs.YtbocbaakknkfiaaW.PrintMore Go.Proofs.YtbocbaakknkfiaaW.PrintLast

theorem mem_ready {ops : Array Oper} {listed : Array Bool} {i : Nat} : i ∈ Region.ready .any ops listed ↔ i < ops.size ∧ listed.getD i true = false ∧ ∃ o, ops[i]? = some o ∧ o.after.all (fun e => !Region.binds .any e || listed.getD e.on false) = true := by
  unfold Region.ready
  rw [List.mem_filter, List.mem_range]
  constructor
  · rintro ⟨h1, h2⟩
    rw [Bool.and_eq_true, Bool.not_eq_true'] at h2
    refine ⟨h1, h2.1, ?_⟩
    have := h2.2
    cases ho : ops[i]? with
    | none => rw [ho] at this; cases this
    | some o => rw [ho] at this; exact ⟨o, rfl, this⟩
  · rintro ⟨h1, h2, o, ho, h3⟩
    refine ⟨h1, ?_⟩
    rw [h2, ho]
    exact h3
theorem getD_tf {l : Array Bool} {i : Nat} (h : i < l.size) : l.getD i true = l.getD i false := by
  simp [Array.getD_eq_getD_getElem?, h]
def oneIf (b : Bool) : Nat := cond b 0 1
theorem oneIf_le (b : Bool) : oneIf b = 0 → b = true := by cases b <;> simp [oneIf]
def left9 (listed : Array Bool) : Nat :=
  oneIf (listed.getD 1 false) + oneIf (listed.getD 2 false) + oneIf (listed.getD 3 false) + oneIf (listed.getD 4 false) + oneIf (listed.getD 5 false) + oneIf (listed.getD 6 false) + oneIf (listed.getD 7 false) + oneIf (listed.getD 8 false) + oneIf (listed.getD 9 false)
theorem left9_zero {listed : Array Bool} (h : left9 listed = 0) : ∀ i, 1 ≤ i → i ≤ 9 → listed.getD i false = true := by
  intro i h1 h9
  unfold left9 at h
  have h2 : i = 1 ∨ i = 2 ∨ i = 3 ∨ i = 4 ∨ i = 5 ∨ i = 6 ∨ i = 7 ∨ i = 8 ∨ i = 9 := by omega
  rcases h2 with rfl | rfl | rfl | rfl | rfl | rfl | rfl | rfl | rfl <;> exact oneIf_le _ (by omega)
theorem left9_succ {listed : Array Bool} {n : Nat} (h : left9 listed = n + 1) : ∃ i, 1 ≤ i ∧ i ≤ 9 ∧ listed.getD i false = false := by
  by_cases c : ∃ i, 1 ≤ i ∧ i ≤ 9 ∧ listed.getD i false = false
  · exact c
  · exfalso
    have hz : ∀ i, 1 ≤ i → i ≤ 9 → oneIf (listed.getD i false) = 0 := fun i h1 h9 => by
      cases hx : listed.getD i false with
      | true => rfl
      | false => exact absurd ⟨i, h1, h9, hx⟩ c
    unfold left9 at h
    rw [hz 1 (by omega) (by omega), hz 2 (by omega) (by omega), hz 3 (by omega) (by omega), hz 4 (by omega) (by omega), hz 5 (by omega) (by omega), hz 6 (by omega) (by omega), hz 7 (by omega) (by omega), hz 8 (by omega) (by omega), hz 9 (by omega) (by omega)] at h
    omega
theorem left9_set {listed : Array Bool} {n i : Nat} (h : left9 listed = n + 1) (h1 : 1 ≤ i) (h9 : i ≤ 9) (hl : listed.getD i false = false) (hsz : listed.size = 12) : left9 (listed.setIfInBounds i true) = n := by
  unfold left9 at *
  have e : ∀ j, (listed.setIfInBounds i true).getD j false = (if i = j then true else listed.getD j false) := fun j => getD_set _ _ _ (by omega)
  simp only [e]
  have h2 : i = 1 ∨ i = 2 ∨ i = 3 ∨ i = 4 ∨ i = 5 ∨ i = 6 ∨ i = 7 ∨ i = 8 ∨ i = 9 := by omega
  have o1 : oneIf true = 0 := rfl
  have o0 : oneIf false = 1 := rfl
  rcases h2 with rfl | rfl | rfl | rfl | rfl | rfl | rfl | rfl | rfl <;> (rw [hl] at h; simp only [if_true, reduceIte, o1, o0, Nat.reduceEqDiff, if_false] at h ⊢; omega)
theorem nine_any {P : Program} {ops : Array Oper} {Q : Exit → Act → World → Prop} {r : Nat} {t k v : TypeId} {a : Act} {w0 : World} (ht : P.underlying t = some (.map k v)) (hk : P.underlying k = some (.complex .f64))
    (hsize : ops.size = 12)
    (hins : ∀ i, 1 ≤ i → i ≤ 9 → ∃ o, ops[i]? = some o ∧ o.dst = none ∧ o.op = .insert t (.tmp 1) (.const (keyOf i)) (.const (valOf i)) ∧ o.guard = none ∧ ∀ e ∈ o.after.toList, e.on = 0)
    (hten : ∃ o, ops[10]? = some o ∧ ∀ i, 1 ≤ i → i ≤ 9 → ∃ e ∈ o.after.toList, e.on = i ∧ Region.binds .any e = true)
    (hel : ∃ o, ops[11]? = some o ∧ ∃ e ∈ o.after.toList, e.on = 10 ∧ Region.binds .any e = true)
    (ha : a.eval (.tmp 1) = .map (some r)) (hr : w0.heap.size ≤ r)
    (hend : ∀ w es clock, w.heap[r]? = some (.map es clock) → AllNine es → Below w0.heap.size w0 w → wpAny P .any ops Q 2 #[true, true, true, true, true, true, true, true, true, true, false, false] a w) :
    ∀ (n : Nat) (listed : Array Bool) (w : World) (es : Array MapEntry) (clock : Nat), listed.size = 12 → listed.getD 0 false = true → listed.getD 10 false = false → listed.getD 11 false = false → left9 listed = n →
      w.heap[r]? = some (.map es clock) → InMap listed es → Below w0.heap.size w0 w → wpAny P .any ops Q (n + 2) listed a w
  | 0, listed, w, es, clock, hs, l0, l10, l11, hn, hb, hm, hB => by
    have hall := left9_zero hn
    have e : listed = #[true, true, true, true, true, true, true, true, true, true, false, false] := by
      refine Array.ext (by rw [hs]; rfl) fun i h1 h2 => ?_
      have hg : listed[i] = listed.getD i false := by simp [Array.getD_eq_getD_getElem?, h1]
      rw [hg]
      have : i = 0 ∨ i = 1 ∨ i = 2 ∨ i = 3 ∨ i = 4 ∨ i = 5 ∨ i = 6 ∨ i = 7 ∨ i = 8 ∨ i = 9 ∨ i = 10 ∨ i = 11 := by omega
      rcases this with rfl | rfl | rfl | rfl | rfl | rfl | rfl | rfl | rfl | rfl | rfl | rfl
      · exact l0
      · exact hall 1 (by omega) (by omega)
      · exact hall 2 (by omega) (by omega)
      · exact hall 3 (by omega) (by omega)
      · exact hall 4 (by omega) (by omega)
      · exact hall 5 (by omega) (by omega)
      · exact hall 6 (by omega) (by omega)
      · exact hall 7 (by omega) (by omega)
      · exact hall 8 (by omega) (by omega)
      · exact hall 9 (by omega) (by omega)
      · exact l10
      · exact l11
    rw [e]
    refine hend w es clock hb ⟨fun x hx => ?_, fun i h1 h9 => hm.2 i h1 h9 (hall i h1 h9)⟩ hB
    obtain ⟨i, h1, h9, _, h2, h3⟩ := hm.1 x hx
    exact ⟨i, h1, h9, h2, h3⟩
  | n + 1, listed, w, es, clock, hs, l0, l10, l11, hn, hb, hm, hB => by
    refine ⟨fun h => ?_, fun i hi => ?_⟩
    · obtain ⟨i, h1, h9, hl⟩ := left9_succ hn
      obtain ⟨o, ho, _, _, _, haf⟩ := hins i h1 h9
      have : i ∈ Region.ready .any ops listed := mem_ready.2 ⟨by omega, by rw [getD_tf (by omega)]; exact hl, o, ho, by
        rw [Array.all_eq_true_iff_forall_mem]
        intro e he
        rw [haf e (by simpa using he), l0]; simp⟩
      rw [h] at this; cases this
    · obtain ⟨hlt, hl, o, ho, haf⟩ := mem_ready.1 hi
      rw [getD_tf (by omega)] at hl
      rw [Array.all_eq_true_iff_forall_mem] at haf
      have hne0 : i ≠ 0 := by rintro rfl; rw [l0] at hl; cases hl
      have hne10 : i ≠ 10 := by
        rintro rfl
        obtain ⟨j, h1, h9, hj⟩ := left9_succ hn
        obtain ⟨o2, ho2, hall⟩ := hten
        rw [ho] at ho2; injection ho2 with ho2; subst ho2
        obtain ⟨e, he, heq, hbi⟩ := hall j h1 h9
        have := haf e (by simpa using he)
        rw [hbi, heq, hj] at this; cases this
      have hne11 : i ≠ 11 := by
        rintro rfl
        obtain ⟨o2, ho2, e, he, heq, hbi⟩ := hel
        rw [ho] at ho2; injection ho2 with ho2; subst ho2
        have := haf e (by simpa using he)
        rw [hbi, heq, l10] at this; cases this
      have h19 : 1 ≤ i ∧ i ≤ 9 := by omega
      obtain ⟨o2, ho2, hd, hop, hg, _⟩ := hins i h19.1 h19.2
      rw [ho] at ho2; injection ho2 with ho2; subst ho2
      obtain ⟨hrun, hm2⟩ := run_insert_c (P := P) (w := w) (clock := clock) ht hk hb hm h19 hl (by omega)
      unfold wpOp
      rw [ho]
      dsimp only
      have hw : Region.wanted o (yielded ops a.tmps) = true := by unfold Region.wanted; rw [hg]
      rw [if_pos hw]
      left
      unfold Oper.wp
      have hx : (execOp a.eval o).run P w = .ok .skip { w with heap := w.heap.setIfInBounds r (.map (es.push { key := keyOf i, val := valOf i, born := clock }) (clock + 1)) } := by
        unfold execOp
        rw [hop]
        dsimp only
        rw [ha]
        show (Instr.mapUpdate t (.map (some r)) (keyOf i) (valOf i) >>= fun _ => pure Next.skip).run P w = _
        rw [Sem.run_bind, hrun]
        rfl
      rw [hx, Oper.upon_skip, hd]
      show wpAny P .any ops Q (n + 2) (listed.setIfInBounds i true) a _
      refine nine_any ht hk hsize hins hten hel ha hr hend n _ _ _ _ (by simpa using hs) (by rw [getD_set _ _ _ (by omega), if_neg (by omega)]; exact l0) (by rw [getD_set _ _ _ (by omega), if_neg (by omega)]; exact l10) (by rw [getD_set _ _ _ (by omega), if_neg (by omega)]; exact l11)
        (left9_set hn h19.1 h19.2 hl hs) (MapKept.heap_set hb).1 hm2 ⟨hB.os, hB.tape, hB.output, by simpa using hB.size, fun j hj => ?_⟩
      rw [show ({ w with heap := w.heap.setIfInBounds r (.map (es.push { key := keyOf i, val := valOf i, born := clock }) (clock + 1)) } : World).heap[j]? = w.heap[j]? from (MapKept.heap_set hb).2 j (by omega)]
      exact hB.block j hj
end Go.Proofs.Ytbocbaakknkfiaa
