/- The reference's calls, told at once. -/
import Derived.Test.YtolighikimpbfaaRy
set_option linter.unusedVariables false
set_option linter.unusedSimpArgs false
namespace Go.Proofs.Ytolighikimpbfaa
open Go.RowKit Go.Shelf Go.Proofs.YtolighikimpbfaaW.PrintWords Go.Proofs.YtolighikimpbfaaW.PrintMore

theorem rwrite_calls (O okb : Nat → Prop) (v : Value) (ds : DS) (w : World) (h : Ref w O v ds) (hf : Fine ds) (x : Int) (A' : Option Addr) (c' : Nat) (b : List UInt8) (hbl : b.length ≤ 262144) (hbF : u8.F w okb A' b.length (toI b)) :
    Calls Try.prog 36 #[v, .int .i64 x, .slice A' b.length c'] w fun e w' => ∃ u, e = .returned (.tuple #[u, .int .i64 (ds.write x b).2]) ∧ Ref w' (fun q => O q ∨ w.heap.size ≤ q) u (ds.write x b).1 ∧ Below w.heap.size w w' := by
  unfold DS.write
  by_cases c1 : x < 0 ∨ (ds.now.length : Int) < x ∨ (ds.now.length : Int) - x < b.length
  · rw [if_pos c1]
    exact (rwrite_range O v ds w h hf x A' b.length c' hbl c1).mono (fun e w' ⟨e1, hb⟩ => ⟨v, e1, (h.below hb).mono (fun q hq => .inl hq), hb⟩)
  · obtain ⟨i, rfl⟩ := Int.eq_ofNat_of_zero_le (show 0 ≤ x by omega)
    rw [if_neg c1]
    by_cases c2 : 0 < b.length ∧ ds.limit < (i : Int) + b.length
    · rw [if_pos c2]
      exact (rwrite_full O v ds w h hf i A' b.length c' c2.1 (by omega) c2.2).mono (fun e w' ⟨e1, hb⟩ => ⟨v, e1, (h.below hb).mono (fun q hq => .inl hq), hb⟩)
    · rw [if_neg c2]
      by_cases c3 : ds.armed = 0
      · rw [if_pos c3]
        exact (rwrite_stop O v ds w h c3 hf i A' b.length c' (by omega) (by omega)).mono (fun e w' ⟨e1, hb⟩ => ⟨v, e1, (h.below hb).mono (fun q hq => .inl hq), hb⟩)
      · rw [if_neg c3]
        exact rwrite_yes O okb v ds w h hf c3 i A' c' b hbF (by omega) (by omega)
theorem rsync_calls (O : Nat → Prop) (v : Value) (ds : DS) (w : World) (h : Ref w O v ds) (hf : Fine ds) (hd : Std ds) :
    Calls Try.prog 37 #[v] w fun e w' => ∃ u, e = .returned (.tuple #[u, .int .i64 ds.sync.2]) ∧ Ref w' (fun q => O q ∨ w.heap.size ≤ q) u ds.sync.1 ∧ Below w.heap.size w w' := by
  unfold DS.sync
  by_cases c3 : ds.armed = 0
  · rw [if_pos c3]
    exact (rsync_no O v ds w h c3).mono (fun e w' ⟨e1, hb⟩ => ⟨v, e1, (h.below hb).mono (fun q hq => .inl hq), hb⟩)
  · rw [if_neg c3]
    exact rsync_yes O v ds w h hf hd c3
end Go.Proofs.Ytolighikimpbfaa
