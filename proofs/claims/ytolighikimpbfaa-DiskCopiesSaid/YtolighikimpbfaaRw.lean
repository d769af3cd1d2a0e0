/- The reference: New, Pick, Write refused. -/
import Derived.Test.YtolighikimpbfaaRs
set_option linter.unusedVariables false
set_option linter.unusedSimpArgs false
namespace Go.Proofs.Ytolighikimpbfaa
open Go.RowKit Go.Shelf Go.Proofs.YtolighikimpbfaaW.PrintWords Go.Proofs.YtolighikimpbfaaW.PrintMore

set_option maxHeartbeats 1000000 in
theorem rpick_calls (k : Int) (n : Nat) (h0 : -9223372036854775808 ≤ k) (h1 : k ≤ 9223372036854775807) (hn : n ≤ 1000000) (w : World) :
    Calls Try.prog 49 #[.int .i64 k, .int .i64 (n : Int)] w fun e w' => e = .returned (.int .i64 (pickN k n : Int)) ∧ w = w' := by
  have hb := tmod_bounds k ((n : Int) + 1) (by omega)
  have hp := tmod_pick k n
  rw [Int.tmod_eq_emod_of_nonneg (by omega)] at hp
  by_cases hz : k.tmod ((n : Int) + 1) < 0
  · have hd : decide (k.tmod ((n : Int) + 1) < 0) = true := by simpa using hz
    have he := Aside0.mk (show k.tmod ((n : Int) + 1) + n + 1 = pickN k n by
      rw [← hp, Int.emod_eq_of_lt (by omega) (by omega)])
    clear hp
    go_enter Try.func49, Try.ntmps49
    go_wp2
    go_ret
    refine ⟨?_, rfl⟩
    rw [← he.out]
    rfl
  · have hd : decide (k.tmod ((n : Int) + 1) < 0) = false := by simpa using hz
    have he := Aside0.mk (show k.tmod ((n : Int) + 1) = pickN k n by
      rw [← hp, show k.tmod ((n : Int) + 1) + n + 1 = k.tmod ((n : Int) + 1) + ((n : Int) + 1) * 1 by omega, Int.add_mul_emod_self_left, Int.emod_eq_of_lt (by omega) (by omega)])
    clear hp
    go_enter Try.func49, Try.ntmps49
    go_wp2
    go_ret
    refine ⟨?_, rfl⟩
    rw [← he.out]
    rfl
set_option maxHeartbeats 1000000 in
theorem rwrite_range (O : Nat → Prop) (v : Value) (ds : DS) (w : World) (h : Ref w O v ds) (hf : Fine ds) (x : Int) (A' : Option Addr) (m c' : Nat) (hm : m ≤ 262144) (hx : x < 0 ∨ ds.now.length < x ∨ ds.now.length - x < m) :
    Calls Try.prog 36 #[v, .int .i64 x, .slice A' m c'] w fun e w' => e = .returned (.tuple #[v, .int .i64 4]) ∧ Below w.heap.size w w' := by
  obtain ⟨A, c, A2, c2, rfl, h1, h2, h3, h4⟩ := h
  rw [← hf.las] at hx
  have hll : ds.lasts.length ≤ 262144 := by have := hf.las; have := hf.len; omega
  clear h3 h4 hf h2
  generalize ds.lasts.length = n1 at *
  generalize ds.waits.length = n2 at *
  have dd : decide (x < 0) = true ∨ (decide (x < 0) = false ∧ 0 ≤ x ∧ decide ((n1 : Int) < x) = true) ∨ (decide (x < 0) = false ∧ 0 ≤ x ∧ decide ((n1 : Int) < x) = false ∧ x ≤ n1 ∧ decide ((n1 : Int) - x < m) = true) := by
    by_cases h1 : x < 0
    · exact .inl (by simpa using h1)
    · by_cases h2 : n1 < x
      · exact .inr (.inl ⟨by simpa using h1, by omega, by simpa using h2⟩)
      · exact .inr (.inr ⟨by simpa using h1, by omega, by simpa using h2, by omega, by simp; omega⟩)
  clear hx
  rcases dd with d1 | ⟨d1, _, d2⟩ | ⟨d1, _, d2, _, d3⟩
  all_goals (
    go_enter Try.func36, Try.ntmps36
    go_wp2
    exact bodyPost_ret (results_ct rfl _ _ (w.heap.size + 1) 45 _ (0, 0) _ rfl (last_new _ _ _) Try.underlying45 rfl size45) rfl ⟨rfl, below_alloc (below_alloc (Below.refl _ _) _) _⟩)
set_option maxHeartbeats 1000000 in
theorem rwrite_full (O : Nat → Prop) (v : Value) (ds : DS) (w : World) (h : Ref w O v ds) (hf : Fine ds) (i : Nat) (A' : Option Addr) (m c' : Nat) (hm : 0 < m) (hx : i + m ≤ ds.now.length) (hl : ds.limit < i + m) :
    Calls Try.prog 36 #[v, .int .i64 i, .slice A' m c'] w fun e w' => e = .returned (.tuple #[v, .int .i64 110]) ∧ Below w.heap.size w w' := by
  obtain ⟨A, c, A2, c2, rfl, h1, h2, h3, h4⟩ := h
  rw [← hf.las] at hx
  have hll : ds.lasts.length ≤ 262144 := by have := hf.las; have := hf.len; omega
  clear h3 h4 hf h2
  generalize ds.lasts.length = n1 at *
  generalize ds.waits.length = n2 at *
  have d1 : decide ((i : Int) < 0) = false := by simp
  have d2 : decide ((n1 : Int) < (i : Int)) = false := by simp; omega
  have d3 : decide ((n1 : Int) - (i : Int) < (m : Int)) = false := by simp; omega
  have d5 : decide (ds.limit < (i : Int) + (m : Int)) = true := by simp; omega
  clear hl
  go_enter Try.func36, Try.ntmps36
  go_wp2
  exact bodyPost_ret (results_ct rfl _ _ (w.heap.size + 1) 45 _ (0, 0) _ rfl (last_new _ _ _) Try.underlying45 rfl size45) rfl ⟨rfl, below_alloc (below_alloc (Below.refl _ _) _) _⟩
set_option maxHeartbeats 1000000 in
theorem rnew_yes (m : Nat) (h1 : 1 ≤ m) (h2 : m ≤ 262144) (w : World) :
    Calls Try.prog 19 #[.int .i64 (m : Int)] w fun e w' => ∃ u, e = .returned (.tuple #[u, .int .i64 0]) ∧ Ref w' (fun q => w.heap.size ≤ q) u (fresh m) ∧ Below w.heap.size w w' := by
  have hmk := print_make (P := Try.prog) 31 5 .u8 1 Try.underlying31 info5 (by decide) m (by omega)
  have d1 : decide ((m : Int) < 1) = false := by simp; omega
  have d2 : decide ((262144 : Int) < (m : Int)) = false := by simp; omega
  go_enter Try.func19, Try.ntmps19
  go_wp2
  have hz := R_zeros (w.alloc (.cells #[.slice (some ⟨w.heap.size + 1, 0, none⟩) m m, .slice none 0 0, .int .i64 (-1), .int .i64 (m : Int), .int .i64 0] 45)) m (by omega)
  rw [World.size_alloc] at hz
  refine bodyPost_ret (results_ct rfl _ _ w.heap.size 45 #[.slice (some ⟨w.heap.size + 1, 0, none⟩) m m, .slice none 0 0, .int .i64 (-1), .int .i64 (m : Int), .int .i64 0] (0, 0) _ rfl (Mod.blk (S := fun _ => False) ((Mod.refl _ _).alloc _) (Go.heap_alloc_new w _) (fun h => h)) Try.underlying45 rfl size45) rfl
    ⟨_, rfl, ⟨some ⟨w.heap.size + 1, 0, none⟩, m, none, 0, ?_, ?_, Nat.le_refl _, ?_, Kd.F_nil _ _ _⟩, below_alloc (below_alloc (Below.refl _ _) _) _⟩
  · show _ = Value.agg #[.slice _ (List.replicate m (0 : UInt8)).length m, _, _, _, _]
    rw [List.length_replicate]; rfl
  · show (List.replicate m (0 : UInt8)).length ≤ m
    rw [List.length_replicate]; exact Nat.le_refl _
  · have h9 := Kd.F_mono (Kd.R_F hz) (ok' := fun q => w.heap.size ≤ q) (fun q hq => by omega)
    show u8.F _ _ _ (List.replicate m (0 : UInt8)).length _
    rw [List.length_replicate]
    exact h9
theorem rnew_no (m : Int) (h1 : m < 1 ∨ 262144 < m) (w : World) :
    Calls Try.prog 19 #[.int .i64 m] w fun e w' => ∃ u, e = .returned (.tuple #[u, .int .i64 2]) ∧ Below w.heap.size w w' := by
  by_cases h : m < 1
  · have d1 : decide (m < 1) = true := by simp; omega
    go_enter Try.func19, Try.ntmps19
    go_wp2
    exact bodyPost_ret (results_ct rfl _ _ w.heap.size 45 #[.slice none 0 0, .slice none 0 0, .int .i64 0, .int .i64 0, .int .i64 0] (0, 0) _ rfl (Go.heap_alloc_new w _) Try.underlying45 rfl size45) rfl ⟨.agg #[.slice none 0 0, .slice none 0 0, .int .i64 0, .int .i64 0, .int .i64 0], rfl, below_alloc (Below.refl _ _) _⟩
  · have d1 : decide (m < 1) = false := by simp; omega
    have d2 : decide (262144 < m) = true := by simp; omega
    go_enter Try.func19, Try.ntmps19
    go_wp2
    exact bodyPost_ret (results_ct rfl _ _ w.heap.size 45 #[.slice none 0 0, .slice none 0 0, .int .i64 0, .int .i64 0, .int .i64 0] (0, 0) _ rfl (Go.heap_alloc_new w _) Try.underlying45 rfl size45) rfl ⟨⟨.agg #[.slice none 0 0, .slice none 0 0, .int .i64 0, .int .i64 0, .int .i64 0], rfl⟩, below_alloc (Below.refl _ _) _⟩
end Go.Proofs.Ytolighikimpbfaa
