/- The word behind a turn, and the table of the words. -/
import Derived.Test.YtabejlldemhfaaaProg
import Derived.Test.YtabejlldemhfaaaCm
import Derived.Deep.WholeRow
import Derived.Deep.LoopGhost
set_option linter.unusedVariables false
set_option linter.unusedSimpArgs false
namespace Go.Proofs.Ytabejlldemhfaaa
open Go.RowKit Go.Proofs.YtabejlldemhfaaaW.PrintWords

set_option maxHeartbeats 400000 in
theorem turn_calls (x : Nat) (h1 : x < 4294967296) (w : World) :
    Calls Try.prog 23 #[.int .u32 (x : Int)] w fun e w' => e = .returned (.int .u32 ((T x : Nat) : Int)) ∧ w = w' := by
  have hb := bits_and_one x h1
  by_cases h : x % 2 = 1
  · have hc : (bits .and .u32 (x : Int) 1 == 1) = true := by rw [hb, h]; rfl
    have hx := Aside0.mk (bits_xor_nat (x / 2) 3988292384 (by omega) (by omega))
    clear hb
    go_enter Try.func23, Try.ntmps23
    go_wp2
    go_ret
    refine ⟨?_, rfl⟩
    have := hx.out
    simp only [T, if_pos h]
    rw [← this]
    rfl
  · have hc : (bits .and .u32 (x : Int) 1 == 1) = false := by rw [hb, show x % 2 = 0 by omega]; rfl
    clear hb
    go_enter Try.func23, Try.ntmps23
    go_wp2
    go_ret
    refine ⟨?_, rfl⟩
    simp only [T, if_neg h]
    rfl

theorem below_setRow {b : Nat} {a w : World} (h : Below b a w) {g : Nat} (hg : b ≤ g) (cs : Array Value) : Below b a (w.setRow g cs) :=
  ⟨h.os, h.tape, h.output, by simp; exact h.size, fun k hk => (setRow_other w g k cs (by omega)).trans (h.block k hk)⟩
theorem zv46 : (Try.prog.info? 46).map (fun i => (i.zero, i.size)) = some (some (.agg (Array.replicate 256 (.int .u32 0))), 256) := by kernel_rfl

set_option maxHeartbeats 1000000 in
set_option maxRecDepth 100000 in
theorem words_calls (w : World) :
    Calls Try.prog 21 #[] w fun e w' => e = .returned (.agg (cellsAt 256)) ∧ Below w.heap.size w w' := by
  obtain ⟨hv46, hi46⟩ := zero_of_info zv46
  go_enter Try.func21, Try.ntmps21
  go_wp2
  have hz := cellsAt_zero
  rw [← hz]
  clear hz
  obtain ⟨B, hB⟩ : ∃ B, w.heap.size = B := ⟨_, rfl⟩
  have hw0 : Below w.heap.size w ((w.alloc (.cells (cellsAt 0) 46)).alloc (.cells (cellsAt 0) 46)) := ((Below.refl _ _).alloc (Nat.le_refl _) _).alloc (by simp) _
  have h1 : ((w.alloc (.cells (cellsAt 0) 46)).alloc (.cells (cellsAt 0) 46)).heap[B]? = some (.cells (cellsAt 0) 46 (0, 0)) := by rw [← hB]; exact heap_alloc2_old _ _ _
  have h2 : ((w.alloc (.cells (cellsAt 0) 46)).alloc (.cells (cellsAt 0) 46)).heap[B + 1]? = some (.cells (cellsAt 0) 46 (0, 0)) := by rw [← hB]; exact heap_alloc2_new _ _ _
  have hw0 := Aside0.mk hw0
  have h1 := Aside0.mk h1
  have h2 := Aside0.mk h2
  rw [hB]
  have hB := Aside0.mk hB
  go_loopw [5] (fun s5 wr => ∃ k : Nat, k ≤ 256 ∧ s5 = .int .i64 k ∧ Aside0 (wr.heap[B]? = some (.cells (cellsAt 0) 46 (0, 0))) ∧ Aside0 (wr.heap[B + 1]? = some (.cells (cellsAt k) 46 (0, 0))) ∧ Aside0 (Below w.heap.size w wr)) (fun s5 _ => 256 - (intOf s5).toNat)
  case atStart => exact ⟨0, Nat.zero_le _, rfl, h1, h2, hw0⟩
  case round =>
    clear h1 h2 hw0
    obtain ⟨k, hk, rfl, h1, h2, hw0⟩ := hrel
    by_cases hlt : k < 256
    · obtain ⟨wo, hwo⟩ : ∃ wo : World, wo = wr := ⟨_, rfl⟩
      rw [← hwo] at h1 h2 hw0 ⊢
      clear hwo
      have hdk : decide ((k : Int) < 256) = true := by simp; omega
      go_wp2
      go_loop [4, 10] (fun v i => ∃ m : Nat, m ≤ 8 ∧ i = .int .i64 m ∧ v = .int .u32 ((Tn m k : Nat) : Int)) (fun _ i => 8 - (intOf i).toNat)
      case atStart => exact ⟨0, Nat.zero_le _, rfl, rfl⟩
      case round =>
        obtain ⟨m, hm, rfl, rfl⟩ := hrel
        have hb := Tn_lt m (x := k) (by omega)
        by_cases hmm : m < 8
        · go_wp2_with (go_at_call 23; refine (turn_calls _ hb _).mono ?_; rintro e w' ⟨rfl, rfl⟩)
          go_round
          case rel => exact ⟨m + 1, by omega, by go_num, by rw [Tn_succ]⟩
          case measure => simp [intOf]; omega
        · obtain rfl : m = 8 := by omega
          have hc : wo.cell? ⟨B + 1, k, none⟩ = some (.int .u32 0) := by
            rw [cell_of_row _ _ _ _ _ _ h2.out, cellsAt_at _ _ hlt, if_neg (by omega)]
          have hf : wo.frozen? ⟨B + 1, k, none⟩ = false := frozen_of_row _ _ _ _ _ h2.out
          go_wp2
          go_roundw
          case rel =>
            refine ⟨k + 1, by omega, by go_num, ⟨?_⟩, ⟨?_⟩, ⟨?_⟩⟩
            · rw [heap_setCell_other _ _ _ _ (by simp)]; exact h1.out
            · rw [heap_setCell_same _ _ _ _ _ _ h2.out, cellsAt_set _ hlt]
            · exact hw0.out.setCell (by have := hB.out; simp; omega) _
          case measure => simp [intOf]; omega
    · obtain rfl : k = 256 := by omega
      go_wp2_with (first
        | (with_reducible refine wpList_load_row rfl 46 _ rfl (B + 1) rfl 46 (cellsAt 256) _ _ h2.out Try.underlying46 rfl (by rw [cellsAt_size]; exact hi46) ?_)
        | (with_reducible refine wpList_store_row rfl 46 _ _ rfl B (cellsAt 256) rfl rfl 46 (cellsAt 0) h1.out (by rw [cellsAt_size]; exact hi46) (by rw [cellsAt_size, cellsAt_size]) (cellsAt_one _) ?_))
      refine bodyPost_ret (v := .agg (cellsAt 256)) ?_ rfl ⟨rfl, ?_⟩
      · exact results_cell_row rfl _ _ B 46 (cellsAt 256) (0, 0) _ rfl (setRow_heap _ _ _ _ _ _ h1.out) Try.underlying46 rfl (by rw [cellsAt_size]; exact hi46)
      · exact below_setRow hw0.out (by have := hB.out; omega) _
end Go.Proofs.Ytabejlldemhfaaa
