/- A disk is made, written, synced. -/
import Derived.Test.YtolighikimpbfaaDr
import Derived.StillTailTactics
set_option linter.unusedVariables false
set_option linter.unusedSimpArgs false
namespace Go.Proofs.Ytolighikimpbfaa
open Go.RowKit Go.Shelf Go.Proofs.YtolighikimpbfaaW.PrintWords Go.Proofs.YtolighikimpbfaaW.PrintMore
attribute [local go_sem] max2_int min2_int max_two min_two

theorem R_zeros (w : World) (m : Nat) (hm : m ≤ 9223372036854775807) :
    u8.R 5 (w.alloc (.cells (madeCells #[.int .u8 0] m) 5)) 0 (fun q => q = w.heap.size) (.slice (some ⟨w.heap.size, 0, none⟩) m m) (toI (List.replicate m 0)) := by
  have := own_made' w 0 5 .u8 m (Nat.zero_le _) hm
  have h2 : toI (List.replicate m 0) = List.replicate m (0:Int) := by simp [toI]
  rw [h2]
  exact Kd.R_of_own this (fun k hk => by simp [Value.ownBlock] at hk; exact hk.symm)
/-- A disk that is new. -/
def fresh (m : Nat) : DS := ⟨List.replicate m 0, List.replicate m 0, [], -1, m, 0⟩
theorem new_mem (w w2 : World) (m a b : Nat) (h1 : 1 ≤ m) (hne : a ≠ b) (ha : u8.R 5 w2 0 (fun q => q = a) (.slice (some ⟨a, 0, none⟩) m m) (toI (List.replicate m 0)))
    (hb : u8.R 5 w2 0 (fun q => q = b) (.slice (some ⟨b, 0, none⟩) m m) (toI (List.replicate m 0))) (h2 : Below w.heap.size w w2) (hla : w.heap.size ≤ a) (hlb : w.heap.size ≤ b) (hsa : a < w2.heap.size) (hsb : b < w2.heap.size) (g : Nat) (hg : w2.heap.size = g) :
    ∃ S RO, Dk (w2.alloc (.cells #[.slice (some ⟨a, 0, none⟩) m m, .slice (some ⟨b, 0, none⟩) m m, .slice none 0 0, .int .i64 (-1), .int .i64 m, .int .i64 0] 65 (0, 0))) S RO g (fresh m) ∧ (∀ q, S q ∨ RO q → w.heap.size ≤ q) ∧
      Below w.heap.size w (w2.alloc (.cells #[.slice (some ⟨a, 0, none⟩) m m, .slice (some ⟨b, 0, none⟩) m m, .slice none 0 0, .int .i64 (-1), .int .i64 m, .int .i64 0] 65 (0, 0))) := by
  subst hg
  have hsz := h2.size
  refine ⟨fun q => q = a ∨ q = w2.heap.size, fun q => q = b, ⟨a, m, .slice (some ⟨b, 0, none⟩) m m, .slice none 0 0, ?_⟩, ?_, h2.alloc h2.size _⟩
  · have hm : Mod (fun _ => False) w2 (w2.alloc (.cells #[.slice (some ⟨a, 0, none⟩) m m, .slice (some ⟨b, 0, none⟩) m m, .slice none 0 0, .int .i64 (-1), .int .i64 m, .int .i64 0] 65 (0, 0))) := (Mod.refl _ _).alloc _
    refine ⟨?_, .inr rfl, .inl rfl, by omega, by simp [fresh]; omega, ?_, ?_, R_mod hb hm (fun _ _ h => h), ?_, Kd.R_nil _ _ _ _ _⟩
    · rw [Go.heap_alloc_new]; simp [fresh]
    · rintro q rfl (h | h)
      · exact hne h.symm
      · omega
    · have := R_mod ha hm (fun _ _ h => h)
      simpa [fresh] using this
    · intro q hq; simp [Value.ownBlock] at hq
  · rintro q ((h | h) | h) <;> omega
set_option maxHeartbeats 1000000 in
theorem new_yes (m : Nat) (h1 : 1 ≤ m) (h2 : m ≤ 262144) (w : World) :
    Calls Try.prog 11 #[.int .i64 (m : Int)] w fun e w' => ∃ g S RO, e = .returned (.tuple #[.pointer (some ⟨g, 0, none⟩), .int .i64 0]) ∧ Dk w' S RO g (fresh m) ∧ (∀ q, S q ∨ RO q → w.heap.size ≤ q) ∧ Below w.heap.size w w' := by
  have hmk := print_make (P := Try.prog) 31 5 .u8 1 Try.underlying31 info5 (by decide) m (by omega)
  have d1 : decide ((m : Int) < 1) = false := by simp; omega
  have d2 : decide ((262144 : Int) < (m : Int)) = false := by simp; omega
  have hb := Aside0.mk (below_alloc (below_alloc (Below.refl w.heap.size w) (.cells (madeCells #[Value.int .u8 0] m) 5)) (.cells (madeCells #[Value.int .u8 0] m) 5))
  have r1 := Aside0.mk (R_mod (R_zeros w m (by omega)) ((Mod.refl (fun _ => False) _).alloc (.cells (madeCells #[Value.int .u8 0] m) 5)) (fun _ _ h => h))
  have r2 := R_zeros (w.alloc (.cells (madeCells #[Value.int .u8 0] m) 5)) m (by omega)
  rw [World.size_alloc] at r2
  have r2 := Aside0.mk r2
  go_enter Try.func11, Try.ntmps11
  go_wp2
  all_goals go_region
  all_goals go_wp2
  all_goals go_ret2
  · obtain ⟨S, RO, k1, k2, k3⟩ := new_mem w _ m _ _ h1 (by omega) r1.out r2.out hb.out (by omega) (by omega) (by simp; omega) (by simp) _ (by simp; rfl)
    exact ⟨_, S, RO, rfl, Dk.mod k1 (M := fun _ => False) (Mod.refl _ _).drew (fun _ _ h => h), k2, below_drew k3⟩
  · obtain ⟨S, RO, k1, k2, k3⟩ := new_mem w _ m _ _ h1 (by omega) r2.out r1.out hb.out (by omega) (by omega) (by simp) (by simp; omega) _ (by simp; rfl)
    exact ⟨_, S, RO, rfl, Dk.mod k1 (M := fun _ => False) (Mod.refl _ _).drew (fun _ _ h => h), k2, below_drew k3⟩
theorem new_no (m : Int) (h1 : m < 1 ∨ 262144 < m) (w : World) :
    Calls Try.prog 11 #[.int .i64 m] w fun e w' => e = .returned (.tuple #[.pointer none, .int .i64 2]) ∧ w = w' := by
  by_cases h : m < 1
  · have d1 : decide (m < 1) = true := by simp; omega
    go_enter Try.func11, Try.ntmps11
    go_wp2
    go_ret2
    exact ⟨rfl, rfl⟩
  · have d1 : decide (m < 1) = false := by simp; omega
    have d2 : decide (262144 < m) = true := by simp; omega
    go_enter Try.func11, Try.ntmps11
    go_wp2
    go_ret2
    exact ⟨rfl, rfl⟩
end Go.Proofs.Ytolighikimpbfaa
