/- A sum that is not there answers ErrNil: the walk of the statement. -/
import Derived.Test.YtabejlldemhfaaaCa
import Derived.Test.YtabejlldemhfaaaOp
set_option linter.unusedVariables false
set_option linter.unusedSimpArgs false
namespace Go.Proofs.Ytabejlldemhfaaa
open Go.RowKit Go.Proofs.YtabejlldemhfaaaW.PrintWords

set_option maxHeartbeats 1000000 in
theorem crcNil_row (w : World) (A : Option Addr) (c : Nat) (l : List Int) (_ : l.length ≤ c) (hm : c ≤ maxLen) (_ : Kd.C (Kd.int .u8) w A l.length l) (_ : ∀ y ∈ l, (Lit.int .u8 y).wf = true) :
    Calls Try.prog 5 #[.slice A l.length c] w fun e w' => e = .returned (.bool true) ∧ Below w.heap.size w w' := by
  obtain ⟨n, hn⟩ : ∃ n, l.length = n := ⟨_, rfl⟩
  rw [hn]
  by_cases h : n > 100
  · have hd : decide (100 < (n : Int)) = true := by simp; omega
    have hd2 : decide (100 < n) = true := by simp; omega
    go_enter Try.func5, Try.ntmps5
    go_wp2_with (go_at_call 8; refine (known_calls _).mono ?_; rintro e w2 ⟨rfl, hb2⟩; replace hb2 := Aside0.mk hb2)
    go_ret
    exact ⟨rfl, hb2.out⟩
  · have hd : decide (100 < (n : Int)) = false := by simp; omega
    have hd2 : decide (100 < n) = false := by simp; omega
    have hz : (w.alloc (.cells #[.int .u32 0, .int .i64 0, .bool false] 37)).cell? ⟨w.heap.size, 2, none⟩ = some (.bool false) := (cell_of_row _ _ _ _ _ _ (Go.heap_alloc_new w _)).trans rfl
    have hN0 := Aside0.mk (noneIs_nil (w.alloc (.cells #[.int .u32 0, .int .i64 0, .bool false] 37)))
    have hN1 := Aside0.mk (noneIs_not w.heap.size _ hz)
    clear hz
    go_enter Try.func5, Try.ntmps5
    go_wp2_with fail
    refine (write_not none A n c _ hN0.out).mono ?_
    rintro e w1 ⟨rfl, rfl⟩
    go_wp2_with fail
    refine (write_not (some ⟨w.heap.size, 0, none⟩) A n c _ hN1.out).mono ?_
    rintro e w1 ⟨rfl, rfl⟩
    go_wp2_with fail
    refine (asum_not none _ hN0.out).mono ?_
    rintro e w1 ⟨rfl, rfl⟩
    go_wp2_with fail
    refine (asum_not (some ⟨w.heap.size, 0, none⟩) _ hN1.out).mono ?_
    rintro e w1 ⟨rfl, rfl⟩
    go_wp2_with fail
    refine (alen_not none _ hN0.out).mono ?_
    rintro e w1 ⟨rfl, rfl⟩
    go_wp2_with fail
    refine (acopy_not (some ⟨w.heap.size, 0, none⟩) _ hN1.out).mono ?_
    rintro e w1 ⟨rfl, rfl⟩
    go_wp2_with fail
    refine (known_calls _).mono ?_
    rintro e w2 ⟨rfl, hb2⟩
    have hb2 := Aside0.mk hb2
    go_wp2_with fail
    go_ret
    exact ⟨rfl, ((Below.refl _ w).alloc (Nat.le_refl _) _).trans (hb2.out.mono (by simp))⟩
end Go.Proofs.Ytabejlldemhfaaa
