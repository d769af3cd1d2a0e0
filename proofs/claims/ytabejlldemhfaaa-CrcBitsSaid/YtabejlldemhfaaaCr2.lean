/- Texts that differ within 32 bits have unlike sums: whatever can be read. -/
import Derived.Test.YtabejlldemhfaaaCl2
set_option linter.unusedVariables false
set_option linter.unusedSimpArgs false
namespace Go.Proofs.Ytabejlldemhfaaa
open Go.RowKit Go.Proofs.YtabejlldemhfaaaW.PrintWords

set_option maxHeartbeats 1000000 in
theorem crcBits_no (A : Option Addr) (c : Nat) (N : Nat) (at_ : Int) (by_ : Int) (w : World)
    (h : 2000 < N ∨ (N ≤ 2000 ∧ at_ < 0) ∨ (N ≤ 2000 ∧ 0 ≤ at_ ∧ 8 * (N : Int) ≤ at_) ∨ (N ≤ 2000 ∧ 0 ≤ at_ ∧ at_ < 8 * (N : Int) ∧ by_ = 0)) :
    Calls Try.prog 4 #[.slice A N c, .int .i64 at_, .int .u32 by_] w fun e w' => e = .returned (.bool true) ∧ Below w.heap.size w w' := by
  rcases h with h | ⟨h, h2⟩ | ⟨h, h2, h3⟩ | ⟨h, h2, h3, rfl⟩
  · have d1 : decide (2000 < (N : Int)) = true := by simp; omega
    have d1' : decide (2000 < N) = true := by simp; omega
    go_enter Try.func4, Try.ntmps4
    go_wp2_with (go_at_call 8; refine (known_calls _).mono ?_; rintro e w2 ⟨rfl, hb2⟩; replace hb2 := Aside0.mk hb2)
    go_ret
    exact ⟨rfl, hb2.out⟩
  · have d1 : decide (2000 < (N : Int)) = false := by simp; omega
    have d1' : decide (2000 < N) = false := by simp; omega
    have d2 : decide (at_ < 0) = true := by simp; omega
    go_enter Try.func4, Try.ntmps4
    go_wp2_with (go_at_call 8; refine (known_calls _).mono ?_; rintro e w2 ⟨rfl, hb2⟩; replace hb2 := Aside0.mk hb2)
    go_ret
    exact ⟨rfl, hb2.out⟩
  · have d1 : decide (2000 < (N : Int)) = false := by simp; omega
    have d1' : decide (2000 < N) = false := by simp; omega
    have d2 : decide (at_ < 0) = false := by simp; omega
    have d3 : decide (8 * (N : Int) ≤ at_) = true := by simp; omega
    go_enter Try.func4, Try.ntmps4
    go_wp2_with (go_at_call 8; refine (known_calls _).mono ?_; rintro e w2 ⟨rfl, hb2⟩; replace hb2 := Aside0.mk hb2)
    go_ret
    exact ⟨rfl, hb2.out⟩
  · have d1 : decide (2000 < (N : Int)) = false := by simp; omega
    have d1' : decide (2000 < N) = false := by simp; omega
    have d2 : decide (at_ < 0) = false := by simp; omega
    have d3 : decide (8 * (N : Int) ≤ at_) = false := by simp; omega
    go_enter Try.func4, Try.ntmps4
    go_wp2_with (go_at_call 8; refine (known_calls _).mono ?_; rintro e w2 ⟨rfl, hb2⟩; replace hb2 := Aside0.mk hb2)
    go_ret
    exact ⟨rfl, hb2.out⟩
theorem crcBits_row (w : World) (a : Option Addr) (c : Nat) (l : List Int) (hc : l.length ≤ c) (hm : c ≤ maxLen) (hC : Kd.C (Kd.int .u8) w a l.length l) (hG : ∀ y ∈ l, (Lit.int .u8 y).wf = true)
    (x : Int) (_ : (Lit.int .i64 x).wf = true) (y : Int) (hy : (Lit.int .u32 y).wf = true) :
    Calls Try.prog 4 #[.slice a l.length c, .int .i64 x, .int .u32 y] w fun e w' => e = .returned (.bool true) ∧ Below w.heap.size w w' := by
  obtain ⟨bs, hbs⟩ := bytes_of hG
  have hbs' : l = toI bs := hbs
  subst hbs'
  clear hbs
  rw [toI_length] at hC hc ⊢
  obtain ⟨y, rfl, hlt⟩ := u32_of hy
  by_cases h : 2000 < bs.length ∨ (bs.length ≤ 2000 ∧ x < 0) ∨ (bs.length ≤ 2000 ∧ 0 ≤ x ∧ 8 * (bs.length : Int) ≤ x) ∨ (bs.length ≤ 2000 ∧ 0 ≤ x ∧ x < 8 * (bs.length : Int) ∧ (y : Int) = 0)
  · exact crcBits_no a c bs.length x y w h
  · obtain ⟨x, rfl⟩ := Int.eq_ofNat_of_zero_le (show 0 ≤ x by omega)
    exact crcBits_calls a c bs x y w hC hc hm (by omega) (by omega) (by omega) hlt
end Go.Proofs.Ytabejlldemhfaaa
