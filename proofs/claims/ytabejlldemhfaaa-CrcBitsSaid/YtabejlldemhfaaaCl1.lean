/- The sum of any bytes, and the word behind one: the walk of the statement. -/
import Derived.Test.YtabejlldemhfaaaCp1
import Derived.Test.YtabejlldemhfaaaCw5
set_option linter.unusedVariables false
set_option linter.unusedSimpArgs false
namespace Go.Proofs.Ytabejlldemhfaaa
open Go.RowKit Go.Proofs.YtabejlldemhfaaaW.PrintWords
open Go.Proofs.Ytabejlldemhfaaa.PCrcSums

theorem joined_calls (A : Option Addr) (c : Nat) (L : List (List UInt8)) (w : World) (hP : Parts w A L) (hc : L.length ≤ c) (hl : L.length ≤ 20) (hf : flen L.flatten ≤ 3000) :
    Calls Try.prog 11 #[.slice A L.length c] w fun e w' => ∃ A1 c1, e = .returned (.slice A1 L.flatten.length c1) ∧ L.flatten.length ≤ c1 ∧ (Kd.int .u8).C w' A1 L.flatten.length (toI L.flatten) ∧ Below w.heap.size w w' := by
  have h := cardcaselaw02_joined.calls (L.length + 1) A c (LL L) (toI L.flatten) w (by rw [LL_length]; exact hP) (by rw [LL_length]; exact hc) (joined_tells L (by omega) (by omega))
  rw [LL_length] at h
  refine h.mono ?_
  rintro e w' ⟨v, rfl, hR, hb⟩
  obtain ⟨A1, c1, rfl, h1, h2⟩ := Kd.R_reads hR
  rw [toI_length] at *
  exact ⟨A1, c1, rfl, h1, h2, hb⟩
theorem refSum_calls (A : Option Addr) (c : Nat) (l : List UInt8) (w : World) (h : (Kd.int .u8).C w A l.length (toI l)) (hc : l.length ≤ c) (hl : l.length < 9223372036854775807) :
    Calls Try.prog 10 #[.slice A l.length c] w fun e w' => e = .returned (.int .u32 ((sumN l : Nat) : Int)) ∧ Below w.heap.size w w' := by
  have h := cardcaseref02_Sum.calls (l.length + 9) A c (toI l) _ w (by rw [toI_length]; exact h) (by rw [toI_length]; exact hc) (refSum_tells l hl)
  rw [toI_length] at h
  exact h.mono fun e w' ⟨h1, h2⟩ => ⟨h1, h2.below⟩
theorem refStep_calls (x : Nat) (b : UInt8) (w : World) (hx : x < 4294967296) :
    Calls Try.prog 13 #[.int .u32 (x : Int), .int .u8 (b.toNat : Int)] w fun e w' => e = .returned (.int .u32 ((stepN x b.toNat : Nat) : Int)) ∧ Below w.heap.size w w' :=
  (cardcaseref02_Step.calls 9 _ _ _ w (refStep_tells x b.toNat hx b.toNat_lt)).mono fun e w' ⟨h1, h2⟩ => ⟨h1, h2.below⟩
theorem few_calls (k : Nat) (r : Bool) (A : Option Addr) (c : Nat) (L : List (List UInt8)) (w : World) (hP : Parts w A L) (hc : L.length ≤ c) (h : cardcaselaw02_few.f k (LL L) = some r) :
    Calls Try.prog 7 #[.slice A L.length c] w fun e w' => e = .returned (.bool r) ∧ Below w.heap.size w w' := by
  have h := cardcaselaw02_few.calls k A c (LL L) r w (by rw [LL_length]; exact hP) (by rw [LL_length]; exact hc) h
  rw [LL_length] at h
  exact h.mono fun e w' ⟨h1, h2⟩ => ⟨h1, h2.below⟩

set_option maxHeartbeats 1000000 in
theorem crcSums_calls (A : Option Addr) (c : Nat) (L : List (List UInt8)) (x : Nat) (b : UInt8) (w : World) (hP : Parts w A L) (hc : L.length ≤ c) (hx : x < 4294967296) :
    Calls Try.prog 3 #[.slice A L.length c, .int .u32 (x : Int), .int .u8 (b.toNat : Int)] w fun e w' => e = .returned (.bool true) ∧ Below w.heap.size w w' := by
  obtain ⟨k, r, hf, hr⟩ := few_tells L
  have hP := Aside0.mk hP
  cases r with
  | false =>
    have Hf := Aside0.mk hf
    clear hf hr
    go_enter Try.func3, Try.ntmps3
    go_wp2_with fail
    refine (few_calls k false A c L w hP.out hc Hf.out).mono ?_
    rintro e w1 ⟨rfl, hb1⟩
    have hb1 := Aside0.mk hb1
    go_wp2_with fail
    refine (known_calls _).mono ?_
    rintro e w2 ⟨rfl, hb2⟩
    have hb2 := Aside0.mk hb2
    go_wp2_with fail
    go_ret
    exact ⟨rfl, below_then hb1.out hb1.out.size hb2.out⟩
  | true =>
    obtain ⟨hl, hfl⟩ := hr rfl
    have Hf := Aside0.mk hf
    clear hf hr
    go_enter Try.func3, Try.ntmps3
    go_wp2_with fail
    refine (few_calls k true A c L w hP.out hc Hf.out).mono ?_
    rintro e w1 ⟨rfl, hb1⟩
    have hP1 := Aside0.mk (Kd.C_below hP.out hb1)
    have hB1 := Aside0.mk hb1
    clear hb1
    go_wp2_with fail
    refine (sum_calls A c L w1 hP1.out (by omega)).mono ?_
    rintro e w2 ⟨rfl, hb2⟩
    have hP2 := Aside0.mk (Kd.C_below hP1.out hb2)
    have hB2 := Aside0.mk (below_then hB1.out hB1.out.size hb2)
    clear hb2
    obtain ⟨s, hs⟩ : ∃ s, sumN L.flatten = s := ⟨_, rfl⟩
    rw [hs]
    have Hs := Aside0.mk hs
    clear hs
    go_wp2_with fail
    refine (joined_calls A c L w2 hP2.out hc hl hfl).mono ?_
    rintro e w3 ⟨A1, c1, rfl, hc1, hC1, hb3⟩
    have hB3 := Aside0.mk (below_then hB2.out hB2.out.size hb3)
    have hC1 := Aside0.mk hC1
    clear hb3
    obtain ⟨q, hq⟩ : ∃ q, L.flatten = q := ⟨_, rfl⟩
    rw [hq] at hC1 hc1 Hs hfl ⊢
    have Hq := Aside0.mk hq
    clear hq
    go_wp2_with fail
    refine (refSum_calls A1 c1 q w3 hC1.out hc1 (by unfold flen at hfl; omega)).mono ?_
    rintro e w4 ⟨rfl, hb4⟩
    have hB4 := Aside0.mk (below_then hB3.out hB3.out.size hb4)
    clear hb4
    rw [Hs.out]
    go_wp2_with fail
    refine (step_calls x b w4 hx).mono ?_
    rintro e w5 ⟨rfl, hb5⟩
    have hB5 := Aside0.mk (below_then hB4.out hB4.out.size hb5)
    clear hb5
    go_wp2_with fail
    refine (refStep_calls x b w5 hx).mono ?_
    rintro e w6 ⟨rfl, hb6⟩
    have hB6 := Aside0.mk (below_then hB5.out hB5.out.size hb6)
    clear hb6
    go_wp2_with fail
    refine (known_calls w6).mono ?_
    rintro e w7 ⟨rfl, hb7⟩
    have hB7 := Aside0.mk (below_then hB6.out hB6.out.size hb7)
    clear hb7
    go_wp2_with fail
    go_ret
    exact ⟨rfl, hB7.out⟩
end Go.Proofs.Ytabejlldemhfaaa
