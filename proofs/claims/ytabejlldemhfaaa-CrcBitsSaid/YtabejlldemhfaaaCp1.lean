/- Plain laws: what the printed functions of the statement and of the document's answer tell of bytes. -/
import Derived.Test.YtabejlldemhfaaaPCrcSumsx1
import Derived.Test.YtabejlldemhfaaaCw4
set_option linter.unusedVariables false
set_option linter.unusedSimpArgs false
namespace Go.Proofs.Ytabejlldemhfaaa
open Go.RowKit Go.Proofs.YtabejlldemhfaaaW.PrintWords
open Go.Proofs.Ytabejlldemhfaaa.PCrcSums

theorem rd_LL (L : List (List UInt8)) (i : Nat) (h : i < L.length) : rd_L1 (LL L) (i : Int) = toI L[i] := by
  simp [rd_L1, LL, List.getD_eq_getElem?_getD, h]
theorem rd_toI (l : List UInt8) (i : Nat) (h : i < l.length) : rd (toI l) (i : Int) = (l[i].toNat : Int) := by
  simp [rd, toI, List.getD_eq_getElem?_getD, h]
theorem wrap_succ {i : Nat} (h : i < 9223372036854775807) : wrap64 ((i : Int) + 1) = ((i + 1 : Nat) : Int) := by
  unfold wrap64; omega

/-! ### few -/
theorem few_loop (L : List (List UInt8)) (hL : L.length ≤ 20) (d : Nat) : ∀ i, i ≤ L.length → L.length - i = d → ∀ n : Nat, n = flen (L.take i).flatten → n ≤ 3000 * i →
    ∃ r, cardcaselaw02_few.l0 (d + 1) (LL L) n i = some r ∧ (r = true → flen L.flatten ≤ 3000) := by
  induction d with
  | zero =>
    intro i hi hd n hn hb
    obtain rfl : i = L.length := by omega
    refine ⟨decide ((n : Int) ≤ 3000), ?_, fun h => ?_⟩
    · rw [cardcaselaw02_few.l0, LL_length, if_neg (by omega)]
    · rw [List.take_length] at hn
      have := of_decide_eq_true h
      omega
  | succ d ih =>
    intro i hi hd n hn hb
    have hlt : i < L.length := by omega
    rw [cardcaselaw02_few.l0, LL_length, if_pos (by omega), if_pos (by omega), rd_LL L i hlt, toI_length]
    by_cases h : (L[i].length : Int) > 3000
    · rw [if_pos h]; exact ⟨false, rfl, fun h => by cases h⟩
    · rw [if_neg h, wrap_succ (by omega), show wrap64 ((n : Int) + (L[i].length : Int)) = ((n + L[i].length : Nat) : Int) by unfold wrap64; omega]
      refine ih (i + 1) (by omega) (by omega) _ ?_ (by omega)
      rw [flat_next hlt rfl, hn]
      simp [flen]
theorem few_tells (L : List (List UInt8)) : ∃ k r, cardcaselaw02_few.f k (LL L) = some r ∧ (r = true → L.length ≤ 20 ∧ flen L.flatten ≤ 3000) := by
  by_cases h : (L.length : Int) > 20
  · refine ⟨0, false, ?_, fun h => by cases h⟩
    unfold cardcaselaw02_few.f
    rw [LL_length, if_pos h]
  · obtain ⟨r, h1, h2⟩ := few_loop L (by omega) L.length 0 (by omega) (by omega) 0 rfl (by omega)
    refine ⟨L.length + 1, r, ?_, fun hr => ⟨by omega, h2 hr⟩⟩
    unfold cardcaselaw02_few.f
    rw [LL_length, if_neg h]
    exact h1

/-! ### joined -/
theorem joined_loop (L : List (List UInt8)) (hl : L.length < 9223372036854775807) (hL : flen L.flatten < 140737488355328) (d : Nat) : ∀ i, i ≤ L.length → L.length - i = d →
    cardcaselaw02_joined.l0 (d + 1) (LL L) (toI (L.take i).flatten) i = some (toI L.flatten) := by
  induction d with
  | zero =>
    intro i hi hd
    obtain rfl : i = L.length := by omega
    rw [cardcaselaw02_joined.l0, LL_length, if_neg (by omega), List.take_length]
  | succ d ih =>
    intro i hi hd
    have hlt : i < L.length := by omega
    have hlen := flat_lt hlt rfl
    unfold flen at hL
    rw [cardcaselaw02_joined.l0, LL_length, if_pos (by omega), if_pos (by omega), rd_LL L i hlt, toI_length, toI_length, if_pos (by omega), wrap_succ (by omega)]
    have := ih (i + 1) (by omega) (by omega)
    rw [flat_next hlt rfl] at this
    simpa [toI] using this
theorem joined_tells (L : List (List UInt8)) (hl : L.length < 9223372036854775807) (hL : flen L.flatten < 140737488355328) : cardcaselaw02_joined.f (L.length + 1) (LL L) = some (toI L.flatten) := by
  have := joined_loop L hl hL L.length 0 (by omega) (by omega)
  simpa [cardcaselaw02_joined.f, toI] using this

/-! ### the document's answer -/
theorem tmod_two (x : Nat) : Int.tmod (x : Int) 2 = ((x % 2 : Nat) : Int) := by
  rw [Int.tmod_eq_emod_of_nonneg (by omega)]; rfl
theorem tdiv_two (x : Nat) (h : x < 4294967296) : Int.tdiv (x : Int) 2 % 4294967296 = ((x / 2 : Nat) : Int) := by
  rw [Int.tdiv_eq_ediv_of_nonneg (by omega)]; omega
theorem refStep_loop (d : Nat) : ∀ i, i ≤ 8 → 8 - i = d → ∀ x : Nat, x < 4294967296 → cardcaseref02_Step.l0 (d + 1) (x : Int) (i : Int) = some ((Tn d x : Nat) : Int) := by
  induction d with
  | zero =>
    intro i hi hd x hx
    rw [cardcaseref02_Step.l0, if_neg (by omega)]
    rfl
  | succ d ih =>
    intro i hi hd x hx
    rw [cardcaseref02_Step.l0, if_pos (by omega), tmod_two, tdiv_two x hx, wrap_succ (by omega)]
    by_cases h : x % 2 = 1
    · rw [h, show ((1 : Nat) : Int) = 1 from rfl, if_pos rfl]
      have hx2 := bits_xor_nat (x / 2) 3988292384 (by omega) (by omega)
      rw [show ((3988292384 : Nat) : Int) = 3988292384 from rfl] at hx2
      rw [hx2]
      have := ih (i + 1) (by omega) (by omega) (T x) (T_lt hx)
      rw [Tn]
      rw [show T x = x / 2 ^^^ 3988292384 by unfold T; rw [if_pos h]] at this ⊢
      exact this
    · rw [if_neg (by omega)]
      have := ih (i + 1) (by omega) (by omega) (T x) (T_lt hx)
      rw [Tn]
      rw [show T x = x / 2 by unfold T; rw [if_neg h]] at this ⊢
      exact this
theorem refStep_tells (x : Nat) (b : Nat) (hx : x < 4294967296) (hb : b < 256) : cardcaseref02_Step.f 9 (x : Int) (b : Int) = some ((stepN x b : Nat) : Int) := by
  unfold cardcaseref02_Step.f
  rw [show ((b : Int) % 4294967296) = (b : Int) by omega, bits_xor_nat x b hx (by omega)]
  exact refStep_loop 8 0 (by omega) (by omega) _ (Nat.xor_lt_two_pow (n := 32) (by omega) (by omega))
theorem refSum_loop (l : List UInt8) (hl : l.length < 9223372036854775807) (d : Nat) : ∀ i, i ≤ l.length → l.length - i = d →
    cardcaseref02_Sum.l0 (d + 9) (toI l) ((foldN 4294967295 (l.take i) : Nat) : Int) i = some ((sumN l : Nat) : Int) := by
  induction d with
  | zero =>
    intro i hi hd
    obtain rfl : i = l.length := by omega
    rw [cardcaseref02_Sum.l0, toI_length, if_neg (by omega), List.take_length]
    have := foldN_lt l (x := 4294967295) (by decide)
    unfold sumN
    congr 1
    omega
  | succ d ih =>
    intro i hi hd
    have hlt : i < l.length := by omega
    have hf := foldN_lt (l.take i) (x := 4294967295) (by decide)
    have hs := at_rounds (cardcaseref02_Step.mono _ _) (show 9 ≤ d + 9 by omega) (refStep_tells (foldN 4294967295 (l.take i)) l[i].toNat hf l[i].toNat_lt)
    rw [show d + 1 + 9 = (d + 9) + 1 by omega, cardcaseref02_Sum.l0, toI_length, if_pos (by omega), if_pos (by omega), rd_toI l i hlt, hs, Option.bind_some, wrap_succ (by omega)]
    have := ih (i + 1) (by omega) (by omega)
    rwa [List.take_succ_eq_append_getElem hlt, foldN_snoc] at this
theorem refSum_tells (l : List UInt8) (hl : l.length < 9223372036854775807) : cardcaseref02_Sum.f (l.length + 9) (toI l) = some ((sumN l : Nat) : Int) :=
  refSum_loop l hl l.length 0 (by omega) (by omega)
end Go.Proofs.Ytabejlldemhfaaa
