/- Texts that differ within 32 bits have unlike sums: the walk of the statement. -/
import Derived.Test.YtabejlldemhfaaaCl1
import Derived.Test.YtabejlldemhfaaaCb
import Derived.Test.YtabejlldemhfaaaCr1
import Derived.Test.YtabejlldemhfaaaWMore
import Derived.StillTailTactics
set_option linter.unusedVariables false
set_option linter.unusedSimpArgs false
namespace Go.Proofs.Ytabejlldemhfaaa
open Go.RowKit Go.Proofs.YtabejlldemhfaaaW.PrintWords Go.Proofs.YtabejlldemhfaaaW.PrintMore
open Go.Proofs.Ytabejlldemhfaaa.PCrcSums

set_option maxHeartbeats 1000000 in
theorem crcBits_calls (A : Option Addr) (c : Nat) (bs : List UInt8) (at_ : Nat) (by_ : Nat) (w : World) (hP : (Kd.int .u8).C w A bs.length (toI bs)) (hc : bs.length ≤ c) (hcm : c ≤ maxLen) (hl : bs.length ≤ 2000) (hat : at_ < 8 * bs.length) (hby : by_ ≠ 0) (hby2 : by_ < 4294967296) :
    Calls Try.prog 4 #[.slice A bs.length c, .int .i64 (at_ : Int), .int .u32 (by_ : Int)] w fun e w' => e = .returned (.bool true) ∧ Below w.heap.size w w' := by
  obtain ⟨N, hN⟩ : ∃ N, bs.length = N := ⟨_, rfl⟩
  rw [hN] at hP hc hl hat ⊢
  have hP := Aside0.mk hP
  have hN := Aside0.mk hN
  have d1 : decide (2000 < (N : Int)) = false := by simp; omega
  have d1' : decide (2000 < N) = false := by simp; omega
  have d2 : decide ((at_ : Int) < 0) = false := by simp
  have d3 : decide (8 * (N : Int) ≤ (at_ : Int)) = false := by simp; omega
  have d3' : decide (8 * N ≤ at_) = false := by simp; omega
  have d4 : ((by_ : Int) == 0) = false := by simp; omega
  go_enter Try.func4, Try.ntmps4
  go_wp2_with ((with_reducible refine gate_builtin (b := .append) (xs := #[.const (.slice none 0 0), .tmp 29]) rfl ?_); at_builtin; refine Kd.R_append_rows (Kd.int .u8) (w0 := w) w.heap.size rfl (.const (.slice none 0 0)) (.tmp 29) 28 5 (.int .u8 0) 1 rfl Try.underlying28 info5 rfl (by decide) (by omega) (.slice none 0 0) [] (toI bs) _ _ _ (fun _ => True) (fun _ => False) rfl rfl (Kd.R_nil _ _ _ _ _) hP.out (fun _ _ h => h) (fun _ h => h.elim) (fun _ _ => trivial) (Below.refl _ _) (Nat.le_refl _) (by simp; omega) ?_; intro v1 w1 ho hb _ _; obtain ⟨g, cap, rfl, hg1, hg2, _⟩ := Kd.R_form ho (by rw [List.nil_append, toI_length, hN.out]; omega); rw [List.nil_append] at ho; rw [List.nil_append, toI_length, hN.out]; rw [toI_length, hN.out] at ho; replace ho := Aside0.mk ho; replace hb := Aside0.mk hb)
  go_loopw [8, 9] (fun s8 s9 wr => ∃ k : Nat, k ≤ 32 ∧ at_ + k ≤ 8 * N ∧ s9 = .int .i64 k ∧ s8 = .bool (decide (by_ % 2 ^ k ≠ 0)) ∧
    Aside0 (Kd.R (Kd.int .u8) 5 wr w.heap.size (fun _ => True) (.slice (some ⟨g, 0, none⟩) N cap) (toI (turned bs at_ by_ k))) ∧ Aside0 (Below w.heap.size w wr)) (fun _ s9 _ => 32 - (intOf s9).toNat)
  case atStart => exact ⟨0, by omega, by omega, rfl, by simp [Nat.mod_one], ho, hb⟩
  case round =>
    clear ho hb
    obtain ⟨k, hk, hak, rfl, rfl, hR, hB⟩ := hrel
    obtain ⟨tu, htu⟩ : ∃ tu, decide (by_ % 2 ^ k ≠ 0) = tu := ⟨_, rfl⟩
    rw [htu]
    have htu := Aside0.mk htu
    by_cases hlt : k < 32 ∧ at_ + k < 8 * N
    · obtain ⟨h1, h2⟩ := hlt
      have e1 : decide ((k : Int) < 32) = true := by simp; omega
      have e2 : decide ((at_ : Int) + (k : Int) < 8 * (N : Int)) = true := by simp; omega
      by_cases hb : by_ / 2 ^ k % 2 = 1
      · have e3 : (((by_ : Int) / 2 ^ k).tmod 2 == 1) = true := by
          have : ((by_ : Int) / 2 ^ k).tmod 2 = ((by_ / 2 ^ k % 2 : Nat) : Int) := by
            rw [show (by_ : Int) / 2 ^ k = ((by_ / 2 ^ k : Nat) : Int) by push_cast; rfl, tmod_two]
          rw [this, hb]; rfl
        have hb := Aside0.mk hb
        obtain ⟨z, hz⟩ : ∃ z, at_ + k = z := ⟨_, rfl⟩
        have f1 : IntKind.i64.wrap ((at_ : Int) + (k : Int)) = (z : Int) := by
          rw [IntWalk.i64_in _ (by omega)]; omega
        obtain ⟨i, hi⟩ : ∃ i, z / 8 = i := ⟨_, rfl⟩
        obtain ⟨r, hr⟩ : ∃ r, z % 8 = r := ⟨_, rfl⟩
        have f2 : IntKind.i64.wrap ((z : Int) / 8) = (i : Int) := by
          rw [IntWalk.i64_in _ (by omega)]; omega
        have f3 : (z : Int).tmod 8 = (r : Int) := by rw [Int.tmod_eq_emod_of_nonneg (by omega)]; omega
        have hi1 : (i : Int) < (N : Int) := by omega
        have hi2 : i < N := by omega
        have hr1 : r < 8 := by omega
        have htl : (turned bs at_ by_ k).length = N := by rw [turned_length]; exact hN.out
        have hRl : Kd.R (Kd.int .u8) 5 wr w.heap.size (fun _ => True) (.slice (some ⟨g, 0, none⟩) (toI (turned bs at_ by_ k)).length cap) (toI (turned bs at_ by_ k)) := by rw [toI_length, htl]; exact hR.out
        obtain ⟨q, hq⟩ : ∃ q, (turned bs at_ by_ k).getD i 0 = q := ⟨_, rfl⟩
        have hcf := Kd.R_cell (0 : Int) hRl (i : Int) (by omega) (by rw [toI_length, htl]; exact hi1)
        have hv : rdOf (0 : Int) (toI (turned bs at_ by_ k)) (i : Int) = (q.toNat : Int) := by
          have hlt3 : i < (turned bs at_ by_ k).length := by omega
          rw [← hq]
          simp [rdOf, toI, List.getD_eq_getElem?_getD, hlt3]
        rw [hv] at hcf
        obtain ⟨c1, c2⟩ := hcf
        rw [show ((i : Int)).toNat = i from rfl] at c1 c2
        obtain ⟨v, hvv⟩ : ∃ v, q.toNat ^^^ 2 ^ r = v := ⟨_, rfl⟩
        have hp256 : 2 ^ r < 256 := by have : 2 ^ r ≤ 2 ^ 7 := Nat.pow_le_pow_right (by omega) (by omega); omega
        have hv256 : v < 256 := by rw [← hvv]; exact Nat.xor_lt_two_pow (n := 8) q.toNat_lt hp256
        have f4 : bits .xor .u8 (q.toNat : Int) (IntKind.u8.wrap (2 ^ r)) = (v : Int) := by
          have h1 : IntKind.u8.wrap (2 ^ r) = ((2 ^ r : Nat) : Int) := by
            rw [IntKind.wrap_u8, show (2 : Int) ^ r = ((2 ^ r : Nat) : Int) by push_cast; rfl]
            exact Int.emod_eq_of_lt (Int.natCast_nonneg _) (Int.ofNat_lt.2 hp256)
          rw [h1, bits_xor_u8 _ _ q.toNat_lt hp256, hvv]
        have hput := Aside0.mk (Kd.R_put hRl (i : Int) (v : Int))
        have hvv := Aside0.mk hvv
        clear hp256
        have hz := Aside0.mk hz
        have hi := Aside0.mk hi
        have hr := Aside0.mk hr
        have hq := Aside0.mk hq
        have htl := Aside0.mk htl
        clear hRl hv
        go_wp2_with fail
        go_still_tail 13, (by kernel_rfl)
        change wpList _ _ _ _ _ wr.drew
        go_wp2_with fail
        have hset : (toI (turned bs at_ by_ k)).set i (v : Int) = toI (turned bs at_ by_ (k + 1)) := by
          have h1 : turned bs at_ by_ (k + 1) = flip (turned bs at_ by_ k) (at_ + k) := by rw [turned, if_pos hb.out]
          rw [h1, hz.out]
          unfold flip
          rw [hi.out, hr.out, hq.out, hvv.out]
          unfold toI
          rw [List.map_set, ofNat_toNat hv256]
        have hR2 := hput.out.1
        rw [show ((i : Int)).toNat = i from rfl, hset, toI_length, htl.out] at hR2
        have hone : decide (by_ % 2 ^ (k + 1) ≠ 0) = true := by
          have := hb.out
          have h2 : by_ % 2 ^ (k + 1) = by_ % 2 ^ k + 2 ^ k * (by_ / 2 ^ k % 2) := Nat.mod_pow_succ
          have h3 := Nat.two_pow_pos k
          rw [this] at h2
          simp only [ne_eq, decide_eq_true_eq]
          omega
        go_roundw
        case rel => exact ⟨k + 1, by omega, by omega, by go_num, by rw [hone], ⟨Kd.R_drew hR2⟩, ⟨(hB.out.setCell (by simpa using hg1) _).drew⟩⟩
        case measure => simp [intOf]; omega
      · have e3 : (((by_ : Int) / 2 ^ k).tmod 2 == 1) = false := by
          have : ((by_ : Int) / 2 ^ k).tmod 2 = ((by_ / 2 ^ k % 2 : Nat) : Int) := by
            rw [show (by_ : Int) / 2 ^ k = ((by_ / 2 ^ k : Nat) : Int) by push_cast; rfl, tmod_two]
          rw [this, show by_ / 2 ^ k % 2 = 0 by omega]; rfl
        have hb := Aside0.mk hb
        go_wp2_with fail
        have h1 : turned bs at_ by_ (k + 1) = turned bs at_ by_ k := by rw [turned, if_neg hb.out]
        have hone : decide (by_ % 2 ^ (k + 1) ≠ 0) = tu := by
          have := hb.out
          have h2 : by_ % 2 ^ (k + 1) = by_ % 2 ^ k + 2 ^ k * (by_ / 2 ^ k % 2) := Nat.mod_pow_succ
          rw [show by_ / 2 ^ k % 2 = 0 by omega, Nat.mul_zero, Nat.add_zero] at h2
          rw [h2]
          exact htu.out
        go_roundw
        case rel => exact ⟨k + 1, by omega, by omega, by go_num, by rw [hone], ⟨by rw [h1]; exact hR.out⟩, hB⟩
        case measure => simp [intOf]; omega
    · have htl : (turned bs at_ by_ k).length = N := by rw [turned_length]; exact hN.out
      have hun : tu = true → sumN (turned bs at_ by_ k) ≠ sumN bs := fun h => sums_unlike bs at_ by_ k (by rw [hN.out]; exact hak) hk (by have := htu.out; rw [h] at this; exact of_decide_eq_true this)
      obtain ⟨So, hSo⟩ : ∃ So, sumN (turned bs at_ by_ k) = So := ⟨_, rfl⟩
      obtain ⟨Sb, hSb⟩ : ∃ Sb, sumN bs = Sb := ⟨_, rfl⟩
      rw [hSo, hSb] at hun
      have hs1 : Calls Try.prog 9 #[.slice (some ⟨wr.heap.size, 0, none⟩) 1 1] (wr.alloc (.cells #[.slice (some ⟨g, 0, none⟩) N cap] 28)) fun e w' => e = .returned (.int .u32 (So : Int)) ∧ Below (wr.heap.size + 1) (wr.alloc (.cells #[.slice (some ⟨g, 0, none⟩) N cap] 28)) w' := by
        have hR' := hR.out
        rw [← htl] at hR' ⊢
        obtain ⟨_, h1, h2⟩ := Kd.R_reads' hR'
        rw [toI_length] at h2
        have hPo : Parts (wr.alloc (.cells #[.slice (some ⟨g, 0, none⟩) (turned bs at_ by_ k).length cap] 28)) (some ⟨wr.heap.size, 0, none⟩) [turned bs at_ by_ k] := parts_one _ ((cell_of_row _ _ _ _ _ _ (Go.heap_alloc_new wr _)).trans rfl) h1 (Kd.C_alloc h2 _)
        have := sum_calls (some ⟨wr.heap.size, 0, none⟩) 1 [turned bs at_ by_ k] _ hPo (by simp [flen]; omega)
        rw [show ([turned bs at_ by_ k] : List (List UInt8)).flatten = turned bs at_ by_ k by simp, hSo] at this
        exact this.mono (fun e w' ⟨h1, h2⟩ => ⟨h1, h2.mono (by simp)⟩)
      have hs2 : ∀ W, Below w.heap.size w W → Calls Try.prog 9 #[.slice (some ⟨W.heap.size, 0, none⟩) 1 1] (W.alloc (.cells #[.slice A N c] 28)) fun e w' => e = .returned (.int .u32 (Sb : Int)) ∧ Below (W.heap.size + 1) (W.alloc (.cells #[.slice A N c] 28)) w' := by
        intro W hW
        have hC := Kd.C_below hP.out hW
        have hNN := hN.out
        rw [← hNN] at hC hc ⊢
        have hPb : Parts (W.alloc (.cells #[.slice A bs.length c] 28)) (some ⟨W.heap.size, 0, none⟩) [bs] := parts_one bs ((cell_of_row _ _ _ _ _ _ (Go.heap_alloc_new W _)).trans rfl) hc (Kd.C_alloc hC _)
        have := sum_calls (some ⟨W.heap.size, 0, none⟩) 1 [bs] _ hPb (by simp [flen]; omega)
        rw [show ([bs] : List (List UInt8)).flatten = bs by simp, hSb] at this
        exact this.mono (fun e w' ⟨h1, h2⟩ => ⟨h1, h2.mono (by simp)⟩)
      have hs1 := Aside0.mk hs1
      have hs2 := Aside0.mk hs2
      clear hSo hSb htl htu hR
      have hcase : (decide ((k : Int) < 32) = false) ∨ (decide ((k : Int) < 32) = true ∧ decide ((at_ : Int) + (k : Int) < 8 * (N : Int)) = false) := by
        by_cases h : k < 32
        · exact .inr ⟨by simp; omega, by simp; omega⟩
        · exact .inl (by simp; omega)
      rcases hcase with e1 | ⟨e1, e2⟩
      all_goals
        cases tu with
        | false =>
          go_wp2_with fail
          refine (known_calls wr).mono ?_
          rintro e w2 ⟨rfl, hb2⟩
          have hB2 := Aside0.mk (below_then hB.out hB.out.size hb2)
          clear hb2
          go_wp2_with fail
          go_ret
          exact ⟨rfl, hB2.out⟩
        | true =>
          have hne : (((So : Nat) : Int) != ((Sb : Nat) : Int)) = true := by
            have := hun rfl
            simp; omega
          go_wp2_with fail
          refine hs1.out.mono ?_
          rintro e w2 ⟨rfl, hb2⟩
          have hB2 := Aside0.mk ((hB.out.alloc hB.out.size (.cells #[.slice (some ⟨g, 0, none⟩) N cap] 28)).trans (hb2.mono (by have := hB.out.size; omega)))
          clear hb2
          go_wp2_with fail
          refine (hs2.out w2 hB2.out).mono ?_
          rintro e w3 ⟨rfl, hb3⟩
          have hB3 := Aside0.mk ((hB2.out.alloc hB2.out.size (.cells #[.slice A N c] 28)).trans (hb3.mono (by have := hB2.out.size; omega)))
          clear hb3
          go_wp2_with fail
          refine (known_calls w3).mono ?_
          rintro e w4 ⟨rfl, hb4⟩
          have hB4 := Aside0.mk (below_then hB3.out hB3.out.size hb4)
          clear hb4
          go_wp2_with fail
          go_ret
          exact ⟨rfl, hB4.out⟩
end Go.Proofs.Ytabejlldemhfaaa
