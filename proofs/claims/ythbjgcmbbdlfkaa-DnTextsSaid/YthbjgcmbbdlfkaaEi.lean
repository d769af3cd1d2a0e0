/- The walk of DnTexts. -/
import Derived.Test.YthbjgcmbbdlfkaaEe
import Derived.Test.YthbjgcmbbdlfkaaEg
import Derived.Test.YthbjgcmbbdlfkaaEh
set_option linter.unusedVariables false
set_option linter.unusedSimpArgs false
namespace Go.Proofs.Ythbjgcmbbdlfkaa
open Go.RowKit Go.Shelf Go.Proofs.YthbjgcmbbdlfkaaW.PrintWords Go.Proofs.YthbjgcmbbdlfkaaW.PrintMore Go.Proofs.YthbjgcmbbdlfkaaW.PrintLast

theorem same_calls (A B : Option Addr) (c d : Nat) (l : List Rdn) (w : World) (hl : l.length ≤ 1000) (hC : kr.C w A l.length l) (hc : l.length ≤ c) (hD : kr.C w B l.length l) (hd : l.length ≤ d) :
    Calls Try.prog 17 #[.slice A l.length c, .slice B l.length d] w fun e w' => e = .returned (.bool true) ∧ Below w.heap.size w w' := PDnUps.same_calls A B c d l w hl hC hc hD hd
set_option maxHeartbeats 1000000 in
set_option maxRecDepth 20000 in
theorem dnTexts_row (W : World) (A : Option Addr) (c : Nat) (l : List Rdn) (hlc : l.length ≤ c) (hcm : c ≤ maxLen) (hC : kr.C W A l.length l) (hG : ∀ y ∈ l, y.t.size ≤ maxLen ∧ y.v.size ≤ maxLen) :
    Calls Try.prog 3 #[.slice A l.length c] W fun e w' => e = .returned (.bool true) ∧ Below W.heap.size W w' := by
  clear hcm hG
  have h0 := Aside0.mk (PDnUps.light_calls A c l W hC hlc)
  obtain ⟨M, hM⟩ : ∃ M, l.length = M := ⟨_, rfl⟩
  cases hli : lightB l with
  | false =>
    rw [hli] at h0
    rw [hM] at h0 ⊢
    clear hC hlc hM hli
    go_enter Try.func3, Try.ntmps3
    go_wp2_with fail
    refine h0.out.mono ?_
    rintro e w1 ⟨rfl, hb1⟩
    replace hb1 := Aside0.mk hb1
    go_wp2_with fail
    refine (known_calls _).mono ?_
    rintro e w4 ⟨rfl, hb4⟩
    replace hb4 := Aside0.mk (below_then hb1.out hb1.out.size hb4)
    go_wp2_with fail
    go_ret
    exact ⟨rfl, hb4.out⟩
  | true =>
    have hm := lightB_mild hli
    have h1 := Aside0.mk (fun W' (hb : Below W.heap.size W W') => text_calls A c l W' hm (Kd.C_below hC hb))
    have h2 := Aside0.mk (fun W' (hb : Below W.heap.size W W') => PDnUps.right_calls A c l W' hm (Kd.C_below hC hb) hlc)
    have h3 := Aside0.mk (fun W' (hb : Below W.heap.size W W') => check_calls A c l W' hm (Kd.C_below hC hb))
    have h4 := Aside0.mk (fun W' (hb : Below W.heap.size W W') => rtext_calls A c l W' hm (Kd.C_below hC hb))
    unfold Texted at h1
    rw [hli] at h0
    have hm0 := hm.1
    replace hm := Aside0.mk hm
    cases hok : dnOk l with
    | false =>
      have he : dnErr l = 2 := by unfold dnErr; rw [hok]; rfl
      rw [hok] at h1 h2
      rw [he] at h3
      simp only [Bool.false_eq_true, if_false] at h1
      rw [hM] at h0 h1 h2 h3 ⊢
      clear hC hlc hM hli hok he h4 hm hm0
      go_enter Try.func3, Try.ntmps3
      go_wp2_with fail
      refine h0.out.mono ?_
      rintro e w1 ⟨rfl, hb1⟩
      replace hb1 := Aside0.mk hb1
      go_wp2_with fail
      refine (h1.out _ hb1.out).mono ?_
      rintro e w2 ⟨rfl, hb2⟩
      replace hb2 := Aside0.mk (below_then hb1.out hb1.out.size hb2)
      clear hb1
      go_wp2_with fail
      refine (h2.out _ hb2.out).mono ?_
      rintro e w3 ⟨rfl, hb3⟩
      replace hb3 := Aside0.mk (below_then hb2.out hb2.out.size hb3)
      clear hb2
      go_wp2_with fail
      refine (h3.out _ hb3.out).mono ?_
      rintro e w4 ⟨rfl, hb4⟩
      replace hb4 := Aside0.mk (below_then hb3.out hb3.out.size hb4)
      clear hb3
      go_wp2_with fail
      refine (known_calls _).mono ?_
      rintro e w5 ⟨rfl, hb5⟩
      replace hb5 := Aside0.mk (below_then hb4.out hb4.out.size hb5)
      go_wp2_with fail
      go_ret
      exact ⟨rfl, hb5.out⟩
    | true =>
      have he : dnErr l = 0 := by unfold dnErr; rw [hok]; rfl
      have hp := parse_text l hok
      have hz := textF_size hok
      have h5 := Aside0.mk (fun W' => parse_calls (textF l) W' hz)
      unfold Parsed at h5
      rw [hp] at h5
      rw [hok] at h1 h2
      rw [he] at h3
      simp only [if_true] at h1
      have hll : l.length ≤ 16 := (dnOk_in hok).1
      have h6 := Aside0.mk (fun W' (hb : Below W.heap.size W W') B d (hD : kr.C W' B l.length l) (hd : l.length ≤ d) => same_calls B A d c l W' hm.out.1 hD hd (Kd.C_below hC hb) hlc)
      rw [hM] at h0 h1 h2 h3 h4 h6 ⊢
      obtain ⟨T, hT⟩ : ∃ T, textF l = T := ⟨_, rfl⟩
      rw [hT] at h1 h4 h5
      replace hM := Aside0.mk hM
      clear hC hlc hli hok he hm hm0 hp hz hT hll
      go_enter Try.func3, Try.ntmps3
      go_wp2_with fail
      refine h0.out.mono ?_
      rintro e w1 ⟨rfl, hb1⟩
      replace hb1 := Aside0.mk hb1
      go_wp2_with fail
      refine (h1.out _ hb1.out).mono ?_
      rintro e w2 ⟨rfl, hb2⟩
      replace hb2 := Aside0.mk (below_then hb1.out hb1.out.size hb2)
      clear hb1
      go_wp2_with fail
      refine (h2.out _ hb2.out).mono ?_
      rintro e w3 ⟨rfl, hb3⟩
      replace hb3 := Aside0.mk (below_then hb2.out hb2.out.size hb3)
      clear hb2
      go_wp2_with fail
      refine (h5.out _).mono ?_
      rintro e w4 ⟨⟨v, rfl, hR⟩, hb4⟩
      obtain ⟨A2, c2, rfl, hc2, hC2⟩ := Kd.R_reads hR
      have hb3' := hb4
      replace hb4 := Aside0.mk (below_then hb3.out hb3.out.size hb4)
      rw [hM.out] at hc2 hC2 ⊢
      clear hb3 hR hb3'
      replace hC2 := Aside0.mk hC2
      replace hc2 := Aside0.mk hc2
      go_wp2_with fail
      refine (h4.out _ hb4.out).mono ?_
      rintro e w5 ⟨rfl, hb5⟩
      replace hC2 := Aside0.mk (Kd.C_below hC2.out hb5)
      replace hb5 := Aside0.mk (below_then hb4.out hb4.out.size hb5)
      clear hb4
      go_wp2_with fail
      refine (h3.out _ hb5.out).mono ?_
      rintro e w6 ⟨rfl, hb6⟩
      replace hC2 := Aside0.mk (Kd.C_below hC2.out hb6)
      replace hb6 := Aside0.mk (below_then hb5.out hb5.out.size hb6)
      clear hb5
      go_wp2_with fail
      refine (h6.out _ hb6.out _ _ hC2.out hc2.out).mono ?_
      rintro e w7 ⟨rfl, hb7⟩
      replace hb7 := Aside0.mk (below_then hb6.out hb6.out.size hb7)
      clear hb6
      go_wp2_with fail
      refine (known_calls _).mono ?_
      rintro e w8 ⟨rfl, hb8⟩
      replace hb8 := Aside0.mk (below_then hb7.out hb7.out.size hb8)
      go_wp2_with fail
      go_ret
      exact ⟨rfl, hb8.out⟩
end Go.Proofs.Ythbjgcmbbdlfkaa
