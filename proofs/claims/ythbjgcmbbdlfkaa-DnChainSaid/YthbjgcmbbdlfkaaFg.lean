/- The walk of DnChain. -/
import Derived.Test.YthbjgcmbbdlfkaaEe
import Derived.Test.YthbjgcmbbdlfkaaEh
import Derived.Test.YthbjgcmbbdlfkaaFe
import Derived.Test.YthbjgcmbbdlfkaaFf
import Derived.Test.YthbjgcmbbdlfkaaEa
set_option linter.unusedVariables false
set_option linter.unusedSimpArgs false
namespace Go.Proofs.Ythbjgcmbbdlfkaa
open Go.RowKit Go.Shelf Go.Proofs.YthbjgcmbbdlfkaaW.PrintWords Go.Proofs.YthbjgcmbbdlfkaaW.PrintMore Go.Proofs.YthbjgcmbbdlfkaaW.PrintLast

theorem drop_none {l : List Rdn} {k : Nat} (hk : k ≤ l.length) (h : l.drop k = []) : k = l.length := by
  have : (l.drop k).length = 0 := by rw [h]; rfl
  rw [List.length_drop] at this
  omega
set_option maxHeartbeats 2000000 in
set_option maxRecDepth 20000 in
theorem dnChain_row (W : World) (A : Option Addr) (c : Nat) (l : List Rdn) (hlc : l.length ≤ c) (hcm : c ≤ maxLen) (hC : kr.C W A l.length l) (hG : ∀ y ∈ l, y.t.size ≤ maxLen ∧ y.v.size ≤ maxLen) :
    Calls Try.prog 7 #[.slice A l.length c] W fun e w' => e = .returned (.bool true) ∧ Below W.heap.size W w' := by
  clear hcm hG
  have h0 := Aside0.mk (PDnUps.light_calls A c l W hC hlc)
  obtain ⟨M, hM⟩ : ∃ M, l.length = M := ⟨_, rfl⟩
  cases hli : lightB l with
  | false =>
    rw [hli] at h0
    rw [hM] at h0 ⊢
    clear hC hlc hM hli
    go_enter Try.func7, Try.ntmps7
    go_wp2_with fail
    refine h0.out.mono ?_
    rintro e w1 ⟨rfl, hb1⟩
    replace hb1 := Aside0.mk hb1
    go_wp2_with fail
    refine (known_calls _).mono ?_
    rintro e w4 ⟨rfl, hb4⟩
    replace hb4 := Aside0.mk (below_then hb1.out hb1.out.size hb4)
    go_wp2_with fail
    go_ret
    exact ⟨rfl, hb4.out⟩
  | true =>
    have hm := lightB_mild hli
    have h3 := Aside0.mk (fun W' (hb : Below W.heap.size W W') => check_calls A c l W' hm (Kd.C_below hC hb))
    rw [hli] at h0
    cases hok : dnOk l with
    | false =>
      have he : dnErr l = 2 := by unfold dnErr; rw [hok]; rfl
      rw [he] at h3
      rw [hM] at h0 h3 ⊢
      clear hC hlc hM hli hok he hm
      go_enter Try.func7, Try.ntmps7
      go_wp2_with fail
      refine h0.out.mono ?_
      rintro e w1 ⟨rfl, hb1⟩
      replace hb1 := Aside0.mk hb1
      go_wp2_with fail
      refine (h3.out _ hb1.out).mono ?_
      rintro e w2 ⟨rfl, hb2⟩
      replace hb2 := Aside0.mk (below_then hb1.out hb1.out.size hb2)
      go_wp2_with fail
      refine (known_calls _).mono ?_
      rintro e w4 ⟨rfl, hb4⟩
      replace hb4 := Aside0.mk (below_then hb2.out hb2.out.size hb4)
      go_wp2_with fail
      go_ret
      exact ⟨rfl, hb4.out⟩
    | true =>
      have he : dnErr l = 0 := by unfold dnErr; rw [hok]; rfl
      rw [he] at h3
      have h16 := (dnOk_in hok).1
      rw [hM] at h0 h3 h16
      have hd0 : (l.drop 0).length = M := by rw [List.drop_zero]; exact hM
      have hA0 := Aside0.mk (fun W' (hb : Below W.heap.size W W') => show kr.C W' A (l.drop 0).length (l.drop 0) from by rw [List.drop_zero]; exact Kd.C_below hC hb)
      have hc0 : (l.drop 0).length ≤ c := by rw [List.drop_zero]; exact hlc
      have hself := Aside0.mk (fun W' (hb : Below W.heap.size W W') (B : Option Addr) (d : Nat) (b : List Rdn) (hb2 : Mild b) (hB : kr.C W' B b.length b) => belowN_calls A B c d l b W' hm hb2 hlc (Kd.C_below hC hb) hB)
      rw [hM] at hself ⊢
      replace hM := Aside0.mk hM
      replace hm := Aside0.mk hm
      replace hok := Aside0.mk hok
      clear hC hlc hli he
      go_enter Try.func7, Try.ntmps7
      go_wp2_with fail
      refine h0.out.mono ?_
      rintro e w1 ⟨rfl, hb1⟩
      replace hb1 := Aside0.mk hb1
      go_wp2_with fail
      refine (h3.out _ hb1.out).mono ?_
      rintro e w2 ⟨rfl, hb2⟩
      replace hb2 := Aside0.mk (below_then hb1.out hb1.out.size hb2)
      clear hb1 h0 h3
      go_wp2_with fail
      go_loopw [3, 4] (fun s3 s4 wr => ∃ (k : Nat) (B : Option Addr) (d : Nat), k ≤ M ∧ s3 = .slice B (l.drop k).length d ∧ s4 = .int .i64 k ∧ Aside0 ((l.drop k).length ≤ d) ∧ Aside0 (kr.C wr B (l.drop k).length (l.drop k)) ∧ Aside0 (Below W.heap.size W wr)) (fun _ s4 _ => M - (intOf s4).toNat)
      case atStart => exact ⟨0, A, c, Nat.zero_le _, by rw [hd0], rfl, ⟨hc0⟩, ⟨hA0.out _ hb2.out⟩, hb2⟩
      case round =>
        clear hb2 hA0 hc0 hd0
        obtain ⟨k, B, d, hk, rfl, rfl, hd, hB, hb⟩ := hrel
        have i1 : (0 : Int) ≤ (k : Int) := by omega
        have i2 : (k : Int) < 20 := by omega
        by_cases hne : l.drop k = []
        · have hup := Aside0.mk (up_no B d (l.drop k) wr (mild_drop hm.out k) hB.out (.inr hne))
          have hz : (l.drop k).length = 0 := by rw [hne]; rfl
          rw [hz] at hup ⊢
          clear hne hz
          go_wp2_with fail
          refine hup.out.mono ?_
          rintro e w3 ⟨rfl, hb3⟩
          replace hb3 := Aside0.mk (below_then hb.out hb.out.size hb3)
          go_wp2_with fail
          refine (known_calls _).mono ?_
          rintro e w4 ⟨rfl, hb4⟩
          replace hb4 := Aside0.mk (below_then hb3.out hb3.out.size hb4)
          go_wp2_with fail
          go_ret
          exact ⟨rfl, hb4.out⟩
        · have hkM : k < M := by
            rcases Nat.lt_or_ge k M with h | h
            · exact h
            · exact absurd (List.drop_eq_nil_of_le (by rw [hM.out]; omega)) hne
          have hup := Aside0.mk (up_yes B d (l.drop k) wr (mild_drop hm.out k) hd.out hB.out (dnOk_drop hok.out k) hne)
          have hdd : (l.drop k).drop 1 = l.drop (k + 1) := by rw [List.drop_drop]
          rw [hdd] at hup
          have e1 : beB l (l.drop (k + 1)) = true := beB_drop hok.out (by omega) (by rw [hM.out]; omega)
          have e2 : beB (l.drop k) (l.drop (k + 1)) = true := by rw [← hdd]; exact beB_drop (dnOk_drop hok.out k) (by omega) (by rw [List.length_drop, hM.out]; omega)
          have hlen : (l.drop (k + 1)).length < (l.drop k).length := by rw [List.length_drop, List.length_drop, hM.out]; omega
          have e3 : beB (l.drop (k + 1)) (l.drop k) = false := beB_short (by omega)
          have e4 : alB (l.drop (k + 1)) (l.drop k) = false := alB_short (by omega)
          have mk := mild_drop hm.out k
          have mk1 := mild_drop hm.out (k + 1)
          have c1 := Aside0.mk (fun W' (hb : Below W.heap.size W W') (B' : Option Addr) (d' : Nat) (hB' : kr.C W' B' (l.drop (k + 1)).length (l.drop (k + 1))) => hself.out W' hb B' d' _ mk1 hB')
          have c2 := Aside0.mk (fun W' (hb : Below wr.heap.size wr W') (B' : Option Addr) (d' : Nat) (hB' : kr.C W' B' (l.drop (k + 1)).length (l.drop (k + 1))) => belowN_calls B B' d d' _ _ W' mk mk1 hd.out (Kd.C_below hB.out hb) hB')
          have c3 := Aside0.mk (fun W' (hb : Below wr.heap.size wr W') (B' : Option Addr) (d' : Nat) (hd' : (l.drop (k + 1)).length ≤ d') (hB' : kr.C W' B' (l.drop (k + 1)).length (l.drop (k + 1))) => belowN_calls B' B d' d _ _ W' mk1 mk hd' hB' (Kd.C_below hB.out hb))
          have c4 := Aside0.mk (fun W' (hb : Below wr.heap.size wr W') (B' : Option Addr) (d' : Nat) (hB' : kr.C W' B' (l.drop (k + 1)).length (l.drop (k + 1))) => alikeN_calls B' B d' d _ _ W' mk1 mk hB' (Kd.C_below hB.out hb))
          rw [e1] at c1
          rw [e2] at c2
          rw [e3] at c3
          rw [e4] at c4
          replace hlen := Aside0.mk hlen
          clear e1 e2 e3 e4 mk mk1 hdd hne
          obtain ⟨L1, hL1⟩ : ∃ L1, l.drop (k + 1) = L1 := ⟨_, rfl⟩
          rw [hL1] at c1 c2 c3 c4 hup hlen
          replace hL1 := Aside0.mk hL1
          generalize (l.drop k).length = N at *
          go_wp2_with fail
          refine hup.out.mono ?_
          rintro e w3 ⟨⟨A2, d2, rfl, hR⟩, hb3⟩
          obtain ⟨_, _, ev, hd2, hC2⟩ := Kd.R_reads hR
          injection ev with ev1 _ ev2
          subst ev1; subst ev2
          have hx3 := Aside0.mk hb3
          replace hb3 := Aside0.mk (below_then hb.out hb.out.size hb3)
          replace hC2 := Aside0.mk hC2
          replace hd2 := Aside0.mk hd2
          clear hR hup
          go_wp2_with fail
          refine (c1.out _ hb3.out _ _ hC2.out).mono ?_
          rintro e w4 ⟨rfl, hb4⟩
          replace hC2 := Aside0.mk (Kd.C_below hC2.out hb4)
          have hx4 := Aside0.mk (below_then hx3.out hx3.out.size hb4)
          replace hb4 := Aside0.mk (below_then hb3.out hb3.out.size hb4)
          clear hb3 hx3 c1
          go_wp2_with fail
          refine (c2.out _ hx4.out _ _ hC2.out).mono ?_
          rintro e w5 ⟨rfl, hb5⟩
          replace hC2 := Aside0.mk (Kd.C_below hC2.out hb5)
          have hx5 := Aside0.mk (below_then hx4.out hx4.out.size hb5)
          replace hb5 := Aside0.mk (below_then hb4.out hb4.out.size hb5)
          clear hb4 hx4 c2
          go_wp2_with fail
          refine (c3.out _ hx5.out _ _ hd2.out hC2.out).mono ?_
          rintro e w6 ⟨rfl, hb6⟩
          replace hC2 := Aside0.mk (Kd.C_below hC2.out hb6)
          have hx6 := Aside0.mk (below_then hx5.out hx5.out.size hb6)
          replace hb6 := Aside0.mk (below_then hb5.out hb5.out.size hb6)
          clear hb5 hx5 c3
          go_wp2_with fail
          refine (c4.out _ hx6.out _ _ hC2.out).mono ?_
          rintro e w7 ⟨rfl, hb7⟩
          replace hC2 := Aside0.mk (Kd.C_below hC2.out hb7)
          replace hb7 := Aside0.mk (below_then hb6.out hb6.out.size hb7)
          clear hb6 hx6 c4
          go_wp2_with fail
          go_roundw
          case rel => exact ⟨k + 1, A2, d2, by omega, by rw [hL1.out], by go_num, by rw [hL1.out]; exact hd2, by rw [hL1.out]; exact hC2, hb7⟩
          case measure => simp [intOf]; omega
end Go.Proofs.Ythbjgcmbbdlfkaa
