/- The law's own known(). -/
import Derived.Test.YtbocbaakknkfiaaOd
set_option linter.unusedVariables false
set_option linter.unusedSimpArgs false
namespace Go.Proofs.Ytbocbaakknkfiaa
open Go.RowKit Go.Shelf Go.Proofs.YtbocbaakknkfiaaW.PrintWords Go.Proofs.YtbocbaakknkfiaaW.PrintMore Go.Proofs.YtbocbaakknkfiaaW.PrintLast

def sA : ByteArray := ⟨#[97]⟩
def sB : ByteArray := ⟨#[98]⟩
def sC : ByteArray := ⟨#[99]⟩
theorem T_lit (a b : Fld) : T a b = decide (a.map (fun s => s.data.toList) = b.map (fun s => s.data.toList)) := by
  unfold T
  have e : ∀ l : Fld, l.map ByteArray.toList = l.map (fun s => s.data.toList) := fun l => List.map_congr_left fun s _ => ByteArray.toList_eq s
  rw [e, e]
theorem rise_short {l : Fld} (h : l.length ≤ 1) : rise l = true := rise_yes (rise_start l) h
theorem fOk_nil (f : Nat) : fOk f [] = true := by
  unfold fOk
  rw [rise_short (by simp)]
  have : ¬ mostOf f < (([] : Fld).length : Int) := by unfold mostOf; split <;> simp
  rw [decide_eq_false this]; rfl
theorem fOk_one (f : Nat) (s : ByteArray) (h : valOk f s = true) : fOk f [s] = true := by
  unfold fOk
  rw [rise_short (by simp)]
  have : ¬ mostOf f < (([s] : Fld).length : Int) := by unfold mostOf; split <;> simp
  rw [decide_eq_false this]; simp [h]
theorem checkOk_iff {L : Nat → Fld} : checkOk L = true ↔ (∀ i, i < 8 → fOk i (L i) = true) ∧ (L 0).length = 1 := by
  unfold checkOk
  rw [Bool.and_eq_true, List.all_eq_true, decide_eq_true_eq]
  constructor
  · rintro ⟨h1, h2⟩; exact ⟨fun i hi => h1 ⟨i, hi⟩ (List.mem_finRange _), h2⟩
  · rintro ⟨h1, h2⟩; exact ⟨fun i _ => h1 i.val i.isLt, h2⟩
theorem saidOk (s : ByteArray) (h : valOk 4 s = true) : checkOk (saidL s) = true := by
  refine checkOk_iff.2 ⟨fun i hi => ?_, rfl⟩
  unfold saidL
  by_cases h0 : i = 0
  · subst h0; exact fOk_one 0 _ (by decide)
  · by_cases h4 : i = 4
    · subst h4; exact fOk_one 4 _ h
    · rw [if_neg h0, if_neg h4]; exact fOk_nil i
theorem said_ok : checkOk (saidL sA) = true ∧ checkOk (saidL sB) = true ∧ checkOk (saidL sC) = true := ⟨saidOk _ (by decide), saidOk _ (by decide), saidOk _ (by decide)⟩
theorem said_abc : merged (saidL sA) (saidL sB) (saidL sC) 4 = [sC] ∧ disps (saidL sA) (saidL sB) (saidL sC) 8 = [4] := by
  constructor
  · unfold merged takesA; rw [T_lit, T_lit]; rfl
  · unfold disps dispF; simp only [T_lit]; decide
theorem said_aba : merged (saidL sA) (saidL sB) (saidL sA) 4 = [sB] ∧ disps (saidL sA) (saidL sB) (saidL sA) 8 = [] := by
  constructor
  · unfold merged takesA; rw [T_lit, T_lit]; rfl
  · unfold disps dispF; simp only [T_lit]; decide
theorem int_at {W : World} {A : Option Addr} {l : List Int} (h : (Kd.int .i64).C W A l.length l) (k : Nat) (hk : k < l.length) : ∃ ad, A = some ad ∧ W.cell? (ad.add k) = some (.int .i64 l[k]) := by
  obtain ⟨ad, c, e, _, hK, hc0⟩ := Kd.C_get h 0 (k : Int) (by omega) (by omega)
  have hc : ∀ j u, c[j]? = some u → W.cell? (ad.add (k * 1 + j)) = some u := hc0
  have hg : l.getD (k : Int).toNat 0 = l[k] := by simp [List.getD_eq_getElem?_getD, hk]
  rw [hg] at hK
  have : c = [.int .i64 l[k]] := hK
  subst this
  exact ⟨ad, e, by have hq := hc 0 _ rfl; rwa [Nat.mul_one, Nat.add_zero] at hq⟩
theorem ver_23 : ver 2 3 = 4 ∧ verErr 2 3 = 0 := by decide
set_option maxHeartbeats 4000000 in
theorem known_calls (w : World) : Calls Try.prog 9 #[] w fun e w' => e = .returned (.bool true) ∧ Below w.heap.size w w' := by
  have hs : ∀ (s : ByteArray) (w : World), s = sA ∨ s = sB ∨ s = sC → Calls Try.prog 21 #[.string s] w fun e w' => ∃ x : CT, e = .returned (.agg (conV x.V)) ∧ x.L = saidL s ∧ x.In w' ∧ Below w.heap.size w w' := fun s w h => said_calls s w (by rcases h with rfl | rfl | rfl <;> decide)
  go_enter Try.func9, Try.ntmps9
  go_wp2_with fail
  refine (hs sA w (.inl rfl)).mono ?_
  rintro e w1 ⟨x1, rfl, hx1, hi1, hb1⟩
  go_wp2_with fail
  refine (hs sB w1 (.inr (.inl rfl))).mono ?_
  rintro e w2 ⟨x2, rfl, hx2, hi2, hb2⟩
  go_wp2_with fail
  refine (hs sC w2 (.inr (.inr rfl))).mono ?_
  rintro e w3 ⟨x3, rfl, hx3, hi3, hb3⟩
  have B13 := below_then hb1 hb1.size (below_then hb2 hb2.size hb3)
  go_wp2_with fail
  refine (three_yes x1 x2 x3 w3 ((hi1.below hb2).below hb3) (hi2.below hb3) hi3 (by rw [hx1, hx2, hx3, said_ok.1, said_ok.2.1, said_ok.2.2]; rfl)).mono ?_
  rw [hx1, hx2, hx3, said_abc.2]
  rintro e w4 ⟨v, A, c, rfl, hc4, hd4, hb4⟩
  simp only [conV, FV]
  obtain ⟨N, hN⟩ : ∃ N : Nat → Nat, ∀ i, (merged (saidL sA) (saidL sB) (saidL sC) i).length = N i := ⟨_, fun _ => rfl⟩
  simp only [hN]
  have n4 : N 4 = 1 := by rw [← hN, said_abc.1]; rfl
  have r4 := hc4.row 4 (by omega)
  rw [said_abc.1] at r4
  obtain ⟨ad, ea, pa⟩ := str_at r4 0 (by simp)
  obtain ⟨Av, cv, ev, _, rv⟩ := Kd.R_reads hd4
  subst ev
  obtain ⟨dv, edv, pv⟩ := int_at rv 0 (by simp)
  subst edv
  go_wp2_with fail
  have h5 := heap_alloc_new w4 (.cells #[.slice (A 0) (N 0) (c 0), .slice (A 1) (N 1) (c 1), .slice (A 2) (N 2) (c 2), .slice (A 3) (N 3) (c 3), .slice (some ad) 1 (c 4), .slice (A 5) (N 5) (c 5), .slice (A 6) (N 6) (c 6), .slice (A 7) (N 7) (c 7)] 24)
  have b5 := below_alloc (Below.refl w4.heap.size w4) (.cells #[.slice (A 0) (N 0) (c 0), .slice (A 1) (N 1) (c 1), .slice (A 2) (N 2) (c 2), .slice (A 3) (N 3) (c 3), .slice (some ad) 1 (c 4), .slice (A 5) (N 5) (c 5), .slice (A 6) (N 6) (c 6), .slice (A 7) (N 7) (c 7)] 24)
  generalize w4.alloc (.cells #[.slice (A 0) (N 0) (c 0), .slice (A 1) (N 1) (c 1), .slice (A 2) (N 2) (c 2), .slice (A 3) (N 3) (c 3), .slice (some ad) 1 (c 4), .slice (A 5) (N 5) (c 5), .slice (A 6) (N 6) (c 6), .slice (A 7) (N 7) (c 7)] 24) = w5 at *
  have q5 : w5.cell? ⟨w4.heap.size, 4, none⟩ = some (.slice (some ad) 1 (c 4)) := by rw [cell_of_row _ _ _ _ _ _ h5]; rfl
  have B5 := Aside0.mk (below_then B13 B13.size (below_then hb4 hb4.size b5))
  replace pa := pw_cell_below b5 pa
  replace pv := pw_cell_below b5 pv
  clear h5 b5 hc4 hd4 rv r4 ea hN n4 hb1 hb2 hb3 hb4 B13 hi1 hi2 hi3
  clear hx1 hx2 hx3
  refine (hs sA w5 (.inl rfl)).mono ?_
  rintro e w6 ⟨x1', rfl, hx1, hi1, hb1⟩
  go_wp2_with fail
  refine (hs sB w6 (.inr (.inl rfl))).mono ?_
  rintro e w7 ⟨x2', rfl, hx2, hi2, hb2⟩
  go_wp2_with fail
  refine (hs sA w7 (.inl rfl)).mono ?_
  rintro e w8 ⟨x3', rfl, hx3, hi3, hb3⟩
  have B13 := below_then hb1 hb1.size (below_then hb2 hb2.size hb3)
  go_wp2_with fail
  refine (three_yes x1' x2' x3' w8 ((hi1.below hb2).below hb3) (hi2.below hb3) hi3 (by rw [hx1, hx2, hx3, said_ok.1, said_ok.2.1]; rfl)).mono ?_
  rw [hx1, hx2, hx3, said_aba.2]
  rintro e w9 ⟨v2, A2, c2, rfl, hc4, hd4, hb4⟩
  simp only [conV, FV]
  obtain ⟨N2, hN⟩ : ∃ N : Nat → Nat, ∀ i, (merged (saidL sA) (saidL sB) (saidL sA) i).length = N i := ⟨_, fun _ => rfl⟩
  simp only [hN]
  have n4 : N2 4 = 1 := by rw [← hN, said_aba.1]; rfl
  have r4 := hc4.row 4 (by omega)
  rw [said_aba.1] at r4
  obtain ⟨ad2, ea, pa2⟩ := str_at r4 0 (by simp)
  obtain ⟨Av2, cv2, ev, _, _⟩ := Kd.R_reads hd4
  subst ev
  go_wp2_with fail
  have h10 := heap_alloc_new w9 (.cells #[.slice (A2 0) (N2 0) (c2 0), .slice (A2 1) (N2 1) (c2 1), .slice (A2 2) (N2 2) (c2 2), .slice (A2 3) (N2 3) (c2 3), .slice (some ad2) 1 (c2 4), .slice (A2 5) (N2 5) (c2 5), .slice (A2 6) (N2 6) (c2 6), .slice (A2 7) (N2 7) (c2 7)] 24)
  have b10 := below_alloc (Below.refl w9.heap.size w9) (.cells #[.slice (A2 0) (N2 0) (c2 0), .slice (A2 1) (N2 1) (c2 1), .slice (A2 2) (N2 2) (c2 2), .slice (A2 3) (N2 3) (c2 3), .slice (some ad2) 1 (c2 4), .slice (A2 5) (N2 5) (c2 5), .slice (A2 6) (N2 6) (c2 6), .slice (A2 7) (N2 7) (c2 7)] 24)
  generalize w9.alloc (.cells #[.slice (A2 0) (N2 0) (c2 0), .slice (A2 1) (N2 1) (c2 1), .slice (A2 2) (N2 2) (c2 2), .slice (A2 3) (N2 3) (c2 3), .slice (some ad2) 1 (c2 4), .slice (A2 5) (N2 5) (c2 5), .slice (A2 6) (N2 6) (c2 6), .slice (A2 7) (N2 7) (c2 7)] 24) = w10 at *
  have q10 : w10.cell? ⟨w9.heap.size, 4, none⟩ = some (.slice (some ad2) 1 (c2 4)) := by rw [cell_of_row _ _ _ _ _ _ h10]; rfl
  have B10 := below_then B13 B13.size (below_then hb4 hb4.size b10)
  replace pa2 := pw_cell_below b10 pa2
  refine (verdict_calls 2 3 (by omega) (by omega) w10).mono ?_
  rw [ver_23.1, ver_23.2]
  rintro e w11 ⟨rfl, hb11⟩
  have B11 := below_then B10 B10.size hb11
  replace pa := pw_cell_below B11 pa
  replace pv := pw_cell_below B11 pv
  replace q5 := pw_cell_below B11 q5
  replace pa2 := pw_cell_below hb11 pa2
  replace q10 := pw_cell_below hb11 q10
  have BB := Aside0.mk (below_then B5.out B5.out.size B11)
  rw [Addr.add_zero'] at pa pv pa2
  clear B5 B10 B11 hb11 b10 h10 hc4 hd4 ea hN n4 hb1 hb2 hb3 hb4 B13 hi1 hi2 hi3 hs r4
  have tC : sC.toList = [99] := by rw [ByteArray.toList_eq]; rfl
  have tB : sB.toList = [98] := by rw [ByteArray.toList_eq]; rfl
  go_wp2_with fail
  go_ret
  exact ⟨rfl, BB.out⟩
end Go.Proofs.Ytbocbaakknkfiaa
