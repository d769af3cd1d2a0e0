/- The law's left and the reference's Same (plain). -/
import Derived.Test.YtlmelbnmfhpacaaGf
import Derived.Test.YtlmelbnmfhpacaaPBerEncodesx3
import Derived.Test.YtlmelbnmfhpacaaPBerEncodesx4
set_option linter.unusedVariables false
set_option linter.unusedSimpArgs false
namespace Go.Proofs.Ytlmelbnmfhpacaa
open Go.RowKit Go.Shelf Go.Proofs.YtlmelbnmfhpacaaW.PrintWords Go.Proofs.YtlmelbnmfhpacaaW.PrintMore Go.Proofs.YtlmelbnmfhpacaaW.PrintLast

abbrev leftF (K : Nat) (x : T) (w d : Int) : Option Int := PBerEncodes.cardcaselaw05_left.f K x.f0 x.f1 x.f2 x.f3 x.f4 w d
open PBerEncodes in
theorem left_up {K K' : Nat} (h : K ≤ K') {x : T} {w d r : Int} (hr : leftF K x w d = some r) : leftF K' x w d = some r :=
  up_le (f := fun K => leftF K x w d) (fun K => (cardcaselaw05_left.mono_l K).1 _ _ _ _ _ _ _) h hr
open PBerEncodes in
theorem left_l0_up {K K' : Nat} (h : K ≤ K') {w d j x0 x1 : Int} {x2 : Bool} {xb : List Int} {xs : List T} {r : Int} (hr : cardcaselaw05_left.l0 K w d j x0 x1 x2 xb xs = some r) : cardcaselaw05_left.l0 K' w d j x0 x1 x2 xb xs = some r :=
  up_le (f := fun K => cardcaselaw05_left.l0 K w d j x0 x1 x2 xb xs) (fun K => (cardcaselaw05_left.mono_l K).2.2 _ _ _ _ _ _ _ _) h hr
/-- What left tells: below 0, or what is left behind the weight. -/
def LeftOk (r w : Int) (m : Nat) : Prop := -1 ≤ r ∧ r ≤ w ∧ (0 ≤ r → r = w - m)
open PBerEncodes in
theorem left_loop (x0 x1 : Int) (x2 : Bool) (xb : List Int) (xs : List T) (d : Nat) (hd : d ≤ 40) (hx : xs.length ≤ 5000)
    (ih : ∀ x ∈ xs, ∀ w : Int, 0 ≤ w → w ≤ 4000 → ∃ K r, leftF K x w ((d : Int) + 1) = some r ∧ LeftOk r w (wT x)) : ∀ m j, j + m = xs.length → ∀ w : Int, -1 ≤ w → w ≤ 4000 →
    ∃ K r, cardcaselaw05_left.l0 K w (d : Int) (j : Int) x0 x1 x2 xb xs = some r ∧ LeftOk r w (wL (xs.drop j))
  | 0, j, hj, w, w0, w1 => by
    refine ⟨1, w, ?_, w0, Int.le_refl _, fun _ => ?_⟩
    · rw [cardcaselaw05_left.l0, if_neg (by omega)]
    · rw [List.drop_eq_nil_of_le (by omega)]
      simp [wL]
  | m + 1, j, hj, w, w0, w1 => by
    have hjl : j < xs.length := by omega
    by_cases hw : 0 ≤ w
    · obtain ⟨K1, r1, e1, h1, h2, h3⟩ := ih _ (List.getElem_mem hjl) w hw w1
      obtain ⟨K2, r2, e2, g1, g2, g3⟩ := left_loop x0 x1 x2 xb xs d hd hx ih m (j + 1) (by omega) r1 h1 (by omega)
      have e3 : wrap64 ((d : Int) + 1) = (d : Int) + 1 := wrap_in _ (by omega)
      have e4 : wrap64 ((j : Int) + 1) = ((j + 1 : Nat) : Int) := by rw [wrap_in _ (by omega)]; omega
      refine ⟨max K1 K2 + 1, r2, ?_, g1, by omega, fun h => ?_⟩
      · rw [cardcaselaw05_left.l0, if_pos (by omega), if_pos hw, if_pos (by omega), rd_at hjl, e3]
        have e5 := left_up (Nat.le_max_left K1 K2) e1
        unfold leftF at e5
        rw [e5]
        simp only [Option.bind_some]
        rw [e4]
        exact left_l0_up (Nat.le_max_right K1 K2) e2
      · have h4 := g3 h
        have h5 : 0 ≤ r1 := by have := g2; omega
        have h6 := h3 h5
        rw [List.drop_eq_getElem_cons hjl]
        simp only [wL]
        omega
    · refine ⟨1, w, ?_, w0, Int.le_refl _, fun h => absurd h hw⟩
      rw [cardcaselaw05_left.l0, if_pos (by omega), if_neg hw]
open PBerEncodes in
theorem left_ours (x : T) : ∀ (d : Nat) (w : Int), 1 ≤ d → d ≤ 41 → 0 ≤ w → w ≤ 4000 → ∃ K r, leftF K x w (d : Int) = some r ∧ LeftOk r w (wT x) := by
  refine treeInd (P := fun x => ∀ (d : Nat) (w : Int), 1 ≤ d → d ≤ 41 → 0 ≤ w → w ≤ 4000 → ∃ K r, leftF K x w (d : Int) = some r ∧ LeftOk r w (wT x)) (fun x0 x1 x2 xb xs ih => ?_) x
  intro d w d0 d1 w0 w1
  have hno : ∀ K, cardcaselaw05_left.j0 (K + 1) w (d : Int) true x0 x1 x2 xb xs = some (-1) := fun K => by rw [cardcaselaw05_left.j0, if_pos rfl]
  have hz : LeftOk (-1) w (wT ⟨x0, x1, x2, xb, xs⟩) := ⟨by omega, by omega, fun h => by omega⟩
  by_cases c0 : (d : Int) > 40
  · refine ⟨2, -1, ?_, hz⟩
    show cardcaselaw05_left.f 2 x0 x1 x2 xb xs w d = _
    rw [cardcaselaw05_left.f, if_pos c0]
    exact hno 0
  · by_cases c1 : (xb.length : Int) > w
    · refine ⟨2, -1, ?_, hz⟩
      show cardcaselaw05_left.f 2 x0 x1 x2 xb xs w d = _
      rw [cardcaselaw05_left.f, if_neg c0, if_pos c1]
      exact hno 0
    · by_cases c2 : (xs.length : Int) > w
      · refine ⟨2, -1, ?_, hz⟩
        show cardcaselaw05_left.f 2 x0 x1 x2 xb xs w d = _
        rw [cardcaselaw05_left.f, if_neg c0, if_neg c1, decide_eq_true c2]
        exact hno 0
      · obtain ⟨K, r, e, h1, h2, h3⟩ := left_loop x0 x1 x2 xb xs d (by omega) (by omega) (fun x hx w h0 h1 => by
          obtain ⟨K, r, e, h⟩ := ih x hx (d + 1) w (by omega) (by omega) h0 h1
          exact ⟨K, r, e, h⟩) xs.length 0 (by omega) (w - 1 - xb.length) (by omega) (by omega)
        refine ⟨K + 2, r, ?_, h1, by omega, fun h => ?_⟩
        · show cardcaselaw05_left.f (K + 2) x0 x1 x2 xb xs w d = _
          rw [cardcaselaw05_left.f, if_neg c0, if_neg c1, decide_eq_false c2, cardcaselaw05_left.j0, if_neg (by simp), wrap_in (w - 1) (by omega), wrap_in (w - 1 - xb.length) (by omega)]
          exact e
        · have := h3 h
          rw [List.drop_zero] at this
          simp only [wT]
          omega
abbrev sameF (K : Nat) (x y : T) : Option Bool := PBerEncodes.cardcaseref05_Same.f K x.f0 x.f1 x.f2 x.f3 x.f4 y.f0 y.f1 y.f2 y.f3 y.f4
open PBerEncodes in
theorem same_up {K K' : Nat} (h : K ≤ K') {x y : T} {r : Bool} (hr : sameF K x y = some r) : sameF K' x y = some r :=
  up_le (f := fun K => sameF K x y) (fun K => (cardcaseref05_Same.mono_l K).1 _ _ _ _ _ _ _ _ _ _) h hr
open PBerEncodes in
theorem rsame_loop (x0 x1 : Int) (x2 : Bool) (xb : List Int) (xs : List T) (z0 z1 : Int) (z2 : Bool) (zb : List Int) (zs : List T) (hl : xs.length = zs.length) (hx : xs.length ≤ 1000000000)
    (ih : ∀ x ∈ xs, ∀ y ∈ zs, ∃ K r, sameF K x y = some r ∧ (r = true ↔ x = y)) : ∀ m j, j + m = xs.length →
    ∃ K r, cardcaseref05_Same.l0 K (j : Int) x0 x1 x2 xb xs z0 z1 z2 zb zs = some r ∧ (r = true ↔ xs.drop j = zs.drop j)
  | 0, j, hj => by
    refine ⟨1, true, ?_, ?_⟩
    · rw [cardcaseref05_Same.l0, if_neg (by omega)]
    · rw [List.drop_eq_nil_of_le (by omega), List.drop_eq_nil_of_le (by omega)]
      simp
  | m + 1, j, hj => by
    have h1 : j < xs.length := by omega
    have h2 : j < zs.length := by omega
    obtain ⟨K1, r1, e1, g1⟩ := ih _ (List.getElem_mem h1) _ (List.getElem_mem h2)
    obtain ⟨K2, r2, e2, g2⟩ := rsame_loop x0 x1 x2 xb xs z0 z1 z2 zb zs hl hx ih m (j + 1) (by omega)
    have e4 : wrap64 ((j : Int) + 1) = ((j + 1 : Nat) : Int) := by rw [wrap_in _ (by omega)]; omega
    have e5 := same_up (Nat.le_max_left K1 K2) e1
    unfold sameF at e5
    have hd : (xs.drop j = zs.drop j) ↔ (xs[j] = zs[j] ∧ xs.drop (j + 1) = zs.drop (j + 1)) := by
      rw [List.drop_eq_getElem_cons h1, List.drop_eq_getElem_cons h2, List.cons.injEq]
    have hstep : cardcaseref05_Same.l0 (max K1 K2 + 1) (j : Int) x0 x1 x2 xb xs z0 z1 z2 zb zs = if r1 = true then cardcaseref05_Same.l0 (max K1 K2) ((j + 1 : Nat) : Int) x0 x1 x2 xb xs z0 z1 z2 zb zs else some false := by
      rw [cardcaseref05_Same.l0, if_pos (by omega), if_pos (by omega), if_pos (by omega), rd_at h1, rd_at h2, e5]
      simp only [Option.bind_some]
      rw [e4]
    cases r1 with
    | true =>
      refine ⟨max K1 K2 + 1, r2, ?_, ?_⟩
      · rw [hstep, if_pos rfl]
        exact up_le (f := fun K => cardcaseref05_Same.l0 K ((j + 1 : Nat) : Int) x0 x1 x2 xb xs z0 z1 z2 zb zs) (fun K => (cardcaseref05_Same.mono_l K).2.2 _ _ _ _ _ _ _ _ _ _ _) (Nat.le_max_right K1 K2) e2
      · rw [hd, g2]
        simp [g1.1 rfl]
    | false =>
      refine ⟨max K1 K2 + 1, false, ?_, ?_⟩
      · rw [hstep, if_neg (by simp)]
      · rw [hd]
        constructor
        · intro h; cases h
        · intro h; exact g1.2 h.1
open PBerEncodes in
/-- The reference's Same tells whether two values are the same. -/
theorem rsame_ours (x : T) : ∀ y : T, byteT x → byteT y → wT x ≤ 1000000000 → ∃ K r, sameF K x y = some r ∧ (r = true ↔ x = y) := by
  refine treeInd (P := fun x => ∀ y : T, byteT x → byteT y → wT x ≤ 1000000000 → ∃ K r, sameF K x y = some r ∧ (r = true ↔ x = y)) (fun x0 x1 x2 xb xs ih => ?_) x
  intro y hx hy hw
  obtain ⟨z0, z1, z2, zb, zs⟩ := y
  obtain ⟨_, _, hxb, hxs⟩ := hx
  obtain ⟨_, _, hzb, hzs⟩ := hy
  have hwn := wL_length xs
  have hw' : 1 + xb.length + wL xs ≤ 1000000000 := hw
  have hiff : ((⟨x0, x1, x2, xb, xs⟩ : T) = ⟨z0, z1, z2, zb, zs⟩) ↔ (x0 = z0 ∧ x1 = z1 ∧ x2 = z2 ∧ xb = zb ∧ xs = zs) := by simp
  rw [hiff]
  have hf : ∀ K, cardcaseref05_Same.j0 (K + 1) true x0 x1 x2 xb xs z0 z1 z2 zb zs = some false := fun K => by rw [cardcaseref05_Same.j0, if_pos rfl]
  have hss : (strOfNums xb).toList = (strOfNums zb).toList ↔ xb = zb := by
    have := str_eq xb zb hxb hzb
    rw [beq_iff_eq] at this
    exact this
  have hno : ¬ (x0 = z0 ∧ x1 = z1 ∧ x2 = z2 ∧ xb = zb ∧ xs.length = zs.length) → ∃ K r, sameF K ⟨x0, x1, x2, xb, xs⟩ ⟨z0, z1, z2, zb, zs⟩ = some r ∧ (r = true ↔ (x0 = z0 ∧ x1 = z1 ∧ x2 = z2 ∧ xb = zb ∧ xs = zs)) := fun h => by
    refine ⟨2, false, ?_, ⟨fun h' => (by cases h'), fun h' => absurd (show _ from ⟨h'.1, h'.2.1, h'.2.2.1, h'.2.2.2.1, (by rw [h'.2.2.2.2])⟩) h⟩⟩
    show cardcaseref05_Same.f 2 x0 x1 x2 xb xs z0 z1 z2 zb zs = _
    rw [cardcaseref05_Same.f]
    by_cases c0 : x0 = z0
    · rw [if_pos c0]
      by_cases c1 : x1 = z1
      · rw [if_pos c1]
        by_cases c2 : x2 = z2
        · rw [if_neg (by simp [c2])]
          by_cases c3 : xb = zb
          · rw [if_pos (hss.2 c3)]
            have c4 : xs.length ≠ zs.length := fun c4 => h ⟨c0, c1, c2, c3, c4⟩
            rw [show ((xs.length : Int) != (zs.length : Int)) = true by simp; omega]
            exact hf 0
          · rw [if_neg (fun h => c3 (hss.1 h))]
            exact hf 0
        · rw [if_pos (by simpa using c2)]
          exact hf 0
      · rw [if_neg c1]
        exact hf 0
    · rw [if_neg c0]
      exact hf 0
  by_cases hc : x0 = z0 ∧ x1 = z1 ∧ x2 = z2 ∧ xb = zb ∧ xs.length = zs.length
  · obtain ⟨c0, c1, c2, c3, c4⟩ := hc
    obtain ⟨K, r, e, hr⟩ := rsame_loop x0 x1 x2 xb xs z0 z1 z2 zb zs c4 (by omega) (fun x hx y hy => ih x hx y ((byteL_iff xs).1 hxs x hx) ((byteL_iff zs).1 hzs y hy) (by have := wT_mem hx; omega)) xs.length 0 (by omega)
    refine ⟨K + 2, r, ?_, ?_⟩
    · show cardcaseref05_Same.f (K + 2) x0 x1 x2 xb xs z0 z1 z2 zb zs = _
      rw [cardcaseref05_Same.f, if_pos c0, if_pos c1, if_neg (by simp [c2]), if_pos (hss.2 c3), show ((xs.length : Int) != (zs.length : Int)) = false by simp; omega, cardcaseref05_Same.j0, if_neg (by simp)]
      exact e
    · rw [hr, List.drop_zero, List.drop_zero]
      simp [c0, c1, c2, c3]
  · exact hno hc
end Go.Proofs.Ytlmelbnmfhpacaa
