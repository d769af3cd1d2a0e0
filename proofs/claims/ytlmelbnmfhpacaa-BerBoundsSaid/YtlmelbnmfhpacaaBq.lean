/- The reference's Size and Check are ours (plain). -/
import Derived.Test.YtlmelbnmfhpacaaBp
import Derived.Test.YtlmelbnmfhpacaaPBerEncodesx2
set_option linter.unusedVariables false
set_option linter.unusedSimpArgs false
namespace Go.Proofs.Ytlmelbnmfhpacaa
open Go.RowKit Go.Shelf Go.Proofs.YtlmelbnmfhpacaaW.PrintWords Go.Proofs.YtlmelbnmfhpacaaW.PrintMore Go.Proofs.YtlmelbnmfhpacaaW.PrintLast

abbrev rsizeF (K : Nat) (x : T) : Option Int := PBerEncodes.cardcaseref05_Size.f K x.f0 x.f1 x.f2 x.f3 x.f4
theorem lenL_len (n : Nat) : (lenL n).length = if n < 128 then 1 else if n < 256 then 2 else if n < 65536 then 3 else 4 := by
  unfold lenL
  split
  · rfl
  · split
    · rfl
    · split <;> rfl
theorem lenL_mono {a b : Nat} (h : a ≤ b) : (lenL a).length ≤ (lenL b).length := by
  rw [lenL_len, lenL_len]
  repeat' split
  all_goals omega
open PBerEncodes in
theorem rsize_end (K : Nat) (n : Nat) (hn : n ≤ 10000000) (KM : Nat) (e : cardcaseref05_many.f KM (n : Int) = some (((lenL n).length : Nat) : Int)) : ((cardcaseref05_many.f KM (n : Int)).bind fun t => (some (wrap64 ((wrap64 (1 + t)) + (n : Int)))) : Option Int) = some ((1 + (lenL n).length + n : Nat) : Int) := by
  have h4 := (lenL_length n).2
  have q1 : wrap64 (1 + ((lenL n).length : Int)) = ((1 + (lenL n).length : Nat) : Int) := wrap_sum 1 _ (by omega)
  have q2 := wrap_sum (1 + (lenL n).length) n (by omega)
  rw [e, Option.bind_some, q1, q2]
open PBerEncodes in
theorem many_up {K K' : Nat} (h : K ≤ K') {n r : Int} (e : cardcaseref05_many.f K n = some r) : cardcaseref05_many.f K' n = some r := by
  unfold cardcaseref05_many.f at e ⊢
  split at e
  · rw [if_pos ‹_›]; exact e
  · rw [if_neg ‹_›]; exact up_le (f := fun K => cardcaseref05_many.l0 K n 1) (fun K => (cardcaseref05_many.mono_l K) _ _) h e
open PBerEncodes in
theorem rsize_loop (x0 x1 : Int) (x2 : Bool) (xb : List Int) (xs : List T) (hx : xs.length ≤ 10000000) (ih : ∀ x ∈ xs, ∃ K r, rsizeF K x = some ((r : Nat) : Int) ∧ SizeOk r (sizeT x)) : ∀ m j, j + m = xs.length → ∀ n : Nat, n + sizeL (xs.drop j) ≤ 10000000 →
    ∃ K r, cardcaseref05_Size.l0 K (n : Int) (j : Int) x0 x1 x2 xb xs = some ((r : Nat) : Int) ∧ SizeOk r (1 + (lenL (n + sizeL (xs.drop j))).length + (n + sizeL (xs.drop j)))
  | 0, j, hj, n, hn => by
    obtain rfl : j = xs.length := by omega
    have hd : sizeL (xs.drop xs.length) = 0 := by rw [List.drop_length, sizeL]
    rw [hd, Nat.add_zero] at hn ⊢
    obtain ⟨KM, e⟩ := many_ours n (by omega)
    refine ⟨KM + 1, _, ?_, Nat.le_refl _, .inl rfl⟩
    rw [cardcaseref05_Size.l0, if_neg (Int.lt_irrefl _)]
    exact rsize_end KM n hn KM e
  | m + 1, j, hj, n, hn => by
    have hjl : j < xs.length := by omega
    have hd : sizeL (xs.drop j) = sizeT xs[j] + sizeL (xs.drop (j + 1)) := by rw [List.drop_eq_getElem_cons hjl, sizeL]
    by_cases c : 65536 < n
    · obtain ⟨KM, e⟩ := many_ours n (by omega)
      refine ⟨KM + 1, 1 + (lenL n).length + n, ?_, ?_, .inr (by omega)⟩
      · rw [cardcaseref05_Size.l0, if_pos (by omega), if_neg (by omega)]
        exact rsize_end KM n (by omega) KM e
      · have := lenL_mono (show n ≤ n + sizeL (xs.drop j) by omega)
        omega
    · obtain ⟨K1, r1, e1, h1, h2⟩ := ih xs[j] (List.getElem_mem hjl)
      rw [hd] at hn ⊢
      by_cases c2 : r1 = sizeT xs[j]
      · obtain ⟨K2, r2, e2, h4⟩ := rsize_loop x0 x1 x2 xb xs hx ih m (j + 1) (by omega) (n + sizeT xs[j]) (by omega)
        refine ⟨max K1 K2 + 1, r2, ?_, by rw [← Nat.add_assoc n]; exact h4⟩
        have q1 := wrap_sum n (sizeT xs[j]) (by omega)
        have q3 : wrap64 ((j : Int) + 1) = ((j + 1 : Nat) : Int) := wrap_sum j 1 (by omega)
        have e5 := up_le (f := fun k => rsizeF k xs[j]) (fun k => (cardcaseref05_Size.mono_l k).1 _ _ _ _ _) (Nat.le_max_left K1 K2) e1
        have e6 := up_le (f := fun k => cardcaseref05_Size.l0 k ((n + sizeT xs[j] : Nat) : Int) ((j + 1 : Nat) : Int) x0 x1 x2 xb xs) (fun k => (cardcaseref05_Size.mono_l k).2 _ _ _ _ _ _ _) (Nat.le_max_right K1 K2) e2
        rw [c2] at e5
        unfold rsizeF at e5
        rw [cardcaseref05_Size.l0, if_pos (by omega), if_pos (by omega), if_pos (by omega), rd_at hjl, e5, Option.bind_some, q1, q3]
        exact e6
      · have hr1 : 65536 < r1 := by omega
        obtain ⟨KM, e⟩ := many_ours (n + r1) (by omega)
        have q1 := wrap_sum n r1 (by omega)
        have q3 : wrap64 ((j : Int) + 1) = ((j + 1 : Nat) : Int) := wrap_sum j 1 (by omega)
        have e5 := up_le (f := fun k => rsizeF k xs[j]) (fun k => (cardcaseref05_Size.mono_l k).1 _ _ _ _ _) (show K1 ≤ max K1 (KM + 1) by omega) e1
        unfold rsizeF at e5
        have e7 : cardcaseref05_Size.l0 (max K1 (KM + 1)) ((n + r1 : Nat) : Int) ((j + 1 : Nat) : Int) x0 x1 x2 xb xs = some ((1 + (lenL (n + r1)).length + (n + r1) : Nat) : Int) := by
          have e8 : cardcaseref05_Size.l0 (KM + 1) ((n + r1 : Nat) : Int) ((j + 1 : Nat) : Int) x0 x1 x2 xb xs = some ((1 + (lenL (n + r1)).length + (n + r1) : Nat) : Int) := by
            have e9 := rsize_end KM (n + r1) (by omega) KM e
            rw [cardcaseref05_Size.l0]
            split
            · rw [if_neg (by omega)]; exact e9
            · exact e9
          exact up_le (f := fun k => cardcaseref05_Size.l0 k ((n + r1 : Nat) : Int) ((j + 1 : Nat) : Int) x0 x1 x2 xb xs) (fun k => (cardcaseref05_Size.mono_l k).2 _ _ _ _ _ _ _) (by omega) e8
        refine ⟨max K1 (KM + 1) + 1, 1 + (lenL (n + r1)).length + (n + r1), ?_, ?_, .inr (by omega)⟩
        · rw [cardcaseref05_Size.l0, if_pos (by omega), if_pos (by omega), if_pos (by omega), rd_at hjl, e5, Option.bind_some, q1, q3]
          exact e7
        · have := lenL_mono (show n + r1 ≤ n + (sizeT xs[j] + sizeL (xs.drop (j + 1))) by omega)
          omega
open PBerEncodes in
theorem rsize_ours (x : T) : sizeT x ≤ 10000000 → ∃ K r, rsizeF K x = some ((r : Nat) : Int) ∧ SizeOk r (sizeT x) := by
  refine treeInd (P := fun x => sizeT x ≤ 10000000 → ∃ K r, rsizeF K x = some ((r : Nat) : Int) ∧ SizeOk r (sizeT x)) (fun x0 x1 x2 xb xs ih => ?_) x
  intro h
  rw [sizeT] at h ⊢
  have hc := sizeL_count xs
  obtain ⟨K, r, e, h2⟩ := rsize_loop x0 x1 x2 xb xs (by omega) (fun x hx => ih x hx (by have := sizeL_mem hx; omega)) xs.length 0 (by omega) xb.length (by rw [List.drop_zero]; omega)
  rw [List.drop_zero] at h2
  refine ⟨K + 1, r, ?_, h2⟩
  show cardcaseref05_Size.f (K + 1) x0 x1 x2 xb xs = _
  rw [cardcaseref05_Size.f]
  exact e
abbrev flawF (K : Nat) (x : T) (d : Int) : Option (Bool × Bool) := PBerEncodes.cardcaseref05_flaws.f K x.f0 x.f1 x.f2 x.f3 x.f4 d
open PBerEncodes in
theorem flaw_loop (x0 x1 : Int) (x2 : Bool) (xb : List Int) (xs : List T) (d : Nat) (hd : d ≤ 1000000000) (hx : xs.length ≤ 1000000000)
    (ih : ∀ x ∈ xs, ∃ K, flawF K x ((d : Int) + 1) = some (!argT x, !deepT (d + 1) x)) : ∀ m j, j + m = xs.length → ∀ a b : Bool,
    ∃ K, cardcaseref05_flaws.l0 K (d : Int) a b (j : Int) x0 x1 x2 xb xs = some (a || !argL (xs.drop j), b || !deepL (d + 1) (xs.drop j))
  | 0, j, hj, a, b => by
    refine ⟨1, ?_⟩
    rw [cardcaseref05_flaws.l0, if_neg (by omega), List.drop_eq_nil_of_le (by omega)]
    simp [argL, deepL]
  | m + 1, j, hj, a, b => by
    have hjl : j < xs.length := by omega
    obtain ⟨K1, e1⟩ := ih _ (List.getElem_mem hjl)
    obtain ⟨K2, e2⟩ := flaw_loop x0 x1 x2 xb xs d hd hx ih m (j + 1) (by omega) (a || !argT xs[j]) (b || !deepT (d + 1) xs[j])
    have q1 : wrap64 ((d : Int) + 1) = (d : Int) + 1 := wrap_in _ (by omega)
    have q3 : wrap64 ((j : Int) + 1) = ((j + 1 : Nat) : Int) := by rw [wrap_in _ (by omega)]; omega
    have e5 := up_le (f := fun k => flawF k xs[j] ((d : Int) + 1)) (fun k => (cardcaseref05_flaws.mono_l k).1 _ _ _ _ _ _) (Nat.le_max_left K1 K2) e1
    have e6 := up_le (f := fun k => cardcaseref05_flaws.l0 k (d : Int) (a || !argT xs[j]) (b || !deepT (d + 1) xs[j]) ((j + 1 : Nat) : Int) x0 x1 x2 xb xs) (fun k => (cardcaseref05_flaws.mono_l k).2.2 _ _ _ _ _ _ _ _ _) (Nat.le_max_right K1 K2) e2
    unfold flawF at e5
    refine ⟨max K1 K2 + 1, ?_⟩
    rw [cardcaseref05_flaws.l0, if_pos (by omega), if_pos (by omega), rd_at hjl, q1, e5, Option.bind_some, q3, List.drop_eq_getElem_cons hjl]
    simp only [argL, deepL, Bool.not_and, ← Bool.or_assoc]
    cases a <;> cases b <;> simpa using e6
open PBerEncodes in
theorem flaw_ours (x : T) : ∀ d : Nat, d + wT x ≤ 1000000000 → ∃ K, flawF K x (d : Int) = some (!argT x, !deepT d x) := by
  refine treeInd (P := fun x => ∀ d : Nat, d + wT x ≤ 1000000000 → ∃ K, flawF K x (d : Int) = some (!argT x, !deepT d x)) (fun x0 x1 x2 xb xs ih => ?_) x
  intro d hd
  have hd' : d + (1 + xb.length + wL xs) ≤ 1000000000 := hd
  have hwn := wL_length xs
  have harg : argT ⟨x0, x1, x2, xb, xs⟩ = ((decide (x0 ≤ 3) && decide (x1 ≤ 30) && (!x2 || xb.isEmpty) && (x2 || xs.isEmpty)) && argL xs) := rfl
  have hdeep : deepT d ⟨x0, x1, x2, xb, xs⟩ = (decide (d ≤ 16) && deepL (d + 1) xs) := rfl
  rw [harg, hdeep]
  have hl := fun a => flaw_loop x0 x1 x2 xb xs d (by omega) (by omega) (fun x hx => by
    obtain ⟨K, e⟩ := ih x hx (d + 1) (by have := wT_mem hx; omega)
    exact ⟨K, e⟩) xs.length 0 (by omega) a (decide ((d : Int) > 16))
  have hj : ∀ a, ∃ K, cardcaseref05_flaws.j0 K (d : Int) a x0 x1 x2 xb xs = some (a || !argL xs, !(decide (d ≤ 16) && deepL (d + 1) xs)) := fun a => by
    obtain ⟨K, e⟩ := hl a
    refine ⟨K + 1, ?_⟩
    rw [cardcaseref05_flaws.j0]
    rw [List.drop_zero] at e
    refine e.trans ?_
    have : decide ((d : Int) > 16) = !decide (d ≤ 16) := by
      by_cases c : d ≤ 16
      · rw [decide_eq_false (by omega), decide_eq_true c]; rfl
      · rw [decide_eq_true (by omega), decide_eq_false c]; rfl
    rw [this, Bool.not_and]
  have hstep : ∀ a : Bool, (∀ K, flawF (K + 1) ⟨x0, x1, x2, xb, xs⟩ (d : Int) = cardcaseref05_flaws.j0 K (d : Int) a x0 x1 x2 xb xs) → (!((decide (x0 ≤ 3) && decide (x1 ≤ 30) && (!x2 || xb.isEmpty) && (x2 || xs.isEmpty)))) = a → ∃ K, flawF K ⟨x0, x1, x2, xb, xs⟩ (d : Int) = some (!((decide (x0 ≤ 3) && decide (x1 ≤ 30) && (!x2 || xb.isEmpty) && (x2 || xs.isEmpty)) && argL xs), !(decide (d ≤ 16) && deepL (d + 1) xs)) := fun a h1 h2 => by
    obtain ⟨K, e⟩ := hj a
    refine ⟨K + 1, ?_⟩
    rw [h1 K, e, ← h2, Bool.not_and (_ && _ && _ && _)]
  have hf : ∀ K, flawF (K + 1) ⟨x0, x1, x2, xb, xs⟩ (d : Int) = cardcaseref05_flaws.f (K + 1) x0 x1 x2 xb xs (d : Int) := fun K => rfl
  by_cases c0 : x0 ≤ 3
  · by_cases c1 : x1 ≤ 30
    · cases x2 with
      | true =>
        cases xb with
        | nil => exact hstep false (fun K => by rw [hf, cardcaseref05_flaws.f, if_neg (by omega), if_neg (by omega), if_pos rfl, if_neg (by simp)]) (by simp [c0, c1])
        | cons y l => exact hstep true (fun K => by rw [hf, cardcaseref05_flaws.f, if_neg (by omega), if_neg (by omega), if_pos rfl, if_pos (by simp)]) (by simp)
      | false =>
        cases xs with
        | nil => exact hstep false (fun K => by rw [hf, cardcaseref05_flaws.f, if_neg (by omega), if_neg (by omega), if_neg (by simp)]; rfl) (by simp [c0, c1])
        | cons y l => exact hstep true (fun K => by rw [hf, cardcaseref05_flaws.f, if_neg (by omega), if_neg (by omega), if_neg (by simp), decide_eq_true (by simp)]) (by simp)
    · exact hstep true (fun K => by rw [hf, cardcaseref05_flaws.f, if_neg (by omega), if_pos (by omega)]) (by simp [c1])
  · exact hstep true (fun K => by rw [hf, cardcaseref05_flaws.f, if_pos (by omega)]) (by simp [c0])
/-- The reference's Check tells what ours does. -/
theorem rcheck_ours (x : T) (hw : wT x ≤ 1000000) : ∃ K, PBerEncodes.cardcaseref05_Check.f K x.f0 x.f1 x.f2 x.f3 x.f4 = some (checkN x) := by
  obtain ⟨K1, e1⟩ := flaw_ours x 1 (by omega)
  have hz := sizeT_w x
  obtain ⟨K2, r, e2, h1, h2⟩ := rsize_ours x (by omega)
  have e5 := up_le (f := fun k => flawF k x ((1 : Nat) : Int)) (fun k => (PBerEncodes.cardcaseref05_flaws.mono_l k).1 _ _ _ _ _ _) (Nat.le_max_left K1 K2) e1
  have e6 := up_le (f := fun k => rsizeF k x) (fun k => (PBerEncodes.cardcaseref05_Size.mono_l k).1 _ _ _ _ _) (Nat.le_max_right K1 K2) e2
  refine ⟨max K1 K2, ?_⟩
  unfold flawF at e5
  unfold rsizeF at e6
  unfold PBerEncodes.cardcaseref05_Check.f
  rw [show (1 : Int) = ((1 : Nat) : Int) from rfl, e5, Option.bind_some, e6]
  unfold checkN rightN
  cases argT x with
  | false => rfl
  | true =>
    cases deepT 1 x with
    | false => rfl
    | true =>
      have hs : (65536 < (sizeT x : Int)) ↔ ((r : Int) > 65536) := by omega
      simp only [Bool.not_true, Option.bind_some, if_true]
      rw [if_neg (by simp), if_neg (by simp)]
      by_cases c : (r : Int) > 65536
      · rw [if_pos c, if_pos (hs.2 c)]
      · rw [if_neg c, if_neg (fun h => c (hs.1 h))]
theorem rcheck_calls (x : T) (A : Option Addr) (c : Nat) (B : Option Addr) (d : Nat) (w : World) (hv : Bv w x A c B d) (hw : wT x ≤ 1000000) :
    Calls Try.prog 15 #[.agg #[.int .u8 x.f0, .int .u8 x.f1, .bool x.f2, .slice A x.f3.length c, .slice B x.f4.length d]] w fun e w' => e = .returned (.int .i64 (checkN x)) ∧ Below w.heap.size w w' := by
  obtain ⟨K, e⟩ := rcheck_ours x hw
  refine (PBerEncodes.cardcaseref05_Check.calls K x.f0 x.f1 x.f2 A c x.f3 B d x.f4 _ w hv.cb hv.lb hv.ci hv.li e).mono ?_
  rintro e w' ⟨rfl, hd⟩
  exact ⟨rfl, hd⟩
end Go.Proofs.Ytlmelbnmfhpacaa
