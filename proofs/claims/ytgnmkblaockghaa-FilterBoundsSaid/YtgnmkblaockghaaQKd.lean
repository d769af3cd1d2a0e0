/- The reference's Right (plain). -/
import Derived.Test.YtgnmkblaockghaaQJi
import Derived.Test.YtgnmkblaockghaaQH2
import Derived.Test.YtgnmkblaockghaaQPL4
set_option linter.unusedVariables false
set_option linter.unusedSimpArgs false
namespace Go.Proofs.Ytgnmkblaockghaa
open Go.RowKit Go.Shelf Go.Proofs.YtgnmkblaockghaaW.PrintWords Go.Proofs.YtgnmkblaockghaaW.PrintMore Go.Proofs.YtgnmkblaockghaaW.PrintLast

theorem letter_small (x : Int) : letterB (smallB x) = letterB x := by
  unfold letterB smallB
  split <;> rw [Bool.eq_iff_iff] <;> simp <;> omega
theorem good_small (x : Int) : goodB (smallB x) = goodB x := by
  unfold goodB
  rw [letter_small]
  unfold smallB
  split
  · have h1 : letterB x = true := by unfold letterB; simp; omega
    rw [h1]; rfl
  · rfl
theorem bt_small (s : ByteArray) (h : 1 ≤ s.size) : bt (small s) 0 = smallB (bt s 0) := by
  have h1 := bytes_get (small s) 0
  have h2 := bytes_get s 0
  rw [bytes_small] at h1
  have hl : 0 < (bytesOf s).length := by rw [bytesOf_length]; omega
  show bt (small s) ((0 : Nat) : Int) = smallB (bt s ((0 : Nat) : Int))
  rw [← h1, ← h2]
  simp [List.getD_eq_getElem?_getD, hl]
theorem name_small (s : ByteArray) : nameOk (small s) = nameOk s := by
  by_cases h : s.size < 1 ∨ 64 < s.size
  · rw [nameOk_false h, nameOk_false (by rw [small_size]; exact h)]
  · rw [nameOk_eq (s := s) (by omega) (by omega), nameOk_eq (s := small s) (by rw [small_size]; omega) (by rw [small_size]; omega), bt_small s (by omega), letter_small, bytes_small, List.all_map]
    congr 2
    funext x
    exact good_small x
theorem ename_eq (s : ByteArray) : enameOk s = nameOk s := by
  have h : dnOk [⟨small s, { data := #[120] }⟩] = nameOk (small s) := by
    unfold dnOk
    show (true && (partOk ⟨small s, { data := #[120] }⟩ && true)) = _
    unfold partOk
    rw [small_idem, Bool.and_true, Bool.true_and]
    show (nameOk (small s) && (((small s).toList == (small s).toList) && true)) = _
    simp
  unfold enameOk dnErr
  rw [h, name_small]
  cases nameOk s <;> rfl
theorem name_up (s : ByteArray) (hs : s.size ≤ 12000) {K : Nat} (hK : 12002 ≤ K) : PFilterBounds.cardcaseref06_Name.f K s = some (nameOk s) :=
  up_le (f := fun K => PFilterBounds.cardcaseref06_Name.f K s) (fun K => PFilterBounds.cardcaseref06_Name.mono _ _) (show s.size + 2 ≤ K by omega) (PFilterBounds.name_ours s hs)
open PFilterBounds in
/-- The reference's alone is ours. -/
theorem alone_ours (x : Ft) (hs : x.f2.size ≤ 12000) (K : Nat) : cardcaseref08_alone.f (K + 12004) x.f0 x.f1 x.f2 x.f3 = some (aloneOk x) := by
  have hn := name_up x.f2 hs (K := K + 12002) (by omega)
  unfold aloneOk aloneB
  rw [ename_eq]
  rw [cardcaseref08_alone.f, cardcaseref08_alone.j0, cardcaseref08_alone.j0, cardcaseref08_alone.j1, cardcaseref08_alone.j1, hn]
  obtain ⟨k, l, n, v⟩ := x
  dsimp only at hs hn ⊢
  simp only [Option.bind_some]
  generalize nameOk n = no
  have e2 : (n.toList == []) = decide (n.toList = []) := by rw [Bool.eq_iff_iff]; simp
  have e3 : (v.toList == []) = decide (v.toList = []) := by rw [Bool.eq_iff_iff]; simp
  rw [e2, e3]
  generalize n.toList = nl
  generalize v.toList = vl
  by_cases h1 : k = 1
  · subst h1; by_cases c : nl = [] <;> simp [c]
  by_cases h2 : k = 2
  · subst h2; by_cases c : nl = [] <;> simp [c]
  by_cases h3 : k = 3
  · subst h3
    by_cases c : nl = [] <;> by_cases d : vl = [] <;> simp [c, d]
  by_cases h4 : k = 4
  · subst h4
    cases no <;> by_cases c : l.length = 0 <;> by_cases d : (1 : Int) ≤ (v.size : Int) <;> simp [c, d]
  by_cases h5 : k = 5
  · subst h5
    cases no <;> by_cases c : l.length = 0 <;> by_cases d : (1 : Int) ≤ (v.size : Int) <;> simp [c, d]
  by_cases h6 : k = 6
  · subst h6
    cases no <;> by_cases c : l.length = 0 <;> simp [c]
  · simp [h1, h2, h3, h4, h5, h6]
abbrev leftR (K : Nat) (x : Ft) (w d : Int) : Option Int := PFilterBounds.cardcaseref08_left.f K x.f0 x.f1 x.f2 x.f3 w d
open PFilterBounds in
theorem leftR_up {K K' : Nat} (h : K ≤ K') {x : Ft} {w d r : Int} (hr : leftR K x w d = some r) : leftR K' x w d = some r :=
  up_le (f := fun K => leftR K x w d) (fun K => (cardcaseref08_left.mono_l K).1 _ _ _ _ _ _) h hr
open PFilterBounds in
theorem leftR_l0_up {K K' : Nat} (h : K ≤ K') {w d j x0 : Int} {xs : List Ft} {s v : ByteArray} {r : Int} (hr : cardcaseref08_left.l0 K w d j x0 xs s v = some r) : cardcaseref08_left.l0 K' w d j x0 xs s v = some r :=
  up_le (f := fun K => cardcaseref08_left.l0 K w d j x0 xs s v) (fun K => (cardcaseref08_left.mono_l K).2.2 _ _ _ _ _ _ _) h hr
/-- What the reference's left tells of a count. -/
def leftV : Option Nat → Int
  | some c => 200 - c
  | none => -1
open PFilterBounds in
theorem leftR_loop (x0 : Int) (xs : List Ft) (s v : ByteArray) (d : Nat) (hd : d ≤ 16) (hx : xs.length ≤ 12000)
    (ih : ∀ x ∈ xs, ∀ m : Nat, m ≤ 200 → ∃ K, leftR K x m ((d : Int) + 1) = some (leftV (cntT (200 - m) (d + 1) x))) : ∀ q j, j + q = xs.length → ∀ m : Nat, m ≤ 200 →
    ∃ K, cardcaseref08_left.l0 K m (d : Int) (j : Int) x0 xs s v = some (leftV (cntL (200 - m) (d + 1) (xs.drop j)))
  | 0, j, hj, m, hm => by
    refine ⟨1, ?_⟩
    rw [cardcaseref08_left.l0, if_neg (by omega), List.drop_eq_nil_of_le (by omega), cntL, leftV]
    congr 1
    omega
  | q + 1, j, hj, m, hm => by
    have hjl : j < xs.length := by omega
    obtain ⟨K1, e1⟩ := ih _ (List.getElem_mem hjl) m hm
    have e3 : wrap64 ((d : Int) + 1) = (d : Int) + 1 := wrap_in _ (by omega)
    have e4 : wrap64 ((j : Int) + 1) = ((j + 1 : Nat) : Int) := by rw [wrap_in _ (by omega)]; omega
    rw [cntL_drop _ _ _ _ hjl]
    cases hc : cntT (200 - m) (d + 1) xs[j] with
    | none =>
      rw [hc] at e1
      refine ⟨K1 + 1, ?_⟩
      unfold leftR at e1
      rw [cardcaseref08_left.l0, if_pos (by omega), if_pos (by omega), rd_at hjl, e3, e1]
      rfl
    | some c =>
      rw [hc] at e1
      have hc2 := cnt_le _ _ _ _ hc
      obtain ⟨K2, e2⟩ := leftR_loop x0 xs s v d hd hx ih q (j + 1) (by omega) (200 - c) (by omega)
      refine ⟨max K1 K2 + 1, ?_⟩
      have e5 := leftR_up (Nat.le_max_left K1 K2) e1
      unfold leftR at e5
      rw [cardcaseref08_left.l0, if_pos (by omega), if_pos (by omega), rd_at hjl, e3, e5]
      simp only [Option.bind_some, leftV]
      rw [if_neg (by omega), e4]
      have e6 := leftR_l0_up (Nat.le_max_right K1 K2) e2
      rw [show 200 - (200 - c) = c by omega, show ((200 - c : Nat) : Int) = 200 - (c : Int) by omega] at e6
      rw [e6]
      rfl
open PFilterBounds in
theorem leftR_ours (x : Ft) : ∀ (d m : Nat), 1 ≤ d → d ≤ 17 → m ≤ 200 → wF x ≤ 12000 → ∃ K, leftR K x m (d : Int) = some (leftV (cntT (200 - m) d x)) := by
  refine filtInd (P := fun x => ∀ (d m : Nat), 1 ≤ d → d ≤ 17 → m ≤ 200 → wF x ≤ 12000 → ∃ K, leftR K x m (d : Int) = some (leftV (cntT (200 - m) d x))) (fun k l s v ih => ?_) x
  intro d m d1 d2 hm hw
  rw [wF_of] at hw
  have hll := wFs_length l
  dsimp only at hw
  unfold leftR
  dsimp only
  rw [cntT_of]
  by_cases c0 : m = 0
  · refine ⟨2, ?_⟩
    rw [cardcaseref08_left.f, if_pos (by omega), cardcaseref08_left.j0, if_pos rfl, if_neg (by omega)]
    rfl
  · by_cases c1 : d = 17
    · refine ⟨2, ?_⟩
      rw [cardcaseref08_left.f, if_neg (by omega), if_pos (by omega), cardcaseref08_left.j0, if_pos rfl, if_pos (by omega), if_neg (by omega)]
      rfl
    · rw [if_pos (by omega), if_pos (by omega)]
      cases ha : aloneOk ⟨k, l, s, v⟩ with
      | false =>
        refine ⟨12005, ?_⟩
        have e := alone_ours ⟨k, l, s, v⟩ (by dsimp only; omega) 0
        rw [ha] at e
        rw [cardcaseref08_left.f, if_neg (by omega), if_neg (by omega), e]
        simp only [Option.bind_some]
        rw [cardcaseref08_left.j0, if_pos (by rfl), if_neg (by simp)]
        rfl
      | true =>
        have hmem : ∀ x ∈ l, wF x ≤ 12000 := fun x hx => by have := wF_mem hx; omega
        obtain ⟨K, e⟩ := leftR_loop k l s v d (by omega) (by omega) (fun x hx m hm => by
          obtain ⟨K, e⟩ := ih x hx (d + 1) m (by omega) (by omega) hm (hmem x hx)
          exact ⟨K, by exact_mod_cast e⟩) l.length 0 (by omega) (m - 1) (by omega)
        refine ⟨K + 12005, ?_⟩
        have e' := alone_ours ⟨k, l, s, v⟩ (by dsimp only; omega) K
        rw [ha] at e'
        rw [cardcaseref08_left.f, if_neg (by omega), if_neg (by omega), e']
        simp only [Option.bind_some]
        rw [cardcaseref08_left.j0, if_neg (by simp), if_pos trivial, wrap_in ((m : Int) - 1) (by omega)]
        have e6 := leftR_l0_up (K' := K + 12003) (by omega) e
        rw [List.drop_zero, show 200 - (m - 1) = 200 - m + 1 by omega, show ((m - 1 : Nat) : Int) = (m : Int) - 1 by omega] at e6
        exact e6
/-- The reference's Right is ours. -/
theorem rright_calls (x : Ft) (A : Option Addr) (c : Nat) (w : World) (hv : Fv w x A c) (hw : wF x ≤ 12000) : Calls Try.prog 14 #[fv x A c] w fun e w' => e = .returned (.bool (rightF x)) ∧ Below w.heap.size w w' := by
  obtain ⟨K, e⟩ := leftR_ours x 1 200 (by omega) (by omega) (by omega) hw
  refine PFilterBounds.cardcaseref08_Right.calls K x.f0 A c x.f1 x.f2 x.f3 (rightF x) w hv.co hv.lo ?_
  unfold PFilterBounds.cardcaseref08_Right.f
  have e' : PFilterBounds.cardcaseref08_left.f K x.f0 x.f1 x.f2 x.f3 200 1 = some (leftV (cntT 0 1 x)) := e
  rw [e']
  unfold rightF
  cases h : cntT 0 1 x with
  | none => rfl
  | some n =>
    have := cnt_le _ _ _ _ h
    simp only [Option.bind_some, leftV, Option.isSome_some]
    congr 1
    exact decide_eq_true (by omega)
end Go.Proofs.Ytgnmkblaockghaa
