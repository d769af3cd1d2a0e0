/- The reference's Same (plain). -/
import Derived.Test.YtgnmkblaockghaaQH2
import Derived.Test.YtgnmkblaockghaaQPL5
set_option linter.unusedVariables false
set_option linter.unusedSimpArgs false
namespace Go.Proofs.Ytgnmkblaockghaa
open Go.RowKit Go.Shelf Go.Proofs.YtgnmkblaockghaaW.PrintWords Go.Proofs.YtgnmkblaockghaaW.PrintMore Go.Proofs.YtgnmkblaockghaaW.PrintLast
/-! ### Same -/
mutual
/-- Are two filters the same? -/
def sameT : Ft → Ft → Bool
  | ⟨k, l, n, v⟩, y => (k == y.f0) && (((small n).toList == (small y.f2).toList) && ((v.toList == y.f3.toList) && sameL l y.f1))
def sameL : List Ft → List Ft → Bool
  | [], [] => true
  | x :: xs, y :: ys => sameT x y && sameL xs ys
  | [], _ :: _ => false
  | _ :: _, [] => false
end
theorem sameL_length : ∀ (xs ys : List Ft), xs.length ≠ ys.length → sameL xs ys = false
  | [], [], h => absurd rfl h
  | x :: xs, y :: ys, h => by rw [sameL, sameL_length xs ys (by simpa using h)]; simp
  | [], _ :: _, _ => by rw [sameL]
  | _ :: _, [], _ => by rw [sameL]
theorem sameL_drop (xs ys : List Ft) (j : Nat) (h1 : j < xs.length) (h2 : j < ys.length) : sameL (xs.drop j) (ys.drop j) = (sameT xs[j] ys[j] && sameL (xs.drop (j + 1)) (ys.drop (j + 1))) := by
  rw [List.drop_eq_getElem_cons h1, List.drop_eq_getElem_cons h2, sameL]
abbrev sameF (K : Nat) (x y : Ft) : Option Bool := PFilterBounds.cardcaseref08_Same.f K x.f0 x.f1 x.f2 x.f3 y.f0 y.f1 y.f2 y.f3
open PFilterBounds in
theorem same_up {K K' : Nat} (h : K ≤ K') {x y : Ft} {r : Bool} (hr : sameF K x y = some r) : sameF K' x y = some r :=
  up_le (f := fun K => sameF K x y) (fun K => (cardcaseref08_Same.mono_l K).1 _ _ _ _ _ _ _ _) h hr
open PFilterBounds in
theorem rsame_loop (x0 : Int) (xs : List Ft) (s v : ByteArray) (z0 : Int) (zs : List Ft) (t u : ByteArray) (hl : xs.length = zs.length) (hx : xs.length ≤ 1000000000)
    (ih : ∀ x ∈ xs, ∀ y ∈ zs, ∃ K, sameF K x y = some (sameT x y)) : ∀ m j, j + m = xs.length →
    ∃ K, cardcaseref08_Same.l0 K (j : Int) x0 xs s v z0 zs t u = some (sameL (xs.drop j) (zs.drop j))
  | 0, j, hj => by
    refine ⟨1, ?_⟩
    rw [cardcaseref08_Same.l0, if_neg (by omega), List.drop_eq_nil_of_le (by omega), List.drop_eq_nil_of_le (by omega), sameL]
  | m + 1, j, hj => by
    have h1 : j < xs.length := by omega
    have h2 : j < zs.length := by omega
    obtain ⟨K1, e1⟩ := ih _ (List.getElem_mem h1) _ (List.getElem_mem h2)
    obtain ⟨K2, e2⟩ := rsame_loop x0 xs s v z0 zs t u hl hx ih m (j + 1) (by omega)
    have e4 : wrap64 ((j : Int) + 1) = ((j + 1 : Nat) : Int) := by rw [wrap_in _ (by omega)]; omega
    have e5 := same_up (Nat.le_max_left K1 K2) e1
    unfold sameF at e5
    refine ⟨max K1 K2 + 1, ?_⟩
    rw [cardcaseref08_Same.l0, if_pos (by omega), if_pos (by omega), if_pos (by omega), rd_at h1, rd_at h2, e5, sameL_drop xs zs j h1 h2]
    simp only [Option.bind_some]
    rw [e4]
    cases sameT xs[j] zs[j] with
    | false => rfl
    | true =>
      rw [if_pos rfl, Bool.true_and]
      exact up_le (f := fun K => cardcaseref08_Same.l0 K ((j + 1 : Nat) : Int) x0 xs s v z0 zs t u) (fun K => (cardcaseref08_Same.mono_l K).2.2 _ _ _ _ _ _ _ _ _) (Nat.le_max_right K1 K2) e2
open PFilterBounds in
/-- The reference's Same tells what sameT tells. -/
theorem rsame_ours (x : Ft) : ∀ y : Ft, wF x ≤ 12000 → wF y ≤ 12000 → ∃ K, sameF K x y = some (sameT x y) := by
  refine filtInd (P := fun x => ∀ y : Ft, wF x ≤ 12000 → wF y ≤ 12000 → ∃ K, sameF K x y = some (sameT x y)) (fun x0 xs s v ih => ?_) x
  intro y hx hy
  obtain ⟨z0, zs, t, u⟩ := y
  rw [wF] at hx hy
  have hwn := wFs_length xs
  have hf : ∀ K, cardcaseref08_Same.j0 (K + 1) true x0 xs s v z0 zs t u = some false := fun K => by rw [cardcaseref08_Same.j0, if_pos rfl]
  have hT : sameT ⟨x0, xs, s, v⟩ ⟨z0, zs, t, u⟩ = ((x0 == z0) && (((small s).toList == (small t).toList) && ((v.toList == u.toList) && sameL xs zs))) := by rw [sameT]
  rw [hT]
  by_cases c0 : x0 = z0
  · rw [show (x0 == z0) = true by simp [c0], Bool.true_and]
    by_cases c1 : (small s).toList = (small t).toList
    · rw [show ((small s).toList == (small t).toList) = true by simp [c1], Bool.true_and]
      by_cases c2 : v.toList = u.toList
      · rw [show (v.toList == u.toList) = true by simp [c2], Bool.true_and]
        by_cases c3 : xs.length = zs.length
        · obtain ⟨K, e⟩ := rsame_loop x0 xs s v z0 zs t u c3 (by omega) (fun x hx y hy => ih x hx y (by have := wF_mem hx; omega) (by have := wF_mem hy; omega)) xs.length 0 (by omega)
          refine ⟨max K 12001 + 2, ?_⟩
          show cardcaseref08_Same.f (max K 12001 + 2) x0 xs s v z0 zs t u = _
          rw [cardcaseref08_Same.f, if_pos c0, small_up s (by omega) (by omega), small_up t (by omega) (by omega)]
          simp only [Option.bind_some]
          rw [if_pos c1, if_pos c2, show ((xs.length : Int) != (zs.length : Int)) = false by simp; omega, cardcaseref08_Same.j0, if_neg (by simp)]
          exact up_le (f := fun K => cardcaseref08_Same.l0 K 0 x0 xs s v z0 zs t u) (fun K => (cardcaseref08_Same.mono_l K).2.2 _ _ _ _ _ _ _ _ _) (Nat.le_max_left K 12001) (by rw [List.drop_zero, List.drop_zero] at e; exact e)
        · rw [sameL_length xs zs c3]
          refine ⟨12003, ?_⟩
          show cardcaseref08_Same.f 12003 x0 xs s v z0 zs t u = _
          rw [cardcaseref08_Same.f, if_pos c0, small_up s (by omega) (by omega), small_up t (by omega) (by omega)]
          simp only [Option.bind_some]
          rw [if_pos c1, if_pos c2, show ((xs.length : Int) != (zs.length : Int)) = true by simp; omega]
          exact hf _
      · rw [show (v.toList == u.toList) = false by simpa using c2, Bool.false_and]
        refine ⟨12003, ?_⟩
        show cardcaseref08_Same.f 12003 x0 xs s v z0 zs t u = _
        rw [cardcaseref08_Same.f, if_pos c0, small_up s (by omega) (by omega), small_up t (by omega) (by omega)]
        simp only [Option.bind_some]
        rw [if_pos c1, if_neg c2]
        exact hf _
    · rw [show ((small s).toList == (small t).toList) = false by simpa using c1, Bool.false_and]
      refine ⟨12003, ?_⟩
      show cardcaseref08_Same.f 12003 x0 xs s v z0 zs t u = _
      rw [cardcaseref08_Same.f, if_pos c0, small_up s (by omega) (by omega), small_up t (by omega) (by omega)]
      simp only [Option.bind_some]
      rw [if_neg c1]
      exact hf _
  · rw [show (x0 == z0) = false by simpa using c0, Bool.false_and]
    refine ⟨2, ?_⟩
    show cardcaseref08_Same.f 2 x0 xs s v z0 zs t u = _
    rw [cardcaseref08_Same.f, if_neg c0]
    exact hf _
theorem rsame_calls (x y : Ft) (A : Option Addr) (c : Nat) (A' : Option Addr) (c' : Nat) (w : World) (hv : Fv w x A c) (hu : Fv w y A' c') (hx : wF x ≤ 12000) (hy : wF y ≤ 12000) :
    Calls Try.prog 20 #[fv x A c, fv y A' c'] w fun e w' => e = .returned (.bool (sameT x y)) ∧ Below w.heap.size w w' := by
  obtain ⟨K, e⟩ := rsame_ours x y hx hy
  exact PFilterBounds.cardcaseref08_Same.calls K x.f0 A c x.f1 x.f2 x.f3 y.f0 A' c' y.f1 y.f2 y.f3 (sameT x y) w hv.co hv.lo hu.co hu.lo e
end Go.Proofs.Ytgnmkblaockghaa
