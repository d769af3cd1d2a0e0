/- Texts and their bytes; the law's left and light. -/
import Derived.Test.YtgnmkblaockghaaJg
import Derived.Lib.LazyBuf
import Derived.Test.YtgnmkblaockghaaPL1
set_option linter.unusedVariables false
set_option linter.unusedSimpArgs false
namespace Go.Proofs.Ytgnmkblaockghaa
open Go.RowKit Go.Shelf Go.Proofs.YtgnmkblaockghaaW.PrintWords Go.Proofs.YtgnmkblaockghaaW.PrintMore Go.Proofs.YtgnmkblaockghaaW.PrintLast

theorem ba_ext {a b : ByteArray} (h : a.data.toList = b.data.toList) : a = b := by
  cases a; cases b
  congr 1
  exact Array.toList_inj.1 h
theorem str_data (l : List Int) : (strOfNums l).data.toList = l.map fun n => UInt8.ofNat n.toNat := by
  rw [← ByteArray.toList_eq]; exact Lib.strOfNums_toList l
theorem app_data (a b : ByteArray) : (a ++ b).data.toList = a.data.toList ++ b.data.toList := by rw [ByteArray.data_append, Array.toList_append]
theorem str_app (a b : List Int) : strOfNums a ++ strOfNums b = strOfNums (a ++ b) := by
  apply ba_ext
  rw [app_data, str_data, str_data, str_data, List.map_append]
theorem app_assoc (a b c : ByteArray) : a ++ b ++ c = a ++ (b ++ c) := by
  apply ba_ext
  rw [app_data, app_data, app_data, app_data, List.append_assoc]
theorem app_nil (a : ByteArray) : a ++ (⟨#[]⟩ : ByteArray) = a := by
  apply ba_ext
  rw [app_data]; simp
theorem nil_app (a : ByteArray) : (⟨#[]⟩ : ByteArray) ++ a = a := by
  apply ba_ext
  rw [app_data]; simp
theorem str_bytes (s : ByteArray) : strOfNums (bytesOf s) = s := by
  apply ba_ext
  rw [str_data, bytesOf, List.map_map]
  conv => rhs; rw [← List.map_id s.data.toList]
  apply List.map_congr_left
  intro b _
  simp
theorem bytes_str (l : List Int) (h : ∀ x ∈ l, 0 ≤ x ∧ x < 256) : bytesOf (strOfNums l) = l := by
  unfold bytesOf
  rw [str_data, List.map_map]
  conv => rhs; rw [← List.map_id l]
  apply List.map_congr_left
  intro x hx
  have := h x hx
  simp only [Function.comp, id, UInt8.toNat_ofNat']
  omega
theorem bytes_app (a b : ByteArray) : bytesOf (a ++ b) = bytesOf a ++ bytesOf b := by unfold bytesOf; rw [app_data, List.map_append]
theorem bytes_get (s : ByteArray) (i : Nat) : (bytesOf s).getD i 0 = bt s (i : Int) := by
  unfold bytesOf bt
  by_cases h : i < s.size
  · have h' : i < s.data.toList.length := by rw [data_length]; exact h
    have h2 : ((i : Int).toNat) < s.size := by simpa using h
    rw [dif_pos h2]
    simp [List.getD_eq_getElem?_getD, List.getElem?_eq_getElem h']
    rfl
  · have h' : ¬ i < s.data.toList.length := by rw [data_length]; exact h
    have h2 : ¬ ((i : Int).toNat) < s.size := by simpa using h
    rw [dif_neg h2]
    simp [List.getD_eq_getElem?_getD, List.getElem?_eq_none (Nat.le_of_not_lt h')]
theorem bytes_drop (s : ByteArray) (i : Nat) (h : i < s.size) : (bytesOf s).drop i = bt s (i : Int) :: (bytesOf s).drop (i + 1) := by
  have h' : i < (bytesOf s).length := by rw [bytesOf_length]; exact h
  rw [List.drop_eq_getElem_cons h', ← bytes_get]
  simp [List.getD_eq_getElem?_getD, List.getElem?_eq_getElem h']
theorem bytes_inj {a b : ByteArray} (h : bytesOf a = bytesOf b) : a = b := by rw [← str_bytes a, ← str_bytes b, h]
theorem extract_bytes (s : ByteArray) (i j : Nat) : bytesOf (s.extract i j) = ((bytesOf s).drop i).take (j - i) := by
  unfold bytesOf
  rw [ByteArray.data_extract, Array.toList_extract, ← List.map_drop, ← List.map_take]
theorem smallB_in {x : Int} (h : 0 ≤ x ∧ x < 256) : 0 ≤ smallB x ∧ smallB x < 256 := by unfold smallB; split <;> omega
theorem bytes_small (s : ByteArray) : bytesOf (small s) = (bytesOf s).map smallB := by
  unfold small
  apply bytes_str
  intro x hx
  obtain ⟨y, hy, rfl⟩ := List.mem_map.1 hx
  exact smallB_in (bytesOf_bound hy)
theorem smallB_idem (x : Int) : smallB (smallB x) = smallB x := by unfold smallB; split <;> (try split) <;> omega
theorem small_idem (s : ByteArray) : small (small s) = small s := by
  apply bytes_inj
  rw [bytes_small, bytes_small, List.map_map]
  apply List.map_congr_left
  intro x _
  exact smallB_idem x
theorem size_bytes (s : ByteArray) : s.size = (bytesOf s).length := (bytesOf_length s).symm
/-- May a byte stand in a name? -/
def goodB (x : Int) : Bool := letterB x || ((decide (48 ≤ x) && decide (x ≤ 57)) || (x == 45))
theorem nameOk_false {s : ByteArray} (h : s.size < 1 ∨ 64 < s.size) : nameOk s = false := by
  unfold nameOk
  have : (decide (1 ≤ (s.size : Int)) && decide ((s.size : Int) ≤ 64)) = false := by
    rw [Bool.eq_false_iff]; intro h'; simp at h'; omega
  rw [this, Bool.and_false]
theorem nameOk_eq {s : ByteArray} (h1 : 1 ≤ s.size) (h2 : s.size ≤ 64) : nameOk s = (letterB (bt s 0) && (bytesOf s).all goodB) := by
  unfold nameOk
  have h3 : (decide (1 ≤ (s.size : Int)) && decide ((s.size : Int) ≤ 64)) = true := by simp; omega
  rw [h3, Bool.and_true]
  have hall : (bytesOf s).all goodB = (List.range s.size).all fun i => goodB ((bytesOf s).getD i 0) := by
    rw [Bool.eq_iff_iff]
    simp only [List.all_eq_true, List.mem_range]
    constructor
    · intro h i hi
      have hi' : i < (bytesOf s).length := by rw [bytesOf_length]; exact hi
      rw [show (bytesOf s).getD i 0 = (bytesOf s)[i] by simp [List.getD_eq_getElem?_getD, List.getElem?_eq_getElem hi']]
      exact h _ (List.getElem_mem hi')
    · intro h x hx
      obtain ⟨i, hi, rfl⟩ := List.mem_iff_getElem.1 hx
      have := h i (by rw [← bytesOf_length]; exact hi)
      rwa [show (bytesOf s).getD i 0 = (bytesOf s)[i] by simp [List.getD_eq_getElem?_getD, List.getElem?_eq_getElem hi]] at this
  rw [hall, Bool.eq_iff_iff]
  simp only [Bool.and_eq_true, List.all_eq_true, List.mem_range]
  constructor
  · intro h
    refine ⟨?_, ?_⟩
    · have := h 0 (by omega)
      rw [bytes_get] at this
      simpa [nameB] using this
    · intro i hi
      have := h i hi
      unfold nameB at this
      unfold goodB
      cases hl : letterB ((bytesOf s).getD i 0) with
      | true => rfl
      | false =>
        rw [hl] at this
        simp only [Bool.false_or, Bool.and_eq_true] at this ⊢
        exact this.2
  · rintro ⟨h0, h⟩ i hi
    have := h i hi
    unfold goodB at this
    unfold nameB
    by_cases c : i = 0
    · subst c
      rw [bytes_get]
      have h0' : letterB (bt s ((0 : Nat) : Int)) = true := h0
      rw [h0']; rfl
    · rw [show decide (1 ≤ i) = true from decide_eq_true (by omega), Bool.true_and]
      exact this
end Go.Proofs.Ytgnmkblaockghaa
namespace Go.Proofs.Ytgnmkblaockghaa
open Go.RowKit Go.Shelf Go.Proofs.YtgnmkblaockghaaW.PrintWords Go.Proofs.YtgnmkblaockghaaW.PrintMore Go.Proofs.YtgnmkblaockghaaW.PrintLast

theorem up_le {α : Type} {f : Nat → Option α} (h : ∀ k, LeO (f k) (f (k + 1))) {k k' : Nat} (hk : k ≤ k') {r : α} (hr : f k = some r) : f k' = some r := by
  obtain ⟨d, rfl⟩ := Nat.exists_eq_add_of_le hk
  clear hk
  induction d with
  | zero => exact hr
  | succ d ih => exact h (k + d) r ih
theorem wrap_in (n : Int) (h : -9223372036854775808 ≤ n ∧ n ≤ 9223372036854775807) : wrap64 n = n := by unfold wrap64; omega
theorem rd_at {xs : List Ft} {k : Nat} (hk : k < xs.length) : PFilterBounds.rd_T25 xs (k : Int) = xs[k] := by unfold PFilterBounds.rd_T25; simp [List.getD_eq_getElem?_getD, hk]
/-! ### left -/
abbrev leftF (K : Nat) (x : Ft) (w d : Int) : Option Int := PFilterBounds.cardcaselaw08_left.f K x.f0 x.f1 x.f2 x.f3 w d
open PFilterBounds in
theorem left_up {K K' : Nat} (h : K ≤ K') {x : Ft} {w d r : Int} (hr : leftF K x w d = some r) : leftF K' x w d = some r :=
  up_le (f := fun K => leftF K x w d) (fun K => (cardcaselaw08_left.mono_l K).1 _ _ _ _ _ _) h hr
open PFilterBounds in
theorem left_l0_up {K K' : Nat} (h : K ≤ K') {w d j x0 : Int} {xs : List Ft} {s v : ByteArray} {r : Int} (hr : cardcaselaw08_left.l0 K w d j x0 xs s v = some r) : cardcaselaw08_left.l0 K' w d j x0 xs s v = some r :=
  up_le (f := fun K => cardcaselaw08_left.l0 K w d j x0 xs s v) (fun K => (cardcaselaw08_left.mono_l K).2.2 _ _ _ _ _ _ _) h hr
/-- What left tells: below 0, or what is left behind the weight. -/
def LeftOk (r w : Int) (m : Nat) : Prop := r ≤ w ∧ -10000 ≤ r ∧ (0 ≤ r → r = w - m)
open PFilterBounds in
theorem left_loop (x0 : Int) (xs : List Ft) (s v : ByteArray) (d : Nat) (hd : d ≤ 40) (hx : xs.length ≤ 5000)
    (ih : ∀ x ∈ xs, ∀ w : Int, 0 ≤ w → w ≤ 4000 → ∃ K r, leftF K x w ((d : Int) + 1) = some r ∧ LeftOk r w (wF x)) : ∀ m j, j + m = xs.length → ∀ w : Int, -10000 ≤ w → w ≤ 4000 →
    ∃ K r, cardcaselaw08_left.l0 K w (d : Int) (j : Int) x0 xs s v = some r ∧ LeftOk r w (wFs (xs.drop j))
  | 0, j, hj, w, w0, w1 => by
    refine ⟨1, w, ?_, Int.le_refl _, w0, fun _ => ?_⟩
    · rw [cardcaselaw08_left.l0, if_neg (by omega)]
    · rw [List.drop_eq_nil_of_le (by omega), wFs_nil]
      omega
  | m + 1, j, hj, w, w0, w1 => by
    have hjl : j < xs.length := by omega
    by_cases hw : 0 ≤ w
    · obtain ⟨K1, r1, e1, h1, h2, h3⟩ := ih _ (List.getElem_mem hjl) w hw w1
      obtain ⟨K2, r2, e2, g1, g2, g3⟩ := left_loop x0 xs s v d hd hx ih m (j + 1) (by omega) r1 h2 (by omega)
      have e3 : wrap64 ((d : Int) + 1) = (d : Int) + 1 := wrap_in _ (by omega)
      have e4 : wrap64 ((j : Int) + 1) = ((j + 1 : Nat) : Int) := by rw [wrap_in _ (by omega)]; omega
      refine ⟨max K1 K2 + 1, r2, ?_, by omega, by omega, fun h => ?_⟩
      · rw [cardcaselaw08_left.l0, if_pos (by omega), if_pos hw, if_pos (by omega), rd_at hjl, e3]
        have e5 := left_up (Nat.le_max_left K1 K2) e1
        unfold leftF at e5
        rw [e5]
        simp only [Option.bind_some]
        rw [e4]
        exact left_l0_up (Nat.le_max_right K1 K2) e2
      · have h4 := g3 h
        have h5 : 0 ≤ r1 := by omega
        have h6 := h3 h5
        rw [List.drop_eq_getElem_cons hjl, wFs_cons]
        omega
    · refine ⟨1, w, ?_, Int.le_refl _, w0, fun h => absurd h hw⟩
      rw [cardcaselaw08_left.l0, if_pos (by omega), if_neg hw]
open PFilterBounds in
theorem left_ours (x : Ft) : ∀ (d : Nat) (w : Int), 1 ≤ d → d ≤ 41 → 0 ≤ w → w ≤ 4000 → ∃ K r, leftF K x w (d : Int) = some r ∧ LeftOk r w (wF x) := by
  refine filtInd (P := fun x => ∀ (d : Nat) (w : Int), 1 ≤ d → d ≤ 41 → 0 ≤ w → w ≤ 4000 → ∃ K r, leftF K x w (d : Int) = some r ∧ LeftOk r w (wF x)) (fun x0 xs s v ih => ?_) x
  intro d w d0 d1 w0 w1
  have hno : ∀ K, cardcaselaw08_left.j0 (K + 1) w (d : Int) true x0 xs s v = some (-1) := fun K => by rw [cardcaselaw08_left.j0, if_pos rfl]
  have hz : LeftOk (-1) w (wF ⟨x0, xs, s, v⟩) := ⟨by omega, by omega, fun h => by omega⟩
  by_cases c0 : (d : Int) > 40
  · refine ⟨2, -1, ?_, hz⟩
    show cardcaselaw08_left.f 2 x0 xs s v w d = _
    rw [cardcaselaw08_left.f, if_pos c0]
    exact hno 0
  · by_cases c1 : (xs.length : Int) > w
    · refine ⟨2, -1, ?_, hz⟩
      show cardcaselaw08_left.f 2 x0 xs s v w d = _
      rw [cardcaselaw08_left.f, if_neg c0, if_pos c1]
      exact hno 0
    · by_cases c2 : (s.size : Int) > w
      · refine ⟨2, -1, ?_, hz⟩
        show cardcaselaw08_left.f 2 x0 xs s v w d = _
        rw [cardcaselaw08_left.f, if_neg c0, if_neg c1, if_pos c2]
        exact hno 0
      · by_cases c3 : (v.size : Int) > w
        · refine ⟨2, -1, ?_, hz⟩
          show cardcaselaw08_left.f 2 x0 xs s v w d = _
          rw [cardcaselaw08_left.f, if_neg c0, if_neg c1, if_neg c2, decide_eq_true c3]
          exact hno 0
        · obtain ⟨K, r, e, h1, h2, h3⟩ := left_loop x0 xs s v d (by omega) (by omega) (fun x hx w h0 h1 => by
            obtain ⟨K, r, e, h⟩ := ih x hx (d + 1) w (by omega) (by omega) h0 h1
            exact ⟨K, r, e, h⟩) xs.length 0 (by omega) (w - 1 - s.size - v.size) (by omega) (by omega)
          refine ⟨K + 2, r, ?_, by omega, by omega, fun h => ?_⟩
          · show cardcaselaw08_left.f (K + 2) x0 xs s v w d = _
            rw [cardcaselaw08_left.f, if_neg c0, if_neg c1, if_neg c2, decide_eq_false c3, cardcaselaw08_left.j0, if_neg (by simp), wrap_in (w - 1) (by omega), wrap_in (w - 1 - s.size) (by omega), wrap_in (w - 1 - s.size - v.size) (by omega)]
            exact e
          · have := h3 h
            rw [List.drop_zero] at this
            rw [wF]
            omega
theorem light_calls (x : Ft) (A : Option Addr) (c : Nat) (w : World) (hv : Fv w x A c) :
    ∃ b : Bool, (b = true → wF x ≤ 4000) ∧ Calls Try.prog 10 #[fv x A c] w fun e w' => e = .returned (.bool b) ∧ Below w.heap.size w w' := by
  obtain ⟨K, r, e, h⟩ := left_ours x 1 4000 (by omega) (by omega) (by omega) (by omega)
  refine ⟨decide (r ≥ 0), fun hb => ?_, (PFilterBounds.cardcaselaw08_light.calls K x.f0 A c x.f1 x.f2 x.f3 (decide (r ≥ 0)) w hv.co hv.lo ?_).mono ?_⟩
  · have h1 := of_decide_eq_true hb
    have h2 := h.2.2 h1
    omega
  · unfold PFilterBounds.cardcaselaw08_light.f
    have e' : PFilterBounds.cardcaselaw08_left.f K x.f0 x.f1 x.f2 x.f3 4000 1 = some r := e
    rw [e']
    rfl
  · rintro e w' ⟨rfl, hd⟩
    exact ⟨rfl, hd⟩
end Go.Proofs.Ytgnmkblaockghaa
