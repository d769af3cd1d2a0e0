/- Texts and their bytes; the law's left and light. -/
import Derived.Test.YtgnmkblaockghaaQJg
import Derived.Lib.LazyBuf
import Derived.Test.YtgnmkblaockghaaQPL1
set_option linter.unusedVariables false
set_option linter.unusedSimpArgs false
namespace Go.Proofs.Ytgnmkblaockghaa
open Go.RowKit Go.Shelf Go.Proofs.YtgnmkblaockghaaW.PrintWords Go.Proofs.YtgnmkblaockghaaW.PrintMore Go.Proofs.YtgnmkblaockghaaW.PrintLast

theorem ba_ext {a b : ByteArray} (h : a.data.toList = b.data.toList) : a = b := by
  cases a; cases b
  congr 1
  exact Array.toList_inj.1 h
theorem str_data (l : List Int) : (strOfNums l).data.toList = l.map fun n => UInt8.ofNat n.toNat := by
  rw [← ByteArray.toList_eq]; exact Lib.strOfNums_toList l
theorem app_data (a b : ByteArray) : (a ++ b).data.toList = a.data.toList ++ b.data.toList := by rw [ByteArray.data_append, Array.toList_append]
theorem str_app (a b : List Int) : strOfNums a ++ strOfNums b = strOfNums (a ++ b) := by
  apply ba_ext
  rw [app_data, str_data, str_data, str_data, List.map_append]
theorem app_assoc (a b c : ByteArray) : a ++ b ++ c = a ++ (b ++ c) := by
  apply ba_ext
  rw [app_data, app_data, app_data, app_data, List.append_assoc]
theorem app_nil (a : ByteArray) : a ++ (⟨#[]⟩ : ByteArray) = a := by
  apply ba_ext
  rw [app_data]; simp
theorem nil_app (a : ByteArray) : (⟨#[]⟩ : ByteArray) ++ a = a := by
  apply ba_ext
  rw [app_data]; simp
theorem str_bytes (s : ByteArray) : strOfNums (bytesOf s) = s := by
  apply ba_ext
  rw [str_data, bytesOf, List.map_map]
  conv => rhs; rw [← List.map_id s.data.toList]
  apply List.map_congr_left
  intro b _
  simp
theorem bytes_str (l : List Int) (h : ∀ x ∈ l, 0 ≤ x ∧ x < 256) : bytesOf (strOfNums l) = l := by
  unfold bytesOf
  rw [str_data, List.map_map]
  conv => rhs; rw [← List.map_id l]
  apply List.map_congr_left
  intro x hx
  have := h x hx
  simp only [Function.comp, id, UInt8.toNat_ofNat']
  omega
theorem bytes_get (s : ByteArray) (i : Nat) : (bytesOf s).getD i 0 = bt s (i : Int) := by
  unfold bytesOf bt
  by_cases h : i < s.size
  · have h' : i < s.data.toList.length := by rw [data_length]; exact h
    have h2 : ((i : Int).toNat) < s.size := by simpa using h
    rw [dif_pos h2]
    simp [List.getD_eq_getElem?_getD, List.getElem?_eq_getElem h']
    rfl
  · have h' : ¬ i < s.data.toList.length := by rw [data_length]; exact h
    have h2 : ¬ ((i : Int).toNat) < s.size := by simpa using h
    rw [dif_neg h2]
    simp [List.getD_eq_getElem?_getD, List.getElem?_eq_none (Nat.le_of_not_lt h')]
theorem bytes_drop (s : ByteArray) (i : Nat) (h : i < s.size) : (bytesOf s).drop i = bt s (i : Int) :: (bytesOf s).drop (i + 1) := by
  have h' : i < (bytesOf s).length := by rw [bytesOf_length]; exact h
  rw [List.drop_eq_getElem_cons h', ← bytes_get]
  simp [List.getD_eq_getElem?_getD, List.getElem?_eq_getElem h']
theorem bytes_inj {a b : ByteArray} (h : bytesOf a = bytesOf b) : a = b := by rw [← str_bytes a, ← str_bytes b, h]
theorem smallB_in {x : Int} (h : 0 ≤ x ∧ x < 256) : 0 ≤ smallB x ∧ smallB x < 256 := by unfold smallB; split <;> omega
theorem bytes_small (s : ByteArray) : bytesOf (small s) = (bytesOf s).map smallB := by
  unfold small
  apply bytes_str
  intro x hx
  obtain ⟨y, hy, rfl⟩ := List.mem_map.1 hx
  exact smallB_in (bytesOf_bound hy)
theorem smallB_idem (x : Int) : smallB (smallB x) = smallB x := by unfold smallB; split <;> (try split) <;> omega
theorem small_idem (s : ByteArray) : small (small s) = small s := by
  apply bytes_inj
  rw [bytes_small, bytes_small, List.map_map]
  apply List.map_congr_left
  intro x _
  exact smallB_idem x
/-- May a byte stand in a name? -/
def goodB (x : Int) : Bool := letterB x || ((decide (48 ≤ x) && decide (x ≤ 57)) || (x == 45))
theorem nameOk_false {s : ByteArray} (h : s.size < 1 ∨ 64 < s.size) : nameOk s = false := by
  unfold nameOk
  have : (decide (1 ≤ (s.size : Int)) && decide ((s.size : Int) ≤ 64)) = false := by
    rw [Bool.eq_false_iff]; intro h'; simp at h'; omega
  rw [this, Bool.and_false]
theorem nameOk_eq {s : ByteArray} (h1 : 1 ≤ s.size) (h2 : s.size ≤ 64) : nameOk s = (letterB (bt s 0) && (bytesOf s).all goodB) := by
  unfold nameOk
  have h3 : (decide (1 ≤ (s.size : Int)) && decide ((s.size : Int) ≤ 64)) = true := by simp; omega
  rw [h3, Bool.and_true]
  have hall : (bytesOf s).all goodB = (List.range s.size).all fun i => goodB ((bytesOf s).getD i 0) := by
    rw [Bool.eq_iff_iff]
    simp only [List.all_eq_true, List.mem_range]
    constructor
    · intro h i hi
      have hi' : i < (bytesOf s).length := by rw [bytesOf_length]; exact hi
      rw [show (bytesOf s).getD i 0 = (bytesOf s)[i] by simp [List.getD_eq_getElem?_getD, List.getElem?_eq_getElem hi']]
      exact h _ (List.getElem_mem hi')
    · intro h x hx
      obtain ⟨i, hi, rfl⟩ := List.mem_iff_getElem.1 hx
      have := h i (by rw [← bytesOf_length]; exact hi)
      rwa [show (bytesOf s).getD i 0 = (bytesOf s)[i] by simp [List.getD_eq_getElem?_getD, List.getElem?_eq_getElem hi]] at this
  rw [hall, Bool.eq_iff_iff]
  simp only [Bool.and_eq_true, List.all_eq_true, List.mem_range]
  constructor
  · intro h
    refine ⟨?_, ?_⟩
    · have := h 0 (by omega)
      rw [bytes_get] at this
      simpa [nameB] using this
    · intro i hi
      have := h i hi
      unfold nameB at this
      unfold goodB
      cases hl : letterB ((bytesOf s).getD i 0) with
      | true => rfl
      | false =>
        rw [hl] at this
        simp only [Bool.false_or, Bool.and_eq_true] at this ⊢
        exact this.2
  · rintro ⟨h0, h⟩ i hi
    have := h i hi
    unfold goodB at this
    unfold nameB
    by_cases c : i = 0
    · subst c
      rw [bytes_get]
      have h0' : letterB (bt s ((0 : Nat) : Int)) = true := h0
      rw [h0']; rfl
    · rw [show decide (1 ≤ i) = true from decide_eq_true (by omega), Bool.true_and]
      exact this
end Go.Proofs.Ytgnmkblaockghaa
namespace Go.Proofs.Ytgnmkblaockghaa
open Go.RowKit Go.Shelf Go.Proofs.YtgnmkblaockghaaW.PrintWords Go.Proofs.YtgnmkblaockghaaW.PrintMore Go.Proofs.YtgnmkblaockghaaW.PrintLast

theorem up_le {α : Type} {f : Nat → Option α} (h : ∀ k, LeO (f k) (f (k + 1))) {k k' : Nat} (hk : k ≤ k') {r : α} (hr : f k = some r) : f k' = some r := by
  obtain ⟨d, rfl⟩ := Nat.exists_eq_add_of_le hk
  clear hk
  induction d with
  | zero => exact hr
  | succ d ih => exact h (k + d) r ih
theorem wrap_in (n : Int) (h : -9223372036854775808 ≤ n ∧ n ≤ 9223372036854775807) : wrap64 n = n := by unfold wrap64; omega
theorem rd_at {xs : List Ft} {k : Nat} (hk : k < xs.length) : PFilterBounds.rd_T25 xs (k : Int) = xs[k] := by unfold PFilterBounds.rd_T25; simp [List.getD_eq_getElem?_getD, hk]
/-! ### left -/
end Go.Proofs.Ytgnmkblaockghaa
