/- The reference's Means (plain). -/
import Derived.Test.YtgnmkblaockghaaKd
import Derived.Test.YtgnmkblaockghaaPL3
set_option linter.unusedVariables false
set_option linter.unusedSimpArgs false
namespace Go.Proofs.Ytgnmkblaockghaa
open Go.RowKit Go.Shelf Go.Proofs.YtgnmkblaockghaaW.PrintWords Go.Proofs.YtgnmkblaockghaaW.PrintMore Go.Proofs.YtgnmkblaockghaaW.PrintLast

theorem rd47_at {xs : List At} {k : Nat} (hk : k < xs.length) : PFilterBounds.rd_T47 xs (k : Int) = xs[k] := by unfold PFilterBounds.rd_T47; simp [List.getD_eq_getElem?_getD, hk]
theorem rdstr_at {xs : List ByteArray} {k : Nat} (hk : k < xs.length) : rdOf ByteArray.empty xs (k : Int) = xs[k] := by unfold rdOf; simp [List.getD_eq_getElem?_getD, hk]
open PFilterBounds in
theorem get_l0 (le : List At) (n : ByteArray) (hn : n.size ≤ 12000) (hl : le.length ≤ 1000) : ∀ q j, j + q = le.length → ∀ K, cardcaseref07_Get.l0 (q + 12002 + K) le n (j : Int) = some (getE (small n) (le.drop j)) := by
  intro q
  induction q with
  | zero =>
    intro j hj K
    rw [show 0 + 12002 + K = (12001 + K) + 1 by omega, cardcaseref07_Get.l0, if_neg (by omega), List.drop_eq_nil_of_le (by omega), getE]
  | succ q ih =>
    intro j hj K
    have hjl : j < le.length := by omega
    have e4 : wrap64 ((j : Int) + 1) = ((j + 1 : Nat) : Int) := by rw [wrap_in _ (by omega)]; omega
    rw [show q + 1 + 12002 + K = (q + 12002 + K) + 1 by omega, cardcaseref07_Get.l0, if_pos (by omega), if_pos (by omega), small_up n hn (by omega)]
    simp only [Option.bind_some]
    rw [rd47_at hjl, e4, ih (j + 1) (by omega) K, List.drop_eq_getElem_cons hjl, getE]
    by_cases c : le[j].f0.toList = (small n).toList
    · rw [if_pos c, if_pos (by simpa using c)]
    · rw [if_neg c, if_neg (by simpa using c)]
open PFilterBounds in
theorem get_ours (le : List At) (n : ByteArray) (hn : n.size ≤ 12000) (hl : le.length ≤ 1000) {K : Nat} (hK : 13002 ≤ K) : cardcaseref07_Get.f K le n = some (getE (small n) le) := by
  have h := get_l0 le n hn hl le.length 0 (by omega) (K - (le.length + 12002))
  rw [show le.length + 12002 + (K - (le.length + 12002)) = K by omega, List.drop_zero] at h
  exact h
/-- What one value is asked. -/
def askB (k : Int) (v s : ByteArray) : Bool := if k = 5 then prefB (small s) (small v) else (small s).toList == (small v).toList
theorem ba_of_list {a b : ByteArray} (h : a.toList = b.toList) : a = b := by
  have e := beq_iff_eq.2 h
  by_cases hd : a = b
  · exact hd
  · exact ByteArray.ext (by
      have h1 := h
      rw [ByteArray.toList_eq, ByteArray.toList_eq] at h1
      exact Array.toList_inj.1 h1)
theorem pref_self (a : ByteArray) : prefB a a = true := by
  unfold prefB
  simp
open PFilterBounds in
theorem l2_ours (k : Int) (l : List Ft) (n v : ByteArray) (vs : List ByteArray) (hv : v.size ≤ 12000) (hvs : ∀ s ∈ vs, s.size ≤ 12000) (hl : vs.length ≤ 1000) : ∀ q j, j + q = vs.length → ∀ K,
    cardcaseref08_Means.l2 (q + 12002 + K) vs (small v) (j : Int) k l n v = some ((vs.drop j).any (askB k v)) := by
  intro q
  induction q with
  | zero =>
    intro j hj K
    rw [show 0 + 12002 + K = (12001 + K) + 1 by omega, cardcaseref08_Means.l2, if_neg (by omega), List.drop_eq_nil_of_le (by omega)]
    rfl
  | succ q ih =>
    intro j hj K
    have hjl : j < vs.length := by omega
    have e4 : wrap64 ((j : Int) + 1) = ((j + 1 : Nat) : Int) := by rw [wrap_in _ (by omega)]; omega
    have hs := hvs vs[j] (List.getElem_mem hjl)
    rw [show q + 1 + 12002 + K = (q + 12002 + K) + 1 by omega, cardcaseref08_Means.l2, if_pos (by omega), if_pos (by omega), rdstr_at hjl, small_up vs[j] hs (by omega)]
    simp only [Option.bind_some]
    rw [e4, ih (j + 1) (by omega) K, List.drop_eq_getElem_cons hjl, List.any_cons]
    generalize (vs.drop (j + 1)).any (askB k v) = r
    unfold askB
    by_cases c : (small vs[j]).toList = (small v).toList
    · rw [if_pos c]
      have e := ba_of_list c
      by_cases c5 : k = 5
      · rw [if_pos c5, e, pref_self]; rfl
      · rw [if_neg c5, c]; simp
    · rw [if_neg c]
      by_cases c5 : k = 5
      · rw [if_pos c5, if_pos c5]
        unfold prefB
        by_cases d : ((small vs[j]).size : Int) ≥ ((small v).size : Int)
        · rw [if_pos d, if_pos (by omega), if_pos (by omega), Int.toNat_natCast]
          have d2 : (small v).size ≤ (small vs[j]).size := by omega
          rw [decide_eq_true d2, Bool.true_and]
          by_cases c6 : ((small vs[j]).extract 0 (small v).size).toList = (small v).toList
          · rw [if_pos c6, beq_iff_eq.2 c6]; rfl
          · rw [if_neg c6, beq_eq_false_iff_ne.2 c6]; rfl
        · rw [if_neg d]
          have d2 : ¬ (small v).size ≤ (small vs[j]).size := by omega
          rw [decide_eq_false d2]; rfl
      · rw [if_neg c5, if_neg c5, beq_eq_false_iff_ne.2 c]; rfl
abbrev meansK (K : Nat) (x : Ft) (le : List At) : Option Bool := PFilterBounds.cardcaseref08_Means.f K x.f0 x.f1 x.f2 x.f3 le
open PFilterBounds in
theorem meansK_up {K K' : Nat} (h : K ≤ K') {x : Ft} {le : List At} {r : Bool} (hr : meansK K x le = some r) : meansK K' x le = some r :=
  up_le (f := fun K => meansK K x le) (fun K => (cardcaseref08_Means.mono_l K).1 _ _ _ _ _) h hr
open PFilterBounds in
theorem means_l0_up {K K' : Nat} (h : K ≤ K') {le : List At} {j k : Int} {xs : List Ft} {s v : ByteArray} {r : Bool} (hr : cardcaseref08_Means.l0 K le j k xs s v = some r) : cardcaseref08_Means.l0 K' le j k xs s v = some r :=
  up_le (f := fun K => cardcaseref08_Means.l0 K le j k xs s v) (fun K => (cardcaseref08_Means.mono_l K).2.1 _ _ _ _ _ _) h hr
open PFilterBounds in
theorem means_l1_up {K K' : Nat} (h : K ≤ K') {le : List At} {j k : Int} {xs : List Ft} {s v : ByteArray} {r : Bool} (hr : cardcaseref08_Means.l1 K le j k xs s v = some r) : cardcaseref08_Means.l1 K' le j k xs s v = some r :=
  up_le (f := fun K => cardcaseref08_Means.l1 K le j k xs s v) (fun K => (cardcaseref08_Means.mono_l K).2.2.1 _ _ _ _ _ _) h hr
open PFilterBounds in
theorem means_all (g : ByteArray → Fld) (le : List At) (k : Int) (l : List Ft) (s v : ByteArray) (hl : l.length ≤ 12000) (ih : ∀ x ∈ l, ∃ K, meansK K x le = some (meansT g x)) : ∀ q j, j + q = l.length → ∃ K, cardcaseref08_Means.l0 K le (j : Int) k l s v = some (meansAll g (l.drop j))
  | 0, j, hj => by
    refine ⟨1, ?_⟩
    rw [cardcaseref08_Means.l0, if_neg (by omega), List.drop_eq_nil_of_le (by omega), meansAll]
  | q + 1, j, hj => by
    have hjl : j < l.length := by omega
    obtain ⟨K1, e1⟩ := ih _ (List.getElem_mem hjl)
    obtain ⟨K2, e2⟩ := means_all g le k l s v hl ih q (j + 1) (by omega)
    have e4 : wrap64 ((j : Int) + 1) = ((j + 1 : Nat) : Int) := by rw [wrap_in _ (by omega)]; omega
    refine ⟨max K1 K2 + 1, ?_⟩
    have e5 := meansK_up (Nat.le_max_left K1 K2) e1
    unfold meansK at e5
    rw [cardcaseref08_Means.l0, if_pos (by omega), if_pos (by omega), rd_at hjl, e5]
    simp only [Option.bind_some]
    rw [e4, means_l0_up (Nat.le_max_right K1 K2) e2, List.drop_eq_getElem_cons hjl, meansAll]
    cases meansT g l[j] <;> rfl
open PFilterBounds in
theorem means_any (g : ByteArray → Fld) (le : List At) (k : Int) (l : List Ft) (s v : ByteArray) (hl : l.length ≤ 12000) (ih : ∀ x ∈ l, ∃ K, meansK K x le = some (meansT g x)) : ∀ q j, j + q = l.length → ∃ K, cardcaseref08_Means.l1 K le (j : Int) k l s v = some (meansAny g (l.drop j))
  | 0, j, hj => by
    refine ⟨1, ?_⟩
    rw [cardcaseref08_Means.l1, if_neg (by omega), List.drop_eq_nil_of_le (by omega), meansAny]
  | q + 1, j, hj => by
    have hjl : j < l.length := by omega
    obtain ⟨K1, e1⟩ := ih _ (List.getElem_mem hjl)
    obtain ⟨K2, e2⟩ := means_any g le k l s v hl ih q (j + 1) (by omega)
    have e4 : wrap64 ((j : Int) + 1) = ((j + 1 : Nat) : Int) := by rw [wrap_in _ (by omega)]; omega
    refine ⟨max K1 K2 + 1, ?_⟩
    have e5 := meansK_up (Nat.le_max_left K1 K2) e1
    unfold meansK at e5
    rw [cardcaseref08_Means.l1, if_pos (by omega), if_pos (by omega), rd_at hjl, e5]
    simp only [Option.bind_some]
    rw [e4, means_l1_up (Nat.le_max_right K1 K2) e2, List.drop_eq_getElem_cons hjl, meansAny]
    cases meansT g l[j] <;> rfl
open PFilterBounds in
theorem means_ours (le : List At) (hm : MildE le) (x : Ft) : goodT x → wF x ≤ 12000 → ∃ K, meansK K x le = some (meansT (getF [] [] le) x) := by
  refine filtInd (P := fun x => goodT x → wF x ≤ 12000 → ∃ K, meansK K x le = some (meansT (getF [] [] le) x)) (fun k l n v ih => ?_) x
  intro hg hw
  rw [goodT] at hg
  obtain ⟨⟨k1, k6⟩, k3, hgl⟩ := hg
  rw [goodL_iff] at hgl
  rw [wF_of] at hw
  dsimp only at hw
  have hll := wFs_length l
  have ih' : ∀ x ∈ l, ∃ K, meansK K x le = some (meansT (getF [] [] le) x) := fun x hx => ih x hx (hgl x hx) (by have := wF_mem hx; omega)
  have hget : ∀ K, 13002 ≤ K → cardcaseref07_Get.f K le n = some (getE (small n) le) := fun K hK => get_ours le n (by omega) hm.1 hK
  have hgf : getF [] [] le n = getE (small n) le := rfl
  have hgs : ∀ K, 13002 ≤ K → cardcaseref06_Small.f K v = some (small v) := fun K hK => small_up v (by omega) (by omega)
  have hmem := getE_mem (t := small n) hm
  unfold meansK
  dsimp only
  rw [meansT, hgf]
  by_cases c1 : k = 1
  · obtain ⟨K, e⟩ := means_all (getF [] [] le) le k l n v (by omega) ih' l.length 0 (by omega)
    refine ⟨max K 13002 + 1, ?_⟩
    rw [cardcaseref08_Means.f, hget _ (Nat.le_max_right _ _), hgs _ (Nat.le_max_right _ _)]
    simp only [Option.bind_some]
    rw [if_pos c1, if_pos c1]
    exact means_l0_up (Nat.le_max_left _ _) e
  by_cases c2 : k = 2
  · obtain ⟨K, e⟩ := means_any (getF [] [] le) le k l n v (by omega) ih' l.length 0 (by omega)
    refine ⟨max K 13002 + 1, ?_⟩
    rw [cardcaseref08_Means.f, hget _ (Nat.le_max_right _ _), hgs _ (Nat.le_max_right _ _)]
    simp only [Option.bind_some]
    rw [if_neg c1, if_pos c2, if_neg c1, if_pos c2]
    exact means_l1_up (Nat.le_max_left _ _) e
  by_cases c3 : k = 3
  · have hlen := k3 c3
    obtain ⟨y, rfl⟩ : ∃ y, l = [y] := List.length_eq_one_iff.1 hlen
    obtain ⟨K, e⟩ := ih' y List.mem_cons_self
    refine ⟨max K 13002 + 1, ?_⟩
    rw [cardcaseref08_Means.f, hget _ (Nat.le_max_right _ _), hgs _ (Nat.le_max_right _ _)]
    simp only [Option.bind_some]
    rw [if_neg c1, if_neg c2, if_pos c3, if_neg c1, if_neg c2, if_pos c3, if_pos (by simp)]
    have e5 := meansK_up (Nat.le_max_left K 13002) e
    unfold meansK at e5
    have hr : rd_T25 [y] 0 = y := rfl
    rw [hr, e5, meansHd]
    rfl
  by_cases c6 : k = 6
  · refine ⟨13003, ?_⟩
    rw [cardcaseref08_Means.f, hget _ (Nat.le_refl _), hgs _ (Nat.le_refl _)]
    simp only [Option.bind_some]
    rw [if_neg c1, if_neg c2, if_neg c3, if_pos c6, if_neg c1, if_neg c2, if_neg c3, if_neg (by omega), if_neg (by omega)]
    congr 1
    rw [Bool.eq_iff_iff]; simp
  · have hk : k = 4 ∨ k = 5 := by omega
    have e := l2_ours k l n v (getE (small n) le) (by omega) hmem.2 hmem.1 (getE (small n) le).length 0 (by omega) 1000
    refine ⟨(getE (small n) le).length + 12002 + 1000 + 1, ?_⟩
    rw [cardcaseref08_Means.f, hget _ (by omega), hgs _ (by omega)]
    simp only [Option.bind_some]
    rw [if_neg c1, if_neg c2, if_neg c3, if_neg c6, if_neg c1, if_neg c2, if_neg c3]
    refine Eq.trans e ?_
    rw [List.drop_zero]
    rcases hk with rfl | rfl
    · rw [if_pos rfl]; congr 1
    · rw [if_neg (by omega), if_pos rfl]; congr 1
/-- The reference's Means is ours. -/
theorem rmeans_calls (x : Ft) (A : Option Addr) (c : Nat) (le : List At) (Ae : Option Addr) (ce : Nat) (w : World) (hr : rightF x = true) (hv : Fv w x A c) (hw : wF x ≤ 12000) (hm : MildE le) (hce : le.length ≤ ce) (hCe : kA.C w Ae le.length le) :
    Calls Try.prog 17 #[fv x A c, .slice Ae le.length ce] w fun e w' => e = .returned (.bool (meansT (getF [] [] le) x)) ∧ Below w.heap.size w w' := by
  obtain ⟨m, hmm⟩ := Option.isSome_iff_exists.1 (show (cntT 0 1 x).isSome = true from hr)
  obtain ⟨K, e⟩ := means_ours le hm x (good_of_cnt x 0 1 m hmm) hw
  exact PFilterBounds.cardcaseref08_Means.calls K x.f0 A c x.f1 x.f2 x.f3 Ae ce le _ w hv.co hv.lo hCe hce e
end Go.Proofs.Ytgnmkblaockghaa
