/- The reference's Alike and Below are ours; Keys of alike names: plain. -/
import Derived.Test.YthbjgcmbbdlfkaaEf
import Derived.Test.YthbjgcmbbdlfkaaEa
import Derived.Test.YthbjgcmbbdlfkaaGa
import Derived.Test.YthbjgcmbbdlfkaaPDnAlikex5
set_option linter.unusedVariables false
set_option linter.unusedSimpArgs false
namespace Go.Proofs.Ythbjgcmbbdlfkaa
open Go.RowKit Go.Shelf Go.Proofs.YthbjgcmbbdlfkaaW.PrintWords Go.Proofs.YthbjgcmbbdlfkaaW.PrintMore Go.Proofs.YthbjgcmbbdlfkaaW.PrintLast

/-- Are the parts from the i-th on alike? -/
def restA (a b : List Rdn) (n i : Nat) : Bool := ((List.range b.length).drop i).all fun j => alikeR (a.getD (n + j) zR) (b.getD j zR)
theorem restA_next {a b : List Rdn} {n i : Nat} (h : i < b.length) : restA a b n i = (alikeR (a.getD (n + i) zR) (b.getD i zR) && restA a b n (i + 1)) := by
  unfold restA
  rw [List.drop_eq_getElem_cons (by rw [List.length_range]; exact h), List.all_cons]
  simp
theorem restA_end {a b : List Rdn} {n i : Nat} (h : b.length ≤ i) : restA a b n i = true := by
  unfold restA
  rw [List.drop_eq_nil_of_le (by rw [List.length_range]; exact h)]
  rfl
theorem restA_to (a b : List Rdn) (n : Nat) : restA a b n 0 = alikeTo (a.drop n) b b.length := by
  unfold restA alikeTo
  rw [List.drop_zero]
  apply List.all_congr rfl
  intro j
  simp [List.getD_eq_getElem?_getD, List.getElem?_drop]
namespace PDnAlike
theorem ends_loop (C : Nat) (hC : 12010 ≤ C) (a b : List Rdn) (n : Nat) (hn : n + b.length = a.length) (hl : a.length ≤ 1000) (ha : ∀ x ∈ a, x.v.size ≤ 12000) (hb : ∀ x ∈ b, x.v.size ≤ 12000) : ∀ (m i : Nat), b.length - i = m → i ≤ b.length →
    cardcaseref06_ends.l0 (m + 1 + C) (a.map conv) (b.map conv) (n : Int) (i : Int) = some (restA a b n i) := by
  intro m
  induction m with
  | zero =>
    intro i hm hi
    rw [show 0 + 1 + C = C + 1 by omega]
    unfold cardcaseref06_ends.l0
    rw [if_neg (by rw [List.length_map]; omega), restA_end (by omega)]
  | succ m ih =>
    intro i hm hi
    have hlt : i < b.length := by omega
    have hna : n + i < a.length := by omega
    have hw : wrap64 ((n : Int) + (i : Int)) = ((n + i : Nat) : Int) := by unfold wrap64; omega
    have hai := ha a[n + i] (List.getElem_mem hna)
    have hbi := hb b[i] (List.getElem_mem hlt)
    rw [show m + 1 + 1 + C = (m + 1 + C) + 1 by omega]
    unfold cardcaseref06_ends.l0
    rw [hw, if_pos (by rw [List.length_map]; omega), if_pos (by omega), if_pos (by rw [List.length_map]; omega), if_pos (by omega), rd_conv hna, rd_conv hlt, show wrap64 ((i : Int) + 1) = ((i + 1 : Nat) : Int) by unfold wrap64; omega, ih (i + 1) (by omega) (by omega), restA_next hlt]
    rw [show a.getD (n + i) zR = a[n + i] by simp [List.getD_eq_getElem?_getD, hna], show b.getD i zR = b[i] by simp [List.getD_eq_getElem?_getD, hlt]]
    show (if (a[n + i].t).toList = (b[i].t).toList then ((cardcaseref06_Small.f _ a[n + i].v).bind fun t132 => ((cardcaseref06_Small.f _ b[i].v).bind fun t134 => (if t132.toList = t134.toList then _ else (some false)))) else (some false)) = _
    rw [small_up _ hai (by omega), small_up _ hbi (by omega)]
    simp only [Option.bind_some]
    unfold alikeR
    by_cases c1 : (a[n + i].t).toList = (b[i].t).toList
    · rw [if_pos c1, beq_iff_eq.2 c1, Bool.true_and]
      by_cases c2 : (small a[n + i].v).toList = (small b[i].v).toList
      · rw [if_pos c2, beq_iff_eq.2 c2, Bool.true_and]
      · rw [if_neg c2, beq_eq_false_iff_ne.2 c2]; rfl
    · rw [if_neg c1, beq_eq_false_iff_ne.2 c1]; rfl
theorem ends_ours (C : Nat) (hC : 12010 ≤ C) (a b : List Rdn) (hle : b.length ≤ a.length) (hl : a.length ≤ 1000) (ha : ∀ x ∈ a, x.v.size ≤ 12000) (hb : ∀ x ∈ b, x.v.size ≤ 12000) :
    cardcaseref06_ends.f (b.length + 1 + C) (a.map conv) (b.map conv) = some (alikeTo (a.drop (a.length - b.length)) b b.length) := by
  unfold cardcaseref06_ends.f
  rw [List.length_map, List.length_map, show wrap64 ((a.length : Int) - (b.length : Int)) = ((a.length - b.length : Nat) : Int) by unfold wrap64; omega]
  have := ends_loop C hC a b (a.length - b.length) (by omega) hl ha hb b.length 0 (by omega) (by omega)
  rw [restA_to] at this
  exact this
theorem right_up {l : List Rdn} (hl : Mild l) {k : Nat} (hk : l.length + 12011 ≤ k) : cardcaseref06_Right.f k (l.map conv) = some (dnOk l) := by
  obtain ⟨C, hC, rfl⟩ : ∃ C, 12010 ≤ C ∧ k = l.length + 1 + C := ⟨k - l.length - 1, by omega, by omega⟩
  exact right_ours C hC l (fun x hx => (hl.2 x hx).1)
theorem ends_up {a b : List Rdn} (ha : Mild a) (hb : Mild b) (hle : b.length ≤ a.length) {k : Nat} (hk : b.length + 12011 ≤ k) : cardcaseref06_ends.f k (a.map conv) (b.map conv) = some (alikeTo (a.drop (a.length - b.length)) b b.length) := by
  obtain ⟨C, hC, rfl⟩ : ∃ C, 12010 ≤ C ∧ k = b.length + 1 + C := ⟨k - b.length - 1, by omega, by omega⟩
  exact ends_ours C hC a b hle ha.1 (fun x hx => (ha.2 x hx).2) (fun x hx => (hb.2 x hx).2)
theorem alike_ours {a b : List Rdn} (ha : Mild a) (hb : Mild b) {k : Nat} (hk : 14000 ≤ k) : cardcaseref06_Alike.f k (a.map conv) (b.map conv) = some (alB a b) := by
  have h1 := ha.1
  have h2 := hb.1
  unfold cardcaseref06_Alike.f alB eqF
  rw [right_up ha (by omega), right_up hb (by omega), List.length_map, List.length_map]
  simp only [Option.bind_some]
  cases dnOk a with
  | false => rfl
  | true =>
    cases dnOk b with
    | false => rfl
    | true =>
      rw [if_pos rfl, if_pos rfl]
      by_cases c : a.length = b.length
      · rw [if_pos (by omega), ends_up ha hb (by omega) (by omega), c, Nat.sub_self, List.drop_zero, decide_eq_true rfl]
        simp
      · rw [if_neg (by omega), decide_eq_false c]; rfl
theorem below_ours {a b : List Rdn} (ha : Mild a) (hb : Mild b) {k : Nat} (hk : 14000 ≤ k) : cardcaseref06_Below.f k (a.map conv) (b.map conv) = some (beB a b) := by
  have h1 := ha.1
  have h2 := hb.1
  unfold cardcaseref06_Below.f beB eqF
  rw [right_up ha (by omega), right_up hb (by omega), List.length_map, List.length_map]
  simp only [Option.bind_some]
  cases dnOk a with
  | false => rfl
  | true =>
    cases dnOk b with
    | false => rfl
    | true =>
      rw [if_pos rfl, if_pos rfl]
      by_cases c : b.length < a.length
      · rw [if_pos (by omega), ends_up ha hb (by omega) (by omega), decide_eq_true c]
        have : (a.drop (a.length - b.length)).length = b.length := by rw [List.length_drop]; omega
        rw [this, decide_eq_true rfl]
        simp
      · rw [if_neg (by omega), decide_eq_false c]; rfl
end PDnAlike
theorem ralike_calls (A B : Option Addr) (c d : Nat) (a b : List Rdn) (w : World) (ha : Mild a) (hb : Mild b) (hA : kr.C w A a.length a) (hc : a.length ≤ c) (hB : kr.C w B b.length b) (hd : b.length ≤ d) :
    Calls Try.prog 24 #[.slice A a.length c, .slice B b.length d] w fun e w' => e = .returned (.bool (alB a b)) ∧ Below w.heap.size w w' := by
  have h := PDnAlike.cardcaseref06_Alike.calls _ A c (a.map PDnAlike.conv) B d (b.map PDnAlike.conv) _ w (PDnAlike.conv_C hA) (by rw [List.length_map]; exact hc) (PDnAlike.conv_C hB) (by rw [List.length_map]; exact hd) (PDnAlike.alike_ours ha hb (Nat.le_refl _))
  rw [List.length_map, List.length_map] at h
  exact h
theorem rbelow_calls (A B : Option Addr) (c d : Nat) (a b : List Rdn) (w : World) (ha : Mild a) (hb : Mild b) (hA : kr.C w A a.length a) (hc : a.length ≤ c) (hB : kr.C w B b.length b) (hd : b.length ≤ d) :
    Calls Try.prog 25 #[.slice A a.length c, .slice B b.length d] w fun e w' => e = .returned (.bool (beB a b)) ∧ Below w.heap.size w w' := by
  have h := PDnAlike.cardcaseref06_Below.calls _ A c (a.map PDnAlike.conv) B d (b.map PDnAlike.conv) _ w (PDnAlike.conv_C hA) (by rw [List.length_map]; exact hc) (PDnAlike.conv_C hB) (by rw [List.length_map]; exact hd) (PDnAlike.below_ours ha hb (Nat.le_refl _))
  rw [List.length_map, List.length_map] at h
  exact h
theorem alikeR_symm (r q : Rdn) : alikeR r q = alikeR q r := by
  unfold alikeR
  rw [Bool.eq_iff_iff]
  simp only [Bool.and_eq_true, beq_iff_eq]
  exact ⟨fun h => ⟨h.1.symm, h.2.symm⟩, fun h => ⟨h.1.symm, h.2.symm⟩⟩
theorem alB_symm (a b : List Rdn) : alB a b = alB b a := by
  unfold alB eqF
  rw [Bool.and_comm (dnOk a)]
  congr 1
  by_cases c : a.length = b.length
  · rw [decide_eq_true c, decide_eq_true c.symm, c]
    unfold alikeTo
    congr 2
    funext i
    exact alikeR_symm _ _
  · rw [decide_eq_false c, decide_eq_false (Ne.symm c)]; rfl
theorem alikeR_iff (r q : Rdn) : alikeR r q = true ↔ keyR r = keyR q := by
  unfold alikeR keyR
  simp only [Bool.and_eq_true, beq_iff_eq]
  constructor
  · rintro ⟨h1, h2⟩
    rw [toList_inj h1, toList_inj h2]
  · intro h
    injection h with h1 h2
    exact ⟨by rw [h1], by rw [h2]⟩
theorem eqF_iff (a b : List Rdn) : eqF a b = true ↔ a.map keyR = b.map keyR := by
  unfold eqF alikeTo
  simp only [Bool.and_eq_true, decide_eq_true_eq, List.all_eq_true, List.mem_range]
  constructor
  · rintro ⟨h1, h2⟩
    apply List.ext_getElem
    · rw [List.length_map, List.length_map]; exact h1
    · intro i hi hi'
      rw [List.length_map] at hi hi'
      rw [List.getElem_map, List.getElem_map]
      have := h2 i hi
      rw [show a.getD i zR = a[i] by simp [List.getD_eq_getElem?_getD, hi], show b.getD i zR = b[i] by simp [List.getD_eq_getElem?_getD, hi']] at this
      exact (alikeR_iff _ _).1 this
  · intro h
    have hlen : a.length = b.length := by have := congrArg List.length h; rwa [List.length_map, List.length_map] at this
    refine ⟨hlen, fun i hi => ?_⟩
    have hi' : i < b.length := by omega
    rw [show a.getD i zR = a[i] by simp [List.getD_eq_getElem?_getD, hi], show b.getD i zR = b[i] by simp [List.getD_eq_getElem?_getD, hi']]
    apply (alikeR_iff _ _).2
    have h1 : (a.map keyR)[i]'(by rw [List.length_map]; exact hi) = (b.map keyR)[i]'(by rw [List.length_map]; exact hi') := by simp only [h]
    rw [List.getElem_map, List.getElem_map] at h1
    exact h1
/-- Two names have the same Key just if they are alike. -/
theorem key_iff {a b : List Rdn} (ha : dnOk a = true) (hb : dnOk b = true) : ((keyS a).toList == (keyS b).toList) = alB a b := by
  unfold keyS alB
  rw [ha, hb, if_pos rfl, if_pos rfl, Bool.eq_iff_iff]
  simp only [Bool.true_and, beq_iff_eq, Bool.and_self]
  rw [eqF_iff]
  constructor
  · intro h
    exact textF_inj (by rw [key_ok]; exact ha) (by rw [key_ok]; exact hb) (toList_inj h)
  · intro h
    rw [h]
end Go.Proofs.Ythbjgcmbbdlfkaa
