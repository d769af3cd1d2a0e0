/- light, the reference's Right and Same, as printed for a law, over our own parts. -/
import Derived.Test.YthbjgcmbbdlfkaaDb
import Derived.Test.YthbjgcmbbdlfkaaPDnAlikex2
import Derived.Test.YthbjgcmbbdlfkaaDa
set_option linter.unusedVariables false
set_option linter.unusedSimpArgs false
namespace Go.Proofs.Ythbjgcmbbdlfkaa.PDnAlike
open Go.RowKit Go.Shelf Go.Proofs.Ythbjgcmbbdlfkaa Go.Proofs.YthbjgcmbbdlfkaaW.PrintWords Go.Proofs.YthbjgcmbbdlfkaaW.PrintMore Go.Proofs.YthbjgcmbbdlfkaaW.PrintLast

theorem up_le {α : Type} {f : Nat → Option α} (h : ∀ k, LeO (f k) (f (k + 1))) {k k' : Nat} (hk : k ≤ k') {r : α} (hr : f k = some r) : f k' = some r := by
  obtain ⟨d, rfl⟩ := Nat.exists_eq_add_of_le hk
  clear hk
  induction d with
  | zero => exact hr
  | succ d ih => exact h (k + d) r ih
theorem name_up (s : ByteArray) (hs : s.size ≤ 12000) {k : Nat} (hk : s.size + 2 ≤ k) : cardcaseref06_Name.f k s = some (nameOk s) := up_le (f := fun k => cardcaseref06_Name.f k s) (cardcaseref06_Name.mono s) hk (name_ours s hs)
theorem small_up (s : ByteArray) (hs : s.size ≤ 12000) {k : Nat} (hk : s.size + 1 ≤ k) : cardcaseref06_Small.f k s = some (small s) := up_le (f := fun k => cardcaseref06_Small.f k s) (cardcaseref06_Small.mono s) hk (small_ours s hs)
def conv (r : Rdn) : S40 := ⟨r.t, r.v⟩
theorem conv_C {W : World} {A : Option Addr} {l : List Rdn} (h : kr.C W A l.length l) : Kd.C k40 W A (l.map conv).length (l.map conv) := by
  obtain ⟨h1, h2, h3⟩ := h
  refine ⟨rfl, by rw [List.length_map]; exact h2, fun hp => ?_⟩
  rw [List.length_map] at hp
  obtain ⟨ad, e, hc⟩ := h3 hp
  refine ⟨ad, e, fun j p hj => ?_⟩
  rw [List.getElem?_map] at hj
  cases hl : l[j]? with
  | none => rw [hl] at hj; cases hj
  | some x =>
    rw [hl] at hj
    obtain rfl := Option.some.inj hj
    exact hc j x hl
theorem rd_conv {l : List Rdn} {i : Nat} (h : i < l.length) : rd_T40 (l.map conv) (i : Int) = conv l[i] := by
  unfold rd_T40
  simp [List.getD_eq_getElem?_getD, h]
theorem light_loop (l : List Rdn) (hl : l.length ≤ 20) : ∀ (m i : Nat), l.length - i = m → i ≤ l.length → cardcaselaw06_light.l0 (m + 1) (l.map conv) (i : Int) = some ((l.drop i).all lightR) := by
  intro m
  induction m with
  | zero =>
    intro i hm hi
    unfold cardcaselaw06_light.l0
    rw [if_neg (by rw [List.length_map]; omega), List.drop_eq_nil_of_le (by omega)]
    rfl
  | succ m ih =>
    intro i hm hi
    have hlt : i < l.length := by omega
    unfold cardcaselaw06_light.l0
    rw [if_pos (by rw [List.length_map]; omega), if_pos (by omega), rd_conv hlt, show wrap64 ((i : Int) + 1) = ((i + 1 : Nat) : Int) by unfold wrap64; omega, ih (i + 1) (by omega) (by omega), List.drop_eq_getElem_cons hlt, List.all_cons]
    show (if ((l[i].t.size : Nat) : Int) > 300 then _ else if ((l[i].v.size : Nat) : Int) > 300 then _ else _) = _
    unfold lightR
    by_cases c1 : l[i].t.size ≤ 300
    · rw [if_neg (by omega)]
      by_cases c2 : l[i].v.size ≤ 300
      · rw [if_neg (by omega), decide_eq_true c1, decide_eq_true c2]; rfl
      · rw [if_pos (by omega), decide_eq_false c2, Bool.and_false]; rfl
    · rw [if_pos (by omega), decide_eq_false c1]; rfl
theorem light_ours (l : List Rdn) : cardcaselaw06_light.f (l.length + 1) (l.map conv) = some (lightB l) := by
  unfold cardcaselaw06_light.f lightB
  rw [List.length_map]
  by_cases c : l.length ≤ 20
  · rw [if_neg (by omega), decide_eq_true c]
    have := light_loop l c l.length 0 (by omega) (by omega)
    simpa using this
  · rw [if_pos (by omega), decide_eq_false c]; rfl
theorem light_calls (A : Option Addr) (c : Nat) (l : List Rdn) (w : World) (hC : kr.C w A l.length l) (hc : l.length ≤ c) :
    Calls Try.prog 10 #[.slice A l.length c] w fun e w' => e = .returned (.bool (lightB l)) ∧ Below w.heap.size w w' := by
  have h := cardcaselaw06_light.calls _ A c (l.map conv) (lightB l) w (conv_C hC) (by rw [List.length_map]; exact hc) (light_ours l)
  rw [List.length_map] at h
  refine h.mono ?_
  rintro e w' ⟨rfl, nd, rfl⟩
  exact ⟨rfl, ⟨rfl, rfl, rfl, Nat.le_refl _, fun _ _ => rfl⟩⟩
theorem right_loop (C : Nat) (hC : 12010 ≤ C) (l : List Rdn) (hl : l.length ≤ 16) (ht : ∀ x ∈ l, x.t.size ≤ 12000) : ∀ (m i : Nat), l.length - i = m → i ≤ l.length → cardcaseref06_Right.l0 (m + 1 + C) (l.map conv) (i : Int) = some ((l.drop i).all partOk) := by
  intro m
  induction m with
  | zero =>
    intro i hm hi
    rw [show 0 + 1 + C = C + 1 by omega]
    unfold cardcaseref06_Right.l0
    rw [if_neg (by rw [List.length_map]; omega), List.drop_eq_nil_of_le (by omega)]
    rfl
  | succ m ih =>
    intro i hm hi
    have hlt : i < l.length := by omega
    have hti := ht l[i] (List.getElem_mem hlt)
    rw [show m + 1 + 1 + C = (m + 1 + C) + 1 by omega]
    unfold cardcaseref06_Right.l0
    rw [if_pos (by rw [List.length_map]; omega), if_pos (by omega), rd_conv hlt, show wrap64 ((i : Int) + 1) = ((i + 1 : Nat) : Int) by unfold wrap64; omega, ih (i + 1) (by omega) (by omega), List.drop_eq_getElem_cons hlt, List.all_cons]
    show ((cardcaseref06_Name.f _ l[i].t).bind fun t115 => (if t115 = true then (if ((l[i].v.size : Nat) : Int) < 1 then (some false) else (if ((l[i].v.size : Nat) : Int) > 200 then (some false) else ((cardcaseref06_Small.f _ l[i].t).bind fun t119 => (if t119.toList = (l[i].t).toList then _ else (some false))))) else (some false))) = _
    rw [name_up l[i].t hti (by omega), small_up l[i].t hti (by omega)]
    simp only [Option.bind_some]
    unfold partOk
    cases nameOk l[i].t with
    | false => rfl
    | true =>
      rw [if_pos rfl, Bool.true_and]
      by_cases c1 : 1 ≤ l[i].v.size
      · rw [if_neg (by omega), decide_eq_true (show (1 : Int) ≤ (l[i].v.size : Int) by omega), Bool.true_and]
        by_cases c2 : l[i].v.size ≤ 200
        · rw [if_neg (by omega), decide_eq_true (show (l[i].v.size : Int) ≤ 200 by omega), Bool.and_true]
          by_cases c3 : (small l[i].t).toList = l[i].t.toList
          · rw [if_pos c3, beq_iff_eq.2 c3]; rfl
          · rw [if_neg c3, beq_eq_false_iff_ne.2 c3]; rfl
        · rw [if_pos (by omega), decide_eq_false (show ¬ (l[i].v.size : Int) ≤ 200 by omega), Bool.and_false]; rfl
      · rw [if_pos (by omega), decide_eq_false (show ¬ (1 : Int) ≤ (l[i].v.size : Int) by omega), Bool.false_and, Bool.and_false]; rfl
theorem right_ours (C : Nat) (hC : 12010 ≤ C) (l : List Rdn) (ht : ∀ x ∈ l, x.t.size ≤ 12000) : cardcaseref06_Right.f (l.length + 1 + C) (l.map conv) = some (dnOk l) := by
  unfold cardcaseref06_Right.f dnOk
  rw [List.length_map]
  by_cases c : l.length ≤ 16
  · rw [if_neg (by omega), decide_eq_true (show (l.length : Int) ≤ 16 by omega)]
    have := right_loop C hC l c ht l.length 0 (by omega) (by omega)
    simpa using this
  · rw [if_pos (by omega), decide_eq_false (show ¬ (l.length : Int) ≤ 16 by omega)]; rfl
theorem right_calls (A : Option Addr) (c : Nat) (l : List Rdn) (w : World) (hl : Mild l) (hC : kr.C w A l.length l) (hc : l.length ≤ c) :
    Calls Try.prog 13 #[.slice A l.length c] w fun e w' => e = .returned (.bool (dnOk l)) ∧ Below w.heap.size w w' := by
  have h := cardcaseref06_Right.calls _ A c (l.map conv) (dnOk l) w (conv_C hC) (by rw [List.length_map]; exact hc) (right_ours 12010 (Nat.le_refl _) l (fun x hx => (hl.2 x hx).1))
  rw [List.length_map] at h
  exact h
end Go.Proofs.Ythbjgcmbbdlfkaa.PDnAlike
