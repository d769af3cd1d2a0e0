/- The reference's Small and Name, as printed for a law: they are what dn's are. -/
import Derived.Test.YtgnmkblaockghaaQJh
import Derived.Test.YtgnmkblaockghaaQPL0
import Derived.Test.YtgnmkblaockghaaQPFilterBoundsx3
set_option linter.unusedVariables false
set_option linter.unusedSimpArgs false
namespace Go.Proofs.Ytgnmkblaockghaa.PFilterBounds
open Go.RowKit Go.Shelf Go.Proofs.Ytgnmkblaockghaa Go.Proofs.YtgnmkblaockghaaW.PrintWords Go.Proofs.YtgnmkblaockghaaW.PrintMore Go.Proofs.YtgnmkblaockghaaW.PrintLast

theorem small_loop (s : ByteArray) (hs : s.size ≤ 12000) : ∀ (m i : Nat) (acc : ByteArray), s.size - i = m → i ≤ s.size → acc.size ≤ i →
    cardcaseref06_Small.l0 (m + 1) s acc (i : Int) = some (acc ++ strOfNums (((bytesOf s).drop i).map smallB)) := by
  intro m
  induction m with
  | zero =>
    intro i acc hm hi ha
    unfold cardcaseref06_Small.l0
    have : i = s.size := by omega
    rw [if_neg (by omega), List.drop_eq_nil_of_le (by rw [bytesOf_length]; omega)]
    show some acc = some (acc ++ (⟨#[]⟩ : ByteArray))
    rw [app_nil]
  | succ m ih =>
    intro i acc hm hi ha
    have hlt : i < s.size := by omega
    have hr := bt_range s (i : Int)
    have hsz : ∀ y : Int, (strOfNums [y]).size = 1 := fun y => by rw [strOfNums_size]; rfl
    have hw : wrap64 ((i : Int) + 1) = ((i + 1 : Nat) : Int) := by unfold wrap64; omega
    have hgo : ∀ y : Int, y = smallB (bt s (i : Int)) → cardcaseref06_Small.l0 (m + 1) s (acc ++ strOfNums [y]) ((i + 1 : Nat) : Int) = some (acc ++ strOfNums (((bytesOf s).drop i).map smallB)) := by
      intro y hy
      rw [ih (i + 1) _ (by omega) (by omega) (by rw [ByteArray.size_append, hsz]; omega), bytes_drop s i hlt, List.map_cons, ← hy, app_assoc, str_app]
      rfl
    unfold cardcaseref06_Small.l0
    rw [if_pos (by omega), if_pos (by omega)]
    have hadd : ∀ y : Int, (if acc.size + (strOfNums [y]).size ≤ 9223372036854775807 then cardcaseref06_Small.l0 (m + 1) s (acc ++ strOfNums [y]) (wrap64 ((i : Int) + 1)) else none) = cardcaseref06_Small.l0 (m + 1) s (acc ++ strOfNums [y]) ((i + 1 : Nat) : Int) := by
      intro y
      rw [if_pos (by rw [hsz]; omega), hw]
    by_cases c1 : bt s (i : Int) ≥ 65
    · rw [if_pos c1]
      by_cases c2 : bt s (i : Int) ≤ 90
      · rw [if_pos c2]
        refine (hadd _).trans (hgo _ ?_)
        unfold smallB
        rw [if_pos ⟨c1, c2⟩]; omega
      · rw [if_neg c2]
        refine (hadd _).trans (hgo _ ?_)
        unfold smallB
        rw [if_neg (fun h => c2 h.2)]
    · rw [if_neg c1]
      refine (hadd _).trans (hgo _ ?_)
      unfold smallB
      rw [if_neg (fun h => c1 h.1)]
theorem small_ours (s : ByteArray) (hs : s.size ≤ 12000) : cardcaseref06_Small.f (s.size + 1) s = some (small s) := by
  have := small_loop s hs s.size 0 (⟨#[]⟩ : ByteArray) (by omega) (by omega) (Nat.le_refl _)
  unfold cardcaseref06_Small.f
  refine this.trans ?_
  rw [nil_app]; rfl
theorem rsmall_calls (s : ByteArray) (hs : s.size ≤ 12000) (w : World) : Calls Try.prog 36 #[.string s] w fun e w' => e = .returned (.string (small s)) ∧ Below w.heap.size w w' :=
  cardcaseref06_Small.calls _ s _ w (small_ours s hs)

theorem letter_ours (x : Int) : cardcaseref06_letter.f x = some (letterB x) := by
  unfold cardcaseref06_letter.f letterB
  by_cases a : x ≥ 65 <;> by_cases b : x ≤ 90 <;> by_cases c : x ≥ 97 <;> by_cases d : x ≤ 122 <;> simp [a, b, c, d] <;> omega
theorem name_loop (s : ByteArray) (hs : s.size ≤ 12000) : ∀ (m i : Nat), s.size - i = m → i ≤ s.size → cardcaseref06_Name.l0 (m + 1) s (i : Int) = some (((bytesOf s).drop i).all goodB) := by
  intro m
  induction m with
  | zero =>
    intro i hm hi
    unfold cardcaseref06_Name.l0
    have : i = s.size := by omega
    rw [if_neg (by omega), List.drop_eq_nil_of_le (by rw [bytesOf_length]; omega)]
    rfl
  | succ m ih =>
    intro i hm hi
    have hlt : i < s.size := by omega
    have hw : wrap64 ((i : Int) + 1) = ((i + 1 : Nat) : Int) := by unfold wrap64; omega
    have hih := ih (i + 1) (by omega) (by omega)
    unfold cardcaseref06_Name.l0
    rw [if_pos (by omega), if_pos (by omega), letter_ours, bytes_drop s i hlt, List.all_cons, hw]
    simp only [Option.bind_some]
    rw [hih]
    unfold goodB
    cases hl : letterB (bt s (i : Int)) with
    | true => simp
    | false =>
      by_cases c1 : bt s (i : Int) < 48
      · by_cases c3 : bt s (i : Int) = 45
        · simp [c3]
        · have : ¬ (48 ≤ bt s (i : Int)) := by omega
          simp [c1, c3, this]
      · by_cases c2 : bt s (i : Int) > 57
        · have c3 : ¬ bt s (i : Int) = 45 := by omega
          have : ¬ bt s (i : Int) ≤ 57 := by omega
          simp [c1, c2, c3, this]
        · have h1 : 48 ≤ bt s (i : Int) := by omega
          have h2 : bt s (i : Int) ≤ 57 := by omega
          simp [c1, c2, h1, h2]
theorem name_ours (s : ByteArray) (hs : s.size ≤ 12000) : cardcaseref06_Name.f (s.size + 2) s = some (nameOk s) := by
  unfold cardcaseref06_Name.f
  by_cases c1 : (s.size : Int) < 1
  · rw [if_pos c1, nameOk_false (by omega)]; rfl
  · rw [if_neg c1]
    by_cases c2 : (s.size : Int) > 64
    · rw [if_pos c2, nameOk_false (by omega)]; rfl
    · rw [if_neg c2, if_pos (by omega), letter_ours]
      show cardcaseref06_Name.j0 (s.size + 2) s (!letterB (bt s 0)) = _
      unfold cardcaseref06_Name.j0
      rw [nameOk_eq (by omega) (by omega)]
      cases hl : letterB (bt s 0) with
      | false => rfl
      | true =>
        have := name_loop s hs s.size 0 (by omega) (by omega)
        simpa using this
end Go.Proofs.Ytgnmkblaockghaa.PFilterBounds
namespace Go.Proofs.Ytgnmkblaockghaa
open Go.RowKit Go.Shelf Go.Proofs.YtgnmkblaockghaaW.PrintWords Go.Proofs.YtgnmkblaockghaaW.PrintMore Go.Proofs.YtgnmkblaockghaaW.PrintLast
theorem small_up (s : ByteArray) (hs : s.size ≤ 12000) {K : Nat} (hK : 12001 ≤ K) : PFilterBounds.cardcaseref06_Small.f K s = some (small s) :=
  up_le (f := fun K => PFilterBounds.cardcaseref06_Small.f K s) (fun K => PFilterBounds.cardcaseref06_Small.mono _ _) (show s.size + 1 ≤ K by omega) (PFilterBounds.small_ours s hs)
end Go.Proofs.Ytgnmkblaockghaa
