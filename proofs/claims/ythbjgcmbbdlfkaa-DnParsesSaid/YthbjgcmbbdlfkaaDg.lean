/- The walk of DnParses. -/
import Derived.Test.YthbjgcmbbdlfkaaDf
set_option linter.unusedVariables false
set_option linter.unusedSimpArgs false
namespace Go.Proofs.Ythbjgcmbbdlfkaa
open Go.RowKit Go.Shelf Go.Proofs.YthbjgcmbbdlfkaaW.PrintWords Go.Proofs.YthbjgcmbbdlfkaaW.PrintMore Go.Proofs.YthbjgcmbbdlfkaaW.PrintLast

theorem conv_C {W : World} {A : Option Addr} {l : List Rdn} (h : kr.C W A l.length l) : Kd.C PDnParses.k40 W A (l.map PDnParses.conv).length (l.map PDnParses.conv) := by
  obtain ⟨h1, h2, h3⟩ := h
  refine ⟨rfl, by rw [List.length_map]; exact h2, fun hp => ?_⟩
  rw [List.length_map] at hp
  obtain ⟨ad, e, hc⟩ := h3 hp
  refine ⟨ad, e, fun j p hj => ?_⟩
  rw [List.getElem?_map] at hj
  cases hl : l[j]? with
  | none => rw [hl] at hj; cases hj
  | some x =>
    rw [hl] at hj
    obtain rfl := Option.some.inj hj
    exact hc j x hl
theorem parseF_length (s : ByteArray) (p : Nat) (d l : List Rdn) (h : parseF s p d = some l) (hd : d.length ≤ 16) : l.length ≤ 16 := by
  induction hn : s.size - p using Nat.strongRecOn generalizing p d with
  | _ n ih =>
    cases hp : partF s p with
    | none => rw [parseF_none hp] at h; cases h
    | some xq =>
      obtain ⟨x, q⟩ := xq
      by_cases h16 : d.length + 1 ≤ 16
      · by_cases hq : q < s.size
        · rw [parseF_more hp h16 hq] at h
          have := partF_gt hp
          exact ih (s.size - (q + 1)) (by omega) (q + 1) _ h (by simp; omega) rfl
        · rw [parseF_last hp h16 hq] at h
          obtain rfl := Option.some.inj h
          simp; omega
      · rw [parseF_many hp h16] at h; cases h
theorem parseAll_length {s : ByteArray} {l : List Rdn} (h : parseAll s = some l) : l.length ≤ 16 := by
  unfold parseAll at h
  split at h
  · obtain rfl := Option.some.inj h; simp
  · exact parseF_length s 0 [] l h (by simp)
namespace PDnParses
theorem same_loop (l : List S40) (hl : l.length ≤ 1000) : ∀ (m i : Nat), l.length - i = m → i ≤ l.length → cardcaseref06_Same.l0 (m + 1) l l (i : Int) = some true := by
  intro m
  induction m with
  | zero =>
    intro i hm hi
    unfold cardcaseref06_Same.l0
    rw [if_neg (by omega)]
  | succ m ih =>
    intro i hm hi
    unfold cardcaseref06_Same.l0
    rw [if_pos (by omega), if_pos (by omega), if_pos (by omega), if_neg (by simp), show wrap64 ((i : Int) + 1) = ((i + 1 : Nat) : Int) by unfold wrap64; omega]
    exact ih (i + 1) (by omega) (by omega)
theorem same_refl (l : List S40) (hl : l.length ≤ 1000) : cardcaseref06_Same.f (l.length + 1) l l = some true := by
  unfold cardcaseref06_Same.f
  rw [if_pos rfl]
  exact same_loop l hl l.length 0 (by omega) (by omega)
end PDnParses
theorem rparse_calls (s : ByteArray) (hs : s.size ≤ 4000) (w : World) : Calls Try.prog 18 #[.string s] w fun e w' => (∃ v, e = .returned (.tuple #[v, .bool (parseAll s).isSome]) ∧ ∀ l, parseAll s = some l → Kd.R PDnParses.k40 40 w' w.heap.size (fun _ => True) v (l.map PDnParses.conv)) ∧ Below w.heap.size w w' := by
  obtain ⟨r, hr, hf⟩ := PDnParses.parse_ours s hs
  obtain ⟨l, b⟩ := r
  refine (PDnParses.cardcaseref06_Parse.calls _ s l b w hr).mono ?_
  rintro e w' ⟨v, rfl, hR, hb⟩
  refine ⟨⟨v, ?_, ?_⟩, hb⟩
  · cases hp : parseAll s with
    | none => rw [hp] at hf; injection hf with h1 h2; subst h2; rfl
    | some l' => rw [hp] at hf; injection hf with h1 h2; subst h2; rfl
  · intro l' hl'
    rw [hl'] at hf
    injection hf with h1 h2
    subst h1
    exact hR
set_option maxHeartbeats 1000000 in
theorem dnParses_row (W : World) (a0 : ByteArray) (w0 : a0.size ≤ 140737488351232) : Calls Try.prog 4 #[.string a0] W fun e w' => e = .returned (.bool true) ∧ Below W.heap.size W w' := by
  by_cases hl : a0.size ≤ 2000
  · have i1 : ¬ (2000 : Int) < (a0.size : Int) := by omega
    have h1 := Aside0.mk (fun W => parse_calls a0 W (by omega))
    have h2 := Aside0.mk (fun W => rparse_calls a0 (by omega) W)
    go_enter Try.func4, Try.ntmps4
    go_wp2_with fail
    refine (h1.out _).mono ?_
    rintro e w1 ⟨he, hb1⟩
    replace hb1 := Aside0.mk hb1
    cases hp : parseAll a0 with
    | none =>
      rw [hp] at he
      obtain rfl := he
      replace h2 := Aside0.mk (h2.out w1)
      rw [hp] at h2
      replace hp := Aside0.mk hp
      go_wp2_with fail
      refine h2.out.mono ?_
      rintro e w2 ⟨⟨v, rfl, -⟩, hb2⟩
      replace hb2 := Aside0.mk (below_then hb1.out hb1.out.size hb2)
      clear h1 h2
      go_wp2_with fail
      refine (known_calls _).mono ?_
      rintro e w4 ⟨rfl, hb4⟩
      replace hb4 := Aside0.mk (below_then hb2.out hb2.out.size hb4)
      go_wp2_with fail
      go_ret
      exact ⟨rfl, hb4.out⟩
    | some l =>
      rw [hp] at he
      obtain ⟨v, rfl, hR⟩ := he
      have hll := parseAll_length hp
      obtain ⟨A, c, rfl, hc, hC⟩ := Kd.R_reads hR
      replace h2 := Aside0.mk (h2.out w1)
      rw [hp] at h2
      replace hp := Aside0.mk hp
      replace hC := Aside0.mk hC
      replace hc := Aside0.mk hc
      clear hR h1
      go_wp2_with fail
      refine h2.out.mono ?_
      rintro e w2 ⟨⟨v, rfl, hR2⟩, hb2⟩
      obtain ⟨A2, c2, rfl, hc2, hC2⟩ := Kd.R_reads (hR2 l rfl)
      have hCC := conv_C (Kd.C_below hC.out hb2)
      replace hb2 := Aside0.mk (below_then hb1.out hb1.out.size hb2)
      have hsame := Aside0.mk (PDnParses.cardcaseref06_Same.calls _ A c (l.map PDnParses.conv) A2 c2 (l.map PDnParses.conv) true w2 hCC (by rw [List.length_map]; exact hc.out) hC2 hc2 (PDnParses.same_refl _ (by rw [List.length_map]; omega)))
      rw [List.length_map] at hsame
      clear h2 hR2 hC2 hCC hc2 hC hc hp
      generalize hM : l.length = M at *
      replace hM := Aside0.mk hM
      rw [show (l.map PDnParses.conv).length = M from by rw [List.length_map]; exact hM.out]
      go_wp2_with fail
      refine hsame.out.mono ?_
      rintro e w3 ⟨rfl, nd, rfl⟩
      replace hb2 := Aside0.mk (hb2.out.trans (⟨rfl, rfl, rfl, Nat.le_refl _, fun _ _ => rfl⟩ : Below W.heap.size w2 (w2.drewN nd)))
      clear hsame
      go_wp2_with fail
      refine (known_calls _).mono ?_
      rintro e w4 ⟨rfl, hb4⟩
      replace hb4 := Aside0.mk (below_then hb2.out hb2.out.size hb4)
      go_wp2_with fail
      go_ret
      exact ⟨rfl, hb4.out⟩
  · have i1 : (2000 : Int) < (a0.size : Int) := by omega
    go_enter Try.func4, Try.ntmps4
    go_wp2_with fail
    refine (known_calls _).mono ?_
    rintro e w4 ⟨rfl, hb4⟩
    replace hb4 := Aside0.mk hb4
    go_wp2_with fail
    go_ret
    exact ⟨rfl, hb4.out⟩
end Go.Proofs.Ythbjgcmbbdlfkaa
