/- The reference's Parse is ours: plain. -/
import Derived.Test.YthbjgcmbbdlfkaaDe
set_option linter.unusedVariables false
set_option linter.unusedSimpArgs false
namespace Go.Proofs.Ythbjgcmbbdlfkaa.PDnParses
open Go.RowKit Go.Shelf Go.Proofs.Ythbjgcmbbdlfkaa Go.Proofs.YthbjgcmbbdlfkaaW.PrintWords Go.Proofs.YthbjgcmbbdlfkaaW.PrintMore Go.Proofs.YthbjgcmbbdlfkaaW.PrintLast

theorem up_le {α : Type} {f : Nat → Option α} (h : ∀ k, LeO (f k) (f (k + 1))) {k k' : Nat} (hk : k ≤ k') {r : α} (hr : f k = some r) : f k' = some r := by
  obtain ⟨d, rfl⟩ := Nat.exists_eq_add_of_le hk
  clear hk
  induction d with
  | zero => exact hr
  | succ d ih => exact h (k + d) r ih
theorem name_up (s : ByteArray) (hs : s.size ≤ 4000) {k : Nat} (hk : s.size + 2 ≤ k) : cardcaseref06_Name.f k s = some (nameOk s) := up_le (f := fun k => cardcaseref06_Name.f k s) (cardcaseref06_Name.mono s) hk (name_ours s hs)
theorem small_up (s : ByteArray) (hs : s.size ≤ 4000) {k : Nat} (hk : s.size + 1 ≤ k) : cardcaseref06_Small.f k s = some (small s) := up_le (f := fun k => cardcaseref06_Small.f k s) (cardcaseref06_Small.mono s) hk (small_ours s hs)
theorem pl1 (k : Nat) (s : ByteArray) (p : Int) (out : List Int) (b : Bool) (t e : ByteArray) : cardcaseref06_part.l1 (k + 1) s p out b t e = if p < (s.size : Int) then (if 0 ≤ p then (cardcaseref06_part.j4 k s p out b ((bt s p) != 44) t e) else (none)) else (cardcaseref06_part.j4 k s p out b false t e) := by
  conv => lhs; unfold cardcaseref06_part.l1
/-- What a round does with a byte. -/
def roundF (k : Nat) (s : ByteArray) (p : Int) (out : List Int) (t e : ByteArray) (bt124 : Int × Int × Bool) : Option (ByteArray × ByteArray × Int × Bool) :=
  (if bt124.2.1 = 0 then (some ((⟨#[]⟩ : ByteArray), (⟨#[]⟩ : ByteArray), 0, false)) else (if (out.length : Int) = 0 then (if bt124.2.2 = true then (if bt124.1 = 32 then (if out.length < 140737488355328 then (cardcaseref06_part.l1 k s (wrap64 (p + bt124.2.1)) (out ++ [bt124.1]) (!bt124.2.2) t e) else (none)) else (if out.length < 140737488355328 then (cardcaseref06_part.l1 k s (wrap64 (p + bt124.2.1)) (out ++ [bt124.1]) false t e) else (none))) else (if bt124.1 = 32 then (some ((⟨#[]⟩ : ByteArray), (⟨#[]⟩ : ByteArray), 0, false)) else (if bt124.1 = 35 then (some ((⟨#[]⟩ : ByteArray), (⟨#[]⟩ : ByteArray), 0, false)) else (if out.length < 140737488355328 then (cardcaseref06_part.l1 k s (wrap64 (p + bt124.2.1)) (out ++ [bt124.1]) false t e) else (none))))) else (if bt124.1 = 32 then (if out.length < 140737488355328 then (cardcaseref06_part.l1 k s (wrap64 (p + bt124.2.1)) (out ++ [bt124.1]) (!bt124.2.2) t e) else (none)) else (if out.length < 140737488355328 then (cardcaseref06_part.l1 k s (wrap64 (p + bt124.2.1)) (out ++ [bt124.1]) false t e) else (none)))))
theorem pj4 (k : Nat) (s : ByteArray) (p : Int) (out : List Int) (b c : Bool) (t e : ByteArray) : cardcaseref06_part.j4 (k + 1) s p out b c t e = if c = true then ((cardcaseref06_one.f k s p).bind (roundF k s p out t e)) else (if b = true then (some (t, strOfNums out, p, false)) else (if (out.length : Int) ≥ 1 then (some (t, strOfNums out, p, decide ((out.length : Int) ≤ 200))) else (some (t, strOfNums out, p, false)))) := by
  conv => lhs; unfold cardcaseref06_part.j4
  rfl
theorem toldF_le {s : ByteArray} {k q : Nat} {y : Int} (h : toldF s k = some (y, q)) : q ≤ s.size := by
  unfold toldF at h
  split at h
  · split at h
    · injection h with h; injection h with h1 h2; omega
    · split at h
      · injection h with h; injection h with h1 h2; omega
      · cases h
  · cases h
theorem valF_le (s : ByteArray) (k : Nat) (out : List Int) (b : Bool) {l : List Int} {q : Nat} (hk : k ≤ s.size) (h : valF s k out b = some (l, q)) : q ≤ s.size := by
  induction hn : s.size - k using Nat.strongRecOn generalizing k out b with
  | _ n ih =>
    by_cases c : k < s.size ∧ bt s (k : Int) ≠ 44
    · by_cases c2 : bt s (k : Int) = 92
      · cases ht : toldF s (k + 1) with
        | none => rw [valF_untold c.1 c.2 c2 ht] at h; cases h
        | some yq =>
          obtain ⟨y, q'⟩ := yq
          rw [valF_told c.1 c.2 c2 ht] at h
          have := toldF_gt ht
          exact ih (s.size - q') (by omega) q' _ _ (toldF_le ht) h rfl
      · by_cases c3 : signB (bt s (k : Int)) = false ∧ 32 ≤ bt s (k : Int) ∧ bt s (k : Int) ≤ 126 ∧ (out ≠ [] ∨ (bt s (k : Int) ≠ 32 ∧ bt s (k : Int) ≠ 35))
        · rw [valF_bare c.1 c.2 c2 ⟨rfl, c3⟩] at h
          exact ih (s.size - (k + 1)) (by omega) (k + 1) _ _ (by omega) h rfl
        · rw [valF_no c.1 c.2 c2 c3] at h; cases h
    · rw [valF_end c] at h
      split at h
      · injection h with h; injection h with h1 h2; omega
      · cases h
def Fits (v : Option (List Int × Nat)) (t : ByteArray) (r : ByteArray × ByteArray × Int × Bool) : Prop :=
  match v with
  | some (l, q) => r = (t, strOfNums l, (q : Int), true)
  | none => r.2.2.2 = false
theorem val_ours (s : ByteArray) (hs : s.size ≤ 4000) (t e : ByteArray) (c : Nat) : ∀ (m p : Nat) (out : List Int) (b : Bool), s.size - p ≤ m → p ≤ s.size → out.length ≤ p →
    ∃ r, cardcaseref06_part.l1 (2 * m + c + 6) s (p : Int) out b t e = some r ∧ Fits (valF s p out b) t r := by
  intro m
  induction m with
  | zero =>
    intro p out b hm hp ho
    have hps : p = s.size := by omega
    rw [show 2 * 0 + c + 6 = (c + 4) + 1 + 1 by omega, pl1, if_neg (by omega), pj4, if_neg (by simp), valF_end (fun h => by omega)]
    cases b with
    | true => exact ⟨_, rfl, rfl⟩
    | false =>
      rw [if_neg (by simp)]
      by_cases h1 : 1 ≤ out.length
      · rw [if_pos (by omega)]
        by_cases h2 : out.length ≤ 200
        · rw [if_pos ⟨rfl, h1, h2⟩, decide_eq_true (by omega)]; exact ⟨_, rfl, rfl⟩
        · rw [if_neg (fun h => h2 h.2.2), decide_eq_false (by omega)]; exact ⟨_, rfl, rfl⟩
      · rw [if_neg (by omega), if_neg (fun h => h1 h.2.1)]; exact ⟨_, rfl, rfl⟩
  | succ m ih =>
    intro p out b hm hp ho
    rw [show 2 * (m + 1) + c + 6 = (2 * m + c + 6) + 1 + 1 by omega, pl1]
    by_cases hlt : p < s.size
    · rw [if_pos (by omega), if_pos (by omega), pj4]
      by_cases h44 : bt s (p : Int) = 44
      · rw [h44, if_neg (by decide), valF_end (fun h => h.2 h44)]
        cases b with
        | true => exact ⟨_, rfl, rfl⟩
        | false =>
          rw [if_neg (by simp)]
          by_cases h1 : 1 ≤ out.length
          · rw [if_pos (by omega)]
            by_cases h2 : out.length ≤ 200
            · rw [if_pos ⟨rfl, h1, h2⟩, decide_eq_true (by omega)]; exact ⟨_, rfl, rfl⟩
            · rw [if_neg (fun h => h2 h.2.2), decide_eq_false (by omega)]; exact ⟨_, rfl, rfl⟩
          · rw [if_neg (by omega), if_neg (fun h => h1 h.2.1)]; exact ⟨_, rfl, rfl⟩
      · rw [if_pos (by simpa using h44), show 2 * m + c + 6 = (2 * m + c + 2) + 1 + 1 + 1 + 1 by omega, one_ours _ s p hs hlt]
        simp only [Option.bind_some]
        rw [show (2 * m + c + 2) + 1 + 1 + 1 + 1 = 2 * m + c + 6 by omega]
        have hol : out.length < 140737488355328 := by omega
        by_cases h92 : bt s (p : Int) = 92
        · unfold oneF
          rw [if_pos h92]
          cases ht : toldF s (p + 1) with
          | none =>
            rw [valF_untold hlt h44 h92 ht]
            exact ⟨_, rfl, rfl⟩
          | some yq =>
            obtain ⟨y, q⟩ := yq
            have hgt := toldF_gt ht
            have hqs : q ≤ s.size := toldF_le ht
            rw [valF_told hlt h44 h92 ht]
            have hw : wrap64 ((p : Int) + ((q : Int) - p)) = (q : Int) := by unfold wrap64; omega
            have hgo : roundF (2 * m + c + 6) s (p : Int) out t e (y, (q : Int) - p, true) = cardcaseref06_part.l1 (2 * m + c + 6) s (q : Int) (out ++ [y]) false t e := by
              unfold roundF
              simp only [hw, Bool.not_true, if_pos hol]
              rw [if_neg (by omega)]
              simp only [if_true, ite_self]
            rw [hgo]
            exact ih q (out ++ [y]) false (by omega) hqs (by simp; omega)
        · unfold oneF
          rw [if_neg h92]
          by_cases hg : signB (bt s (p : Int)) = false ∧ 32 ≤ bt s (p : Int) ∧ bt s (p : Int) ≤ 126
          · rw [if_pos hg]
            have hw : wrap64 ((p : Int) + 1) = ((p + 1 : Nat) : Int) := by unfold wrap64; omega
            by_cases hf : out ≠ [] ∨ (bt s (p : Int) ≠ 32 ∧ bt s (p : Int) ≠ 35)
            · rw [valF_bare hlt h44 h92 ⟨rfl, hg.1, hg.2.1, hg.2.2, hf⟩]
              have hgo : roundF (2 * m + c + 6) s (p : Int) out t e (bt s (p : Int), 1, false) = cardcaseref06_part.l1 (2 * m + c + 6) s ((p + 1 : Nat) : Int) (out ++ [bt s (p : Int)]) (bt s (p : Int) == 32) t e := by
                unfold roundF
                simp only [hw, Bool.not_false, if_pos hol]
                rw [if_neg (by omega)]
                by_cases h32 : bt s (p : Int) = 32
                · have hne : out ≠ [] := hf.elim id (fun h => absurd h32 h.1)
                  have hl : ¬ (out.length : Int) = 0 := by
                    have := List.length_pos_iff.2 hne; omega
                  rw [if_neg hl, if_pos h32, beq_iff_eq.2 h32]
                · rw [beq_eq_false_iff_ne.2 h32]
                  simp only [if_neg h32]
                  by_cases hl : (out.length : Int) = 0
                  · have he : out = [] := List.eq_nil_of_length_eq_zero (by omega)
                    have h35 : bt s (p : Int) ≠ 35 := hf.elim (fun h => absurd he h) (fun h => h.2)
                    rw [if_pos hl, if_neg (by simp), if_neg h35]
                  · rw [if_neg hl]
              rw [hgo]
              exact ih (p + 1) _ _ (by omega) (by omega) (by simp; omega)
            · rw [valF_no hlt h44 h92 (fun h => hf h.2.2.2)]
              have he : out = [] := Classical.byContradiction fun h => hf (.inl h)
              subst he
              refine ⟨((⟨#[]⟩ : ByteArray), (⟨#[]⟩ : ByteArray), 0, false), ?_, rfl⟩
              unfold roundF
              rw [if_neg (by simp), if_pos (show ((([] : List Int).length : Nat) : Int) = 0 from rfl), if_neg (by simp)]
              by_cases h32 : bt s (p : Int) = 32
              · rw [if_pos h32]
              · rw [if_neg h32, if_pos (Classical.byContradiction fun h => hf (.inr ⟨h32, h⟩))]
          · rw [if_neg hg, valF_no hlt h44 h92 (fun h => hg ⟨h.1, h.2.1, h.2.2.1⟩)]
            exact ⟨_, rfl, rfl⟩
    · rw [if_neg (by omega), pj4, if_neg (by simp), valF_end (fun h => hlt h.1)]
      cases b with
      | true => exact ⟨_, rfl, rfl⟩
      | false =>
        rw [if_neg (by simp)]
        by_cases h1 : 1 ≤ out.length
        · rw [if_pos (by omega)]
          by_cases h2 : out.length ≤ 200
          · rw [if_pos ⟨rfl, h1, h2⟩, decide_eq_true (by omega)]; exact ⟨_, rfl, rfl⟩
          · rw [if_neg (fun h => h2 h.2.2), decide_eq_false (by omega)]; exact ⟨_, rfl, rfl⟩
        · rw [if_neg (by omega), if_neg (fun h => h1 h.2.1)]; exact ⟨_, rfl, rfl⟩
theorem pl0 (k : Nat) (s : ByteArray) (p f : Int) : cardcaseref06_part.l0 (k + 1) s p f = if p < (s.size : Int) then (if 0 ≤ p then (if (bt s p) = 61 then (cardcaseref06_part.j1 k s p f) else (cardcaseref06_part.l0 k s (wrap64 (p + 1)) f)) else (none)) else (cardcaseref06_part.j1 k s p f) := by
  conv => lhs; unfold cardcaseref06_part.l0
theorem pj1 (k : Nat) (s : ByteArray) (p f : Int) : cardcaseref06_part.j1 (k + 1) s p f = if p ≥ (s.size : Int) then (cardcaseref06_part.j2 k s p f true) else (if 0 ≤ f then (if f ≤ p then (if p ≤ (s.size : Int) then ((cardcaseref06_Name.f k (s.extract (f : Int).toNat (p : Int).toNat)).bind fun t121 => (cardcaseref06_part.j2 k s p f (!t121))) else (none)) else (none)) else (none)) := by
  conv => lhs; unfold cardcaseref06_part.j1
theorem pj2 (k : Nat) (s : ByteArray) (p f : Int) (b : Bool) : cardcaseref06_part.j2 (k + 1) s p f b = if b = true then (some ((⟨#[]⟩ : ByteArray), (⟨#[]⟩ : ByteArray), 0, false)) else (if 0 ≤ f then (if f ≤ p then (if p ≤ (s.size : Int) then ((cardcaseref06_Small.f k (s.extract (f : Int).toNat (p : Int).toNat)).bind fun t122 => (cardcaseref06_part.l1 k s (wrap64 (p + 1)) ([] : List Int) false t122 (⟨#[]⟩ : ByteArray))) else (none)) else (none)) else (none)) := by
  conv => lhs; unfold cardcaseref06_part.j2
theorem eq_ours (s : ByteArray) (hs : s.size ≤ 4000) (f : Int) (C : Nat) : ∀ (m p : Nat), s.size - p ≤ m → p ≤ s.size → ∃ K, C ≤ K ∧ cardcaseref06_part.l0 (m + 1 + C) s (p : Int) f = cardcaseref06_part.j1 K s ((eqAt s p : Nat) : Int) f ∧ eqAt s p ≤ s.size := by
  intro m
  induction m with
  | zero =>
    intro p hm hp
    have hps : p = s.size := by omega
    refine ⟨C, Nat.le_refl _, ?_, ?_⟩
    · rw [show 0 + 1 + C = C + 1 by omega, pl0, if_neg (by omega), eqAt_stop (fun h => by omega)]
    · rw [eqAt_stop (fun h => by omega)]; exact hp
  | succ m ih =>
    intro p hm hp
    rw [show m + 1 + 1 + C = (m + 1 + C) + 1 by omega, pl0]
    by_cases hlt : p < s.size
    · rw [if_pos (by omega), if_pos (by omega)]
      by_cases h61 : bt s (p : Int) = 61
      · rw [if_pos h61, eqAt_stop (fun h => h.2 h61)]
        exact ⟨_, by omega, rfl, hp⟩
      · rw [if_neg h61, show wrap64 ((p : Int) + 1) = ((p + 1 : Nat) : Int) by unfold wrap64; omega, ← eqAt_step hlt h61]
        exact ih (p + 1) (by omega) (by omega)
    · rw [if_neg (by omega), eqAt_stop (fun h => hlt h.1)]
      exact ⟨_, by omega, rfl, hp⟩
def conv (r : Rdn) : S40 := ⟨r.t, r.v⟩
def PFits (v : Option (Rdn × Nat)) (r : ByteArray × ByteArray × Int × Bool) : Prop :=
  match v with
  | some (x, q) => r = (x.t, x.v, (q : Int), true)
  | none => r.2.2.2 = false
theorem part_ours (s : ByteArray) (hs : s.size ≤ 4000) (p c : Nat) (hp : p ≤ s.size) : ∃ r, cardcaseref06_part.f (3 * s.size + 20 + c) s (p : Int) = some r ∧ PFits (partF s p) r := by
  unfold cardcaseref06_part.f
  obtain ⟨K, hK, he, hle⟩ := eq_ours s hs (p : Int) (2 * s.size + 19 + c) s.size p (by omega) hp
  rw [show 3 * s.size + 20 + c = s.size + 1 + (2 * s.size + 19 + c) by omega, he]
  have hge := eqAt_ge s p
  obtain ⟨K', rfl⟩ : ∃ K', K = K' + 1 + 1 := ⟨K - 2, by omega⟩
  have hstop : cardcaseref06_part.j2 (K' + 1) s ((eqAt s p : Nat) : Int) (p : Int) true = some ((⟨#[]⟩ : ByteArray), (⟨#[]⟩ : ByteArray), 0, false) := by rw [pj2, if_pos rfl]
  rw [pj1]
  unfold partF typedF
  by_cases h1 : eqAt s p < s.size
  · have hx : s.extract ((p : Int)).toNat (((eqAt s p : Nat) : Int)).toNat = s.extract p (eqAt s p) := by simp
    have hxs : (s.extract p (eqAt s p)).size ≤ 4000 := by rw [extract_size hle]; omega
    have hxs2 : (s.extract p (eqAt s p)).size ≤ s.size := by rw [extract_size hle]; omega
    rw [if_neg (by omega), if_pos (by omega), if_pos (by omega), if_pos (by omega), hx, name_up _ hxs (by omega)]
    simp only [Option.bind_some]
    cases hn : nameOk (s.extract p (eqAt s p)) with
    | false =>
      rw [if_neg (fun h => by cases h.2)]
      exact ⟨_, hstop, rfl⟩
    | true =>
      rw [if_pos ⟨h1, rfl⟩, pj2, if_neg (by simp), if_pos (by omega), if_pos (by omega), if_pos (by omega), hx, small_up _ hxs (by omega), show wrap64 (((eqAt s p : Nat) : Int) + 1) = ((eqAt s p + 1 : Nat) : Int) by unfold wrap64; omega]
      simp only [Option.bind_some]
      obtain ⟨r, hr, hfit⟩ := val_ours s hs (small (s.extract p (eqAt s p))) (⟨#[]⟩ : ByteArray) (K' - 2 * s.size - 6) s.size (eqAt s p + 1) [] false (by omega) (by omega) (by simp)
      rw [show 2 * s.size + (K' - 2 * s.size - 6) + 6 = K' by omega] at hr
      refine ⟨r, hr, ?_⟩
      cases hv : valF s (eqAt s p + 1) [] false with
      | none => rw [hv] at hfit; exact hfit
      | some lq =>
        obtain ⟨l, q⟩ := lq
        rw [hv] at hfit
        exact hfit
  · rw [if_pos (by omega), if_neg (fun h => h1 h.1)]
    exact ⟨_, hstop, rfl⟩
theorem Pl0 (k : Nat) (s : ByteArray) (d : List S40) (p : Int) : cardcaseref06_Parse.l0 (k + 1) s d p = (cardcaseref06_part.f k s p).bind fun bt142 => (if bt142.2.2.2 = true then (cardcaseref06_Parse.j1 k s d bt142.2.2.1 (decide ((d.length : Int) ≥ 16)) bt142.1 bt142.2.1) else (cardcaseref06_Parse.j1 k s d bt142.2.2.1 true bt142.1 bt142.2.1)) := by
  conv => lhs; unfold cardcaseref06_Parse.l0
theorem Pj1 (k : Nat) (s : ByteArray) (d : List S40) (q : Int) (b : Bool) (t v : ByteArray) : cardcaseref06_Parse.j1 (k + 1) s d q b t v = if b = true then (some (([] : List (S40)), false)) else (if d.length < 4398046511104 then ((some (d ++ [(⟨t, v⟩ : S40)] : List (S40))).bind fun y147 => (if q ≥ (s.size : Int) then (some (y147, true)) else (cardcaseref06_Parse.l0 k s y147 (wrap64 (q + 1))))) else (none)) := by
  conv => lhs; unfold cardcaseref06_Parse.j1
def AFits (v : Option (List Rdn)) (r : List S40 × Bool) : Prop :=
  match v with
  | some l => r = (l.map conv, true)
  | none => r = ([], false)
theorem partF_le {s : ByteArray} {p q : Nat} {x : Rdn} (h : partF s p = some (x, q)) : q ≤ s.size := by
  unfold partF at h
  cases ht : typedF s p with
  | none => rw [ht] at h; cases h
  | some tq =>
    obtain ⟨t, q'⟩ := tq
    rw [ht] at h
    have h' : (valF s q' [] false).map (fun r => ((⟨t, strOfNums r.1⟩ : Rdn), r.2)) = some (x, q) := h
    cases hv : valF s q' [] false with
    | none => rw [hv] at h'; cases h'
    | some l =>
      obtain ⟨l, q2⟩ := l
      rw [hv] at h'
      injection h' with h'
      injection h' with h1 h2
      subst h2
      have hq' : q' ≤ s.size := by
        unfold typedF at ht
        split at ht
        · rename_i hc
          injection ht with ht; injection ht with h1 h2; omega
        · cases ht
      exact valF_le _ _ _ _ hq' hv
theorem parse_loop (s : ByteArray) (hs : s.size ≤ 4000) : ∀ (m p : Nat) (d : List Rdn), s.size - p ≤ m → p ≤ s.size → d.length ≤ 16 → ∃ r, cardcaseref06_Parse.l0 (2 * m + 2 + (3 * s.size + 20)) s (d.map conv) (p : Int) = some r ∧ AFits (parseF s p d) r := by
  intro m
  induction m with
  | zero =>
    intro p d hm hp hd
    obtain ⟨r, hr, hf⟩ := part_ours s hs p 1 hp
    have hpn : partF s p = none := by
      cases h : partF s p with
      | none => rfl
      | some xq => obtain ⟨x, q⟩ := xq; have := partF_gt h; have := partF_le h; omega
    rw [hpn] at hf
    have hf' : r.2.2.2 = false := hf
    rw [show 2 * 0 + 2 + (3 * s.size + 20) = (3 * s.size + 20 + 1) + 1 by omega, Pl0, hr, parseF_none hpn]
    simp only [Option.bind_some]
    rw [hf', if_neg (by simp), show 3 * s.size + 20 + 1 = (3 * s.size + 20) + 1 from rfl, Pj1, if_pos rfl]
    exact ⟨_, rfl, rfl⟩
  | succ m ih =>
    intro p d hm hp hd
    obtain ⟨r, hr, hf⟩ := part_ours s hs p (2 * m + 3) hp
    rw [show 2 * (m + 1) + 2 + (3 * s.size + 20) = (3 * s.size + 20 + (2 * m + 3)) + 1 by omega, Pl0, hr]
    simp only [Option.bind_some]
    rw [show 3 * s.size + 20 + (2 * m + 3) = (2 * m + 2 + (3 * s.size + 20)) + 1 by omega]
    cases hpf : partF s p with
    | none =>
      rw [hpf] at hf
      have hf' : r.2.2.2 = false := hf
      rw [hf', if_neg (by simp), Pj1, if_pos rfl, parseF_none hpf]
      exact ⟨_, rfl, rfl⟩
    | some xq =>
      obtain ⟨x, q⟩ := xq
      rw [hpf] at hf
      have hf' : r = (x.t, x.v, (q : Int), true) := hf
      subst hf'
      have hgt := partF_gt hpf
      have hle := partF_le hpf
      simp only [if_true, List.length_map]
      rw [Pj1]
      by_cases h16 : d.length + 1 ≤ 16
      · rw [decide_eq_false (by omega), if_neg (by simp), if_pos (by rw [List.length_map]; omega)]
        simp only [Option.bind_some]
        have hmap : d.map conv ++ [(⟨x.t, x.v⟩ : S40)] = (d ++ [x]).map conv := by rw [List.map_append]; rfl
        rw [hmap]
        by_cases hq : q < s.size
        · rw [if_neg (by omega), parseF_more hpf h16 hq, show wrap64 ((q : Int) + 1) = ((q + 1 : Nat) : Int) by unfold wrap64; omega]
          exact ih (q + 1) (d ++ [x]) (by omega) (by omega) (by simp; omega)
        · rw [if_pos (by omega), parseF_last hpf h16 hq]
          exact ⟨_, rfl, rfl⟩
      · rw [decide_eq_true (by omega), if_pos rfl, parseF_many hpf h16]
        exact ⟨_, rfl, rfl⟩
theorem parse_ours (s : ByteArray) (hs : s.size ≤ 4000) : ∃ r, cardcaseref06_Parse.f (2 * s.size + 2 + (3 * s.size + 20)) s = some r ∧ AFits (parseAll s) r := by
  unfold cardcaseref06_Parse.f parseAll
  by_cases h : s.size = 0
  · rw [if_pos h, if_pos (by rw [ByteArray.toList_eq]; exact List.eq_nil_of_length_eq_zero (by rw [data_length]; exact h))]
    exact ⟨_, rfl, rfl⟩
  · rw [if_neg h, if_neg (fun h' => h (by rw [← data_length, ← ByteArray.toList_eq, h']; rfl))]
    exact parse_loop s hs s.size 0 [] (by omega) (by omega) (by simp)
end Go.Proofs.Ythbjgcmbbdlfkaa.PDnParses
