/- FilterParses (plain): what the reference parses, and that it is what filter.Parse parses. -/
import Derived.Test.YtgnmkblaockghaaQJg
import Derived.Test.YtgnmkblaockghaaQJh
import Derived.Test.YtgnmkblaockghaaQPFilterBoundsx4
set_option linter.unusedVariables false
set_option linter.unusedSimpArgs false
namespace Go.Proofs.Ytgnmkblaockghaa
open Go.RowKit Go.Shelf Go.Proofs.YtgnmkblaockghaaW.PrintWords Go.Proofs.YtgnmkblaockghaaW.PrintMore Go.Proofs.YtgnmkblaockghaaW.PrintLast

/-- Filters one behind the other, while there are any, no more than 201; j: no more than so many rounds. -/
def loopO (g : Nat → Option (Ft × Nat)) (s : ByteArray) : Nat → Nat → List Ft → Option (List Ft × Nat)
  | 0, _, _ => none
  | j + 1, k, acc => if k < s.size ∧ bt s (k : Int) = 40 then (g k).bind fun r => if 200 < acc.length then none else loopO g s j r.2 (acc ++ [r.1]) else some (acc, k)
/-- Behind what there is of a filter: the end of it. -/
def endO (s : ByteArray) (r : Ft × Nat) : Option (Ft × Nat) := if r.2 < s.size ∧ bt s (r.2 : Int) = 41 ∧ aloneOk r.1 = true then some (r.1, r.2 + 1) else none
/-- The filter that begins at a place, with so many levels left. -/
def oneF : Nat → ByteArray → Nat → Option (Ft × Nat)
  | 0, _, _ => none
  | m + 1, s, k =>
    if k + 1 < s.size ∧ bt s (k : Int) = 40 then
      if 0 ≤ opN (bt s ((k + 1 : Nat) : Int)) then
        (loopO (oneF m s) s (s.size + 1) (k + 2) []).bind fun r => endO s (⟨1 + opN (bt s ((k + 1 : Nat) : Int)), r.1, ⟨#[]⟩, ⟨#[]⟩⟩, r.2)
      else (plainF s (k + 1)).bind fun r => endO s r
    else none
theorem cntT_split {n d : Nat} {x : Ft} {m : Nat} (h : cntT n d x = some m) : n + 1 ≤ 200 ∧ d ≤ 16 ∧ aloneOk x = true ∧ cntL (n + 1) (d + 1) x.f1 = some m := by
  rw [cntT_of] at h
  by_cases h1 : n + 1 ≤ 200
  · rw [if_pos h1] at h
    by_cases h2 : d ≤ 16
    · rw [if_pos h2] at h
      by_cases h3 : aloneOk x = true
      · rw [if_pos h3] at h; exact ⟨h1, h2, h3, h⟩
      · rw [if_neg h3] at h; cases h
    · rw [if_neg h2] at h; cases h
  · rw [if_neg h1] at h; cases h
theorem cnt_grows (x : Ft) : ∀ n d m, cntT n d x = some m → n + 1 ≤ m := by
  refine filtInd (P := fun x => ∀ n d m, cntT n d x = some m → n + 1 ≤ m) (fun k l s v ih => ?_) x
  have hL : ∀ (l : List Ft), (∀ x ∈ l, ∀ n d m, cntT n d x = some m → n + 1 ≤ m) → ∀ n d m, cntL n d l = some m → n ≤ m := by
    intro l
    induction l with
    | nil => intro _ n d m h; rw [cntL] at h; injection h with h; omega
    | cons y ys ihy =>
      intro hy n d m h
      rw [cntL] at h
      obtain ⟨q, h1, h2⟩ := Option.bind_eq_some_iff.1 h
      have h3 := ihy (fun z hz => hy z (List.mem_cons_of_mem _ hz)) q d m h2
      have h4 := hy y List.mem_cons_self n d q h1
      omega
  intro n d m h
  exact hL l ih _ _ _ (cntT_split h).2.2.2
theorem cntL_le : ∀ (l : List Ft) (n d m : Nat), n ≤ 200 → cntL n d l = some m → m ≤ 200 ∧ n + l.length ≤ m := by
  intro l
  induction l with
  | nil => intro n d m hn h; rw [cntL] at h; injection h with h; subst h; exact ⟨hn, Nat.le_refl _⟩
  | cons x xs ih =>
    intro n d m hn h
    rw [cntL] at h
    obtain ⟨q, h1, h2⟩ := Option.bind_eq_some_iff.1 h
    have h3 := cnt_le x n d q h1
    have h4 := ih q d m h3 h2
    have h5 := cnt_grows x n d q h1
    exact ⟨h4.1, by simp; omega⟩
theorem cntL_snoc (d : Nat) (x : Ft) : ∀ (l : List Ft) (n : Nat), cntL n d (l ++ [x]) = (cntL n d l).bind fun m => cntT m d x := by
  intro l
  induction l with
  | nil =>
    intro n
    rw [List.nil_append, cntL, cntL, Option.bind_some]
    cases cntT n d x with
    | none => rfl
    | some m => rw [Option.bind_some, cntL]
  | cons y ys ih =>
    intro n
    rw [List.cons_append, cntL, cntL]
    cases cntT n d y with
    | none => rfl
    | some m => rw [Option.bind_some, Option.bind_some, ih]
theorem loopO_none {g : Nat → Option (Ft × Nat)} {s : ByteArray} {n d : Nat} : ∀ j k acc r, cntL n d acc = none → loopO g s j k acc = some r → cntL n d r.1 = none := by
  intro j
  induction j with
  | zero => intro k acc r _ h; rw [loopO] at h; cases h
  | succ j ih =>
    intro k acc r hn h
    rw [loopO] at h
    split at h
    · obtain ⟨q, h1, h2⟩ := Option.bind_eq_some_iff.1 h
      split at h2
      · cases h2
      · exact ih _ _ _ (by rw [cntL_snoc, hn]; rfl) h2
    · injection h with h; subst h; exact hn
/-- The loop of the one and of the other. -/
theorem loops_same {g' : Nat → Nat → Option (Ft × Nat × Nat)} {g : Nat → Option (Ft × Nat)} {s : ByteArray} {d n0 : Nat} (hn0 : 1 ≤ n0 ∧ n0 ≤ 200) (hg : ∀ k n, g' k n = (g k).bind fun r => (cntT n d r.1).map fun m => (r.1, r.2, m)) (F : List Ft → Ft) :
    ∀ j k n acc, cntL n0 d acc = some n → (loopF g' s j k n acc).bind (fun r => endF s (F r.1, r.2.1, r.2.2)) = (loopO g s j k acc).bind fun r => (endO s (F r.1, r.2)).bind fun q => (cntL n0 d r.1).map fun m => (q.1, q.2, m) := by
  intro j
  induction j with
  | zero => intro k n acc _; rw [loopF, loopO]; rfl
  | succ j ih =>
    intro k n acc hacc
    have hle := cntL_le acc n0 d n hn0.2 hacc
    rw [loopF, loopO]
    by_cases hk : k < s.size
    · rw [if_pos hk]
      by_cases hb : bt s (k : Int) = 40
      · rw [if_pos hb, if_pos ⟨hk, hb⟩, hg]
        cases hgk : g k with
        | none => rfl
        | some r =>
          rw [Option.bind_some, Option.bind_some, if_neg (by omega)]
          cases hc : cntT n d r.1 with
          | none =>
            show none = _
            have hbad : cntL n0 d (acc ++ [r.1]) = none := by rw [cntL_snoc, hacc]; exact hc
            cases hl : loopO g s j r.2 (acc ++ [r.1]) with
            | none => rfl
            | some q =>
              have h2 := loopO_none _ _ _ _ hbad hl
              rw [Option.bind_some, h2]
              cases endO s (F q.1, q.2) <;> rfl
          | some m =>
            show (loopF g' s j r.2 m (acc ++ [r.1])).bind _ = _
            exact ih r.2 m (acc ++ [r.1]) (by rw [cntL_snoc, hacc]; exact hc)
      · rw [if_neg hb, if_neg (fun h => hb h.2), Option.bind_some, Option.bind_some, hacc]
        unfold endF endO
        dsimp only
        by_cases he : k < s.size ∧ bt s (k : Int) = 41 ∧ aloneOk (F acc) = true
        · rw [if_pos he, if_pos he]; rfl
        · rw [if_neg he, if_neg he]; rfl
    · rw [if_neg hk, if_neg (fun h => hk h.1)]
      show none = _
      rw [Option.bind_some]
      unfold endO
      rw [if_neg (fun h => hk h.1)]
      rfl
theorem filt_one (s : ByteArray) : ∀ m d, d + m = 17 → 1 ≤ d → ∀ k n, filtF m s k n = (oneF m s k).bind fun r => (cntT n d r.1).map fun m' => (r.1, r.2, m') := by
  intro m
  induction m with
  | zero => intro d _ _ k n; rw [filtF, oneF]; rfl
  | succ m ih =>
    intro d hd h1 k n
    rw [filtF, oneF]
    by_cases hn : n + 1 ≤ 200
    · rw [if_pos hn]
      by_cases hk : k < s.size ∧ bt s (k : Int) = 40
      · rw [if_pos hk]
        by_cases hk1 : k + 1 < s.size
        · rw [if_pos hk1, if_pos (show k + 1 < s.size ∧ bt s (k : Int) = 40 from ⟨hk1, hk.2⟩)]
          by_cases ho : 0 ≤ opN (bt s ((k + 1 : Nat) : Int))
          · rw [if_pos ho, if_pos ho]
            rw [loops_same (d := d + 1) (n0 := n + 1) ⟨by omega, hn⟩ (ih (d + 1) (by omega) (by omega)) (fun l => ⟨1 + opN (bt s ((k + 1 : Nat) : Int)), l, ⟨#[]⟩, ⟨#[]⟩⟩) (s.size + 1) (k + 2) (n + 1) [] (by rw [cntL])]
            rw [Option.bind_assoc]
            congr 1
            funext r
            unfold endO
            dsimp only
            by_cases he : r.2 < s.size ∧ bt s (r.2 : Int) = 41 ∧ aloneOk ⟨1 + opN (bt s ((k + 1 : Nat) : Int)), r.1, ⟨#[]⟩, ⟨#[]⟩⟩ = true
            · rw [if_pos he, Option.bind_some, Option.bind_some, cntT_of, if_pos hn, if_pos (by omega), if_pos he.2.2]
            · rw [if_neg he]; rfl
          · rw [if_neg ho, if_neg ho, Option.bind_assoc]
            cases hp : plainF s (k + 1) with
            | none => rfl
            | some r =>
              rw [Option.bind_some, Option.bind_some]
              have hf1 : r.1.f1 = [] := by
                unfold plainF at hp
                split at hp
                · obtain ⟨v, _, hr⟩ := Option.map_eq_some_iff.1 hp
                  split at hr <;> (subst hr; rfl)
                · cases hp
              unfold endF endO
              dsimp only
              by_cases he : r.2 < s.size ∧ bt s (r.2 : Int) = 41 ∧ aloneOk r.1 = true
              · rw [if_pos he, if_pos he, Option.bind_some, cntT_of, if_pos hn, if_pos (by omega), if_pos he.2.2, hf1, cntL]; rfl
              · rw [if_neg he, if_neg he]; rfl
        · rw [if_neg hk1, if_neg (show ¬ (k + 1 < s.size ∧ bt s (k : Int) = 40) from fun h => hk1 h.1)]; rfl
      · rw [if_neg hk, if_neg (show ¬ (k + 1 < s.size ∧ bt s (k : Int) = 40) from fun h => hk ⟨by omega, h.2⟩)]; rfl
    · rw [if_neg hn]
      cases (if k + 1 < s.size ∧ bt s (k : Int) = 40 then _ else none : Option (Ft × Nat)) with
      | none => rfl
      | some r => rw [Option.bind_some, cntT_of, if_neg hn]; rfl
/-- What the reference parses. -/
def refF (s : ByteArray) : Option Ft := (oneF 16 s 0).bind fun r => if r.2 = s.size then (if rightF r.1 = true then some r.1 else none) else none
theorem parse_ref (s : ByteArray) : parseF s = refF s := by
  unfold parseF refF
  rw [filt_one s 16 1 rfl (Nat.le_refl _) 0 0]
  cases oneF 16 s 0 with
  | none => rfl
  | some r =>
    rw [Option.bind_some, Option.bind_some]
    unfold rightF
    cases cntT 0 1 r.1 with
    | none => simp
    | some m => simp
theorem valF_length (s : ByteArray) (k : Nat) (out : List Int) (r : List Int × Nat) (h : valF s k out = some r) : r.1.length + k ≤ r.2 + out.length := by
  induction hn : s.size - k using Nat.strongRecOn generalizing k out with
  | _ n ih =>
    by_cases hk : k < s.size
    · by_cases h1 : bt s (k : Int) = 41 ∨ bt s (k : Int) = 42
      · rw [valF_stop hk h1] at h
        injection h with h
        subst h
        simp; omega
      · by_cases h2 : bt s (k : Int) ≠ 40 ∧ 32 ≤ bt s (k : Int) ∧ bt s (k : Int) ≤ 126
        · by_cases h3 : bt s (k : Int) = 92
          · rw [valF_esc hk h1 h2 h3] at h
            split at h
            · have := ih (s.size - (k + 3)) (by omega) (k + 3) _ h rfl
              simp at this; omega
            · cases h
          · rw [valF_next hk h1 h2 h3] at h
            have := ih (s.size - (k + 1)) (by omega) (k + 1) _ h rfl
            simp at this; omega
        · rw [valF_bad hk h1 h2] at h; cases h
    · rw [valF_end hk] at h; cases h
theorem eqAt_ge (s : ByteArray) : ∀ (n k : Nat), s.size - k = n → k ≤ eqAt s k := by
  intro n
  induction n with
  | zero => intro k hk; rw [eqAt_stop (by omega)]; exact Nat.le_refl _
  | succ n ih =>
    intro k hk
    by_cases c : bt s (k : Int) ≠ 61
    · have := ih (k + 1) (by omega); rw [eqAt_step (by omega) c] at this; omega
    · rw [eqAt_stop (fun h => c h.2)]; exact Nat.le_refl _
theorem plain_weight {s : ByteArray} {p : Nat} {r : Ft × Nat} (h : plainF s p = some r) : p + wF r.1 ≤ r.2 := by
  unfold plainF at h
  split at h
  · rename_i he
    obtain ⟨v, hv, hr⟩ := Option.map_eq_some_iff.1 h
    have h1 := valF_length _ _ _ _ hv
    have h2 := eqAt_ge s _ p rfl
    have h3 : (small (s.extract p (eqAt s p))).size = eqAt s p - p := by rw [small_size, extract_size (by omega)]
    have h4 : (strOfNums v.1).size = v.1.length := strOfNums_size v.1
    simp only [List.length_nil] at h1
    split at hr
    · subst hr; rw [wF_of]; dsimp only; rw [wFs_nil, h3, h4]; omega
    · subst hr; rw [wF_of]; dsimp only; rw [wFs_nil, h3, h4]; omega
  · cases h
theorem wFs_snoc (l : List Ft) (x : Ft) : wFs (l ++ [x]) = wFs l + wF x := by
  induction l with
  | nil => rw [List.nil_append, wFs_cons, wFs_nil]; omega
  | cons y ys ih => rw [List.cons_append, wFs_cons, wFs_cons, ih]; omega
theorem loopO_weight {g : Nat → Option (Ft × Nat)} {s : ByteArray} (hg : ∀ k r, g k = some r → k + wF r.1 ≤ r.2) : ∀ j k acc r, loopO g s j k acc = some r → k + wFs r.1 ≤ r.2 + wFs acc := by
  intro j
  induction j with
  | zero => intro k acc r h; rw [loopO] at h; cases h
  | succ j ih =>
    intro k acc r h
    rw [loopO] at h
    split at h
    · obtain ⟨q, h1, h2⟩ := Option.bind_eq_some_iff.1 h
      split at h2
      · cases h2
      · have h3 := hg k q h1
        have h4 := ih _ _ _ h2
        rw [wFs_snoc] at h4
        omega
    · injection h with h; subst h; exact Nat.le_refl _
theorem endO_split {s : ByteArray} {q r : Ft × Nat} (h : endO s q = some r) : r.1 = q.1 ∧ r.2 = q.2 + 1 ∧ r.2 ≤ s.size ∧ aloneOk r.1 = true := by
  unfold endO at h
  split at h
  · rename_i he
    injection h with h; subst h; exact ⟨rfl, rfl, by dsimp only; omega, he.2.2⟩
  · cases h
/-- A filter is no heavier than its text. -/
theorem one_weight (s : ByteArray) : ∀ m k r, oneF m s k = some r → k + wF r.1 ≤ r.2 ∧ r.2 ≤ s.size := by
  intro m
  induction m with
  | zero => intro k r h; rw [oneF] at h; cases h
  | succ m ih =>
    intro k r h
    rw [oneF] at h
    split at h
    · split at h
      · obtain ⟨q, h1, h2⟩ := Option.bind_eq_some_iff.1 h
        have h3 := loopO_weight (fun k r hr => (ih k r hr).1) _ _ _ _ h1
        obtain ⟨e1, e2, e3, _⟩ := endO_split h2
        refine ⟨?_, e3⟩
        rw [e1, wF_of]
        dsimp only at e2 ⊢
        rw [wFs_nil] at h3
        show k + (1 + 0 + 0 + wFs q.1) ≤ r.2
        omega
      · obtain ⟨q, h1, h2⟩ := Option.bind_eq_some_iff.1 h
        have h3 := plain_weight h1
        obtain ⟨e1, e2, e3, _⟩ := endO_split h2
        refine ⟨?_, e3⟩
        rw [e1]
        omega
    · cases h
theorem ref_weight {s : ByteArray} {x : Ft} (h : refF s = some x) : wF x ≤ s.size := by
  unfold refF at h
  obtain ⟨q, h1, h2⟩ := Option.bind_eq_some_iff.1 h
  have h3 := one_weight s _ _ _ h1
  split at h2
  · split at h2
    · injection h2 with h2; subst h2; omega
    · cases h2
  · cases h2
end Go.Proofs.Ytgnmkblaockghaa

/- The reference's digit and value are the reader's (plain). -/
set_option linter.unusedVariables false
set_option linter.unusedSimpArgs false
namespace Go.Proofs.Ytgnmkblaockghaa
open Go.RowKit Go.Shelf Go.Proofs.YtgnmkblaockghaaW.PrintWords Go.Proofs.YtgnmkblaockghaaW.PrintMore Go.Proofs.YtgnmkblaockghaaW.PrintLast PFilterBounds

theorem digit_ours (x : Int) (x0 : 0 ≤ x) (x1 : x < 256) (K : Nat) : cardcaseref08_digit.f (K + 2) x = some (hexN x) := by
  have hw : wrap64 x = x := wrap_in _ (by omega)
  have h1 : wrap64 (x - 48) = x - 48 := wrap_in _ (by omega)
  have h2 : wrap64 (x - 87) = x - 87 := wrap_in _ (by omega)
  have h3 : wrap64 (x - 55) = x - 55 := wrap_in _ (by omega)
  unfold cardcaseref08_digit.f hexN
  rw [cardcaseref08_digit.j0, cardcaseref08_digit.j0, cardcaseref08_digit.j1, cardcaseref08_digit.j1, hw, h1, h2, h3]
  by_cases a : 48 ≤ x <;> by_cases b : x ≤ 57 <;> by_cases c : 97 ≤ x <;> by_cases d : x ≤ 102 <;> by_cases e : 65 ≤ x <;> by_cases f : x ≤ 70 <;> simp [a, b, c, d, e, f, h1, h2, h3] <;> omega
/-- What the reference's value answers. -/
def valV : Option (List Int × Nat) → ByteArray × Int
  | some r => (strOfNums r.1, (r.2 : Int))
  | none => (⟨#[]⟩, -1)
theorem value_loop (s : ByteArray) (hs : s.size ≤ 12000) : ∀ n k out K, s.size - k ≤ n → k ≤ s.size → out.length ≤ k → cardcaseref08_value.l0 (4 * n + 10 + K) s (k : Int) out = some (valV (valF s k out)) := by
  intro n
  induction n using Nat.strongRecOn with
  | _ n ih =>
    intro k out K hn hk ho
    have e10 : 4 * n + 10 + K = (4 * n + 9 + K) + 1 := by omega
    have e9 : 4 * n + 9 + K = (4 * n + 8 + K) + 1 := by omega
    have e8 : 4 * n + 8 + K = (4 * n + 7 + K) + 1 := by omega
    have e7 : 4 * n + 7 + K = (4 * n + 6 + K) + 1 := by omega
    by_cases c : k < s.size
    · obtain ⟨b0, b1⟩ := bt_range s (k : Int)
      have k0 : (0 : Int) ≤ (k : Int) := by omega
      have kc : (k : Int) < (s.size : Int) := by omega
      rw [e10, cardcaseref08_value.l0, if_pos kc, if_pos k0]
      have hstop : ∀ x : Int, cardcaseref08_value.j1 (4 * n + 9 + K) s (k : Int) out false = some (strOfNums out, (k : Int)) := fun x => by
        rw [e9, cardcaseref08_value.j1, if_neg (by simp), if_neg (by omega)]
      have hbad : ∀ x : Int, cardcaseref08_value.j2 (4 * n + 8 + K) s (k : Int) out x true = some ((⟨#[]⟩ : ByteArray), (-1)) := fun x => by
        rw [e8, cardcaseref08_value.j2, if_pos rfl]
      have hbad3 : cardcaseref08_value.j3 (4 * n + 7 + K) s (k : Int) out true = some ((⟨#[]⟩ : ByteArray), (-1)) := by
        rw [e7, cardcaseref08_value.j3, if_pos rfl]
      by_cases c41 : bt s (k : Int) = 41
      · rw [if_pos c41, hstop 0, valF_stop c (.inl c41)]; rfl
      rw [if_neg c41]
      by_cases c42 : bt s (k : Int) = 42
      · rw [show (bt s (k : Int) != 42) = false by simp [c42], hstop 0, valF_stop c (.inr c42)]; rfl
      rw [show (bt s (k : Int) != 42) = true by simp [c42], e9, cardcaseref08_value.j1, if_pos rfl, if_pos k0, if_pos kc]
      have h1 : ¬ (bt s (k : Int) = 41 ∨ bt s (k : Int) = 42) := fun h => h.elim c41 c42
      by_cases c40 : bt s (k : Int) = 40
      · rw [if_pos c40, hbad, valF_bad c h1 (fun h => h.1 c40)]; rfl
      rw [if_neg c40]
      by_cases c32 : bt s (k : Int) < 32
      · rw [if_pos c32, hbad, valF_bad c h1 (fun h => by omega)]; rfl
      rw [if_neg c32]
      by_cases c126 : bt s (k : Int) > 126
      · rw [decide_eq_true c126, hbad, valF_bad c h1 (fun h => by omega)]; rfl
      rw [decide_eq_false c126, e8, cardcaseref08_value.j2, if_neg (by simp)]
      have h2 : bt s (k : Int) ≠ 40 ∧ 32 ≤ bt s (k : Int) ∧ bt s (k : Int) ≤ 126 := ⟨c40, by omega, by omega⟩
      have w1 : wrap64 ((k : Int) + 1) = ((k + 1 : Nat) : Int) := by rw [wrap_in _ (by omega)]; omega
      have w2 : wrap64 ((k : Int) + 2) = ((k + 2 : Nat) : Int) := by rw [wrap_in _ (by omega)]; omega
      have w3 : wrap64 (((k + 2 : Nat) : Int) + 1) = ((k + 3 : Nat) : Int) := by rw [wrap_in _ (by omega)]; omega
      by_cases c92 : bt s (k : Int) = 92
      · rw [if_pos c92, w1, w2, valF_esc c h1 h2 c92]
        by_cases d2 : k + 2 < s.size
        · rw [if_neg (by omega), if_pos (by omega), if_pos (by omega)]
          obtain ⟨p0, p1⟩ := bt_range s ((k + 1 : Nat) : Int)
          obtain ⟨q0, q1⟩ := bt_range s ((k + 2 : Nat) : Int)
          obtain ⟨g0, g1⟩ := hexN_range (bt s ((k + 1 : Nat) : Int))
          obtain ⟨r0, r1⟩ := hexN_range (bt s ((k + 2 : Nat) : Int))
          rw [show 4 * n + 7 + K = (4 * n + 5 + K) + 2 by omega, digit_ours _ p0 (by omega), show (4 * n + 5 + K) + 2 = 4 * n + 7 + K by omega]
          simp only [Option.bind_some]
          by_cases t1 : hexN (bt s ((k + 1 : Nat) : Int)) < 0
          · rw [if_pos t1, hbad3, if_neg (fun h => by omega)]; rfl
          rw [if_neg t1, if_pos (by omega), if_pos (by omega), show 4 * n + 7 + K = (4 * n + 5 + K) + 2 by omega, digit_ours _ q0 (by omega), show (4 * n + 5 + K) + 2 = 4 * n + 7 + K by omega]
          simp only [Option.bind_some]
          by_cases t2 : hexN (bt s ((k + 2 : Nat) : Int)) < 0
          · rw [decide_eq_true t2, hbad3, if_neg (fun h => by omega)]; rfl
          rw [decide_eq_false t2, e7, cardcaseref08_value.j3, if_neg (by simp), w1, w2, if_pos (by omega), if_pos (by omega)]
          rw [show 4 * n + 6 + K = (4 * n + 4 + K) + 2 by omega, digit_ours _ p0 (by omega)]
          simp only [Option.bind_some]
          rw [if_pos (by omega), if_pos (by omega), digit_ours _ q0 (by omega)]
          simp only [Option.bind_some]
          rw [if_pos (by omega), w3, if_pos ⟨d2, by omega, by omega⟩]
          rw [show wrap64 (16 * hexN (bt s ((k + 1 : Nat) : Int))) = 16 * hexN (bt s ((k + 1 : Nat) : Int)) from wrap_in _ (by omega)]
          rw [show wrap64 (16 * hexN (bt s ((k + 1 : Nat) : Int)) + hexN (bt s ((k + 2 : Nat) : Int))) = 16 * hexN (bt s ((k + 1 : Nat) : Int)) + hexN (bt s ((k + 2 : Nat) : Int)) from wrap_in _ (by omega)]
          rw [Int.emod_eq_of_lt (by omega) (by omega)]
          have h9 := ih (n - 1) (by omega) (k + 3) (out ++ [16 * hexN (bt s ((k + 1 : Nat) : Int)) + hexN (bt s ((k + 2 : Nat) : Int))]) K (by omega) (by omega) (by simp; omega)
          rw [show 4 * (n - 1) + 10 + K = 4 * n + 4 + K + 2 by omega] at h9
          exact h9
        · rw [if_pos (by omega), hbad3, if_neg (fun h => d2 h.1)]; rfl
      · rw [if_neg c92, if_pos (by omega), w1, valF_next c h1 h2 c92]
        have h9 := ih (n - 1) (by omega) (k + 1) (out ++ [bt s (k : Int)]) (K + 1) (by omega) (by omega) (by simp; omega)
        rw [show 4 * (n - 1) + 10 + (K + 1) = 4 * n + 7 + K by omega] at h9
        exact h9
    · rw [e10, cardcaseref08_value.l0, if_neg (by omega), e9, cardcaseref08_value.j1, if_neg (by simp), if_pos (by omega), valF_end c]
      rfl
theorem rvalue_ours (s : ByteArray) (hs : s.size ≤ 12000) (k : Nat) (hk : k ≤ s.size) (w : World) : Calls Try.prog 69 #[.string s, .int .i64 (k : Int)] w fun e w' => e = .returned (.tuple #[.string (valV (valF s k [])).1, .int .i64 (valV (valF s k [])).2]) ∧ Below w.heap.size w w' := by
  have h := value_loop s hs (s.size - k) k [] 0 (Nat.le_refl _) hk (Nat.zero_le _)
  exact cardcaseref08_value.calls _ s (k : Int) (valV (valF s k [])).1 (valV (valF s k [])).2 w h
end Go.Proofs.Ytgnmkblaockghaa
