/- The filters that FilterBounds builds: plain. -/
import Derived.Test.YtgnmkblaockghaaQVb
set_option linter.unusedVariables false
set_option linter.unusedSimpArgs false
namespace Go.Proofs.Ytgnmkblaockghaa
open Go.RowKit Go.Shelf Go.Proofs.YtgnmkblaockghaaW.PrintWords Go.Proofs.YtgnmkblaockghaaW.PrintMore Go.Proofs.YtgnmkblaockghaaW.PrintLast

/-- Not, so many times. -/
def notN : Nat → Ft
  | 0 => hasA
  | n + 1 => ⟨3, [notN n], { data := #[] }, { data := #[] }⟩
/-- Or of so many. -/
def orN (n : Nat) : Ft := ⟨2, List.replicate n hasA, { data := #[] }, { data := #[] }⟩
theorem wF_has : wF hasA = 2 := by unfold hasA; rw [wF_of]; dsimp only; rw [wFs_nil]; rfl
theorem wF_not : ∀ n, wF (notN n) = n + 2 := by
  intro n
  induction n with
  | zero => rw [notN, wF_has]
  | succ n ih => rw [notN, wF_of]; dsimp only; rw [wFs_cons, wFs_nil, ih]; show 1 + 0 + 0 + (n + 2 + 0) = _; omega
theorem wFs_rep : ∀ n, wFs (List.replicate n hasA) = 2 * n := by
  intro n
  induction n with
  | zero => rw [List.replicate_zero, wFs_nil]
  | succ n ih => rw [List.replicate_succ, wFs_cons, ih, wF_has]; omega
theorem wF_or (n : Nat) : wF (orN n) = 2 * n + 1 := by unfold orN; rw [wF_of]; dsimp only; rw [wFs_rep]; show 1 + 0 + 0 + 2 * n = _; omega
theorem TP_mono {B B' : Nat} {x : Ft} (h : TP B x) (hB : B ≤ B') : TP B' x := by
  intro A c W hv
  refine (h A c W hv).mono ?_
  rintro e W' ⟨⟨t, h1, h2⟩, h3⟩
  exact ⟨⟨t, h1, Nat.le_trans h2 hB⟩, h3⟩
theorem TP_not : ∀ n, n ≤ 100 → TP (5 + 3 * n) (notN n) := by
  intro n
  induction n with
  | zero => intro _; exact rtext_leaf
  | succ n ih =>
    intro hn
    rw [notN]
    have h := rtext_node 3 (.inr rfl) [notN n] (5 + 3 * n) (by omega) (by simp) (fun y hy => by rw [List.mem_singleton] at hy; subst hy; exact ih (by omega))
    refine TP_mono h ?_
    simp; omega
theorem TP_or (n : Nat) (hn : n ≤ 1000) : TP (3 + n * 5) (orN n) := by
  unfold orN
  have h := rtext_node 2 (.inl rfl) (List.replicate n hasA) 5 (by omega) (by simpa using hn) (fun y hy => by rw [(List.mem_replicate.1 hy).2]; exact rtext_leaf)
  rw [List.length_replicate] at h
  exact h
theorem name_a : enameOk { data := #[97] } = true := by rw [ename_list]; decide +kernel
theorem alone_has : aloneOk hasA = true := by rw [alone_list, show enameOk hasA.f2 = true from name_a]; decide +kernel
theorem alone_not (x : Ft) : aloneOk ⟨3, [x], { data := #[] }, { data := #[] }⟩ = true := by
  rw [alone_list]
  dsimp only
  generalize enameOk { data := #[] } = q
  cases q <;> rfl
theorem alone_or (l : List Ft) : aloneOk ⟨2, l, { data := #[] }, { data := #[] }⟩ = true := by
  rw [alone_list]
  dsimp only
  rfl
theorem cnt_not : ∀ j n d, n + j + 1 ≤ 200 → cntT n d (notN j) = if d + j ≤ 16 then some (n + j + 1) else none := by
  intro j
  induction j with
  | zero =>
    intro n d hn
    rw [notN, cntT_of, if_pos (by omega), alone_has, if_pos rfl]
    show (if d ≤ 16 then cntL (n + 1) (d + 1) [] else none) = _
    rw [cntL]
    rfl
  | succ j ih =>
    intro n d hn
    rw [notN, cntT_of, if_pos (by omega), alone_not, if_pos rfl]
    dsimp only
    rw [cntL, ih (n + 1) (d + 1) (by omega)]
    by_cases h : d + (j + 1) ≤ 16
    · rw [if_pos (by omega), if_pos (by omega), if_pos h, Option.bind_some, cntL]
      congr 1; omega
    · rw [if_neg h]
      by_cases h2 : d ≤ 16
      · rw [if_pos h2, if_neg (by omega)]; rfl
      · rw [if_neg h2]
theorem cnt_reps : ∀ m n d, d ≤ 16 → n ≤ 200 → cntL n d (List.replicate m hasA) = if n + m ≤ 200 then some (n + m) else none := by
  intro m
  induction m with
  | zero => intro n d hd hn; rw [List.replicate_zero, cntL, if_pos (by omega)]; rfl
  | succ m ih =>
    intro n d hd hn
    rw [List.replicate_succ, cntL]
    have h0 := cnt_not 0 n d
    rw [show notN 0 = hasA from rfl] at h0
    by_cases h : n + 1 ≤ 200
    · rw [h0 h, if_pos (by omega), Option.bind_some, ih (n + 0 + 1) d hd (by omega)]
      by_cases h2 : n + (m + 1) ≤ 200
      · rw [if_pos (by omega), if_pos h2]; congr 1; omega
      · rw [if_neg (by omega), if_neg h2]
    · rw [cntT_of, if_neg h, if_neg (by omega)]; rfl
theorem right_not (j : Nat) (hj : j ≤ 100) : rightF (notN j) = decide (j + 1 ≤ 16) := by
  unfold rightF
  rw [cnt_not j 0 1 (by omega)]
  by_cases h : j + 1 ≤ 16
  · rw [if_pos (by omega), decide_eq_true h]; rfl
  · rw [if_neg (by omega), decide_eq_false h]; rfl
theorem right_or (m : Nat) : rightF (orN m) = decide (m ≤ 199) := by
  unfold rightF orN
  rw [cntT_of, if_pos (by omega), if_pos (by omega), alone_or, if_pos rfl]
  dsimp only
  rw [cnt_reps m (0 + 1) (1 + 1) (by omega) (by omega)]
  by_cases h : m ≤ 199
  · rw [if_pos (by omega), decide_eq_true h]; rfl
  · rw [if_neg (by omega), decide_eq_false h]; rfl
end Go.Proofs.Ytgnmkblaockghaa
