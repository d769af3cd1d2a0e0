/- Values as bytes: plain. -/
import Derived.Test.YtlmelbnmfhpacaaPBerEncodesx0
set_option linter.unusedVariables false
set_option linter.unusedSimpArgs false
namespace Go.Proofs.Ytlmelbnmfhpacaa
open Go.Proofs.Ytlmelbnmfhpacaa.PBerEncodes (S26)

/-- A length's bytes. -/
def lenL (n : Nat) : List Int :=
  if n < 128 then [(n : Int)] else if n < 256 then [129, (n : Int)] else if n < 65536 then [130, (n / 256 : Int), (n % 256 : Int)] else [131, (n / 65536 : Int), (n / 256 % 256 : Int), (n % 256 : Int)]
theorem lenL_length (n : Nat) : 1 ≤ (lenL n).length ∧ (lenL n).length ≤ 4 := by
  unfold lenL
  split
  · simp
  · split
    · simp
    · split <;> simp
mutual
/-- A value's bytes. -/
def layT : S26 → List Int
  | ⟨c, m, k, b, l⟩ => (64 * c + m + (if k then 32 else 0)) :: (lenL (if k then layL l else b).length ++ (if k then layL l else b))
def layL : List S26 → List Int
  | [] => []
  | x :: xs => layT x ++ layL xs
end
mutual
/-- May all parts be? -/
def argT : S26 → Bool
  | ⟨c, m, k, b, l⟩ => (decide (c ≤ 3) && decide (m ≤ 30) && (!k || b.isEmpty) && (k || l.isEmpty)) && argL l
def argL : List S26 → Bool
  | [] => true
  | x :: xs => argT x && argL xs
end
mutual
/-- Is it no deeper than it may be, from a depth on? -/
def deepT : Nat → S26 → Bool
  | n, ⟨_, _, _, _, l⟩ => decide (n ≤ 16) && deepL (n + 1) l
def deepL : Nat → List S26 → Bool
  | _, [] => true
  | n, x :: xs => deepT n x && deepL n xs
end
mutual
/-- How many bytes. -/
def sizeT : S26 → Nat
  | ⟨_, _, _, b, l⟩ => 1 + (lenL (b.length + sizeL l)).length + (b.length + sizeL l)
def sizeL : List S26 → Nat
  | [] => 0
  | x :: xs => sizeT x + sizeL xs
end
mutual
/-- A value's weight. -/
def wT : S26 → Nat
  | ⟨_, _, _, b, l⟩ => 1 + b.length + wL l
def wL : List S26 → Nat
  | [] => 0
  | x :: xs => wT x + wL xs
end
mutual
/-- Are all its numbers bytes? -/
def byteT : S26 → Prop
  | ⟨c, m, _, b, l⟩ => (0 ≤ c ∧ c < 256) ∧ (0 ≤ m ∧ m < 256) ∧ (∀ x ∈ b, 0 ≤ x ∧ x < 256) ∧ byteL l
def byteL : List S26 → Prop
  | [] => True
  | x :: xs => byteT x ∧ byteL xs
end
/-- Induction over values. -/
theorem treeInd {P : S26 → Prop} (h : ∀ c m k b l, (∀ x ∈ l, P x) → P ⟨c, m, k, b, l⟩) : ∀ x, P x := by
  intro x
  induction hn : SizeOf.sizeOf x using Nat.strongRecOn generalizing x with
  | _ n ih =>
    obtain ⟨c, m, k, b, l⟩ := x
    refine h c m k b l (fun y hy => ih (SizeOf.sizeOf y) ?_ y rfl)
    have := List.sizeOf_lt_of_mem hy
    rw [← hn]
    simp
    omega
theorem argL_iff (l : List S26) : argL l = true ↔ ∀ x ∈ l, argT x = true := by
  induction l with
  | nil => simp [argL]
  | cons x xs ih => simp [argL, ih]
theorem deepL_iff (n : Nat) (l : List S26) : deepL n l = true ↔ ∀ x ∈ l, deepT n x = true := by
  induction l with
  | nil => simp [deepL]
  | cons x xs ih => simp [deepL, ih]
theorem byteL_iff (l : List S26) : byteL l ↔ ∀ x ∈ l, byteT x := by
  induction l with
  | nil => simp [byteL]
  | cons x xs ih => simp [byteL, ih]
theorem layL_flat (l : List S26) : layL l = l.flatMap layT := by
  induction l with
  | nil => rfl
  | cons x xs ih => simp [layL, ih]
theorem wT_mem {l : List S26} {x : S26} (h : x ∈ l) : wT x ≤ wL l := by
  induction l with
  | nil => cases h
  | cons y ys ih =>
    rcases List.mem_cons.1 h with rfl | h
    · simp [wL]
    · have := ih h; simp [wL]; omega
theorem wT_pos (x : S26) : 1 ≤ wT x := by cases x; simp [wT]; omega
theorem wL_length (l : List S26) : l.length ≤ wL l := by
  induction l with
  | nil => simp [wL]
  | cons y ys ih => have := wT_pos y; simp [wL]; omega
theorem sizeT_w (x : S26) : sizeT x ≤ 5 * wT x := by
  refine treeInd (P := fun x => sizeT x ≤ 5 * wT x) (fun c m k b l ih => ?_) x
  have hl : sizeL l ≤ 5 * wL l := by
    clear m c k
    induction l with
    | nil => simp [sizeL]
    | cons y ys ihy =>
      have h1 := ih y (by simp)
      have h2 := ihy (fun z hz => ih z (by simp [hz]))
      simp [sizeL, wL]; omega
  have := (lenL_length (b.length + sizeL l)).2
  simp only [sizeT, wT]
  omega
/-- Of one whose parts may be, the size is its bytes' number. -/
theorem sizeT_lay (x : S26) (h : argT x = true) : (layT x).length = sizeT x := by
  revert h
  refine treeInd (P := fun x => argT x = true → (layT x).length = sizeT x) (fun c m k b l ih => ?_) x
  intro h
  have h' : ((decide (c ≤ 3) && decide (m ≤ 30) && (!k || b.isEmpty) && (k || l.isEmpty)) && argL l) = true := h
  simp only [Bool.and_eq_true] at h'
  obtain ⟨⟨⟨_, hb⟩, hi⟩, ha⟩ := h'
  have hl : (layL l).length = sizeL l := by
    have ha' := (argL_iff l).1 ha
    clear ha h hi
    induction l with
    | nil => rfl
    | cons y ys ihy =>
      have h1 := ih y (by simp) (ha' y (by simp))
      have h2 := ihy (fun z hz => ih z (by simp [hz])) (fun z hz => ha' z (by simp [hz]))
      simp [sizeL, layL, h1, h2]
  have hbody : (if k then layL l else b).length = b.length + sizeL l := by
    cases k with
    | true =>
      simp at hb
      subst hb
      simp [hl]
    | false =>
      simp at hi
      subst hi
      simp [sizeL]
  simp only [layT, sizeT, List.length_cons, List.length_append]
  rw [hbody]
  omega
end Go.Proofs.Ytlmelbnmfhpacaa
