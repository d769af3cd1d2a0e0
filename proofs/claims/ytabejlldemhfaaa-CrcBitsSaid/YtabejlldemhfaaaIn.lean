/- A region that draws its order and calls nothing does in a round of a loop what it does elsewhere. -/
import Derived.StillTail
import Derived.StillTailTactics
import Derived.OrdersIn
import Derived.WalkKit
set_option linter.unusedVariables false
set_option linter.unusedSimpArgs false
namespace Go.Proofs.Ytabejlldemhfaaa
open Go.RowKit

/-- Operations that enter no function. -/
def inert : Op → Bool
  | .move _ | .assign _ | .pick _ _ _ | .alloc _ | .box _ _ | .build _ _ | .buildSlice _ _ _ | .load _ _ | .store _ _ _ | .binOp _ _ _ _ _ | .unOp _ _ _ | .convert _ _ _
  | .makeSlice _ _ _ | .slice _ _ _ _ _ | .fieldAddr _ _ _ | .field _ _ _ | .indexAddr _ _ _ | .index _ _ _ => true
  | _ => false

theorem value_next {P : Program} {w w' : World} {nx : Next} (s : Sem Value) (h : (do pure (Next.value (← s)) : Sem Next).run P w = .ok nx w') : ∃ v, nx = .value v := by
  rw [Sem.run_bind] at h
  cases hs : s.run P w with
  | ok v w1 => rw [hs] at h; simp at h; exact ⟨v, h.1.symm⟩
  | halt x w1 => rw [hs] at h; simp [Result.andThen] at h
theorem skip_next {P : Program} {w w' : World} {nx : Next} (s : Sem Unit) (h : (do s; pure Next.skip : Sem Next).run P w = .ok nx w') : nx = .skip := by
  rw [Sem.run_bind] at h
  cases hs : s.run P w with
  | ok v w1 => rw [hs] at h; simp at h; exact h.1.symm
  | halt x w1 => rw [hs] at h; simp [Result.andThen] at h
theorem pure_next {P : Program} {w w' : World} {nx : Next} {v : Value} (h : (pure (Next.value v) : Sem Next).run P w = .ok nx w') : ∃ v, nx = .value v := by
  rw [Sem.run_pure] at h
  injection h with h1 _
  exact ⟨_, h1.symm⟩
theorem pick_next {P : Program} {w w' : World} {nx : Next} {c a b : Value} (h : (do pure (Next.value (if ← asBool c then a else b)) : Sem Next).run P w = .ok nx w') : ∃ v, nx = .value v := by
  rw [Sem.run_bind] at h
  cases hs : (asBool c).run P w with
  | ok v w1 => rw [hs] at h; exact pure_next (P := P) h
  | halt x w1 => rw [hs] at h; simp [Result.andThen] at h
theorem inert_next {P : Program} {w w' : World} {nx : Next} {ρ : Operand → Value} {o : Oper} (hi : inert o.op = true) (h : (execOp ρ o).run P w = .ok nx w') : (∃ v, nx = .value v) ∨ nx = .skip := by
  unfold execOp at h
  cases ho : o.op <;> rw [ho] at h hi <;> first
    | exact absurd hi Bool.false_ne_true
    | exact .inl (value_next _ h)
    | exact .inr (skip_next _ h)
    | exact .inl (pure_next h)
    | exact .inl (pick_next h)

section
variable {P : Program} {F : Fence} {n : Nat} {ops : Array Oper} {Q : Exit → Act → World → Prop} {md : Region.Mode}

theorem wpIn_of_inert {o : Oper} (hi : inert o.op = true) {a : Act} {w : World} {K : Act → World → Prop} (h : o.wp P a w K Q) : o.wpIn F n P a w K Q := by
  unfold Oper.wpIn
  unfold Oper.wp at h
  refine ⟨fun f hf => ?_, ?_⟩
  · unfold Oper.about at hf
    cases ho : o.op <;> rw [ho] at hf hi <;> first
      | exact absurd hi Bool.false_ne_true
      | cases hf
  · rw [Oper.semAt_eq _ _ _ (fun c hc => by rw [hc] at hi; exact absurd hi Bool.false_ne_true)]
    generalize hr : (execOp a.eval o).run P w = r at h
    cases r with
    | ok nx w' =>
      rcases inert_next hi hr with ⟨v, rfl⟩ | rfl
      · exact h
      · exact h
    | halt x w' => cases x <;> exact h
theorem about_inert {o : Oper} (hi : inert o.op = true) {ρ : Operand → Value} {w : World} : o.about P w ρ = none := by
  unfold Oper.about
  cases ho : o.op <;> rw [ho] at hi <;> first
    | exact absurd hi Bool.false_ne_true
    | rfl
theorem wpOpIn_of_inert {i : Nat} (hi : ops.all (fun o => inert o.op) = true) (hQ : ∀ a w, ¬ Q .outgrown a w) {K K' : Act → World → Prop} (hK : ∀ a w, K a w → K' a w) {a : Act} {w : World}
    (h : wpOp P ops Q i K a w) : wpOpIn F n P ops Q i K' a w := by
  unfold wpOp at h
  unfold wpOpIn
  cases ho : ops[i]? with
  | none => rw [ho] at h; exact hK _ _ h
  | some o =>
    rw [ho] at h
    have hin : inert o.op = true := by
      obtain ⟨hlt, he⟩ := Array.getElem?_eq_some_iff.1 ho
      have := (Array.all_eq_true.1 hi) i hlt
      rwa [he] at this
    dsimp only at h ⊢
    split at h
    · rename_i hw
      rw [if_pos hw]
      rcases h with h | ⟨_, a', w', h⟩
      · exact wpIn_of_inert hin (Oper.wp_mono hK h)
      · exact absurd h (hQ _ _)
    · rename_i hw
      rw [if_neg hw]
      exact ⟨fun f hf => (by rw [about_inert hin] at hf; cases hf), hK _ _ h⟩
theorem wpAnyIn_of_inert (hi : ops.all (fun o => inert o.op) = true) (hQ : ∀ a w, ¬ Q .outgrown a w) : ∀ (fuel : Nat) (listed : Array Bool) (a : Act) (w : World), wpAny P md ops Q fuel listed a w → wpAnyIn F n P md ops Q fuel listed a w
  | 0, _, _, _, h => h
  | fuel + 1, _, _, _, h => ⟨h.1, fun i hm => wpOpIn_of_inert hi hQ (fun a w hK => wpAnyIn_of_inert hi hQ fuel _ a w hK) (h.2 i hm)⟩

theorem wpIn_region_still_tail {id : Nat} {a : Act} {w : World} {l : List Oper} (m : Nat) (hm : P.follows .mixedOrders = true) (hi : l.toArray.all (fun o => inert o.op) = true) (hQ : ∀ a w, ¬ Q .outgrown a w) (hB : Region.lexTailB .any l.toArray m = true)
    (h : wpStill P l.toArray { w with drawn := w.drawn + 1 } (fun a' => wpList P l.toArray Q (l.drop m) a' { w with drawn := w.drawn + 1 }) (l.take m) a) : (Code.region id l.toArray true).wpIn F n P Q a w := by
  simp only [Region.lexTailB, Bool.and_eq_true, decide_eq_true_eq] at hB
  obtain ⟨⟨⟨⟨hsel, hn⟩, hs⟩, hc⟩, hlex⟩ := hB
  have hn' : m < l.length := by simpa using hn
  have htl : (l.take m).length = m := by simp; omega
  have hdl : (l.drop m).length = l.toArray.size - m := by simp
  have inv0 : HeadInv .any l.toArray m (Array.replicate l.toArray.size false) :=
    ⟨by simp, fun j oj _ hl => (by rw [getD_replicate_false] at hl; cases hl), fun t _ ht => getD_in (by simpa using ht) (getD_replicate_false _ _)⟩
  have H := wpAnyL_lex (md := .any) (g := l.toArray.size - m) hsel hs hc hn (l.take m) 0 _ a (fun j hj => by
    have hj' : j < m := by rw [htl] at hj; exact hj
    simp [hj']) (by simpa using htl) inv0 (by rw [htl]; exact hlex) h
  refine wpIn_region_any hm ?_
  have := wpAny_of_head (Q' := Q) (g := l.toArray.size - m) (fun listed a' hL => by
    have := wpAny_of_seq (md := .any) (Q' := Q) (l.drop m) m listed a' { w with drawn := w.drawn + 1 } (fun j => by simp [List.getElem?_drop]) (by rw [hdl]; exact hL.1) hL.2
    rwa [hdl] at this) _ _ _ H
  rw [htl, show m + (l.toArray.size - m) = l.toArray.size by omega] at this
  exact wpAnyIn_of_inert hi hQ _ _ _ _ this
end
end Go.Proofs.Ytabejlldemhfaaa
