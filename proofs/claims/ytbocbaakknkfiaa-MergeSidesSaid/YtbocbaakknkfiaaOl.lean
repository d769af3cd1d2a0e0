/- Whatever contact came in: what the heap holds of it. -/
import Derived.Test.YtbocbaakknkfiaaOj
import Derived.Deep.Slices
import Derived.OpenShut
import Derived.ChangeOld
set_option linter.unusedVariables false
set_option linter.unusedSimpArgs false
namespace Go.Proofs.Ytbocbaakknkfiaa
open Go.RowKit Go.Deep Go.ChangeShapes Go.WideShapes Go.Proofs.YtbocbaakknkfiaaW.PrintWords Go.Proofs.YtbocbaakknkfiaaW.PrintMore

section
variable {H : Type} (enc : TypeId × Value → H) (P : Program) (w : World)

/-- Whatever reads as data of type t is of kind d, and good. -/
def Opens {α : Type} (t : TypeId) (d : Kd α) (G : α → Prop) : Prop :=
  ∀ (fuel : Nat) (cs : List Value) (x : DataW H × List MemPlace), DataW.trod enc P w 0 (fun _ => true) true fuel t cs = some x → ∃ y, d.K w y cs ∧ G y
variable {enc P w}
theorem opens_string {t : TypeId} (hu : P.underlying t = some .string) : Opens enc P w t Kd.string (fun s => s.size ≤ maxLen) := by
  intro fuel cs x h
  obtain ⟨s, rfl, _, hs⟩ := DataW.trod_string hu h
  exact ⟨s, rfl, hs⟩
theorem addr_add_add (a : Addr) (i j : Nat) : (a.add i).add j = a.add (i + j) := by
  unfold Addr.add
  by_cases hj : j = 0 <;> by_cases hi : i = 0 <;> simp_all [Nat.add_assoc]
theorem cells_at {base n : Nat} {a : Addr} {cs : List Value} (h : w.cells? base a n = some cs) (i : Nat) (u : Value) (hu : cs[i]? = some u) : w.cell? (a.add i) = some u := by
  obtain ⟨_, hl, hc⟩ := World.cells?_some h
  have hi := (List.getElem?_eq_some_iff.1 hu).1
  rw [hc i (by omega), hu]

theorem opens_row {α : Type} {t e : TypeId} {d : Kd α} {G : α → Prop} (hu : P.underlying t = some (.slice e)) (hsz : P.cellsOf e = d.sz) (hd : Opens enc P w e d G) (fuel : Nat) (cs : List Value) (x : DataW H × List MemPlace)
    (h : DataW.trod enc P w 0 (fun _ => true) true fuel t cs = some x) :
    ∃ (A : Option Addr) (c : Nat) (l : List α), cs = [.slice A l.length c] ∧ l.length ≤ c ∧ c ≤ maxLen ∧ d.C w A l.length l ∧ ∀ y ∈ l, G y := by
  classical
  rcases open_slice hu h with ⟨rfl, _⟩ | ⟨a, len, cap, m, n, D, Pl, rfl, _, hl, hm, hmm, hxx, hx⟩
  · exact ⟨none, 0, [], rfl, Nat.le_refl _, Nat.zero_le _, Kd.C_nil d w, fun _ hy => by cases hy⟩
  · have hlm : len ≤ m := by rw [hmm]; split <;> omega
    have each : ∀ i : Nat, i < len → ∃ y : α, G y ∧ ∃ c, w.cells? 0 (a.add (i * d.sz)) d.sz = some c ∧ d.K w y c := by
      intro i hi
      obtain ⟨c, h1, h2⟩ := hx i (by omega)
      obtain ⟨y, hk, hg⟩ := hd n c _ h2
      rw [hsz] at h1
      exact ⟨y, hg, c, h1, hk⟩
    obtain ⟨l, hll, hlp⟩ : ∃ l : List α, l.length = len ∧ ∀ i (hi : i < l.length), G l[i] ∧ ∃ c, w.cells? 0 (a.add (i * d.sz)) d.sz = some c ∧ d.K w l[i] c := by
      clear hmm hx hl hlm hxx h
      induction len with
      | zero => exact ⟨[], rfl, fun i hi => absurd hi (Nat.not_lt_zero _)⟩
      | succ len ih =>
        obtain ⟨l, h1, h2⟩ := ih (fun i hi => each i (by omega))
        obtain ⟨y, hy⟩ := each len (by omega)
        refine ⟨l ++ [y], by simp [h1], fun i hi => ?_⟩
        by_cases hlt : i < l.length
        · rw [List.getElem_append_left hlt]; exact h2 i hlt
        · have : i = l.length := by simp at hi; omega
          subst this
          rw [List.getElem_append_right (Nat.le_refl _)]
          simp only [Nat.sub_self, List.getElem_cons_zero]
          rw [h1]; exact hy
    refine ⟨some a, cap, l, by rw [hll], by omega, hm, ⟨rfl, by unfold maxLen at hm; omega, fun _ => ⟨a, rfl, fun j p hp => ?_⟩⟩, fun y hy => ?_⟩
    · obtain ⟨hj, rfl⟩ := List.getElem?_eq_some_iff.1 hp
      obtain ⟨_, c, h1, hk⟩ := hlp j hj
      refine ⟨c, d.K_len hk, hk, fun i u hu => ?_⟩
      have := cells_at h1 i u hu
      rwa [addr_add_add] at this
    · obtain ⟨i, hi, rfl⟩ := List.mem_iff_getElem.1 hy
      exact (hlp i hi).1
end
theorem cells_24 : Try.prog.cellsOf 24 = 8 := by kernel_rfl
theorem cells_22 : Try.prog.cellsOf 22 = 1 := by kernel_rfl
theorem cells_9 : Try.prog.cellsOf 9 = st.sz := by kernel_rfl
theorem take_one {cs : List Value} {i : Nat} {v : Value} (h : (cs.drop (i * 1)).take 1 = [v]) : cs[i]? = some v := by
  rw [Nat.mul_one] at h
  have h1 : ((cs.drop i).take 1)[0]? = some v := by rw [h]; rfl
  simpa using h1
theorem opens_con {H : Type} {enc : TypeId × Value → H} {w : World} : ∀ (fuel : Nat) (cs : List Value) (x : DataW H × List MemPlace), DataW.trod enc Try.prog w 0 (fun _ => true) true fuel 24 cs = some x → ∃ y : CT, (cs = (conV y.V).toList ∧ Con w y.A y.c y.L) ∧ True := by
  intro fuel cs x h
  obtain ⟨xs, m, _, _, hl, hlen, hf⟩ := DataW.trod_array Try.underlying24 h
  rw [cells_24] at hl
  simp only [cells_22] at hf
  have each : ∀ i, i < 8 → ∃ (A : Option Addr) (c : Nat) (l : Fld), cs[i]? = some (.slice A l.length c) ∧ l.length ≤ c ∧ st.C w A l.length l := by
    intro i hi
    have hx : xs[i]? = some (xs[i]'(by omega)) := List.getElem?_eq_getElem (by omega)
    have hfi := hf i hi
    rw [hx] at hfi
    obtain ⟨A, c, l, e, h1, _, hC, _⟩ := opens_row (d := st) Try.underlying22 cells_9 (opens_string Try.underlying9) m _ _ hfi
    exact ⟨A, c, l, take_one e, h1, hC⟩
  obtain ⟨A0, c0, l0, e0, h0, k0⟩ := each 0 (by omega)
  obtain ⟨A1, c1, l1, e1, h1, k1⟩ := each 1 (by omega)
  obtain ⟨A2, c2, l2, e2, h2, k2⟩ := each 2 (by omega)
  obtain ⟨A3, c3, l3, e3, h3, k3⟩ := each 3 (by omega)
  obtain ⟨A4, c4, l4, e4, h4, k4⟩ := each 4 (by omega)
  obtain ⟨A5, c5, l5, e5, h5, k5⟩ := each 5 (by omega)
  obtain ⟨A6, c6, l6, e6, h6, k6⟩ := each 6 (by omega)
  obtain ⟨A7, c7, l7, e7, h7, k7⟩ := each 7 (by omega)
  refine ⟨⟨(fun i => match i with | 0 => A0 | 1 => A1 | 2 => A2 | 3 => A3 | 4 => A4 | 5 => A5 | 6 => A6 | 7 => A7 | _ => none), (fun i => match i with | 0 => c0 | 1 => c1 | 2 => c2 | 3 => c3 | 4 => c4 | 5 => c5 | 6 => c6 | 7 => c7 | _ => 0), (fun i => match i with | 0 => l0 | 1 => l1 | 2 => l2 | 3 => l3 | 4 => l4 | 5 => l5 | 6 => l6 | 7 => l7 | _ => [])⟩, ⟨?_, ⟨fun i hi => ?_, fun i hi => ?_⟩⟩, trivial⟩
  · obtain ⟨a0, a1, a2, a3, a4, a5, a6, a7, rfl⟩ : ∃ a0 a1 a2 a3 a4 a5 a6 a7, cs = [a0, a1, a2, a3, a4, a5, a6, a7] := by
      clear e0 e1 e2 e3 e4 e5 e6 e7 each hf h
      match cs, hl with
      | [a0, a1, a2, a3, a4, a5, a6, a7], _ => exact ⟨a0, a1, a2, a3, a4, a5, a6, a7, rfl⟩
    cases (Option.some.inj (show some a0 = _ from e0))
    cases (Option.some.inj (show some a1 = _ from e1))
    cases (Option.some.inj (show some a2 = _ from e2))
    cases (Option.some.inj (show some a3 = _ from e3))
    cases (Option.some.inj (show some a4 = _ from e4))
    cases (Option.some.inj (show some a5 = _ from e5))
    cases (Option.some.inj (show some a6 = _ from e6))
    cases (Option.some.inj (show some a7 = _ from e7))
    rfl
  · match i, hi with
    | 0, _ => exact h0
    | 1, _ => exact h1
    | 2, _ => exact h2
    | 3, _ => exact h3
    | 4, _ => exact h4
    | 5, _ => exact h5
    | 6, _ => exact h6
    | 7, _ => exact h7
  · match i, hi with
    | 0, _ => exact k0
    | 1, _ => exact k1
    | 2, _ => exact k2
    | 3, _ => exact k3
    | 4, _ => exact k4
    | 5, _ => exact k5
    | 6, _ => exact k6
    | 7, _ => exact k7
theorem con_of {W : World} {v : Value} {y : CT} (hK : v.cells.toList = (conV y.V).toList ∧ Con W y.A y.c y.L) (hv : Value.okWide Try.prog W .any 0 24 v) : v = .agg (conV y.V) ∧ Con W y.A y.c y.L := by
  obtain ⟨cs, rfl⟩ : ∃ cs, v = .agg cs := by
    simp only [Value.okWide, Try.underlying24] at hv
    obtain ⟨cs, h1, _⟩ := hv
    exact ⟨cs, h1⟩
  refine ⟨?_, hK.2⟩
  have : cs.toList = (conV y.V).toList := hK.1
  rw [Array.toList_inj.1 this]
end Go.Proofs.Ytbocbaakknkfiaa
