/- Whatever name came in: what the heap holds of it. -/
import Derived.Test.YthbjgcmbbdlfkaaDa
import Derived.Deep.Slices
import Derived.OpenShut
import Derived.ChangeOld
set_option linter.unusedVariables false
set_option linter.unusedSimpArgs false
namespace Go.Proofs.Ythbjgcmbbdlfkaa
open Go.RowKit Go.Deep Go.ChangeShapes Go.WideShapes Go.Proofs.YthbjgcmbbdlfkaaW.PrintWords Go.Proofs.YthbjgcmbbdlfkaaW.PrintMore

section
variable {H : Type} (enc : TypeId × Value → H) (P : Program) (w : World)

/-- Whatever reads as data of type t is of kind d, and good. -/
def Opens {α : Type} (t : TypeId) (d : Kd α) (G : α → Prop) : Prop :=
  ∀ (fuel : Nat) (cs : List Value) (x : DataW H × List MemPlace), DataW.trod enc P w 0 (fun _ => true) true fuel t cs = some x → ∃ y, d.K w y cs ∧ G y
variable {enc P w}

theorem opens_int {t : TypeId} {k : IntKind} (hu : P.underlying t = some (.int k)) : Opens enc P w t (Kd.int k) (fun n => (Lit.int k n).wf = true) := by
  intro fuel cs x h
  obtain ⟨n, rfl, _, hw⟩ := DataW.trod_int hu h
  exact ⟨n, rfl, hw⟩
theorem opens_bool {t : TypeId} (hu : P.underlying t = some .bool) : Opens enc P w t Kd.bool (fun _ => True) := by
  intro fuel cs x h
  obtain ⟨b, rfl, _⟩ := DataW.trod_bool hu h
  exact ⟨b, rfl, trivial⟩
theorem opens_string {t : TypeId} (hu : P.underlying t = some .string) : Opens enc P w t Kd.string (fun s => s.size ≤ maxLen) := by
  intro fuel cs x h
  obtain ⟨s, rfl, _, hs⟩ := DataW.trod_string hu h
  exact ⟨s, rfl, hs⟩
theorem opens_mono {α : Type} {t : TypeId} {d : Kd α} {G G' : α → Prop} (h : Opens enc P w t d G) (hG : ∀ y, G y → G' y) : Opens enc P w t d G' := fun fuel cs x hx => let ⟨y, hk, hg⟩ := h fuel cs x hx; ⟨y, hk, hG y hg⟩

theorem addr_add_add (a : Addr) (i j : Nat) : (a.add i).add j = a.add (i + j) := by
  unfold Addr.add
  by_cases hj : j = 0 <;> by_cases hi : i = 0 <;> simp_all [Nat.add_assoc]
theorem cells_at {base n : Nat} {a : Addr} {cs : List Value} (h : w.cells? base a n = some cs) (i : Nat) (u : Value) (hu : cs[i]? = some u) : w.cell? (a.add i) = some u := by
  obtain ⟨_, hl, hc⟩ := World.cells?_some h
  have hi := (List.getElem?_eq_some_iff.1 hu).1
  rw [hc i (by omega), hu]

theorem opens_row {α : Type} {t e : TypeId} {d : Kd α} {G : α → Prop} (hu : P.underlying t = some (.slice e)) (hsz : P.cellsOf e = d.sz) (hd : Opens enc P w e d G) (fuel : Nat) (cs : List Value) (x : DataW H × List MemPlace)
    (h : DataW.trod enc P w 0 (fun _ => true) true fuel t cs = some x) :
    ∃ (A : Option Addr) (c : Nat) (l : List α), cs = [.slice A l.length c] ∧ l.length ≤ c ∧ c ≤ maxLen ∧ d.C w A l.length l ∧ ∀ y ∈ l, G y := by
  classical
  rcases open_slice hu h with ⟨rfl, _⟩ | ⟨a, len, cap, m, n, D, Pl, rfl, _, hl, hm, hmm, hxx, hx⟩
  · exact ⟨none, 0, [], rfl, Nat.le_refl _, Nat.zero_le _, Kd.C_nil d w, fun _ hy => by cases hy⟩
  · have hlm : len ≤ m := by rw [hmm]; split <;> omega
    have each : ∀ i : Nat, i < len → ∃ y : α, G y ∧ ∃ c, w.cells? 0 (a.add (i * d.sz)) d.sz = some c ∧ d.K w y c := by
      intro i hi
      obtain ⟨c, h1, h2⟩ := hx i (by omega)
      obtain ⟨y, hk, hg⟩ := hd n c _ h2
      rw [hsz] at h1
      exact ⟨y, hg, c, h1, hk⟩
    obtain ⟨l, hll, hlp⟩ : ∃ l : List α, l.length = len ∧ ∀ i (hi : i < l.length), G l[i] ∧ ∃ c, w.cells? 0 (a.add (i * d.sz)) d.sz = some c ∧ d.K w l[i] c := by
      clear hmm hx hl hlm hxx h
      induction len with
      | zero => exact ⟨[], rfl, fun i hi => absurd hi (Nat.not_lt_zero _)⟩
      | succ len ih =>
        obtain ⟨l, h1, h2⟩ := ih (fun i hi => each i (by omega))
        obtain ⟨y, hy⟩ := each len (by omega)
        refine ⟨l ++ [y], by simp [h1], fun i hi => ?_⟩
        by_cases hlt : i < l.length
        · rw [List.getElem_append_left hlt]; exact h2 i hlt
        · have : i = l.length := by simp at hi; omega
          subst this
          rw [List.getElem_append_right (Nat.le_refl _)]
          simp only [Nat.sub_self, List.getElem_cons_zero]
          rw [h1]; exact hy
    refine ⟨some a, cap, l, by rw [hll], by omega, hm, ⟨rfl, by unfold maxLen at hm; omega, fun _ => ⟨a, rfl, fun j p hp => ?_⟩⟩, fun y hy => ?_⟩
    · obtain ⟨hj, rfl⟩ := List.getElem?_eq_some_iff.1 hp
      obtain ⟨_, c, h1, hk⟩ := hlp j hj
      refine ⟨c, d.K_len hk, hk, fun i u hu => ?_⟩
      have := cells_at h1 i u hu
      rwa [addr_add_add] at this
    · obtain ⟨i, hi, rfl⟩ := List.mem_iff_getElem.1 hy
      exact (hlp i hi).1
end
section
variable {H : Type} {enc : TypeId × Value → H} {w : World}
theorem cells40 : Try.prog.cellsOf 40 = kr.sz := by kernel_rfl
theorem cells9 : Try.prog.cellsOf 9 = 1 := by kernel_rfl
theorem cells40' : Try.prog.cellsOf 40 = 2 := by kernel_rfl
theorem opens_rdn : Opens enc Try.prog w 40 kr (fun y => y.t.size ≤ maxLen ∧ y.v.size ≤ maxLen) := by
  intro fuel cs x h
  obtain ⟨xs, n, _, _, hl, hlen, hf⟩ := DataW.trod_struct Try.underlying40 h
  rw [cells40'] at hl
  match xs, hlen, cs, hl with
  | [y0, y1], _, [c0, c1], _ =>
    have f0 := hf 0 (Field.mk "Type" 9 0 false "" "" 0) rfl
    have f1 := hf 1 (Field.mk "Value" 9 1 false "" "" 16) rfl
    simp only [cells9] at f0 f1
    obtain ⟨s0, e0, _, w0⟩ := DataW.trod_string Try.underlying9 f0
    obtain ⟨s1, e1, _, w1⟩ := DataW.trod_string Try.underlying9 f1
    replace e0 : c0 = .string s0 := by simpa using e0
    replace e1 : c1 = .string s1 := by simpa using e1
    subst e0; subst e1
    exact ⟨⟨s0, s1⟩, ⟨[_], [_], rfl, rfl, rfl⟩, w0, w1⟩
end
end Go.Proofs.Ythbjgcmbbdlfkaa
