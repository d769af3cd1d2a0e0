/- said: somebody with a title. -/
import Derived.Test.YtbocbaakknkfiaaMn
set_option linter.unusedVariables false
set_option linter.unusedSimpArgs false
namespace Go.Proofs.Ytbocbaakknkfiaa
open Go.RowKit Go.Shelf Go.Proofs.YtbocbaakknkfiaaW.PrintWords Go.Proofs.YtbocbaakknkfiaaW.PrintMore Go.Proofs.YtbocbaakknkfiaaW.PrintLast

/-- Somebody with a title: his fields. -/
def saidL (s : ByteArray) : Nat → Fld := fun i => if i = 0 then [⟨#[65, 110, 110]⟩] else if i = 4 then [s] else []
theorem one_row {w : World} {B : Nat} {s : ByteArray} (h : w.heap[B]? = some (.cells #[.string s] 9 (0, 0))) : st.C w (some ⟨B, 0, none⟩) [s].length [s] := by
  refine ⟨rfl, by simp, fun _ => ⟨_, rfl, fun j p hj => ?_⟩⟩
  match j, hj with
  | 0, hj =>
    have e : s = p := by simpa using hj
    subst e
    refine ⟨[.string s], rfl, rfl, fun i u hi => ?_⟩
    match i, hi with
    | 0, hi =>
      have e : Value.string s = u := by simpa using hi
      subst e
      rw [show (⟨B, 0, none⟩ : Addr).add (0 * st.sz + 0) = ⟨B, 0, none⟩ by rw [add_plain]; simp]
      exact (cell_of_row _ _ _ _ _ _ h).trans rfl
    | i + 1, hi => simp at hi
  | j + 1, hj => simp at hj
/-- Somebody: where his fields lie. -/
def saidT (B : Nat) (s : ByteArray) : CT := ⟨fun i => if i = 0 then some ⟨B, 0, none⟩ else if i = 4 then some ⟨B + 1, 0, none⟩ else none, fun i => if i = 0 then 1 else if i = 4 then 1 else 0, saidL s⟩
theorem saidT_in {w : World} {B : Nat} {s : ByteArray} (hs : s.size ≤ 1000) (h1 : w.heap[B]? = some (.cells #[.string ⟨#[65, 110, 110]⟩] 9 (0, 0))) (h2 : w.heap[B + 1]? = some (.cells #[.string s] 9 (0, 0))) : (saidT B s).In w := by
  refine ⟨⟨fun i hi => ?_, fun i hi => ?_⟩, fun i hi => ?_⟩
  · show (saidL s i).length ≤ (if i = 0 then 1 else if i = 4 then 1 else 0)
    unfold saidL
    by_cases h0 : i = 0
    · simp [h0]
    · by_cases h4 : i = 4
      · simp [h4]
      · simp [h0, h4]
  · show st.C w (if i = 0 then some ⟨B, 0, none⟩ else if i = 4 then some ⟨B + 1, 0, none⟩ else none) (saidL s i).length (saidL s i)
    unfold saidL
    by_cases h0 : i = 0
    · simp only [h0, if_true]; exact one_row h1
    · by_cases h4 : i = 4
      · subst h4; exact one_row h2
      · simp only [if_neg h0, if_neg h4]; exact Kd.C_nil _ _
  · show (saidL s i).length ≤ 1000 ∧ ∀ t ∈ saidL s i, t.size ≤ 1000
    unfold saidL
    by_cases h0 : i = 0
    · simp only [h0, if_true]
      refine ⟨by simp, fun t ht => ?_⟩
      rw [List.mem_singleton.1 ht]
      decide
    · by_cases h4 : i = 4
      · subst h4
        refine ⟨by simp, fun t ht => ?_⟩
        have : t = s := by simpa using ht
        rw [this]; exact hs
      · simp [h0, h4]
set_option maxHeartbeats 1000000 in
theorem said_calls (s : ByteArray) (w : World) (hs : s.size ≤ 1000) :
    Calls Try.prog 21 #[.string s] w fun e w' => ∃ x : CT, e = .returned (.agg (conV x.V)) ∧ x.L = saidL s ∧ x.In w' ∧ Below w.heap.size w w' := by
  go_enter Try.func21, Try.ntmps21
  go_wp2_with fail
  have hw : ∀ (c : Array Value), ∃ W, W = ((((w.alloc (.cells c 24)).alloc (.cells c 24)).alloc (.cells #[.string ⟨#[65, 110, 110]⟩] 9)).alloc (.cells #[.string s] 9)) ∧ W.heap[w.heap.size]? = some (.cells c 24 (0, 0)) ∧ W.heap[w.heap.size + 2]? = some (.cells #[.string ⟨#[65, 110, 110]⟩] 9 (0, 0)) ∧ W.heap[w.heap.size + 2 + 1]? = some (.cells #[.string s] 9 (0, 0)) ∧ Below w.heap.size w W := by
    intro c
    obtain ⟨w1, e1⟩ : ∃ w1, w.alloc (.cells c 24) = w1 := ⟨_, rfl⟩
    obtain ⟨w2, e2⟩ : ∃ w2, w1.alloc (.cells c 24) = w2 := ⟨_, rfl⟩
    obtain ⟨w3, e3⟩ : ∃ w3, w2.alloc (.cells #[.string ⟨#[65, 110, 110]⟩] 9) = w3 := ⟨_, rfl⟩
    obtain ⟨w4, e4⟩ : ∃ w4, w3.alloc (.cells #[.string s] 9) = w4 := ⟨_, rfl⟩
    have s1 : w1.heap.size = w.heap.size + 1 := by rw [← e1]; simp
    have s2 : w2.heap.size = w.heap.size + 2 := by rw [← e2]; simp; omega
    have s3 : w3.heap.size = w.heap.size + 3 := by rw [← e3]; simp; omega
    have h1 := Go.heap_alloc_new w (.cells c 24)
    have h3 := Go.heap_alloc_new w2 (.cells #[.string ⟨#[65, 110, 110]⟩] 9)
    have h4 := Go.heap_alloc_new w3 (.cells #[.string s] 9)
    have k1 : Below w.heap.size w w1 := by rw [← e1]; exact below_alloc (Below.refl _ _) _
    have k2 : Below w1.heap.size w1 w2 := by rw [← e2]; exact below_alloc (Below.refl _ _) _
    have k3 : Below w2.heap.size w2 w3 := by rw [← e3]; exact below_alloc (Below.refl _ _) _
    have k4 : Below w3.heap.size w3 w4 := by rw [← e4]; exact below_alloc (Below.refl _ _) _
    rw [e1] at h1
    rw [e3, s2] at h3
    rw [e4, s3] at h4
    have j3 := below_then k3 (by omega) k4
    have j2 := below_then k2 (by omega) j3
    have j1 := below_then k1 (by omega) j2
    exact ⟨w4, by rw [e1, e2, e3, e4], (j2.block _ (by omega)).trans h1, (k4.block _ (by omega)).trans h3, h4, j1⟩
  obtain ⟨W, hW, h1, h2, h3, h4⟩ := hw (conV (saidT (w.heap.size + 2) s).V)
  have hin := saidT_in hs h2 h3
  rw [hW] at h1 hin h4
  exact bodyPost_ret (results_cell_row rfl _ _ w.heap.size 24 (conV (saidT (w.heap.size + 2) s).V) (0, 0) _ rfl h1 Try.underlying24 rfl (by kernel_rfl)) rfl ⟨saidT (w.heap.size + 2) s, rfl, rfl, hin, h4⟩
end Go.Proofs.Ytbocbaakknkfiaa
