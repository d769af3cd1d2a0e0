/- merge.right: may all of some contacts be? -/
import Derived.Test.YtbocbaakknkfiaaMg
set_option linter.unusedVariables false
set_option linter.unusedSimpArgs false
namespace Go.Proofs.Ytbocbaakknkfiaa
open Go.RowKit Go.Shelf Go.Proofs.YtbocbaakknkfiaaW.PrintWords Go.Proofs.YtbocbaakknkfiaaW.PrintMore Go.Proofs.YtbocbaakknkfiaaW.PrintLast

/-- A contact: where its fields lie, and what they are. -/
structure CT where
  A : Nat → Option Addr
  c : Nat → Nat
  L : Nat → Fld
def CT.V (x : CT) : Nat → Value := FV x.A x.c x.L
def CT.In (x : CT) (w : World) : Prop := Con w x.A x.c x.L ∧ Small x.L
theorem CT.In.below {x : CT} {w w' : World} (h : x.In w) (hb : Below w.heap.size w w') : x.In w' := ⟨h.1.below hb, h.2⟩
set_option maxHeartbeats 1000000 in
theorem bad_calls (x : CT) (w : World) (h : x.In w) :
    Calls Try.prog 33 #[.agg (conV x.V)] w fun e w' => e = .returned (.bool (!checkOk x.L)) ∧ Below w.heap.size w w' := by
  have hb := below_alloc (Below.refl w.heap.size w) (.cells (conV x.V) 24)
  have hck := check_calls x.A x.c x.L _ (h.1.below hb) h.2
  change Calls Try.prog 34 #[.agg (conV x.V)] _ _ at hck
  obtain ⟨V, hV⟩ : ∃ V, x.V = V := ⟨_, rfl⟩
  rw [hV] at hck hb ⊢
  have H1 := Go.heap_alloc_new w (.cells (conV V) 24)
  obtain ⟨w1, hw1⟩ : ∃ w1, w.alloc (.cells (conV V) 24) = w1 := ⟨_, rfl⟩
  rw [hw1] at hck hb H1
  have k0 := con_cell H1 0 (by omega)
  have k1 := con_cell H1 1 (by omega)
  have k2 := con_cell H1 2 (by omega)
  have k3 := con_cell H1 3 (by omega)
  have k4 := con_cell H1 4 (by omega)
  have k5 := con_cell H1 5 (by omega)
  have k6 := con_cell H1 6 (by omega)
  have k7 := con_cell H1 7 (by omega)
  replace hb := Aside0.mk hb
  clear h H1 hV
  generalize checkOk x.L = b at *
  cases b with
  | true =>
    simp only [if_true] at hck
    replace hck := Aside0.mk hck
    go_enter Try.func33, Try.ntmps33
    go_wp2_with fail
    refine hck.out.mono ?_
    rintro e w2 ⟨rfl, hb2⟩
    have hb2 := Aside0.mk (below_then hb.out hb.out.size hb2)
    go_wp2_with fail
    go_ret
    exact ⟨rfl, hb2.out⟩
  | false =>
    simp only [Bool.false_eq_true, if_false] at hck
    replace hck := Aside0.mk hck
    go_enter Try.func33, Try.ntmps33
    go_wp2_with fail
    refine hck.out.mono ?_
    rintro e w2 ⟨rfl, hb2⟩
    have hb2 := Aside0.mk (below_then hb.out hb.out.size hb2)
    go_wp2_with fail
    go_ret
    exact ⟨rfl, hb2.out⟩
/-- Some contacts, as a row at block B. -/
def RowOf (w : World) (B : Nat) (l : List CT) : Prop := ∀ k, (hk : k < l.length) → ∀ i, i < 8 → w.cell? ⟨B, k * 8 + i, none⟩ = some (l[k].V i)
theorem RowOf.below {w w' : World} {B : Nat} {l : List CT} (h : RowOf w B l) (hb : Below w.heap.size w w') : RowOf w' B l := fun k hk i hi => pw_cell_below hb (h k hk i hi)
set_option maxHeartbeats 1000000 in
theorem index_calls (B c : Nat) (l : List CT) (w : World) (hl : l.length ≤ 1000) (hR : RowOf w B l) (hI : ∀ x ∈ l, x.In w) :
    Calls Try.prog 37 #[.slice (some ⟨B, 0, none⟩) l.length c, .func (.func 33) #[] #[]] w fun e w' => (∃ r : Int, e = .returned (.int .i64 r) ∧ decide (0 ≤ r) = l.any (fun x => !checkOk x.L)) ∧ Below w.heap.size w w' := by
  have he := enters_of (P := Try.prog) Try.func33 (by kernel_rfl) rfl
  obtain ⟨M, hM⟩ : ∃ M, l.length = M := ⟨_, rfl⟩
  replace hR := Aside0.mk hR
  replace hI := Aside0.mk hI
  rw [hM] at hl ⊢
  replace hM := Aside0.mk hM
  have hb0 : Aside0 (Below w.heap.size w w) := Aside0.mk (Below.refl _ _)
  go_enter Try.func37, Try.ntmps37
  go_wp2
  go_loopw [8] (fun s8 wr => ∃ k : Nat, k ≤ M ∧ s8 = .int .i64 k ∧ Aside0 (Below w.heap.size w wr) ∧ Aside0 ((l.take k).any (fun x => !checkOk x.L) = false)) (fun s8 _ => M - (intOf s8).toNat)
  case atStart => exact ⟨0, Nat.zero_le _, rfl, hb0, ⟨by simp⟩⟩
  case round =>
    clear hb0
    obtain ⟨k, hk, rfl, hb, ha⟩ := hrel
    by_cases hlt : k < M
    · have hkl : k < l.length := by rw [hM.out]; exact hlt
      have p0 := fun i hi => pw_cell_below hb.out (hR.out k hkl i hi)
      have hnx := Aside0.mk (fun h => any_take_snoc (fun x => !checkOk x.L) l k hkl ha.out h)
      have hno := Aside0.mk (any_true_at (fun x => !checkOk x.L) l k hkl)
      have hv := bad_calls l[k] wr ((hI.out l[k] (List.getElem_mem hkl)).below hb.out)
      obtain ⟨x, hx⟩ : ∃ x, l[k] = x := ⟨_, rfl⟩
      rw [hx] at p0 hnx hno hv
      clear hx hkl
      have k0 := p0 0 (by omega)
      have k1 := p0 1 (by omega)
      have k2 := p0 2 (by omega)
      have k3 := p0 3 (by omega)
      have k4 := p0 4 (by omega)
      have k5 := p0 5 (by omega)
      have k6 := p0 6 (by omega)
      have k7 := p0 7 (by omega)
      rw [Nat.add_zero] at k0
      replace hv := Aside0.mk hv
      clear p0
      have ead : (⟨B, 0, none⟩ : Addr).add (k * 8) = ⟨B, k * 8, none⟩ := add_plain _ _
      generalize x.V = V at *
      cases hvo : checkOk x.L with
      | true =>
        rw [hvo] at hv
        have hy := Aside0.mk (hnx.out (by simp [hvo]))
        clear hnx hno hvo
        go_wp2_with fail
        refine hv.out.mono ?_
        rintro e w1 ⟨rfl, hb1⟩
        replace hb1 := Aside0.mk (below_then hb.out hb.out.size hb1)
        go_wp2_with fail
        go_roundw
        case rel => exact ⟨k + 1, by omega, by go_num, hb1, hy⟩
        case measure => simp [intOf]; omega
      | false =>
        rw [hvo] at hv
        have hy := Aside0.mk (hno.out (by simp [hvo]))
        clear hnx hno hvo
        go_wp2_with fail
        refine hv.out.mono ?_
        rintro e w1 ⟨rfl, hb1⟩
        replace hb1 := Aside0.mk (below_then hb.out hb.out.size hb1)
        go_wp2_with fail
        go_ret
        exact ⟨⟨_, rfl, by rw [hy.out]; simp⟩, hb1.out⟩
    · have hkM : k = M := by omega
      subst hkM
      have h9 : l.any (fun x => !checkOk x.L) = false := by
        have h9 := ha.out
        rwa [List.take_of_length_le (by rw [hM.out]; exact Nat.le_refl _)] at h9
      replace h9 := Aside0.mk h9
      go_wp2_with fail
      go_ret
      exact ⟨⟨_, rfl, by rw [h9.out]; rfl⟩, hb.out⟩
set_option maxHeartbeats 1000000 in
theorem contains2_calls (B c : Nat) (l : List CT) (w : World) (hl : l.length ≤ 1000) (hR : RowOf w B l) (hI : ∀ x ∈ l, x.In w) :
    Calls Try.prog 32 #[.slice (some ⟨B, 0, none⟩) l.length c, .func (.func 33) #[] #[]] w fun e w' => e = .returned (.bool (l.any (fun x => !checkOk x.L))) ∧ Below w.heap.size w w' := by
  have hi := Aside0.mk (index_calls B c l w hl hR hI)
  clear hR hI
  generalize l.any (fun x => !checkOk x.L) = b at *
  generalize l.length = M at *
  go_enter Try.func32, Try.ntmps32
  go_wp2_with fail
  refine hi.out.mono ?_
  rintro e w1 ⟨⟨r, rfl, hr⟩, hb⟩
  replace hb := Aside0.mk hb
  replace hr := Aside0.mk hr
  go_wp2_with fail
  go_ret
  exact ⟨by rw [← hr.out]; rfl, hb.out⟩
set_option maxHeartbeats 1000000 in
theorem right_calls (B c : Nat) (l : List CT) (w : World) (hl : l.length ≤ 1000) (hR : RowOf w B l) (hI : ∀ x ∈ l, x.In w) :
    Calls Try.prog 22 #[.slice (some ⟨B, 0, none⟩) l.length c] w fun e w' => e = .returned (.bool (l.all (fun x => checkOk x.L))) ∧ Below w.heap.size w w' := by
  have hi := contains2_calls B c l w hl hR hI
  have e : l.all (fun x => checkOk x.L) = !(l.any (fun x => !checkOk x.L)) := by
    clear hi hR hI hl
    induction l with
    | nil => rfl
    | cons x l ih => simp [ih]
  rw [e]
  replace hi := Aside0.mk hi
  clear hR hI e
  generalize l.any (fun x => !checkOk x.L) = b at *
  generalize l.length = M at *
  go_enter Try.func22, Try.ntmps22
  go_wp2_with fail
  refine hi.out.mono ?_
  rintro e w1 ⟨rfl, hb⟩
  replace hb := Aside0.mk hb
  go_wp2_with fail
  go_ret
  exact ⟨rfl, hb.out⟩
end Go.Proofs.Ytbocbaakknkfiaa
