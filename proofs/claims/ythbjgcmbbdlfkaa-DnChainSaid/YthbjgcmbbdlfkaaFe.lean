/- slices.Clone of a name; dn.Up, dn.Under. -/
import Derived.Test.YthbjgcmbbdlfkaaFd
set_option linter.unusedVariables false
set_option linter.unusedSimpArgs false
namespace Go.Proofs.Ythbjgcmbbdlfkaa
open Go.RowKit Go.Shelf Go.Proofs.YthbjgcmbbdlfkaaW.PrintWords Go.Proofs.YthbjgcmbbdlfkaaW.PrintMore Go.Proofs.YthbjgcmbbdlfkaaW.PrintLast

/-- A literal of no elements. -/
theorem R_empty {α : Type} {d : Kd α} {e g : Nat} {w : World} {ok : Nat → Prop} (hg : w.heap[g]? = some (.cells #[] e (0, 0))) (hok : ok g) : d.R e w 0 ok (.slice (some ⟨g, 0, none⟩) 0 0) [] :=
  ⟨fun k hk => by simp [Value.ownBlock] at hk; rw [← hk]; exact hok, [], ⟨by simp, .inr ⟨g, 0, #[], rfl, Nat.zero_le _, hg, Nat.le_refl _, Nat.zero_le _, by simp, by simp⟩⟩, Reps.none _ _⟩
set_option maxHeartbeats 1000000 in
theorem clone_calls (A : Option Addr) (c : Nat) (l : List Rdn) (w : World) (hC : kr.C w A l.length l) (hl : l.length ≤ 1000) :
    Calls Try.prog 43 #[.slice A l.length c] w fun e w' => ∃ A' c', e = .returned (.slice A' l.length c') ∧ kr.R 40 w' 0 (fun q => w.heap.size ≤ q) (.slice A' l.length c') l ∧ Below w.heap.size w w' := by
  have hC := Aside0.mk hC
  cases A with
  | none =>
    have h0 : l = [] := by
      rcases Nat.eq_zero_or_pos l.length with h | h
      · exact List.length_eq_zero_iff.1 h
      · obtain ⟨_, h, _⟩ := hC.out.2.2 h; cases h
    subst h0
    have hr := fun (w : World) => Lib.run_eql_slice_nil (P := Try.prog) w 23 40 none 0 c 0 0 Try.underlying23
    go_enter Try.func43, Try.ntmps43
    go_wp2
    go_ret
    exact ⟨_, _, rfl, Kd.R_nil _ _ _ _ _, Below.refl _ _⟩
  | some a =>
    obtain ⟨N, hN⟩ : ∃ N, l.length = N := ⟨_, rfl⟩
    rw [hN] at hC hl ⊢
    have hN := Aside0.mk hN
    have hr := fun (w : World) => Lib.run_eql_slice_nil (P := Try.prog) w 23 40 (some a) N c 0 0 Try.underlying23
    have hE : kr.R 40 (w.alloc (.cells #[] 40)) 0 (fun q => w.heap.size ≤ q) (.slice (some ⟨w.heap.size, 0, none⟩) 0 0) [] := R_empty (Go.heap_alloc_new w _) (Nat.le_refl _)
    have hE := Aside0.mk hE
    go_enter Try.func43, Try.ntmps43
    go_wp2_with ((with_reducible refine gate_builtin (b := .append) (xs := #[.tmp 5, .tmp 6]) rfl ?_); at_builtin; refine Kd.R_append_rows kr (w0 := w.alloc (.cells #[] 40)) 0 rfl (.tmp 5) (.tmp 6) 23 40 (.agg #[.string ByteArray.empty, .string ByteArray.empty]) 32 rfl Try.underlying23 info40 rfl (by decide) (by omega) (.slice (some ⟨w.heap.size, 0, none⟩) 0 0) [] l _ _ _ (fun q => w.heap.size ≤ q) (fun _ => False) rfl rfl hE.out (Kd.C_alloc hC.out _) (fun _ _ h => h) (fun _ h => h.elim) (fun k hk => by simp at hk; omega) (Below.refl _ _) (Nat.zero_le _) (by simp; omega) ?_; intro v1 w1 ho _ hg _; replace ho := Aside0.mk ho; replace hg := Aside0.mk hg)
    go_ret
    obtain ⟨A', c', e⟩ := Kd.R_slice ho.out
    rw [List.nil_append, hN.out] at e
    refine ⟨A', c', congrArg _ e, ?_, ?_⟩
    · rw [← e]; exact ho.out
    · exact Mod.below (S := fun q => w.heap.size ≤ q) (Mod.trans (Mod.of_below (below_alloc (Below.refl _ _) _)) (Mod.of_grown (S := fun q => w.heap.size ≤ q) hg.out (fun q hq => by simp [Value.ownBlock] at hq; omega)) (fun q hq => .inl hq)) (fun q hq => hq) (Nat.le_refl _)
set_option maxHeartbeats 1000000 in
theorem up_no (A : Option Addr) (c : Nat) (l : List Rdn) (w : World) (hl : Mild l) (hC : kr.C w A l.length l) (h : dnOk l = false ∨ l = []) :
    Calls Try.prog 21 #[.slice A l.length c] w fun e w' => e = .returned (.tuple #[.slice none 0 0, .bool false]) ∧ Below w.heap.size w w' := by
  have hr := Aside0.mk (nright_one w ⟨A, c, l⟩ ⟨hC, hl⟩)
  have hbw := Aside0.mk (below_alloc (Below.refl w.heap.size w) (.cells #[Nm.v ⟨A, c, l⟩] 23))
  unfold Nm.v at hr hbw
  dsimp only at hr hbw
  by_cases hne : l = []
  · subst hne
    go_enter Try.func21, Try.ntmps21
    go_wp2_with fail
    refine hr.out.mono ?_
    rintro e w2 ⟨rfl, hb⟩
    replace hb := Aside0.mk (below_then hbw.out hbw.out.size hb)
    go_wp2_with fail
    go_ret2
    exact ⟨rfl, hb.out⟩
  · have hok : dnOk l = false := h.resolve_right hne
    rw [hok] at hr
    generalize l.length = M at *
    clear hC hl hne hok h
    go_enter Try.func21, Try.ntmps21
    go_wp2_with fail
    refine hr.out.mono ?_
    rintro e w2 ⟨rfl, hb⟩
    replace hb := Aside0.mk (below_then hbw.out hbw.out.size hb)
    go_wp2_with fail
    go_ret2
    exact ⟨rfl, hb.out⟩
set_option maxHeartbeats 1000000 in
theorem up_yes (A : Option Addr) (c : Nat) (l : List Rdn) (w : World) (hl : Mild l) (hc : l.length ≤ c) (hC : kr.C w A l.length l) (hok : dnOk l = true) (hne : l ≠ []) :
    Calls Try.prog 21 #[.slice A l.length c] w fun e w' => (∃ A' c', e = .returned (.tuple #[.slice A' (l.drop 1).length c', .bool true]) ∧ kr.R 40 w' 0 (fun q => w.heap.size ≤ q) (.slice A' (l.drop 1).length c') (l.drop 1)) ∧ Below w.heap.size w w' := by
  have hr := Aside0.mk (nright_one w ⟨A, c, l⟩ ⟨hC, hl⟩)
  have hbw := Aside0.mk (below_alloc (Below.refl w.heap.size w) (.cells #[Nm.v ⟨A, c, l⟩] 23))
  unfold Nm.v at hr hbw
  dsimp only at hr hbw
  have hpos : 0 < l.length := List.length_pos_iff.2 hne
  have hl0 := hl.1
  rw [hok] at hr
  have hsl := slice_from A l.length c 1 1 rfl (by omega)
  have hcl := fun W (h : Below w.heap.size w W) => clone_calls _ (c - 1) (l.drop 1) W (Kd.C_drop (m := 1) (c := c) (Kd.C_below hC h) (by omega) hc) (by rw [List.length_drop]; omega)
  rw [show l.length - 1 = (l.drop 1).length from List.length_drop.symm] at hsl
  obtain ⟨A', hA'⟩ : ∃ A', (if c = 1 then A else A.map (·.add (1 * kr.sz))) = A' := ⟨_, rfl⟩
  rw [hA'] at hsl
  replace hcl := Aside0.mk (fun W h => hA' ▸ hcl W h)
  clear hA' hC hl hok hne
  generalize l.drop 1 = l' at *
  generalize l.length = M at *
  have i1 : (0 : Int) < (M : Int) := by omega
  go_enter Try.func21, Try.ntmps21
  go_wp2_with fail
  refine hr.out.mono ?_
  rintro e w2 ⟨rfl, hb⟩
  replace hb := Aside0.mk (below_then hbw.out hbw.out.size hb)
  go_wp2_with fail
  refine (hcl.out _ hb.out).mono ?_
  rintro e w3 ⟨A2, c2, rfl, hR, hb3⟩
  replace hR := Aside0.mk (Kd.R_mono hR (fun q hq => Nat.le_trans hb.out.size hq))
  replace hb3 := Aside0.mk (below_then hb.out hb.out.size hb3)
  go_wp2_with fail
  go_ret2
  exact ⟨⟨_, _, rfl, hR.out⟩, hb3.out⟩
end Go.Proofs.Ythbjgcmbbdlfkaa
