/- slices.Clone of a name; dn.Up, dn.Under. -/
import Derived.Test.YthbjgcmbbdlfkaaFd
set_option linter.unusedVariables false
set_option linter.unusedSimpArgs false
namespace Go.Proofs.Ythbjgcmbbdlfkaa
open Go.RowKit Go.Shelf Go.Proofs.YthbjgcmbbdlfkaaW.PrintWords Go.Proofs.YthbjgcmbbdlfkaaW.PrintMore Go.Proofs.YthbjgcmbbdlfkaaW.PrintLast

/-- A literal of no elements. -/
theorem R_empty {α : Type} {d : Kd α} {e g : Nat} {w : World} {ok : Nat → Prop} (hg : w.heap[g]? = some (.cells #[] e (0, 0))) (hok : ok g) : d.R e w 0 ok (.slice (some ⟨g, 0, none⟩) 0 0) [] :=
  ⟨fun k hk => by simp [Value.ownBlock] at hk; rw [← hk]; exact hok, [], ⟨by simp, .inr ⟨g, 0, #[], rfl, Nat.zero_le _, hg, Nat.le_refl _, Nat.zero_le _, by simp, by simp⟩⟩, Reps.none _ _⟩
set_option maxHeartbeats 1000000 in
theorem clone_calls (A : Option Addr) (c : Nat) (l : List Rdn) (w : World) (hC : kr.C w A l.length l) (hl : l.length ≤ 1000) :
    Calls Try.prog 43 #[.slice A l.length c] w fun e w' => ∃ A' c', e = .returned (.slice A' l.length c') ∧ kr.R 40 w' 0 (fun q => w.heap.size ≤ q) (.slice A' l.length c') l ∧ Below w.heap.size w w' := by
  have hC := Aside0.mk hC
  cases A with
  | none =>
    have h0 : l = [] := by
      rcases Nat.eq_zero_or_pos l.length with h | h
      · exact List.length_eq_zero_iff.1 h
      · obtain ⟨_, h, _⟩ := hC.out.2.2 h; cases h
    subst h0
    have hr := fun (w : World) => Lib.run_eql_slice_nil (P := Try.prog) w 23 40 none 0 c 0 0 Try.underlying23
    go_enter Try.func43, Try.ntmps43
    go_wp2
    go_ret
    exact ⟨_, _, rfl, Kd.R_nil _ _ _ _ _, Below.refl _ _⟩
  | some a =>
    obtain ⟨N, hN⟩ : ∃ N, l.length = N := ⟨_, rfl⟩
    rw [hN] at hC hl ⊢
    have hN := Aside0.mk hN
    have hr := fun (w : World) => Lib.run_eql_slice_nil (P := Try.prog) w 23 40 (some a) N c 0 0 Try.underlying23
    have hE : kr.R 40 (w.alloc (.cells #[] 40)) 0 (fun q => w.heap.size ≤ q) (.slice (some ⟨w.heap.size, 0, none⟩) 0 0) [] := R_empty (Go.heap_alloc_new w _) (Nat.le_refl _)
    have hE := Aside0.mk hE
    go_enter Try.func43, Try.ntmps43
    go_wp2_with ((with_reducible refine gate_builtin (b := .append) (xs := #[.tmp 5, .tmp 6]) rfl ?_); at_builtin; refine Kd.R_append_rows kr (w0 := w.alloc (.cells #[] 40)) 0 rfl (.tmp 5) (.tmp 6) 23 40 (.agg #[.string ByteArray.empty, .string ByteArray.empty]) 32 rfl Try.underlying23 info40 rfl (by decide) (by omega) (.slice (some ⟨w.heap.size, 0, none⟩) 0 0) [] l _ _ _ (fun q => w.heap.size ≤ q) (fun _ => False) rfl rfl hE.out (Kd.C_alloc hC.out _) (fun _ _ h => h) (fun _ h => h.elim) (fun k hk => by simp at hk; omega) (Below.refl _ _) (Nat.zero_le _) (by simp; omega) ?_; intro v1 w1 ho _ hg _; replace ho := Aside0.mk ho; replace hg := Aside0.mk hg)
    go_ret
    obtain ⟨A', c', e⟩ := Kd.R_slice ho.out
    rw [List.nil_append, hN.out] at e
    refine ⟨A', c', congrArg _ e, ?_, ?_⟩
    · rw [← e]; exact ho.out
    · exact Mod.below (S := fun q => w.heap.size ≤ q) (Mod.trans (Mod.of_below (below_alloc (Below.refl _ _) _)) (Mod.of_grown (S := fun q => w.heap.size ≤ q) hg.out (fun q hq => by simp [Value.ownBlock] at hq; omega)) (fun q hq => .inl hq)) (fun q hq => hq) (Nat.le_refl _)
set_option maxHeartbeats 1000000 in
theorem up_no (A : Option Addr) (c : Nat) (l : List Rdn) (w : World) (hl : Mild l) (hC : kr.C w A l.length l) (h : dnOk l = false ∨ l = []) :
    Calls Try.prog 21 #[.slice A l.length c] w fun e w' => e = .returned (.tuple #[.slice none 0 0, .bool false]) ∧ Below w.heap.size w w' := by
  have hr := Aside0.mk (nright_one w ⟨A, c, l⟩ ⟨hC, hl⟩)
  have hbw := Aside0.mk (below_alloc (Below.refl w.heap.size w) (.cells #[Nm.v ⟨A, c, l⟩] 23))
  unfold Nm.v at hr hbw
  dsimp only at hr hbw
  by_cases hne : l = []
  · subst hne
    go_enter Try.func21, Try.ntmps21
    go_wp2_with fail
    refine hr.out.mono ?_
    rintro e w2 ⟨rfl, hb⟩
    replace hb := Aside0.mk (below_then hbw.out hbw.out.size hb)
    go_wp2_with fail
    go_ret2
    exact ⟨rfl, hb.out⟩
  · have hok : dnOk l = false := h.resolve_right hne
    rw [hok] at hr
    generalize l.length = M at *
    clear hC hl hne hok h
    go_enter Try.func21, Try.ntmps21
    go_wp2_with fail
    refine hr.out.mono ?_
    rintro e w2 ⟨rfl, hb⟩
    replace hb := Aside0.mk (below_then hbw.out hbw.out.size hb)
    go_wp2_with fail
    go_ret2
    exact ⟨rfl, hb.out⟩
set_option maxHeartbeats 1000000 in
theorem up_yes (A : Option Addr) (c : Nat) (l : List Rdn) (w : World) (hl : Mild l) (hc : l.length ≤ c) (hC : kr.C w A l.length l) (hok : dnOk l = true) (hne : l ≠ []) :
    Calls Try.prog 21 #[.slice A l.length c] w fun e w' => (∃ A' c', e = .returned (.tuple #[.slice A' (l.drop 1).length c', .bool true]) ∧ kr.R 40 w' 0 (fun q => w.heap.size ≤ q) (.slice A' (l.drop 1).length c') (l.drop 1)) ∧ Below w.heap.size w w' := by
  have hr := Aside0.mk (nright_one w ⟨A, c, l⟩ ⟨hC, hl⟩)
  have hbw := Aside0.mk (below_alloc (Below.refl w.heap.size w) (.cells #[Nm.v ⟨A, c, l⟩] 23))
  unfold Nm.v at hr hbw
  dsimp only at hr hbw
  have hpos : 0 < l.length := List.length_pos_iff.2 hne
  have hl0 := hl.1
  rw [hok] at hr
  have hsl := slice_from A l.length c 1 1 rfl (by omega)
  have hcl := fun W (h : Below w.heap.size w W) => clone_calls _ (c - 1) (l.drop 1) W (Kd.C_drop (m := 1) (c := c) (Kd.C_below hC h) (by omega) hc) (by rw [List.length_drop]; omega)
  rw [show l.length - 1 = (l.drop 1).length from List.length_drop.symm] at hsl
  obtain ⟨A', hA'⟩ : ∃ A', (if c = 1 then A else A.map (·.add (1 * kr.sz))) = A' := ⟨_, rfl⟩
  rw [hA'] at hsl
  replace hcl := Aside0.mk (fun W h => hA' ▸ hcl W h)
  clear hA' hC hl hok hne
  generalize l.drop 1 = l' at *
  generalize l.length = M at *
  have i1 : (0 : Int) < (M : Int) := by omega
  go_enter Try.func21, Try.ntmps21
  go_wp2_with fail
  refine hr.out.mono ?_
  rintro e w2 ⟨rfl, hb⟩
  replace hb := Aside0.mk (below_then hbw.out hbw.out.size hb)
  go_wp2_with fail
  refine (hcl.out _ hb.out).mono ?_
  rintro e w3 ⟨A2, c2, rfl, hR, hb3⟩
  replace hR := Aside0.mk (Kd.R_mono hR (fun q hq => Nat.le_trans hb.out.size hq))
  replace hb3 := Aside0.mk (below_then hb.out hb.out.size hb3)
  go_wp2_with fail
  go_ret2
  exact ⟨⟨_, _, rfl, hR.out⟩, hb3.out⟩
end Go.Proofs.Ythbjgcmbbdlfkaa
namespace Go.Proofs.Ythbjgcmbbdlfkaa
open Go.RowKit Go.Shelf Go.Proofs.YthbjgcmbbdlfkaaW.PrintWords Go.Proofs.YthbjgcmbbdlfkaaW.PrintMore Go.Proofs.YthbjgcmbbdlfkaaW.PrintLast

theorem R_one (w : World) (t v : ByteArray) : kr.R 40 (w.alloc (.cells #[.string t, .string v] 40)) 0 (fun q => w.heap.size ≤ q) (.slice (some ⟨w.heap.size, 0, none⟩) 1 1) [⟨t, v⟩] := by
  refine ⟨fun k hk => by simp [Value.ownBlock] at hk; omega, [.string t, .string v], ?_, ?_⟩
  · have h2 := World.ownsRow_lit (base := 0) (e := 40) (size := kr.sz) w [Value.string t, .string v].toArray 1 (Nat.zero_le _) (by decide) rfl
    simpa using h2
  · exact Reps.snoc (ps := []) (cs := []) (c := [.string t, .string v]) (Reps.none _ _) ⟨[_], [_], rfl, rfl, rfl⟩ rfl
set_option maxHeartbeats 1000000 in
theorem under_yes (t v : ByteArray) (A : Option Addr) (c : Nat) (l : List Rdn) (w : World) (hl : Mild (⟨t, v⟩ :: l)) (hC : kr.C w A l.length l) (hok : dnOk (⟨t, v⟩ :: l) = true) :
    Calls Try.prog 27 #[.agg #[.string t, .string v], .slice A l.length c] w fun e w' => (∃ A' c', e = .returned (.tuple #[.slice A' (l.length + 1) c', .int .i64 0]) ∧ kr.R 40 w' 0 (fun q => w.heap.size ≤ q) (.slice A' (l.length + 1) c') (⟨t, v⟩ :: l)) ∧ Below w.heap.size w w' := by
  have hln := hl.1
  simp at hln
  have hb0 := below_alloc (Below.refl w.heap.size w) (.cells #[.string t, .string v] 40)
  have h0 := heap_alloc_new w (.cells #[.string t, .string v] 40)
  obtain ⟨w1, hw1⟩ : ∃ w1, w.alloc (.cells #[.string t, .string v] 40) = w1 := ⟨_, rfl⟩
  rw [hw1] at h0 hb0
  have p0 : w1.cell? ⟨w.heap.size, 0, none⟩ = some (.string t) := (cell_of_row _ _ _ _ _ _ h0).trans rfl
  have p1 : w1.cell? ⟨w.heap.size, 1, none⟩ = some (.string v) := (cell_of_row _ _ _ _ _ _ h0).trans rfl
  have hE := Aside0.mk (R_one w1 t v)
  have hC1 := Aside0.mk (Kd.C_below (Kd.C_below hC hb0) (below_alloc (Below.refl w1.heap.size w1) (.cells #[.string t, .string v] 40)))
  have hchk := Aside0.mk (fun A' c' W hC => check_calls A' c' (⟨t, v⟩ :: l) W hl hC)
  replace hb0 := Aside0.mk hb0
  obtain ⟨L, hL⟩ : ∃ L, (⟨t, v⟩ :: l : List Rdn) = L := ⟨_, rfl⟩
  rw [hL] at hchk hok
  obtain ⟨N, hN⟩ : ∃ N, l.length = N := ⟨_, rfl⟩
  rw [hN] at hC1 hln ⊢
  have hLN := Aside0.mk (show L.length = N + 1 from by rw [← hL, ← hN]; rfl)
  rw [hLN.out] at hchk
  replace hL := Aside0.mk hL
  replace hN := Aside0.mk hN
  clear hl hC h0
  have hd : dnErr L = if dnOk L = true then 0 else 2 := rfl
  rw [hok] at hd
  rw [show dnErr L = 0 from hd] at hchk
  clear hd hok
  go_enter Try.func27, Try.ntmps27
  go_wp2_with ((with_reducible refine gate_builtin (b := .append) (xs := #[.tmp 8, .tmp 9]) rfl ?_); at_builtin; refine Kd.R_append_rows kr (w0 := w1.alloc (.cells #[.string t, .string v] 40)) 0 rfl (.tmp 8) (.tmp 9) 23 40 (.agg #[.string ByteArray.empty, .string ByteArray.empty]) 32 rfl Try.underlying23 info40 rfl (by decide) (by omega) (.slice (some ⟨w1.heap.size, 0, none⟩) 1 1) [⟨t, v⟩] l _ _ _ (fun q => w1.heap.size ≤ q) (fun _ => False) rfl rfl hE.out hC1.out (fun _ _ h => h) (fun _ h => h.elim) (fun k hk => by simp at hk; omega) (Below.refl _ _) (Nat.zero_le _) (by simp [hN.out]; omega) ?_; intro v1 w2 ho _ hg _; replace ho := Aside0.mk ho; replace hg := Aside0.mk hg)
  obtain ⟨A', c', e⟩ := Kd.R_slice ho.out
  have hb2 := Aside0.mk (show Below w.heap.size w w2 from below_then hb0.out hb0.out.size (Mod.below (S := fun q => w1.heap.size ≤ q) (Mod.trans (Mod.of_below (below_alloc (Below.refl w1.heap.size w1) (.cells #[.string t, .string v] 40))) (Mod.of_grown (S := fun q => w1.heap.size ≤ q) hg.out (fun q hq => by simp [Value.ownBlock] at hq; omega)) (fun q hq => .inl hq)) (fun q hq => hq) (Nat.le_refl _)))
  rw [show ([⟨t, v⟩] ++ l : List Rdn).length = N + 1 from by simp [hN.out]] at e
  replace ho := Aside0.mk (show kr.R 40 w2 0 (fun q => w.heap.size ≤ q) v1 L from by rw [← hL.out]; exact Kd.R_mono ho.out (fun q hq => Nat.le_trans hb0.out.size hq))
  subst e
  have hCL := Aside0.mk (Kd.R_reads ho.out)
  clear hg hE hC1
  obtain ⟨_, _, e2, _, hC2⟩ := hCL.out
  injection e2 with e3 e4 e5
  subst e3
  have hch := Aside0.mk (hchk.out A' c' w2 (by rw [← e4] at hC2; exact hC2))
  clear hC2 hCL e4 e5 hchk
  refine hch.out.mono ?_
  rintro e w3 ⟨rfl, hb3⟩
  have hR := Aside0.mk (Kd.R_below ho.out hb3)
  replace hb3 := Aside0.mk (below_then hb2.out hb2.out.size hb3)
  clear ho hb2
  go_wp2_with fail
  go_ret2
  exact ⟨⟨_, _, rfl, by rw [hL.out]; exact hR.out⟩, hb3.out⟩
set_option maxHeartbeats 1000000 in
theorem under_no (t v : ByteArray) (A : Option Addr) (c : Nat) (l : List Rdn) (w : World) (hl : Mild (⟨t, v⟩ :: l)) (hC : kr.C w A l.length l) (hok : dnOk (⟨t, v⟩ :: l) = false) :
    Calls Try.prog 27 #[.agg #[.string t, .string v], .slice A l.length c] w fun e w' => e = .returned (.tuple #[.slice none 0 0, .int .i64 2]) ∧ Below w.heap.size w w' := by
  have hln := hl.1
  simp at hln
  have hb0 := below_alloc (Below.refl w.heap.size w) (.cells #[.string t, .string v] 40)
  have h0 := heap_alloc_new w (.cells #[.string t, .string v] 40)
  obtain ⟨w1, hw1⟩ : ∃ w1, w.alloc (.cells #[.string t, .string v] 40) = w1 := ⟨_, rfl⟩
  rw [hw1] at h0 hb0
  have p0 : w1.cell? ⟨w.heap.size, 0, none⟩ = some (.string t) := (cell_of_row _ _ _ _ _ _ h0).trans rfl
  have p1 : w1.cell? ⟨w.heap.size, 1, none⟩ = some (.string v) := (cell_of_row _ _ _ _ _ _ h0).trans rfl
  have hE := Aside0.mk (R_one w1 t v)
  have hC1 := Aside0.mk (Kd.C_below (Kd.C_below hC hb0) (below_alloc (Below.refl w1.heap.size w1) (.cells #[.string t, .string v] 40)))
  have hchk := Aside0.mk (fun A' c' W hC => check_calls A' c' (⟨t, v⟩ :: l) W hl hC)
  replace hb0 := Aside0.mk hb0
  obtain ⟨L, hL⟩ : ∃ L, (⟨t, v⟩ :: l : List Rdn) = L := ⟨_, rfl⟩
  rw [hL] at hchk hok
  obtain ⟨N, hN⟩ : ∃ N, l.length = N := ⟨_, rfl⟩
  rw [hN] at hC1 hln ⊢
  have hLN := Aside0.mk (show L.length = N + 1 from by rw [← hL, ← hN]; rfl)
  rw [hLN.out] at hchk
  replace hL := Aside0.mk hL
  replace hN := Aside0.mk hN
  clear hl hC h0
  have hd : dnErr L = if dnOk L = true then 0 else 2 := rfl
  rw [hok] at hd
  rw [show dnErr L = 2 from hd] at hchk
  clear hd hok
  go_enter Try.func27, Try.ntmps27
  go_wp2_with ((with_reducible refine gate_builtin (b := .append) (xs := #[.tmp 8, .tmp 9]) rfl ?_); at_builtin; refine Kd.R_append_rows kr (w0 := w1.alloc (.cells #[.string t, .string v] 40)) 0 rfl (.tmp 8) (.tmp 9) 23 40 (.agg #[.string ByteArray.empty, .string ByteArray.empty]) 32 rfl Try.underlying23 info40 rfl (by decide) (by omega) (.slice (some ⟨w1.heap.size, 0, none⟩) 1 1) [⟨t, v⟩] l _ _ _ (fun q => w1.heap.size ≤ q) (fun _ => False) rfl rfl hE.out hC1.out (fun _ _ h => h) (fun _ h => h.elim) (fun k hk => by simp at hk; omega) (Below.refl _ _) (Nat.zero_le _) (by simp [hN.out]; omega) ?_; intro v1 w2 ho _ hg _; replace ho := Aside0.mk ho; replace hg := Aside0.mk hg)
  obtain ⟨A', c', e⟩ := Kd.R_slice ho.out
  have hb2 := Aside0.mk (show Below w.heap.size w w2 from below_then hb0.out hb0.out.size (Mod.below (S := fun q => w1.heap.size ≤ q) (Mod.trans (Mod.of_below (below_alloc (Below.refl w1.heap.size w1) (.cells #[.string t, .string v] 40))) (Mod.of_grown (S := fun q => w1.heap.size ≤ q) hg.out (fun q hq => by simp [Value.ownBlock] at hq; omega)) (fun q hq => .inl hq)) (fun q hq => hq) (Nat.le_refl _)))
  rw [show ([⟨t, v⟩] ++ l : List Rdn).length = N + 1 from by simp [hN.out]] at e
  replace ho := Aside0.mk (show kr.R 40 w2 0 (fun q => w.heap.size ≤ q) v1 L from by rw [← hL.out]; exact Kd.R_mono ho.out (fun q hq => Nat.le_trans hb0.out.size hq))
  subst e
  have hCL := Aside0.mk (Kd.R_reads ho.out)
  clear hg hE hC1
  obtain ⟨_, _, e2, _, hC2⟩ := hCL.out
  injection e2 with e3 e4 e5
  subst e3
  have hch := Aside0.mk (hchk.out A' c' w2 (by rw [← e4] at hC2; exact hC2))
  clear hC2 hCL e4 e5 hchk
  refine hch.out.mono ?_
  rintro e w3 ⟨rfl, hb3⟩
  replace hb3 := Aside0.mk (below_then hb2.out hb2.out.size hb3)
  clear ho hb2
  go_wp2_with fail
  go_ret2
  exact ⟨rfl, hb3.out⟩
end Go.Proofs.Ythbjgcmbbdlfkaa
