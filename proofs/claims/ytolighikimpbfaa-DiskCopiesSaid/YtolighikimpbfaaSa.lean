/- same: stands a disk as the document's? Disks of which only what is written is apart. -/
import Derived.Test.YtolighikimpbfaaRc
import Derived.Deep.DrawnRows
set_option linter.unusedVariables false
set_option linter.unusedSimpArgs false
namespace Go.Proofs.Ytolighikimpbfaa
open Go.RowKit Go.Shelf Go.Proofs.YtolighikimpbfaaW.PrintWords Go.Proofs.YtolighikimpbfaaW.PrintMore Go.Proofs.YtolighikimpbfaaW.PrintLast
attribute [local go_sem ↓] Go.wp_at_zero Go.wp_at_succ

/-- A disk, nothing of which that its calls turn lies in O. -/
def Own1 (O : Nat → Prop) (w : World) (g : Nat) (ds : DS) : Prop := ∃ S RO, Dk w S RO g ds ∧ ∀ q, S q → ¬ O q
section
variable {O O' : Nat → Prop} {w w' : World} {g : Nat} {ds : DS}
theorem Own.one (h : Own O w g ds) : Own1 O w g ds := by
  obtain ⟨S, RO, h1, h2⟩ := h
  exact ⟨S, RO, h1, fun q hq => h2 q (.inl hq)⟩
theorem Own1.bare (h : Own1 O w g ds) : Own (fun _ => False) w g ds := by
  obtain ⟨S, RO, h1, h2⟩ := h
  exact ⟨S, RO, h1, fun q hq hn => hn⟩
theorem Own1.weaken (h : Own1 O w g ds) (ho : ∀ q, O' q → O q) : Own1 O' w g ds := by
  obtain ⟨S, RO, h1, h2⟩ := h
  exact ⟨S, RO, h1, fun q hq hn => h2 q hq (ho q hn)⟩
theorem Own1.below (h : Own1 O w g ds) (hb : Below w.heap.size w w') : Own1 O w' g ds := by
  obtain ⟨S, RO, h1, h2⟩ := h
  exact ⟨S, RO, h1.below hb, h2⟩
theorem Own1.add (h : Own1 O w g ds) (hb : Below w.heap.size w w') : Own1 (fun q => O q ∨ w.heap.size ≤ q) w' g ds := by
  obtain ⟨S, RO, h1, h2⟩ := h
  refine ⟨_, _, h1.bound.below hb, fun q hq hn => ?_⟩
  rcases hn with hn | hn
  · exact h2 q hq.1 hn
  · have := hq.2; omega
end
set_option maxHeartbeats 2000000 in
theorem same_calls (O Oe : Nat → Prop) (g : Nat) (v : Value) (ds : DS) (w : World) (h : Own O w g ds) (hr : Ref w Oe v ds) (hf : Fine ds) (hd : Std ds) :
    Calls Try.prog 21 #[.pointer (some ⟨g, 0, none⟩), v] w fun e w' => e = .returned (.bool true) ∧ Below w.heap.size w w' := by
  have hr0 := hr
  obtain ⟨A, c, A2, c2, rfl, h1, h2, h3, h4⟩ := hr
  have hb := below_alloc (Below.refl w.heap.size w) (.cells #[.slice A ds.lasts.length c, .slice A2 ds.waits.length c2, .int .i64 ds.armed, .int .i64 ds.limit, .int .i64 ds.done] 45)
  obtain ⟨b0, b1, b2, b3, b4⟩ := box5 w (.slice A ds.lasts.length c) (.slice A2 ds.waits.length c2) (.int .i64 ds.armed) (.int .i64 ds.limit) (.int .i64 ds.done) 45
  obtain ⟨w1, hw1⟩ : ∃ w1, w.alloc (.cells #[.slice A ds.lasts.length c, .slice A2 ds.waits.length c2, .int .i64 ds.armed, .int .i64 ds.limit, .int .i64 ds.done] 45) = w1 := ⟨_, rfl⟩
  rw [hw1] at hb b0 b1 b2 b3 b4
  have hz1 : w1.heap.size = w.heap.size + 1 := by rw [← hw1]; simp
  have hrd := readall_own (h.below hb) hf.len ds.lasts.length hf.las.symm
  have hK : ∀ W, Below w1.heap.size w1 W → W.cell? ⟨w.heap.size, 0, none⟩ = some (.slice A ds.lasts.length c) ∧ W.cell? ⟨w.heap.size, 1, none⟩ = some (.slice A2 ds.waits.length c2) ∧ W.cell? ⟨w.heap.size, 2, none⟩ = some (.int .i64 ds.armed) ∧
      W.cell? ⟨w.heap.size, 3, none⟩ = some (.int .i64 ds.limit) ∧ W.cell? ⟨w.heap.size, 4, none⟩ = some (.int .i64 ds.done) := fun W hW =>
    ⟨pw_cell_below hW b0, pw_cell_below hW b1, pw_cell_below hW b2, pw_cell_below hW b3, pw_cell_below hW b4⟩
  have hN : ∀ W, Below w1.heap.size w1 W → Calls Try.prog 22 #[.agg #[.slice A ds.lasts.length c, .slice A2 ds.waits.length c2, .int .i64 ds.armed, .int .i64 ds.limit, .int .i64 ds.done]] W fun e w' => ∃ u, e = .returned u ∧ u8.R 5 w' 0 (fun q => W.heap.size ≤ q) u (toI ds.now) ∧ Below W.heap.size W w' :=
    fun W hW => now_calls Oe _ ds W ((hr0.below hb).below hW) hf hd
  have hS : ∀ W, Below w1.heap.size w1 W → Calls Try.prog 26 #[.pointer (some ⟨g, 0, none⟩)] W fun e w' => e = .returned (.int .i64 (ds.lasts.length : Int)) ∧ Below W.heap.size W w' :=
    fun W hW => by rw [hf.las]; exact size_own ((h.below hb).below hW)
  have hWa : ∀ W, Below w1.heap.size w1 W → Calls Try.prog 18 #[.pointer (some ⟨g, 0, none⟩)] W fun e w' => e = .returned (.int .i64 (ds.waits.length : Int)) ∧ Below W.heap.size W w' :=
    fun W hW => waits_own ((h.below hb).below hW)
  have hSt : ∀ W, Below w1.heap.size w1 W → Calls Try.prog 27 #[.pointer (some ⟨g, 0, none⟩)] W fun e w' => e = .returned (.int .i64 ds.done) ∧ Below W.heap.size W w' :=
    fun W hW => steps_own ((h.below hb).below hW)
  have hnl : ds.now.length = ds.lasts.length := hf.las.symm
  have hb := Aside0.mk hb
  replace hK := Aside0.mk hK
  replace hN := Aside0.mk hN
  replace hS := Aside0.mk hS
  replace hWa := Aside0.mk hWa
  replace hSt := Aside0.mk hSt
  replace hrd := Aside0.mk hrd
  replace hnl := Aside0.mk hnl
  clear h h1 h2 h3 h4 hr0 hf hd
  generalize ds.lasts.length = n1 at *
  generalize ds.waits.length = n2 at *
  go_enter Try.func21, Try.ntmps21
  go_wp2_with fail
  refine hrd.out.mono ?_
  rintro e w2 ⟨v2, rfl, hv2, hb2⟩
  obtain ⟨A3, c3, rfl⟩ := Kd.R_slice hv2
  rw [toI_length, hnl.out] at hv2 ⊢
  have hcv : ∀ W, Below w2.heap.size w2 W → (convert 31 9 (.slice A3 n1 c3)).run Try.prog W = .ok (.string (strOfNums (toI ds.now))) W := fun W hW => by
    have := Kd.C_string (P := Try.prog) (dst := 9) (c := c3) Try.underlying31 Try.underlying5 Try.underlying9 (Kd.C_below (Kd.R_reads' hv2).2.2 hW)
    rwa [toI_length, hnl.out] at this
  have hcn : ∀ A9 c9 (W1 W : World) (ok9 : Nat → Prop), u8.R 5 W1 0 ok9 (.slice A9 n1 c9) (toI ds.now) → Below W1.heap.size W1 W → (convert 31 9 (.slice A9 n1 c9)).run Try.prog W = .ok (.string (strOfNums (toI ds.now))) W := fun A9 c9 W1 W ok9 hv hW => by
    have := Kd.C_string (P := Try.prog) (dst := 9) (c := c9) Try.underlying31 Try.underlying5 Try.underlying9 (Kd.C_below (Kd.R_reads' hv).2.2 hW)
    rwa [toI_length, hnl.out] at this
  have hS2 : ∀ W, Below w2.heap.size w2 W → Below w1.heap.size w1 W := fun W hW => hb2.trans (hW.mono hb2.size)
  have hX : ∀ W, Below w2.heap.size w2 W → (W.cell? ⟨w.heap.size, 0, none⟩ = some (.slice A n1 c) ∧ W.cell? ⟨w.heap.size, 1, none⟩ = some (.slice A2 n2 c2) ∧ W.cell? ⟨w.heap.size, 2, none⟩ = some (.int .i64 ds.armed) ∧
      W.cell? ⟨w.heap.size, 3, none⟩ = some (.int .i64 ds.limit) ∧ W.cell? ⟨w.heap.size, 4, none⟩ = some (.int .i64 ds.done) ∧ (convert 31 9 (.slice A3 n1 c3)).run Try.prog W = .ok (.string (strOfNums (toI ds.now))) W) := fun W hW => have k := hK.out W (hS2 W hW); ⟨k.1, k.2.1, k.2.2.1, k.2.2.2.1, k.2.2.2.2, hcv W hW⟩
  clear hcv
  replace hcn := Aside0.mk hcn
  replace hX := Aside0.mk hX
  replace hS2 := Aside0.mk hS2
  have hb2 := Aside0.mk (below_then hb.out hb.out.size hb2)
  have hr0 : Aside0 (Below w2.heap.size w2 w2.drew) := Aside0.mk (below_drew (Below.refl _ _))
  replace hv2 := Aside0.mk hv2
  clear hrd
  generalize strOfNums (toI ds.now) = str at *
  go_wp2_with fail
  refine start_ (n := 34) (S := fun w' => w'.cell? ⟨w.heap.size, 0, none⟩ = some (.slice A n1 c) ∧ w'.cell? ⟨w.heap.size, 1, none⟩ = some (.slice A2 n2 c2) ∧ w'.cell? ⟨w.heap.size, 2, none⟩ = some (.int .i64 ds.armed) ∧ w'.cell? ⟨w.heap.size, 3, none⟩ = some (.int .i64 ds.limit) ∧ w'.cell? ⟨w.heap.size, 4, none⟩ = some (.int .i64 ds.done) ∧ (convert 31 9 (.slice A3 n1 c3)).run Try.prog w' = .ok (.string str) w') (ds := []) #[false, false, false, false, false, false, false, false, false, false, false, false, false, false, false, false, false, false, false, false, false, false, false, false, false, false, false, false, false, false, false, false, false, false] (by kernel_rfl) rfl rfl ⟨(hX.out _ hr0.out).1, (hX.out _ hr0.out).2.1, (hX.out _ hr0.out).2.2.1, (hX.out _ hr0.out).2.2.2.1, (hX.out _ hr0.out).2.2.2.2.1, (hX.out _ hr0.out).2.2.2.2.2⟩ (fun hHeld => ?_)
  refine pure_ (i := 0) (N := some 15) (v := ?_) (a' := ?_) #[true, false, false, false, false, false, false, false, false, false, false, false, false, false, false, false, false, false, false, false, false, false, false, false, false, false, false, false, false, false, false, false, false, false] rfl rfl (by kernel_rfl) (fun _ _ _ h => h) (Or.inl ⟨by rfl, ?_⟩) ?_ ?_
  rotate_left
  · intro w'
    go_simp
    with_reducible rfl
  rotate_left
  · simp only [Act.put, List.setIfInBounds_toArray, List.set_cons_zero, List.set_cons_succ, i64_w, i32_w]
    rfl
  refine pure_ (i := 1) (N := some 16) (v := ?_) (a' := ?_) #[true, true, false, false, false, false, false, false, false, false, false, false, false, false, false, false, false, false, false, false, false, false, false, false, false, false, false, false, false, false, false, false, false, false] rfl rfl (by kernel_rfl) (fun _ _ _ h => h) (Or.inl ⟨by rfl, ?_⟩) ?_ ?_
  rotate_left
  · intro w'
    go_simp
    with_reducible rfl
  rotate_left
  · simp only [Act.put, List.setIfInBounds_toArray, List.set_cons_zero, List.set_cons_succ, i64_w, i32_w]
    rfl
  refine pure_ (i := 2) (N := some 17) (v := ?_) (a' := ?_) #[true, true, true, false, false, false, false, false, false, false, false, false, false, false, false, false, false, false, false, false, false, false, false, false, false, false, false, false, false, false, false, false, false, false] rfl rfl (by kernel_rfl) (fun _ _ _ h => h) (Or.inl ⟨by rfl, ?_⟩) ?_ ?_
  rotate_left
  · intro w'
    go_simp
    with_reducible rfl
  rotate_left
  · simp only [Act.put, List.setIfInBounds_toArray, List.set_cons_zero, List.set_cons_succ, i64_w, i32_w]
    rfl
  refine pure_ (i := 3) (N := some 18) (v := ?_) (a' := ?_) #[true, true, true, true, false, false, false, false, false, false, false, false, false, false, false, false, false, false, false, false, false, false, false, false, false, false, false, false, false, false, false, false, false, false] rfl rfl (by kernel_rfl) (fun _ _ _ h => h) (Or.inl ⟨by rfl, ?_⟩) ?_ ?_
  rotate_left
  · intro w'
    go_simp
    with_reducible rfl
  rotate_left
  · simp only [Act.put, List.setIfInBounds_toArray, List.set_cons_zero, List.set_cons_succ, i64_w, i32_w]
    rfl
  refine take_ (i := 4) (N := some 19) (v := ?_) (a' := ?_) #[true, true, true, true, true, false, false, false, false, false, false, false, false, false, false, false, false, false, false, false, false, false, false, false, false, false, false, false, false, false, false, false, false, false] rfl rfl (by kernel_rfl) (fun _ _ _ h => h) (Or.inl ⟨by rfl, ?_⟩) hHeld ?_ ?_
  rotate_left
  · rintro w' ⟨s0, s1, s2, s3, s4, s5⟩
    go_simp
    with_reducible rfl
  rotate_left
  · simp only [Act.put, List.setIfInBounds_toArray, List.set_cons_zero, List.set_cons_succ, i64_w, i32_w]
    rfl
  refine take_ (i := 5) (N := some 20) (v := ?_) (a' := ?_) #[true, true, true, true, true, true, false, false, false, false, false, false, false, false, false, false, false, false, false, false, false, false, false, false, false, false, false, false, false, false, false, false, false, false] rfl rfl (by kernel_rfl) (fun _ _ _ h => h) (Or.inl ⟨by rfl, ?_⟩) hHeld ?_ ?_
  rotate_left
  · rintro w' ⟨s0, s1, s2, s3, s4, s5⟩
    go_simp
    with_reducible rfl
  rotate_left
  · simp only [Act.put, List.setIfInBounds_toArray, List.set_cons_zero, List.set_cons_succ, i64_w, i32_w]
    rfl
  refine one_ (i := 6) (N := some 21) #[true, true, true, true, true, true, true, false, false, false, false, false, false, false, false, false, false, false, false, false, false, false, false, false, false, false, false, false, false, false, false, false, false, false] rfl rfl (by kernel_rfl) (by decide) (fun K hK => ?_)
  refine goes_ Try.func22 (by kernel_rfl) rfl #[.agg #[.slice A n1 c, .slice A2 n2 c2, .int .i64 ds.armed, .int .i64 ds.limit, .int .i64 ds.done]] (by rfl) rfl rfl (by simp only [List.map_toArray, List.map_cons, List.map_nil]; rfl) ?_
  with_reducible refine (hN.out _ (hS2.out _ hr0.out)).mono ?_
  rintro e w3 ⟨u, rfl, hu, r3⟩
  refine ⟨_, rfl, ?_⟩
  obtain ⟨A4, c4, rfl⟩ := Kd.R_slice hu
  rw [toI_length, hnl.out] at hu ⊢
  have hcu := hcn.out _ _ _ _ _ hu (Below.refl _ _)
  replace r3 := Aside0.mk (hr0.out.trans r3)
  replace hu := Aside0.mk hu
  refine hK.out _ _ ⟨(hX.out _ r3.out).1, (hX.out _ r3.out).2.1, (hX.out _ r3.out).2.2.1, (hX.out _ r3.out).2.2.2.1, (hX.out _ r3.out).2.2.2.2.1, (hX.out _ r3.out).2.2.2.2.2⟩ (fun hHeld => ?_)
  clear hK K
  refine norm_ (a' := ?_) ?_ ?_
  rotate_left
  · show Act.put _ (some 21) _ = _
    simp only [Act.put, List.setIfInBounds_toArray, List.set_cons_zero, List.set_cons_succ, i64_w, i32_w]
    rfl
  refine one_ (i := 7) (N := some 22) #[true, true, true, true, true, true, true, true, false, false, false, false, false, false, false, false, false, false, false, false, false, false, false, false, false, false, false, false, false, false, false, false, false, false] rfl rfl (by kernel_rfl) (by decide) (fun K hK => ?_)
  refine value_ (w1 := ?_) (v := ?_) (by rfl) rfl ?_ ?_
  rotate_left 2
  · go_simp
    constructor
    · rfl
    · rfl
  refine hK.out _ _ ⟨(hX.out _ r3.out).1, (hX.out _ r3.out).2.1, (hX.out _ r3.out).2.2.1, (hX.out _ r3.out).2.2.2.1, (hX.out _ r3.out).2.2.2.2.1, (hX.out _ r3.out).2.2.2.2.2⟩ (fun hHeld => ?_)
  clear hK K
  refine norm_ (a' := ?_) ?_ ?_
  rotate_left
  · show Act.put _ (some 22) _ = _
    simp only [Act.put, List.setIfInBounds_toArray, List.set_cons_zero, List.set_cons_succ, i64_w, i32_w]
    rfl
  refine pure_ (i := 8) (N := some 23) (v := ?_) (a' := ?_) #[true, true, true, true, true, true, true, true, true, false, false, false, false, false, false, false, false, false, false, false, false, false, false, false, false, false, false, false, false, false, false, false, false, false] rfl rfl (by kernel_rfl) (fun _ _ _ h => h) (Or.inl ⟨by rfl, ?_⟩) ?_ ?_
  rotate_left
  · intro w'
    go_simp
    with_reducible rfl
  rotate_left
  · simp only [Act.put, List.setIfInBounds_toArray, List.set_cons_zero, List.set_cons_succ, i64_w, i32_w]
    rfl
  refine pure_ (i := 9) (N := some 24) (v := ?_) (a' := ?_) #[true, true, true, true, true, true, true, true, true, true, false, false, false, false, false, false, false, false, false, false, false, false, false, false, false, false, false, false, false, false, false, false, false, false] rfl rfl (by kernel_rfl) (fun _ _ _ h => h) (Or.inl ⟨by rfl, ?_⟩) ?_ ?_
  rotate_left
  · intro w'
    go_simp
    with_reducible rfl
  rotate_left
  · simp only [Act.put, List.setIfInBounds_toArray, List.set_cons_zero, List.set_cons_succ, i64_w, i32_w]
    rfl
  refine pure_ (i := 10) (N := some 25) (v := ?_) (a' := ?_) #[true, true, true, true, true, true, true, true, true, true, true, false, false, false, false, false, false, false, false, false, false, false, false, false, false, false, false, false, false, false, false, false, false, false] rfl rfl (by kernel_rfl) (fun _ _ _ h => h) (Or.inl ⟨by rfl, ?_⟩) ?_ ?_
  rotate_left
  · intro w'
    go_simp
    with_reducible rfl
  rotate_left
  · simp only [Act.put, List.setIfInBounds_toArray, List.set_cons_zero, List.set_cons_succ, i64_w, i32_w]
    rfl
  refine pure_ (i := 11) (N := some 26) (v := ?_) (a' := ?_) #[true, true, true, true, true, true, true, true, true, true, true, true, false, false, false, false, false, false, false, false, false, false, false, false, false, false, false, false, false, false, false, false, false, false] rfl rfl (by kernel_rfl) (fun _ _ _ h => h) (Or.inl ⟨by rfl, ?_⟩) ?_ ?_
  rotate_left
  · intro w'
    go_simp
    with_reducible rfl
  rotate_left
  · simp only [Act.put, List.setIfInBounds_toArray, List.set_cons_zero, List.set_cons_succ, i64_w, i32_w]
    rfl
  refine pure_ (i := 13) (N := some 28) (v := ?_) (a' := ?_) #[true, true, true, true, true, true, true, true, true, true, true, true, false, true, false, false, false, false, false, false, false, false, false, false, false, false, false, false, false, false, false, false, false, false] rfl rfl (by kernel_rfl) (fun _ _ _ h => h) (Or.inl ⟨by rfl, ?_⟩) ?_ ?_
  rotate_left
  · intro w'
    go_simp
    with_reducible rfl
  rotate_left
  · simp only [Act.put, List.setIfInBounds_toArray, List.set_cons_zero, List.set_cons_succ, i64_w, i32_w]
    rfl
  refine take_ (i := 14) (N := some 29) (v := ?_) (a' := ?_) #[true, true, true, true, true, true, true, true, true, true, true, true, false, true, true, false, false, false, false, false, false, false, false, false, false, false, false, false, false, false, false, false, false, false] rfl rfl (by kernel_rfl) (fun _ _ _ h => h) (Or.inl ⟨by rfl, ?_⟩) hHeld ?_ ?_
  rotate_left
  · rintro w' ⟨s0, s1, s2, s3, s4, s5⟩
    go_simp
    with_reducible rfl
  rotate_left
  · simp only [Act.put, List.setIfInBounds_toArray, List.set_cons_zero, List.set_cons_succ, i64_w, i32_w]
    rfl
  refine pure_ (i := 15) (N := some 30) (v := ?_) (a' := ?_) #[true, true, true, true, true, true, true, true, true, true, true, true, false, true, true, true, false, false, false, false, false, false, false, false, false, false, false, false, false, false, false, false, false, false] rfl rfl (by kernel_rfl) (fun _ _ _ h => h) (Or.inl ⟨by rfl, ?_⟩) ?_ ?_
  rotate_left
  · intro w'
    go_simp
    with_reducible rfl
  rotate_left
  · simp only [Act.put, List.setIfInBounds_toArray, List.set_cons_zero, List.set_cons_succ, i64_w, i32_w]
    rfl
  refine one_ (i := 12) (N := some 27) #[true, true, true, true, true, true, true, true, true, true, true, true, true, true, true, true, false, false, false, false, false, false, false, false, false, false, false, false, false, false, false, false, false, false] rfl rfl (by kernel_rfl) (by decide) (fun K hK => ?_)
  refine goes_ Try.func26 (by kernel_rfl) rfl #[.pointer (some ⟨g, 0, none⟩)] (by rfl) rfl rfl (by simp only [List.map_toArray, List.map_cons, List.map_nil]; rfl) ?_
  with_reducible refine (hS.out _ (hS2.out _ r3.out)).mono ?_
  rintro e w4 ⟨rfl, r4⟩
  refine ⟨_, rfl, ?_⟩
  replace r4 := Aside0.mk (r3.out.trans (r4.mono r3.out.size))
  refine hK.out _ _ ⟨(hX.out _ r4.out).1, (hX.out _ r4.out).2.1, (hX.out _ r4.out).2.2.1, (hX.out _ r4.out).2.2.2.1, (hX.out _ r4.out).2.2.2.2.1, (hX.out _ r4.out).2.2.2.2.2⟩ (fun hHeld => ?_)
  clear hK K
  refine norm_ (a' := ?_) ?_ ?_
  rotate_left
  · show Act.put _ (some 27) _ = _
    simp only [Act.put, List.setIfInBounds_toArray, List.set_cons_zero, List.set_cons_succ, i64_w, i32_w]
    rfl
  refine pure_ (i := 16) (N := some 31) (v := ?_) (a' := ?_) #[true, true, true, true, true, true, true, true, true, true, true, true, true, true, true, true, true, false, false, false, false, false, false, false, false, false, false, false, false, false, false, false, false, false] rfl rfl (by kernel_rfl) (fun _ _ _ h => h) (Or.inl ⟨by rfl, ?_⟩) ?_ ?_
  rotate_left
  · intro w'
    go_simp
    with_reducible rfl
  rotate_left
  · simp only [Act.put, List.setIfInBounds_toArray, List.set_cons_zero, List.set_cons_succ, i64_w, i32_w]
    rfl
  refine pure_ (i := 17) (N := some 32) (v := ?_) (a' := ?_) #[true, true, true, true, true, true, true, true, true, true, true, true, true, true, true, true, true, true, false, false, false, false, false, false, false, false, false, false, false, false, false, false, false, false] rfl rfl (by kernel_rfl) (fun _ _ _ h => h) (Or.inl ⟨by rfl, ?_⟩) ?_ ?_
  rotate_left
  · intro w'
    go_simp
    with_reducible rfl
  rotate_left
  · simp only [Act.put, List.setIfInBounds_toArray, List.set_cons_zero, List.set_cons_succ, i64_w, i32_w]
    rfl
  refine pure_ (i := 18) (N := some 33) (v := ?_) (a' := ?_) #[true, true, true, true, true, true, true, true, true, true, true, true, true, true, true, true, true, true, true, false, false, false, false, false, false, false, false, false, false, false, false, false, false, false] rfl rfl (by kernel_rfl) (fun _ _ _ h => h) (Or.inl ⟨by rfl, ?_⟩) ?_ ?_
  rotate_left
  · intro w'
    go_simp
    with_reducible rfl
  rotate_left
  · simp only [Act.put, List.setIfInBounds_toArray, List.set_cons_zero, List.set_cons_succ, i64_w, i32_w]
    rfl
  refine pure_ (i := 19) (N := some 34) (v := ?_) (a' := ?_) #[true, true, true, true, true, true, true, true, true, true, true, true, true, true, true, true, true, true, true, true, false, false, false, false, false, false, false, false, false, false, false, false, false, false] rfl rfl (by kernel_rfl) (fun _ _ _ h => h) (Or.inl ⟨by rfl, ?_⟩) ?_ ?_
  rotate_left
  · intro w'
    go_simp
    with_reducible rfl
  rotate_left
  · simp only [Act.put, List.setIfInBounds_toArray, List.set_cons_zero, List.set_cons_succ, i64_w, i32_w]
    rfl
  refine pure_ (i := 21) (N := some 36) (v := ?_) (a' := ?_) #[true, true, true, true, true, true, true, true, true, true, true, true, true, true, true, true, true, true, true, true, false, true, false, false, false, false, false, false, false, false, false, false, false, false] rfl rfl (by kernel_rfl) (fun _ _ _ h => h) (Or.inl ⟨by rfl, ?_⟩) ?_ ?_
  rotate_left
  · intro w'
    go_simp
    with_reducible rfl
  rotate_left
  · simp only [Act.put, List.setIfInBounds_toArray, List.set_cons_zero, List.set_cons_succ, i64_w, i32_w]
    rfl
  refine take_ (i := 22) (N := some 37) (v := ?_) (a' := ?_) #[true, true, true, true, true, true, true, true, true, true, true, true, true, true, true, true, true, true, true, true, false, true, true, false, false, false, false, false, false, false, false, false, false, false] rfl rfl (by kernel_rfl) (fun _ _ _ h => h) (Or.inl ⟨by rfl, ?_⟩) hHeld ?_ ?_
  rotate_left
  · rintro w' ⟨s0, s1, s2, s3, s4, s5⟩
    go_simp
    with_reducible rfl
  rotate_left
  · simp only [Act.put, List.setIfInBounds_toArray, List.set_cons_zero, List.set_cons_succ, i64_w, i32_w]
    rfl
  refine pure_ (i := 23) (N := some 38) (v := ?_) (a' := ?_) #[true, true, true, true, true, true, true, true, true, true, true, true, true, true, true, true, true, true, true, true, false, true, true, true, false, false, false, false, false, false, false, false, false, false] rfl rfl (by kernel_rfl) (fun _ _ _ h => h) (Or.inl ⟨by rfl, ?_⟩) ?_ ?_
  rotate_left
  · intro w'
    go_simp
    with_reducible rfl
  rotate_left
  · simp only [Act.put, List.setIfInBounds_toArray, List.set_cons_zero, List.set_cons_succ, i64_w, i32_w]
    rfl
  refine one_ (i := 20) (N := some 35) #[true, true, true, true, true, true, true, true, true, true, true, true, true, true, true, true, true, true, true, true, true, true, true, true, false, false, false, false, false, false, false, false, false, false] rfl rfl (by kernel_rfl) (by decide) (fun K hK => ?_)
  refine goes_ Try.func18 (by kernel_rfl) rfl #[.pointer (some ⟨g, 0, none⟩)] (by rfl) rfl rfl (by simp only [List.map_toArray, List.map_cons, List.map_nil]; rfl) ?_
  with_reducible refine (hWa.out _ (hS2.out _ r4.out)).mono ?_
  rintro e w5 ⟨rfl, r5⟩
  refine ⟨_, rfl, ?_⟩
  replace r5 := Aside0.mk (r4.out.trans (r5.mono r4.out.size))
  refine hK.out _ _ ⟨(hX.out _ r5.out).1, (hX.out _ r5.out).2.1, (hX.out _ r5.out).2.2.1, (hX.out _ r5.out).2.2.2.1, (hX.out _ r5.out).2.2.2.2.1, (hX.out _ r5.out).2.2.2.2.2⟩ (fun hHeld => ?_)
  clear hK K
  refine norm_ (a' := ?_) ?_ ?_
  rotate_left
  · show Act.put _ (some 35) _ = _
    simp only [Act.put, List.setIfInBounds_toArray, List.set_cons_zero, List.set_cons_succ, i64_w, i32_w]
    rfl
  refine pure_ (i := 24) (N := some 39) (v := ?_) (a' := ?_) #[true, true, true, true, true, true, true, true, true, true, true, true, true, true, true, true, true, true, true, true, true, true, true, true, true, false, false, false, false, false, false, false, false, false] rfl rfl (by kernel_rfl) (fun _ _ _ h => h) (Or.inl ⟨by rfl, ?_⟩) ?_ ?_
  rotate_left
  · intro w'
    go_simp
    with_reducible rfl
  rotate_left
  · simp only [Act.put, List.setIfInBounds_toArray, List.set_cons_zero, List.set_cons_succ, i64_w, i32_w]
    rfl
  refine pure_ (i := 25) (N := some 40) (v := ?_) (a' := ?_) #[true, true, true, true, true, true, true, true, true, true, true, true, true, true, true, true, true, true, true, true, true, true, true, true, true, true, false, false, false, false, false, false, false, false] rfl rfl (by kernel_rfl) (fun _ _ _ h => h) (Or.inl ⟨by rfl, ?_⟩) ?_ ?_
  rotate_left
  · intro w'
    go_simp
    with_reducible rfl
  rotate_left
  · simp only [Act.put, List.setIfInBounds_toArray, List.set_cons_zero, List.set_cons_succ, i64_w, i32_w]
    rfl
  refine pure_ (i := 26) (N := some 41) (v := ?_) (a' := ?_) #[true, true, true, true, true, true, true, true, true, true, true, true, true, true, true, true, true, true, true, true, true, true, true, true, true, true, true, false, false, false, false, false, false, false] rfl rfl (by kernel_rfl) (fun _ _ _ h => h) (Or.inl ⟨by rfl, ?_⟩) ?_ ?_
  rotate_left
  · intro w'
    go_simp
    with_reducible rfl
  rotate_left
  · simp only [Act.put, List.setIfInBounds_toArray, List.set_cons_zero, List.set_cons_succ, i64_w, i32_w]
    rfl
  refine pure_ (i := 27) (N := some 42) (v := ?_) (a' := ?_) #[true, true, true, true, true, true, true, true, true, true, true, true, true, true, true, true, true, true, true, true, true, true, true, true, true, true, true, true, false, false, false, false, false, false] rfl rfl (by kernel_rfl) (fun _ _ _ h => h) (Or.inl ⟨by rfl, ?_⟩) ?_ ?_
  rotate_left
  · intro w'
    go_simp
    with_reducible rfl
  rotate_left
  · simp only [Act.put, List.setIfInBounds_toArray, List.set_cons_zero, List.set_cons_succ, i64_w, i32_w]
    rfl
  refine pure_ (i := 29) (N := some 44) (v := ?_) (a' := ?_) #[true, true, true, true, true, true, true, true, true, true, true, true, true, true, true, true, true, true, true, true, true, true, true, true, true, true, true, true, false, true, false, false, false, false] rfl rfl (by kernel_rfl) (fun _ _ _ h => h) (Or.inl ⟨by rfl, ?_⟩) ?_ ?_
  rotate_left
  · intro w'
    go_simp
    with_reducible rfl
  rotate_left
  · simp only [Act.put, List.setIfInBounds_toArray, List.set_cons_zero, List.set_cons_succ, i64_w, i32_w]
    rfl
  refine take_ (i := 30) (N := some 45) (v := ?_) (a' := ?_) #[true, true, true, true, true, true, true, true, true, true, true, true, true, true, true, true, true, true, true, true, true, true, true, true, true, true, true, true, false, true, true, false, false, false] rfl rfl (by kernel_rfl) (fun _ _ _ h => h) (Or.inl ⟨by rfl, ?_⟩) hHeld ?_ ?_
  rotate_left
  · rintro w' ⟨s0, s1, s2, s3, s4, s5⟩
    go_simp
    with_reducible rfl
  rotate_left
  · simp only [Act.put, List.setIfInBounds_toArray, List.set_cons_zero, List.set_cons_succ, i64_w, i32_w]
    rfl
  refine one_ (i := 28) (N := some 43) #[true, true, true, true, true, true, true, true, true, true, true, true, true, true, true, true, true, true, true, true, true, true, true, true, true, true, true, true, true, true, true, false, false, false] rfl rfl (by kernel_rfl) (by decide) (fun K hK => ?_)
  refine goes_ Try.func27 (by kernel_rfl) rfl #[.pointer (some ⟨g, 0, none⟩)] (by rfl) rfl rfl (by simp only [List.map_toArray, List.map_cons, List.map_nil]; rfl) ?_
  with_reducible refine (hSt.out _ (hS2.out _ r5.out)).mono ?_
  rintro e w6 ⟨rfl, r6⟩
  refine ⟨_, rfl, ?_⟩
  replace r6 := Aside0.mk (r5.out.trans (r6.mono r5.out.size))
  refine hK.out _ _ ⟨(hX.out _ r6.out).1, (hX.out _ r6.out).2.1, (hX.out _ r6.out).2.2.1, (hX.out _ r6.out).2.2.2.1, (hX.out _ r6.out).2.2.2.2.1, (hX.out _ r6.out).2.2.2.2.2⟩ (fun hHeld => ?_)
  clear hK K
  refine norm_ (a' := ?_) ?_ ?_
  rotate_left
  · show Act.put _ (some 43) _ = _
    simp only [Act.put, List.setIfInBounds_toArray, List.set_cons_zero, List.set_cons_succ, i64_w, i32_w]
    rfl
  refine pure_ (i := 31) (N := some 46) (v := ?_) (a' := ?_) #[true, true, true, true, true, true, true, true, true, true, true, true, true, true, true, true, true, true, true, true, true, true, true, true, true, true, true, true, true, true, true, true, false, false] rfl rfl (by kernel_rfl) (fun _ _ _ h => h) (Or.inl ⟨by rfl, ?_⟩) ?_ ?_
  rotate_left
  · intro w'
    go_simp
    with_reducible rfl
  rotate_left
  · simp only [Act.put, List.setIfInBounds_toArray, List.set_cons_zero, List.set_cons_succ, i64_w, i32_w]
    rfl
  refine pure_ (i := 32) (N := some 47) (v := ?_) (a' := ?_) #[true, true, true, true, true, true, true, true, true, true, true, true, true, true, true, true, true, true, true, true, true, true, true, true, true, true, true, true, true, true, true, true, true, false] rfl rfl (by kernel_rfl) (fun _ _ _ h => h) (Or.inl ⟨by rfl, ?_⟩) ?_ ?_
  rotate_left
  · intro w'
    go_simp
    with_reducible rfl
  rotate_left
  · simp only [Act.put, List.setIfInBounds_toArray, List.set_cons_zero, List.set_cons_succ, i64_w, i32_w]
    rfl
  refine pure_ (i := 33) (N := some 4) (v := ?_) (a' := ?_) #[true, true, true, true, true, true, true, true, true, true, true, true, true, true, true, true, true, true, true, true, true, true, true, true, true, true, true, true, true, true, true, true, true, true] rfl rfl (by kernel_rfl) (fun _ _ _ h => h) (Or.inl ⟨by rfl, ?_⟩) ?_ ?_
  rotate_left
  · intro w'
    go_simp
    with_reducible rfl
  rotate_left
  · simp only [Act.put, List.setIfInBounds_toArray, List.set_cons_zero, List.set_cons_succ, i64_w, i32_w]
    rfl
  refine done_ (by kernel_rfl) ?_
  go_wp2_with fail
  go_ret
  exact ⟨rfl, below_then hb2.out hb2.out.size r6.out⟩
end Go.Proofs.Ytolighikimpbfaa
