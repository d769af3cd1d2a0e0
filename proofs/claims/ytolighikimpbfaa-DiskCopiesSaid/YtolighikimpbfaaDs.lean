/- A disk's numbers: step, Arm, Limit, Size, Waits, Steps. -/
import Derived.Test.YtolighikimpbfaaDc
import Derived.ScopeJumps
import Derived.Shelf.Abstract
set_option linter.unusedVariables false
set_option linter.unusedSimpArgs false
namespace Go.Proofs.Ytolighikimpbfaa
open Go.RowKit Go.Shelf Go.Proofs.YtolighikimpbfaaW.PrintWords Go.Proofs.YtolighikimpbfaaW.PrintMore
attribute [local go_sem] max2_int min2_int max_two min_two

section
variable {W : World} {S RO : Nat → Prop} {g n capn : Nat} {ds : DS} {lv wv : Value}
theorem setG {j : Nat} (h : DkAt W S RO g ds n capn lv wv) (v : Value) : Mod (fun q => q = g) W (W.setCell ⟨g, j, none⟩ v) := Mod.setCell (S := fun q => q = g) (p := ⟨g, j, none⟩) (Mod.refl _ _) (.inl rfl) v
theorem DkAt.notg (h : DkAt W S RO g ds n capn lv wv) {q : Nat} (hq : RO q) : q ≠ g := fun e => h.apart q hq (e ▸ h.sg)
theorem DkAt.set_armed (h : DkAt W S RO g ds n capn lv wv) (x : Int) : DkAt (W.setCell ⟨g, 3, none⟩ (.int .i64 x)) S RO g { ds with armed := x } n capn lv wv :=
  ⟨(heap_setCell_same _ _ _ _ _ _ h.blk).trans rfl, h.sg, h.sn, h.ng, h.pos, h.apart, R_mod h.now (setG h _) (fun q e => by rw [e]; exact h.ng), R_mod h.lasts (setG h _) (fun q e => h.notg e), h.wown,
    R_mod h.waits (setG h _) (fun q e => e.elim (fun e => (h.wown q e.symm).2.2) (fun e => h.notg e))⟩
theorem DkAt.set_limit (h : DkAt W S RO g ds n capn lv wv) (x : Int) : DkAt (W.setCell ⟨g, 4, none⟩ (.int .i64 x)) S RO g { ds with limit := x } n capn lv wv :=
  ⟨(heap_setCell_same _ _ _ _ _ _ h.blk).trans rfl, h.sg, h.sn, h.ng, h.pos, h.apart, R_mod h.now (setG h _) (fun q e => by rw [e]; exact h.ng), R_mod h.lasts (setG h _) (fun q e => h.notg e), h.wown,
    R_mod h.waits (setG h _) (fun q e => e.elim (fun e => (h.wown q e.symm).2.2) (fun e => h.notg e))⟩
theorem DkAt.set_done (h : DkAt W S RO g ds n capn lv wv) (x : Int) : DkAt (W.setCell ⟨g, 5, none⟩ (.int .i64 x)) S RO g { ds with done := x } n capn lv wv :=
  ⟨(heap_setCell_same _ _ _ _ _ _ h.blk).trans rfl, h.sg, h.sn, h.ng, h.pos, h.apart, R_mod h.now (setG h _) (fun q e => by rw [e]; exact h.ng), R_mod h.lasts (setG h _) (fun q e => h.notg e), h.wown,
    R_mod h.waits (setG h _) (fun q e => e.elim (fun e => (h.wown q e.symm).2.2) (fun e => h.notg e))⟩
end
/-- Numbers as they may be. -/
structure Fine (ds : DS) : Prop where
  arm0 : -1 ≤ ds.armed
  arm1 : ds.armed ≤ 9223372036854775807
  don0 : 0 ≤ ds.done
  don1 : ds.done ≤ 1000000
  lim0 : 0 ≤ ds.limit
  lim1 : ds.limit ≤ ds.now.length
  len : ds.now.length ≤ 262144
  las : ds.lasts.length = ds.now.length
  wai : ds.waits.length ≤ 1000000
  fit : ∀ x ∈ ds.waits, x.at_ + x.b.length ≤ ds.now.length
/-- Behind a step. -/
def DS.stepped (ds : DS) : DS := { ds with armed := mx (-1) (ds.armed - 1), done := ds.done + 1 }
set_option maxHeartbeats 1000000 in
theorem step_no (S RO : Nat → Prop) (g : Nat) (ds : DS) (w : World) (h : Dk w S RO g ds) (h0 : ds.armed = 0) :
    Calls Try.prog 29 #[.pointer (some ⟨g, 0, none⟩)] w fun e w' => e = .returned (.bool false) ∧ w = w' := by
  obtain ⟨n, capn, lv, wv, h⟩ := h
  have c3 := h.cell.2.2.2.1
  rw [h0] at c3
  clear h
  go_enter Try.func29, Try.ntmps29
  go_wp2
  go_ret
  exact ⟨rfl, rfl⟩
set_option maxHeartbeats 1000000 in
theorem step_yes (S RO : Nat → Prop) (g : Nat) (ds : DS) (n capn : Nat) (lv wv : Value) (w : World) (h : DkAt w S RO g ds n capn lv wv) (hf : Fine ds) (h0 : ds.armed ≠ 0) :
    Calls Try.prog 29 #[.pointer (some ⟨g, 0, none⟩)] w fun e w' => e = .returned (.bool true) ∧ DkAt w' S RO g ds.stepped n capn lv wv ∧ Mod S w w' := by
  obtain ⟨a1, a2, a3, a4, _⟩ := hf
  have c3 := h.cell.2.2.2.1
  have c5 := h.cell.2.2.2.2.2
  have f3 := h.frozen 3
  have f5 := h.frozen 5
  have hb : (ds.armed == 0) = false := by simpa using h0
  have H := Aside0.mk h
  clear h h0
  by_cases hx : -1 < ds.armed - 1
  · have hm := Aside0.mk (show mx (-1) (ds.armed - 1) = ds.armed - 1 by unfold mx; rw [if_pos hx])
    go_enter Try.func29, Try.ntmps29
    go_wp2
    go_ret
    refine ⟨rfl, ?_, ((Mod.refl _ _).setCell (.inl H.out.sg) _).setCell (.inl H.out.sg) _⟩
    unfold DS.stepped
    rw [hm.out]
    exact (H.out.set_armed _).set_done _
  · have hm := Aside0.mk (show mx (-1) (ds.armed - 1) = -1 by unfold mx; rw [if_neg hx])
    go_enter Try.func29, Try.ntmps29
    go_wp2
    go_ret
    refine ⟨rfl, ?_, ((Mod.refl _ _).setCell (.inl H.out.sg) _).setCell (.inl H.out.sg) _⟩
    unfold DS.stepped
    rw [hm.out]
    exact (H.out.set_armed _).set_done _
set_option maxHeartbeats 1000000 in
theorem arm_calls (S RO : Nat → Prop) (g : Nat) (ds : DS) (w : World) (h : Dk w S RO g ds) (x : Int) :
    Calls Try.prog 15 #[.pointer (some ⟨g, 0, none⟩), .int .i64 x] w fun e w' => e = .returned (.int .i64 0) ∧ Dk w' S RO g { ds with armed := mx (-1) x } ∧ Mod S w w' := by
  have hn := Aside0.mk h.none
  obtain ⟨n, capn, lv, wv, h⟩ := h
  have c3 := h.cell.2.2.2.1
  have f3 := h.frozen 3
  have H := Aside0.mk h
  clear h
  by_cases hx : -1 < x
  · have hm := Aside0.mk (show mx (-1) x = x by unfold mx; rw [if_pos hx])
    go_enter Try.func15, Try.ntmps15
    go_wp2_with (go_at_call 28; refine hn.out.mono ?_; rintro e w' ⟨rfl, rfl⟩)
    go_ret
    rw [hm.out]
    exact ⟨rfl, ⟨n, capn, lv, wv, H.out.set_armed _⟩, (Mod.refl _ _).setCell (.inl H.out.sg) _⟩
  · have hm := Aside0.mk (show mx (-1) x = -1 by unfold mx; rw [if_neg hx])
    go_enter Try.func15, Try.ntmps15
    go_wp2_with (go_at_call 28; refine hn.out.mono ?_; rintro e w' ⟨rfl, rfl⟩)
    go_ret
    rw [hm.out]
    exact ⟨rfl, ⟨n, capn, lv, wv, H.out.set_armed _⟩, (Mod.refl _ _).setCell (.inl H.out.sg) _⟩
theorem arm_not (p : Option Addr) (x : Int) (w : World) (hn : NoneIs true p w) : Calls Try.prog 15 #[.pointer p, .int .i64 x] w fun e w' => e = .returned (.int .i64 1) ∧ w = w' := by
  have hn := Aside0.mk hn
  go_enter Try.func15, Try.ntmps15
  go_wp2_with (go_at_call 28; refine hn.out.mono ?_; rintro e w' ⟨rfl, rfl⟩)
  go_ret
  exact ⟨rfl, rfl⟩
theorem limit_not (p : Option Addr) (x : Int) (w : World) (hn : NoneIs true p w) : Calls Try.prog 16 #[.pointer p, .int .i64 x] w fun e w' => e = .returned (.int .i64 1) ∧ w = w' := by
  have hn := Aside0.mk hn
  go_enter Try.func16, Try.ntmps16
  go_wp2_with (go_at_call 28; refine hn.out.mono ?_; rintro e w' ⟨rfl, rfl⟩)
  go_ret
  exact ⟨rfl, rfl⟩
set_option maxHeartbeats 1000000 in
theorem limit_calls (S RO : Nat → Prop) (g : Nat) (ds : DS) (w : World) (h : Dk w S RO g ds) (x : Int) (h0 : 0 ≤ x) (h1 : x ≤ ds.now.length) :
    Calls Try.prog 16 #[.pointer (some ⟨g, 0, none⟩), .int .i64 x] w fun e w' => e = .returned (.int .i64 0) ∧ Dk w' S RO g { ds with limit := x } ∧ Mod S w w' := by
  have hn := Aside0.mk h.none
  obtain ⟨n, capn, lv, wv, h⟩ := h
  have c0 := h.cell.1
  have c4 := h.cell.2.2.2.2.1
  have f4 := h.frozen 4
  have d0 : decide (x < 0) = false := by simp; omega
  have d1 : decide ((ds.now.length : Int) < x) = false := by simp; omega
  have h := Aside0.mk h
  go_enter Try.func16, Try.ntmps16
  go_wp2_with (go_at_call 28; refine hn.out.mono ?_; rintro e w' ⟨rfl, rfl⟩)
  go_ret
  exact ⟨rfl, ⟨n, capn, lv, wv, h.out.set_limit _⟩, (Mod.refl _ _).setCell (.inl h.out.sg) _⟩
set_option maxHeartbeats 1000000 in
theorem limit_no (S RO : Nat → Prop) (g : Nat) (ds : DS) (w : World) (h : Dk w S RO g ds) (x : Int) (h0 : x < 0 ∨ ds.now.length < x) :
    Calls Try.prog 16 #[.pointer (some ⟨g, 0, none⟩), .int .i64 x] w fun e w' => e = .returned (.int .i64 4) ∧ w = w' := by
  have hn := Aside0.mk h.none
  obtain ⟨n, capn, lv, wv, h⟩ := h
  have c0 := h.cell.1
  have h := Aside0.mk h
  by_cases h2 : x < 0
  · have d0 : decide (x < 0) = true := by simp; omega
    go_enter Try.func16, Try.ntmps16
    go_wp2_with (go_at_call 28; refine hn.out.mono ?_; rintro e w' ⟨rfl, rfl⟩)
    go_ret
    exact ⟨rfl, rfl⟩
  · have d0 : decide (x < 0) = false := by simp; omega
    have d1 : decide ((ds.now.length : Int) < x) = true := by simp; omega
    go_enter Try.func16, Try.ntmps16
    go_wp2_with (go_at_call 28; refine hn.out.mono ?_; rintro e w' ⟨rfl, rfl⟩)
    go_ret
    exact ⟨rfl, rfl⟩

/-! ### Size, Waits, Steps -/
set_option maxHeartbeats 1000000 in
theorem number_not (p : Option Addr) (f : Value) (w : World) (hn : NoneIs true p w) :
    Calls Try.prog 34 #[.pointer p, f] w fun e w' => e = .returned (.int .i64 0) ∧ w = w' := by
  have hn := Aside0.mk hn
  go_enter Try.func34, Try.ntmps34
  go_wp2_with (go_at_call 28; refine hn.out.mono ?_; rintro e w' ⟨rfl, rfl⟩)
  go_ret
  exact ⟨rfl, rfl⟩
set_option maxHeartbeats 1000000 in
theorem number_calls (p : Option Addr) (f : Nat) (B : Nat) (x : Int) (w : World) (hn : NoneIs false p w) (he : ∀ args w, (callFunc f args).run Try.prog w = .ok (.enter f args) w)
    (hf : Calls Try.prog f #[.pointer (some ⟨B, 0, none⟩)] w fun e w' => e = .returned (.int .i64 x) ∧ w = w') :
    Calls Try.prog 34 #[.pointer p, .func (.func f) #[] #[.pointer (some ⟨B, 0, none⟩)]] w fun e w' => e = .returned (.int .i64 x) ∧ w = w' := by
  have hn := Aside0.mk hn
  have hf := Aside0.mk hf
  go_enter Try.func34, Try.ntmps34
  go_wp2_with (first | (go_at_call 28; refine hn.out.mono ?_; rintro e w' ⟨rfl, rfl⟩) | (refine hf.out.mono ?_; rintro e w' ⟨rfl, rfl⟩))
  go_ret
  exact ⟨rfl, rfl⟩
theorem boxed_cell (w : World) (v : Value) (t : TypeId) : (w.alloc (.cells #[v] t)).cell? ⟨w.heap.size, 0, none⟩ = some v := (cell_of_row _ _ _ _ _ _ (Go.heap_alloc_new w _)).trans rfl
set_option maxHeartbeats 1000000 in
theorem size_calls (S RO : Nat → Prop) (g : Nat) (ds : DS) (w : World) (h : Dk w S RO g ds) :
    Calls Try.prog 26 #[.pointer (some ⟨g, 0, none⟩)] w fun e w' => e = .returned (.int .i64 (ds.now.length : Int)) ∧ Below w.heap.size w w' := by
  have h2 := h.below (below_alloc (Below.refl _ _) (.cells #[.pointer (some ⟨g, 0, none⟩)] 27))
  have hn := h2.none
  obtain ⟨n, capn, lv, wv, h2⟩ := h2
  have c0 := h2.cell.1
  have cb := boxed_cell w (.pointer (some ⟨g, 0, none⟩)) 27
  have hc : Calls Try.prog 46 #[.pointer (some ⟨w.heap.size, 0, none⟩)] (w.alloc (.cells #[.pointer (some ⟨g, 0, none⟩)] 27)) fun e w' => e = .returned (.int .i64 (ds.now.length : Int)) ∧ (w.alloc (.cells #[.pointer (some ⟨g, 0, none⟩)] 27)) = w' := by
    generalize w.alloc (.cells #[.pointer (some ⟨g, 0, none⟩)] 27) = W at *
    go_enter Try.func46, Try.ntmps46
    go_wp2
    go_ret
    exact ⟨rfl, rfl⟩
  have hnum := Aside0.mk (number_calls _ 46 w.heap.size _ _ hn (enters_of Try.func46 (by kernel_rfl) rfl) hc)
  clear c0 hc h2 hn cb h
  go_enter Try.func26, Try.ntmps26
  go_wp2_with (go_at_call 34; refine hnum.out.mono ?_; rintro e w' ⟨rfl, rfl⟩)
  go_ret
  exact ⟨rfl, below_alloc (Below.refl _ _) _⟩
set_option maxHeartbeats 1000000 in
theorem waits_calls (S RO : Nat → Prop) (g : Nat) (ds : DS) (w : World) (h : Dk w S RO g ds) :
    Calls Try.prog 18 #[.pointer (some ⟨g, 0, none⟩)] w fun e w' => e = .returned (.int .i64 (ds.waits.length : Int)) ∧ Below w.heap.size w w' := by
  have h2 := h.below (below_alloc (Below.refl _ _) (.cells #[.pointer (some ⟨g, 0, none⟩)] 27))
  have hn := h2.none
  obtain ⟨n, capn, lv, wv, h2⟩ := h2
  have c0 := h2.cell.2.2.1
  obtain ⟨A, c, e⟩ := Kd.R_slice h2.waits
  rw [e, encWs_length] at c0
  have cb := boxed_cell w (.pointer (some ⟨g, 0, none⟩)) 27
  have hc : Calls Try.prog 35 #[.pointer (some ⟨w.heap.size, 0, none⟩)] (w.alloc (.cells #[.pointer (some ⟨g, 0, none⟩)] 27)) fun e w' => e = .returned (.int .i64 (ds.waits.length : Int)) ∧ (w.alloc (.cells #[.pointer (some ⟨g, 0, none⟩)] 27)) = w' := by
    clear e h2 hn h
    generalize w.alloc (.cells #[.pointer (some ⟨g, 0, none⟩)] 27) = W at *
    go_enter Try.func35, Try.ntmps35
    go_wp2
    go_ret
    exact ⟨rfl, rfl⟩
  have hnum := Aside0.mk (number_calls _ 35 w.heap.size _ _ hn (enters_of Try.func35 (by kernel_rfl) rfl) hc)
  clear c0 hc h2 hn cb h e
  go_enter Try.func18, Try.ntmps18
  go_wp2_with (go_at_call 34; refine hnum.out.mono ?_; rintro e w' ⟨rfl, rfl⟩)
  go_ret
  exact ⟨rfl, below_alloc (Below.refl _ _) _⟩
set_option maxHeartbeats 1000000 in
theorem steps_calls (S RO : Nat → Prop) (g : Nat) (ds : DS) (w : World) (h : Dk w S RO g ds) :
    Calls Try.prog 27 #[.pointer (some ⟨g, 0, none⟩)] w fun e w' => e = .returned (.int .i64 ds.done) ∧ Below w.heap.size w w' := by
  have h2 := h.below (below_alloc (Below.refl _ _) (.cells #[.pointer (some ⟨g, 0, none⟩)] 27))
  have hn := h2.none
  obtain ⟨n, capn, lv, wv, h2⟩ := h2
  have c0 := h2.cell.2.2.2.2.2
  have cb := boxed_cell w (.pointer (some ⟨g, 0, none⟩)) 27
  have hc : Calls Try.prog 47 #[.pointer (some ⟨w.heap.size, 0, none⟩)] (w.alloc (.cells #[.pointer (some ⟨g, 0, none⟩)] 27)) fun e w' => e = .returned (.int .i64 ds.done) ∧ (w.alloc (.cells #[.pointer (some ⟨g, 0, none⟩)] 27)) = w' := by
    clear h2 hn h
    generalize w.alloc (.cells #[.pointer (some ⟨g, 0, none⟩)] 27) = W at *
    go_enter Try.func47, Try.ntmps47
    go_wp2
    go_ret
    exact ⟨rfl, rfl⟩
  have hnum := Aside0.mk (number_calls _ 47 w.heap.size _ _ hn (enters_of Try.func47 (by kernel_rfl) rfl) hc)
  clear c0 hc h2 hn cb h
  go_enter Try.func27, Try.ntmps27
  go_wp2_with (go_at_call 34; refine hnum.out.mono ?_; rintro e w' ⟨rfl, rfl⟩)
  go_ret
  exact ⟨rfl, below_alloc (Below.refl _ _) _⟩
end Go.Proofs.Ytolighikimpbfaa
