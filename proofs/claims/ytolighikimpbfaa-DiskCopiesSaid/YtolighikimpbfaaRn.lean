/- The reference's disk: a value; Now, step, Arm, New, Pick. -/
import Derived.Test.YtolighikimpbfaaRl
set_option linter.unusedVariables false
set_option linter.unusedSimpArgs false
namespace Go.Proofs.Ytolighikimpbfaa
open Go.RowKit Go.Shelf Go.Proofs.YtolighikimpbfaaW.PrintWords Go.Proofs.YtolighikimpbfaaW.PrintMore

/-- The document's disk, by value; what it leads to lies in O. -/
def Ref (W : World) (O : Nat → Prop) (v : Value) (ds : DS) : Prop :=
  ∃ (A : Option Addr) (c : Nat) (A2 : Option Addr) (c2 : Nat), v = .agg #[.slice A ds.lasts.length c, .slice A2 ds.waits.length c2, .int .i64 ds.armed, .int .i64 ds.limit, .int .i64 ds.done] ∧
    ds.lasts.length ≤ c ∧ ds.waits.length ≤ c2 ∧ u8.F W O A ds.lasts.length (toI ds.lasts) ∧ wk.F W O A2 ds.waits.length (encWs ds.waits)
section
variable {W W' : World} {O O' : Nat → Prop} {v : Value} {ds : DS}
theorem Ref.mod {M : Nat → Prop} (h : Ref W O v ds) (hm : Mod M W W') (hn : ∀ q, O q → ¬ M q) : Ref W' O v ds := by
  obtain ⟨A, c, A2, c2, e, h1, h2, h3, h4⟩ := h
  exact ⟨A, c, A2, c2, e, h1, h2, F_mod h3 hm hn, F_mod h4 hm hn⟩
theorem Ref.stays (h : Ref W O v ds) (hm : Stays O W W') : Ref W' O v ds := h.mod hm (fun q hq hn => hn hq)
theorem Ref.below (h : Ref W O v ds) (hb : Below W.heap.size W W') : Ref W' O v ds := h.mod (Mod.of_below (S := fun _ => False) hb) (fun _ _ h => h)
theorem Ref.mono (h : Ref W O v ds) (ho : ∀ q, O q → O' q) : Ref W O' v ds := by
  obtain ⟨A, c, A2, c2, e, h1, h2, h3, h4⟩ := h
  exact ⟨A, c, A2, c2, e, h1, h2, Kd.F_mono h3 ho, Kd.F_mono h4 ho⟩
theorem Ref.bound (h : Ref W O v ds) : Ref W (fun q => O q ∧ q < W.heap.size) v ds := by
  obtain ⟨A, c, A2, c2, e, h1, h2, h3, h4⟩ := h
  exact ⟨A, c, A2, c2, e, h1, h2, Kd.F_bound h3, Kd.F_bound h4⟩
end
/-- Five cells, boxed. -/
theorem box5 (w : World) (a b c d e : Value) (t : Nat) :
    (w.alloc (.cells #[a, b, c, d, e] t)).cell? ⟨w.heap.size, 0, none⟩ = some a ∧ (w.alloc (.cells #[a, b, c, d, e] t)).cell? ⟨w.heap.size, 1, none⟩ = some b ∧ (w.alloc (.cells #[a, b, c, d, e] t)).cell? ⟨w.heap.size, 2, none⟩ = some c ∧
    (w.alloc (.cells #[a, b, c, d, e] t)).cell? ⟨w.heap.size, 3, none⟩ = some d ∧ (w.alloc (.cells #[a, b, c, d, e] t)).cell? ⟨w.heap.size, 4, none⟩ = some e :=
  ⟨(cell_of_row _ _ _ _ _ _ (Go.heap_alloc_new w _)).trans rfl, (cell_of_row _ _ _ _ _ _ (Go.heap_alloc_new w _)).trans rfl, (cell_of_row _ _ _ _ _ _ (Go.heap_alloc_new w _)).trans rfl, (cell_of_row _ _ _ _ _ _ (Go.heap_alloc_new w _)).trans rfl, (cell_of_row _ _ _ _ _ _ (Go.heap_alloc_new w _)).trans rfl⟩
set_option maxHeartbeats 1000000 in
theorem now_calls (O : Nat → Prop) (v : Value) (ds : DS) (w : World) (h : Ref w O v ds) (hf : Fine ds) (hd : Std ds) :
    Calls Try.prog 22 #[v] w fun e w' => ∃ u, e = .returned u ∧ u8.R 5 w' 0 (fun q => w.heap.size ≤ q) u (toI ds.now) ∧ Below w.heap.size w w' := by
  obtain ⟨A, c, A2, c2, rfl, h1, h2, h3, h4⟩ := h
  have hb := below_alloc (Below.refl w.heap.size w) (.cells #[.slice A ds.lasts.length c, .slice A2 ds.waits.length c2, .int .i64 ds.armed, .int .i64 ds.limit, .int .i64 ds.done] 45)
  have hl := laid_calls A A2 c c2 ds.lasts ds.waits _ (Kd.C_below (Kd.F_now h3) hb) (Kd.C_below (Kd.F_now h4) hb) (fun x hx => by rw [hf.las]; exact hf.fit x hx) (by have := hf.len; have := hf.las; omega) hf.wai
  rw [← show ds.now = laid ds.lasts ds.waits from hd] at hl
  have hl := Aside0.mk hl
  have hb := Aside0.mk hb
  obtain ⟨b0, b1, b2, b3, b4⟩ := box5 w (.slice A ds.lasts.length c) (.slice A2 ds.waits.length c2) (.int .i64 ds.armed) (.int .i64 ds.limit) (.int .i64 ds.done) 45
  clear h3 h4 b2 b3 b4
  go_enter Try.func22, Try.ntmps22
  go_wp2_with (go_at_call 40; refine hl.out.mono ?_; rintro e w1 ⟨u, rfl, hu, hb1⟩; replace hu := Aside0.mk hu; replace hb1 := Aside0.mk hb1)
  go_ret
  exact ⟨_, rfl, Kd.R_mono hu.out (fun q hq => Nat.le_trans hb.out.size hq), below_then hb.out hb.out.size hb1.out⟩
theorem size45 : (Try.prog.info? 45).map (·.size) = some 5 := by kernel_rfl
theorem last_new (w : World) (o o' : Obj) : ((w.alloc o).alloc o').heap[w.heap.size + 1]? = some o' := by
  have := Go.heap_alloc_new (w.alloc o) o'
  rwa [World.size_alloc] at this
set_option maxHeartbeats 1000000 in
theorem rstep_no (O : Nat → Prop) (v : Value) (ds : DS) (w : World) (h : Ref w O v ds) (h0 : ds.armed = 0) :
    Calls Try.prog 48 #[v] w fun e w' => e = .returned (.tuple #[v, .bool false]) ∧ Below w.heap.size w w' := by
  obtain ⟨A, c, A2, c2, rfl, h1, h2, h3, h4⟩ := h
  obtain ⟨b0, b1, b2, b3, b4⟩ := box5 w (.slice A ds.lasts.length c) (.slice A2 ds.waits.length c2) (.int .i64 ds.armed) (.int .i64 ds.limit) (.int .i64 ds.done) 45
  rw [h0] at *
  clear h3 h4
  go_enter Try.func48, Try.ntmps48
  go_wp2
  exact bodyPost_ret (results_ct rfl _ _ (w.heap.size + 1) 45 #[.slice A ds.lasts.length c, .slice A2 ds.waits.length c2, .int .i64 0, .int .i64 ds.limit, .int .i64 ds.done] (0, 0) _ rfl (last_new _ _ _) Try.underlying45 rfl size45) rfl ⟨rfl, below_alloc (below_alloc (Below.refl _ _) _) _⟩
set_option maxHeartbeats 1000000 in
theorem rstep_yes (O : Nat → Prop) (v : Value) (ds : DS) (w : World) (h : Ref w O v ds) (hf : Fine ds) (h0 : ds.armed ≠ 0) :
    Calls Try.prog 48 #[v] w fun e w' => ∃ u, e = .returned (.tuple #[u, .bool true]) ∧ Ref w' O u ds.stepped ∧ Below w.heap.size w w' := by
  obtain ⟨A, c, A2, c2, rfl, h1, h2, h3, h4⟩ := h
  have a1 := hf.arm0
  have a2 := hf.arm1
  have a3 := hf.don0
  have a4 := hf.don1
  clear hf
  obtain ⟨b0, b1, b2, b3, b4⟩ := box5 w (.slice A ds.lasts.length c) (.slice A2 ds.waits.length c2) (.int .i64 ds.armed) (.int .i64 ds.limit) (.int .i64 ds.done) 45
  have hb : (ds.armed == 0) = false := by simpa using h0
  replace h3 := Aside0.mk h3
  replace h4 := Aside0.mk h4
  by_cases hp : 0 < ds.armed
  · have hm := Aside0.mk (show mx (-1) (ds.armed - 1) = ds.armed - 1 by unfold mx; rw [if_pos (by omega)])
    have hd : decide (0 < ds.armed) = true := by simpa using hp
    go_enter Try.func48, Try.ntmps48
    go_wp2
    refine bodyPost_ret (results_ct rfl _ _ (w.heap.size + 1) 45 #[.slice A ds.lasts.length c, .slice A2 ds.waits.length c2, .int .i64 (ds.armed - 1), .int .i64 ds.limit, .int .i64 (ds.done + 1)] (0, 0) _ rfl (last_new _ _ _) Try.underlying45 rfl size45) rfl ⟨_, rfl, ⟨A, c, A2, c2, ?_, h1, h2, ?_, ?_⟩, below_alloc (below_alloc (Below.refl _ _) _) _⟩
    · show _ = Value.agg #[_, _, .int .i64 (mx (-1) (ds.armed - 1)), _, .int .i64 (ds.done + 1)]
      rw [hm.out]; rfl
    · exact Kd.F_below h3.out (below_alloc (below_alloc (Below.refl _ _) _) _)
    · exact Kd.F_below h4.out (below_alloc (below_alloc (Below.refl _ _) _) _)
  · have hm := Aside0.mk (show mx (-1) (ds.armed - 1) = ds.armed by unfold mx; rw [if_neg (by omega)]; omega)
    have hd : decide (0 < ds.armed) = false := by simpa using hp
    go_enter Try.func48, Try.ntmps48
    go_wp2
    refine bodyPost_ret (results_ct rfl _ _ (w.heap.size + 1) 45 #[.slice A ds.lasts.length c, .slice A2 ds.waits.length c2, .int .i64 (ds.armed), .int .i64 ds.limit, .int .i64 (ds.done + 1)] (0, 0) _ rfl (last_new _ _ _) Try.underlying45 rfl size45) rfl ⟨_, rfl, ⟨A, c, A2, c2, ?_, h1, h2, ?_, ?_⟩, below_alloc (below_alloc (Below.refl _ _) _) _⟩
    · show _ = Value.agg #[_, _, .int .i64 (mx (-1) (ds.armed - 1)), _, .int .i64 (ds.done + 1)]
      rw [hm.out]; rfl
    · exact Kd.F_below h3.out (below_alloc (below_alloc (Below.refl _ _) _) _)
    · exact Kd.F_below h4.out (below_alloc (below_alloc (Below.refl _ _) _) _)
set_option maxHeartbeats 1000000 in
theorem rarm_calls (O : Nat → Prop) (v : Value) (ds : DS) (w : World) (h : Ref w O v ds) (n : Int) :
    Calls Try.prog 38 #[v, .int .i64 n] w fun e w' => ∃ u, e = .returned u ∧ Ref w' O u (ds.arm n) ∧ Below w.heap.size w w' := by
  obtain ⟨A, c, A2, c2, rfl, h1, h2, h3, h4⟩ := h
  replace h3 := Aside0.mk h3
  replace h4 := Aside0.mk h4
  by_cases hp : 0 ≤ n
  · have hm := Aside0.mk (show mx (-1) n = n by unfold mx; rw [if_pos (by omega)])
    have hd : decide (0 ≤ n) = true := by simpa using hp
    go_enter Try.func38, Try.ntmps38
    go_wp2
    refine bodyPost_ret (results_cell_row rfl _ _ (w.heap.size + 1) 45 #[.slice A ds.lasts.length c, .slice A2 ds.waits.length c2, .int .i64 n, .int .i64 ds.limit, .int .i64 ds.done] (0, 0) _ rfl (last_new _ _ _) Try.underlying45 rfl size45) rfl ⟨_, rfl, ⟨A, c, A2, c2, ?_, h1, h2, ?_, ?_⟩, below_alloc (below_alloc (Below.refl _ _) _) _⟩
    · show _ = Value.agg #[_, _, .int .i64 (mx (-1) n), _, _]
      rw [hm.out]; rfl
    · exact Kd.F_below h3.out (below_alloc (below_alloc (Below.refl _ _) _) _)
    · exact Kd.F_below h4.out (below_alloc (below_alloc (Below.refl _ _) _) _)
  · have hm := Aside0.mk (show mx (-1) n = -1 by unfold mx; split <;> omega)
    have hd : decide (0 ≤ n) = false := by simpa using hp
    go_enter Try.func38, Try.ntmps38
    go_wp2
    refine bodyPost_ret (results_cell_row rfl _ _ (w.heap.size + 1) 45 #[.slice A ds.lasts.length c, .slice A2 ds.waits.length c2, .int .i64 (-1), .int .i64 ds.limit, .int .i64 ds.done] (0, 0) _ rfl (last_new _ _ _) Try.underlying45 rfl size45) rfl ⟨_, rfl, ⟨A, c, A2, c2, ?_, h1, h2, ?_, ?_⟩, below_alloc (below_alloc (Below.refl _ _) _) _⟩
    · show _ = Value.agg #[_, _, .int .i64 (mx (-1) n), _, _]
      rw [hm.out]; rfl
    · exact Kd.F_below h3.out (below_alloc (below_alloc (Below.refl _ _) _) _)
    · exact Kd.F_below h4.out (below_alloc (below_alloc (Below.refl _ _) _) _)
end Go.Proofs.Ytolighikimpbfaa
