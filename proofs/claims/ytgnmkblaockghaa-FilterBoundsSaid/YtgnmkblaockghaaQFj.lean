/- The kinds' functions; filter.means. -/
import Derived.Test.YtgnmkblaockghaaQJe
set_option linter.unusedVariables false
set_option linter.unusedSimpArgs false
namespace Go.Proofs.Ytgnmkblaockghaa
open Go.RowKit Go.Shelf Go.Proofs.YtgnmkblaockghaaW.PrintWords Go.Proofs.YtgnmkblaockghaaW.PrintMore Go.Proofs.YtgnmkblaockghaaW.PrintLast

section
variable {m mo e0 : Nat} {g : ByteArray → Fld} {E : World → Prop}
/-- What a getter tells, wherever E holds. -/
structure Getter (m mo e0 : Nat) (g : ByteArray → Fld) (E : World → Prop) : Prop where
  kept : ∀ W W', E W → Below W.heap.size W W' → E W'
  get : ∀ W n, E W → n.size ≤ 12000 → Calls Try.prog 31 #[.string n, .pointer (some ⟨m, 0, none⟩), .pointer (some ⟨mo, 0, none⟩), .pointer (some ⟨e0, 0, none⟩)] W (Gets (g n) W)
  mem : ∀ n, (g n).length ≤ 1000 ∧ ∀ s ∈ g n, s.size ≤ 12000
/-- means tells of a filter what it means. -/
def MeansP (m mo e0 : Nat) (g : ByteArray → Fld) (E : World → Prop) (x : Ft) : Prop :=
  ∀ A c W, E W → Fv W x A c → Calls Try.prog 30 #[fv x A c, getV m mo e0] W fun e W' => e = .returned (.bool (meansT g x)) ∧ Below W.heap.size W W'
set_option maxRecDepth 8000 in
set_option maxHeartbeats 1000000 in
theorem and1_calls (y : Ft) (gb : Nat) (A : Option Addr) (c : Nat) (w : World) (hE : E w) (hG : Getter m mo e0 g E) (hy : MeansP m mo e0 g E y) (hv : Fv w y A c) (hg : w.cell? ⟨gb, 0, none⟩ = some (getV m mo e0)) :
    Calls Try.prog 81 #[fv y A c, .pointer (some ⟨gb, 0, none⟩)] w fun e w' => e = .returned (.bool (!meansT g y)) ∧ Below w.heap.size w w' := by
  obtain ⟨k, l, s, v⟩ := y
  unfold fv
  dsimp only
  have hb1 := below_alloc (Below.refl w.heap.size w) (.cells #[.int .i64 k, .slice A l.length c, .string s, .string v] 25)
  have hX := fbox_new w 25 (.int .i64 k) (.slice A l.length c) (.string s) (.string v)
  obtain ⟨w1, hw1⟩ : ∃ w1, w.alloc (.cells #[.int .i64 k, .slice A l.length c, .string s, .string v] 25) = w1 := ⟨_, rfl⟩
  rw [hw1] at hb1 hX
  obtain ⟨p0, p1, p2, p3⟩ := hX.cells
  have g1 := pw_cell_below hb1 hg
  have hc := hy A c w1 (hG.kept _ _ hE hb1) (hv.below hb1)
  unfold fv getV at hc
  unfold getV at g1
  dsimp only at hc
  replace hc := Aside0.mk hc
  replace hb1 := Aside0.mk hb1
  clear hX hg hv hE hy
  generalize meansT g ⟨k, l, s, v⟩ = b at *
  generalize l.length = M at *
  go_enter Try.func81, Try.ntmps81
  go_wp2_with fail
  refine hc.out.mono ?_
  rintro e w2 ⟨rfl, hb2⟩
  replace hb2 := Aside0.mk (below_then hb1.out hb1.out.size hb2)
  go_wp2_with fail
  go_ret
  exact ⟨rfl, hb2.out⟩
set_option maxRecDepth 8000 in
set_option maxHeartbeats 1000000 in
theorem or1_calls (y : Ft) (gb : Nat) (A : Option Addr) (c : Nat) (w : World) (hE : E w) (hG : Getter m mo e0 g E) (hy : MeansP m mo e0 g E y) (hv : Fv w y A c) (hg : w.cell? ⟨gb, 0, none⟩ = some (getV m mo e0)) :
    Calls Try.prog 82 #[fv y A c, .pointer (some ⟨gb, 0, none⟩)] w fun e w' => e = .returned (.bool (meansT g y)) ∧ Below w.heap.size w w' := by
  obtain ⟨k, l, s, v⟩ := y
  unfold fv
  dsimp only
  have hb1 := below_alloc (Below.refl w.heap.size w) (.cells #[.int .i64 k, .slice A l.length c, .string s, .string v] 25)
  have hX := fbox_new w 25 (.int .i64 k) (.slice A l.length c) (.string s) (.string v)
  obtain ⟨w1, hw1⟩ : ∃ w1, w.alloc (.cells #[.int .i64 k, .slice A l.length c, .string s, .string v] 25) = w1 := ⟨_, rfl⟩
  rw [hw1] at hb1 hX
  obtain ⟨p0, p1, p2, p3⟩ := hX.cells
  have g1 := pw_cell_below hb1 hg
  have hc := hy A c w1 (hG.kept _ _ hE hb1) (hv.below hb1)
  unfold fv getV at hc
  unfold getV at g1
  dsimp only at hc
  replace hc := Aside0.mk hc
  replace hb1 := Aside0.mk hb1
  clear hX hg hv hE hy
  generalize meansT g ⟨k, l, s, v⟩ = b at *
  generalize l.length = M at *
  go_enter Try.func82, Try.ntmps82
  go_wp2_with fail
  refine hc.out.mono ?_
  rintro e w2 ⟨rfl, hb2⟩
  replace hb2 := Aside0.mk (below_then hb1.out hb1.out.size hb2)
  go_wp2_with fail
  go_ret
  exact ⟨rfl, hb2.out⟩
set_option maxRecDepth 8000 in
set_option maxHeartbeats 1000000 in
theorem and_calls (hG : Getter m mo e0 g E) (x : Ft) (A : Option Addr) (c : Nat) (w : World) (hE : E w) (hv : Fv w x A c) (hl : x.f1.length ≤ 100000) (hy : ∀ y ∈ x.f1, MeansP m mo e0 g E y) :
    Calls Try.prog 55 #[fv x A c, getV m mo e0] w fun e w' => e = .returned (.bool (meansAll g x.f1)) ∧ Below w.heap.size w w' := by
  obtain ⟨k, l, s, v⟩ := x
  unfold fv
  dsimp only at hl hy ⊢
  have hmf : ∀ (fn : Fn) (first cap : Array Value) (w : World), (Instr.makeFunc fn first cap).run Try.prog w = .ok (.func fn first cap) w := fun _ _ _ _ => rfl
  have he := enters_of (P := Try.prog) Try.func81 (by kernel_rfl) rfl
  have hb1 := below_alloc (Below.refl w.heap.size w) (.cells #[.int .i64 k, .slice A l.length c, .string s, .string v] 70)
  have hX := fbox_new w 70 (.int .i64 k) (.slice A l.length c) (.string s) (.string v)
  obtain ⟨w1, hw1⟩ : ∃ w1, w.alloc (.cells #[.int .i64 k, .slice A l.length c, .string s, .string v] 70) = w1 := ⟨_, rfl⟩
  rw [hw1] at hb1 hX
  obtain ⟨gb, hgb⟩ : ∃ gb, w1.heap.size = gb := ⟨_, rfl⟩
  have hb2 := below_alloc (Below.refl w1.heap.size w1) (.cells #[getV m mo e0] 83)
  have hg := heap_alloc_new w1 (.cells #[getV m mo e0] 83)
  obtain ⟨w2, hw2⟩ : ∃ w2, w1.alloc (.cells #[getV m mo e0] 83) = w2 := ⟨_, rfl⟩
  rw [hw2] at hb2 hg
  rw [hgb] at hg
  obtain ⟨p0, p1, p2, p3⟩ := (hX.below hb2).cells
  have g0 : w2.cell? ⟨gb, 0, none⟩ = some (getV m mo e0) := (blk_cell hg 0).trans rfl
  have hb12 := below_then hb1 hb1.size hb2
  have hE2 := hG.kept _ _ hE hb12
  have hc := fcontains_calls 81 he gb (fun y => !meansT g y) A c l w2 hl (Kd.C_below hv.co hb12) (fun y hyl A c W hb hvy => and1_calls y gb A c W (hG.kept _ _ hE2 hb) hG (hy y hyl) hvy (pw_cell_below hb g0))
  replace hc := Aside0.mk hc
  replace hb2 := Aside0.mk hb12
  have heq : meansAll g l = !(l.any fun y => !meansT g y) := meansAll_eq g l
  rw [heq]
  clear hX hg hv hE hy hE2 hb12 heq hb1
  unfold getV at g0 hw2 ⊢
  generalize l.any (fun y => !meansT g y) = b at *
  generalize l.length = M at *
  go_enter Try.func55, Try.ntmps55
  go_wp2_with fail
  refine hc.out.mono ?_
  rintro e w3 ⟨rfl, hb3⟩
  replace hb3 := Aside0.mk (below_then hb2.out hb2.out.size hb3)
  go_wp2_with fail
  go_ret
  exact ⟨rfl, hb3.out⟩
set_option maxRecDepth 8000 in
set_option maxHeartbeats 1000000 in
theorem or_calls (hG : Getter m mo e0 g E) (x : Ft) (A : Option Addr) (c : Nat) (w : World) (hE : E w) (hv : Fv w x A c) (hl : x.f1.length ≤ 100000) (hy : ∀ y ∈ x.f1, MeansP m mo e0 g E y) :
    Calls Try.prog 56 #[fv x A c, getV m mo e0] w fun e w' => e = .returned (.bool (meansAny g x.f1)) ∧ Below w.heap.size w w' := by
  obtain ⟨k, l, s, v⟩ := x
  unfold fv
  dsimp only at hl hy ⊢
  have hmf : ∀ (fn : Fn) (first cap : Array Value) (w : World), (Instr.makeFunc fn first cap).run Try.prog w = .ok (.func fn first cap) w := fun _ _ _ _ => rfl
  have he := enters_of (P := Try.prog) Try.func82 (by kernel_rfl) rfl
  have hb1 := below_alloc (Below.refl w.heap.size w) (.cells #[.int .i64 k, .slice A l.length c, .string s, .string v] 70)
  have hX := fbox_new w 70 (.int .i64 k) (.slice A l.length c) (.string s) (.string v)
  obtain ⟨w1, hw1⟩ : ∃ w1, w.alloc (.cells #[.int .i64 k, .slice A l.length c, .string s, .string v] 70) = w1 := ⟨_, rfl⟩
  rw [hw1] at hb1 hX
  obtain ⟨gb, hgb⟩ : ∃ gb, w1.heap.size = gb := ⟨_, rfl⟩
  have hb2 := below_alloc (Below.refl w1.heap.size w1) (.cells #[getV m mo e0] 83)
  have hg := heap_alloc_new w1 (.cells #[getV m mo e0] 83)
  obtain ⟨w2, hw2⟩ : ∃ w2, w1.alloc (.cells #[getV m mo e0] 83) = w2 := ⟨_, rfl⟩
  rw [hw2] at hb2 hg
  rw [hgb] at hg
  obtain ⟨p0, p1, p2, p3⟩ := (hX.below hb2).cells
  have g0 : w2.cell? ⟨gb, 0, none⟩ = some (getV m mo e0) := (blk_cell hg 0).trans rfl
  have hb12 := below_then hb1 hb1.size hb2
  have hE2 := hG.kept _ _ hE hb12
  have hc := fcontains_calls 82 he gb (meansT g) A c l w2 hl (Kd.C_below hv.co hb12) (fun y hyl A c W hb hvy => or1_calls y gb A c W (hG.kept _ _ hE2 hb) hG (hy y hyl) hvy (pw_cell_below hb g0))
  replace hc := Aside0.mk hc
  replace hb2 := Aside0.mk hb12
  have heq : meansAny g l = l.any (meansT g) := meansAny_eq g l
  rw [heq]
  clear hX hg hv hE hy hE2 hb12 heq hb1
  unfold getV at g0 hw2 ⊢
  generalize l.any (meansT g) = b at *
  generalize l.length = M at *
  go_enter Try.func56, Try.ntmps56
  go_wp2_with fail
  refine hc.out.mono ?_
  rintro e w3 ⟨rfl, hb3⟩
  replace hb3 := Aside0.mk (below_then hb2.out hb2.out.size hb3)
  go_wp2_with fail
  go_ret
  exact ⟨rfl, hb3.out⟩
set_option maxRecDepth 8000 in
set_option maxHeartbeats 1000000 in
theorem not_calls (hG : Getter m mo e0 g E) (x y : Ft) (A : Option Addr) (c : Nat) (w : World) (hE : E w) (hv : Fv w x A c) (hx : x.f1 = [y]) (hy : MeansP m mo e0 g E y) :
    Calls Try.prog 57 #[fv x A c, getV m mo e0] w fun e w' => e = .returned (.bool (!meansT g y)) ∧ Below w.heap.size w w' := by
  obtain ⟨k, l, s, v⟩ := x
  obtain rfl : l = [y] := hx
  unfold fv
  dsimp only
  have hb1 := below_alloc (Below.refl w.heap.size w) (.cells #[.int .i64 k, .slice A ([y] : List Ft).length c, .string s, .string v] 70)
  have hX := fbox_new w 70 (.int .i64 k) (.slice A ([y] : List Ft).length c) (.string s) (.string v)
  obtain ⟨w1, hw1⟩ : ∃ w1, w.alloc (.cells #[.int .i64 k, .slice A ([y] : List Ft).length c, .string s, .string v] 70) = w1 := ⟨_, rfl⟩
  rw [hw1] at hb1 hX
  obtain ⟨p0, p1, p2, p3⟩ := hX.cells
  obtain ⟨ad, A6, c6, e, s0, s1, s2, s3, hv6⟩ := kF_at (Kd.C_below hv.co hb1) 0 (by simp)
  rw [Nat.zero_mul] at s0 s1 s2 s3
  obtain rfl : A = some ad := e
  have hz : ad.add 0 = ad := by unfold Addr.add; simp
  rw [hz] at s0 s1 s2 s3
  simp only [List.getElem_cons_zero] at s0 s1 s2 s3 hv6
  have hc := hy A6 c6 w1 (hG.kept _ _ hE hb1) hv6
  unfold fv getV at hc
  replace hc := Aside0.mk hc
  replace hb1 := Aside0.mk hb1
  simp only [List.length_singleton] at hw1 p1 ⊢
  unfold getV
  clear hX hv6 hv hE
  generalize meansT g y = b at *
  go_enter Try.func57, Try.ntmps57
  go_wp2_with fail
  refine hc.out.mono ?_
  rintro e w2 ⟨rfl, hb2⟩
  replace hb2 := Aside0.mk (below_then hb1.out hb1.out.size hb2)
  go_wp2_with fail
  go_ret
  exact ⟨rfl, hb2.out⟩
set_option maxRecDepth 8000 in
set_option maxHeartbeats 1000000 in
theorem eq_calls (hG : Getter m mo e0 g E) (x : Ft) (A : Option Addr) (c : Nat) (w : World) (hE : E w) (hn : x.f2.size ≤ 12000) (hs : x.f3.size ≤ 12000) :
    Calls Try.prog 58 #[fv x A c, getV m mo e0] w fun e w' => e = .returned (.bool ((g x.f2).any (fun s => (small s).toList == (small x.f3).toList))) ∧ Below w.heap.size w w' := by
  obtain ⟨k, l, s, v⟩ := x
  unfold fv
  dsimp only at hn hs ⊢
  have hmf : ∀ (fn : Fn) (first cap : Array Value) (w : World), (Instr.makeFunc fn first cap).run Try.prog w = .ok (.func fn first cap) w := fun _ _ _ _ => rfl
  have he := enters_of (P := Try.prog) Try.func31 (by kernel_rfl) rfl
  have he2 := enters_of (P := Try.prog) Try.func83 (by kernel_rfl) rfl
  have hb1 := below_alloc (Below.refl w.heap.size w) (.cells #[.int .i64 k, .slice A l.length c, .string s, .string v] 70)
  have hX := fbox_new w 70 (.int .i64 k) (.slice A l.length c) (.string s) (.string v)
  obtain ⟨w1, hw1⟩ : ∃ w1, w.alloc (.cells #[.int .i64 k, .slice A l.length c, .string s, .string v] 70) = w1 := ⟨_, rfl⟩
  rw [hw1] at hb1 hX
  obtain ⟨p0, p1, p2, p3⟩ := hX.cells
  have hc := Aside0.mk (hG.get w1 s (hG.kept _ _ hE hb1) hn)
  obtain ⟨r1, r2⟩ := hG.mem s
  have hX := Aside0.mk hX
  replace hb1 := Aside0.mk hb1
  unfold getV
  generalize l.length = M at *
  generalize g s = r at *
  obtain ⟨b, hb⟩ : ∃ b, r.any (fun s => (small s).toList == (small v).toList) = b := ⟨_, rfl⟩
  rw [hb]
  have hsc := Aside0.mk (fun A2 c2 W (hC : st.C W A2 r.length r) (q : W.cell? ⟨w.heap.size, 3, none⟩ = some (.string v)) => hb ▸ scontains_calls 83 he2 w.heap.size (fun s => (small s).toList == (small v).toList) A2 c2 r W r1 hC (fun x hx W' hb' => eq1_calls x v w.heap.size W' (r2 x hx) hs (pw_cell_below hb' q)))
  unfold Gets at hc
  generalize r.length = N at *
  clear hb hE hn hs r1 r2
  go_enter Try.func58, Try.ntmps58
  go_wp2_with fail
  refine hc.out.mono ?_
  rintro e w2 ⟨⟨A2, c2, rfl, hC2⟩, hb2⟩
  obtain ⟨q0, q1, q2, q3⟩ := (hX.out.below hb2).cells
  have hs2 := Aside0.mk (hsc.out A2 c2 w2 hC2 q3)
  replace hb2 := Aside0.mk (below_then hb1.out hb1.out.size hb2)
  clear hC2 hsc hc p0 p1 p2 p3
  go_wp2_with fail
  refine hs2.out.mono ?_
  rintro e w3 ⟨rfl, hb3⟩
  replace hb3 := Aside0.mk (below_then hb2.out hb2.out.size hb3)
  go_wp2_with fail
  go_ret
  exact ⟨rfl, hb3.out⟩
set_option maxRecDepth 8000 in
set_option maxHeartbeats 1000000 in
theorem begin_calls (hG : Getter m mo e0 g E) (x : Ft) (A : Option Addr) (c : Nat) (w : World) (hE : E w) (hn : x.f2.size ≤ 12000) (hs : x.f3.size ≤ 12000) :
    Calls Try.prog 59 #[fv x A c, getV m mo e0] w fun e w' => e = .returned (.bool ((g x.f2).any (fun s => prefB (small s) (small x.f3)))) ∧ Below w.heap.size w w' := by
  obtain ⟨k, l, s, v⟩ := x
  unfold fv
  dsimp only at hn hs ⊢
  have hmf : ∀ (fn : Fn) (first cap : Array Value) (w : World), (Instr.makeFunc fn first cap).run Try.prog w = .ok (.func fn first cap) w := fun _ _ _ _ => rfl
  have he := enters_of (P := Try.prog) Try.func31 (by kernel_rfl) rfl
  have he2 := enters_of (P := Try.prog) Try.func84 (by kernel_rfl) rfl
  have hb1 := below_alloc (Below.refl w.heap.size w) (.cells #[.int .i64 k, .slice A l.length c, .string s, .string v] 70)
  have hX := fbox_new w 70 (.int .i64 k) (.slice A l.length c) (.string s) (.string v)
  obtain ⟨w1, hw1⟩ : ∃ w1, w.alloc (.cells #[.int .i64 k, .slice A l.length c, .string s, .string v] 70) = w1 := ⟨_, rfl⟩
  rw [hw1] at hb1 hX
  obtain ⟨p0, p1, p2, p3⟩ := hX.cells
  have hc := Aside0.mk (hG.get w1 s (hG.kept _ _ hE hb1) hn)
  obtain ⟨r1, r2⟩ := hG.mem s
  have hX := Aside0.mk hX
  replace hb1 := Aside0.mk hb1
  unfold getV
  generalize l.length = M at *
  generalize g s = r at *
  obtain ⟨b, hb⟩ : ∃ b, r.any (fun s => prefB (small s) (small v)) = b := ⟨_, rfl⟩
  rw [hb]
  have hsc := Aside0.mk (fun A2 c2 W (hC : st.C W A2 r.length r) (q : W.cell? ⟨w.heap.size, 3, none⟩ = some (.string v)) => hb ▸ scontains_calls 84 he2 w.heap.size (fun s => prefB (small s) (small v)) A2 c2 r W r1 hC (fun x hx W' hb' => begin1_calls x v w.heap.size W' (r2 x hx) hs (pw_cell_below hb' q)))
  unfold Gets at hc
  generalize r.length = N at *
  clear hb hE hn hs r1 r2
  go_enter Try.func59, Try.ntmps59
  go_wp2_with fail
  refine hc.out.mono ?_
  rintro e w2 ⟨⟨A2, c2, rfl, hC2⟩, hb2⟩
  obtain ⟨q0, q1, q2, q3⟩ := (hX.out.below hb2).cells
  have hs2 := Aside0.mk (hsc.out A2 c2 w2 hC2 q3)
  replace hb2 := Aside0.mk (below_then hb1.out hb1.out.size hb2)
  clear hC2 hsc hc p0 p1 p2 p3
  go_wp2_with fail
  refine hs2.out.mono ?_
  rintro e w3 ⟨rfl, hb3⟩
  replace hb3 := Aside0.mk (below_then hb2.out hb2.out.size hb3)
  go_wp2_with fail
  go_ret
  exact ⟨rfl, hb3.out⟩
set_option maxRecDepth 8000 in
set_option maxHeartbeats 1000000 in
theorem has_calls (hG : Getter m mo e0 g E) (x : Ft) (A : Option Addr) (c : Nat) (w : World) (hE : E w) (hn : x.f2.size ≤ 12000) :
    Calls Try.prog 60 #[fv x A c, getV m mo e0] w fun e w' => e = .returned (.bool (decide (0 < (g x.f2).length))) ∧ Below w.heap.size w w' := by
  obtain ⟨k, l, s, v⟩ := x
  unfold fv
  dsimp only at hn ⊢
  have he := enters_of (P := Try.prog) Try.func31 (by kernel_rfl) rfl
  have hb1 := below_alloc (Below.refl w.heap.size w) (.cells #[.int .i64 k, .slice A l.length c, .string s, .string v] 70)
  have hX := fbox_new w 70 (.int .i64 k) (.slice A l.length c) (.string s) (.string v)
  obtain ⟨w1, hw1⟩ : ∃ w1, w.alloc (.cells #[.int .i64 k, .slice A l.length c, .string s, .string v] 70) = w1 := ⟨_, rfl⟩
  rw [hw1] at hb1 hX
  obtain ⟨p0, p1, p2, p3⟩ := hX.cells
  have hc := Aside0.mk (hG.get w1 s (hG.kept _ _ hE hb1) hn)
  replace hb1 := Aside0.mk hb1
  unfold getV
  generalize l.length = M at *
  generalize hr : g s = r at *
  obtain ⟨N, hN⟩ : ∃ N, r.length = N := ⟨_, rfl⟩
  rw [hN]
  unfold Gets at hc
  rw [hN] at hc
  clear hX hr hN hE hn
  go_enter Try.func60, Try.ntmps60
  go_wp2_with fail
  refine hc.out.mono ?_
  rintro e w2 ⟨⟨A2, c2, rfl, hC2⟩, hb2⟩
  replace hb2 := Aside0.mk (below_then hb1.out hb1.out.size hb2)
  clear hC2
  go_wp2_with fail
  go_ret
  exact ⟨rfl, hb2.out⟩
end
/-- A call of a function that stands in a slot. -/
theorem goesV_ {P : Program} {ops : Array Oper} {Q : Exit → Act → World → Prop} {oi : Oper} {N : Option Tmp} {a : Act} {w : World} {K : Act → World → Prop} {f : FuncId} {fn : Func} {os : Array Operand} {ts : Array TypeId} (hf : P.funcs[f]? = some fn) (hname : (fn.name == "runtime.NumGoroutine") = false) (hb : fn.body.isSome = true) (c : Operand) (args : Array Value)
    (hw : Region.wanted oi (yielded ops a.tmps) = true) (hN : oi.dst = N) (hop : oi.op = .call { callee := .value c, args := os, argTypes := ts }) (hc : a.eval c = .func (.func f) #[] #[]) (hargs : os.map a.eval = args)
    (h : Calls P f args w fun e w' => ∃ v, e = .returned v ∧ K (a.put N v) w') : if Region.wanted oi (yielded ops a.tmps) = true then Oper.wp P oi a w K Q else K (a.put N undef) w := by
  refine call_ f args hw hN ?_ h
  have he := enters_ hf hname hb args w
  unfold execOp
  simp [hop, resolve, Deferred.ofValue, invoke, hc, hargs, he]
set_option maxRecDepth 8000 in
set_option maxHeartbeats 4000000 in
theorem means_calls {m mo e0 : Nat} {g : ByteArray → Fld} {E : World → Prop} (hG : Getter m mo e0 g E) (x : Ft) : goodT x → wF x ≤ 12000 → MeansP m mo e0 g E x := by
  refine filtInd (P := fun x => goodT x → wF x ≤ 12000 → MeansP m mo e0 g E x) (fun k l s v ih => ?_) x
  intro hgood hw A c w hE hv
  rw [goodT] at hgood
  rw [wF] at hw
  obtain ⟨⟨k1, k6⟩, k3, hgl⟩ := hgood
  have hch : ∀ y ∈ l, MeansP m mo e0 g E y := fun y hy => ih y hy ((goodL_iff l).1 hgl y hy) (by have := wF_mem hy; omega)
  have hlen := wFs_length l
  have hb1 := below_alloc (Below.refl w.heap.size w) (.cells #[.int .i64 k, .slice A l.length c, .string s, .string v] 25)
  have hX := fbox_new w 25 (.int .i64 k) (.slice A l.length c) (.string s) (.string v)
  obtain ⟨w1, hw1⟩ : ∃ w1, w.alloc (.cells #[.int .i64 k, .slice A l.length c, .string s, .string v] 25) = w1 := ⟨_, rfl⟩
  rw [hw1] at hb1 hX
  have hb2 := below_drew hb1
  have hE1 := hG.kept _ _ hE hb2
  have hv1 : Fv w1.drew ⟨k, l, s, v⟩ A c := hv.below hb2
  obtain ⟨p0, p1, p2, p3⟩ := hX.cells
  have hcases : k = 1 ∨ k = 2 ∨ k = 3 ∨ k = 4 ∨ k = 5 ∨ k = 6 := by omega
  replace hb2 := Aside0.mk hb2
  have hm := meansT.eq_1 g k l s v
  obtain ⟨b, hb⟩ : ∃ b, meansT g ⟨k, l, s, v⟩ = b := ⟨_, rfl⟩
  rw [hb] at hm ⊢
  rcases hcases with rfl | rfl | rfl | rfl | rfl | rfl
  · have hc := and_calls hG ⟨1, l, s, v⟩ A c w1.drew hE1 hv1 (by show l.length ≤ 100000; omega) hch
    rw [if_pos rfl] at hm
    try dsimp only at hc
    rw [← hm] at hc
    clear hm hb hX hv hv1 hE hE1 hch ih hgl hw hb1 k3
    unfold fv getV at hc ⊢
    try dsimp only at hc ⊢
    replace hc := Aside0.mk hc
    generalize l.length = M at *
    have hix : ∀ W, (Instr.index 86 (.agg #[.nilFunc, .func (.func 55) #[] #[], .func (.func 56) #[] #[], .func (.func 57) #[] #[], .func (.func 58) #[] #[], .func (.func 59) #[] #[], .func (.func 60) #[] #[]]) (.int .i64 1)).run Try.prog W = .ok (.func (.func 55) #[] #[]) W := fun W => rfl
    go_enter Try.func30, Try.ntmps30
    go_wp2_with fail
    refine start_ (n := 8) (S := fun w' => w'.cell? ⟨w.heap.size, 0, none⟩ = some (.int .i64 1) ∧ w'.cell? ⟨w.heap.size, 1, none⟩ = some (.slice A M c) ∧ w'.cell? ⟨w.heap.size, 2, none⟩ = some (.string s) ∧ w'.cell? ⟨w.heap.size, 3, none⟩ = some (.string v)) (ds := []) (B_ 8 0) (by kernel_rfl) rfl rfl ⟨p0, p1, p2, p3⟩ (fun hHeld => ?_)
    refine pn_ 0 5 (B_ 8 1) rfl rfl ?_
    refine pn_ 1 6 (B_ 8 3) rfl rfl ?_
    refine pn_ 5 10 (B_ 8 35) rfl rfl ?_
    refine tk_ 2 7 (B_ 8 39) rfl rfl hHeld (by rintro w' ⟨s0, s1, s2, s3⟩; go_simp; with_reducible rfl) ?_
    refine tk_ 3 8 (B_ 8 47) rfl rfl hHeld (by rintro w' ⟨s0, s1, s2, s3⟩; go_simp; with_reducible rfl) ?_
    refine tk_ 4 9 (B_ 8 63) rfl rfl hHeld (by rintro w' ⟨s0, s1, s2, s3⟩; go_simp; with_reducible rfl) ?_
    refine one_ (i := 6) (N := some 11) (B_ 8 127) rfl rfl (by kernel_rfl) (by decide) (fun K hK => ?_)
    refine goesV_ Try.func55 (by kernel_rfl) rfl (.tmp 8) #[.agg #[.int .i64 1, .slice A M c, .string s, .string v], .func (.func 31) #[] #[.pointer (some ⟨m, 0, none⟩), .pointer (some ⟨mo, 0, none⟩), .pointer (some ⟨e0, 0, none⟩)]] (by rfl) rfl rfl (by rfl) (by simp only [List.map_toArray, List.map_cons, List.map_nil]; rfl) ?_
    with_reducible refine (hc.out).mono ?_
    rintro e w4 ⟨rfl, hb4⟩
    refine ⟨_, rfl, ?_⟩
    have p0 := pw_cell_below hb4 p0
    have p1 := pw_cell_below hb4 p1
    have p2 := pw_cell_below hb4 p2
    have p3 := pw_cell_below hb4 p3
    replace hb4 := Aside0.mk (below_then hb2.out hb2.out.size hb4)
    refine hK.out _ _ ⟨p0, p1, p2, p3⟩ (fun hHeld => ?_)
    clear hK K
    refine nm_ 11 ?_
    refine pn_ 7 4 (B_ 8 255) rfl rfl ?_
    refine done_ (by kernel_rfl) ?_
    go_wp2_with fail
    go_ret
    exact ⟨rfl, hb4.out⟩
  · have hc := or_calls hG ⟨2, l, s, v⟩ A c w1.drew hE1 hv1 (by show l.length ≤ 100000; omega) hch
    rw [if_neg (by decide), if_pos rfl] at hm
    try dsimp only at hc
    rw [← hm] at hc
    clear hm hb hX hv hv1 hE hE1 hch ih hgl hw hb1 k3
    unfold fv getV at hc ⊢
    try dsimp only at hc ⊢
    replace hc := Aside0.mk hc
    generalize l.length = M at *
    have hix : ∀ W, (Instr.index 86 (.agg #[.nilFunc, .func (.func 55) #[] #[], .func (.func 56) #[] #[], .func (.func 57) #[] #[], .func (.func 58) #[] #[], .func (.func 59) #[] #[], .func (.func 60) #[] #[]]) (.int .i64 2)).run Try.prog W = .ok (.func (.func 56) #[] #[]) W := fun W => rfl
    go_enter Try.func30, Try.ntmps30
    go_wp2_with fail
    refine start_ (n := 8) (S := fun w' => w'.cell? ⟨w.heap.size, 0, none⟩ = some (.int .i64 2) ∧ w'.cell? ⟨w.heap.size, 1, none⟩ = some (.slice A M c) ∧ w'.cell? ⟨w.heap.size, 2, none⟩ = some (.string s) ∧ w'.cell? ⟨w.heap.size, 3, none⟩ = some (.string v)) (ds := []) (B_ 8 0) (by kernel_rfl) rfl rfl ⟨p0, p1, p2, p3⟩ (fun hHeld => ?_)
    refine pn_ 0 5 (B_ 8 1) rfl rfl ?_
    refine pn_ 1 6 (B_ 8 3) rfl rfl ?_
    refine pn_ 5 10 (B_ 8 35) rfl rfl ?_
    refine tk_ 2 7 (B_ 8 39) rfl rfl hHeld (by rintro w' ⟨s0, s1, s2, s3⟩; go_simp; with_reducible rfl) ?_
    refine tk_ 3 8 (B_ 8 47) rfl rfl hHeld (by rintro w' ⟨s0, s1, s2, s3⟩; go_simp; with_reducible rfl) ?_
    refine tk_ 4 9 (B_ 8 63) rfl rfl hHeld (by rintro w' ⟨s0, s1, s2, s3⟩; go_simp; with_reducible rfl) ?_
    refine one_ (i := 6) (N := some 11) (B_ 8 127) rfl rfl (by kernel_rfl) (by decide) (fun K hK => ?_)
    refine goesV_ Try.func56 (by kernel_rfl) rfl (.tmp 8) #[.agg #[.int .i64 2, .slice A M c, .string s, .string v], .func (.func 31) #[] #[.pointer (some ⟨m, 0, none⟩), .pointer (some ⟨mo, 0, none⟩), .pointer (some ⟨e0, 0, none⟩)]] (by rfl) rfl rfl (by rfl) (by simp only [List.map_toArray, List.map_cons, List.map_nil]; rfl) ?_
    with_reducible refine (hc.out).mono ?_
    rintro e w4 ⟨rfl, hb4⟩
    refine ⟨_, rfl, ?_⟩
    have p0 := pw_cell_below hb4 p0
    have p1 := pw_cell_below hb4 p1
    have p2 := pw_cell_below hb4 p2
    have p3 := pw_cell_below hb4 p3
    replace hb4 := Aside0.mk (below_then hb2.out hb2.out.size hb4)
    refine hK.out _ _ ⟨p0, p1, p2, p3⟩ (fun hHeld => ?_)
    clear hK K
    refine nm_ 11 ?_
    refine pn_ 7 4 (B_ 8 255) rfl rfl ?_
    refine done_ (by kernel_rfl) ?_
    go_wp2_with fail
    go_ret
    exact ⟨rfl, hb4.out⟩
  · obtain ⟨y, rfl⟩ := List.length_eq_one_iff.1 (k3 rfl)
    have hc := not_calls hG ⟨3, [y], s, v⟩ y A c w1.drew hE1 hv1 rfl (hch y List.mem_cons_self)
    rw [if_neg (by decide), if_neg (by decide), if_pos rfl, meansHd] at hm
    generalize hyl : ([y] : List Ft) = l at *
    try dsimp only at hc
    rw [← hm] at hc
    clear hm hb hX hv hv1 hE hE1 hch ih hgl hw hb1 k3
    unfold fv getV at hc ⊢
    try dsimp only at hc ⊢
    replace hc := Aside0.mk hc
    generalize l.length = M at *
    have hix : ∀ W, (Instr.index 86 (.agg #[.nilFunc, .func (.func 55) #[] #[], .func (.func 56) #[] #[], .func (.func 57) #[] #[], .func (.func 58) #[] #[], .func (.func 59) #[] #[], .func (.func 60) #[] #[]]) (.int .i64 3)).run Try.prog W = .ok (.func (.func 57) #[] #[]) W := fun W => rfl
    go_enter Try.func30, Try.ntmps30
    go_wp2_with fail
    refine start_ (n := 8) (S := fun w' => w'.cell? ⟨w.heap.size, 0, none⟩ = some (.int .i64 3) ∧ w'.cell? ⟨w.heap.size, 1, none⟩ = some (.slice A M c) ∧ w'.cell? ⟨w.heap.size, 2, none⟩ = some (.string s) ∧ w'.cell? ⟨w.heap.size, 3, none⟩ = some (.string v)) (ds := []) (B_ 8 0) (by kernel_rfl) rfl rfl ⟨p0, p1, p2, p3⟩ (fun hHeld => ?_)
    refine pn_ 0 5 (B_ 8 1) rfl rfl ?_
    refine pn_ 1 6 (B_ 8 3) rfl rfl ?_
    refine pn_ 5 10 (B_ 8 35) rfl rfl ?_
    refine tk_ 2 7 (B_ 8 39) rfl rfl hHeld (by rintro w' ⟨s0, s1, s2, s3⟩; go_simp; with_reducible rfl) ?_
    refine tk_ 3 8 (B_ 8 47) rfl rfl hHeld (by rintro w' ⟨s0, s1, s2, s3⟩; go_simp; with_reducible rfl) ?_
    refine tk_ 4 9 (B_ 8 63) rfl rfl hHeld (by rintro w' ⟨s0, s1, s2, s3⟩; go_simp; with_reducible rfl) ?_
    refine one_ (i := 6) (N := some 11) (B_ 8 127) rfl rfl (by kernel_rfl) (by decide) (fun K hK => ?_)
    refine goesV_ Try.func57 (by kernel_rfl) rfl (.tmp 8) #[.agg #[.int .i64 3, .slice A M c, .string s, .string v], .func (.func 31) #[] #[.pointer (some ⟨m, 0, none⟩), .pointer (some ⟨mo, 0, none⟩), .pointer (some ⟨e0, 0, none⟩)]] (by rfl) rfl rfl (by rfl) (by simp only [List.map_toArray, List.map_cons, List.map_nil]; rfl) ?_
    with_reducible refine (hc.out).mono ?_
    rintro e w4 ⟨rfl, hb4⟩
    refine ⟨_, rfl, ?_⟩
    have p0 := pw_cell_below hb4 p0
    have p1 := pw_cell_below hb4 p1
    have p2 := pw_cell_below hb4 p2
    have p3 := pw_cell_below hb4 p3
    replace hb4 := Aside0.mk (below_then hb2.out hb2.out.size hb4)
    refine hK.out _ _ ⟨p0, p1, p2, p3⟩ (fun hHeld => ?_)
    clear hK K
    refine nm_ 11 ?_
    refine pn_ 7 4 (B_ 8 255) rfl rfl ?_
    refine done_ (by kernel_rfl) ?_
    go_wp2_with fail
    go_ret
    exact ⟨rfl, hb4.out⟩
  · have hc := eq_calls hG ⟨4, l, s, v⟩ A c w1.drew hE1 (by show s.size ≤ 12000; omega) (by show v.size ≤ 12000; omega)
    rw [if_neg (by decide), if_neg (by decide), if_neg (by decide), if_pos rfl] at hm
    try dsimp only at hc
    rw [← hm] at hc
    clear hm hb hX hv hv1 hE hE1 hch ih hgl hw hb1 k3
    unfold fv getV at hc ⊢
    try dsimp only at hc ⊢
    replace hc := Aside0.mk hc
    generalize l.length = M at *
    have hix : ∀ W, (Instr.index 86 (.agg #[.nilFunc, .func (.func 55) #[] #[], .func (.func 56) #[] #[], .func (.func 57) #[] #[], .func (.func 58) #[] #[], .func (.func 59) #[] #[], .func (.func 60) #[] #[]]) (.int .i64 4)).run Try.prog W = .ok (.func (.func 58) #[] #[]) W := fun W => rfl
    go_enter Try.func30, Try.ntmps30
    go_wp2_with fail
    refine start_ (n := 8) (S := fun w' => w'.cell? ⟨w.heap.size, 0, none⟩ = some (.int .i64 4) ∧ w'.cell? ⟨w.heap.size, 1, none⟩ = some (.slice A M c) ∧ w'.cell? ⟨w.heap.size, 2, none⟩ = some (.string s) ∧ w'.cell? ⟨w.heap.size, 3, none⟩ = some (.string v)) (ds := []) (B_ 8 0) (by kernel_rfl) rfl rfl ⟨p0, p1, p2, p3⟩ (fun hHeld => ?_)
    refine pn_ 0 5 (B_ 8 1) rfl rfl ?_
    refine pn_ 1 6 (B_ 8 3) rfl rfl ?_
    refine pn_ 5 10 (B_ 8 35) rfl rfl ?_
    refine tk_ 2 7 (B_ 8 39) rfl rfl hHeld (by rintro w' ⟨s0, s1, s2, s3⟩; go_simp; with_reducible rfl) ?_
    refine tk_ 3 8 (B_ 8 47) rfl rfl hHeld (by rintro w' ⟨s0, s1, s2, s3⟩; go_simp; with_reducible rfl) ?_
    refine tk_ 4 9 (B_ 8 63) rfl rfl hHeld (by rintro w' ⟨s0, s1, s2, s3⟩; go_simp; with_reducible rfl) ?_
    refine one_ (i := 6) (N := some 11) (B_ 8 127) rfl rfl (by kernel_rfl) (by decide) (fun K hK => ?_)
    refine goesV_ Try.func58 (by kernel_rfl) rfl (.tmp 8) #[.agg #[.int .i64 4, .slice A M c, .string s, .string v], .func (.func 31) #[] #[.pointer (some ⟨m, 0, none⟩), .pointer (some ⟨mo, 0, none⟩), .pointer (some ⟨e0, 0, none⟩)]] (by rfl) rfl rfl (by rfl) (by simp only [List.map_toArray, List.map_cons, List.map_nil]; rfl) ?_
    with_reducible refine (hc.out).mono ?_
    rintro e w4 ⟨rfl, hb4⟩
    refine ⟨_, rfl, ?_⟩
    have p0 := pw_cell_below hb4 p0
    have p1 := pw_cell_below hb4 p1
    have p2 := pw_cell_below hb4 p2
    have p3 := pw_cell_below hb4 p3
    replace hb4 := Aside0.mk (below_then hb2.out hb2.out.size hb4)
    refine hK.out _ _ ⟨p0, p1, p2, p3⟩ (fun hHeld => ?_)
    clear hK K
    refine nm_ 11 ?_
    refine pn_ 7 4 (B_ 8 255) rfl rfl ?_
    refine done_ (by kernel_rfl) ?_
    go_wp2_with fail
    go_ret
    exact ⟨rfl, hb4.out⟩
  · have hc := begin_calls hG ⟨5, l, s, v⟩ A c w1.drew hE1 (by show s.size ≤ 12000; omega) (by show v.size ≤ 12000; omega)
    rw [if_neg (by decide), if_neg (by decide), if_neg (by decide), if_neg (by decide), if_pos rfl] at hm
    try dsimp only at hc
    rw [← hm] at hc
    clear hm hb hX hv hv1 hE hE1 hch ih hgl hw hb1 k3
    unfold fv getV at hc ⊢
    try dsimp only at hc ⊢
    replace hc := Aside0.mk hc
    generalize l.length = M at *
    have hix : ∀ W, (Instr.index 86 (.agg #[.nilFunc, .func (.func 55) #[] #[], .func (.func 56) #[] #[], .func (.func 57) #[] #[], .func (.func 58) #[] #[], .func (.func 59) #[] #[], .func (.func 60) #[] #[]]) (.int .i64 5)).run Try.prog W = .ok (.func (.func 59) #[] #[]) W := fun W => rfl
    go_enter Try.func30, Try.ntmps30
    go_wp2_with fail
    refine start_ (n := 8) (S := fun w' => w'.cell? ⟨w.heap.size, 0, none⟩ = some (.int .i64 5) ∧ w'.cell? ⟨w.heap.size, 1, none⟩ = some (.slice A M c) ∧ w'.cell? ⟨w.heap.size, 2, none⟩ = some (.string s) ∧ w'.cell? ⟨w.heap.size, 3, none⟩ = some (.string v)) (ds := []) (B_ 8 0) (by kernel_rfl) rfl rfl ⟨p0, p1, p2, p3⟩ (fun hHeld => ?_)
    refine pn_ 0 5 (B_ 8 1) rfl rfl ?_
    refine pn_ 1 6 (B_ 8 3) rfl rfl ?_
    refine pn_ 5 10 (B_ 8 35) rfl rfl ?_
    refine tk_ 2 7 (B_ 8 39) rfl rfl hHeld (by rintro w' ⟨s0, s1, s2, s3⟩; go_simp; with_reducible rfl) ?_
    refine tk_ 3 8 (B_ 8 47) rfl rfl hHeld (by rintro w' ⟨s0, s1, s2, s3⟩; go_simp; with_reducible rfl) ?_
    refine tk_ 4 9 (B_ 8 63) rfl rfl hHeld (by rintro w' ⟨s0, s1, s2, s3⟩; go_simp; with_reducible rfl) ?_
    refine one_ (i := 6) (N := some 11) (B_ 8 127) rfl rfl (by kernel_rfl) (by decide) (fun K hK => ?_)
    refine goesV_ Try.func59 (by kernel_rfl) rfl (.tmp 8) #[.agg #[.int .i64 5, .slice A M c, .string s, .string v], .func (.func 31) #[] #[.pointer (some ⟨m, 0, none⟩), .pointer (some ⟨mo, 0, none⟩), .pointer (some ⟨e0, 0, none⟩)]] (by rfl) rfl rfl (by rfl) (by simp only [List.map_toArray, List.map_cons, List.map_nil]; rfl) ?_
    with_reducible refine (hc.out).mono ?_
    rintro e w4 ⟨rfl, hb4⟩
    refine ⟨_, rfl, ?_⟩
    have p0 := pw_cell_below hb4 p0
    have p1 := pw_cell_below hb4 p1
    have p2 := pw_cell_below hb4 p2
    have p3 := pw_cell_below hb4 p3
    replace hb4 := Aside0.mk (below_then hb2.out hb2.out.size hb4)
    refine hK.out _ _ ⟨p0, p1, p2, p3⟩ (fun hHeld => ?_)
    clear hK K
    refine nm_ 11 ?_
    refine pn_ 7 4 (B_ 8 255) rfl rfl ?_
    refine done_ (by kernel_rfl) ?_
    go_wp2_with fail
    go_ret
    exact ⟨rfl, hb4.out⟩
  · have hc := has_calls hG ⟨6, l, s, v⟩ A c w1.drew hE1 (by show s.size ≤ 12000; omega)
    rw [if_neg (by decide), if_neg (by decide), if_neg (by decide), if_neg (by decide), if_neg (by decide)] at hm
    try dsimp only at hc
    rw [← hm] at hc
    clear hm hb hX hv hv1 hE hE1 hch ih hgl hw hb1 k3
    unfold fv getV at hc ⊢
    try dsimp only at hc ⊢
    replace hc := Aside0.mk hc
    generalize l.length = M at *
    have hix : ∀ W, (Instr.index 86 (.agg #[.nilFunc, .func (.func 55) #[] #[], .func (.func 56) #[] #[], .func (.func 57) #[] #[], .func (.func 58) #[] #[], .func (.func 59) #[] #[], .func (.func 60) #[] #[]]) (.int .i64 6)).run Try.prog W = .ok (.func (.func 60) #[] #[]) W := fun W => rfl
    go_enter Try.func30, Try.ntmps30
    go_wp2_with fail
    refine start_ (n := 8) (S := fun w' => w'.cell? ⟨w.heap.size, 0, none⟩ = some (.int .i64 6) ∧ w'.cell? ⟨w.heap.size, 1, none⟩ = some (.slice A M c) ∧ w'.cell? ⟨w.heap.size, 2, none⟩ = some (.string s) ∧ w'.cell? ⟨w.heap.size, 3, none⟩ = some (.string v)) (ds := []) (B_ 8 0) (by kernel_rfl) rfl rfl ⟨p0, p1, p2, p3⟩ (fun hHeld => ?_)
    refine pn_ 0 5 (B_ 8 1) rfl rfl ?_
    refine pn_ 1 6 (B_ 8 3) rfl rfl ?_
    refine pn_ 5 10 (B_ 8 35) rfl rfl ?_
    refine tk_ 2 7 (B_ 8 39) rfl rfl hHeld (by rintro w' ⟨s0, s1, s2, s3⟩; go_simp; with_reducible rfl) ?_
    refine tk_ 3 8 (B_ 8 47) rfl rfl hHeld (by rintro w' ⟨s0, s1, s2, s3⟩; go_simp; with_reducible rfl) ?_
    refine tk_ 4 9 (B_ 8 63) rfl rfl hHeld (by rintro w' ⟨s0, s1, s2, s3⟩; go_simp; with_reducible rfl) ?_
    refine one_ (i := 6) (N := some 11) (B_ 8 127) rfl rfl (by kernel_rfl) (by decide) (fun K hK => ?_)
    refine goesV_ Try.func60 (by kernel_rfl) rfl (.tmp 8) #[.agg #[.int .i64 6, .slice A M c, .string s, .string v], .func (.func 31) #[] #[.pointer (some ⟨m, 0, none⟩), .pointer (some ⟨mo, 0, none⟩), .pointer (some ⟨e0, 0, none⟩)]] (by rfl) rfl rfl (by rfl) (by simp only [List.map_toArray, List.map_cons, List.map_nil]; rfl) ?_
    with_reducible refine (hc.out).mono ?_
    rintro e w4 ⟨rfl, hb4⟩
    refine ⟨_, rfl, ?_⟩
    have p0 := pw_cell_below hb4 p0
    have p1 := pw_cell_below hb4 p1
    have p2 := pw_cell_below hb4 p2
    have p3 := pw_cell_below hb4 p3
    replace hb4 := Aside0.mk (below_then hb2.out hb2.out.size hb4)
    refine hK.out _ _ ⟨p0, p1, p2, p3⟩ (fun hHeld => ?_)
    clear hK K
    refine nm_ 11 ?_
    refine pn_ 7 4 (B_ 8 255) rfl rfl ?_
    refine done_ (by kernel_rfl) ?_
    go_wp2_with fail
    go_ret
    exact ⟨rfl, hb4.out⟩
end Go.Proofs.Ytgnmkblaockghaa
