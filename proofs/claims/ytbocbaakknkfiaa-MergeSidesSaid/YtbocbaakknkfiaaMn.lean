/- merge.Three, of contacts that may be. -/
import Derived.Test.YtbocbaakknkfiaaMm
set_option linter.unusedVariables false
set_option linter.unusedSimpArgs false
namespace Go.Proofs.Ytbocbaakknkfiaa
open Go.RowKit Go.Shelf Go.Proofs.YtbocbaakknkfiaaW.PrintWords Go.Proofs.YtbocbaakknkfiaaW.PrintMore Go.Proofs.YtbocbaakknkfiaaW.PrintLast

/-- What lies in a box is laid into it again. -/
theorem store_self {P : Program} {o : Oper} {a : Act} {w : World} (ty : TypeId) (x y : Operand) (ho : o.op = .store ty x y) (g : Nat) (cells : Array Value) (t : TypeId) (hx : a.eval x = .pointer (some ⟨g, 0, none⟩)) (hy : a.eval y = .agg cells)
    (hg : w.heap[g]? = some (.cells cells t (0, 0))) (hi : (P.info? ty).map (·.size) = some cells.size) (h1 : cells.all (·.oneCell') = true) : (execOp a.eval o).run P w = .ok .skip w := by
  have h := run_storeVar_row (P := P) w g t ty cells cells hg hi rfl h1
  rw [setRow_self w g cells t (0, 0) hg] at h
  unfold execOp
  simp only [ho, hx, hy, Instr.storeAt, Instr.sureAddr, Sem.run_bind, Sem.run_pure, Result.andThen_ok, h]
set_option maxRecDepth 20000 in
set_option maxHeartbeats 4000000 in
theorem three_yes (x y z : CT) (w : World) (hx : x.In w) (hy : y.In w) (hz : z.In w) (hyes : (checkOk x.L && (checkOk y.L && checkOk z.L)) = true) :
    Calls Try.prog 10 #[.agg (conV x.V), .agg (conV y.V), .agg (conV z.V)] w fun e w' => ∃ v A c, e = .returned (.tuple #[.agg (conV (FV A c (merged x.L y.L z.L))), v, .int .i64 0]) ∧ Con w' A c (merged x.L y.L z.L) ∧ (Kd.int .i64).R 3 w' 0 (fun _ => True) v (disps x.L y.L z.L 8) ∧ Below w.heap.size w w' := by
  obtain ⟨w1, hw1⟩ : ∃ w1, (((((w.alloc (.cells (conV x.V) 24)).alloc (.cells (conV y.V) 24)).alloc (.cells (conV z.V) 24)).alloc (.cells #[.slice none 0 0, .slice none 0 0, .slice none 0 0, .slice none 0 0, .slice none 0 0, .slice none 0 0, .slice none 0 0, .slice none 0 0] 24)).alloc (.cells #[.slice none 0 0] 28)) = w1 := ⟨_, rfl⟩
  have hl : Laid3 w w1 x y z := by rw [← hw1]; exact laid3 w x y z
  have hb2 := below_alloc (Below.refl w1.heap.size w1) (.cells #[x.V 0, x.V 1, x.V 2, x.V 3, x.V 4, x.V 5, x.V 6, x.V 7, y.V 0, y.V 1, y.V 2, y.V 3, y.V 4, y.V 5, y.V 6, y.V 7, z.V 0, z.V 1, z.V 2, z.V 3, z.V 4, z.V 5, z.V 6, z.V 7] 24)
  have hb3 := below_then hl.bel hl.bel.size hb2
  have hr := right_calls w1.heap.size 3 [x, y, z] _ (by simp) (laid3_row w1 x y z) (fun t ht => by
    simp only [List.mem_cons, List.not_mem_nil, or_false] at ht
    rcases ht with rfl | rfl | rfl
    · exact hx.below hb3
    · exact hy.below hb3
    · exact hz.below hb3)
  have ha : ([x, y, z] : List CT).all (fun x => checkOk x.L) = true := by simpa using hyes
  rw [ha] at hr
  have hs := hl.size
  have p0 := fun i hi => con_cell hl.b0 i hi
  have p1 := fun i hi => con_cell hl.b1 i hi
  have p2 := fun i hi => con_cell hl.b2 i hi
  have u0 := p0 0 (by omega)
  have u1 := p0 1 (by omega)
  have u2 := p0 2 (by omega)
  have u3 := p0 3 (by omega)
  have u4 := p0 4 (by omega)
  have u5 := p0 5 (by omega)
  have u6 := p0 6 (by omega)
  have u7 := p0 7 (by omega)
  have v0 := p1 0 (by omega)
  have v1 := p1 1 (by omega)
  have v2 := p1 2 (by omega)
  have v3 := p1 3 (by omega)
  have v4 := p1 4 (by omega)
  have v5 := p1 5 (by omega)
  have v6 := p1 6 (by omega)
  have v7 := p1 7 (by omega)
  have t0 := p2 0 (by omega)
  have t1 := p2 1 (by omega)
  have t2 := p2 2 (by omega)
  have t3 := p2 3 (by omega)
  have t4 := p2 4 (by omega)
  have t5 := p2 5 (by omega)
  have t6 := p2 6 (by omega)
  have t7 := p2 7 (by omega)
  obtain ⟨X, hX⟩ : ∃ X, x.V = X := ⟨_, rfl⟩
  obtain ⟨Y, hY⟩ : ∃ Y, y.V = Y := ⟨_, rfl⟩
  obtain ⟨Z, hZ⟩ : ∃ Z, z.V = Z := ⟨_, rfl⟩
  rw [hX] at u0 u1 u2 u3 u4 u5 u6 u7 hw1 hr hb2 hb3
  rw [hY] at v0 v1 v2 v3 v4 v5 v6 v7 hw1 hr hb2 hb3
  rw [hZ] at t0 t1 t2 t3 t4 t5 t6 t7 hw1 hr hb2 hb3
  rw [hX, hY, hZ]
  replace hX := Aside0.mk hX
  replace hY := Aside0.mk hY
  replace hZ := Aside0.mk hZ
  replace hx := Aside0.mk hx
  replace hy := Aside0.mk hy
  replace hz := Aside0.mk hz
  replace hl := Aside0.mk hl
  replace hr := Aside0.mk hr
  replace hb3 := Aside0.mk hb3
  replace hb2 := Aside0.mk hb2
  clear p0 p1 p2 ha hyes
  go_enter Try.func10, Try.ntmps10
  go_wp2_with fail
  refine wp_scope_forward 0 rfl ?_
  go_wp2_with fail
  have hr := hr.out
  rw [hs] at hr
  refine hr.mono ?_
  rintro e w2 ⟨rfl, hb4⟩
  have hb5 := below_then hb2.out hb2.out.size hb4
  have l : ∀ {B : Nat} {o : Obj}, w1.heap[B]? = some o → w2.heap[B]? = some o := fun hq => (hb5.block _ (Array.getElem?_eq_some_iff.1 hq).1).trans hq
  have e0 : outV (fun _ => none) (fun _ => 0) (merged x.L y.L z.L) 0 = nilV := by funext i; simp [outV, nilV]
  have hts : TS w w2 x y z 0 (.slice none 0 0) (fun _ => none) (fun _ => 0) := ⟨below_then hl.out.bel hl.out.bel.size hb5, l hl.out.b0, l hl.out.b1, l hl.out.b2, by rw [e0]; exact l hl.out.b3,
    ⟨l hl.out.b4, Kd.R_nil _ _ _ _ _, by simp [Value.ownBlock], by simp [disps]⟩, fun q hq => by simp [Value.ownBlock] at hq, fun i hi => by omega⟩
  replace hts := Aside0.mk hts
  clear u0 u1 u2 u3 u4 u5 u6 u7 v0 v1 v2 v3 v4 v5 v6 v7 t0 t1 t2 t3 t4 t5 t6 t7 hr hb2 hb3 hb4 hb5 hl l e0 hw1 hs
  go_wp2_with fail
  go_loopw [16] (fun s16 wr => ∃ (k : Nat) (v : Value) (A : Nat → Option Addr) (c : Nat → Nat), k ≤ 8 ∧ s16 = .int .i64 k ∧ Aside0 (TS w wr x y z k v A c)) (fun s16 _ => 8 - (intOf s16).toNat)
  case atStart => exact ⟨0, _, _, _, by omega, rfl, hts⟩
  case round =>
    clear hts
    obtain ⟨k, v, A, c, hk, rfl, hts⟩ := hrel
    by_cases hlt : k < 8
    · have hB := below_alloc (Below.refl wr.heap.size wr) (.cells #[.int .i64 (k : Int)] 3)
      have hB2 : Below wr.heap.size wr (wr.alloc (.cells #[.int .i64 (k : Int)] 3)).drew := hB.trans (below_drew (Below.refl _ _))
      have ht1 := hts.out.below hB2
      have H1 : (wr.alloc (.cells #[.int .i64 (k : Int)] 3)).drew.heap[wr.heap.size]? = some (.cells #[.int .i64 (k : Int)] 3 (0, 0)) := Go.heap_alloc_new wr _
      have hVx : x.V k = .slice (x.A k) (x.L k).length (x.c k) := rfl
      have hVy : y.V k = .slice (y.A k) (y.L k).length (y.c k) := rfl
      have hVz : z.V k = .slice (z.A k) (z.L k).length (z.c k) := rfl
      have g0 := con_cell ht1.b0 k hlt
      have g1 := con_cell ht1.b1 k hlt
      have g2 := con_cell ht1.b2 k hlt
      rw [hVx] at g0
      rw [hVy] at g1
      rw [hVz] at g2
      have g3 : (wr.alloc (.cells #[.int .i64 (k : Int)] 3)).drew.cell? ⟨wr.heap.size, 0, none⟩ = some (.int .i64 (k : Int)) := (cell_of_row _ _ _ _ _ _ H1).trans rfl
      have hpk := pick_calls (w.heap.size + 4) wr.heap.size (k : Int) v (disps x.L y.L z.L k) (x.A k) (y.A k) (z.A k) (x.c k) (y.c k) (z.c k) (x.L k) (y.L k) (z.L k) _ ht1.dis g3 (by have := disps_length x.L y.L z.L k; omega)
        ((hx.out.below ht1.bel).1.row k hlt) ((hy.out.below ht1.bel).1.row k hlt) ((hz.out.below ht1.bel).1.row k hlt) (hy.out.2 k hlt).1 (hz.out.2 k hlt).1
      rw [← disps_next] at hpk
      have hcl : ∀ W : World, Below w.heap.size w W → Calls Try.prog 23 #[if takesA (x.L k) (y.L k) (z.L k) then .slice (y.A k) (y.L k).length (y.c k) else .slice (z.A k) (z.L k).length (z.c k)] W fun e w' => ∃ A' c', e = .returned (.slice A' (merged x.L y.L z.L k).length c') ∧ st.R 9 w' 0 (fun q => W.heap.size ≤ q) (.slice A' (merged x.L y.L z.L k).length c') (merged x.L y.L z.L k) ∧ Below W.heap.size W w' := fun W hW => by
        unfold merged
        cases takesA (x.L k) (y.L k) (z.L k) with
        | true => exact clone_calls (y.A k) (y.c k) (y.L k) W ((hy.out.below hW).1.row k hlt) (hy.out.2 k hlt).1
        | false => exact clone_calls (z.A k) (z.c k) (z.L k) W ((hz.out.below hW).1.row k hlt) (hz.out.2 k hlt).1
      have hown : some wr.heap.size ≠ v.ownBlock := fun e => by have := ((Kd.R_bound hts.out.dis.row).1 _ e.symm).2.2.1; omega
      have hwz := hts.out.bel.size
      have h4 := (Array.getElem?_eq_some_iff.1 hts.out.dis.box).1
      have i1 : (0 : Int) ≤ (k : Int) := by omega
      have i2 : (k : Int) < 8 := by omega
      obtain ⟨s, hs⟩ : ∃ s, (if takesA (x.L k) (y.L k) (z.L k) then Value.slice (y.A k) (y.L k).length (y.c k) else .slice (z.A k) (z.L k).length (z.c k)) = s := ⟨_, rfl⟩
      rw [hs] at hpk
      simp only [hs] at hcl
      replace hpk := Aside0.mk hpk
      replace hcl := Aside0.mk hcl
      replace hown := Aside0.mk hown
      replace ht1 := Aside0.mk ht1
      replace H1 := Aside0.mk H1
      replace hB2 := Aside0.mk hB2
      clear hB hs
      go_wp2_with fail
      refine start_ (n := 15) (S := fun w' => w'.cell? ⟨wr.heap.size, 0, none⟩ = some (.int .i64 (k : Int)) ∧ w'.cell? ⟨w.heap.size, k, none⟩ = some (.slice (x.A k) (x.L k).length (x.c k)) ∧ w'.cell? ⟨w.heap.size + 1, k, none⟩ = some (.slice (y.A k) (y.L k).length (y.c k)) ∧ w'.cell? ⟨w.heap.size + 2, k, none⟩ = some (.slice (z.A k) (z.L k).length (z.c k))) (ds := [14]) #[false, false, false, false, false, false, false, false, false, false, false, false, false, false, false] (by kernel_rfl) rfl rfl ⟨g3, g0, g1, g2⟩ (fun hHeld => ?_)
      refine take_ (i := 0) (N := some 19) (v := ?_) (a' := ?_) #[true, false, false, false, false, false, false, false, false, false, false, false, false, false, false] rfl rfl (by kernel_rfl) (fun _ _ _ h => h) (Or.inl ⟨by rfl, ?_⟩) hHeld ?_ ?_
      rotate_left
      · rintro w' ⟨s0, s1, s2, s3⟩
        go_simp
        with_reducible rfl
      rotate_left
      · simp only [Act.put, List.setIfInBounds_toArray, List.set_cons_zero, List.set_cons_succ, i64_w, i32_w]
        rfl
      refine take_ (i := 1) (N := some 20) (v := ?_) (a' := ?_) #[true, true, false, false, false, false, false, false, false, false, false, false, false, false, false] rfl rfl (by kernel_rfl) (fun _ _ _ h => h) (Or.inl ⟨by rfl, ?_⟩) hHeld ?_ ?_
      rotate_left
      · rintro w' ⟨s0, s1, s2, s3⟩
        go_simp
        with_reducible rfl
      rotate_left
      · simp only [Act.put, List.setIfInBounds_toArray, List.set_cons_zero, List.set_cons_succ, i64_w, i32_w]
        rfl
      refine pure_ (i := 2) (N := some 21) (v := ?_) (a' := ?_) #[true, true, true, false, false, false, false, false, false, false, false, false, false, false, false] rfl rfl (by kernel_rfl) (fun _ _ _ h => h) (Or.inl ⟨by rfl, ?_⟩) ?_ ?_
      rotate_left
      · intro w'
        go_simp
        with_reducible rfl
      rotate_left
      · simp only [Act.put, List.setIfInBounds_toArray, List.set_cons_zero, List.set_cons_succ, i64_w, i32_w]
        rfl
      refine take_ (i := 3) (N := some 22) (v := ?_) (a' := ?_) #[true, true, true, true, false, false, false, false, false, false, false, false, false, false, false] rfl rfl (by kernel_rfl) (fun _ _ _ h => h) (Or.inl ⟨by rfl, ?_⟩) hHeld ?_ ?_
      rotate_left
      · rintro w' ⟨s0, s1, s2, s3⟩
        go_simp
        with_reducible rfl
      rotate_left
      · simp only [Act.put, List.setIfInBounds_toArray, List.set_cons_zero, List.set_cons_succ, i64_w, i32_w]
        rfl
      refine take_ (i := 4) (N := some 23) (v := ?_) (a' := ?_) #[true, true, true, true, true, false, false, false, false, false, false, false, false, false, false] rfl rfl (by kernel_rfl) (fun _ _ _ h => h) (Or.inl ⟨by rfl, ?_⟩) hHeld ?_ ?_
      rotate_left
      · rintro w' ⟨s0, s1, s2, s3⟩
        go_simp
        with_reducible rfl
      rotate_left
      · simp only [Act.put, List.setIfInBounds_toArray, List.set_cons_zero, List.set_cons_succ, i64_w, i32_w]
        rfl
      refine pure_ (i := 5) (N := some 24) (v := ?_) (a' := ?_) #[true, true, true, true, true, true, false, false, false, false, false, false, false, false, false] rfl rfl (by kernel_rfl) (fun _ _ _ h => h) (Or.inl ⟨by rfl, ?_⟩) ?_ ?_
      rotate_left
      · intro w'
        go_simp
        with_reducible rfl
      rotate_left
      · simp only [Act.put, List.setIfInBounds_toArray, List.set_cons_zero, List.set_cons_succ, i64_w, i32_w]
        rfl
      refine take_ (i := 6) (N := some 25) (v := ?_) (a' := ?_) #[true, true, true, true, true, true, true, false, false, false, false, false, false, false, false] rfl rfl (by kernel_rfl) (fun _ _ _ h => h) (Or.inl ⟨by rfl, ?_⟩) hHeld ?_ ?_
      rotate_left
      · rintro w' ⟨s0, s1, s2, s3⟩
        go_simp
        with_reducible rfl
      rotate_left
      · simp only [Act.put, List.setIfInBounds_toArray, List.set_cons_zero, List.set_cons_succ, i64_w, i32_w]
        rfl
      refine take_ (i := 7) (N := some 26) (v := ?_) (a' := ?_) #[true, true, true, true, true, true, true, true, false, false, false, false, false, false, false] rfl rfl (by kernel_rfl) (fun _ _ _ h => h) (Or.inl ⟨by rfl, ?_⟩) hHeld ?_ ?_
      rotate_left
      · rintro w' ⟨s0, s1, s2, s3⟩
        go_simp
        with_reducible rfl
      rotate_left
      · simp only [Act.put, List.setIfInBounds_toArray, List.set_cons_zero, List.set_cons_succ, i64_w, i32_w]
        rfl
      refine pure_ (i := 8) (N := some 27) (v := ?_) (a' := ?_) #[true, true, true, true, true, true, true, true, true, false, false, false, false, false, false] rfl rfl (by kernel_rfl) (fun _ _ _ h => h) (Or.inl ⟨by rfl, ?_⟩) ?_ ?_
      rotate_left
      · intro w'
        go_simp
        with_reducible rfl
      rotate_left
      · simp only [Act.put, List.setIfInBounds_toArray, List.set_cons_zero, List.set_cons_succ, i64_w, i32_w]
        rfl
      refine take_ (i := 9) (N := some 28) (v := ?_) (a' := ?_) #[true, true, true, true, true, true, true, true, true, true, false, false, false, false, false] rfl rfl (by kernel_rfl) (fun _ _ _ h => h) (Or.inl ⟨by rfl, ?_⟩) hHeld ?_ ?_
      rotate_left
      · rintro w' ⟨s0, s1, s2, s3⟩
        go_simp
        with_reducible rfl
      rotate_left
      · simp only [Act.put, List.setIfInBounds_toArray, List.set_cons_zero, List.set_cons_succ, i64_w, i32_w]
        rfl
      refine one_ (i := 10) (N := some 29) #[true, true, true, true, true, true, true, true, true, true, true, false, false, false, false] rfl rfl (by kernel_rfl) (by decide) (fun K hK => ?_)
      refine value_ (w1 := ?_) (v := ?_) (by rfl) rfl ?_ ?_
      rotate_left 2
      · go_simp
        constructor
        · rfl
        · rfl
      refine hK.out _ _ ⟨(And.intro g3 (And.intro g0 (And.intro g1 g2))).1, (And.intro g3 (And.intro g0 (And.intro g1 g2))).2.1, (And.intro g3 (And.intro g0 (And.intro g1 g2))).2.2.1, (And.intro g3 (And.intro g0 (And.intro g1 g2))).2.2.2⟩ (fun hHeld => ?_)
      clear hK K
      refine norm_ (a' := ?_) ?_ ?_
      rotate_left
      · show Act.put _ (some 29) _ = _
        simp only [Act.put, List.setIfInBounds_toArray, List.set_cons_zero, List.set_cons_succ, i64_w, i32_w]
        rfl
      refine one_ (i := 11) (N := some 30) #[true, true, true, true, true, true, true, true, true, true, true, true, false, false, false] rfl rfl (by kernel_rfl) (by decide) (fun K hK => ?_)
      refine goes_ Try.func24 (by kernel_rfl) rfl #[.slice (x.A k) (x.L k).length (x.c k), .slice (y.A k) (y.L k).length (y.c k), .slice (z.A k) (z.L k).length (z.c k), .func (.func 25) #[] #[], .func (.func 26) #[] #[.pointer (some ⟨w.heap.size + 4, 0, none⟩), .pointer (some ⟨wr.heap.size, 0, none⟩)]] (by rfl) rfl rfl (by simp only [List.map_toArray, List.map_cons, List.map_nil]; rfl) ?_
      with_reducible refine (hpk.out).mono ?_
      rintro e w4 ⟨rfl, hT⟩
      refine ⟨_, rfl, ?_⟩
      obtain ⟨v', t1, t2, t3, t4, t5, t6, t7, t8, t9, t10⟩ := ht1.out.turn hT
      have hcl4 := Aside0.mk (hcl.out w4 t1)
      have r3 := t10 _ _ H1.out (by omega) hown.out
      have q3 : w4.cell? ⟨wr.heap.size, 0, none⟩ = some (.int .i64 (k : Int)) := (cell_of_row _ _ _ _ _ _ r3).trans rfl
      have q0 := con_cell t2 k hlt
      have q1 := con_cell t3 k hlt
      have q2 := con_cell t4 k hlt
      rw [hVx] at q0
      rw [hVy] at q1
      rw [hVz] at q2
      refine hK.out _ _ ⟨(And.intro q3 (And.intro q0 (And.intro q1 q2))).1, (And.intro q3 (And.intro q0 (And.intro q1 q2))).2.1, (And.intro q3 (And.intro q0 (And.intro q1 q2))).2.2.1, (And.intro q3 (And.intro q0 (And.intro q1 q2))).2.2.2⟩ (fun hHeld => ?_)
      clear hK K
      refine norm_ (a' := ?_) ?_ ?_
      rotate_left
      · show Act.put _ (some 30) _ = _
        simp only [Act.put, List.setIfInBounds_toArray, List.set_cons_zero, List.set_cons_succ, i64_w, i32_w]
        rfl
      refine one_ (i := 12) (N := some 31) #[true, true, true, true, true, true, true, true, true, true, true, true, true, false, false] rfl rfl (by kernel_rfl) (by decide) (fun K hK => ?_)
      refine goes_ Try.func23 (by kernel_rfl) rfl #[s] (by rfl) rfl rfl (by simp only [List.map_toArray, List.map_cons, List.map_nil]; rfl) ?_
      with_reducible refine (hcl4.out).mono ?_
      rintro e w5 ⟨A5, c5, rfl, hR5, hb5⟩
      refine ⟨_, rfl, ?_⟩
      have hnext := Aside0.mk (ts_next hlt t1 t2 t3 t4 t5 t6 t7 t8 hR5 hb5)
      have p3 := con_cell ((hb5.block _ (Array.getElem?_eq_some_iff.1 t5).1).trans t5) k hlt
      have pf : w5.frozen? ⟨w.heap.size + 3, k, none⟩ = false := frozen_of_row _ _ _ _ _ ((hb5.block _ (Array.getElem?_eq_some_iff.1 t5).1).trans t5)
      have q3 := pw_cell_below hb5 q3
      have q0 := pw_cell_below hb5 q0
      have q1 := pw_cell_below hb5 q1
      have q2 := pw_cell_below hb5 q2
      refine hK.out _ _ ⟨(And.intro q3 (And.intro q0 (And.intro q1 q2))).1, (And.intro q3 (And.intro q0 (And.intro q1 q2))).2.1, (And.intro q3 (And.intro q0 (And.intro q1 q2))).2.2.1, (And.intro q3 (And.intro q0 (And.intro q1 q2))).2.2.2⟩ (fun hHeld => ?_)
      clear hK K
      refine norm_ (a' := ?_) ?_ ?_
      rotate_left
      · show Act.put _ (some 31) _ = _
        simp only [Act.put, List.setIfInBounds_toArray, List.set_cons_zero, List.set_cons_succ, i64_w, i32_w]
        rfl
      refine pure_ (i := 13) (N := some 32) (v := ?_) (a' := ?_) #[true, true, true, true, true, true, true, true, true, true, true, true, true, true, false] rfl rfl (by kernel_rfl) (fun _ _ _ h => h) (Or.inl ⟨by rfl, ?_⟩) ?_ ?_
      rotate_left
      · intro w'
        go_simp
        with_reducible rfl
      rotate_left
      · simp only [Act.put, List.setIfInBounds_toArray, List.set_cons_zero, List.set_cons_succ, i64_w, i32_w]
        rfl
      refine last_ (i := 14) (N := none) #[true, true, true, true, true, true, true, true, true, true, true, true, true, true, true] rfl rfl (by kernel_rfl) (by decide) (fun K hK => ?_)
      refine skip_ (w1 := ?_) (by rfl) rfl ?_ ?_
      rotate_left
      · go_simp
        rfl
      refine hK.out _ _ ?_
      clear hK K
      refine done_ (by kernel_rfl) ?_
      go_wp2_with fail
      go_roundw
      case rel => exact ⟨k + 1, _, _, _, by omega, by go_num, hnext⟩
      case measure => simp [intOf]; omega
    · have hk8 : k = 8 := by omega
      subst hk8
      obtain ⟨A', c', ev⟩ := Kd.R_slice hts.out.dis.row
      have hrow := hts.out.dis.row
      have hbx := hts.out.dis.box
      have hb3 := hts.out.b3
      have eV : outV A c (merged x.L y.L z.L) 8 = fun i => if i < 8 then Value.slice (A i) (merged x.L y.L z.L i).length (c i) else .slice none 0 0 := rfl
      have hcon : Con wr A c (merged x.L y.L z.L) := ⟨fun i hi => (hts.out.fs i hi).1, fun i hi => Kd.F_now (hts.out.fs i hi).2⟩
      have hbel := hts.out.bel
      obtain ⟨n, hn⟩ : ∃ n : Nat → Nat, (fun i => (merged x.L y.L z.L i).length) = n := ⟨_, rfl⟩
      have hn' : ∀ i, (merged x.L y.L z.L i).length = n i := fun i => congrFun hn i
      obtain ⟨n', hn2⟩ : ∃ n', (disps x.L y.L z.L 8).length = n' := ⟨_, rfl⟩
      obtain ⟨N, hN⟩ : ∃ N : Nat → Value, (fun i => Value.slice (A i) (n i) (c i)) = N := ⟨_, rfl⟩
      have hN' : ∀ i, N i = .slice (A i) (n i) (c i) := fun i => (congrFun hN i).symm
      rw [hn2] at ev
      have hb3 : wr.heap[w.heap.size + 3]? = some (.cells (conV N) 24 (0, 0)) := by
        rw [hb3]
        have e : outV A c (merged x.L y.L z.L) 8 = fun i => if i < 8 then N i else .slice none 0 0 := by funext i; unfold outV FV; rw [hN', hn']
        rw [e]
        rfl
      rw [ev] at hbx
      have hs := hts.out.dis
      have hff : FV A c (merged x.L y.L z.L) = N := by funext i; rw [hN']; unfold FV; rw [hn']
      have m0 := con_cell hb3 0 (by omega)
      rw [hN'] at m0
      have m1 := con_cell hb3 1 (by omega)
      rw [hN'] at m1
      have m2 := con_cell hb3 2 (by omega)
      rw [hN'] at m2
      have m3 := con_cell hb3 3 (by omega)
      rw [hN'] at m3
      have m4 := con_cell hb3 4 (by omega)
      rw [hN'] at m4
      have m5 := con_cell hb3 5 (by omega)
      rw [hN'] at m5
      have m6 := con_cell hb3 6 (by omega)
      rw [hN'] at m6
      have m7 := con_cell hb3 7 (by omega)
      rw [hN'] at m7
      have mf : ∀ i, wr.frozen? ⟨w.heap.size + 3, i, none⟩ = false := fun i => frozen_of_row _ _ _ _ _ hb3
      have n0 : wr.cell? ⟨w.heap.size + 4, 0, none⟩ = some (.slice A' n' c') := (cell_of_row _ _ _ _ _ _ hbx).trans rfl
      have nf : wr.frozen? ⟨w.heap.size + 4, 0, none⟩ = false := frozen_of_row _ _ _ _ _ hbx
      have hX : wr.cell? ⟨w.heap.size + 3, 0, none⟩ = some (.slice (A 0) (n 0) (c 0)) ∧ wr.cell? ⟨w.heap.size + 3, 1, none⟩ = some (.slice (A 1) (n 1) (c 1)) ∧ wr.cell? ⟨w.heap.size + 3, 2, none⟩ = some (.slice (A 2) (n 2) (c 2)) ∧ wr.cell? ⟨w.heap.size + 3, 3, none⟩ = some (.slice (A 3) (n 3) (c 3)) ∧ wr.cell? ⟨w.heap.size + 3, 4, none⟩ = some (.slice (A 4) (n 4) (c 4)) ∧ wr.cell? ⟨w.heap.size + 3, 5, none⟩ = some (.slice (A 5) (n 5) (c 5)) ∧ wr.cell? ⟨w.heap.size + 3, 6, none⟩ = some (.slice (A 6) (n 6) (c 6)) ∧ wr.cell? ⟨w.heap.size + 3, 7, none⟩ = some (.slice (A 7) (n 7) (c 7)) ∧ wr.cell? ⟨w.heap.size + 4, 0, none⟩ = some (.slice A' n' c') := ⟨m0, m1, m2, m3, m4, m5, m6, m7, n0⟩
      have hX := Aside0.mk hX
      replace hts := Aside0.mk hts.out
      replace hcon := Aside0.mk hcon
      replace hbel := Aside0.mk hbel
      replace hrow := Aside0.mk hrow
      replace ev := Aside0.mk ev
      replace hff := Aside0.mk hff
      replace hbx := Aside0.mk hbx
      have eN : conV N = #[.slice (A 0) (n 0) (c 0), .slice (A 1) (n 1) (c 1), .slice (A 2) (n 2) (c 2), .slice (A 3) (n 3) (c 3), .slice (A 4) (n 4) (c 4), .slice (A 5) (n 5) (c 5), .slice (A 6) (n 6) (c 6), .slice (A 7) (n 7) (c 7)] := by
        show #[N 0, N 1, N 2, N 3, N 4, N 5, N 6, N 7] = _
        simp only [hN']
      rw [eN] at hb3
      replace hb3 := Aside0.mk hb3
      replace eN := Aside0.mk eN
      clear hN'
      clear eV hn hn' hn2 hN hs
      go_wp2_with fail
      refine start_ (n := 5) (S := fun w' => w'.cell? ⟨w.heap.size + 3, 0, none⟩ = some (.slice (A 0) (n 0) (c 0)) ∧ w'.cell? ⟨w.heap.size + 3, 1, none⟩ = some (.slice (A 1) (n 1) (c 1)) ∧ w'.cell? ⟨w.heap.size + 3, 2, none⟩ = some (.slice (A 2) (n 2) (c 2)) ∧ w'.cell? ⟨w.heap.size + 3, 3, none⟩ = some (.slice (A 3) (n 3) (c 3)) ∧ w'.cell? ⟨w.heap.size + 3, 4, none⟩ = some (.slice (A 4) (n 4) (c 4)) ∧ w'.cell? ⟨w.heap.size + 3, 5, none⟩ = some (.slice (A 5) (n 5) (c 5)) ∧ w'.cell? ⟨w.heap.size + 3, 6, none⟩ = some (.slice (A 6) (n 6) (c 6)) ∧ w'.cell? ⟨w.heap.size + 3, 7, none⟩ = some (.slice (A 7) (n 7) (c 7)) ∧ w'.cell? ⟨w.heap.size + 4, 0, none⟩ = some (.slice A' n' c')) (ds := [3]) #[false, false, false, false, false] (by kernel_rfl) rfl rfl ⟨(hX.out).1, (hX.out).2.1, (hX.out).2.2.1, (hX.out).2.2.2.1, (hX.out).2.2.2.2.1, (hX.out).2.2.2.2.2.1, (hX.out).2.2.2.2.2.2.1, (hX.out).2.2.2.2.2.2.2.1, (hX.out).2.2.2.2.2.2.2.2⟩ (fun hHeld => ?_)
      refine take_ (i := 0) (N := some 34) (v := ?_) (a' := ?_) #[true, false, false, false, false] rfl rfl (by kernel_rfl) (fun _ _ _ h => h) (Or.inl ⟨by rfl, ?_⟩) hHeld ?_ ?_
      rotate_left
      · rintro w' ⟨s0, s1, s2, s3, s4, s5, s6, s7, s8⟩
        go_simp
        with_reducible rfl
      rotate_left
      · simp only [Act.put, List.setIfInBounds_toArray, List.set_cons_zero, List.set_cons_succ, i64_w, i32_w]
        rfl
      refine take_ (i := 1) (N := some 35) (v := ?_) (a' := ?_) #[true, true, false, false, false] rfl rfl (by kernel_rfl) (fun _ _ _ h => h) (Or.inl ⟨by rfl, ?_⟩) hHeld ?_ ?_
      rotate_left
      · rintro w' ⟨s0, s1, s2, s3, s4, s5, s6, s7, s8⟩
        go_simp
        with_reducible rfl
      rotate_left
      · simp only [Act.put, List.setIfInBounds_toArray, List.set_cons_zero, List.set_cons_succ, i64_w, i32_w]
        rfl
      refine one_ (i := 2) (N := none) #[true, true, true, false, false] rfl rfl (by kernel_rfl) (by decide) (fun K hK => ?_)
      refine skip_ (w1 := wr.drew) (by rfl) rfl (store_self 24 (.tmp 6) (.tmp 34) rfl (w.heap.size + 3) _ 24 rfl rfl hb3.out (by kernel_rfl) (by simp [Value.oneCell'])) ?_
      refine hK.out _ _ ⟨(hX.out).1, (hX.out).2.1, (hX.out).2.2.1, (hX.out).2.2.2.1, (hX.out).2.2.2.2.1, (hX.out).2.2.2.2.2.1, (hX.out).2.2.2.2.2.2.1, (hX.out).2.2.2.2.2.2.2.1, (hX.out).2.2.2.2.2.2.2.2⟩ (fun hHeld => ?_)
      clear hK K
      refine last_ (i := 3) (N := none) #[true, true, true, true, false] rfl rfl (by kernel_rfl) (by decide) (fun K hK => ?_)
      refine skip_ (w1 := ?_) (by rfl) rfl ?_ ?_
      rotate_left
      · go_simp
        rfl
      refine hK.out _ _ ?_
      clear hK K
      refine pure_ (i := 4) (N := some 8) (v := ?_) (a' := ?_) #[true, true, true, true, true] rfl rfl (by kernel_rfl) (fun _ _ _ h => h) (Or.inl ⟨by rfl, ?_⟩) ?_ ?_
      rotate_left
      · intro w'
        go_simp
        with_reducible rfl
      rotate_left
      · simp only [Act.put, List.setIfInBounds_toArray, List.set_cons_zero, List.set_cons_succ, i64_w, i32_w]
        rfl
      refine done_ (by kernel_rfl) ?_
      go_wp2_with fail
      rw [jump_ret]
      have hm : Mod (fun q => q = w.heap.size + 4) wr (wr.setCell ⟨w.heap.size + 4, 0, none⟩ (.slice A' n' c')).drew := (Mod.setCell (S := fun q => q = w.heap.size + 4) (p := ⟨w.heap.size + 4, 0, none⟩) (Mod.refl _ _) (.inl rfl) _).drew
      have r3 := hm.blk hb3.out (by omega)
      have r4 : (wr.setCell ⟨w.heap.size + 4, 0, none⟩ (.slice A' n' c')).drew.heap[w.heap.size + 4]? = some (.cells #[.slice A' n' c'] 28 (0, 0)) := (heap_setCell_same _ _ 0 _ _ (.slice A' n' c') hbx.out).trans rfl
      refine bodyPost_ret (results_cct rfl _ _ (w.heap.size + 3) (w.heap.size + 4) 24 _ (0, 0) _ _ (.slice A' n' c') rfl rfl r3 Try.underlying24 rfl (by kernel_rfl) Try.underlying28 rfl ((cell_of_row _ _ _ _ _ _ r4).trans rfl)) rfl ?_
      refine ⟨v, A, c, ?_, ⟨hcon.out.cap, fun i hi => Kd.F_now (F_mod (hts.out.fs i hi).2 hm (fun q hq e => by have := hq.1; omega))⟩, Kd.R_mono (R_mod hrow.out hm (fun q hq e => hts.out.dis.ne (by rw [← hq, e]))) (fun _ _ => trivial), hbel.out.trans (hm.below (fun q hq => by omega) hbel.out.size)⟩
      rw [hff.out, ev.out, eN.out]
      rfl
end Go.Proofs.Ytbocbaakknkfiaa
