/- contact.Check. -/
import Derived.Test.YtbocbaakknkfiaaMf
import Derived.Laws.EntriesVeiled
set_option linter.unusedVariables false
set_option linter.unusedSimpArgs false
namespace Go.Proofs.Ytbocbaakknkfiaa
open Go.RowKit Go.Shelf Go.Proofs.YtbocbaakknkfiaaW.PrintWords Go.Proofs.YtbocbaakknkfiaaW.PrintMore Go.Proofs.YtbocbaakknkfiaaW.PrintLast
attribute [local go_sem] Oper.semAt_some

/-- May field f have these values? -/
noncomputable def fOk (f : Nat) (l : Fld) : Bool := !(decide (mostOf f < (l.length : Int))) && (!(l.any (fun s => !valOk f s)) && rise l)
noncomputable def checkOk (L : Nat → Fld) : Bool := ((List.finRange 8).all fun i => fOk i.val (L i.val)) && decide ((L 0).length = 1)
/-- What fields hold in memory. -/
theorem keeps_of_below {W W' : World} (h : Below W.heap.size W W') : KeepsOthers W W' := ⟨h.size, fun k o hk _ => (h.block k (Array.getElem?_eq_some_iff.1 hk).1).trans hk⟩
structure Con (w : World) (A : Nat → Option Addr) (c : Nat → Nat) (L : Nat → Fld) : Prop where
  cap : ∀ i, i < 8 → (L i).length ≤ c i
  row : ∀ i, i < 8 → st.C w (A i) (L i).length (L i)
theorem Con.below {w w' : World} {A : Nat → Option Addr} {c : Nat → Nat} {L : Nat → Fld} (h : Con w A c L) (hb : Below w.heap.size w w') : Con w' A c L := ⟨h.cap, fun i hi => Kd.C_below (h.row i hi) hb⟩
/-- No more than some. -/
def Small (L : Nat → Fld) : Prop := ∀ i, i < 8 → (L i).length ≤ 1000 ∧ ∀ s ∈ L i, s.size ≤ 1000
theorem blk_own {W W' : World} {row : Option Nat} {b : Nat} {cs : Array Value} {t : TypeId} {fr : Nat × Nat} (h : W.heap[b]? = some (.cells cs t fr)) (hg : W.grownBy W' row)
    (hr : ∀ r, row = some r → ∃ o : Obj, W.heap[r]? = some o ∧ o.isCells = false) : W'.heap[b]? = some (.cells cs t fr) := by
  refine (hg.block b (Array.getElem?_eq_some_iff.1 h).1 (fun e => ?_)).trans h
  obtain ⟨o, ho, hc⟩ := hr b e.symm
  rw [h] at ho
  cases ho
  cases hc
theorem results_cell_int {P : Program} {fn : Func} {p : Tmp} {ty : TypeId} {k : IntKind} {v : Value} (h : fn.results = #[.cell p ty]) (tmps : Array Value) (w : World) (g : Nat)
    (hp : tmps.getD p undef = .pointer (some ⟨g, 0, none⟩)) (hc : w.cell? ⟨g, 0, none⟩ = some v) (hu : P.underlying ty = some (.int k)) : (results fn tmps).run P w = .ok v w := by
  have hp' : tmps[p]?.getD undef = .pointer (some ⟨g, 0, none⟩) := by simpa using hp
  simp [results, h, hp', asAddr, go_sem, loadVar, run_isAgg_plain hu rfl, hc]
theorem fin_post {W1 : World} {D g : Nat} {v : Value} {P : Program} {fn : Func} {p : Tmp} {ty t : TypeId} {k : IntKind} {n : Nat} {R : Ending → World → Prop} (tmps : Array Value)
    (h : fn.results = #[.cell p ty]) (hp : tmps.getD p undef = .pointer (some ⟨g, 0, none⟩)) (hu : P.underlying ty = some (.int k)) (hD : W1.heap[D]? = some (.deferred (some []))) (hg : W1.heap[g]? = some (.cells #[v] t (0, 0))) (hne : D ≠ g) (hR : R (.returned v) (W1.putObj D (.deferred none))) :
    bodyPostM Fence.wide n P fn R Exit.ret { tmps := tmps, defers := [{ target := .collected D, args := #[] }] } W1 := by
  refine ⟨by simp, .inl ⟨_, _, rfl, run_takeDeferred hD, ?_⟩⟩
  refine ⟨_, results_cell_int h _ _ g hp ?_ hu, hR⟩
  rw [cell_of_row _ _ _ _ _ _ ((World.putObj_heap_other hne.symm).trans hg)]; rfl
set_option maxRecDepth 100000 in
set_option maxHeartbeats 2000000 in
theorem check_calls (A : Nat → Option Addr) (c : Nat → Nat) (L : Nat → Fld) (w : World) (hC : Con w A c L) (hS : Small L) :
    Calls Try.prog 34 #[.agg (conV (FV A c L))] w fun e w' => e = .returned (.int .i64 (if checkOk L then 0 else 2)) ∧ Below w.heap.size w w' := by
  obtain ⟨V, hV⟩ : ∃ V, FV A c L = V := ⟨_, rfl⟩
  rw [hV]
  have hV := Aside0.mk hV
  refine (callsIn_wide (n := 5)).1 ?_
  refine callsIn_of_wp_marks Try.func34 rfl trivial ?_ rfl
  simp only [Try.ntmps34, List.size_toArray, List.length_cons, List.length_nil, Nat.reduceAdd, Nat.reduceSub, Array.replicate_succ, Array.replicate_zero, List.push_toArray, List.append_toArray, List.nil_append, List.cons_append]
  gi_wp2_with (refine ⟨trivial, ?_⟩; gi_at_call 38; refine (callsIn_wide.2 (fields_calls V _)).mono ?_; rintro e w2 ⟨rfl, rfl⟩)
  have hsz0 : (w.alloc (.cells (conV V) 24)).heap.size = w.heap.size + 1 := by simp
  have hB1 : Below w.heap.size w ((w.alloc (.cells (conV V) 24)).alloc (.cells #[.int .i64 0] 29)) := below_alloc (below_alloc (Below.refl _ w) _) _
  obtain ⟨w1, hw1⟩ : ∃ w1, (w.alloc (.cells (conV V) 24)).alloc (.cells #[.int .i64 0] 29) = w1 := ⟨_, rfl⟩
  have hz1 : w1.heap.size = w.heap.size + 2 := by rw [← hw1]; simp
  have g1 : w1.heap[w.heap.size]? = some (.cells (conV V) 24 (0, 0)) := by rw [← hw1]; exact heap_alloc2_old _ _ _
  have g2 : w1.heap[w.heap.size + 1]? = some (.cells #[.int .i64 0] 29 (0, 0)) := by rw [← hw1]; exact heap_alloc2_new _ _ _
  rw [hw1] at hB1 ⊢
  have hB2 : Below w1.heap.size w1 ((w1.alloc (.cells (conV V) 24)).alloc (.cells #[.slice (some ⟨w.heap.size + 1 + 1, 0, none⟩) 8 8] 76)) := below_alloc (below_alloc (Below.refl _ w1) _) _
  obtain ⟨w2, hw2⟩ : ∃ w2, (w1.alloc (.cells (conV V) 24)).alloc (.cells #[.slice (some ⟨w.heap.size + 1 + 1, 0, none⟩) 8 8] 76) = w2 := ⟨_, rfl⟩
  have hz2 : w2.heap.size = w.heap.size + 4 := by rw [← hw2]; simp; omega
  have g3 : w2.heap[w.heap.size + 2]? = some (.cells (conV V) 24 (0, 0)) := by rw [← hw2, ← hz1]; exact heap_alloc2_old _ _ _
  have g4 : w2.heap[w.heap.size + 3]? = some (.cells #[.slice (some ⟨w.heap.size + 1 + 1, 0, none⟩) 8 8] 76 (0, 0)) := by
    have := heap_alloc2_new w1 (Obj.cells (conV V) 24) (Obj.cells #[Value.slice (some ⟨w.heap.size + 1 + 1, 0, none⟩) 8 8] 76)
    rw [hw2, hz1] at this; exact this
  rw [hw2] at hB2 ⊢
  have h1 := hB2.block _ (show w.heap.size < w1.heap.size by omega)
  have h2 := hB2.block _ (show w.heap.size + 1 < w1.heap.size by omega)
  rw [g1] at h1
  rw [g2] at h2
  have hB : Below w.heap.size w w2 := hB1.trans (hB2.mono (by omega))
  have hst := all1_stops Fence.wide (5 - 1) trivial rfl (by omega) (w.heap.size + 1 + 1 + 1) (w.heap.size + 1 + 1) w2 V w2 ((cell_of_row _ _ _ _ _ _ g4).trans rfl) (by omega) (fun i hi => con_cell g3 i hi) (Below.refl _ _)
  clear hw1 hw2 g1 g2 g3 g4 hB1 hB2 hsz0
  refine wpIn_rangeFunc_ownF rfl (by omega) (gf := 47) (lb := #[.pointer (some ⟨w.heap.size + 1 + 1 + 1, 0, none⟩)]) rfl trivial (enters_of Try.func47 (by kernel_rfl) rfl)
    hst belowK_t (belowK_b (by omega)) (Below.refl _ _) (fun _ => rfl)
    (fun pre W => pre.all (fun i => fOk i.val (L i.val)) = true ∧ Below w2.heap.size w2 W)
    (fun c pre W => (c = .ret ∧ W.heap[w.heap.size + 1]? = some (.cells #[.int .i64 2] 29 (0, 0)) ∧ pre.all (fun i => fOk i.val (L i.val)) = false) ∧ Below w.heap.size w W)
    (OwnFrom.and (Own.from (fun s A B row hs hg hr => hs) _) (ownFrom_below (Nat.le_refl _) (by omega)))
    (fun c => OwnFrom.and (Own.from (fun s A B row hs hg hr => ⟨hs.1, blk_own hs.2.1 hg hr, hs.2.2⟩) _) (ownFrom_below (Nat.le_refl _) (by omega)))
    ⟨rfl, Below.refl _ _⟩
    (fun b => { tmps := #[.agg (conV V), .pointer (some ⟨w.heap.size, 0, none⟩), .pointer (some ⟨w.heap.size + 1, 0, none⟩), .int .i64 (b.val : Int), V b.val, undef, .agg (conV V),
      .func (.func 47) #[] #[.pointer (some ⟨w.heap.size + 1 + 1 + 1, 0, none⟩)], .int .i64 (b.val : Int), V b.val, undef, undef, undef, undef, undef, undef, undef, undef, undef, undef, undef, undef, undef, undef, undef, undef, undef, undef, undef, undef, undef], defers := [] }) ?assign ?body ?done ?stop
  case assign =>
    intro l x W K hK
    gi_wp2
    exact hK
  case body =>
    rintro l pre x W ⟨hall, hB2⟩ hlen
    have hzW := hB2.size
    have hBW : Below w.heap.size w W := hB.trans (hB2.mono (by omega))
    have q2 := (hB2.block _ (show w.heap.size + 1 < w2.heap.size by omega)).trans h2
    obtain ⟨xv, hxv⟩ := x
    have hrow := Kd.C_below (hC.row xv hxv) hBW
    obtain ⟨hlen1, hsz1⟩ := hS xv hxv
    have hVx : V xv = .slice (A xv) (L xv).length (c xv) := by rw [← hV.out]; rfl
    have hno : fOk xv (L xv) = false → (pre ++ [(⟨xv, hxv⟩ : Fin 8)]).all (fun i => fOk i.val (L i.val)) = false := fun h => by simp only [List.all_append, List.all_cons, h, List.all_nil, Bool.false_and, Bool.and_false]
    have hyes : fOk xv (L xv) = true → (pre ++ [(⟨xv, hxv⟩ : Fin 8)]).all (fun i => fOk i.val (L i.val)) = true := fun h => by simp only [List.all_append, hall, List.all_cons, h, List.all_nil, Bool.and_self]
    simp only [hVx]
    have hfo : fOk xv (L xv) = (!(decide (mostOf xv < ((L xv).length : Int))) && (!((L xv).any (fun s => !valOk xv s)) && rise (L xv))) := rfl
    obtain ⟨S0, hS0⟩ : ∃ S0, S0 = L xv := ⟨_, rfl⟩
    rw [← hS0] at hrow hlen1 hsz1 hno hyes hfo ⊢
    obtain ⟨W1, hW1⟩ : ∃ W1, (W.alloc (.cells #[.int .i64 (xv : Int)] 3)).alloc (.cells #[.func (.func 45) #[] #[.pointer (some ⟨W.heap.size, 0, none⟩)]] 71) = W1 := ⟨_, rfl⟩
    have hb1 : Below W.heap.size W W1 := by rw [← hW1]; exact below_alloc (below_alloc (Below.refl _ W) _) _
    have p0 : W1.cell? ⟨W.heap.size, 0, none⟩ = some (.int .i64 (xv : Int)) := by
      have h9 : W1.heap[W.heap.size]? = some (.cells #[.int .i64 (xv : Int)] 3 (0, 0)) := by rw [← hW1]; exact heap_alloc2_old _ _ _
      rw [cell_of_row _ _ _ _ _ _ h9]; rfl
    have p1 : W1.cell? ⟨W.heap.size + 1, 0, none⟩ = some (.func (.func 45) #[] #[.pointer (some ⟨W.heap.size, 0, none⟩)]) := by
      have h9 : W1.heap[W.heap.size + 1]? = some (.cells #[.func (.func 45) #[] #[.pointer (some ⟨W.heap.size, 0, none⟩)]] 71 (0, 0)) := by rw [← hW1]; exact heap_alloc2_new _ _ _
      rw [cell_of_row _ _ _ _ _ _ h9]; rfl
    have hct := Aside0.mk (contains_calls (xv : Int) W.heap.size (W.heap.size + 1) (A xv) (c xv) S0 W1 hlen1 hsz1 (Kd.C_below hrow hb1) p0 p1)
    have hrs := fun (W' : World) (h : Below W1.heap.size W1 W') => rises_calls (A xv) (c xv) S0 W' hlen1 (Kd.C_below (Kd.C_below hrow hb1) h)
    replace hrs := Aside0.mk hrs
    replace hno := Aside0.mk hno
    replace hyes := Aside0.mk hyes
    replace hb1 := Aside0.mk hb1
    replace hBW := Aside0.mk hBW
    replace hB2 := Aside0.mk hB2
    replace hS0 := Aside0.mk hS0
    clear hrow hVx hC hS hst hall p0 p1 hsz1 h1 h2 hB
    generalize S0.any (fun s => !valOk xv s) = bad at *
    generalize rise S0 = rs at *
    generalize S0.length = n0 at *
    have i1 : (0 : Int) ≤ (n0 : Int) := by omega
    have q0 : W1.cell? ⟨w.heap.size + 1, 0, none⟩ = some (.int .i64 0) := by
      have h9 := (hb1.out.block _ (show w.heap.size + 1 < W.heap.size by omega)).trans q2
      rw [cell_of_row _ _ _ _ _ _ h9]; rfl
    have qf : W1.frozen? ⟨w.heap.size + 1, 0, none⟩ = false := frozen_of_row _ _ _ _ _ ((hb1.out.block _ (show w.heap.size + 1 < W.heap.size by omega)).trans q2)
    have hfin : ∀ W', Below W1.heap.size W1 W' → KeepsOthers W (W'.setCell ⟨w.heap.size + 1, 0, none⟩ (.int .i64 2)) ∧ (W'.setCell ⟨w.heap.size + 1, 0, none⟩ (.int .i64 2)).heap[w.heap.size + 1]? = some (.cells #[.int .i64 2] 29 (0, 0)) ∧ Below w.heap.size w (W'.setCell ⟨w.heap.size + 1, 0, none⟩ (.int .i64 2)) := fun W' hW' => by
      have h9 := below_then hb1.out hb1.out.size hW'
      have h8 := (h9.block _ (show w.heap.size + 1 < W.heap.size by omega)).trans q2
      exact ⟨(keeps_of_below h9).trans (KeepsOthers.setCell _ _ _), (heap_setCell_same _ _ _ _ _ _ h8).trans rfl, (below_then hBW.out hBW.out.size h9).setCell (by simp) _⟩
    have hgo : ∀ W', Below W1.heap.size W1 W' → KeepsOthers W W' ∧ Below w2.heap.size W W' ∧ Below w2.heap.size w2 W' := fun W' hW' => by
      have h9 := below_then hb1.out hb1.out.size hW'
      exact ⟨keeps_of_below h9, h9.mono hzW, hB2.out.trans (h9.mono hzW)⟩
    have hqf : ∀ W' : World, Below W1.heap.size W1 W' → W'.cell? ⟨w.heap.size + 1, 0, none⟩ = some (.int .i64 0) ∧ W'.frozen? ⟨w.heap.size + 1, 0, none⟩ = false := fun W' hW' => by
      have h9 := below_then hb1.out hb1.out.size hW'
      have h8 := (h9.block _ (show w.heap.size + 1 < W.heap.size by omega)).trans q2
      exact ⟨by rw [cell_of_row _ _ _ _ _ _ h8]; rfl, frozen_of_row _ _ _ _ _ h8⟩
    replace hfin := Aside0.mk hfin
    replace hgo := Aside0.mk hgo
    replace hqf := Aside0.mk hqf
    have q2 := Aside0.mk q2
    obtain ⟨b1, hb1e⟩ : ∃ b1, decide (mostOf (xv : Int) < (n0 : Int)) = b1 := ⟨_, rfl⟩
    rw [hb1e] at hfo
    cases b1 with
    | true =>
      have hno := Aside0.mk (hno.out (by rw [hfo]; rfl))
      clear hyes hfo hct hrs hgo
      obtain ⟨e1, e2⟩ := hqf.out W1 (Below.refl _ _)
      gi_wp2_with (first
        | (refine ⟨trivial, ?_⟩; gi_at_call 39; refine ((callsIn_wide.2 (may_calls _ _)).inRound l).mono ?_; rintro e wa ⟨rfl, rfl⟩)
        | (refine ⟨trivial, ?_⟩; gi_at_call 40; refine ((callsIn_wide.2 (most_calls _ _)).inRound l).mono ?_; rintro e wa ⟨rfl, rfl⟩) | (refine ⟨trivial, ?_⟩))
      obtain ⟨h1, h2, h3⟩ := hfin.out W1 (Below.refl _ _)
      exact ⟨h1, ⟨rfl, h2, hno.out⟩, h3⟩
    | false =>
      cases bad with
      | true =>
        have hno := Aside0.mk (hno.out (by rw [hfo]; rfl))
        clear hyes hfo hrs hgo
        gi_wp2_with (first
          | (refine ⟨trivial, ?_⟩; gi_at_call 39; refine ((callsIn_wide.2 (may_calls _ _)).inRound l).mono ?_; rintro e wa ⟨rfl, rfl⟩)
          | (refine ⟨trivial, ?_⟩; gi_at_call 40; refine ((callsIn_wide.2 (most_calls _ _)).inRound l).mono ?_; rintro e wa ⟨rfl, rfl⟩))
        refine ⟨trivial, ?_⟩
        gi_at_call 41
        refine ((callsIn_wide.2 hct.out).inRound l).mono ?_
        rintro e W3 ⟨rfl, hb3⟩
        obtain ⟨e1, e2⟩ := hqf.out W3 hb3
        obtain ⟨h1, h2, h3⟩ := hfin.out W3 hb3
        have h4 := Aside0.mk (And.intro h1 (And.intro h2 h3))
        clear h1 h2 h3 hct hb3
        gi_wp2_with (refine ⟨trivial, ?_⟩)
        exact ⟨h4.out.1, ⟨rfl, h4.out.2.1, hno.out⟩, h4.out.2.2⟩
      | false =>
        gi_wp2_with (first
          | (refine ⟨trivial, ?_⟩; gi_at_call 39; refine ((callsIn_wide.2 (may_calls _ _)).inRound l).mono ?_; rintro e wa ⟨rfl, rfl⟩)
          | (refine ⟨trivial, ?_⟩; gi_at_call 40; refine ((callsIn_wide.2 (most_calls _ _)).inRound l).mono ?_; rintro e wa ⟨rfl, rfl⟩))
        refine ⟨trivial, ?_⟩
        gi_at_call 41
        refine ((callsIn_wide.2 hct.out).inRound l).mono ?_
        rintro e W3 ⟨rfl, hb3⟩
        have hr3 := Aside0.mk (hrs.out W3 hb3)
        have hb3 := Aside0.mk hb3
        clear hct hrs
        gi_wp2_with fail
        refine ⟨trivial, ?_⟩
        gi_at_call 43
        refine ((callsIn_wide.2 hr3.out).inRound l).mono ?_
        rintro e W4 ⟨rfl, hb4⟩
        have hb4 := below_then hb3.out hb3.out.size hb4
        clear hr3
        cases rs with
        | false =>
          have hno := Aside0.mk (hno.out (by rw [hfo]; rfl))
          obtain ⟨e1, e2⟩ := hqf.out W4 hb4
          obtain ⟨h1, h2, h3⟩ := hfin.out W4 hb4
          have h4 := Aside0.mk (And.intro h1 (And.intro h2 h3))
          clear h1 h2 h3 hb4 hyes hfo
          gi_wp2_with (refine ⟨trivial, ?_⟩)
          exact ⟨h4.out.1, ⟨rfl, h4.out.2.1, hno.out⟩, h4.out.2.2⟩
        | true =>
          have hyes := Aside0.mk (hyes.out (by rw [hfo]; rfl))
          have h4 := Aside0.mk (hgo.out W4 hb4)
          clear hno hfo hqf hfin hb4
          gi_wp2_with (refine ⟨trivial, ?_⟩)
          exact ⟨h4.out.1, h4.out.2.1, hyes.out, h4.out.2.2⟩
  case done =>
    rintro D ys W hD rfl ⟨hall, hB2⟩ hK
    have hzW := hB2.size
    have hBW := Aside0.mk (hB.trans (hB2.mono (by omega)))
    have q1 := (hB2.block _ (show w.heap.size < w2.heap.size by omega)).trans h1
    have q2 := (hB2.block _ (show w.heap.size + 1 < w2.heap.size by omega)).trans h2
    have hD2 : w.heap.size + 4 ≤ D := by omega
    have hck : checkOk L = decide ((L 0).length = 1) := by unfold checkOk; rw [hall]; rfl
    have c0 := con_cell q1 0 (by omega)
    have hV0 : V 0 = .slice (A 0) (L 0).length (c 0) := by rw [← hV.out]; rfl
    rw [hV0] at c0
    have f1 : W.cell? ⟨w.heap.size + 1, 0, none⟩ = some (.int .i64 0) := (cell_of_row _ _ _ _ _ _ q2).trans rfl
    have f2 : W.frozen? ⟨w.heap.size + 1, 0, none⟩ = false := frozen_of_row _ _ _ _ _ q2
    generalize (L 0).length = n0 at *
    have HK := Aside0.mk hK
    have hck := Aside0.mk hck
    have Q2 := Aside0.mk q2
    clear hst hC hS h1 h2 hB hall hB2 q1 q2 hK hV0
    have hfin : ∀ v : Value, (W.setCell ⟨w.heap.size + 1, 0, none⟩ v).heap[D]? = some (.deferred (some [])) ∧ (W.setCell ⟨w.heap.size + 1, 0, none⟩ v).heap[w.heap.size + 1]? = some (.cells #[v] 29 (0, 0)) ∧ Below w.heap.size w (W.setCell ⟨w.heap.size + 1, 0, none⟩ v) := fun v =>
      ⟨(KeepsOthers.setCell _ _ _).same D _ HK.out rfl, (heap_setCell_same _ _ _ _ _ _ Q2.out).trans rfl, hBW.out.setCell (by simp) _⟩
    replace hfin := Aside0.mk hfin
    by_cases hn : n0 = 1
    · subst hn
      obtain ⟨k1, k2, k3⟩ := hfin.out (.int .i64 0)
      have k4 := Aside0.mk (k3.trans (belowK_b (w := w) (Nat.le_refl _) _ D _ (.deferred none) (by omega) k1 rfl rfl))
      replace k1 := Aside0.mk k1
      replace k2 := Aside0.mk k2
      clear k3
      gi_wp2
      all_goals exact fin_post _ rfl rfl Try.underlying29 k1.out k2.out (by omega) ⟨rfl, k4.out⟩
    · have e1 : ((n0 : Int) != 1) = true := by simp; omega
      obtain ⟨k1, k2, k3⟩ := hfin.out (.int .i64 2)
      have k4 := Aside0.mk (k3.trans (belowK_b (w := w) (Nat.le_refl _) _ D _ (.deferred none) (by omega) k1 rfl rfl))
      replace k1 := Aside0.mk k1
      replace k2 := Aside0.mk k2
      clear k3
      gi_wp2
      all_goals exact fin_post _ rfl rfl Try.underlying29 k1.out k2.out (by omega) ⟨rfl, k4.out⟩
  case stop =>
    rintro D c pre W hD _ ⟨⟨rfl, q2, hall⟩, hB⟩ hK
    have hck : checkOk L = false := by
      unfold checkOk
      obtain ⟨y, hy1, hy2⟩ := List.all_eq_false.1 hall
      have : ((List.finRange 8).all fun i => fOk i.val (L i.val)) = false := List.all_eq_false.2 ⟨y, List.mem_finRange y, hy2⟩
      rw [this]; rfl
    have k4 := Aside0.mk (hB.trans (belowK_b (w := w) (Nat.le_refl _) _ D _ (.deferred none) (by omega) hK rfl rfl))
    have Q2 := Aside0.mk q2
    have HK := Aside0.mk hK
    clear hst hC hS h1 h2 hall hB q2 hK
    gi_wp2
    all_goals exact fin_post _ rfl rfl Try.underlying29 HK.out Q2.out (by omega) ⟨rfl, k4.out⟩
end Go.Proofs.Ytbocbaakknkfiaa
