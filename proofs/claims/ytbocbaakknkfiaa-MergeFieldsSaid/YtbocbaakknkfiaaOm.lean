/- contact.Differ, contact.Same. -/
import Derived.Test.YtbocbaakknkfiaaOj
import Derived.RangeFuncBox
import Derived.OwnWalkIn
set_option linter.unusedVariables false
set_option linter.unusedSimpArgs false
namespace Go.Proofs.Ytbocbaakknkfiaa
open Go.RowKit Go.Shelf Go.Proofs.YtbocbaakknkfiaaW.PrintWords Go.Proofs.YtbocbaakknkfiaaW.PrintMore Go.Proofs.YtbocbaakknkfiaaW.PrintLast

attribute [local go_sem] Oper.semAt_some
/-- A block is as it was. -/
def KeepB (B : Nat) (W W' : World) : Prop := W'.heap[B]? = W.heap[B]?
theorem keepB_t {B : Nat} {X Y Z : World} (h : KeepB B X Y) (k : KeepB B Y Z) : KeepB B X Z := Eq.trans k h
theorem keepB_b {B : Nat} {w : World} (hB : B < w.heap.size) (W : World) (l : Nat) (o o' : Obj) (hl : w.heap.size ≤ l) (_ : W.heap[l]? = some o) (_ : o.isCells = false) (_ : o.isWalk = false) : KeepB B W (W.putObj l o') :=
  World.putObj_heap_other (by omega)
theorem KeepB.below {B n : Nat} {W W' : World} (h : Below n W W') (hB : B < n) : KeepB B W W' := h.block B hB
set_option maxRecDepth 100000 in
set_option maxHeartbeats 1000000 in
theorem all1K_in (F : Fence) (n : Nat) (h47 : F.fn 47) (hro : F.round = none) (hn : 1 ≤ n) (l Bn B : Nat) (V : Nat → Value) (J Jx : List (Fin 8) → World → Prop)
    (hY : ∀ pre x W, J pre W → pre.length < 8 → YieldAt F (n - 1) Try.prog l (encF V x) W fun e W' =>
      (e = .returned (.bool true) ∧ J (pre ++ [x]) W' ∧ KeepB B W W') ∨ (e = .returned (.bool false) ∧ Jx (pre ++ [x]) W'))
    (W : World) (hBn : W.cell? ⟨Bn, 0, none⟩ = some (.slice (some ⟨B, 0, none⟩) 8 8)) (hV : W.heap[B]? = some (.cells (conV V) 24 (0, 0))) (h0 : J [] W) :
    CallsIn F n Try.prog 47 #[.func (.yield l) #[] #[], .pointer (some ⟨Bn, 0, none⟩)] W fun e W' => (∃ v, e = .returned v) ∧
      ((∃ ys, ys = List.finRange 8 ∧ J ys W') ∨ (∃ pre, True ∧ Jx pre W')) := by
  refine callsIn_of_wp Try.func47 rfl h47 ?_ hro
  simp only [Try.ntmps47, List.size_toArray, List.length_cons, List.length_nil, Nat.reduceAdd, Nat.reduceSub, Array.replicate_succ, Array.replicate_zero, List.push_toArray, List.append_toArray, List.nil_append, List.cons_append]
  have hV := Aside0.mk hV
  gi_wp2
  gi_loopw [7] (fun s7 wr => ∃ k : Nat, k ≤ 8 ∧ s7 = .int .i64 k ∧ Aside0 (wr.heap[B]? = some (.cells (conV V) 24 (0, 0))) ∧ Aside0 (J (firstF k) wr)) (fun s7 _ => 8 - (intOf s7).toNat)
  case atStart =>
    exact ⟨0, by omega, rfl, hV, ⟨h0⟩⟩
  case round =>
    obtain ⟨k, hk, rfl, hB1, hJ1⟩ := hrel
    by_cases hlt : k < 8
    · have hdk : decide ((k : Int) < 8) = true := by simp; omega
      have hcell := con_cell hB1.out k hlt
      have hnx := Aside0.mk (firstF_next k hlt)
      have hln := Aside0.mk (firstF_length k hk)
      have i1 : (0 : Int) ≤ (k : Int) := by omega
      have i2 : (k : Int) < 8 := by omega
      obtain ⟨fn, tmps, assign, body, hy, hR⟩ := hY _ ⟨k, hlt⟩ wr hJ1.out (by rw [hln.out]; exact hlt)
      simp only [encF] at hy
      gi_wp2
      refine hR.mono ?_
      rintro e W3 (⟨rfl, hJ3, hk3⟩ | ⟨rfl, hJx3⟩)
      · have hJ3 := Aside0.mk hJ3
        have hk3 := Aside0.mk hk3
        gi_wp2
        go_roundw
        case rel => exact ⟨k + 1, by omega, by go_num, ⟨hk3.out.trans hB1.out⟩, ⟨by rw [← hnx.out]; exact hJ3.out⟩⟩
        case measure => simp [intOf]; omega
      · have hJx3 := Aside0.mk hJx3
        gi_wp2
        refine bodyPost_ret (results_none rfl _ _ _) rfl ?_
        exact ⟨⟨_, rfl⟩, .inr ⟨_, trivial, hJx3.out⟩⟩
    · obtain rfl : k = 8 := by omega
      gi_wp2
      go_end0
      exact ⟨⟨_, rfl⟩, .inl ⟨_, rfl, by rw [← firstF_all]; exact hJ1.out⟩⟩
theorem all1K_stops (F : Fence) (n : Nat) (h47 : F.fn 47) (hro : F.round = none) (hn : 1 ≤ n) (Bn B : Nat) (V : Nat → Value) (w : World)
    (hBn : w.cell? ⟨Bn, 0, none⟩ = some (.slice (some ⟨B, 0, none⟩) 8 8)) (hlt : Bn < w.heap.size) (hV : w.heap[B]? = some (.cells (conV V) 24 (0, 0))) :
    SeqStopsK F n Try.prog 47 #[.pointer (some ⟨Bn, 0, none⟩)] (encF V) (KeepB B) (fun xs => xs = List.finRange 8) (fun _ => True) 8 w :=
  fun l J Jx W hW _ _ hY h0 => all1K_in F n h47 hro hn l Bn B V J Jx hY W ((hW.cell hlt).trans hBn) ((hW.block _ (Array.getElem?_eq_some_iff.1 hV).1).trans hV) h0
/-- The fields of these in which two differ. -/
def difsF (x y : Nat → Fld) (l : List (Fin 8)) : List Int := (l.filter fun i => !T (x i.val) (y i.val)).map fun i => (i.val : Int)
theorem difsF_hit {x y : Nat → Fld} (pre : List (Fin 8)) {i : Fin 8} (h : T (x i.val) (y i.val) = false) : difsF x y (pre ++ [i]) = difsF x y pre ++ [(i.val : Int)] := by simp [difsF, h]
theorem difsF_miss {x y : Nat → Fld} (pre : List (Fin 8)) {i : Fin 8} (h : T (x i.val) (y i.val) = true) : difsF x y (pre ++ [i]) = difsF x y pre := by simp [difsF, h]
theorem difsF_length (x y : Nat → Fld) (pre : List (Fin 8)) : (difsF x y pre).length ≤ pre.length := by unfold difsF; rw [List.length_map]; exact List.length_filter_le _ _
theorem difsF_nil (x y : Nat → Fld) : decide ((difsF x y (List.finRange 8)).length = 0) = SameL x y := by
  have : (difsF x y (List.finRange 8)).length = 0 ↔ SameL x y = true := by
    unfold difsF SameL
    rw [List.length_map, List.length_eq_zero_iff, List.filter_eq_nil_iff, List.all_eq_true]
    constructor
    · intro h i hi
      have := h ⟨i, List.mem_range.1 hi⟩ (List.mem_finRange _)
      simpa using this
    · intro h i _
      have := h i.val (List.mem_range.2 i.isLt)
      simp [this]
  cases h : SameL x y with
  | true => exact decide_eq_true (this.2 h)
  | false => exact decide_eq_false (fun e => by rw [this.1 e] at h; cases h)
theorem blkOwn {β : Type} (B : Nat) (cs : Array Value) (t : TypeId) : Own (fun (_ : β) W => W.heap[B]? = some (.cells cs t (0, 0))) := fun s X Y row h hg hr => blk_own h hg hr
theorem own_form {W : World} {base : Nat} {e : TypeId} {size : Nat} {v : Value} {k : Nat} {xs : List Value} (h : W.ownsRow base e size v k xs) : ∃ A c, v = .slice A k c := by
  rcases h.2 with ⟨rfl, h0⟩ | ⟨g, cap, _, rfl, _⟩
  · subst h0; exact ⟨none, 0, rfl⟩
  · exact ⟨_, cap, rfl⟩
theorem app_step {W3 w4 : World} {s0 : Nat} {V : Nat → Value} {v v' : Value} {k m : Nat} {xs ys : List Value} {n : Int} (hv : Boxed W3 (s0 + 2) 28 v) (hrow : W3.ownsRow (s0 + 2) 3 1 v k xs)
    (hB : W3.heap[s0 + 3]? = some (.cells (conV V) 24 (0, 0))) (hz : s0 + 2 ≤ W3.heap.size) (hown' : w4.ownsRow (s0 + 2) 3 1 v' m ys) (hgrow : (W3.alloc (.cells #[.int .i64 n] 3)).grownBy w4 v.ownBlock) :
    w4.cell? ⟨s0 + 1 + 1, 0, none⟩ = some v ∧ w4.frozen? ⟨s0 + 1 + 1, 0, none⟩ = false ∧ Aside0 (Boxed (w4.setCell ⟨s0 + 2, 0, none⟩ v') (s0 + 2) 28 v' ∧ (w4.setCell ⟨s0 + 2, 0, none⟩ v').ownsRow (s0 + 2) 3 1 v' m ys ∧ KeepsOthers W3 (w4.setCell ⟨s0 + 2, 0, none⟩ v') ∧
      Below (s0 + 2) W3 (w4.setCell ⟨s0 + 2, 0, none⟩ v') ∧ (w4.setCell ⟨s0 + 2, 0, none⟩ v').heap[s0 + 3]? = some (.cells (conV V) 24 (0, 0))) := by
  have hlt3 := (Array.getElem?_eq_some_iff.1 hB).1
  have hBa : (W3.alloc (.cells #[.int .i64 n] 3)).heap[s0 + 3]? = some (.cells (conV V) 24 (0, 0)) := (heap_alloc_old W3 _ hlt3).trans hB
  have hBw4 := (hgrow.block _ (Array.getElem?_eq_some_iff.1 hBa).1 (own_ne (hrow.alloc _) hBa (by decide))).trans hBa
  obtain ⟨hv1, hv2, hr2, hk2, hb2⟩ := hv.appended (by decide) hrow hz (Nat.le_refl _) hown' hgrow
  exact ⟨hv1.cell, hv1.frozen, ⟨hv2, hr2, hk2, hb2, (Below.heap_setCell _ _ _ _ (by simp)).trans hBw4⟩⟩
set_option maxRecDepth 100000 in
set_option maxHeartbeats 2000000 in
theorem differ_calls (x y : CT) (w : World) (hx : x.In w) (hy : y.In w) :
    Calls Try.prog 36 #[.agg (conV x.V), .agg (conV y.V)] w fun e w' => ∃ A c, e = .returned (.slice A (difsF x.L y.L (List.finRange 8)).length c) ∧ Below w.heap.size w w' := by
  obtain ⟨i0, hi, hz0, hz1, hz2⟩ := info_parts info3
  obtain ⟨w1, hw1, hb1, h0, h1, h2, h3, h4⟩ := five w (.cells (conV x.V) 24) (.cells (conV y.V) 24) (.cells #[.slice none 0 0] 28) (.cells (conV x.V) 24) (.cells #[.slice (some ⟨w.heap.size + 3, 0, none⟩) 8 8] 76)
  obtain ⟨u0, u1, u2, u3, u4, u5, u6, u7⟩ := cells8 h0
  refine (callsIn_wide (n := 5)).1 ?_
  refine callsIn_of_wp_marks Try.func36 rfl trivial ?_ rfl
  simp only [Try.ntmps36, List.size_toArray, List.length_cons, List.length_nil, Nat.reduceAdd, Nat.reduceSub, Array.replicate_succ, Array.replicate_zero, List.push_toArray, List.append_toArray, List.nil_append, List.cons_append]
  gi_wp2_with (refine ⟨trivial, ?_⟩; gi_at_call 38; refine (callsIn_wide.2 (fields_calls x.V _)).mono ?_; rintro e w2 ⟨rfl, rfl⟩)
  have hz1' : w.heap.size + 5 ≤ w1.heap.size := by have := (Array.getElem?_eq_some_iff.1 h4).1; omega
  clear hw1 u0 u1 u2 u3 u4 u5 u6 u7
  refine wpIn_rangeFunc_ownF rfl (by omega) (gf := 47) (lb := #[.pointer (some ⟨w.heap.size + 1 + 1 + 1 + 1, 0, none⟩)]) rfl trivial (enters_of Try.func47 (by kernel_rfl) rfl)
    (all1K_stops Fence.wide (5 - 1) trivial rfl (by omega) (w.heap.size + 1 + 1 + 1 + 1) (w.heap.size + 3) x.V w1 ((cell_of_row _ _ _ _ _ _ h4).trans rfl) (by omega) h3) keepB_t (keepB_b (by omega)) (Below.refl _ _) (fun _ => rfl)
    (fun pre W => (∃ v, Boxed W (w.heap.size + 2) 28 v ∧ W.ownsRow (w.heap.size + 2) 3 1 v (difsF x.L y.L pre).length ((difsF x.L y.L pre).map (Value.int .i64)) ∧ True) ∧ W.heap[w.heap.size + 3]? = some (.cells (conV x.V) 24 (0, 0)) ∧ Below (w.heap.size + 2) w1 W)
    (fun _ _ _ => False)
    (OwnFrom.and (Own.from (holdsRow_own (w.heap.size + 2) (w.heap.size + 2) 28 3 1 (fun pre => (difsF x.L y.L pre).length) (fun pre => (difsF x.L y.L pre).map (Value.int .i64)) (fun _ _ => True)) _) (OwnFrom.and (Own.from (blkOwn _ _ _) _) (ownFrom_below (by omega) (by omega))))
    (fun _ _ _ _ _ hs _ _ => hs)
    ⟨⟨_, h2, World.ownsRow_nil _ _ _ _, trivial⟩, h3, Below.refl _ _⟩
    (fun b => { tmps := #[.agg (conV x.V), .agg (conV y.V), .pointer (some ⟨w.heap.size, 0, none⟩), .pointer (some ⟨w.heap.size + 1, 0, none⟩), .slice none 0 0, .pointer (some ⟨w.heap.size + 1 + 1, 0, none⟩), .int .i64 (b.val : Int), x.V b.val, .agg (conV x.V),
      .func (.func 47) #[] #[.pointer (some ⟨w.heap.size + 1 + 1 + 1 + 1, 0, none⟩)], .int .i64 (b.val : Int), x.V b.val, undef, undef, undef, undef, undef, undef, undef, undef, undef, undef, undef], defers := [] }) ?assign ?body ?done ?stop
  case assign =>
    intro l x W K hK
    gi_wp2
    exact hK
  case body =>
    rintro l pre i W ⟨⟨v, hv, hrow, _⟩, hB, hbel⟩ hlen
    have hzW := hbel.size
    have hBW : Below w.heap.size w W := hb1.trans (hbel.mono (by omega))
    have q1 := (hbel.block _ (show w.heap.size + 1 < w.heap.size + 2 by omega)).trans h1
    obtain ⟨iv, hiv⟩ := i
    have p1 := con_cell q1 iv hiv
    have hVx : x.V iv = .slice (x.A iv) (x.L iv).length (x.c iv) := rfl
    have hVy : y.V iv = .slice (y.A iv) (y.L iv).length (y.c iv) := rfl
    rw [hVy] at p1
    simp only [hVx]
    have he := Aside0.mk (equal_calls (x.A iv) (y.A iv) (x.c iv) (y.c iv) (x.L iv) (y.L iv) W (hx.2 iv hiv).1 ((hx.below hBW).1.row iv hiv) ((hy.below hBW).1.row iv hiv))
    have i1 : (0 : Int) ≤ (iv : Int) := by omega
    have i2 : (iv : Int) < 8 := by omega
    have hdl := difsF_length x.L y.L pre
    have hnx : (T (x.L iv) (y.L iv) = true ∧ difsF x.L y.L (pre ++ [⟨iv, hiv⟩]) = difsF x.L y.L pre) ∨ (T (x.L iv) (y.L iv) = false ∧ difsF x.L y.L (pre ++ [⟨iv, hiv⟩]) = difsF x.L y.L pre ++ [(iv : Int)]) := by
      cases hb : T (x.L iv) (y.L iv) with
      | true => exact .inl ⟨rfl, difsF_miss pre (i := ⟨iv, hiv⟩) hb⟩
      | false => exact .inr ⟨rfl, difsF_hit pre (i := ⟨iv, hiv⟩) hb⟩
    clear q1 hVx hVy
    generalize (x.L iv).length = nx at *
    generalize (y.L iv).length = ny at *
    replace hB := Aside0.mk hB
    replace hbel := Aside0.mk hbel
    replace hBW := Aside0.mk hBW
    replace hv := Aside0.mk hv
    replace hrow := Aside0.mk hrow
    rcases hnx with ⟨hb, miss⟩ | ⟨hb, hit⟩
    · rw [hb] at he
      clear hb
      replace miss := Aside0.mk miss
      gi_wp2_with fail
      refine ⟨trivial, ?_⟩
      gi_at_call 25
      refine ((callsIn_wide.2 he.out).inRound l).mono ?_
      rintro e W3 ⟨rfl, hb3⟩
      replace hb3 := Aside0.mk hb3
      gi_wp2_with (refine ⟨trivial, ?_⟩)
      refine ⟨keeps_of_below hb3.out, KeepB.below hb3.out (Array.getElem?_eq_some_iff.1 hB.out).1, ⟨v, (hb3.out.block _ hv.out.lt).trans hv.out, ?_, trivial⟩, (hb3.out.block _ (Array.getElem?_eq_some_iff.1 hB.out).1).trans hB.out, hbel.out.trans (hb3.out.mono (by omega))⟩
      rw [miss.out]
      exact pw_own_below hrow.out hb3.out
    · rw [hb] at he
      clear hb
      replace hit := Aside0.mk hit
      gi_wp2_with fail
      refine ⟨trivial, ?_⟩
      gi_at_call 25
      refine ((callsIn_wide.2 he.out).inRound l).mono ?_
      rintro e W3 ⟨rfl, hb3⟩
      have hv3 : Boxed W3 (w.heap.size + 2) 28 v := (hb3.block _ hv.out.lt).trans hv.out
      have hrow3 := pw_own_below hrow.out hb3
      have hc3 : W3.cell? ⟨w.heap.size + 1 + 1, 0, none⟩ = some v := hv3.cell
      have hB3 := (hb3.block _ (Array.getElem?_eq_some_iff.1 hB.out).1).trans hB.out
      have hbel3 := hbel.out.trans (hb3.mono (show w.heap.size + 2 ≤ W.heap.size by omega))
      have hbsz := hb3.size
      obtain ⟨nd, hnd⟩ : ∃ nd, (difsF x.L y.L pre).length = nd := ⟨_, rfl⟩
      rw [hnd] at hrow3 hdl
      obtain ⟨A3, c3, ev⟩ := own_form hrow3
      subst ev
      replace hb3 := Aside0.mk hb3
      replace hv3 := Aside0.mk hv3
      replace hrow3 := Aside0.mk hrow3
      replace hB3 := Aside0.mk hB3
      replace hbel3 := Aside0.mk hbel3
      replace hnd := Aside0.mk hnd
      clear hv hrow hbel hBW he p1
      gi_wp2_with (
        gi_at_builtin
        refine wpListIn_append_own _ rfl _ _ 28 rfl (w.heap.size + 2) 3 i0 (.int .i64 0) 1 8 Try.underlying28 hi hz0 hz1 hz2 rfl (by decide) _ _ _ rfl (hrow3.out.alloc _) ⟨W3.heap.size, 0, none⟩ 1 1 [.int .i64 (iv : Int)] rfl rfl (cell_one_new _ _ _) (by simp [Value.oneCell']) (by unfold maxLen; omega) (by omega) (by have := hbel3.out.size; simp; omega) ?_
        intro v' w4 hown' hgrow _
        obtain ⟨g', cap', rfl⟩ := ownsRow_succ hown'
        obtain ⟨hc1, hf1, hall⟩ := app_step hv3.out hrow3.out hB3.out (by omega) hown' hgrow
        clear hown' hgrow)
      obtain ⟨hv2, hr2, hk2, hb2, hBf⟩ := hall.out
      refine ⟨(keeps_of_below hb3.out).trans hk2, hBf.trans hB.out.symm, ⟨_, hv2, ?_, trivial⟩, hBf, hbel3.out.trans hb2⟩
      rw [hit.out]
      simpa [hnd.out] using hr2
  case done =>
    rintro D ys W hD rfl ⟨⟨v, hv, hrow, _⟩, hB, hbel⟩ hK
    have hc : W.cell? ⟨w.heap.size + 1 + 1, 0, none⟩ = some v := hv.cell
    have hBW := hb1.trans (hbel.mono (show w.heap.size ≤ w.heap.size + 2 by omega))
    obtain ⟨A3, c3, ev⟩ := own_form hrow
    have HK := Aside0.mk hK
    have hBW := Aside0.mk (hBW.trans (belowK_b (w := w) (Nat.le_refl _) W D _ (.deferred none) (by omega) hK rfl rfl))
    obtain ⟨nd, hnd⟩ : ∃ nd, (difsF x.L y.L (List.finRange 8)).length = nd := ⟨_, rfl⟩
    rw [hnd] at ev
    subst ev
    replace hnd := Aside0.mk hnd
    clear hv hrow hB hbel hK
    gi_wp2
    refine ⟨by simp, .inl ⟨_, _, rfl, run_takeDeferred HK.out, ?_⟩⟩
    exact ⟨_, results_tmp rfl _ _ _, A3, c3, by rw [hnd.out]; rfl, hBW.out⟩
  case stop =>
    rintro D c pre W _ _ h _
    exact h.elim
set_option maxHeartbeats 2000000 in
theorem same_calls (x y : CT) (w : World) (hx : x.In w) (hy : y.In w) :
    Calls Try.prog 31 #[.agg (conV x.V), .agg (conV y.V)] w fun e w' => e = .returned (.bool (SameL x.L y.L)) ∧ Below w.heap.size w w' := by
  have hb := below_alloc (below_alloc (Below.refl w.heap.size w) (.cells (conV x.V) 24)) (.cells (conV y.V) 24)
  have h0 := heap_alloc2_old w (.cells (conV x.V) 24) (.cells (conV y.V) 24)
  have h1 := heap_alloc2_new w (.cells (conV x.V) 24) (.cells (conV y.V) 24)
  obtain ⟨w1, hw1⟩ : ∃ w1, (w.alloc (.cells (conV x.V) 24)).alloc (.cells (conV y.V) 24) = w1 := ⟨_, rfl⟩
  rw [hw1] at hb h0 h1
  have hd := differ_calls x y w1 (hx.below hb) (hy.below hb)
  have hs := difsF_nil x.L y.L
  obtain ⟨n, hn⟩ : ∃ n, (difsF x.L y.L (List.finRange 8)).length = n := ⟨_, rfl⟩
  rw [hn] at hd hs
  obtain ⟨u0, u1, u2, u3, u4, u5, u6, u7⟩ := cells8 h0
  obtain ⟨v0, v1, v2, v3, v4, v5, v6, v7⟩ := cells8 h1
  obtain ⟨b, hbb⟩ : ∃ b, SameL x.L y.L = b := ⟨_, rfl⟩
  rw [hbb] at hs ⊢
  have hz : ((n : Int) == 0) = b := by
    rw [← hs]
    by_cases h : n = 0
    · subst h; rfl
    · rw [decide_eq_false h]; simpa using h
  replace hb := Aside0.mk hb
  replace hd := Aside0.mk hd
  clear h0 h1 hs hbb hx hy hn
  generalize x.V = X at *
  generalize y.V = Y at *
  go_enter Try.func31, Try.ntmps31
  go_wp2_with fail
  refine hd.out.mono ?_
  rintro e w2 ⟨A, c, rfl, hb2⟩
  have hb2 := Aside0.mk (below_then hb.out hb.out.size hb2)
  clear hd
  go_wp2_with fail
  go_ret
  exact ⟨rfl, hb2.out⟩
end Go.Proofs.Ytbocbaakknkfiaa
