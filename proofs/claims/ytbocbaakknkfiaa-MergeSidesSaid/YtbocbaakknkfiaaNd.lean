/- The reference: in which fields two differ; are they the same? -/
import Derived.Test.YtbocbaakknkfiaaNb
import Derived.Test.YtbocbaakknkfiaaNc
set_option linter.unusedVariables false
set_option linter.unusedSimpArgs false
namespace Go.Proofs.Ytbocbaakknkfiaa
open Go.RowKit Go.Shelf Go.Proofs.YtbocbaakknkfiaaW.PrintWords Go.Proofs.YtbocbaakknkfiaaW.PrintMore Go.Proofs.YtbocbaakknkfiaaW.PrintLast

/-- The fields in which two differ, among the first k. -/
def difs (x y : Nat → Fld) (k : Nat) : List Int := ((List.range k).filter fun i => !T (x i) (y i)).map Int.ofNat
theorem difs_next (x y : Nat → Fld) (k : Nat) : difs x y (k + 1) = if T (x k) (y k) then difs x y k else difs x y k ++ [(k : Int)] := by
  unfold difs
  rw [List.range_succ, List.filter_append]
  cases h : T (x k) (y k) <;> simp [h]
theorem difs_length (x y : Nat → Fld) (k : Nat) : (difs x y k).length ≤ k := by
  unfold difs
  rw [List.length_map]
  exact Nat.le_trans (List.length_filter_le _ _) (by simp)
/-- Are two the same? -/
def SameL (x y : Nat → Fld) : Bool := (List.range 8).all fun i => T (x i) (y i)
theorem difs_nil (x y : Nat → Fld) : decide ((difs x y 8).length = 0) = SameL x y := by
  unfold difs SameL
  rw [List.length_map]
  cases h : (List.range 8).all fun i => T (x i) (y i) with
  | true =>
    have h9 : (List.range 8).filter (fun i => !T (x i) (y i)) = [] := by
      rw [List.filter_eq_nil_iff]
      intro i hi
      have := List.all_eq_true.1 h i hi
      simp [this]
    rw [h9]; rfl
  | false =>
    obtain ⟨i, hi, hn⟩ := List.all_eq_false.1 h
    have : i ∈ (List.range 8).filter (fun i => !T (x i) (y i)) := List.mem_filter.2 ⟨hi, by simpa using hn⟩
    refine decide_eq_false (fun e => ?_)
    rw [List.length_eq_zero_iff.1 e] at this
    cases this
/-- Two contacts laid in boxes; what differs, so far. -/
structure DfS (w0 w : World) (x y : CT) (k : Nat) (v : Value) : Prop where
  bel : Below w0.heap.size w0 w
  b0 : w.heap[w0.heap.size]? = some (.cells (conV x.V) 24 (0, 0))
  b1 : w.heap[w0.heap.size + 1]? = some (.cells (conV y.V) 24 (0, 0))
  row : (Kd.int .i64).R 3 w 0 (fun q => w0.heap.size + 2 ≤ q) v (difs x.L y.L k)
theorem DfS.below {w0 w w' : World} {x y : CT} {k : Nat} {v : Value} (h : DfS w0 w x y k v) (hb : Below w.heap.size w w') : DfS w0 w' x y k v := by
  have l : ∀ {B : Nat} {o : Obj}, w.heap[B]? = some o → w'.heap[B]? = some o := fun hq => (hb.block _ (Array.getElem?_eq_some_iff.1 hq).1).trans hq
  exact ⟨below_then h.bel h.bel.size hb, l h.b0, l h.b1, Kd.R_below h.row hb⟩
set_option maxHeartbeats 4000000 in
theorem rdiffer_calls (x y : CT) (w : World) (hx : x.In w) (hy : y.In w) :
    Calls Try.prog 28 #[.agg (conV x.V), .agg (conV y.V)] w fun e w' => ∃ A c, e = .returned (.slice A (difs x.L y.L 8).length c) ∧ (Kd.int .i64).R 3 w' 0 (fun q => w.heap.size ≤ q) (.slice A (difs x.L y.L 8).length c) (difs x.L y.L 8) ∧ Below w.heap.size w w' := by
  have hts : DfS w ((w.alloc (.cells (conV x.V) 24)).alloc (.cells (conV y.V) 24)) x y 0 (.slice none 0 0) := ⟨below_alloc (below_alloc (Below.refl _ _) _) _, heap_alloc2_old _ _ _, heap_alloc2_new _ _ _, Kd.R_nil _ _ _ _ _⟩
  have hz1 : (w.alloc (.cells (conV x.V) 24)).heap.size = w.heap.size + 1 := by simp
  replace hts := Aside0.mk hts
  replace hx := Aside0.mk hx
  replace hy := Aside0.mk hy
  go_enter Try.func28, Try.ntmps28
  go_wp2_with fail
  go_loopw [5, 6] (fun s5 s6 wr => ∃ (k : Nat) (v : Value), k ≤ 8 ∧ s5 = v ∧ s6 = .int .i64 k ∧ Aside0 (DfS w wr x y k v)) (fun _ s6 _ => 8 - (intOf s6).toNat)
  case atStart => exact ⟨0, _, by omega, rfl, rfl, hts⟩
  case round =>
    clear hts
    obtain ⟨k, v, hk, rfl, rfl, hts⟩ := hrel
    by_cases hlt : k < 8
    · have hVx : x.V k = .slice (x.A k) (x.L k).length (x.c k) := rfl
      have hVy : y.V k = .slice (y.A k) (y.L k).length (y.c k) := rfl
      have g0 := con_cell hts.out.b0 k hlt
      have g1 := con_cell hts.out.b1 k hlt
      rw [hVx] at g0
      rw [hVy] at g1
      have hB2 : Below wr.heap.size wr wr.drew := below_drew (Below.refl _ _)
      have ht1 := Aside0.mk (hts.out.below hB2)
      have htx := Aside0.mk (texts_calls (x.A k) (y.A k) (x.c k) (y.c k) (x.L k) (y.L k) wr.drew (hx.out.2 k hlt).1 ((hx.out.below ht1.out.bel).1.row k hlt) ((hy.out.below ht1.out.bel).1.row k hlt))
      have hnx := Aside0.mk (difs_next x.L y.L k)
      have hdl := difs_length x.L y.L k
      have i1 : (0 : Int) ≤ (k : Int) := by omega
      have i2 : (k : Int) < 8 := by omega
      obtain ⟨b, hb⟩ : ∃ b, T (x.L k) (y.L k) = b := ⟨_, rfl⟩
      rw [hb] at htx hnx
      clear hts hB2
      obtain ⟨A', c', ev⟩ := Kd.R_slice ht1.out.row
      have hrow := Aside0.mk ht1.out.row
      obtain ⟨n', hn'⟩ : ∃ n', (difs x.L y.L k).length = n' := ⟨_, rfl⟩
      rw [hn'] at ev hdl
      subst ev
      cases b with
      | true =>
        go_wp2_with fail
        refine start_ (n := 8) (S := fun w' => w'.cell? ⟨w.heap.size, k, none⟩ = some (.slice (x.A k) (x.L k).length (x.c k)) ∧ w'.cell? ⟨w.heap.size + 1, k, none⟩ = some (.slice (y.A k) (y.L k).length (y.c k))) (ds := []) #[false, false, false, false, false, false, false, false] (by kernel_rfl) rfl rfl ⟨g0, g1⟩ (fun hHeld => ?_)
        refine pure_ (i := 0) (N := some 11) (v := ?_) (a' := ?_) #[true, false, false, false, false, false, false, false] rfl rfl (by kernel_rfl) (fun _ _ _ h => h) (Or.inl ⟨by rfl, ?_⟩) ?_ ?_
        rotate_left
        · intro w'
          go_simp
          with_reducible rfl
        rotate_left
        · simp only [Act.put, List.setIfInBounds_toArray, List.set_cons_zero, List.set_cons_succ, i64_w, i32_w]
          rfl
        refine pure_ (i := 1) (N := some 12) (v := ?_) (a' := ?_) #[true, true, false, false, false, false, false, false] rfl rfl (by kernel_rfl) (fun _ _ _ h => h) (Or.inl ⟨by rfl, ?_⟩) ?_ ?_
        rotate_left
        · intro w'
          go_simp
          with_reducible rfl
        rotate_left
        · simp only [Act.put, List.setIfInBounds_toArray, List.set_cons_zero, List.set_cons_succ, i64_w, i32_w]
          rfl
        refine pure_ (i := 3) (N := some 14) (v := ?_) (a' := ?_) #[true, true, false, true, false, false, false, false] rfl rfl (by kernel_rfl) (fun _ _ _ h => h) (Or.inl ⟨by rfl, ?_⟩) ?_ ?_
        rotate_left
        · intro w'
          go_simp
          with_reducible rfl
        rotate_left
        · simp only [Act.put, List.setIfInBounds_toArray, List.set_cons_zero, List.set_cons_succ, i64_w, i32_w]
          rfl
        refine pure_ (i := 4) (N := some 15) (v := ?_) (a' := ?_) #[true, true, false, true, true, false, false, false] rfl rfl (by kernel_rfl) (fun _ _ _ h => h) (Or.inl ⟨by rfl, ?_⟩) ?_ ?_
        rotate_left
        · intro w'
          go_simp
          with_reducible rfl
        rotate_left
        · simp only [Act.put, List.setIfInBounds_toArray, List.set_cons_zero, List.set_cons_succ, i64_w, i32_w]
          rfl
        refine take_ (i := 2) (N := some 13) (v := ?_) (a' := ?_) #[true, true, true, true, true, false, false, false] rfl rfl (by kernel_rfl) (fun _ _ _ h => h) (Or.inl ⟨by rfl, ?_⟩) hHeld ?_ ?_
        rotate_left
        · rintro w' ⟨s0, s1⟩
          go_simp
          with_reducible rfl
        rotate_left
        · simp only [Act.put, List.setIfInBounds_toArray, List.set_cons_zero, List.set_cons_succ, i64_w, i32_w]
          rfl
        refine take_ (i := 5) (N := some 16) (v := ?_) (a' := ?_) #[true, true, true, true, true, true, false, false] rfl rfl (by kernel_rfl) (fun _ _ _ h => h) (Or.inl ⟨by rfl, ?_⟩) hHeld ?_ ?_
        rotate_left
        · rintro w' ⟨s0, s1⟩
          go_simp
          with_reducible rfl
        rotate_left
        · simp only [Act.put, List.setIfInBounds_toArray, List.set_cons_zero, List.set_cons_succ, i64_w, i32_w]
          rfl
        refine one_ (i := 6) (N := some 17) #[true, true, true, true, true, true, true, false] rfl rfl (by kernel_rfl) (by decide) (fun K hK => ?_)
        refine goes_ Try.func14 (by kernel_rfl) rfl #[.slice (x.A k) (x.L k).length (x.c k), .slice (y.A k) (y.L k).length (y.c k)] (by rfl) rfl rfl (by simp only [List.map_toArray, List.map_cons, List.map_nil]; rfl) ?_
        with_reducible refine (htx.out).mono ?_
        rintro e w4 ⟨rfl, hb4⟩
        refine ⟨_, rfl, ?_⟩
        have ht4 := Aside0.mk (ht1.out.below hb4)
        have g0 := pw_cell_below hb4 g0
        have g1 := pw_cell_below hb4 g1
        refine hK.out _ _ ⟨(And.intro g0 g1).1, (And.intro g0 g1).2⟩ (fun hHeld => ?_)
        clear hK K
        refine norm_ (a' := ?_) ?_ ?_
        rotate_left
        · show Act.put _ (some 17) _ = _
          simp only [Act.put, List.setIfInBounds_toArray, List.set_cons_zero, List.set_cons_succ, i64_w, i32_w]
          rfl
        refine pure_ (i := 7) (N := some 18) (v := ?_) (a' := ?_) #[true, true, true, true, true, true, true, true] rfl rfl (by kernel_rfl) (fun _ _ _ h => h) (Or.inl ⟨by rfl, ?_⟩) ?_ ?_
        rotate_left
        · intro w'
          go_simp
          with_reducible rfl
        rotate_left
        · simp only [Act.put, List.setIfInBounds_toArray, List.set_cons_zero, List.set_cons_succ, i64_w, i32_w]
          rfl
        refine done_ (by kernel_rfl) ?_
        go_wp2_with fail
        go_roundw
        case rel => exact ⟨k + 1, _, by omega, rfl, by go_num, ⟨ht4.out.bel, ht4.out.b0, ht4.out.b1, by rw [hnx.out]; exact ht4.out.row⟩⟩
        case measure => simp [intOf]; omega
      | false =>
        go_wp2_with fail
        refine start_ (n := 8) (S := fun w' => w'.cell? ⟨w.heap.size, k, none⟩ = some (.slice (x.A k) (x.L k).length (x.c k)) ∧ w'.cell? ⟨w.heap.size + 1, k, none⟩ = some (.slice (y.A k) (y.L k).length (y.c k))) (ds := []) #[false, false, false, false, false, false, false, false] (by kernel_rfl) rfl rfl ⟨g0, g1⟩ (fun hHeld => ?_)
        refine pure_ (i := 0) (N := some 11) (v := ?_) (a' := ?_) #[true, false, false, false, false, false, false, false] rfl rfl (by kernel_rfl) (fun _ _ _ h => h) (Or.inl ⟨by rfl, ?_⟩) ?_ ?_
        rotate_left
        · intro w'
          go_simp
          with_reducible rfl
        rotate_left
        · simp only [Act.put, List.setIfInBounds_toArray, List.set_cons_zero, List.set_cons_succ, i64_w, i32_w]
          rfl
        refine pure_ (i := 1) (N := some 12) (v := ?_) (a' := ?_) #[true, true, false, false, false, false, false, false] rfl rfl (by kernel_rfl) (fun _ _ _ h => h) (Or.inl ⟨by rfl, ?_⟩) ?_ ?_
        rotate_left
        · intro w'
          go_simp
          with_reducible rfl
        rotate_left
        · simp only [Act.put, List.setIfInBounds_toArray, List.set_cons_zero, List.set_cons_succ, i64_w, i32_w]
          rfl
        refine pure_ (i := 3) (N := some 14) (v := ?_) (a' := ?_) #[true, true, false, true, false, false, false, false] rfl rfl (by kernel_rfl) (fun _ _ _ h => h) (Or.inl ⟨by rfl, ?_⟩) ?_ ?_
        rotate_left
        · intro w'
          go_simp
          with_reducible rfl
        rotate_left
        · simp only [Act.put, List.setIfInBounds_toArray, List.set_cons_zero, List.set_cons_succ, i64_w, i32_w]
          rfl
        refine pure_ (i := 4) (N := some 15) (v := ?_) (a' := ?_) #[true, true, false, true, true, false, false, false] rfl rfl (by kernel_rfl) (fun _ _ _ h => h) (Or.inl ⟨by rfl, ?_⟩) ?_ ?_
        rotate_left
        · intro w'
          go_simp
          with_reducible rfl
        rotate_left
        · simp only [Act.put, List.setIfInBounds_toArray, List.set_cons_zero, List.set_cons_succ, i64_w, i32_w]
          rfl
        refine take_ (i := 2) (N := some 13) (v := ?_) (a' := ?_) #[true, true, true, true, true, false, false, false] rfl rfl (by kernel_rfl) (fun _ _ _ h => h) (Or.inl ⟨by rfl, ?_⟩) hHeld ?_ ?_
        rotate_left
        · rintro w' ⟨s0, s1⟩
          go_simp
          with_reducible rfl
        rotate_left
        · simp only [Act.put, List.setIfInBounds_toArray, List.set_cons_zero, List.set_cons_succ, i64_w, i32_w]
          rfl
        refine take_ (i := 5) (N := some 16) (v := ?_) (a' := ?_) #[true, true, true, true, true, true, false, false] rfl rfl (by kernel_rfl) (fun _ _ _ h => h) (Or.inl ⟨by rfl, ?_⟩) hHeld ?_ ?_
        rotate_left
        · rintro w' ⟨s0, s1⟩
          go_simp
          with_reducible rfl
        rotate_left
        · simp only [Act.put, List.setIfInBounds_toArray, List.set_cons_zero, List.set_cons_succ, i64_w, i32_w]
          rfl
        refine one_ (i := 6) (N := some 17) #[true, true, true, true, true, true, true, false] rfl rfl (by kernel_rfl) (by decide) (fun K hK => ?_)
        refine goes_ Try.func14 (by kernel_rfl) rfl #[.slice (x.A k) (x.L k).length (x.c k), .slice (y.A k) (y.L k).length (y.c k)] (by rfl) rfl rfl (by simp only [List.map_toArray, List.map_cons, List.map_nil]; rfl) ?_
        with_reducible refine (htx.out).mono ?_
        rintro e w4 ⟨rfl, hb4⟩
        refine ⟨_, rfl, ?_⟩
        have ht4 := Aside0.mk (ht1.out.below hb4)
        have g0 := pw_cell_below hb4 g0
        have g1 := pw_cell_below hb4 g1
        refine hK.out _ _ ⟨(And.intro g0 g1).1, (And.intro g0 g1).2⟩ (fun hHeld => ?_)
        clear hK K
        refine norm_ (a' := ?_) ?_ ?_
        rotate_left
        · show Act.put _ (some 17) _ = _
          simp only [Act.put, List.setIfInBounds_toArray, List.set_cons_zero, List.set_cons_succ, i64_w, i32_w]
          rfl
        refine pure_ (i := 7) (N := some 18) (v := ?_) (a' := ?_) #[true, true, true, true, true, true, true, true] rfl rfl (by kernel_rfl) (fun _ _ _ h => h) (Or.inl ⟨by rfl, ?_⟩) ?_ ?_
        rotate_left
        · intro w'
          go_simp
          with_reducible rfl
        rotate_left
        · simp only [Act.put, List.setIfInBounds_toArray, List.set_cons_zero, List.set_cons_succ, i64_w, i32_w]
          rfl
        refine done_ (by kernel_rfl) ?_
        have hsz := ht4.out.bel.size
        have hb1lt := (Array.getElem?_eq_some_iff.1 ht4.out.b1).1
        go_wp2_with ((with_reducible refine gate_builtin (b := .append) (xs := #[.tmp 19, .tmp 21]) rfl ?_); at_builtin; refine Kd.R_append (Kd.int .i64) (w0 := w4) 0 rfl (.tmp 19) (.tmp 21) 28 3 (.int .i64 0) 8 rfl Try.underlying28 info3 rfl (by decide) (by omega) (.slice A' n' c') (difs x.L y.L k) (k : Int) [.int .i64 (k : Int)] (fun q => w.heap.size + 2 ≤ q) (fun _ => False) rfl rfl rfl (fun _ h => h.elim) (fun q hq => by omega) ht4.out.row (Below.refl _ _) (Nat.zero_le _) (by omega) ?_; intro v1 w1 ho _ hg _; replace ho := Aside0.mk ho; replace hg := Aside0.mk hg)
        go_roundw
        case rel =>
          have hm : Mod (fun q => w.heap.size + 2 ≤ q) w4 w1 := Mod.of_grown (S := fun q => w.heap.size + 2 ≤ q) hg.out (fun q hq => .inl (ht4.out.row.1 q hq))
          exact ⟨k + 1, _, by omega, rfl, by go_num, ⟨ht4.out.bel.trans (hm.below (fun q hq => by omega) hsz), hm.blk ht4.out.b0 (by omega), hm.blk ht4.out.b1 (by omega), by rw [hnx.out]; exact ho.out⟩⟩
        case measure => simp [intOf]; omega
    · have hk8 : k = 8 := by omega
      subst hk8
      obtain ⟨A', c', ev⟩ := Kd.R_slice hts.out.row
      obtain ⟨n', hn'⟩ : ∃ n', (difs x.L y.L 8).length = n' := ⟨_, rfl⟩
      rw [hn'] at ev
      subst ev
      go_wp2_with fail
      go_ret
      exact ⟨A', c', by rw [hn']; rfl, by rw [hn']; exact Kd.R_mono hts.out.row (fun q hq => by omega), hts.out.bel⟩
end Go.Proofs.Ytbocbaakknkfiaa
