/- The walk of BerNumbers. -/
import Derived.Test.YtlmelbnmfhpacaaGf
set_option linter.unusedVariables false
set_option linter.unusedSimpArgs false
namespace Go.Proofs.Ytlmelbnmfhpacaa
open Go.RowKit Go.Shelf Go.Proofs.YtlmelbnmfhpacaaW.PrintWords Go.Proofs.YtlmelbnmfhpacaaW.PrintMore Go.Proofs.YtlmelbnmfhpacaaW.PrintLast

theorem BvF.bound {w : World} {ok : Nat → Prop} {x : T} {A : Option Addr} {c : Nat} {B : Option Addr} {d : Nat} (h : BvF w ok x A c B d) : BvF w (fun q => ok q ∧ q < w.heap.size) x A c B d := ⟨h.lb, Kd.F_bound h.cb, h.li, Kd.F_bound h.ci⟩
/-- A call answers a value that holds bytes alone. -/
def Raw (cl num : Int) (l : List Int) (w : World) (e : Ending) (w' : World) : Prop :=
  ∃ A c B d, e = .returned (.agg #[.int .u8 cl, .int .u8 num, .bool false, .slice A l.length c, .slice B 0 d]) ∧ BvF w' (fun q => w.heap.size ≤ q) ⟨cl, num, false, l, []⟩ A c B d ∧ Below w.heap.size w w'
theorem raw_of {P : Program} {f : FuncId} {args : Array Value} {cl num : Int} {l : List Int} {w : World} (h : Calls P f args w (Gives ⟨cl, num, false, l, []⟩ w)) : Calls P f args w (Raw cl num l w) :=
  h.mono (fun e w' h => by obtain ⟨⟨A, c, B, d, h1, h2⟩, h3⟩ := h; exact ⟨A, c, B, d, h1, h2, h3⟩)
theorem str_same (s : ByteArray) : (s.toList != s.toList) = false := by simp
theorem one_C' {w : World} {g : Nat} {x : T} {A : Option Addr} {c : Nat} {B : Option Addr} {d : Nat} (h : w.heap[g]? = some (.cells #[.int .u8 x.f0, .int .u8 x.f1, .bool x.f2, .slice A x.f3.length c, .slice B x.f4.length d] 26 (0, 0))) (hx : Bv w x A c B d) : kT.C w (some ⟨g, 0, none⟩) 1 [x] := by
  refine ⟨rfl, by decide, fun _ => ⟨⟨g, 0, none⟩, rfl, fun j p hj => ?_⟩⟩
  match j, hj with
  | 0, hj =>
    obtain rfl := Option.some.inj hj
    refine ⟨_, rfl, hx.K, fun i u hu => ?_⟩
    rw [add_plain]
    show w.cell? ⟨g, 0 * 5 + i, none⟩ = _
    refine (cell_of_row _ _ _ _ _ _ h).trans ?_
    match i, hu with
    | 0, hu => exact hu
    | 1, hu => exact hu
    | 2, hu => exact hu
    | 3, hu => exact hu
    | 4, hu => exact hu
    | n + 5, hu => simp [bvs] at hu
  | n + 1, hj => simp at hj
theorem num_one (y : Int) (h : 0 ≤ y ∧ y < 256) : wholeL (numN [y]) = [y] := by
  have hn : numN [y] = if 128 ≤ y then y - 256 else y := by
    unfold numN sgn
    simp only [List.foldl_cons, List.foldl_nil]
    split <;> omega
  have hl : Least 0 (numN [y]) := ⟨by unfold fit; simp only [sh]; rw [hn]; split <;> omega, fun i hi => absurd hi (Nat.not_lt_zero _)⟩
  have h2 := trim_le_bytes hl 7 (by omega)
  unfold wholeL
  rw [h2]
  unfold le
  simp only [Nat.zero_add, List.range_one, List.map_cons, List.map_nil, List.reverse_cons, List.reverse_nil, List.nil_append, sh]
  rw [hn]
  congr 1
  split <;> omega
theorem num_in (l : List Int) (h : ∀ x ∈ l, 0 ≤ x ∧ x < 256) (h1 : 1 ≤ l.length) (h8 : l.length ≤ 8) : -9223372036854775808 ≤ numN l ∧ numN l ≤ 9223372036854775807 := by
  rw [← numK_all]
  obtain ⟨M, hM⟩ : ∃ M, l.length = M + 1 := ⟨l.length - 1, by omega⟩
  have h2 := numK_range l h M (by omega)
  rw [hM]
  have h3 : (256 : Int) ^ M ≤ 72057594037927936 := by
    have : M ≤ 7 := by omega
    match M, this with
    | 0, _ => decide
    | 1, _ => decide
    | 2, _ => decide
    | 3, _ => decide
    | 4, _ => decide
    | 5, _ => decide
    | 6, _ => decide
    | 7, _ => decide
  constructor <;> omega
/-- The memory behind region 3: a box for what Tagged answered. -/
def Made (w : World) (cl num : Int) (l : List Int) (V : Nat) (A : Option Addr) (c : Nat) (B : Option Addr) (d : Nat) (w' : World) : Prop :=
  Box w' V (.int .u8 0) (.int .u8 0) (.bool false) (.slice none 0 0) (.slice none 0 0) ∧ BvF w' (fun q => w.heap.size ≤ q ∧ q ≠ V) ⟨cl, num, false, l, []⟩ A c B d ∧ w.heap.size ≤ V ∧ Below w.heap.size w w'
theorem made_last {w w' : World} {cl num : Int} {l : List Int} {A : Option Addr} {c : Nat} {B : Option Addr} {d : Nat} (hb : Below w.heap.size w w') (h : BvF w' (fun q => w.heap.size ≤ q) ⟨cl, num, false, l, []⟩ A c B d) :
    Made w cl num l w'.heap.size A c B d (w'.alloc (.cells #[.int .u8 0, .int .u8 0, .bool false, .slice none 0 0, .slice none 0 0] 26)) :=
  ⟨box_new w' _ _ _ _ _, (h.bound.below (below_alloc (Below.refl _ _) _)).mono (fun q hq => ⟨hq.1, by have := hq.2; omega⟩), hb.size, below_then hb hb.size (below_alloc (Below.refl _ _) _)⟩
theorem made_first {w w1 w' : World} {cl num : Int} {l : List Int} {V : Nat} {A : Option Addr} {c : Nat} {B : Option Addr} {d : Nat} (hV : Box w1 V (.int .u8 0) (.int .u8 0) (.bool false) (.slice none 0 0) (.slice none 0 0)) (hb : Below w.heap.size w w1) (hw : w.heap.size ≤ V) (h2 : Below w1.heap.size w1 w') (h : BvF w' (fun q => w1.heap.size ≤ q) ⟨cl, num, false, l, []⟩ A c B d) :
    Made w cl num l V A c B d w' :=
  ⟨hV.below h2, h.mono (fun q hq => ⟨Nat.le_trans hb.size hq, fun e => by have := hV.lt; omega⟩), hw, below_then hb hb.size h2⟩
theorem one_list (l : List Int) (h : l.length = 1) : l = [l[0]'(by omega)] := by
  match l, h with
  | [y], _ => rfl
theorem not_one {b wl : List Int} {kb : Int} (hk : numN b = kb) (hw : wholeL kb = wl) (hb : ∀ x ∈ b, 0 ≤ x ∧ x < 256) (hf : ¬ wl = b) : b.length ≠ 1 := by
  intro h
  match b, h with
  | [y], _ => exact hf (by rw [← hw, ← hk]; exact num_one y (hb y (by simp)))
theorem two_of {p q r : Prop} (h : p ∧ q ∧ r) : p ∧ q := ⟨h.1, h.2.1⟩
set_option maxHeartbeats 40000000 in
set_option maxRecDepth 20000 in
theorem numbers_walk (n : Int) (A : Option Addr) (c : Nat) (b : List Int) (cl num : Int) (cons : Bool) (w : World) (hn : -9223372036854775808 ≤ n ∧ n ≤ 9223372036854775807) (hC : kU.C w A b.length b) (hc : b.length ≤ c) (hb : ∀ x ∈ b, 0 ≤ x ∧ x < 256) :
    Calls Try.prog 6 #[.int .i64 n, .slice A b.length c, .agg #[.int .u8 cl, .int .u8 num, .bool cons]] w fun e w' => e = .returned (.bool true) ∧ Below w.heap.size w w' := by
  have hT := Go.heap_alloc_new w (.cells #[.int .u8 cl, .int .u8 num, .bool cons] 44)
  have hb1 := below_alloc (Below.refl w.heap.size w) (.cells #[.int .u8 cl, .int .u8 num, .bool cons] 44)
  obtain ⟨w1, hw1⟩ : ∃ w1, w.alloc (.cells #[.int .u8 cl, .int .u8 num, .bool cons] 44) = w1 := ⟨_, rfl⟩
  obtain ⟨T0, hT0⟩ : ∃ T0, w.heap.size = T0 := ⟨_, rfl⟩
  rw [hw1] at hT hb1
  rw [hT0] at hT
  have hS : ∀ W, Below w1.heap.size w1 W → W.cell? ⟨T0, 0, none⟩ = some (.int .u8 cl) ∧ W.cell? ⟨T0, 1, none⟩ = some (.int .u8 num) ∧ W.cell? ⟨T0, 2, none⟩ = some (.bool cons) := fun W hW => by
    have h := (hW.block T0 (blk_lt hT)).trans hT
    exact ⟨(blk_cell h 0).trans rfl, (blk_cell h 1).trans rfl, (blk_cell h 2).trans rfl⟩
  have hC1 := Aside0.mk (Kd.C_below hC hb1)
  have hb1' := Aside0.mk hb1
  obtain ⟨N, hN⟩ : ∃ N, b.length = N := ⟨_, rfl⟩
  have hN' := Aside0.mk hN
  rw [hN] at hc hC1 ⊢
  clear hC hN hT
  replace hb := Aside0.mk hb
  by_cases h20 : 20 < N
  · have i1 : (20 : Int) < (N : Int) := by omega
    clear hS
    go_enter Try.func6, Try.ntmps6
    go_wp2_with fail
    refine (known_calls _).mono ?_
    rintro e w2 ⟨rfl, hb2⟩
    have hbf := Aside0.mk (below_then hb1'.out hb1'.out.size hb2)
    clear hb2 hb1
    go_wp2_with fail
    go_ret
    exact ⟨rfl, hbf.out⟩
  · have i1 : decide ((20 : Int) < (N : Int)) = false := by simp; omega
    have hS1 := hS _ (below_drew (Below.refl _ _))
    have hSa := Aside0.mk hS
    obtain ⟨t0, t1, t2⟩ := hS w1 (Below.refl _ _)
    have hst : (strOfNums (wholeL n)).toList = (strOfNums (wholeL n)).toList := rfl
    have hint := Aside0.mk (fun W => raw_of (int_calls n W hn))
    have henu := Aside0.mk (fun W => raw_of (enum_calls n W hn))
    have htag := Aside0.mk (fun A c B d W (hv : Bv W ⟨0, 2, false, wholeL n, []⟩ A c B d) => raw_of (tagged_calls ⟨0, 2, false, wholeL n, []⟩ A c B d cl num W hv (by have := (wholeL_length n).2; simp only [wT, wL]; omega)))
    have hwl := Aside0.mk (wholeL_length n)
    have hbw := Aside0.mk (wholeL_bytes n)
    have hiw := Aside0.mk (int_whole hn cl num [])
    have hrw := Aside0.mk (ref_whole hn)
    obtain ⟨l, hl⟩ : ∃ l, wholeL n = l := ⟨_, rfl⟩
    rw [hl] at hint henu htag hwl hbw hiw hrw
    obtain ⟨m, hm⟩ : ∃ m, l.length = m := ⟨_, rfl⟩
    replace hm := Aside0.mk hm
    have hdr := Aside0.mk (below_drew (Below.refl w1.heap.size w1))
    replace hn := Aside0.mk hn
    clear hst hl hb1 hS1 hS
    go_enter Try.func6, Try.ntmps6
    go_wp2_with fail
    replace hw1 := Aside0.mk hw1
    replace hT0 := Aside0.mk hT0
    have hm2 : l.length = m := hm.out
    rw [hm2] at hwl
    have hint' : Aside0 (∀ W, Calls Try.prog 22 #[.int .i64 n] W fun e w' => ∃ A c B d, e = .returned (.agg #[.int .u8 0, .int .u8 2, .bool false, .slice A m c, .slice B 0 d]) ∧ BvF w' (fun q => W.heap.size ≤ q) ⟨0, 2, false, l, []⟩ A c B d ∧ Below W.heap.size W w') := ⟨fun W => by rw [← hm2]; exact hint.out W⟩
    have henu' : Aside0 (∀ W, Calls Try.prog 23 #[.int .i64 n] W fun e w' => ∃ A c B d, e = .returned (.agg #[.int .u8 0, .int .u8 10, .bool false, .slice A m c, .slice B 0 d]) ∧ BvF w' (fun q => W.heap.size ≤ q) ⟨0, 10, false, l, []⟩ A c B d ∧ Below W.heap.size W w') := ⟨fun W => by rw [← hm2]; exact henu.out W⟩
    have htag' : Aside0 (∀ A c B d W, Bv W ⟨0, 2, false, l, []⟩ A c B d → Calls Try.prog 21 #[.agg #[.int .u8 0, .int .u8 2, .bool false, .slice A m c, .slice B 0 d], .int .u8 cl, .int .u8 num] W fun e w' => ∃ A c B d, e = .returned (.agg #[.int .u8 cl, .int .u8 num, .bool false, .slice A m c, .slice B 0 d]) ∧ BvF w' (fun q => W.heap.size ≤ q) ⟨cl, num, false, l, []⟩ A c B d ∧ Below W.heap.size W w') := ⟨fun A c B d W hv => by rw [← hm2]; exact htag.out A c B d W hv⟩
    have hba := Aside0.mk (show Below w1.heap.size w1 (w1.drew.alloc (.cells #[.int .u8 0, .int .u8 0, .bool false, .slice none 0 0, .slice none 0 0] 26)) from below_alloc hdr.out _)
    have hBa := Aside0.mk (box_new w1.drew (.int .u8 0) (.int .u8 0) (.bool false) (.slice none 0 0) (.slice none 0 0))
    clear hm2 hint henu htag t0 t1 t2
    refine start_ (n := 9) (S := fun w' => w'.cell? ⟨T0, 0, none⟩ = some (.int .u8 cl) ∧ w'.cell? ⟨T0, 1, none⟩ = some (.int .u8 num)) (ds := [8]) #[false, false, false, false, false, false, false, false, false] (by kernel_rfl) rfl rfl ⟨((fun (h : w1.drew.cell? ⟨T0, 0, none⟩ = some (.int .u8 cl) ∧ w1.drew.cell? ⟨T0, 1, none⟩ = some (.int .u8 num) ∧ w1.drew.cell? ⟨T0, 2, none⟩ = some (.bool cons)) => And.intro h.1 h.2.1) (hSa.out _ hdr.out)).1, ((fun (h : w1.drew.cell? ⟨T0, 0, none⟩ = some (.int .u8 cl) ∧ w1.drew.cell? ⟨T0, 1, none⟩ = some (.int .u8 num) ∧ w1.drew.cell? ⟨T0, 2, none⟩ = some (.bool cons)) => And.intro h.1 h.2.1) (hSa.out _ hdr.out)).2⟩ (fun hHeld => ?_)
    refine pure_ (i := 0) (N := some 22) (v := ?_) (a' := ?_) #[true, false, false, false, false, false, false, false, false] rfl rfl (by kernel_rfl) (fun _ _ _ h => h) (Or.inl ⟨by rfl, ?_⟩) ?_ ?_
    rotate_left
    · intro w'
      go_simp
      with_reducible rfl
    rotate_left
    · simp only [Act.put, List.setIfInBounds_toArray, List.set_cons_zero, List.set_cons_succ, i64_w, i32_w]
      rfl
    refine pure_ (i := 2) (N := some 24) (v := ?_) (a' := ?_) #[true, false, true, false, false, false, false, false, false] rfl rfl (by kernel_rfl) (fun _ _ _ h => h) (Or.inl ⟨by rfl, ?_⟩) ?_ ?_
    rotate_left
    · intro w'
      go_simp
      with_reducible rfl
    rotate_left
    · simp only [Act.put, List.setIfInBounds_toArray, List.set_cons_zero, List.set_cons_succ, i64_w, i32_w]
      rfl
    refine pure_ (i := 4) (N := some 26) (v := ?_) (a' := ?_) #[true, false, true, false, true, false, false, false, false] rfl rfl (by kernel_rfl) (fun _ _ _ h => h) (Or.inl ⟨by rfl, ?_⟩) ?_ ?_
    rotate_left
    · intro w'
      go_simp
      with_reducible rfl
    rotate_left
    · simp only [Act.put, List.setIfInBounds_toArray, List.set_cons_zero, List.set_cons_succ, i64_w, i32_w]
      rfl
    refine take_ (i := 3) (N := some 25) (v := ?_) (a' := ?_) #[true, false, true, true, true, false, false, false, false] rfl rfl (by kernel_rfl) (fun _ _ _ h => h) (Or.inl ⟨by rfl, ?_⟩) hHeld ?_ ?_
    rotate_left
    · rintro w' ⟨s0, s1⟩
      go_simp
      with_reducible rfl
    rotate_left
    · simp only [Act.put, List.setIfInBounds_toArray, List.set_cons_zero, List.set_cons_succ, i64_w, i32_w]
      rfl
    refine take_ (i := 5) (N := some 27) (v := ?_) (a' := ?_) #[true, false, true, true, true, true, false, false, false] rfl rfl (by kernel_rfl) (fun _ _ _ h => h) (Or.inl ⟨by rfl, ?_⟩) hHeld ?_ ?_
    rotate_left
    · rintro w' ⟨s0, s1⟩
      go_simp
      with_reducible rfl
    rotate_left
    · simp only [Act.put, List.setIfInBounds_toArray, List.set_cons_zero, List.set_cons_succ, i64_w, i32_w]
      rfl
    refine join_ (σ := Nat × (Option Addr × Nat × Option Addr × Nat) × (Option Addr × Nat × Option Addr × Nat)) 1 #[true, true, true, true, true, true, true, true, false] (fun s => [(23, .agg #[.int .u8 0, .int .u8 2, .bool false, .slice s.2.1.1 m s.2.1.2.1, .slice s.2.1.2.2.1 0 s.2.1.2.2.2]), (28, .agg #[.int .u8 cl, .int .u8 num, .bool false, .slice s.2.2.1 m s.2.2.2.1, .slice s.2.2.2.2.1 0 s.2.2.2.2.2]), (7, .pointer (some ⟨s.1, 0, none⟩))]) (fun s w' => Made w1 cl num l s.1 s.2.2.1 s.2.2.2.1 s.2.2.2.2.1 s.2.2.2.2.2 w') ?_ ?_
    rotate_left
    · intro hCont
      refine two_ (i := 1) (j := 7) (Ni := some 23) (Nj := some 7) #[true, true, true, true, true, true, false, false, false] #[true, false, true, true, true, true, false, true, false] rfl rfl rfl rfl (by kernel_rfl) (by decide) (by decide) (fun K hK => ?_) (fun K hK => ?_)
      · skip
        refine goes_ Try.func22 (by kernel_rfl) rfl #[.int .i64 n] (by rfl) rfl rfl (by simp only [List.map_toArray, List.map_cons, List.map_nil]; rfl) ?_
        with_reducible refine ((hint'.out _)).mono ?_
        rintro e w3 ⟨A3, c3, B3, d3, rfl, hv3, hb3⟩
        refine ⟨_, rfl, ?_⟩
        have h13 := Aside0.mk (below_then hdr.out hdr.out.size hb3)
        have hv3 := Aside0.mk hv3
        clear hb3
        refine hK.out _ _ ⟨(two_of (hSa.out _ h13.out)).1, (two_of (hSa.out _ h13.out)).2⟩ (fun hHeld => ?_)
        clear hK K
        refine norm_ (a' := ?_) ?_ ?_
        rotate_left
        · show Act.put _ (some 23) _ = _
          simp only [Act.put, List.setIfInBounds_toArray, List.set_cons_zero, List.set_cons_succ, i64_w, i32_w]
          rfl
        refine two_ (i := 6) (j := 7) (Ni := some 28) (Nj := some 7) #[true, true, true, true, true, true, true, false, false] #[true, true, true, true, true, true, false, true, false] rfl rfl rfl rfl (by kernel_rfl) (by decide) (by decide) (fun K hK => ?_) (fun K hK => ?_)
        · skip
          refine goes_ Try.func21 (by kernel_rfl) rfl #[.agg #[.int .u8 0, .int .u8 2, .bool false, .slice A3 m c3, .slice B3 0 d3], .int .u8 cl, .int .u8 num] (by rfl) rfl rfl (by simp only [List.map_toArray, List.map_cons, List.map_nil]; rfl) ?_
          with_reducible refine ((htag'.out A3 c3 B3 d3 _ hv3.out.now)).mono ?_
          rintro e w4 ⟨A4, c4, B4, d4, rfl, hv4, hb4⟩
          refine ⟨_, rfl, ?_⟩
          have h14 := Aside0.mk (below_then h13.out h13.out.size hb4)
          have hv4 := Aside0.mk (hv4.mono (ok' := fun q => w1.heap.size ≤ q) (fun q hq => Nat.le_trans h13.out.size hq))
          refine hK.out _ _ ⟨(two_of (hSa.out _ h14.out)).1, (two_of (hSa.out _ h14.out)).2⟩ (fun hHeld => ?_)
          clear hK K
          refine norm_ (a' := ?_) ?_ ?_
          rotate_left
          · show Act.put _ (some 28) _ = _
            simp only [Act.put, List.setIfInBounds_toArray, List.set_cons_zero, List.set_cons_succ, i64_w, i32_w]
            rfl
          refine one_ (i := 7) (N := some 7) #[true, true, true, true, true, true, true, true, false] rfl rfl (by kernel_rfl) (by decide) (fun K hK => ?_)
          refine value_ (w1 := ?_) (v := ?_) (by rfl) rfl ?_ ?_
          rotate_left 2
          · go_simp
            constructor
            · rfl
            · rfl
          have hmade := Aside0.mk (made_last h14.out hv4.out)
          refine hK.out _ _ ⟨(two_of (hSa.out _ hmade.out.2.2.2)).1, (two_of (hSa.out _ hmade.out.2.2.2)).2⟩ (fun hHeld => ?_)
          clear hK K
          refine norm_ (a' := ?_) ?_ ?_
          rotate_left
          · show Act.put _ (some 7) _ = _
            simp only [Act.put, List.setIfInBounds_toArray, List.set_cons_zero, List.set_cons_succ, i64_w, i32_w]
            rfl
          exact norm_ (by simp only [putAll, Act.put, List.setIfInBounds_toArray, List.set_cons_zero, List.set_cons_succ]) (hCont (w4.heap.size, (A3, c3, B3, d3), (A4, c4, B4, d4)) _ hmade.out)
        · skip
          refine value_ (w1 := ?_) (v := ?_) (by rfl) rfl ?_ ?_
          rotate_left 2
          · go_simp
            constructor
            · rfl
            · rfl
          have h14 := Aside0.mk (below_then h13.out h13.out.size (below_alloc (Below.refl w3.heap.size w3) (.cells #[.int .u8 0, .int .u8 0, .bool false, .slice none 0 0, .slice none 0 0] 26)))
          have hv4 := Aside0.mk (hv3.out.below (below_alloc (Below.refl w3.heap.size w3) (.cells #[.int .u8 0, .int .u8 0, .bool false, .slice none 0 0, .slice none 0 0] 26)))
          refine hK.out _ _ ⟨(two_of (hSa.out _ h14.out)).1, (two_of (hSa.out _ h14.out)).2⟩ (fun hHeld => ?_)
          clear hK K
          refine norm_ (a' := ?_) ?_ ?_
          rotate_left
          · show Act.put _ (some 7) _ = _
            simp only [Act.put, List.setIfInBounds_toArray, List.set_cons_zero, List.set_cons_succ, i64_w, i32_w]
            rfl
          refine one_ (i := 6) (N := some 28) #[true, true, true, true, true, true, true, true, false] rfl rfl (by kernel_rfl) (by decide) (fun K hK => ?_)
          refine goes_ Try.func21 (by kernel_rfl) rfl #[.agg #[.int .u8 0, .int .u8 2, .bool false, .slice A3 m c3, .slice B3 0 d3], .int .u8 cl, .int .u8 num] (by rfl) rfl rfl (by simp only [List.map_toArray, List.map_cons, List.map_nil]; rfl) ?_
          with_reducible refine ((htag'.out A3 c3 B3 d3 _ hv4.out.now)).mono ?_
          rintro e w4 ⟨A4, c4, B4, d4, rfl, hv4, hb4⟩
          refine ⟨_, rfl, ?_⟩
          have hmade := Aside0.mk (made_first (box_new w3 (.int .u8 0) (.int .u8 0) (.bool false) (.slice none 0 0) (.slice none 0 0)) h14.out h13.out.size hb4 hv4)
          refine hK.out _ _ ⟨(two_of (hSa.out _ hmade.out.2.2.2)).1, (two_of (hSa.out _ hmade.out.2.2.2)).2⟩ (fun hHeld => ?_)
          clear hK K
          refine norm_ (a' := ?_) ?_ ?_
          rotate_left
          · show Act.put _ (some 28) _ = _
            simp only [Act.put, List.setIfInBounds_toArray, List.set_cons_zero, List.set_cons_succ, i64_w, i32_w]
            rfl
          exact norm_ (by simp only [putAll, Act.put, List.setIfInBounds_toArray, List.set_cons_zero, List.set_cons_succ]) (hCont (w3.heap.size, (A3, c3, B3, d3), (A4, c4, B4, d4)) _ hmade.out)
      · skip
        refine value_ (w1 := ?_) (v := ?_) (by rfl) rfl ?_ ?_
        rotate_left 2
        · go_simp
          constructor
          · rfl
          · rfl
        refine hK.out _ _ ⟨(two_of (hSa.out _ hba.out)).1, (two_of (hSa.out _ hba.out)).2⟩ (fun hHeld => ?_)
        clear hK K
        refine norm_ (a' := ?_) ?_ ?_
        rotate_left
        · show Act.put _ (some 7) _ = _
          simp only [Act.put, List.setIfInBounds_toArray, List.set_cons_zero, List.set_cons_succ, i64_w, i32_w]
          rfl
        refine one_ (i := 1) (N := some 23) #[true, true, true, true, true, true, false, true, false] rfl rfl (by kernel_rfl) (by decide) (fun K hK => ?_)
        refine goes_ Try.func22 (by kernel_rfl) rfl #[.int .i64 n] (by rfl) rfl rfl (by simp only [List.map_toArray, List.map_cons, List.map_nil]; rfl) ?_
        with_reducible refine ((hint'.out _)).mono ?_
        rintro e w3 ⟨A3, c3, B3, d3, rfl, hv3, hb3⟩
        refine ⟨_, rfl, ?_⟩
        have h13 := Aside0.mk (below_then hba.out hba.out.size hb3)
        have hB3 := Aside0.mk (hBa.out.below hb3)
        have hv3 := Aside0.mk hv3
        clear hb3
        refine hK.out _ _ ⟨(two_of (hSa.out _ h13.out)).1, (two_of (hSa.out _ h13.out)).2⟩ (fun hHeld => ?_)
        clear hK K
        refine norm_ (a' := ?_) ?_ ?_
        rotate_left
        · show Act.put _ (some 23) _ = _
          simp only [Act.put, List.setIfInBounds_toArray, List.set_cons_zero, List.set_cons_succ, i64_w, i32_w]
          rfl
        refine one_ (i := 6) (N := some 28) #[true, true, true, true, true, true, true, true, false] rfl rfl (by kernel_rfl) (by decide) (fun K hK => ?_)
        refine goes_ Try.func21 (by kernel_rfl) rfl #[.agg #[.int .u8 0, .int .u8 2, .bool false, .slice A3 m c3, .slice B3 0 d3], .int .u8 cl, .int .u8 num] (by rfl) rfl rfl (by simp only [List.map_toArray, List.map_cons, List.map_nil]; rfl) ?_
        with_reducible refine ((htag'.out A3 c3 B3 d3 _ hv3.out.now)).mono ?_
        rintro e w4 ⟨A4, c4, B4, d4, rfl, hv4, hb4⟩
        refine ⟨_, rfl, ?_⟩
        have hmade := Aside0.mk (made_first hB3.out h13.out hdr.out.size hb4 hv4)
        refine hK.out _ _ ⟨(two_of (hSa.out _ hmade.out.2.2.2)).1, (two_of (hSa.out _ hmade.out.2.2.2)).2⟩ (fun hHeld => ?_)
        clear hK K
        refine norm_ (a' := ?_) ?_ ?_
        rotate_left
        · show Act.put _ (some 28) _ = _
          simp only [Act.put, List.setIfInBounds_toArray, List.set_cons_zero, List.set_cons_succ, i64_w, i32_w]
          rfl
        exact norm_ (by simp only [putAll, Act.put, List.setIfInBounds_toArray, List.set_cons_zero, List.set_cons_succ]) (hCont (w1.heap.size, (A3, c3, B3, d3), (A4, c4, B4, d4)) _ hmade.out)
    rintro ⟨V, ⟨A3, c3, B3, d3⟩, ⟨A4, c4, B4, d4⟩⟩ w4 hmade
    have hHeld := two_of (hSa.out _ hmade.2.2.2)
    obtain ⟨e0, e1, e2, e3, e4⟩ := hmade.1.cells
    obtain ⟨f0, f1, f2, f3, f4⟩ := hmade.1.free
    replace hmade := Aside0.mk hmade
    refine norm_ (a' := ?_) ?_ ?_
    rotate_left
    · simp only [putAll, Act.put, List.setIfInBounds_toArray, List.set_cons_zero, List.set_cons_succ]
      rfl
    refine last_ (i := 8) (N := none) #[true, true, true, true, true, true, true, true, true] rfl rfl (by kernel_rfl) (by decide) (fun K hK => ?_)
    refine skip_ (w1 := ?_) (by rfl) rfl ?_ ?_
    rotate_left
    · go_simp
      rfl
    refine hK.out _ _ ?_
    clear hK K
    refine done_ (by kernel_rfl) ?_
    obtain ⟨w5, hw5, hB5, hm5⟩ := put5 hmade.out.1 (.int .u8 cl) (.int .u8 num) (.bool false) (.slice A4 m c4) (.slice B4 0 d4)
    rw [hw5]
    have hv5 := hmade.out.2.1.mod hm5 (fun q hq e => hq.2 e)
    have hVw := hmade.out.2.2.1
    have hb5 := Aside0.mk (show Below w1.heap.size w1 w5 from put5_mod hm5 hmade.out.2.2.2 hVw)
    clear e0 e1 e2 e3 e4 f0 f1 f2 f3 f4 hint' htag' hba hBa hHeld hw5 hm5
    have hen5 := Aside0.mk (henu'.out w5)
    replace hmade := Aside0.mk hVw
    clear hVw
    go_wp2_with fail
    refine hen5.out.mono ?_
    rintro e w6 ⟨A6, c6, B6, d6, rfl, hv6, hb6⟩
    have hB6 := hB5.below hb6
    have hv5' := hv5.below hb6
    have hb16 := below_then hb5.out hb5.out.size hb6
    have hU7 := box_new w6 (.int .u8 0) (.int .u8 0) (.bool false) (.slice none 0 0) (.slice none 0 0)
    have hb7 := below_alloc (Below.refl w6.heap.size w6) (.cells #[.int .u8 0, .int .u8 0, .bool false, .slice none 0 0, .slice none 0 0] 26)
    obtain ⟨w7, hw7⟩ : ∃ w7, w6.alloc (.cells #[.int .u8 0, .int .u8 0, .bool false, .slice none 0 0, .slice none 0 0] 26) = w7 := ⟨_, rfl⟩
    obtain ⟨U, hU⟩ : ∃ U, w6.heap.size = U := ⟨_, rfl⟩
    rw [hw7] at hU7 hb7
    rw [hU] at hU7
    have hVU : V < U := by have := hB6.lt; omega
    obtain ⟨w8, hw8, hU8, hm8⟩ := put5 hU7 (.int .u8 0) (.int .u8 10) (.bool false) (.slice A6 m c6) (.slice B6 0 d6)
    have hb8 : Below w6.heap.size w6 w8 := put5_mod hm8 hb7 (by omega)
    have hB8 := hB6.below hb8
    have hv8 := Aside0.mk (hv5'.below hb8)
    have hv68 := Aside0.mk (hv6.below hb8)
    have hb18 := Aside0.mk (below_then hb16 hb16.size hb8)
    have hio := Aside0.mk (show Calls Try.prog 24 #[.agg #[.int .u8 cl, .int .u8 num, .bool false, .slice A4 m c4, .slice B4 0 d4]] w8 (IntEnds (some n) w8) from by
      have h := intof_calls ⟨cl, num, false, l, []⟩ A4 c4 B4 d4 w8 hv8.out.now hbw.out
      rw [hiw.out, hm.out] at h
      exact h)
    obtain ⟨e0, e1, e2, e3, e4⟩ := hB8.cells
    obtain ⟨g0, g1, g2, g3, g4⟩ := hU7.cells
    obtain ⟨f0, f1, f2, f3, f4⟩ := hU7.free
    have hB8 := Aside0.mk hB8
    have hU8 := Aside0.mk hU8
    clear hen5 hb6 hB6 hB5 hv5 hv5' hb16 hU7 hb7 hm8 hb8 hv6
    go_wp2_with fail
    refine hio.out.mono ?_
    rintro e w9 ⟨rfl, hb9⟩
    dsimp only
    replace hU := Aside0.mk hU
    replace hw7 := Aside0.mk hw7
    replace hw8 := Aside0.mk hw8
    have hb19 := Aside0.mk (below_then hb18.out hb18.out.size hb9)
    have hdr9 := Aside0.mk (below_drew (Below.refl w9.heap.size w9))
    obtain ⟨str, hstr⟩ : ∃ str, strOfNums l = str := ⟨_, rfl⟩
    have hcv : ∀ A c W, kU.C W A l.length l → (convert 23 9 (.slice A m c)).run Try.prog W = .ok (.string str) W := fun A c W h => by
      have := Kd.C_string (P := Try.prog) (dst := 9) (c := c) Try.underlying23 Try.underlying5 Try.underlying9 h
      rwa [hm.out, hstr] at this
    have hss : (str.toList != str.toList) = false := by simp
    have hS9 := Aside0.mk (show ∀ W, Below w9.heap.size w9 W → (W.cell? ⟨V, 3, none⟩ = some (.slice A4 m c4) ∧ W.cell? ⟨V, 0, none⟩ = some (.int .u8 cl) ∧ W.cell? ⟨V, 1, none⟩ = some (.int .u8 num) ∧ W.cell? ⟨T0, 0, none⟩ = some (.int .u8 cl) ∧ W.cell? ⟨T0, 1, none⟩ = some (.int .u8 num) ∧ W.cell? ⟨U, 1, none⟩ = some (.int .u8 10) ∧ W.cell? ⟨U, 3, none⟩ = some (.slice A6 m c6) ∧ (convert 23 9 (.slice A4 m c4)).run Try.prog W = .ok (.string str) W ∧ (convert 23 9 (.slice A6 m c6)).run Try.prog W = .ok (.string str) W) from fun W hW => by
      have hB := (hB8.out.below hb9).below hW
      have hUb := (hU8.out.below hb9).below hW
      have hTb := hSa.out W (below_then hb19.out hb19.out.size hW)
      exact ⟨hB.cells.2.2.2.1, hB.cells.1, hB.cells.2.1, hTb.1, hTb.2.1, hUb.cells.2.1, hUb.cells.2.2.2.1, hcv _ _ _ (Kd.F_now (Kd.F_below (Kd.F_below hv8.out.cb hb9) hW)), hcv _ _ _ (Kd.F_now (Kd.F_below (Kd.F_below hv68.out.cb hb9) hW))⟩)
    obtain ⟨K, hK⟩ := hrw.out
    have hwc := Aside0.mk (fun W => PBerNumbers.cardcaseref05_Whole.calls K n l W hK)
    replace hcv := Aside0.mk hcv
    clear hK hstr hio hb9 e0 e1 e2 e3 e4 g0 g1 g2 g3 g4 f0 f1 f2 f3 f4 hrw
    go_wp2_with fail
    refine start_ (n := 44) (S := fun w' => w'.cell? ⟨V, 3, none⟩ = some (.slice A4 m c4) ∧ w'.cell? ⟨V, 0, none⟩ = some (.int .u8 cl) ∧ w'.cell? ⟨V, 1, none⟩ = some (.int .u8 num) ∧ w'.cell? ⟨T0, 0, none⟩ = some (.int .u8 cl) ∧ w'.cell? ⟨T0, 1, none⟩ = some (.int .u8 num) ∧ w'.cell? ⟨U, 1, none⟩ = some (.int .u8 10) ∧ w'.cell? ⟨U, 3, none⟩ = some (.slice A6 m c6) ∧ (convert 23 9 (.slice A4 m c4)).run Try.prog w' = .ok (.string str) w' ∧ (convert 23 9 (.slice A6 m c6)).run Try.prog w' = .ok (.string str) w') (ds := []) #[false, false, false, false, false, false, false, false, false, false, false, false, false, false, false, false, false, false, false, false, false, false, false, false, false, false, false, false, false, false, false, false, false, false, false, false, false, false, false, false, false, false, false, false] (by kernel_rfl) rfl rfl ⟨(hS9.out _ hdr9.out).1, (hS9.out _ hdr9.out).2.1, (hS9.out _ hdr9.out).2.2.1, (hS9.out _ hdr9.out).2.2.2.1, (hS9.out _ hdr9.out).2.2.2.2.1, (hS9.out _ hdr9.out).2.2.2.2.2.1, (hS9.out _ hdr9.out).2.2.2.2.2.2.1, (hS9.out _ hdr9.out).2.2.2.2.2.2.2.1, (hS9.out _ hdr9.out).2.2.2.2.2.2.2.2⟩ (fun hHeld => ?_)
    refine pure_ (i := 0) (N := some 36) (v := ?_) (a' := ?_) #[true, false, false, false, false, false, false, false, false, false, false, false, false, false, false, false, false, false, false, false, false, false, false, false, false, false, false, false, false, false, false, false, false, false, false, false, false, false, false, false, false, false, false, false] rfl rfl (by kernel_rfl) (fun _ _ _ h => h) (Or.inl ⟨by rfl, ?_⟩) ?_ ?_
    rotate_left
    · intro w'
      go_simp
      with_reducible rfl
    rotate_left
    · simp only [Act.put, List.setIfInBounds_toArray, List.set_cons_zero, List.set_cons_succ, i64_w, i32_w]
      rfl
    refine pure_ (i := 1) (N := some 37) (v := ?_) (a' := ?_) #[true, true, false, false, false, false, false, false, false, false, false, false, false, false, false, false, false, false, false, false, false, false, false, false, false, false, false, false, false, false, false, false, false, false, false, false, false, false, false, false, false, false, false, false] rfl rfl (by kernel_rfl) (fun _ _ _ h => h) (Or.inl ⟨by rfl, ?_⟩) ?_ ?_
    rotate_left
    · intro w'
      go_simp
      with_reducible rfl
    rotate_left
    · simp only [Act.put, List.setIfInBounds_toArray, List.set_cons_zero, List.set_cons_succ, i64_w, i32_w]
      rfl
    refine pure_ (i := 2) (N := some 38) (v := ?_) (a' := ?_) #[true, true, true, false, false, false, false, false, false, false, false, false, false, false, false, false, false, false, false, false, false, false, false, false, false, false, false, false, false, false, false, false, false, false, false, false, false, false, false, false, false, false, false, false] rfl rfl (by kernel_rfl) (fun _ _ _ h => h) (Or.inl ⟨by rfl, ?_⟩) ?_ ?_
    rotate_left
    · intro w'
      go_simp
      with_reducible rfl
    rotate_left
    · simp only [Act.put, List.setIfInBounds_toArray, List.set_cons_zero, List.set_cons_succ, i64_w, i32_w]
      rfl
    refine pure_ (i := 3) (N := some 39) (v := ?_) (a' := ?_) #[true, true, true, true, false, false, false, false, false, false, false, false, false, false, false, false, false, false, false, false, false, false, false, false, false, false, false, false, false, false, false, false, false, false, false, false, false, false, false, false, false, false, false, false] rfl rfl (by kernel_rfl) (fun _ _ _ h => h) (Or.inl ⟨by rfl, ?_⟩) ?_ ?_
    rotate_left
    · intro w'
      go_simp
      with_reducible rfl
    rotate_left
    · simp only [Act.put, List.setIfInBounds_toArray, List.set_cons_zero, List.set_cons_succ, i64_w, i32_w]
      rfl
    refine pure_ (i := 4) (N := some 40) (v := ?_) (a' := ?_) #[true, true, true, true, true, false, false, false, false, false, false, false, false, false, false, false, false, false, false, false, false, false, false, false, false, false, false, false, false, false, false, false, false, false, false, false, false, false, false, false, false, false, false, false] rfl rfl (by kernel_rfl) (fun _ _ _ h => h) (Or.inl ⟨by rfl, ?_⟩) ?_ ?_
    rotate_left
    · intro w'
      go_simp
      with_reducible rfl
    rotate_left
    · simp only [Act.put, List.setIfInBounds_toArray, List.set_cons_zero, List.set_cons_succ, i64_w, i32_w]
      rfl
    refine pure_ (i := 5) (N := some 41) (v := ?_) (a' := ?_) #[true, true, true, true, true, true, false, false, false, false, false, false, false, false, false, false, false, false, false, false, false, false, false, false, false, false, false, false, false, false, false, false, false, false, false, false, false, false, false, false, false, false, false, false] rfl rfl (by kernel_rfl) (fun _ _ _ h => h) (Or.inl ⟨by rfl, ?_⟩) ?_ ?_
    rotate_left
    · intro w'
      go_simp
      with_reducible rfl
    rotate_left
    · simp only [Act.put, List.setIfInBounds_toArray, List.set_cons_zero, List.set_cons_succ, i64_w, i32_w]
      rfl
    refine pure_ (i := 6) (N := some 42) (v := ?_) (a' := ?_) #[true, true, true, true, true, true, true, false, false, false, false, false, false, false, false, false, false, false, false, false, false, false, false, false, false, false, false, false, false, false, false, false, false, false, false, false, false, false, false, false, false, false, false, false] rfl rfl (by kernel_rfl) (fun _ _ _ h => h) (Or.inl ⟨by rfl, ?_⟩) ?_ ?_
    rotate_left
    · intro w'
      go_simp
      with_reducible rfl
    rotate_left
    · simp only [Act.put, List.setIfInBounds_toArray, List.set_cons_zero, List.set_cons_succ, i64_w, i32_w]
      rfl
    refine pure_ (i := 7) (N := some 43) (v := ?_) (a' := ?_) #[true, true, true, true, true, true, true, true, false, false, false, false, false, false, false, false, false, false, false, false, false, false, false, false, false, false, false, false, false, false, false, false, false, false, false, false, false, false, false, false, false, false, false, false] rfl rfl (by kernel_rfl) (fun _ _ _ h => h) (Or.inl ⟨by rfl, ?_⟩) ?_ ?_
    rotate_left
    · intro w'
      go_simp
      with_reducible rfl
    rotate_left
    · simp only [Act.put, List.setIfInBounds_toArray, List.set_cons_zero, List.set_cons_succ, i64_w, i32_w]
      rfl
    refine pure_ (i := 8) (N := some 44) (v := ?_) (a' := ?_) #[true, true, true, true, true, true, true, true, true, false, false, false, false, false, false, false, false, false, false, false, false, false, false, false, false, false, false, false, false, false, false, false, false, false, false, false, false, false, false, false, false, false, false, false] rfl rfl (by kernel_rfl) (fun _ _ _ h => h) (Or.inl ⟨by rfl, ?_⟩) ?_ ?_
    rotate_left
    · intro w'
      go_simp
      with_reducible rfl
    rotate_left
    · simp only [Act.put, List.setIfInBounds_toArray, List.set_cons_zero, List.set_cons_succ, i64_w, i32_w]
      rfl
    refine pure_ (i := 11) (N := some 47) (v := ?_) (a' := ?_) #[true, true, true, true, true, true, true, true, true, false, false, true, false, false, false, false, false, false, false, false, false, false, false, false, false, false, false, false, false, false, false, false, false, false, false, false, false, false, false, false, false, false, false, false] rfl rfl (by kernel_rfl) (fun _ _ _ h => h) (Or.inl ⟨by rfl, ?_⟩) ?_ ?_
    rotate_left
    · intro w'
      go_simp
      with_reducible rfl
    rotate_left
    · simp only [Act.put, List.setIfInBounds_toArray, List.set_cons_zero, List.set_cons_succ, i64_w, i32_w]
      rfl
    refine take_ (i := 9) (N := some 45) (v := ?_) (a' := ?_) #[true, true, true, true, true, true, true, true, true, true, false, true, false, false, false, false, false, false, false, false, false, false, false, false, false, false, false, false, false, false, false, false, false, false, false, false, false, false, false, false, false, false, false, false] rfl rfl (by kernel_rfl) (fun _ _ _ h => h) (Or.inl ⟨by rfl, ?_⟩) hHeld ?_ ?_
    rotate_left
    · rintro w' ⟨s0, s1, s2, s3, s4, s5, s6, s7, s8⟩
      go_simp
      with_reducible rfl
    rotate_left
    · simp only [Act.put, List.setIfInBounds_toArray, List.set_cons_zero, List.set_cons_succ, i64_w, i32_w]
      rfl
    refine take_ (i := 10) (N := some 46) (v := ?_) (a' := ?_) #[true, true, true, true, true, true, true, true, true, true, true, true, false, false, false, false, false, false, false, false, false, false, false, false, false, false, false, false, false, false, false, false, false, false, false, false, false, false, false, false, false, false, false, false] rfl rfl (by kernel_rfl) (fun _ _ _ h => h) (Or.inl ⟨by rfl, ?_⟩) hHeld ?_ ?_
    rotate_left
    · rintro w' ⟨s0, s1, s2, s3, s4, s5, s6, s7, s8⟩
      go_simp
      with_reducible rfl
    rotate_left
    · simp only [Act.put, List.setIfInBounds_toArray, List.set_cons_zero, List.set_cons_succ, i64_w, i32_w]
      rfl
    refine one_ (i := 12) (N := some 48) #[true, true, true, true, true, true, true, true, true, true, true, true, true, false, false, false, false, false, false, false, false, false, false, false, false, false, false, false, false, false, false, false, false, false, false, false, false, false, false, false, false, false, false, false] rfl rfl (by kernel_rfl) (by decide) (fun K hK => ?_)
    refine goes_ Try.func25 (by kernel_rfl) rfl #[.int .i64 n] (by rfl) rfl rfl (by simp only [List.map_toArray, List.map_cons, List.map_nil]; rfl) ?_
    with_reducible refine ((hwc.out _)).mono ?_
    rintro e w10 ⟨v10, rfl, hR10, hb10⟩
    refine ⟨_, rfl, ?_⟩
    obtain ⟨A10, c10, rfl⟩ := Kd.R_slice hR10
    have hcu := hcv.out A10 c10 w10 (Kd.R_reads' hR10).2.2
    rw [hm.out]
    have h910 := Aside0.mk (below_then hdr9.out hdr9.out.size hb10)
    clear hR10 hb10
    refine hK.out _ _ ⟨(hS9.out _ h910.out).1, (hS9.out _ h910.out).2.1, (hS9.out _ h910.out).2.2.1, (hS9.out _ h910.out).2.2.2.1, (hS9.out _ h910.out).2.2.2.2.1, (hS9.out _ h910.out).2.2.2.2.2.1, (hS9.out _ h910.out).2.2.2.2.2.2.1, (hS9.out _ h910.out).2.2.2.2.2.2.2.1, (hS9.out _ h910.out).2.2.2.2.2.2.2.2⟩ (fun hHeld => ?_)
    clear hK K
    refine norm_ (a' := ?_) ?_ ?_
    rotate_left
    · show Act.put _ (some 48) _ = _
      simp only [Act.put, List.setIfInBounds_toArray, List.set_cons_zero, List.set_cons_succ, i64_w, i32_w]
      rfl
    refine one_ (i := 13) (N := some 49) #[true, true, true, true, true, true, true, true, true, true, true, true, true, true, false, false, false, false, false, false, false, false, false, false, false, false, false, false, false, false, false, false, false, false, false, false, false, false, false, false, false, false, false, false] rfl rfl (by kernel_rfl) (by decide) (fun K hK => ?_)
    refine value_ (w1 := ?_) (v := ?_) (by rfl) rfl ?_ ?_
    rotate_left 2
    · go_simp
      constructor
      · rfl
      · rfl
    refine hK.out _ _ ⟨(hS9.out _ h910.out).1, (hS9.out _ h910.out).2.1, (hS9.out _ h910.out).2.2.1, (hS9.out _ h910.out).2.2.2.1, (hS9.out _ h910.out).2.2.2.2.1, (hS9.out _ h910.out).2.2.2.2.2.1, (hS9.out _ h910.out).2.2.2.2.2.2.1, (hS9.out _ h910.out).2.2.2.2.2.2.2.1, (hS9.out _ h910.out).2.2.2.2.2.2.2.2⟩ (fun hHeld => ?_)
    clear hK K
    refine norm_ (a' := ?_) ?_ ?_
    rotate_left
    · show Act.put _ (some 49) _ = _
      simp only [Act.put, List.setIfInBounds_toArray, List.set_cons_zero, List.set_cons_succ, i64_w, i32_w]
      rfl
    refine pure_ (i := 14) (N := some 50) (v := ?_) (a' := ?_) #[true, true, true, true, true, true, true, true, true, true, true, true, true, true, true, false, false, false, false, false, false, false, false, false, false, false, false, false, false, false, false, false, false, false, false, false, false, false, false, false, false, false, false, false] rfl rfl (by kernel_rfl) (fun _ _ _ h => h) (Or.inl ⟨by rfl, ?_⟩) ?_ ?_
    rotate_left
    · intro w'
      go_simp
      with_reducible rfl
    rotate_left
    · simp only [Act.put, List.setIfInBounds_toArray, List.set_cons_zero, List.set_cons_succ, i64_w, i32_w]
      rfl
    refine pure_ (i := 15) (N := some 51) (v := ?_) (a' := ?_) #[true, true, true, true, true, true, true, true, true, true, true, true, true, true, true, true, false, false, false, false, false, false, false, false, false, false, false, false, false, false, false, false, false, false, false, false, false, false, false, false, false, false, false, false] rfl rfl (by kernel_rfl) (fun _ _ _ h => h) (Or.inl ⟨by rfl, ?_⟩) ?_ ?_
    rotate_left
    · intro w'
      go_simp
      with_reducible rfl
    rotate_left
    · simp only [Act.put, List.setIfInBounds_toArray, List.set_cons_zero, List.set_cons_succ, i64_w, i32_w]
      rfl
    refine pure_ (i := 16) (N := some 52) (v := ?_) (a' := ?_) #[true, true, true, true, true, true, true, true, true, true, true, true, true, true, true, true, true, false, false, false, false, false, false, false, false, false, false, false, false, false, false, false, false, false, false, false, false, false, false, false, false, false, false, false] rfl rfl (by kernel_rfl) (fun _ _ _ h => h) (Or.inl ⟨by rfl, ?_⟩) ?_ ?_
    rotate_left
    · intro w'
      go_simp
      with_reducible rfl
    rotate_left
    · simp only [Act.put, List.setIfInBounds_toArray, List.set_cons_zero, List.set_cons_succ, i64_w, i32_w]
      rfl
    refine pure_ (i := 17) (N := some 53) (v := ?_) (a' := ?_) #[true, true, true, true, true, true, true, true, true, true, true, true, true, true, true, true, true, true, false, false, false, false, false, false, false, false, false, false, false, false, false, false, false, false, false, false, false, false, false, false, false, false, false, false] rfl rfl (by kernel_rfl) (fun _ _ _ h => h) (Or.inl ⟨by rfl, ?_⟩) ?_ ?_
    rotate_left
    · intro w'
      go_simp
      with_reducible rfl
    rotate_left
    · simp only [Act.put, List.setIfInBounds_toArray, List.set_cons_zero, List.set_cons_succ, i64_w, i32_w]
      rfl
    refine pure_ (i := 19) (N := some 55) (v := ?_) (a' := ?_) #[true, true, true, true, true, true, true, true, true, true, true, true, true, true, true, true, true, true, false, true, false, false, false, false, false, false, false, false, false, false, false, false, false, false, false, false, false, false, false, false, false, false, false, false] rfl rfl (by kernel_rfl) (fun _ _ _ h => h) (Or.inl ⟨by rfl, ?_⟩) ?_ ?_
    rotate_left
    · intro w'
      go_simp
      with_reducible rfl
    rotate_left
    · simp only [Act.put, List.setIfInBounds_toArray, List.set_cons_zero, List.set_cons_succ, i64_w, i32_w]
      rfl
    refine take_ (i := 18) (N := some 54) (v := ?_) (a' := ?_) #[true, true, true, true, true, true, true, true, true, true, true, true, true, true, true, true, true, true, true, true, false, false, false, false, false, false, false, false, false, false, false, false, false, false, false, false, false, false, false, false, false, false, false, false] rfl rfl (by kernel_rfl) (fun _ _ _ h => h) (Or.inl ⟨by rfl, ?_⟩) hHeld ?_ ?_
    rotate_left
    · rintro w' ⟨s0, s1, s2, s3, s4, s5, s6, s7, s8⟩
      go_simp
      with_reducible rfl
    rotate_left
    · simp only [Act.put, List.setIfInBounds_toArray, List.set_cons_zero, List.set_cons_succ, i64_w, i32_w]
      rfl
    refine take_ (i := 20) (N := some 56) (v := ?_) (a' := ?_) #[true, true, true, true, true, true, true, true, true, true, true, true, true, true, true, true, true, true, true, true, true, false, false, false, false, false, false, false, false, false, false, false, false, false, false, false, false, false, false, false, false, false, false, false] rfl rfl (by kernel_rfl) (fun _ _ _ h => h) (Or.inl ⟨by rfl, ?_⟩) hHeld ?_ ?_
    rotate_left
    · rintro w' ⟨s0, s1, s2, s3, s4, s5, s6, s7, s8⟩
      go_simp
      with_reducible rfl
    rotate_left
    · simp only [Act.put, List.setIfInBounds_toArray, List.set_cons_zero, List.set_cons_succ, i64_w, i32_w]
      rfl
    refine pure_ (i := 21) (N := some 57) (v := ?_) (a' := ?_) #[true, true, true, true, true, true, true, true, true, true, true, true, true, true, true, true, true, true, true, true, true, true, false, false, false, false, false, false, false, false, false, false, false, false, false, false, false, false, false, false, false, false, false, false] rfl rfl (by kernel_rfl) (fun _ _ _ h => h) (Or.inl ⟨by rfl, ?_⟩) ?_ ?_
    rotate_left
    · intro w'
      go_simp
      with_reducible rfl
    rotate_left
    · simp only [Act.put, List.setIfInBounds_toArray, List.set_cons_zero, List.set_cons_succ, i64_w, i32_w]
      rfl
    refine pure_ (i := 22) (N := some 58) (v := ?_) (a' := ?_) #[true, true, true, true, true, true, true, true, true, true, true, true, true, true, true, true, true, true, true, true, true, true, true, false, false, false, false, false, false, false, false, false, false, false, false, false, false, false, false, false, false, false, false, false] rfl rfl (by kernel_rfl) (fun _ _ _ h => h) (Or.inl ⟨by rfl, ?_⟩) ?_ ?_
    rotate_left
    · intro w'
      go_simp
      with_reducible rfl
    rotate_left
    · simp only [Act.put, List.setIfInBounds_toArray, List.set_cons_zero, List.set_cons_succ, i64_w, i32_w]
      rfl
    refine pure_ (i := 23) (N := some 59) (v := ?_) (a' := ?_) #[true, true, true, true, true, true, true, true, true, true, true, true, true, true, true, true, true, true, true, true, true, true, true, true, false, false, false, false, false, false, false, false, false, false, false, false, false, false, false, false, false, false, false, false] rfl rfl (by kernel_rfl) (fun _ _ _ h => h) (Or.inl ⟨by rfl, ?_⟩) ?_ ?_
    rotate_left
    · intro w'
      go_simp
      with_reducible rfl
    rotate_left
    · simp only [Act.put, List.setIfInBounds_toArray, List.set_cons_zero, List.set_cons_succ, i64_w, i32_w]
      rfl
    refine pure_ (i := 24) (N := some 60) (v := ?_) (a' := ?_) #[true, true, true, true, true, true, true, true, true, true, true, true, true, true, true, true, true, true, true, true, true, true, true, true, true, false, false, false, false, false, false, false, false, false, false, false, false, false, false, false, false, false, false, false] rfl rfl (by kernel_rfl) (fun _ _ _ h => h) (Or.inl ⟨by rfl, ?_⟩) ?_ ?_
    rotate_left
    · intro w'
      go_simp
      with_reducible rfl
    rotate_left
    · simp only [Act.put, List.setIfInBounds_toArray, List.set_cons_zero, List.set_cons_succ, i64_w, i32_w]
      rfl
    refine pure_ (i := 26) (N := some 62) (v := ?_) (a' := ?_) #[true, true, true, true, true, true, true, true, true, true, true, true, true, true, true, true, true, true, true, true, true, true, true, true, true, false, true, false, false, false, false, false, false, false, false, false, false, false, false, false, false, false, false, false] rfl rfl (by kernel_rfl) (fun _ _ _ h => h) (Or.inl ⟨by rfl, ?_⟩) ?_ ?_
    rotate_left
    · intro w'
      go_simp
      with_reducible rfl
    rotate_left
    · simp only [Act.put, List.setIfInBounds_toArray, List.set_cons_zero, List.set_cons_succ, i64_w, i32_w]
      rfl
    refine take_ (i := 25) (N := some 61) (v := ?_) (a' := ?_) #[true, true, true, true, true, true, true, true, true, true, true, true, true, true, true, true, true, true, true, true, true, true, true, true, true, true, true, false, false, false, false, false, false, false, false, false, false, false, false, false, false, false, false, false] rfl rfl (by kernel_rfl) (fun _ _ _ h => h) (Or.inl ⟨by rfl, ?_⟩) hHeld ?_ ?_
    rotate_left
    · rintro w' ⟨s0, s1, s2, s3, s4, s5, s6, s7, s8⟩
      go_simp
      with_reducible rfl
    rotate_left
    · simp only [Act.put, List.setIfInBounds_toArray, List.set_cons_zero, List.set_cons_succ, i64_w, i32_w]
      rfl
    refine take_ (i := 27) (N := some 63) (v := ?_) (a' := ?_) #[true, true, true, true, true, true, true, true, true, true, true, true, true, true, true, true, true, true, true, true, true, true, true, true, true, true, true, true, false, false, false, false, false, false, false, false, false, false, false, false, false, false, false, false] rfl rfl (by kernel_rfl) (fun _ _ _ h => h) (Or.inl ⟨by rfl, ?_⟩) hHeld ?_ ?_
    rotate_left
    · rintro w' ⟨s0, s1, s2, s3, s4, s5, s6, s7, s8⟩
      go_simp
      with_reducible rfl
    rotate_left
    · simp only [Act.put, List.setIfInBounds_toArray, List.set_cons_zero, List.set_cons_succ, i64_w, i32_w]
      rfl
    refine pure_ (i := 28) (N := some 64) (v := ?_) (a' := ?_) #[true, true, true, true, true, true, true, true, true, true, true, true, true, true, true, true, true, true, true, true, true, true, true, true, true, true, true, true, true, false, false, false, false, false, false, false, false, false, false, false, false, false, false, false] rfl rfl (by kernel_rfl) (fun _ _ _ h => h) (Or.inl ⟨by rfl, ?_⟩) ?_ ?_
    rotate_left
    · intro w'
      go_simp
      with_reducible rfl
    rotate_left
    · simp only [Act.put, List.setIfInBounds_toArray, List.set_cons_zero, List.set_cons_succ, i64_w, i32_w]
      rfl
    refine pure_ (i := 29) (N := some 65) (v := ?_) (a' := ?_) #[true, true, true, true, true, true, true, true, true, true, true, true, true, true, true, true, true, true, true, true, true, true, true, true, true, true, true, true, true, true, false, false, false, false, false, false, false, false, false, false, false, false, false, false] rfl rfl (by kernel_rfl) (fun _ _ _ h => h) (Or.inl ⟨by rfl, ?_⟩) ?_ ?_
    rotate_left
    · intro w'
      go_simp
      with_reducible rfl
    rotate_left
    · simp only [Act.put, List.setIfInBounds_toArray, List.set_cons_zero, List.set_cons_succ, i64_w, i32_w]
      rfl
    refine pure_ (i := 30) (N := some 66) (v := ?_) (a' := ?_) #[true, true, true, true, true, true, true, true, true, true, true, true, true, true, true, true, true, true, true, true, true, true, true, true, true, true, true, true, true, true, true, false, false, false, false, false, false, false, false, false, false, false, false, false] rfl rfl (by kernel_rfl) (fun _ _ _ h => h) (Or.inl ⟨by rfl, ?_⟩) ?_ ?_
    rotate_left
    · intro w'
      go_simp
      with_reducible rfl
    rotate_left
    · simp only [Act.put, List.setIfInBounds_toArray, List.set_cons_zero, List.set_cons_succ, i64_w, i32_w]
      rfl
    refine pure_ (i := 31) (N := some 67) (v := ?_) (a' := ?_) #[true, true, true, true, true, true, true, true, true, true, true, true, true, true, true, true, true, true, true, true, true, true, true, true, true, true, true, true, true, true, true, true, false, false, false, false, false, false, false, false, false, false, false, false] rfl rfl (by kernel_rfl) (fun _ _ _ h => h) (Or.inl ⟨by rfl, ?_⟩) ?_ ?_
    rotate_left
    · intro w'
      go_simp
      with_reducible rfl
    rotate_left
    · simp only [Act.put, List.setIfInBounds_toArray, List.set_cons_zero, List.set_cons_succ, i64_w, i32_w]
      rfl
    refine take_ (i := 32) (N := some 68) (v := ?_) (a' := ?_) #[true, true, true, true, true, true, true, true, true, true, true, true, true, true, true, true, true, true, true, true, true, true, true, true, true, true, true, true, true, true, true, true, true, false, false, false, false, false, false, false, false, false, false, false] rfl rfl (by kernel_rfl) (fun _ _ _ h => h) (Or.inl ⟨by rfl, ?_⟩) hHeld ?_ ?_
    rotate_left
    · rintro w' ⟨s0, s1, s2, s3, s4, s5, s6, s7, s8⟩
      go_simp
      with_reducible rfl
    rotate_left
    · simp only [Act.put, List.setIfInBounds_toArray, List.set_cons_zero, List.set_cons_succ, i64_w, i32_w]
      rfl
    refine pure_ (i := 33) (N := some 69) (v := ?_) (a' := ?_) #[true, true, true, true, true, true, true, true, true, true, true, true, true, true, true, true, true, true, true, true, true, true, true, true, true, true, true, true, true, true, true, true, true, true, false, false, false, false, false, false, false, false, false, false] rfl rfl (by kernel_rfl) (fun _ _ _ h => h) (Or.inl ⟨by rfl, ?_⟩) ?_ ?_
    rotate_left
    · intro w'
      go_simp
      with_reducible rfl
    rotate_left
    · simp only [Act.put, List.setIfInBounds_toArray, List.set_cons_zero, List.set_cons_succ, i64_w, i32_w]
      rfl
    refine pure_ (i := 34) (N := some 70) (v := ?_) (a' := ?_) #[true, true, true, true, true, true, true, true, true, true, true, true, true, true, true, true, true, true, true, true, true, true, true, true, true, true, true, true, true, true, true, true, true, true, true, false, false, false, false, false, false, false, false, false] rfl rfl (by kernel_rfl) (fun _ _ _ h => h) (Or.inl ⟨by rfl, ?_⟩) ?_ ?_
    rotate_left
    · intro w'
      go_simp
      with_reducible rfl
    rotate_left
    · simp only [Act.put, List.setIfInBounds_toArray, List.set_cons_zero, List.set_cons_succ, i64_w, i32_w]
      rfl
    refine pure_ (i := 35) (N := some 71) (v := ?_) (a' := ?_) #[true, true, true, true, true, true, true, true, true, true, true, true, true, true, true, true, true, true, true, true, true, true, true, true, true, true, true, true, true, true, true, true, true, true, true, true, false, false, false, false, false, false, false, false] rfl rfl (by kernel_rfl) (fun _ _ _ h => h) (Or.inl ⟨by rfl, ?_⟩) ?_ ?_
    rotate_left
    · intro w'
      go_simp
      with_reducible rfl
    rotate_left
    · simp only [Act.put, List.setIfInBounds_toArray, List.set_cons_zero, List.set_cons_succ, i64_w, i32_w]
      rfl
    refine pure_ (i := 36) (N := some 72) (v := ?_) (a' := ?_) #[true, true, true, true, true, true, true, true, true, true, true, true, true, true, true, true, true, true, true, true, true, true, true, true, true, true, true, true, true, true, true, true, true, true, true, true, true, false, false, false, false, false, false, false] rfl rfl (by kernel_rfl) (fun _ _ _ h => h) (Or.inl ⟨by rfl, ?_⟩) ?_ ?_
    rotate_left
    · intro w'
      go_simp
      with_reducible rfl
    rotate_left
    · simp only [Act.put, List.setIfInBounds_toArray, List.set_cons_zero, List.set_cons_succ, i64_w, i32_w]
      rfl
    refine pure_ (i := 39) (N := some 75) (v := ?_) (a' := ?_) #[true, true, true, true, true, true, true, true, true, true, true, true, true, true, true, true, true, true, true, true, true, true, true, true, true, true, true, true, true, true, true, true, true, true, true, true, true, false, false, true, false, false, false, false] rfl rfl (by kernel_rfl) (fun _ _ _ h => h) (Or.inl ⟨by rfl, ?_⟩) ?_ ?_
    rotate_left
    · intro w'
      go_simp
      with_reducible rfl
    rotate_left
    · simp only [Act.put, List.setIfInBounds_toArray, List.set_cons_zero, List.set_cons_succ, i64_w, i32_w]
      rfl
    refine take_ (i := 37) (N := some 73) (v := ?_) (a' := ?_) #[true, true, true, true, true, true, true, true, true, true, true, true, true, true, true, true, true, true, true, true, true, true, true, true, true, true, true, true, true, true, true, true, true, true, true, true, true, true, false, true, false, false, false, false] rfl rfl (by kernel_rfl) (fun _ _ _ h => h) (Or.inl ⟨by rfl, ?_⟩) hHeld ?_ ?_
    rotate_left
    · rintro w' ⟨s0, s1, s2, s3, s4, s5, s6, s7, s8⟩
      go_simp
      with_reducible rfl
    rotate_left
    · simp only [Act.put, List.setIfInBounds_toArray, List.set_cons_zero, List.set_cons_succ, i64_w, i32_w]
      rfl
    refine take_ (i := 38) (N := some 74) (v := ?_) (a' := ?_) #[true, true, true, true, true, true, true, true, true, true, true, true, true, true, true, true, true, true, true, true, true, true, true, true, true, true, true, true, true, true, true, true, true, true, true, true, true, true, true, true, false, false, false, false] rfl rfl (by kernel_rfl) (fun _ _ _ h => h) (Or.inl ⟨by rfl, ?_⟩) hHeld ?_ ?_
    rotate_left
    · rintro w' ⟨s0, s1, s2, s3, s4, s5, s6, s7, s8⟩
      go_simp
      with_reducible rfl
    rotate_left
    · simp only [Act.put, List.setIfInBounds_toArray, List.set_cons_zero, List.set_cons_succ, i64_w, i32_w]
      rfl
    refine take_ (i := 40) (N := some 76) (v := ?_) (a' := ?_) #[true, true, true, true, true, true, true, true, true, true, true, true, true, true, true, true, true, true, true, true, true, true, true, true, true, true, true, true, true, true, true, true, true, true, true, true, true, true, true, true, true, false, false, false] rfl rfl (by kernel_rfl) (fun _ _ _ h => h) (Or.inl ⟨by rfl, ?_⟩) hHeld ?_ ?_
    rotate_left
    · rintro w' ⟨s0, s1, s2, s3, s4, s5, s6, s7, s8⟩
      go_simp
      with_reducible rfl
    rotate_left
    · simp only [Act.put, List.setIfInBounds_toArray, List.set_cons_zero, List.set_cons_succ, i64_w, i32_w]
      rfl
    refine take_ (i := 41) (N := some 77) (v := ?_) (a' := ?_) #[true, true, true, true, true, true, true, true, true, true, true, true, true, true, true, true, true, true, true, true, true, true, true, true, true, true, true, true, true, true, true, true, true, true, true, true, true, true, true, true, true, true, false, false] rfl rfl (by kernel_rfl) (fun _ _ _ h => h) (Or.inl ⟨by rfl, ?_⟩) hHeld ?_ ?_
    rotate_left
    · rintro w' ⟨s0, s1, s2, s3, s4, s5, s6, s7, s8⟩
      go_simp
      with_reducible rfl
    rotate_left
    · simp only [Act.put, List.setIfInBounds_toArray, List.set_cons_zero, List.set_cons_succ, i64_w, i32_w]
      rfl
    refine pure_ (i := 42) (N := some 78) (v := ?_) (a' := ?_) #[true, true, true, true, true, true, true, true, true, true, true, true, true, true, true, true, true, true, true, true, true, true, true, true, true, true, true, true, true, true, true, true, true, true, true, true, true, true, true, true, true, true, true, false] rfl rfl (by kernel_rfl) (fun _ _ _ h => h) (Or.inl ⟨by rfl, ?_⟩) ?_ ?_
    rotate_left
    · intro w'
      go_simp
      with_reducible rfl
    rotate_left
    · simp only [Act.put, List.setIfInBounds_toArray, List.set_cons_zero, List.set_cons_succ, i64_w, i32_w]
      rfl
    refine pure_ (i := 43) (N := some 79) (v := ?_) (a' := ?_) #[true, true, true, true, true, true, true, true, true, true, true, true, true, true, true, true, true, true, true, true, true, true, true, true, true, true, true, true, true, true, true, true, true, true, true, true, true, true, true, true, true, true, true, true] rfl rfl (by kernel_rfl) (fun _ _ _ h => h) (Or.inl ⟨by rfl, ?_⟩) ?_ ?_
    rotate_left
    · intro w'
      go_simp
      with_reducible rfl
    rotate_left
    · simp only [Act.put, List.setIfInBounds_toArray, List.set_cons_zero, List.set_cons_succ, i64_w, i32_w]
      rfl
    refine done_ (by kernel_rfl) ?_
    have h110 := Aside0.mk (below_then hb19.out hb19.out.size h910.out)
    have hC10 := Aside0.mk (Kd.C_below (by have := hC1.out; rw [← hN'.out] at this; exact this : kU.C w1 A b.length b) h110.out)
    have t2 := (hSa.out _ h110.out).2.2
    have hX11 := box_new w10 (.int .u8 0) (.int .u8 0) (.bool false) (.slice none 0 0) (.slice none 0 0)
    have hb11 := below_alloc (Below.refl w10.heap.size w10) (.cells #[.int .u8 0, .int .u8 0, .bool false, .slice none 0 0, .slice none 0 0] 26)
    obtain ⟨w11, hw11⟩ : ∃ w11, w10.alloc (.cells #[.int .u8 0, .int .u8 0, .bool false, .slice none 0 0, .slice none 0 0] 26) = w11 := ⟨_, rfl⟩
    obtain ⟨X, hX⟩ : ∃ X, w10.heap.size = X := ⟨_, rfl⟩
    rw [hw11] at hX11 hb11
    rw [hX] at hX11
    obtain ⟨w12, hw12, hX12, hm12⟩ := put5 hX11 (.int .u8 0) (.int .u8 2) (.bool false) (.slice A N c) (.slice none 0 0)
    have hb12 : Below w10.heap.size w10 w12 := put5_mod hm12 hb11 (by omega)
    obtain ⟨g0, g1, g2, g3, g4⟩ := hX11.cells
    obtain ⟨f0, f1, f2, f3, f4⟩ := hX11.free
    obtain ⟨e0, e1, e2, e3, e4⟩ := hX12.cells
    have hC12 := Aside0.mk (Kd.C_below hC10.out hb12)
    have h112 := Aside0.mk (below_then h110.out h110.out.size hb12)
    have t3 := (hSa.out _ h112.out).2.2
    have hX12' := Aside0.mk hX12
    clear hcu hX11 hb11 hm12 hb12 hwc hS9 hC10 hX12 hB8 hU8 hv8 hv68 hbw hiw hwl hb5 hb18 hb19 h910 hdr hdr9 hcv t2
    cases cons with
    | true =>
      have t4 : w12.cell? ⟨T0, 2, none⟩ = some (.bool true) := t3
      have hG13 := Go.heap_alloc_new w12 (.cells #[.int .u8 0, .int .u8 2, .bool false, .slice A N c, .slice none 0 0] 26)
      have hb13 := below_alloc (Below.refl w12.heap.size w12) (.cells #[.int .u8 0, .int .u8 2, .bool false, .slice A N c, .slice none 0 0] 26)
      obtain ⟨w13, hw13⟩ : ∃ w13, w12.alloc (.cells #[.int .u8 0, .int .u8 2, .bool false, .slice A N c, .slice none 0 0] 26) = w13 := ⟨_, rfl⟩
      obtain ⟨G, hG⟩ : ∃ G, w12.heap.size = G := ⟨_, rfl⟩
      rw [hw13] at hG13 hb13
      rw [hG] at hG13
      have hX13 := hX12'.out.below hb13
      have hXG : X < G := by have := hX12'.out.lt; omega
      obtain ⟨w14, hw14, hX14, hm14⟩ := put5 hX13 (.int .u8 0) (.int .u8 2) (.bool true) (.slice none 0 0) (.slice (some ⟨G, 0, none⟩) 1 1)
      obtain ⟨a0, a1, a2, a3, a4⟩ := hX13.cells
      obtain ⟨b0, b1, b2, b3, b4⟩ := hX13.free
      obtain ⟨d0, d1, d2, d3, d4⟩ := hX14.cells
      have hb114 := Aside0.mk (show Below w1.heap.size w1 w14 from put5_mod hm14 (below_then h112.out h112.out.size hb13) (by have := h110.out.size; omega))
      have hCC := kT.C w14
      have hin : Bv w14 ⟨0, 2, false, b, []⟩ A c none 0 := ⟨by rw [hN'.out]; exact hc, Kd.C_foot_neS (S := fun q => q = X) (fun hk => hk) (Kd.C_below hC12.out hb13) (fun ad e hp hq => by
        obtain ⟨ad2, e2, h⟩ := u8_at hC1.out 0 hp
        rw [e] at e2; injection e2 with e2; subst e2
        have h3 := World.block_lt_of_cell? w1 _ h
        rw [add_block] at h3
        have := h110.out.size
        have hq' : ad.block = X := hq
        omega) w14 ⟨hm14.size, fun k hk hn => hm14.block k hk hn⟩, Nat.le_refl _, Kd.C_nil _ _⟩
      have hG14 : w14.heap[G]? = some (.cells #[.int .u8 0, .int .u8 2, .bool false, .slice A b.length c, .slice none 0 0] 26 (0, 0)) := by rw [hN'.out]; exact hm14.blk hG13 (by omega)
      have hvx : Bv w14 ⟨0, 2, true, [], [⟨0, 2, false, b, []⟩]⟩ none 0 (some ⟨G, 0, none⟩) 1 := ⟨Nat.le_refl _, Kd.C_nil _ _, Nat.le_refl _, one_C' (x := ⟨0, 2, false, b, []⟩) hG14 hin⟩
      have hio := Aside0.mk (show Calls Try.prog 24 #[.agg #[.int .u8 0, .int .u8 2, .bool true, .slice none 0 0, .slice (some ⟨G, 0, none⟩) 1 1]] w14 (IntEnds none w14) from intof_calls ⟨0, 2, true, [], [⟨0, 2, false, b, []⟩]⟩ none 0 (some ⟨G, 0, none⟩) 1 w14 hvx (by simp))
      have hto := Aside0.mk (fun W (hW : Below w14.heap.size w14 W) => (show Calls Try.prog 26 #[.agg #[.int .u8 0, .int .u8 2, .bool true, .slice none 0 0, .slice (some ⟨G, 0, none⟩) 1 1]] W (TruthEnds none W) from truthof_calls ⟨0, 2, true, [], [⟨0, 2, false, b, []⟩]⟩ none 0 (some ⟨G, 0, none⟩) 1 W (hvx.below hW)))
      replace hX14 := Aside0.mk hX14
      clear hG13 hb13 hX13 hm14 hCC hin hG14 hvx hC12 hC1 t3
      go_wp2_with fail
      refine hio.out.mono ?_
      rintro e w15 ⟨rfl, hb15⟩
      dsimp only
      obtain ⟨k0, k1, k2, k3, k4⟩ := (hX14.out.below hb15).cells
      have hto' := Aside0.mk (hto.out w15 hb15)
      have hb115 := Aside0.mk (below_then hb114.out hb114.out.size hb15)
      clear hio hto hb15 a0 a1 a2 a3 a4 b0 b1 b2 b3 b4 d0 d1 d2 d3 d4 e0 e1 e2 e3 e4 f0 f1 f2 f3 f4 g0 g1 g2 g3 g4
      go_wp2_with fail
      refine hto'.out.mono ?_
      rintro e w16 ⟨rfl, hb16⟩
      dsimp only
      have hb116 := Aside0.mk (below_then hb115.out hb115.out.size hb16)
      have t5 := (hSa.out _ hb116.out).2.2
      clear hto' hb16 hb115 t4 k0 k1 k2 k3 k4
      go_wp2_with fail
      refine (known_calls _).mono ?_
      rintro e w17 ⟨rfl, hb17⟩
      have hbf := Aside0.mk (below_then hb1'.out hb1'.out.size (below_then hb116.out hb116.out.size hb17))
      clear hb17
      go_wp2_with fail
      go_ret
      exact ⟨rfl, hbf.out⟩
    | false =>
      have hC1b : Aside0 (kU.C w1 A N b) := hC1
      have hvy : Aside0 (Bv w12 ⟨0, 2, false, b, []⟩ A c none 0) := ⟨⟨by rw [hN'.out]; exact hc, hC12.out, Nat.le_refl _, Kd.C_nil _ _⟩⟩
      have t4 : w12.cell? ⟨T0, 2, none⟩ = some (.bool false) := t3
      clear t3 hC1
      by_cases hN0 : N = 0
      · have hb0 : b = [] := List.length_eq_zero_iff.1 (hN'.out.trans hN0)
        have hif : Aside0 (intF ⟨0, 2, false, b, []⟩ = none) := ⟨by rw [hb0]; rfl⟩
        have htf : Aside0 (truthF ⟨0, 2, false, b, []⟩ = none) := ⟨by rw [hb0]; simp [truthF]⟩
        have hio := Aside0.mk (show Calls Try.prog 24 #[.agg #[.int .u8 0, .int .u8 2, .bool false, .slice A N c, .slice none 0 0]] w12 (IntEnds none w12) from by
          have h := intof_calls ⟨0, 2, false, b, []⟩ A c none 0 w12 hvy.out hb.out
          rw [hif.out, hN'.out] at h
          exact h)
        have hto := Aside0.mk (fun W (hW : Below w12.heap.size w12 W) => (show Calls Try.prog 26 #[.agg #[.int .u8 0, .int .u8 2, .bool false, .slice A N c, .slice none 0 0]] W (TruthEnds none W) from by
          have h := truthof_calls ⟨0, 2, false, b, []⟩ A c none 0 W (hvy.out.below hW)
          rw [htf.out, hN'.out] at h
          exact h))
        have j1 : decide ((1 : Int) ≤ (N : Int)) = false := by simp; omega
        have j2 : ((N : Int) == 1) = false := by simp; omega
        clear hb0 hN0 hvy
        go_wp2_with fail
        refine hio.out.mono ?_
        rintro e w13 ⟨rfl, hb13⟩
        dsimp only
        have h113 := Aside0.mk (below_then h112.out h112.out.size hb13)
        obtain ⟨k0, k1, k2, k3, k4⟩ := (hX12'.out.below hb13).cells
        have hto' := Aside0.mk (hto.out w13 hb13)
        clear hio hto hb13 e0 e1 e2 e3 e4 f0 f1 f2 f3 f4 g0 g1 g2 g3 g4
        go_wp2_with fail
        refine hto'.out.mono ?_
        rintro e w14 ⟨rfl, hb14⟩
        dsimp only
        have h114 := Aside0.mk (below_then h113.out h113.out.size hb14)
        have t5 := (hSa.out _ h114.out).2.2
        have hC14 := Aside0.mk (Kd.C_below hC1b.out h114.out)
        clear hto' hb14 h113 k0 k1 k2 k3 k4 hC12
        go_wp2_with fail
        refine start_ (n := 18) (S := fun w' => True) (ds := []) #[false, false, false, false, false, false, false, false, false, false, false, false, false, false, false, false, false, false] (by kernel_rfl) rfl rfl trivial (fun hHeld => ?_)
        refine pure_ (i := 0) (N := some 117) (v := ?_) (a' := ?_) #[true, false, false, false, false, false, false, false, false, false, false, false, false, false, false, false, false, false] rfl rfl (by kernel_rfl) (fun _ _ _ h => h) (Or.inl ⟨by rfl, ?_⟩) ?_ ?_
        rotate_left
        · intro w'
          go_simp
          with_reducible rfl
        rotate_left
        · simp only [Act.put, List.setIfInBounds_toArray, List.set_cons_zero, List.set_cons_succ, i64_w, i32_w]
          rfl
        refine pure_ (i := 1) (N := some 118) (v := ?_) (a' := ?_) #[true, true, false, false, false, false, false, false, false, false, false, false, false, false, false, false, false, false] rfl rfl (by kernel_rfl) (fun _ _ _ h => h) (Or.inl ⟨by rfl, ?_⟩) ?_ ?_
        rotate_left
        · intro w'
          go_simp
          with_reducible rfl
        rotate_left
        · simp only [Act.put, List.setIfInBounds_toArray, List.set_cons_zero, List.set_cons_succ, i64_w, i32_w]
          rfl
        refine pure_ (i := 2) (N := some 119) (v := ?_) (a' := ?_) #[true, true, true, false, false, false, false, false, false, false, false, false, false, false, false, false, false, false] rfl rfl (by kernel_rfl) (fun _ _ _ h => h) (Or.inl ⟨by rfl, ?_⟩) ?_ ?_
        rotate_left
        · intro w'
          go_simp
          with_reducible rfl
        rotate_left
        · simp only [Act.put, List.setIfInBounds_toArray, List.set_cons_zero, List.set_cons_succ, i64_w, i32_w]
          rfl
        refine pure_ (i := 3) (N := some 120) (v := ?_) (a' := ?_) #[true, true, true, true, false, false, false, false, false, false, false, false, false, false, false, false, false, false] rfl rfl (by kernel_rfl) (fun _ _ _ h => h) (Or.inl ⟨by rfl, ?_⟩) ?_ ?_
        rotate_left
        · intro w'
          go_simp
          with_reducible rfl
        rotate_left
        · simp only [Act.put, List.setIfInBounds_toArray, List.set_cons_zero, List.set_cons_succ, i64_w, i32_w]
          rfl
        refine pure_ (i := 4) (N := some 121) (v := undef) (a' := ?_) #[true, true, true, true, true, false, false, false, false, false, false, false, false, false, false, false, false, false] rfl rfl (by kernel_rfl) (fun _ _ _ h => h) (Or.inr ⟨by rfl, rfl⟩) ?_ ?_
        rotate_left
        · simp only [Act.put, List.setIfInBounds_toArray, List.set_cons_zero, List.set_cons_succ, i64_w, i32_w]
          rfl
        refine pure_ (i := 5) (N := some 122) (v := undef) (a' := ?_) #[true, true, true, true, true, true, false, false, false, false, false, false, false, false, false, false, false, false] rfl rfl (by kernel_rfl) (fun _ _ _ h => h) (Or.inr ⟨by rfl, rfl⟩) ?_ ?_
        rotate_left
        · simp only [Act.put, List.setIfInBounds_toArray, List.set_cons_zero, List.set_cons_succ, i64_w, i32_w]
          rfl
        refine pure_ (i := 6) (N := some 123) (v := undef) (a' := ?_) #[true, true, true, true, true, true, true, false, false, false, false, false, false, false, false, false, false, false] rfl rfl (by kernel_rfl) (fun _ _ _ h => h) (Or.inr ⟨by rfl, rfl⟩) ?_ ?_
        rotate_left
        · simp only [Act.put, List.setIfInBounds_toArray, List.set_cons_zero, List.set_cons_succ, i64_w, i32_w]
          rfl
        refine pure_ (i := 7) (N := some 124) (v := ?_) (a' := ?_) #[true, true, true, true, true, true, true, true, false, false, false, false, false, false, false, false, false, false] rfl rfl (by kernel_rfl) (fun _ _ _ h => h) (Or.inl ⟨by rfl, ?_⟩) ?_ ?_
        rotate_left
        · intro w'
          go_simp
          with_reducible rfl
        rotate_left
        · simp only [Act.put, List.setIfInBounds_toArray, List.set_cons_zero, List.set_cons_succ, i64_w, i32_w]
          rfl
        refine pure_ (i := 8) (N := some 125) (v := ?_) (a' := ?_) #[true, true, true, true, true, true, true, true, true, false, false, false, false, false, false, false, false, false] rfl rfl (by kernel_rfl) (fun _ _ _ h => h) (Or.inl ⟨by rfl, ?_⟩) ?_ ?_
        rotate_left
        · intro w'
          go_simp
          with_reducible rfl
        rotate_left
        · simp only [Act.put, List.setIfInBounds_toArray, List.set_cons_zero, List.set_cons_succ, i64_w, i32_w]
          rfl
        refine pure_ (i := 9) (N := some 126) (v := undef) (a' := ?_) #[true, true, true, true, true, true, true, true, true, true, false, false, false, false, false, false, false, false] rfl rfl (by kernel_rfl) (fun _ _ _ h => h) (Or.inr ⟨by rfl, rfl⟩) ?_ ?_
        rotate_left
        · simp only [Act.put, List.setIfInBounds_toArray, List.set_cons_zero, List.set_cons_succ, i64_w, i32_w]
          rfl
        refine pure_ (i := 10) (N := some 127) (v := undef) (a' := ?_) #[true, true, true, true, true, true, true, true, true, true, true, false, false, false, false, false, false, false] rfl rfl (by kernel_rfl) (fun _ _ _ h => h) (Or.inr ⟨by rfl, rfl⟩) ?_ ?_
        rotate_left
        · simp only [Act.put, List.setIfInBounds_toArray, List.set_cons_zero, List.set_cons_succ, i64_w, i32_w]
          rfl
        refine pure_ (i := 11) (N := some 128) (v := undef) (a' := ?_) #[true, true, true, true, true, true, true, true, true, true, true, true, false, false, false, false, false, false] rfl rfl (by kernel_rfl) (fun _ _ _ h => h) (Or.inr ⟨by rfl, rfl⟩) ?_ ?_
        rotate_left
        · simp only [Act.put, List.setIfInBounds_toArray, List.set_cons_zero, List.set_cons_succ, i64_w, i32_w]
          rfl
        refine pure_ (i := 12) (N := some 129) (v := undef) (a' := ?_) #[true, true, true, true, true, true, true, true, true, true, true, true, true, false, false, false, false, false] rfl rfl (by kernel_rfl) (fun _ _ _ h => h) (Or.inr ⟨by rfl, rfl⟩) ?_ ?_
        rotate_left
        · simp only [Act.put, List.setIfInBounds_toArray, List.set_cons_zero, List.set_cons_succ, i64_w, i32_w]
          rfl
        refine pure_ (i := 13) (N := some 130) (v := undef) (a' := ?_) #[true, true, true, true, true, true, true, true, true, true, true, true, true, true, false, false, false, false] rfl rfl (by kernel_rfl) (fun _ _ _ h => h) (Or.inr ⟨by rfl, rfl⟩) ?_ ?_
        rotate_left
        · simp only [Act.put, List.setIfInBounds_toArray, List.set_cons_zero, List.set_cons_succ, i64_w, i32_w]
          rfl
        refine pure_ (i := 14) (N := some 131) (v := undef) (a' := ?_) #[true, true, true, true, true, true, true, true, true, true, true, true, true, true, true, false, false, false] rfl rfl (by kernel_rfl) (fun _ _ _ h => h) (Or.inr ⟨by rfl, rfl⟩) ?_ ?_
        rotate_left
        · simp only [Act.put, List.setIfInBounds_toArray, List.set_cons_zero, List.set_cons_succ, i64_w, i32_w]
          rfl
        refine pure_ (i := 15) (N := some 132) (v := undef) (a' := ?_) #[true, true, true, true, true, true, true, true, true, true, true, true, true, true, true, true, false, false] rfl rfl (by kernel_rfl) (fun _ _ _ h => h) (Or.inr ⟨by rfl, rfl⟩) ?_ ?_
        rotate_left
        · simp only [Act.put, List.setIfInBounds_toArray, List.set_cons_zero, List.set_cons_succ, i64_w, i32_w]
          rfl
        refine pure_ (i := 16) (N := some 133) (v := ?_) (a' := ?_) #[true, true, true, true, true, true, true, true, true, true, true, true, true, true, true, true, true, false] rfl rfl (by kernel_rfl) (fun _ _ _ h => h) (Or.inl ⟨by rfl, ?_⟩) ?_ ?_
        rotate_left
        · intro w'
          go_simp
          with_reducible rfl
        rotate_left
        · simp only [Act.put, List.setIfInBounds_toArray, List.set_cons_zero, List.set_cons_succ, i64_w, i32_w]
          rfl
        refine pure_ (i := 17) (N := some 16) (v := ?_) (a' := ?_) #[true, true, true, true, true, true, true, true, true, true, true, true, true, true, true, true, true, true] rfl rfl (by kernel_rfl) (fun _ _ _ h => h) (Or.inl ⟨by rfl, ?_⟩) ?_ ?_
        rotate_left
        · intro w'
          go_simp
          with_reducible rfl
        rotate_left
        · simp only [Act.put, List.setIfInBounds_toArray, List.set_cons_zero, List.set_cons_succ, i64_w, i32_w]
          rfl
        refine done_ (by kernel_rfl) ?_
        have h114d := Aside0.mk h114.out.drew
        go_wp2_with fail
        refine (known_calls _).mono ?_
        rintro e w17 ⟨rfl, hb17⟩
        have hbf := Aside0.mk (below_then hb1'.out hb1'.out.size (below_then h114d.out h114d.out.size hb17))
        clear hb17
        go_wp2_with fail
        go_ret
        exact ⟨rfl, hbf.out⟩
      · by_cases hN8 : 8 < N
        · have hif : Aside0 (intF ⟨0, 2, false, b, []⟩ = none) := ⟨by unfold intF; rw [if_neg (by rintro ⟨_, _, h, _⟩; have h' : b.length ≤ 8 := h; have := hN'.out; omega)]⟩
          have htf : Aside0 (truthF ⟨0, 2, false, b, []⟩ = none) := ⟨by unfold truthF; rw [if_neg (by rintro ⟨_, h⟩; have h' : b = [0] := h; have := hN'.out; rw [h'] at this; simp at this; omega), if_neg (by rintro ⟨_, h⟩; have h' : b = [255] := h; have := hN'.out; rw [h'] at this; simp at this; omega)]⟩
          have hio := Aside0.mk (show Calls Try.prog 24 #[.agg #[.int .u8 0, .int .u8 2, .bool false, .slice A N c, .slice none 0 0]] w12 (IntEnds none w12) from by
            have h := intof_calls ⟨0, 2, false, b, []⟩ A c none 0 w12 hvy.out hb.out
            rw [hif.out, hN'.out] at h
            exact h)
          have hto := Aside0.mk (fun W (hW : Below w12.heap.size w12 W) => (show Calls Try.prog 26 #[.agg #[.int .u8 0, .int .u8 2, .bool false, .slice A N c, .slice none 0 0]] W (TruthEnds none W) from by
            have h := truthof_calls ⟨0, 2, false, b, []⟩ A c none 0 W (hvy.out.below hW)
            rw [htf.out, hN'.out] at h
            exact h))
          have j1 : decide ((1 : Int) ≤ (N : Int)) = true := by simp; omega
          have j3 : decide ((N : Int) ≤ 8) = false := by simp; omega
          have j2 : ((N : Int) == 1) = false := by simp; omega
          clear hN0 hN8 hvy
          go_wp2_with fail
          refine hio.out.mono ?_
          rintro e w13 ⟨rfl, hb13⟩
          dsimp only
          have h113 := Aside0.mk (below_then h112.out h112.out.size hb13)
          obtain ⟨k0, k1, k2, k3, k4⟩ := (hX12'.out.below hb13).cells
          have hto' := Aside0.mk (hto.out w13 hb13)
          clear hio hto hb13 e0 e1 e2 e3 e4 f0 f1 f2 f3 f4 g0 g1 g2 g3 g4
          go_wp2_with fail
          refine hto'.out.mono ?_
          rintro e w14 ⟨rfl, hb14⟩
          dsimp only
          have h114 := Aside0.mk (below_then h113.out h113.out.size hb14)
          have t5 := (hSa.out _ h114.out).2.2
          have hC14 := Aside0.mk (Kd.C_below hC1b.out h114.out)
          clear hto' hb14 h113 k0 k1 k2 k3 k4 hC12
          go_wp2_with fail
          refine start_ (n := 18) (S := fun w' => True) (ds := []) #[false, false, false, false, false, false, false, false, false, false, false, false, false, false, false, false, false, false] (by kernel_rfl) rfl rfl trivial (fun hHeld => ?_)
          refine pure_ (i := 0) (N := some 117) (v := ?_) (a' := ?_) #[true, false, false, false, false, false, false, false, false, false, false, false, false, false, false, false, false, false] rfl rfl (by kernel_rfl) (fun _ _ _ h => h) (Or.inl ⟨by rfl, ?_⟩) ?_ ?_
          rotate_left
          · intro w'
            go_simp
            with_reducible rfl
          rotate_left
          · simp only [Act.put, List.setIfInBounds_toArray, List.set_cons_zero, List.set_cons_succ, i64_w, i32_w]
            rfl
          refine pure_ (i := 1) (N := some 118) (v := ?_) (a' := ?_) #[true, true, false, false, false, false, false, false, false, false, false, false, false, false, false, false, false, false] rfl rfl (by kernel_rfl) (fun _ _ _ h => h) (Or.inl ⟨by rfl, ?_⟩) ?_ ?_
          rotate_left
          · intro w'
            go_simp
            with_reducible rfl
          rotate_left
          · simp only [Act.put, List.setIfInBounds_toArray, List.set_cons_zero, List.set_cons_succ, i64_w, i32_w]
            rfl
          refine pure_ (i := 2) (N := some 119) (v := ?_) (a' := ?_) #[true, true, true, false, false, false, false, false, false, false, false, false, false, false, false, false, false, false] rfl rfl (by kernel_rfl) (fun _ _ _ h => h) (Or.inl ⟨by rfl, ?_⟩) ?_ ?_
          rotate_left
          · intro w'
            go_simp
            with_reducible rfl
          rotate_left
          · simp only [Act.put, List.setIfInBounds_toArray, List.set_cons_zero, List.set_cons_succ, i64_w, i32_w]
            rfl
          refine pure_ (i := 3) (N := some 120) (v := ?_) (a' := ?_) #[true, true, true, true, false, false, false, false, false, false, false, false, false, false, false, false, false, false] rfl rfl (by kernel_rfl) (fun _ _ _ h => h) (Or.inl ⟨by rfl, ?_⟩) ?_ ?_
          rotate_left
          · intro w'
            go_simp
            with_reducible rfl
          rotate_left
          · simp only [Act.put, List.setIfInBounds_toArray, List.set_cons_zero, List.set_cons_succ, i64_w, i32_w]
            rfl
          refine pure_ (i := 4) (N := some 121) (v := ?_) (a' := ?_) #[true, true, true, true, true, false, false, false, false, false, false, false, false, false, false, false, false, false] rfl rfl (by kernel_rfl) (fun _ _ _ h => h) (Or.inl ⟨by rfl, ?_⟩) ?_ ?_
          rotate_left
          · intro w'
            go_simp
            with_reducible rfl
          rotate_left
          · simp only [Act.put, List.setIfInBounds_toArray, List.set_cons_zero, List.set_cons_succ, i64_w, i32_w]
            rfl
          refine pure_ (i := 5) (N := some 122) (v := ?_) (a' := ?_) #[true, true, true, true, true, true, false, false, false, false, false, false, false, false, false, false, false, false] rfl rfl (by kernel_rfl) (fun _ _ _ h => h) (Or.inl ⟨by rfl, ?_⟩) ?_ ?_
          rotate_left
          · intro w'
            go_simp
            with_reducible rfl
          rotate_left
          · simp only [Act.put, List.setIfInBounds_toArray, List.set_cons_zero, List.set_cons_succ, i64_w, i32_w]
            rfl
          refine pure_ (i := 6) (N := some 123) (v := ?_) (a' := ?_) #[true, true, true, true, true, true, true, false, false, false, false, false, false, false, false, false, false, false] rfl rfl (by kernel_rfl) (fun _ _ _ h => h) (Or.inl ⟨by rfl, ?_⟩) ?_ ?_
          rotate_left
          · intro w'
            go_simp
            with_reducible rfl
          rotate_left
          · simp only [Act.put, List.setIfInBounds_toArray, List.set_cons_zero, List.set_cons_succ, i64_w, i32_w]
            rfl
          refine pure_ (i := 7) (N := some 124) (v := ?_) (a' := ?_) #[true, true, true, true, true, true, true, true, false, false, false, false, false, false, false, false, false, false] rfl rfl (by kernel_rfl) (fun _ _ _ h => h) (Or.inl ⟨by rfl, ?_⟩) ?_ ?_
          rotate_left
          · intro w'
            go_simp
            with_reducible rfl
          rotate_left
          · simp only [Act.put, List.setIfInBounds_toArray, List.set_cons_zero, List.set_cons_succ, i64_w, i32_w]
            rfl
          refine pure_ (i := 8) (N := some 125) (v := ?_) (a' := ?_) #[true, true, true, true, true, true, true, true, true, false, false, false, false, false, false, false, false, false] rfl rfl (by kernel_rfl) (fun _ _ _ h => h) (Or.inl ⟨by rfl, ?_⟩) ?_ ?_
          rotate_left
          · intro w'
            go_simp
            with_reducible rfl
          rotate_left
          · simp only [Act.put, List.setIfInBounds_toArray, List.set_cons_zero, List.set_cons_succ, i64_w, i32_w]
            rfl
          refine pure_ (i := 9) (N := some 126) (v := undef) (a' := ?_) #[true, true, true, true, true, true, true, true, true, true, false, false, false, false, false, false, false, false] rfl rfl (by kernel_rfl) (fun _ _ _ h => h) (Or.inr ⟨by rfl, rfl⟩) ?_ ?_
          rotate_left
          · simp only [Act.put, List.setIfInBounds_toArray, List.set_cons_zero, List.set_cons_succ, i64_w, i32_w]
            rfl
          refine pure_ (i := 10) (N := some 127) (v := undef) (a' := ?_) #[true, true, true, true, true, true, true, true, true, true, true, false, false, false, false, false, false, false] rfl rfl (by kernel_rfl) (fun _ _ _ h => h) (Or.inr ⟨by rfl, rfl⟩) ?_ ?_
          rotate_left
          · simp only [Act.put, List.setIfInBounds_toArray, List.set_cons_zero, List.set_cons_succ, i64_w, i32_w]
            rfl
          refine pure_ (i := 11) (N := some 128) (v := undef) (a' := ?_) #[true, true, true, true, true, true, true, true, true, true, true, true, false, false, false, false, false, false] rfl rfl (by kernel_rfl) (fun _ _ _ h => h) (Or.inr ⟨by rfl, rfl⟩) ?_ ?_
          rotate_left
          · simp only [Act.put, List.setIfInBounds_toArray, List.set_cons_zero, List.set_cons_succ, i64_w, i32_w]
            rfl
          refine pure_ (i := 12) (N := some 129) (v := undef) (a' := ?_) #[true, true, true, true, true, true, true, true, true, true, true, true, true, false, false, false, false, false] rfl rfl (by kernel_rfl) (fun _ _ _ h => h) (Or.inr ⟨by rfl, rfl⟩) ?_ ?_
          rotate_left
          · simp only [Act.put, List.setIfInBounds_toArray, List.set_cons_zero, List.set_cons_succ, i64_w, i32_w]
            rfl
          refine pure_ (i := 13) (N := some 130) (v := undef) (a' := ?_) #[true, true, true, true, true, true, true, true, true, true, true, true, true, true, false, false, false, false] rfl rfl (by kernel_rfl) (fun _ _ _ h => h) (Or.inr ⟨by rfl, rfl⟩) ?_ ?_
          rotate_left
          · simp only [Act.put, List.setIfInBounds_toArray, List.set_cons_zero, List.set_cons_succ, i64_w, i32_w]
            rfl
          refine pure_ (i := 14) (N := some 131) (v := undef) (a' := ?_) #[true, true, true, true, true, true, true, true, true, true, true, true, true, true, true, false, false, false] rfl rfl (by kernel_rfl) (fun _ _ _ h => h) (Or.inr ⟨by rfl, rfl⟩) ?_ ?_
          rotate_left
          · simp only [Act.put, List.setIfInBounds_toArray, List.set_cons_zero, List.set_cons_succ, i64_w, i32_w]
            rfl
          refine pure_ (i := 15) (N := some 132) (v := undef) (a' := ?_) #[true, true, true, true, true, true, true, true, true, true, true, true, true, true, true, true, false, false] rfl rfl (by kernel_rfl) (fun _ _ _ h => h) (Or.inr ⟨by rfl, rfl⟩) ?_ ?_
          rotate_left
          · simp only [Act.put, List.setIfInBounds_toArray, List.set_cons_zero, List.set_cons_succ, i64_w, i32_w]
            rfl
          refine pure_ (i := 16) (N := some 133) (v := ?_) (a' := ?_) #[true, true, true, true, true, true, true, true, true, true, true, true, true, true, true, true, true, false] rfl rfl (by kernel_rfl) (fun _ _ _ h => h) (Or.inl ⟨by rfl, ?_⟩) ?_ ?_
          rotate_left
          · intro w'
            go_simp
            with_reducible rfl
          rotate_left
          · simp only [Act.put, List.setIfInBounds_toArray, List.set_cons_zero, List.set_cons_succ, i64_w, i32_w]
            rfl
          refine pure_ (i := 17) (N := some 16) (v := ?_) (a' := ?_) #[true, true, true, true, true, true, true, true, true, true, true, true, true, true, true, true, true, true] rfl rfl (by kernel_rfl) (fun _ _ _ h => h) (Or.inl ⟨by rfl, ?_⟩) ?_ ?_
          rotate_left
          · intro w'
            go_simp
            with_reducible rfl
          rotate_left
          · simp only [Act.put, List.setIfInBounds_toArray, List.set_cons_zero, List.set_cons_succ, i64_w, i32_w]
            rfl
          refine done_ (by kernel_rfl) ?_
          have h114d := Aside0.mk h114.out.drew
          go_wp2_with fail
          refine (known_calls _).mono ?_
          rintro e w17 ⟨rfl, hb17⟩
          have hbf := Aside0.mk (below_then hb1'.out hb1'.out.size (below_then h114d.out h114d.out.size hb17))
          clear hb17
          go_wp2_with fail
          go_ret
          exact ⟨rfl, hbf.out⟩
        · have h1N : 1 ≤ b.length := by have := hN'.out; omega
          have h8N : b.length ≤ 8 := by have := hN'.out; omega
          have hnum := Aside0.mk (ref_number b hb.out h8N)
          have hwh := Aside0.mk (ref_whole (num_in b hb.out h1N h8N))
          have j1 : decide ((1 : Int) ≤ (N : Int)) = true := by simp; omega
          have j3 : decide ((N : Int) ≤ 8) = true := by simp; omega
          have hbw := Aside0.mk (wholeL_bytes (numN b))
          have hi4 : Aside0 (intF ⟨0, 2, false, b, []⟩ = if wholeL (numN b) = b then some (numN b) else none) := ⟨by unfold intF; by_cases c1 : wholeL (numN b) = b <;> simp [c1, h1N, h8N]⟩
          obtain ⟨kb, hkb⟩ : ∃ kb, numN b = kb := ⟨_, rfl⟩
          rw [hkb] at hnum hwh hbw hi4
          obtain ⟨wl, hwl⟩ : ∃ wl, wholeL kb = wl := ⟨_, rfl⟩
          rw [hwl] at hwh hbw hi4
          obtain ⟨sw, hsw⟩ : ∃ sw, strOfNums wl = sw := ⟨_, rfl⟩
          replace hsw := Aside0.mk hsw
          replace hkb := Aside0.mk hkb
          replace hwl := Aside0.mk hwl
          clear h1N h8N
          by_cases hfit : wl = b
          · have hif : Aside0 (intF ⟨0, 2, false, b, []⟩ = some kb) := ⟨by rw [hi4.out, if_pos hfit]⟩
            replace hfit := Aside0.mk hfit
            by_cases hN1 : N = 1
            · obtain ⟨ad, e, q0⟩ := u8_at hC1b.out 0 (by have := hN'.out; omega)
              subst e
              have q1 : w1.cell? ad = some (.int .u8 (b[0]'(by have := hN'.out; omega))) := by rw [show ad = ad.add 0 from by simp [Addr.add]]; exact q0
              have hby : b = [b[0]'(by have := hN'.out; omega)] := one_list b (hN'.out.trans hN1)
              obtain ⟨y, hy⟩ : ∃ y, b[0]'(by have := hN'.out; omega) = y := ⟨_, rfl⟩
              rw [hy] at q1 hby
              replace hby := Aside0.mk hby
              clear q0 hy
              have j2 : ((N : Int) == 1) = true := by simp; omega
              have j4 : (0 : Int) < (N : Int) := by omega
              clear hN0 hN8 hN1
              by_cases y0 : y = 0
              · subst y0
                have htf : Aside0 (truthF ⟨0, 2, false, b, []⟩ = some false) := ⟨by rw [hby.out]; rfl⟩
                have hio := Aside0.mk (show Calls Try.prog 24 #[.agg #[.int .u8 0, .int .u8 2, .bool false, .slice (some ad) N c, .slice none 0 0]] w12 (IntEnds (some kb) w12) from by
                  have h := intof_calls ⟨0, 2, false, b, []⟩ (some ad) c none 0 w12 hvy.out hb.out
                  rw [hif.out, hN'.out] at h
                  exact h)
                have hto := Aside0.mk (fun W (hW : Below w12.heap.size w12 W) => (show Calls Try.prog 26 #[.agg #[.int .u8 0, .int .u8 2, .bool false, .slice (some ad) N c, .slice none 0 0]] W (TruthEnds (some false) W) from by
                  have h := truthof_calls ⟨0, 2, false, b, []⟩ (some ad) c none 0 W (hvy.out.below hW)
                  rw [htf.out, hN'.out] at h
                  exact h))
                go_wp2_with fail
                refine hio.out.mono ?_
                rintro e w13 ⟨rfl, hb13⟩
                dsimp only
                have h113 := Aside0.mk (below_then h112.out h112.out.size hb13)
                obtain ⟨k0, k1, k2, k3, k4⟩ := (hX12'.out.below hb13).cells
                have hto' := Aside0.mk (hto.out w13 hb13)
                clear hio hto hb13 e0 e1 e2 e3 e4 f0 f1 f2 f3 f4 g0 g1 g2 g3 g4
                go_wp2_with fail
                refine hto'.out.mono ?_
                rintro e w14 ⟨rfl, hb14⟩
                dsimp only
                have h114 := Aside0.mk (below_then h113.out h113.out.size hb14)
                have t5 := (hSa.out _ h114.out).2.2
                have hC14 := Aside0.mk (Kd.C_below hC1b.out h114.out)
                clear hto' hb14 h113 k0 k1 k2 k3 k4 hC12
                go_wp2_with fail
                obtain ⟨sb, hsb⟩ : ∃ sb, strOfNums b = sb := ⟨_, rfl⟩
                have hcvb := fun W (h : kU.C W (some ad) N b) => Kd.C_string (P := Try.prog) (dst := 9) (c := c) Try.underlying23 Try.underlying5 Try.underlying9 h
                rw [hsb] at hcvb
                have hdr14 := Aside0.mk (below_drew (Below.refl w14.heap.size w14))
                have hSb := Aside0.mk (show ∀ W, Below w14.heap.size w14 W → (convert 23 9 (.slice (some ad) N c)).run Try.prog W = .ok (.string sb) W from fun W hW => hcvb W (Kd.C_below hC14.out hW))
                obtain ⟨Kn, hKn⟩ := hnum.out
                obtain ⟨Kw, hKw⟩ := hwh.out
                have hnc := Aside0.mk (fun W (hW : Below w14.heap.size w14 W) => (show Calls Try.prog 27 #[.slice (some ad) N c] W (fun e w' => e = .returned (.int .i64 kb) ∧ Drawn0 W w') from by
                  have h := PBerNumbers.cardcaselaw05_number.calls Kn (some ad) c b kb W (by rw [hN'.out]; exact Kd.C_below hC14.out hW) (by rw [hN'.out]; exact hc) hKn
                  rw [hN'.out] at h
                  exact h))
                have hwc := Aside0.mk (fun W => PBerNumbers.cardcaseref05_Whole.calls Kw kb wl W hKw)
                obtain ⟨ml, hml⟩ : ∃ ml, wl.length = ml := ⟨_, rfl⟩
                have hcvw : Aside0 (∀ A' c W, kU.C W A' wl.length wl → (convert 23 9 (.slice A' ml c)).run Try.prog W = .ok (.string sw) W) := ⟨fun A' c W h => by
                  have := Kd.C_string (P := Try.prog) (dst := 9) (c := c) Try.underlying23 Try.underlying5 Try.underlying9 h
                  rwa [hml, hsw.out] at this⟩
                replace hml := Aside0.mk hml
                have hss : (sw.toList == sb.toList) = true := by rw [← hsw.out, ← hsb, hfit.out]; simp
                clear hKn hKw hcvb
                replace hsb := Aside0.mk hsb
                refine start_ (n := 18) (S := fun w' => (convert 23 9 (.slice (some ad) N c)).run Try.prog w' = .ok (.string sb) w') (ds := []) #[false, false, false, false, false, false, false, false, false, false, false, false, false, false, false, false, false, false] (by kernel_rfl) rfl rfl (hSb.out _ hdr14.out) (fun hHeld => ?_)
                refine pure_ (i := 0) (N := some 117) (v := ?_) (a' := ?_) #[true, false, false, false, false, false, false, false, false, false, false, false, false, false, false, false, false, false] rfl rfl (by kernel_rfl) (fun _ _ _ h => h) (Or.inl ⟨by rfl, ?_⟩) ?_ ?_
                rotate_left
                · intro w'
                  go_simp
                  with_reducible rfl
                rotate_left
                · simp only [Act.put, List.setIfInBounds_toArray, List.set_cons_zero, List.set_cons_succ, i64_w, i32_w]
                  rfl
                refine pure_ (i := 1) (N := some 118) (v := ?_) (a' := ?_) #[true, true, false, false, false, false, false, false, false, false, false, false, false, false, false, false, false, false] rfl rfl (by kernel_rfl) (fun _ _ _ h => h) (Or.inl ⟨by rfl, ?_⟩) ?_ ?_
                rotate_left
                · intro w'
                  go_simp
                  with_reducible rfl
                rotate_left
                · simp only [Act.put, List.setIfInBounds_toArray, List.set_cons_zero, List.set_cons_succ, i64_w, i32_w]
                  rfl
                refine pure_ (i := 2) (N := some 119) (v := ?_) (a' := ?_) #[true, true, true, false, false, false, false, false, false, false, false, false, false, false, false, false, false, false] rfl rfl (by kernel_rfl) (fun _ _ _ h => h) (Or.inl ⟨by rfl, ?_⟩) ?_ ?_
                rotate_left
                · intro w'
                  go_simp
                  with_reducible rfl
                rotate_left
                · simp only [Act.put, List.setIfInBounds_toArray, List.set_cons_zero, List.set_cons_succ, i64_w, i32_w]
                  rfl
                refine pure_ (i := 3) (N := some 120) (v := ?_) (a' := ?_) #[true, true, true, true, false, false, false, false, false, false, false, false, false, false, false, false, false, false] rfl rfl (by kernel_rfl) (fun _ _ _ h => h) (Or.inl ⟨by rfl, ?_⟩) ?_ ?_
                rotate_left
                · intro w'
                  go_simp
                  with_reducible rfl
                rotate_left
                · simp only [Act.put, List.setIfInBounds_toArray, List.set_cons_zero, List.set_cons_succ, i64_w, i32_w]
                  rfl
                refine pure_ (i := 4) (N := some 121) (v := ?_) (a' := ?_) #[true, true, true, true, true, false, false, false, false, false, false, false, false, false, false, false, false, false] rfl rfl (by kernel_rfl) (fun _ _ _ h => h) (Or.inl ⟨by rfl, ?_⟩) ?_ ?_
                rotate_left
                · intro w'
                  go_simp
                  with_reducible rfl
                rotate_left
                · simp only [Act.put, List.setIfInBounds_toArray, List.set_cons_zero, List.set_cons_succ, i64_w, i32_w]
                  rfl
                refine pure_ (i := 5) (N := some 122) (v := ?_) (a' := ?_) #[true, true, true, true, true, true, false, false, false, false, false, false, false, false, false, false, false, false] rfl rfl (by kernel_rfl) (fun _ _ _ h => h) (Or.inl ⟨by rfl, ?_⟩) ?_ ?_
                rotate_left
                · intro w'
                  go_simp
                  with_reducible rfl
                rotate_left
                · simp only [Act.put, List.setIfInBounds_toArray, List.set_cons_zero, List.set_cons_succ, i64_w, i32_w]
                  rfl
                refine pure_ (i := 6) (N := some 123) (v := ?_) (a' := ?_) #[true, true, true, true, true, true, true, false, false, false, false, false, false, false, false, false, false, false] rfl rfl (by kernel_rfl) (fun _ _ _ h => h) (Or.inl ⟨by rfl, ?_⟩) ?_ ?_
                rotate_left
                · intro w'
                  go_simp
                  with_reducible rfl
                rotate_left
                · simp only [Act.put, List.setIfInBounds_toArray, List.set_cons_zero, List.set_cons_succ, i64_w, i32_w]
                  rfl
                refine pure_ (i := 7) (N := some 124) (v := ?_) (a' := ?_) #[true, true, true, true, true, true, true, true, false, false, false, false, false, false, false, false, false, false] rfl rfl (by kernel_rfl) (fun _ _ _ h => h) (Or.inl ⟨by rfl, ?_⟩) ?_ ?_
                rotate_left
                · intro w'
                  go_simp
                  with_reducible rfl
                rotate_left
                · simp only [Act.put, List.setIfInBounds_toArray, List.set_cons_zero, List.set_cons_succ, i64_w, i32_w]
                  rfl
                refine pure_ (i := 8) (N := some 125) (v := ?_) (a' := ?_) #[true, true, true, true, true, true, true, true, true, false, false, false, false, false, false, false, false, false] rfl rfl (by kernel_rfl) (fun _ _ _ h => h) (Or.inl ⟨by rfl, ?_⟩) ?_ ?_
                rotate_left
                · intro w'
                  go_simp
                  with_reducible rfl
                rotate_left
                · simp only [Act.put, List.setIfInBounds_toArray, List.set_cons_zero, List.set_cons_succ, i64_w, i32_w]
                  rfl
                refine pure_ (i := 9) (N := some 126) (v := ?_) (a' := ?_) #[true, true, true, true, true, true, true, true, true, true, false, false, false, false, false, false, false, false] rfl rfl (by kernel_rfl) (fun _ _ _ h => h) (Or.inl ⟨by rfl, ?_⟩) ?_ ?_
                rotate_left
                · intro w'
                  go_simp
                  with_reducible rfl
                rotate_left
                · simp only [Act.put, List.setIfInBounds_toArray, List.set_cons_zero, List.set_cons_succ, i64_w, i32_w]
                  rfl
                refine pure_ (i := 13) (N := some 130) (v := ?_) (a' := ?_) #[true, true, true, true, true, true, true, true, true, true, false, false, false, true, false, false, false, false] rfl rfl (by kernel_rfl) (fun _ _ _ h => h) (Or.inl ⟨by rfl, ?_⟩) ?_ ?_
                rotate_left
                · intro w'
                  go_simp
                  with_reducible rfl
                rotate_left
                · simp only [Act.put, List.setIfInBounds_toArray, List.set_cons_zero, List.set_cons_succ, i64_w, i32_w]
                  rfl
                refine take_ (i := 14) (N := some 131) (v := ?_) (a' := ?_) #[true, true, true, true, true, true, true, true, true, true, false, false, false, true, true, false, false, false] rfl rfl (by kernel_rfl) (fun _ _ _ h => h) (Or.inl ⟨by rfl, ?_⟩) hHeld ?_ ?_
                rotate_left
                · intro w' s0
                  go_simp
                  with_reducible rfl
                rotate_left
                · simp only [Act.put, List.setIfInBounds_toArray, List.set_cons_zero, List.set_cons_succ, i64_w, i32_w]
                  rfl
                refine one_ (i := 10) (N := some 127) #[true, true, true, true, true, true, true, true, true, true, true, false, false, true, true, false, false, false] rfl rfl (by kernel_rfl) (by decide) (fun K hK => ?_)
                refine goes_ Try.func27 (by kernel_rfl) rfl #[.slice (some ad) N c] (by rfl) rfl rfl (by simp only [List.map_toArray, List.map_cons, List.map_nil]; rfl) ?_
                with_reducible refine ((hnc.out _ hdr14.out)).mono ?_
                rintro e w15 ⟨rfl, hd15⟩
                refine ⟨_, rfl, ?_⟩
                have h1415 := Aside0.mk (below_then hdr14.out hdr14.out.size hd15.below)
                clear hd15
                refine hK.out _ _ (hSb.out _ h1415.out) (fun hHeld => ?_)
                clear hK K
                refine norm_ (a' := ?_) ?_ ?_
                rotate_left
                · show Act.put _ (some 127) _ = _
                  simp only [Act.put, List.setIfInBounds_toArray, List.set_cons_zero, List.set_cons_succ, i64_w, i32_w]
                  rfl
                refine one_ (i := 11) (N := some 128) #[true, true, true, true, true, true, true, true, true, true, true, true, false, true, true, false, false, false] rfl rfl (by kernel_rfl) (by decide) (fun K hK => ?_)
                refine goes_ Try.func25 (by kernel_rfl) rfl #[.int .i64 kb] (by rfl) rfl rfl (by simp only [List.map_toArray, List.map_cons, List.map_nil]; rfl) ?_
                with_reducible refine ((hwc.out _)).mono ?_
                rintro e w16 ⟨v16, rfl, hR16, hb16⟩
                refine ⟨_, rfl, ?_⟩
                obtain ⟨A16, c16, rfl⟩ := Kd.R_slice hR16
                have hcu := hcvw.out A16 c16 w16 (Kd.R_reads' hR16).2.2
                rw [hml.out]
                have h1416 := Aside0.mk (below_then h1415.out h1415.out.size hb16)
                clear hR16 hb16
                refine hK.out _ _ (hSb.out _ h1416.out) (fun hHeld => ?_)
                clear hK K
                refine norm_ (a' := ?_) ?_ ?_
                rotate_left
                · show Act.put _ (some 128) _ = _
                  simp only [Act.put, List.setIfInBounds_toArray, List.set_cons_zero, List.set_cons_succ, i64_w, i32_w]
                  rfl
                refine one_ (i := 12) (N := some 129) #[true, true, true, true, true, true, true, true, true, true, true, true, true, true, true, false, false, false] rfl rfl (by kernel_rfl) (by decide) (fun K hK => ?_)
                refine value_ (w1 := ?_) (v := ?_) (by rfl) rfl ?_ ?_
                rotate_left 2
                · go_simp
                  constructor
                  · rfl
                  · rfl
                refine hK.out _ _ (hSb.out _ h1416.out) (fun hHeld => ?_)
                clear hK K
                refine norm_ (a' := ?_) ?_ ?_
                rotate_left
                · show Act.put _ (some 129) _ = _
                  simp only [Act.put, List.setIfInBounds_toArray, List.set_cons_zero, List.set_cons_succ, i64_w, i32_w]
                  rfl
                refine pure_ (i := 15) (N := some 132) (v := ?_) (a' := ?_) #[true, true, true, true, true, true, true, true, true, true, true, true, true, true, true, true, false, false] rfl rfl (by kernel_rfl) (fun _ _ _ h => h) (Or.inl ⟨by rfl, ?_⟩) ?_ ?_
                rotate_left
                · intro w'
                  go_simp
                  with_reducible rfl
                rotate_left
                · simp only [Act.put, List.setIfInBounds_toArray, List.set_cons_zero, List.set_cons_succ, i64_w, i32_w]
                  rfl
                refine pure_ (i := 16) (N := some 133) (v := ?_) (a' := ?_) #[true, true, true, true, true, true, true, true, true, true, true, true, true, true, true, true, true, false] rfl rfl (by kernel_rfl) (fun _ _ _ h => h) (Or.inl ⟨by rfl, ?_⟩) ?_ ?_
                rotate_left
                · intro w'
                  go_simp
                  with_reducible rfl
                rotate_left
                · simp only [Act.put, List.setIfInBounds_toArray, List.set_cons_zero, List.set_cons_succ, i64_w, i32_w]
                  rfl
                refine pure_ (i := 17) (N := some 16) (v := ?_) (a' := ?_) #[true, true, true, true, true, true, true, true, true, true, true, true, true, true, true, true, true, true] rfl rfl (by kernel_rfl) (fun _ _ _ h => h) (Or.inl ⟨by rfl, ?_⟩) ?_ ?_
                rotate_left
                · intro w'
                  go_simp
                  with_reducible rfl
                rotate_left
                · simp only [Act.put, List.setIfInBounds_toArray, List.set_cons_zero, List.set_cons_succ, i64_w, i32_w]
                  rfl
                refine done_ (by kernel_rfl) ?_
                have h116 := Aside0.mk (below_then h114.out h114.out.size h1416.out)
                go_wp2_with fail
                refine (hnc.out _ h1416.out).mono ?_
                rintro e w17 ⟨rfl, hd17⟩
                have h1417 := Aside0.mk (below_then h1416.out h1416.out.size hd17.below)
                have h117 := Aside0.mk (below_then h114.out h114.out.size h1417.out)
                clear hd17
                have q17 := pw_cell_below h117.out q1
                go_wp2_with fail
                refine (known_calls _).mono ?_
                rintro e w17 ⟨rfl, hb17⟩
                have hbf := Aside0.mk (below_then hb1'.out hb1'.out.size (below_then h117.out h117.out.size hb17))
                clear hb17
                go_wp2_with fail
                go_ret
                exact ⟨rfl, hbf.out⟩
              · by_cases y1 : y = 255
                · subst y1
                  have htf : Aside0 (truthF ⟨0, 2, false, b, []⟩ = some true) := ⟨by rw [hby.out]; rfl⟩
                  clear y0
                  have hio := Aside0.mk (show Calls Try.prog 24 #[.agg #[.int .u8 0, .int .u8 2, .bool false, .slice (some ad) N c, .slice none 0 0]] w12 (IntEnds (some kb) w12) from by
                    have h := intof_calls ⟨0, 2, false, b, []⟩ (some ad) c none 0 w12 hvy.out hb.out
                    rw [hif.out, hN'.out] at h
                    exact h)
                  have hto := Aside0.mk (fun W (hW : Below w12.heap.size w12 W) => (show Calls Try.prog 26 #[.agg #[.int .u8 0, .int .u8 2, .bool false, .slice (some ad) N c, .slice none 0 0]] W (TruthEnds (some true) W) from by
                    have h := truthof_calls ⟨0, 2, false, b, []⟩ (some ad) c none 0 W (hvy.out.below hW)
                    rw [htf.out, hN'.out] at h
                    exact h))
                  go_wp2_with fail
                  refine hio.out.mono ?_
                  rintro e w13 ⟨rfl, hb13⟩
                  dsimp only
                  have h113 := Aside0.mk (below_then h112.out h112.out.size hb13)
                  obtain ⟨k0, k1, k2, k3, k4⟩ := (hX12'.out.below hb13).cells
                  have hto' := Aside0.mk (hto.out w13 hb13)
                  clear hio hto hb13 e0 e1 e2 e3 e4 f0 f1 f2 f3 f4 g0 g1 g2 g3 g4
                  go_wp2_with fail
                  refine hto'.out.mono ?_
                  rintro e w14 ⟨rfl, hb14⟩
                  dsimp only
                  have h114 := Aside0.mk (below_then h113.out h113.out.size hb14)
                  have t5 := (hSa.out _ h114.out).2.2
                  have hC14 := Aside0.mk (Kd.C_below hC1b.out h114.out)
                  clear hto' hb14 h113 k0 k1 k2 k3 k4 hC12
                  go_wp2_with fail
                  obtain ⟨sb, hsb⟩ : ∃ sb, strOfNums b = sb := ⟨_, rfl⟩
                  have hcvb := fun W (h : kU.C W (some ad) N b) => Kd.C_string (P := Try.prog) (dst := 9) (c := c) Try.underlying23 Try.underlying5 Try.underlying9 h
                  rw [hsb] at hcvb
                  have hdr14 := Aside0.mk (below_drew (Below.refl w14.heap.size w14))
                  have hSb := Aside0.mk (show ∀ W, Below w14.heap.size w14 W → (convert 23 9 (.slice (some ad) N c)).run Try.prog W = .ok (.string sb) W from fun W hW => hcvb W (Kd.C_below hC14.out hW))
                  obtain ⟨Kn, hKn⟩ := hnum.out
                  obtain ⟨Kw, hKw⟩ := hwh.out
                  have hnc := Aside0.mk (fun W (hW : Below w14.heap.size w14 W) => (show Calls Try.prog 27 #[.slice (some ad) N c] W (fun e w' => e = .returned (.int .i64 kb) ∧ Drawn0 W w') from by
                    have h := PBerNumbers.cardcaselaw05_number.calls Kn (some ad) c b kb W (by rw [hN'.out]; exact Kd.C_below hC14.out hW) (by rw [hN'.out]; exact hc) hKn
                    rw [hN'.out] at h
                    exact h))
                  have hwc := Aside0.mk (fun W => PBerNumbers.cardcaseref05_Whole.calls Kw kb wl W hKw)
                  obtain ⟨ml, hml⟩ : ∃ ml, wl.length = ml := ⟨_, rfl⟩
                  have hcvw : Aside0 (∀ A' c W, kU.C W A' wl.length wl → (convert 23 9 (.slice A' ml c)).run Try.prog W = .ok (.string sw) W) := ⟨fun A' c W h => by
                    have := Kd.C_string (P := Try.prog) (dst := 9) (c := c) Try.underlying23 Try.underlying5 Try.underlying9 h
                    rwa [hml, hsw.out] at this⟩
                  replace hml := Aside0.mk hml
                  have hss : (sw.toList == sb.toList) = true := by rw [← hsw.out, ← hsb, hfit.out]; simp
                  clear hKn hKw hcvb
                  replace hsb := Aside0.mk hsb
                  refine start_ (n := 18) (S := fun w' => (convert 23 9 (.slice (some ad) N c)).run Try.prog w' = .ok (.string sb) w') (ds := []) #[false, false, false, false, false, false, false, false, false, false, false, false, false, false, false, false, false, false] (by kernel_rfl) rfl rfl (hSb.out _ hdr14.out) (fun hHeld => ?_)
                  refine pure_ (i := 0) (N := some 117) (v := ?_) (a' := ?_) #[true, false, false, false, false, false, false, false, false, false, false, false, false, false, false, false, false, false] rfl rfl (by kernel_rfl) (fun _ _ _ h => h) (Or.inl ⟨by rfl, ?_⟩) ?_ ?_
                  rotate_left
                  · intro w'
                    go_simp
                    with_reducible rfl
                  rotate_left
                  · simp only [Act.put, List.setIfInBounds_toArray, List.set_cons_zero, List.set_cons_succ, i64_w, i32_w]
                    rfl
                  refine pure_ (i := 1) (N := some 118) (v := ?_) (a' := ?_) #[true, true, false, false, false, false, false, false, false, false, false, false, false, false, false, false, false, false] rfl rfl (by kernel_rfl) (fun _ _ _ h => h) (Or.inl ⟨by rfl, ?_⟩) ?_ ?_
                  rotate_left
                  · intro w'
                    go_simp
                    with_reducible rfl
                  rotate_left
                  · simp only [Act.put, List.setIfInBounds_toArray, List.set_cons_zero, List.set_cons_succ, i64_w, i32_w]
                    rfl
                  refine pure_ (i := 2) (N := some 119) (v := ?_) (a' := ?_) #[true, true, true, false, false, false, false, false, false, false, false, false, false, false, false, false, false, false] rfl rfl (by kernel_rfl) (fun _ _ _ h => h) (Or.inl ⟨by rfl, ?_⟩) ?_ ?_
                  rotate_left
                  · intro w'
                    go_simp
                    with_reducible rfl
                  rotate_left
                  · simp only [Act.put, List.setIfInBounds_toArray, List.set_cons_zero, List.set_cons_succ, i64_w, i32_w]
                    rfl
                  refine pure_ (i := 3) (N := some 120) (v := ?_) (a' := ?_) #[true, true, true, true, false, false, false, false, false, false, false, false, false, false, false, false, false, false] rfl rfl (by kernel_rfl) (fun _ _ _ h => h) (Or.inl ⟨by rfl, ?_⟩) ?_ ?_
                  rotate_left
                  · intro w'
                    go_simp
                    with_reducible rfl
                  rotate_left
                  · simp only [Act.put, List.setIfInBounds_toArray, List.set_cons_zero, List.set_cons_succ, i64_w, i32_w]
                    rfl
                  refine pure_ (i := 4) (N := some 121) (v := ?_) (a' := ?_) #[true, true, true, true, true, false, false, false, false, false, false, false, false, false, false, false, false, false] rfl rfl (by kernel_rfl) (fun _ _ _ h => h) (Or.inl ⟨by rfl, ?_⟩) ?_ ?_
                  rotate_left
                  · intro w'
                    go_simp
                    with_reducible rfl
                  rotate_left
                  · simp only [Act.put, List.setIfInBounds_toArray, List.set_cons_zero, List.set_cons_succ, i64_w, i32_w]
                    rfl
                  refine pure_ (i := 5) (N := some 122) (v := ?_) (a' := ?_) #[true, true, true, true, true, true, false, false, false, false, false, false, false, false, false, false, false, false] rfl rfl (by kernel_rfl) (fun _ _ _ h => h) (Or.inl ⟨by rfl, ?_⟩) ?_ ?_
                  rotate_left
                  · intro w'
                    go_simp
                    with_reducible rfl
                  rotate_left
                  · simp only [Act.put, List.setIfInBounds_toArray, List.set_cons_zero, List.set_cons_succ, i64_w, i32_w]
                    rfl
                  refine pure_ (i := 6) (N := some 123) (v := ?_) (a' := ?_) #[true, true, true, true, true, true, true, false, false, false, false, false, false, false, false, false, false, false] rfl rfl (by kernel_rfl) (fun _ _ _ h => h) (Or.inl ⟨by rfl, ?_⟩) ?_ ?_
                  rotate_left
                  · intro w'
                    go_simp
                    with_reducible rfl
                  rotate_left
                  · simp only [Act.put, List.setIfInBounds_toArray, List.set_cons_zero, List.set_cons_succ, i64_w, i32_w]
                    rfl
                  refine pure_ (i := 7) (N := some 124) (v := ?_) (a' := ?_) #[true, true, true, true, true, true, true, true, false, false, false, false, false, false, false, false, false, false] rfl rfl (by kernel_rfl) (fun _ _ _ h => h) (Or.inl ⟨by rfl, ?_⟩) ?_ ?_
                  rotate_left
                  · intro w'
                    go_simp
                    with_reducible rfl
                  rotate_left
                  · simp only [Act.put, List.setIfInBounds_toArray, List.set_cons_zero, List.set_cons_succ, i64_w, i32_w]
                    rfl
                  refine pure_ (i := 8) (N := some 125) (v := ?_) (a' := ?_) #[true, true, true, true, true, true, true, true, true, false, false, false, false, false, false, false, false, false] rfl rfl (by kernel_rfl) (fun _ _ _ h => h) (Or.inl ⟨by rfl, ?_⟩) ?_ ?_
                  rotate_left
                  · intro w'
                    go_simp
                    with_reducible rfl
                  rotate_left
                  · simp only [Act.put, List.setIfInBounds_toArray, List.set_cons_zero, List.set_cons_succ, i64_w, i32_w]
                    rfl
                  refine pure_ (i := 9) (N := some 126) (v := ?_) (a' := ?_) #[true, true, true, true, true, true, true, true, true, true, false, false, false, false, false, false, false, false] rfl rfl (by kernel_rfl) (fun _ _ _ h => h) (Or.inl ⟨by rfl, ?_⟩) ?_ ?_
                  rotate_left
                  · intro w'
                    go_simp
                    with_reducible rfl
                  rotate_left
                  · simp only [Act.put, List.setIfInBounds_toArray, List.set_cons_zero, List.set_cons_succ, i64_w, i32_w]
                    rfl
                  refine pure_ (i := 13) (N := some 130) (v := ?_) (a' := ?_) #[true, true, true, true, true, true, true, true, true, true, false, false, false, true, false, false, false, false] rfl rfl (by kernel_rfl) (fun _ _ _ h => h) (Or.inl ⟨by rfl, ?_⟩) ?_ ?_
                  rotate_left
                  · intro w'
                    go_simp
                    with_reducible rfl
                  rotate_left
                  · simp only [Act.put, List.setIfInBounds_toArray, List.set_cons_zero, List.set_cons_succ, i64_w, i32_w]
                    rfl
                  refine take_ (i := 14) (N := some 131) (v := ?_) (a' := ?_) #[true, true, true, true, true, true, true, true, true, true, false, false, false, true, true, false, false, false] rfl rfl (by kernel_rfl) (fun _ _ _ h => h) (Or.inl ⟨by rfl, ?_⟩) hHeld ?_ ?_
                  rotate_left
                  · intro w' s0
                    go_simp
                    with_reducible rfl
                  rotate_left
                  · simp only [Act.put, List.setIfInBounds_toArray, List.set_cons_zero, List.set_cons_succ, i64_w, i32_w]
                    rfl
                  refine one_ (i := 10) (N := some 127) #[true, true, true, true, true, true, true, true, true, true, true, false, false, true, true, false, false, false] rfl rfl (by kernel_rfl) (by decide) (fun K hK => ?_)
                  refine goes_ Try.func27 (by kernel_rfl) rfl #[.slice (some ad) N c] (by rfl) rfl rfl (by simp only [List.map_toArray, List.map_cons, List.map_nil]; rfl) ?_
                  with_reducible refine ((hnc.out _ hdr14.out)).mono ?_
                  rintro e w15 ⟨rfl, hd15⟩
                  refine ⟨_, rfl, ?_⟩
                  have h1415 := Aside0.mk (below_then hdr14.out hdr14.out.size hd15.below)
                  clear hd15
                  refine hK.out _ _ (hSb.out _ h1415.out) (fun hHeld => ?_)
                  clear hK K
                  refine norm_ (a' := ?_) ?_ ?_
                  rotate_left
                  · show Act.put _ (some 127) _ = _
                    simp only [Act.put, List.setIfInBounds_toArray, List.set_cons_zero, List.set_cons_succ, i64_w, i32_w]
                    rfl
                  refine one_ (i := 11) (N := some 128) #[true, true, true, true, true, true, true, true, true, true, true, true, false, true, true, false, false, false] rfl rfl (by kernel_rfl) (by decide) (fun K hK => ?_)
                  refine goes_ Try.func25 (by kernel_rfl) rfl #[.int .i64 kb] (by rfl) rfl rfl (by simp only [List.map_toArray, List.map_cons, List.map_nil]; rfl) ?_
                  with_reducible refine ((hwc.out _)).mono ?_
                  rintro e w16 ⟨v16, rfl, hR16, hb16⟩
                  refine ⟨_, rfl, ?_⟩
                  obtain ⟨A16, c16, rfl⟩ := Kd.R_slice hR16
                  have hcu := hcvw.out A16 c16 w16 (Kd.R_reads' hR16).2.2
                  rw [hml.out]
                  have h1416 := Aside0.mk (below_then h1415.out h1415.out.size hb16)
                  clear hR16 hb16
                  refine hK.out _ _ (hSb.out _ h1416.out) (fun hHeld => ?_)
                  clear hK K
                  refine norm_ (a' := ?_) ?_ ?_
                  rotate_left
                  · show Act.put _ (some 128) _ = _
                    simp only [Act.put, List.setIfInBounds_toArray, List.set_cons_zero, List.set_cons_succ, i64_w, i32_w]
                    rfl
                  refine one_ (i := 12) (N := some 129) #[true, true, true, true, true, true, true, true, true, true, true, true, true, true, true, false, false, false] rfl rfl (by kernel_rfl) (by decide) (fun K hK => ?_)
                  refine value_ (w1 := ?_) (v := ?_) (by rfl) rfl ?_ ?_
                  rotate_left 2
                  · go_simp
                    constructor
                    · rfl
                    · rfl
                  refine hK.out _ _ (hSb.out _ h1416.out) (fun hHeld => ?_)
                  clear hK K
                  refine norm_ (a' := ?_) ?_ ?_
                  rotate_left
                  · show Act.put _ (some 129) _ = _
                    simp only [Act.put, List.setIfInBounds_toArray, List.set_cons_zero, List.set_cons_succ, i64_w, i32_w]
                    rfl
                  refine pure_ (i := 15) (N := some 132) (v := ?_) (a' := ?_) #[true, true, true, true, true, true, true, true, true, true, true, true, true, true, true, true, false, false] rfl rfl (by kernel_rfl) (fun _ _ _ h => h) (Or.inl ⟨by rfl, ?_⟩) ?_ ?_
                  rotate_left
                  · intro w'
                    go_simp
                    with_reducible rfl
                  rotate_left
                  · simp only [Act.put, List.setIfInBounds_toArray, List.set_cons_zero, List.set_cons_succ, i64_w, i32_w]
                    rfl
                  refine pure_ (i := 16) (N := some 133) (v := ?_) (a' := ?_) #[true, true, true, true, true, true, true, true, true, true, true, true, true, true, true, true, true, false] rfl rfl (by kernel_rfl) (fun _ _ _ h => h) (Or.inl ⟨by rfl, ?_⟩) ?_ ?_
                  rotate_left
                  · intro w'
                    go_simp
                    with_reducible rfl
                  rotate_left
                  · simp only [Act.put, List.setIfInBounds_toArray, List.set_cons_zero, List.set_cons_succ, i64_w, i32_w]
                    rfl
                  refine pure_ (i := 17) (N := some 16) (v := ?_) (a' := ?_) #[true, true, true, true, true, true, true, true, true, true, true, true, true, true, true, true, true, true] rfl rfl (by kernel_rfl) (fun _ _ _ h => h) (Or.inl ⟨by rfl, ?_⟩) ?_ ?_
                  rotate_left
                  · intro w'
                    go_simp
                    with_reducible rfl
                  rotate_left
                  · simp only [Act.put, List.setIfInBounds_toArray, List.set_cons_zero, List.set_cons_succ, i64_w, i32_w]
                    rfl
                  refine done_ (by kernel_rfl) ?_
                  have h116 := Aside0.mk (below_then h114.out h114.out.size h1416.out)
                  go_wp2_with fail
                  refine (hnc.out _ h1416.out).mono ?_
                  rintro e w17 ⟨rfl, hd17⟩
                  have h1417 := Aside0.mk (below_then h1416.out h1416.out.size hd17.below)
                  have h117 := Aside0.mk (below_then h114.out h114.out.size h1417.out)
                  clear hd17
                  have q17 := pw_cell_below h117.out q1
                  go_wp2_with fail
                  refine (known_calls _).mono ?_
                  rintro e w17 ⟨rfl, hb17⟩
                  have hbf := Aside0.mk (below_then hb1'.out hb1'.out.size (below_then h117.out h117.out.size hb17))
                  clear hb17
                  go_wp2_with fail
                  go_ret
                  exact ⟨rfl, hbf.out⟩
                · have htf : Aside0 (truthF ⟨0, 2, false, b, []⟩ = none) := ⟨by rw [hby.out]; unfold truthF; simp [y0, y1]⟩
                  have j5 : (y == 0) = false := by simpa using y0
                  have j6 : (y == 255) = false := by simpa using y1
                  clear y0 y1
                  have hio := Aside0.mk (show Calls Try.prog 24 #[.agg #[.int .u8 0, .int .u8 2, .bool false, .slice (some ad) N c, .slice none 0 0]] w12 (IntEnds (some kb) w12) from by
                    have h := intof_calls ⟨0, 2, false, b, []⟩ (some ad) c none 0 w12 hvy.out hb.out
                    rw [hif.out, hN'.out] at h
                    exact h)
                  have hto := Aside0.mk (fun W (hW : Below w12.heap.size w12 W) => (show Calls Try.prog 26 #[.agg #[.int .u8 0, .int .u8 2, .bool false, .slice (some ad) N c, .slice none 0 0]] W (TruthEnds none W) from by
                    have h := truthof_calls ⟨0, 2, false, b, []⟩ (some ad) c none 0 W (hvy.out.below hW)
                    rw [htf.out, hN'.out] at h
                    exact h))
                  go_wp2_with fail
                  refine hio.out.mono ?_
                  rintro e w13 ⟨rfl, hb13⟩
                  dsimp only
                  have h113 := Aside0.mk (below_then h112.out h112.out.size hb13)
                  obtain ⟨k0, k1, k2, k3, k4⟩ := (hX12'.out.below hb13).cells
                  have hto' := Aside0.mk (hto.out w13 hb13)
                  clear hio hto hb13 e0 e1 e2 e3 e4 f0 f1 f2 f3 f4 g0 g1 g2 g3 g4
                  go_wp2_with fail
                  refine hto'.out.mono ?_
                  rintro e w14 ⟨rfl, hb14⟩
                  dsimp only
                  have h114 := Aside0.mk (below_then h113.out h113.out.size hb14)
                  have t5 := (hSa.out _ h114.out).2.2
                  have hC14 := Aside0.mk (Kd.C_below hC1b.out h114.out)
                  clear hto' hb14 h113 k0 k1 k2 k3 k4 hC12
                  go_wp2_with fail
                  obtain ⟨sb, hsb⟩ : ∃ sb, strOfNums b = sb := ⟨_, rfl⟩
                  have hcvb := fun W (h : kU.C W (some ad) N b) => Kd.C_string (P := Try.prog) (dst := 9) (c := c) Try.underlying23 Try.underlying5 Try.underlying9 h
                  rw [hsb] at hcvb
                  have hdr14 := Aside0.mk (below_drew (Below.refl w14.heap.size w14))
                  have hSb := Aside0.mk (show ∀ W, Below w14.heap.size w14 W → (convert 23 9 (.slice (some ad) N c)).run Try.prog W = .ok (.string sb) W from fun W hW => hcvb W (Kd.C_below hC14.out hW))
                  obtain ⟨Kn, hKn⟩ := hnum.out
                  obtain ⟨Kw, hKw⟩ := hwh.out
                  have hnc := Aside0.mk (fun W (hW : Below w14.heap.size w14 W) => (show Calls Try.prog 27 #[.slice (some ad) N c] W (fun e w' => e = .returned (.int .i64 kb) ∧ Drawn0 W w') from by
                    have h := PBerNumbers.cardcaselaw05_number.calls Kn (some ad) c b kb W (by rw [hN'.out]; exact Kd.C_below hC14.out hW) (by rw [hN'.out]; exact hc) hKn
                    rw [hN'.out] at h
                    exact h))
                  have hwc := Aside0.mk (fun W => PBerNumbers.cardcaseref05_Whole.calls Kw kb wl W hKw)
                  obtain ⟨ml, hml⟩ : ∃ ml, wl.length = ml := ⟨_, rfl⟩
                  have hcvw : Aside0 (∀ A' c W, kU.C W A' wl.length wl → (convert 23 9 (.slice A' ml c)).run Try.prog W = .ok (.string sw) W) := ⟨fun A' c W h => by
                    have := Kd.C_string (P := Try.prog) (dst := 9) (c := c) Try.underlying23 Try.underlying5 Try.underlying9 h
                    rwa [hml, hsw.out] at this⟩
                  replace hml := Aside0.mk hml
                  have hss : (sw.toList == sb.toList) = true := by rw [← hsw.out, ← hsb, hfit.out]; simp
                  clear hKn hKw hcvb
                  replace hsb := Aside0.mk hsb
                  refine start_ (n := 18) (S := fun w' => (convert 23 9 (.slice (some ad) N c)).run Try.prog w' = .ok (.string sb) w') (ds := []) #[false, false, false, false, false, false, false, false, false, false, false, false, false, false, false, false, false, false] (by kernel_rfl) rfl rfl (hSb.out _ hdr14.out) (fun hHeld => ?_)
                  refine pure_ (i := 0) (N := some 117) (v := ?_) (a' := ?_) #[true, false, false, false, false, false, false, false, false, false, false, false, false, false, false, false, false, false] rfl rfl (by kernel_rfl) (fun _ _ _ h => h) (Or.inl ⟨by rfl, ?_⟩) ?_ ?_
                  rotate_left
                  · intro w'
                    go_simp
                    with_reducible rfl
                  rotate_left
                  · simp only [Act.put, List.setIfInBounds_toArray, List.set_cons_zero, List.set_cons_succ, i64_w, i32_w]
                    rfl
                  refine pure_ (i := 1) (N := some 118) (v := ?_) (a' := ?_) #[true, true, false, false, false, false, false, false, false, false, false, false, false, false, false, false, false, false] rfl rfl (by kernel_rfl) (fun _ _ _ h => h) (Or.inl ⟨by rfl, ?_⟩) ?_ ?_
                  rotate_left
                  · intro w'
                    go_simp
                    with_reducible rfl
                  rotate_left
                  · simp only [Act.put, List.setIfInBounds_toArray, List.set_cons_zero, List.set_cons_succ, i64_w, i32_w]
                    rfl
                  refine pure_ (i := 2) (N := some 119) (v := ?_) (a' := ?_) #[true, true, true, false, false, false, false, false, false, false, false, false, false, false, false, false, false, false] rfl rfl (by kernel_rfl) (fun _ _ _ h => h) (Or.inl ⟨by rfl, ?_⟩) ?_ ?_
                  rotate_left
                  · intro w'
                    go_simp
                    with_reducible rfl
                  rotate_left
                  · simp only [Act.put, List.setIfInBounds_toArray, List.set_cons_zero, List.set_cons_succ, i64_w, i32_w]
                    rfl
                  refine pure_ (i := 3) (N := some 120) (v := ?_) (a' := ?_) #[true, true, true, true, false, false, false, false, false, false, false, false, false, false, false, false, false, false] rfl rfl (by kernel_rfl) (fun _ _ _ h => h) (Or.inl ⟨by rfl, ?_⟩) ?_ ?_
                  rotate_left
                  · intro w'
                    go_simp
                    with_reducible rfl
                  rotate_left
                  · simp only [Act.put, List.setIfInBounds_toArray, List.set_cons_zero, List.set_cons_succ, i64_w, i32_w]
                    rfl
                  refine pure_ (i := 4) (N := some 121) (v := ?_) (a' := ?_) #[true, true, true, true, true, false, false, false, false, false, false, false, false, false, false, false, false, false] rfl rfl (by kernel_rfl) (fun _ _ _ h => h) (Or.inl ⟨by rfl, ?_⟩) ?_ ?_
                  rotate_left
                  · intro w'
                    go_simp
                    with_reducible rfl
                  rotate_left
                  · simp only [Act.put, List.setIfInBounds_toArray, List.set_cons_zero, List.set_cons_succ, i64_w, i32_w]
                    rfl
                  refine pure_ (i := 5) (N := some 122) (v := ?_) (a' := ?_) #[true, true, true, true, true, true, false, false, false, false, false, false, false, false, false, false, false, false] rfl rfl (by kernel_rfl) (fun _ _ _ h => h) (Or.inl ⟨by rfl, ?_⟩) ?_ ?_
                  rotate_left
                  · intro w'
                    go_simp
                    with_reducible rfl
                  rotate_left
                  · simp only [Act.put, List.setIfInBounds_toArray, List.set_cons_zero, List.set_cons_succ, i64_w, i32_w]
                    rfl
                  refine pure_ (i := 6) (N := some 123) (v := ?_) (a' := ?_) #[true, true, true, true, true, true, true, false, false, false, false, false, false, false, false, false, false, false] rfl rfl (by kernel_rfl) (fun _ _ _ h => h) (Or.inl ⟨by rfl, ?_⟩) ?_ ?_
                  rotate_left
                  · intro w'
                    go_simp
                    with_reducible rfl
                  rotate_left
                  · simp only [Act.put, List.setIfInBounds_toArray, List.set_cons_zero, List.set_cons_succ, i64_w, i32_w]
                    rfl
                  refine pure_ (i := 7) (N := some 124) (v := ?_) (a' := ?_) #[true, true, true, true, true, true, true, true, false, false, false, false, false, false, false, false, false, false] rfl rfl (by kernel_rfl) (fun _ _ _ h => h) (Or.inl ⟨by rfl, ?_⟩) ?_ ?_
                  rotate_left
                  · intro w'
                    go_simp
                    with_reducible rfl
                  rotate_left
                  · simp only [Act.put, List.setIfInBounds_toArray, List.set_cons_zero, List.set_cons_succ, i64_w, i32_w]
                    rfl
                  refine pure_ (i := 8) (N := some 125) (v := ?_) (a' := ?_) #[true, true, true, true, true, true, true, true, true, false, false, false, false, false, false, false, false, false] rfl rfl (by kernel_rfl) (fun _ _ _ h => h) (Or.inl ⟨by rfl, ?_⟩) ?_ ?_
                  rotate_left
                  · intro w'
                    go_simp
                    with_reducible rfl
                  rotate_left
                  · simp only [Act.put, List.setIfInBounds_toArray, List.set_cons_zero, List.set_cons_succ, i64_w, i32_w]
                    rfl
                  refine pure_ (i := 9) (N := some 126) (v := ?_) (a' := ?_) #[true, true, true, true, true, true, true, true, true, true, false, false, false, false, false, false, false, false] rfl rfl (by kernel_rfl) (fun _ _ _ h => h) (Or.inl ⟨by rfl, ?_⟩) ?_ ?_
                  rotate_left
                  · intro w'
                    go_simp
                    with_reducible rfl
                  rotate_left
                  · simp only [Act.put, List.setIfInBounds_toArray, List.set_cons_zero, List.set_cons_succ, i64_w, i32_w]
                    rfl
                  refine pure_ (i := 13) (N := some 130) (v := ?_) (a' := ?_) #[true, true, true, true, true, true, true, true, true, true, false, false, false, true, false, false, false, false] rfl rfl (by kernel_rfl) (fun _ _ _ h => h) (Or.inl ⟨by rfl, ?_⟩) ?_ ?_
                  rotate_left
                  · intro w'
                    go_simp
                    with_reducible rfl
                  rotate_left
                  · simp only [Act.put, List.setIfInBounds_toArray, List.set_cons_zero, List.set_cons_succ, i64_w, i32_w]
                    rfl
                  refine take_ (i := 14) (N := some 131) (v := ?_) (a' := ?_) #[true, true, true, true, true, true, true, true, true, true, false, false, false, true, true, false, false, false] rfl rfl (by kernel_rfl) (fun _ _ _ h => h) (Or.inl ⟨by rfl, ?_⟩) hHeld ?_ ?_
                  rotate_left
                  · intro w' s0
                    go_simp
                    with_reducible rfl
                  rotate_left
                  · simp only [Act.put, List.setIfInBounds_toArray, List.set_cons_zero, List.set_cons_succ, i64_w, i32_w]
                    rfl
                  refine one_ (i := 10) (N := some 127) #[true, true, true, true, true, true, true, true, true, true, true, false, false, true, true, false, false, false] rfl rfl (by kernel_rfl) (by decide) (fun K hK => ?_)
                  refine goes_ Try.func27 (by kernel_rfl) rfl #[.slice (some ad) N c] (by rfl) rfl rfl (by simp only [List.map_toArray, List.map_cons, List.map_nil]; rfl) ?_
                  with_reducible refine ((hnc.out _ hdr14.out)).mono ?_
                  rintro e w15 ⟨rfl, hd15⟩
                  refine ⟨_, rfl, ?_⟩
                  have h1415 := Aside0.mk (below_then hdr14.out hdr14.out.size hd15.below)
                  clear hd15
                  refine hK.out _ _ (hSb.out _ h1415.out) (fun hHeld => ?_)
                  clear hK K
                  refine norm_ (a' := ?_) ?_ ?_
                  rotate_left
                  · show Act.put _ (some 127) _ = _
                    simp only [Act.put, List.setIfInBounds_toArray, List.set_cons_zero, List.set_cons_succ, i64_w, i32_w]
                    rfl
                  refine one_ (i := 11) (N := some 128) #[true, true, true, true, true, true, true, true, true, true, true, true, false, true, true, false, false, false] rfl rfl (by kernel_rfl) (by decide) (fun K hK => ?_)
                  refine goes_ Try.func25 (by kernel_rfl) rfl #[.int .i64 kb] (by rfl) rfl rfl (by simp only [List.map_toArray, List.map_cons, List.map_nil]; rfl) ?_
                  with_reducible refine ((hwc.out _)).mono ?_
                  rintro e w16 ⟨v16, rfl, hR16, hb16⟩
                  refine ⟨_, rfl, ?_⟩
                  obtain ⟨A16, c16, rfl⟩ := Kd.R_slice hR16
                  have hcu := hcvw.out A16 c16 w16 (Kd.R_reads' hR16).2.2
                  rw [hml.out]
                  have h1416 := Aside0.mk (below_then h1415.out h1415.out.size hb16)
                  clear hR16 hb16
                  refine hK.out _ _ (hSb.out _ h1416.out) (fun hHeld => ?_)
                  clear hK K
                  refine norm_ (a' := ?_) ?_ ?_
                  rotate_left
                  · show Act.put _ (some 128) _ = _
                    simp only [Act.put, List.setIfInBounds_toArray, List.set_cons_zero, List.set_cons_succ, i64_w, i32_w]
                    rfl
                  refine one_ (i := 12) (N := some 129) #[true, true, true, true, true, true, true, true, true, true, true, true, true, true, true, false, false, false] rfl rfl (by kernel_rfl) (by decide) (fun K hK => ?_)
                  refine value_ (w1 := ?_) (v := ?_) (by rfl) rfl ?_ ?_
                  rotate_left 2
                  · go_simp
                    constructor
                    · rfl
                    · rfl
                  refine hK.out _ _ (hSb.out _ h1416.out) (fun hHeld => ?_)
                  clear hK K
                  refine norm_ (a' := ?_) ?_ ?_
                  rotate_left
                  · show Act.put _ (some 129) _ = _
                    simp only [Act.put, List.setIfInBounds_toArray, List.set_cons_zero, List.set_cons_succ, i64_w, i32_w]
                    rfl
                  refine pure_ (i := 15) (N := some 132) (v := ?_) (a' := ?_) #[true, true, true, true, true, true, true, true, true, true, true, true, true, true, true, true, false, false] rfl rfl (by kernel_rfl) (fun _ _ _ h => h) (Or.inl ⟨by rfl, ?_⟩) ?_ ?_
                  rotate_left
                  · intro w'
                    go_simp
                    with_reducible rfl
                  rotate_left
                  · simp only [Act.put, List.setIfInBounds_toArray, List.set_cons_zero, List.set_cons_succ, i64_w, i32_w]
                    rfl
                  refine pure_ (i := 16) (N := some 133) (v := ?_) (a' := ?_) #[true, true, true, true, true, true, true, true, true, true, true, true, true, true, true, true, true, false] rfl rfl (by kernel_rfl) (fun _ _ _ h => h) (Or.inl ⟨by rfl, ?_⟩) ?_ ?_
                  rotate_left
                  · intro w'
                    go_simp
                    with_reducible rfl
                  rotate_left
                  · simp only [Act.put, List.setIfInBounds_toArray, List.set_cons_zero, List.set_cons_succ, i64_w, i32_w]
                    rfl
                  refine pure_ (i := 17) (N := some 16) (v := ?_) (a' := ?_) #[true, true, true, true, true, true, true, true, true, true, true, true, true, true, true, true, true, true] rfl rfl (by kernel_rfl) (fun _ _ _ h => h) (Or.inl ⟨by rfl, ?_⟩) ?_ ?_
                  rotate_left
                  · intro w'
                    go_simp
                    with_reducible rfl
                  rotate_left
                  · simp only [Act.put, List.setIfInBounds_toArray, List.set_cons_zero, List.set_cons_succ, i64_w, i32_w]
                    rfl
                  refine done_ (by kernel_rfl) ?_
                  have h116 := Aside0.mk (below_then h114.out h114.out.size h1416.out)
                  go_wp2_with fail
                  refine (hnc.out _ h1416.out).mono ?_
                  rintro e w17 ⟨rfl, hd17⟩
                  have h1417 := Aside0.mk (below_then h1416.out h1416.out.size hd17.below)
                  have h117 := Aside0.mk (below_then h114.out h114.out.size h1417.out)
                  clear hd17
                  have q17 := pw_cell_below h117.out q1
                  go_wp2_with fail
                  refine (known_calls _).mono ?_
                  rintro e w17 ⟨rfl, hb17⟩
                  have hbf := Aside0.mk (below_then hb1'.out hb1'.out.size (below_then h117.out h117.out.size hb17))
                  clear hb17
                  go_wp2_with fail
                  go_ret
                  exact ⟨rfl, hbf.out⟩
            · have htf : Aside0 (truthF ⟨0, 2, false, b, []⟩ = none) := ⟨by unfold truthF; rw [if_neg (by rintro ⟨_, h⟩; have h' : b = [0] := h; have := hN'.out; rw [h'] at this; simp at this; omega), if_neg (by rintro ⟨_, h⟩; have h' : b = [255] := h; have := hN'.out; rw [h'] at this; simp at this; omega)]⟩
              have j2 : ((N : Int) == 1) = false := by simp; omega
              clear hN0 hN8 hN1
              have hio := Aside0.mk (show Calls Try.prog 24 #[.agg #[.int .u8 0, .int .u8 2, .bool false, .slice A N c, .slice none 0 0]] w12 (IntEnds (some kb) w12) from by
                have h := intof_calls ⟨0, 2, false, b, []⟩ A c none 0 w12 hvy.out hb.out
                rw [hif.out, hN'.out] at h
                exact h)
              have hto := Aside0.mk (fun W (hW : Below w12.heap.size w12 W) => (show Calls Try.prog 26 #[.agg #[.int .u8 0, .int .u8 2, .bool false, .slice A N c, .slice none 0 0]] W (TruthEnds none W) from by
                have h := truthof_calls ⟨0, 2, false, b, []⟩ A c none 0 W (hvy.out.below hW)
                rw [htf.out, hN'.out] at h
                exact h))
              go_wp2_with fail
              refine hio.out.mono ?_
              rintro e w13 ⟨rfl, hb13⟩
              dsimp only
              have h113 := Aside0.mk (below_then h112.out h112.out.size hb13)
              obtain ⟨k0, k1, k2, k3, k4⟩ := (hX12'.out.below hb13).cells
              have hto' := Aside0.mk (hto.out w13 hb13)
              clear hio hto hb13 e0 e1 e2 e3 e4 f0 f1 f2 f3 f4 g0 g1 g2 g3 g4
              go_wp2_with fail
              refine hto'.out.mono ?_
              rintro e w14 ⟨rfl, hb14⟩
              dsimp only
              have h114 := Aside0.mk (below_then h113.out h113.out.size hb14)
              have t5 := (hSa.out _ h114.out).2.2
              have hC14 := Aside0.mk (Kd.C_below hC1b.out h114.out)
              clear hto' hb14 h113 k0 k1 k2 k3 k4 hC12
              go_wp2_with fail
              obtain ⟨sb, hsb⟩ : ∃ sb, strOfNums b = sb := ⟨_, rfl⟩
              have hcvb := fun W (h : kU.C W A N b) => Kd.C_string (P := Try.prog) (dst := 9) (c := c) Try.underlying23 Try.underlying5 Try.underlying9 h
              rw [hsb] at hcvb
              have hdr14 := Aside0.mk (below_drew (Below.refl w14.heap.size w14))
              have hSb := Aside0.mk (show ∀ W, Below w14.heap.size w14 W → (convert 23 9 (.slice A N c)).run Try.prog W = .ok (.string sb) W from fun W hW => hcvb W (Kd.C_below hC14.out hW))
              obtain ⟨Kn, hKn⟩ := hnum.out
              obtain ⟨Kw, hKw⟩ := hwh.out
              have hnc := Aside0.mk (fun W (hW : Below w14.heap.size w14 W) => (show Calls Try.prog 27 #[.slice A N c] W (fun e w' => e = .returned (.int .i64 kb) ∧ Drawn0 W w') from by
                have h := PBerNumbers.cardcaselaw05_number.calls Kn A c b kb W (by rw [hN'.out]; exact Kd.C_below hC14.out hW) (by rw [hN'.out]; exact hc) hKn
                rw [hN'.out] at h
                exact h))
              have hwc := Aside0.mk (fun W => PBerNumbers.cardcaseref05_Whole.calls Kw kb wl W hKw)
              obtain ⟨ml, hml⟩ : ∃ ml, wl.length = ml := ⟨_, rfl⟩
              have hcvw : Aside0 (∀ A' c W, kU.C W A' wl.length wl → (convert 23 9 (.slice A' ml c)).run Try.prog W = .ok (.string sw) W) := ⟨fun A' c W h => by
                have := Kd.C_string (P := Try.prog) (dst := 9) (c := c) Try.underlying23 Try.underlying5 Try.underlying9 h
                rwa [hml, hsw.out] at this⟩
              replace hml := Aside0.mk hml
              have hss : (sw.toList == sb.toList) = true := by rw [← hsw.out, ← hsb, hfit.out]; simp
              clear hKn hKw hcvb
              replace hsb := Aside0.mk hsb
              refine start_ (n := 18) (S := fun w' => (convert 23 9 (.slice A N c)).run Try.prog w' = .ok (.string sb) w') (ds := []) #[false, false, false, false, false, false, false, false, false, false, false, false, false, false, false, false, false, false] (by kernel_rfl) rfl rfl (hSb.out _ hdr14.out) (fun hHeld => ?_)
              refine pure_ (i := 0) (N := some 117) (v := ?_) (a' := ?_) #[true, false, false, false, false, false, false, false, false, false, false, false, false, false, false, false, false, false] rfl rfl (by kernel_rfl) (fun _ _ _ h => h) (Or.inl ⟨by rfl, ?_⟩) ?_ ?_
              rotate_left
              · intro w'
                go_simp
                with_reducible rfl
              rotate_left
              · simp only [Act.put, List.setIfInBounds_toArray, List.set_cons_zero, List.set_cons_succ, i64_w, i32_w]
                rfl
              refine pure_ (i := 1) (N := some 118) (v := ?_) (a' := ?_) #[true, true, false, false, false, false, false, false, false, false, false, false, false, false, false, false, false, false] rfl rfl (by kernel_rfl) (fun _ _ _ h => h) (Or.inl ⟨by rfl, ?_⟩) ?_ ?_
              rotate_left
              · intro w'
                go_simp
                with_reducible rfl
              rotate_left
              · simp only [Act.put, List.setIfInBounds_toArray, List.set_cons_zero, List.set_cons_succ, i64_w, i32_w]
                rfl
              refine pure_ (i := 2) (N := some 119) (v := ?_) (a' := ?_) #[true, true, true, false, false, false, false, false, false, false, false, false, false, false, false, false, false, false] rfl rfl (by kernel_rfl) (fun _ _ _ h => h) (Or.inl ⟨by rfl, ?_⟩) ?_ ?_
              rotate_left
              · intro w'
                go_simp
                with_reducible rfl
              rotate_left
              · simp only [Act.put, List.setIfInBounds_toArray, List.set_cons_zero, List.set_cons_succ, i64_w, i32_w]
                rfl
              refine pure_ (i := 3) (N := some 120) (v := ?_) (a' := ?_) #[true, true, true, true, false, false, false, false, false, false, false, false, false, false, false, false, false, false] rfl rfl (by kernel_rfl) (fun _ _ _ h => h) (Or.inl ⟨by rfl, ?_⟩) ?_ ?_
              rotate_left
              · intro w'
                go_simp
                with_reducible rfl
              rotate_left
              · simp only [Act.put, List.setIfInBounds_toArray, List.set_cons_zero, List.set_cons_succ, i64_w, i32_w]
                rfl
              refine pure_ (i := 4) (N := some 121) (v := ?_) (a' := ?_) #[true, true, true, true, true, false, false, false, false, false, false, false, false, false, false, false, false, false] rfl rfl (by kernel_rfl) (fun _ _ _ h => h) (Or.inl ⟨by rfl, ?_⟩) ?_ ?_
              rotate_left
              · intro w'
                go_simp
                with_reducible rfl
              rotate_left
              · simp only [Act.put, List.setIfInBounds_toArray, List.set_cons_zero, List.set_cons_succ, i64_w, i32_w]
                rfl
              refine pure_ (i := 5) (N := some 122) (v := ?_) (a' := ?_) #[true, true, true, true, true, true, false, false, false, false, false, false, false, false, false, false, false, false] rfl rfl (by kernel_rfl) (fun _ _ _ h => h) (Or.inl ⟨by rfl, ?_⟩) ?_ ?_
              rotate_left
              · intro w'
                go_simp
                with_reducible rfl
              rotate_left
              · simp only [Act.put, List.setIfInBounds_toArray, List.set_cons_zero, List.set_cons_succ, i64_w, i32_w]
                rfl
              refine pure_ (i := 6) (N := some 123) (v := ?_) (a' := ?_) #[true, true, true, true, true, true, true, false, false, false, false, false, false, false, false, false, false, false] rfl rfl (by kernel_rfl) (fun _ _ _ h => h) (Or.inl ⟨by rfl, ?_⟩) ?_ ?_
              rotate_left
              · intro w'
                go_simp
                with_reducible rfl
              rotate_left
              · simp only [Act.put, List.setIfInBounds_toArray, List.set_cons_zero, List.set_cons_succ, i64_w, i32_w]
                rfl
              refine pure_ (i := 7) (N := some 124) (v := ?_) (a' := ?_) #[true, true, true, true, true, true, true, true, false, false, false, false, false, false, false, false, false, false] rfl rfl (by kernel_rfl) (fun _ _ _ h => h) (Or.inl ⟨by rfl, ?_⟩) ?_ ?_
              rotate_left
              · intro w'
                go_simp
                with_reducible rfl
              rotate_left
              · simp only [Act.put, List.setIfInBounds_toArray, List.set_cons_zero, List.set_cons_succ, i64_w, i32_w]
                rfl
              refine pure_ (i := 8) (N := some 125) (v := ?_) (a' := ?_) #[true, true, true, true, true, true, true, true, true, false, false, false, false, false, false, false, false, false] rfl rfl (by kernel_rfl) (fun _ _ _ h => h) (Or.inl ⟨by rfl, ?_⟩) ?_ ?_
              rotate_left
              · intro w'
                go_simp
                with_reducible rfl
              rotate_left
              · simp only [Act.put, List.setIfInBounds_toArray, List.set_cons_zero, List.set_cons_succ, i64_w, i32_w]
                rfl
              refine pure_ (i := 9) (N := some 126) (v := ?_) (a' := ?_) #[true, true, true, true, true, true, true, true, true, true, false, false, false, false, false, false, false, false] rfl rfl (by kernel_rfl) (fun _ _ _ h => h) (Or.inl ⟨by rfl, ?_⟩) ?_ ?_
              rotate_left
              · intro w'
                go_simp
                with_reducible rfl
              rotate_left
              · simp only [Act.put, List.setIfInBounds_toArray, List.set_cons_zero, List.set_cons_succ, i64_w, i32_w]
                rfl
              refine pure_ (i := 13) (N := some 130) (v := ?_) (a' := ?_) #[true, true, true, true, true, true, true, true, true, true, false, false, false, true, false, false, false, false] rfl rfl (by kernel_rfl) (fun _ _ _ h => h) (Or.inl ⟨by rfl, ?_⟩) ?_ ?_
              rotate_left
              · intro w'
                go_simp
                with_reducible rfl
              rotate_left
              · simp only [Act.put, List.setIfInBounds_toArray, List.set_cons_zero, List.set_cons_succ, i64_w, i32_w]
                rfl
              refine take_ (i := 14) (N := some 131) (v := ?_) (a' := ?_) #[true, true, true, true, true, true, true, true, true, true, false, false, false, true, true, false, false, false] rfl rfl (by kernel_rfl) (fun _ _ _ h => h) (Or.inl ⟨by rfl, ?_⟩) hHeld ?_ ?_
              rotate_left
              · intro w' s0
                go_simp
                with_reducible rfl
              rotate_left
              · simp only [Act.put, List.setIfInBounds_toArray, List.set_cons_zero, List.set_cons_succ, i64_w, i32_w]
                rfl
              refine one_ (i := 10) (N := some 127) #[true, true, true, true, true, true, true, true, true, true, true, false, false, true, true, false, false, false] rfl rfl (by kernel_rfl) (by decide) (fun K hK => ?_)
              refine goes_ Try.func27 (by kernel_rfl) rfl #[.slice A N c] (by rfl) rfl rfl (by simp only [List.map_toArray, List.map_cons, List.map_nil]; rfl) ?_
              with_reducible refine ((hnc.out _ hdr14.out)).mono ?_
              rintro e w15 ⟨rfl, hd15⟩
              refine ⟨_, rfl, ?_⟩
              have h1415 := Aside0.mk (below_then hdr14.out hdr14.out.size hd15.below)
              clear hd15
              refine hK.out _ _ (hSb.out _ h1415.out) (fun hHeld => ?_)
              clear hK K
              refine norm_ (a' := ?_) ?_ ?_
              rotate_left
              · show Act.put _ (some 127) _ = _
                simp only [Act.put, List.setIfInBounds_toArray, List.set_cons_zero, List.set_cons_succ, i64_w, i32_w]
                rfl
              refine one_ (i := 11) (N := some 128) #[true, true, true, true, true, true, true, true, true, true, true, true, false, true, true, false, false, false] rfl rfl (by kernel_rfl) (by decide) (fun K hK => ?_)
              refine goes_ Try.func25 (by kernel_rfl) rfl #[.int .i64 kb] (by rfl) rfl rfl (by simp only [List.map_toArray, List.map_cons, List.map_nil]; rfl) ?_
              with_reducible refine ((hwc.out _)).mono ?_
              rintro e w16 ⟨v16, rfl, hR16, hb16⟩
              refine ⟨_, rfl, ?_⟩
              obtain ⟨A16, c16, rfl⟩ := Kd.R_slice hR16
              have hcu := hcvw.out A16 c16 w16 (Kd.R_reads' hR16).2.2
              rw [hml.out]
              have h1416 := Aside0.mk (below_then h1415.out h1415.out.size hb16)
              clear hR16 hb16
              refine hK.out _ _ (hSb.out _ h1416.out) (fun hHeld => ?_)
              clear hK K
              refine norm_ (a' := ?_) ?_ ?_
              rotate_left
              · show Act.put _ (some 128) _ = _
                simp only [Act.put, List.setIfInBounds_toArray, List.set_cons_zero, List.set_cons_succ, i64_w, i32_w]
                rfl
              refine one_ (i := 12) (N := some 129) #[true, true, true, true, true, true, true, true, true, true, true, true, true, true, true, false, false, false] rfl rfl (by kernel_rfl) (by decide) (fun K hK => ?_)
              refine value_ (w1 := ?_) (v := ?_) (by rfl) rfl ?_ ?_
              rotate_left 2
              · go_simp
                constructor
                · rfl
                · rfl
              refine hK.out _ _ (hSb.out _ h1416.out) (fun hHeld => ?_)
              clear hK K
              refine norm_ (a' := ?_) ?_ ?_
              rotate_left
              · show Act.put _ (some 129) _ = _
                simp only [Act.put, List.setIfInBounds_toArray, List.set_cons_zero, List.set_cons_succ, i64_w, i32_w]
                rfl
              refine pure_ (i := 15) (N := some 132) (v := ?_) (a' := ?_) #[true, true, true, true, true, true, true, true, true, true, true, true, true, true, true, true, false, false] rfl rfl (by kernel_rfl) (fun _ _ _ h => h) (Or.inl ⟨by rfl, ?_⟩) ?_ ?_
              rotate_left
              · intro w'
                go_simp
                with_reducible rfl
              rotate_left
              · simp only [Act.put, List.setIfInBounds_toArray, List.set_cons_zero, List.set_cons_succ, i64_w, i32_w]
                rfl
              refine pure_ (i := 16) (N := some 133) (v := ?_) (a' := ?_) #[true, true, true, true, true, true, true, true, true, true, true, true, true, true, true, true, true, false] rfl rfl (by kernel_rfl) (fun _ _ _ h => h) (Or.inl ⟨by rfl, ?_⟩) ?_ ?_
              rotate_left
              · intro w'
                go_simp
                with_reducible rfl
              rotate_left
              · simp only [Act.put, List.setIfInBounds_toArray, List.set_cons_zero, List.set_cons_succ, i64_w, i32_w]
                rfl
              refine pure_ (i := 17) (N := some 16) (v := ?_) (a' := ?_) #[true, true, true, true, true, true, true, true, true, true, true, true, true, true, true, true, true, true] rfl rfl (by kernel_rfl) (fun _ _ _ h => h) (Or.inl ⟨by rfl, ?_⟩) ?_ ?_
              rotate_left
              · intro w'
                go_simp
                with_reducible rfl
              rotate_left
              · simp only [Act.put, List.setIfInBounds_toArray, List.set_cons_zero, List.set_cons_succ, i64_w, i32_w]
                rfl
              refine done_ (by kernel_rfl) ?_
              have h116 := Aside0.mk (below_then h114.out h114.out.size h1416.out)
              go_wp2_with fail
              refine (hnc.out _ h1416.out).mono ?_
              rintro e w17 ⟨rfl, hd17⟩
              have h1417 := Aside0.mk (below_then h1416.out h1416.out.size hd17.below)
              have h117 := Aside0.mk (below_then h114.out h114.out.size h1417.out)
              clear hd17
              go_wp2_with fail
              refine (known_calls _).mono ?_
              rintro e w17 ⟨rfl, hb17⟩
              have hbf := Aside0.mk (below_then hb1'.out hb1'.out.size (below_then h117.out h117.out.size hb17))
              clear hb17
              go_wp2_with fail
              go_ret
              exact ⟨rfl, hbf.out⟩
          · have hif : Aside0 (intF ⟨0, 2, false, b, []⟩ = none) := ⟨by rw [hi4.out, if_neg hfit]⟩
            have hN1 : N ≠ 1 := by have := not_one hkb.out hwl.out hb.out hfit; have := hN'.out; omega
            have htf : Aside0 (truthF ⟨0, 2, false, b, []⟩ = none) := ⟨by unfold truthF; rw [if_neg (by rintro ⟨_, h⟩; have h' : b = [0] := h; have := hN'.out; rw [h'] at this; simp at this; omega), if_neg (by rintro ⟨_, h⟩; have h' : b = [255] := h; have := hN'.out; rw [h'] at this; simp at this; omega)]⟩
            replace hfit := Aside0.mk hfit
            have j2 : ((N : Int) == 1) = false := by simp; omega
            clear hN0 hN8 hN1
            have hio := Aside0.mk (show Calls Try.prog 24 #[.agg #[.int .u8 0, .int .u8 2, .bool false, .slice A N c, .slice none 0 0]] w12 (IntEnds none w12) from by
              have h := intof_calls ⟨0, 2, false, b, []⟩ A c none 0 w12 hvy.out hb.out
              rw [hif.out, hN'.out] at h
              exact h)
            have hto := Aside0.mk (fun W (hW : Below w12.heap.size w12 W) => (show Calls Try.prog 26 #[.agg #[.int .u8 0, .int .u8 2, .bool false, .slice A N c, .slice none 0 0]] W (TruthEnds none W) from by
              have h := truthof_calls ⟨0, 2, false, b, []⟩ A c none 0 W (hvy.out.below hW)
              rw [htf.out, hN'.out] at h
              exact h))
            go_wp2_with fail
            refine hio.out.mono ?_
            rintro e w13 ⟨rfl, hb13⟩
            dsimp only
            have h113 := Aside0.mk (below_then h112.out h112.out.size hb13)
            obtain ⟨k0, k1, k2, k3, k4⟩ := (hX12'.out.below hb13).cells
            have hto' := Aside0.mk (hto.out w13 hb13)
            clear hio hto hb13 e0 e1 e2 e3 e4 f0 f1 f2 f3 f4 g0 g1 g2 g3 g4
            go_wp2_with fail
            refine hto'.out.mono ?_
            rintro e w14 ⟨rfl, hb14⟩
            dsimp only
            have h114 := Aside0.mk (below_then h113.out h113.out.size hb14)
            have t5 := (hSa.out _ h114.out).2.2
            have hC14 := Aside0.mk (Kd.C_below hC1b.out h114.out)
            clear hto' hb14 h113 k0 k1 k2 k3 k4 hC12
            go_wp2_with fail
            obtain ⟨sb, hsb⟩ : ∃ sb, strOfNums b = sb := ⟨_, rfl⟩
            have hcvb := fun W (h : kU.C W A N b) => Kd.C_string (P := Try.prog) (dst := 9) (c := c) Try.underlying23 Try.underlying5 Try.underlying9 h
            rw [hsb] at hcvb
            have hdr14 := Aside0.mk (below_drew (Below.refl w14.heap.size w14))
            have hSb := Aside0.mk (show ∀ W, Below w14.heap.size w14 W → (convert 23 9 (.slice A N c)).run Try.prog W = .ok (.string sb) W from fun W hW => hcvb W (Kd.C_below hC14.out hW))
            obtain ⟨Kn, hKn⟩ := hnum.out
            obtain ⟨Kw, hKw⟩ := hwh.out
            have hnc := Aside0.mk (fun W (hW : Below w14.heap.size w14 W) => (show Calls Try.prog 27 #[.slice A N c] W (fun e w' => e = .returned (.int .i64 kb) ∧ Drawn0 W w') from by
              have h := PBerNumbers.cardcaselaw05_number.calls Kn A c b kb W (by rw [hN'.out]; exact Kd.C_below hC14.out hW) (by rw [hN'.out]; exact hc) hKn
              rw [hN'.out] at h
              exact h))
            have hwc := Aside0.mk (fun W => PBerNumbers.cardcaseref05_Whole.calls Kw kb wl W hKw)
            obtain ⟨ml, hml⟩ : ∃ ml, wl.length = ml := ⟨_, rfl⟩
            have hcvw : Aside0 (∀ A' c W, kU.C W A' wl.length wl → (convert 23 9 (.slice A' ml c)).run Try.prog W = .ok (.string sw) W) := ⟨fun A' c W h => by
              have := Kd.C_string (P := Try.prog) (dst := 9) (c := c) Try.underlying23 Try.underlying5 Try.underlying9 h
              rwa [hml, hsw.out] at this⟩
            replace hml := Aside0.mk hml
            have hss : (sw.toList == sb.toList) = false := by rw [Bool.eq_false_iff]; intro h; rw [← hsw.out, ← hsb] at h; exact hfit.out ((str_eq _ _ hbw.out hb.out).1 h)
            clear hKn hKw hcvb
            replace hsb := Aside0.mk hsb
            refine start_ (n := 18) (S := fun w' => (convert 23 9 (.slice A N c)).run Try.prog w' = .ok (.string sb) w') (ds := []) #[false, false, false, false, false, false, false, false, false, false, false, false, false, false, false, false, false, false] (by kernel_rfl) rfl rfl (hSb.out _ hdr14.out) (fun hHeld => ?_)
            refine pure_ (i := 0) (N := some 117) (v := ?_) (a' := ?_) #[true, false, false, false, false, false, false, false, false, false, false, false, false, false, false, false, false, false] rfl rfl (by kernel_rfl) (fun _ _ _ h => h) (Or.inl ⟨by rfl, ?_⟩) ?_ ?_
            rotate_left
            · intro w'
              go_simp
              with_reducible rfl
            rotate_left
            · simp only [Act.put, List.setIfInBounds_toArray, List.set_cons_zero, List.set_cons_succ, i64_w, i32_w]
              rfl
            refine pure_ (i := 1) (N := some 118) (v := ?_) (a' := ?_) #[true, true, false, false, false, false, false, false, false, false, false, false, false, false, false, false, false, false] rfl rfl (by kernel_rfl) (fun _ _ _ h => h) (Or.inl ⟨by rfl, ?_⟩) ?_ ?_
            rotate_left
            · intro w'
              go_simp
              with_reducible rfl
            rotate_left
            · simp only [Act.put, List.setIfInBounds_toArray, List.set_cons_zero, List.set_cons_succ, i64_w, i32_w]
              rfl
            refine pure_ (i := 2) (N := some 119) (v := ?_) (a' := ?_) #[true, true, true, false, false, false, false, false, false, false, false, false, false, false, false, false, false, false] rfl rfl (by kernel_rfl) (fun _ _ _ h => h) (Or.inl ⟨by rfl, ?_⟩) ?_ ?_
            rotate_left
            · intro w'
              go_simp
              with_reducible rfl
            rotate_left
            · simp only [Act.put, List.setIfInBounds_toArray, List.set_cons_zero, List.set_cons_succ, i64_w, i32_w]
              rfl
            refine pure_ (i := 3) (N := some 120) (v := ?_) (a' := ?_) #[true, true, true, true, false, false, false, false, false, false, false, false, false, false, false, false, false, false] rfl rfl (by kernel_rfl) (fun _ _ _ h => h) (Or.inl ⟨by rfl, ?_⟩) ?_ ?_
            rotate_left
            · intro w'
              go_simp
              with_reducible rfl
            rotate_left
            · simp only [Act.put, List.setIfInBounds_toArray, List.set_cons_zero, List.set_cons_succ, i64_w, i32_w]
              rfl
            refine pure_ (i := 4) (N := some 121) (v := ?_) (a' := ?_) #[true, true, true, true, true, false, false, false, false, false, false, false, false, false, false, false, false, false] rfl rfl (by kernel_rfl) (fun _ _ _ h => h) (Or.inl ⟨by rfl, ?_⟩) ?_ ?_
            rotate_left
            · intro w'
              go_simp
              with_reducible rfl
            rotate_left
            · simp only [Act.put, List.setIfInBounds_toArray, List.set_cons_zero, List.set_cons_succ, i64_w, i32_w]
              rfl
            refine pure_ (i := 5) (N := some 122) (v := ?_) (a' := ?_) #[true, true, true, true, true, true, false, false, false, false, false, false, false, false, false, false, false, false] rfl rfl (by kernel_rfl) (fun _ _ _ h => h) (Or.inl ⟨by rfl, ?_⟩) ?_ ?_
            rotate_left
            · intro w'
              go_simp
              with_reducible rfl
            rotate_left
            · simp only [Act.put, List.setIfInBounds_toArray, List.set_cons_zero, List.set_cons_succ, i64_w, i32_w]
              rfl
            refine pure_ (i := 6) (N := some 123) (v := ?_) (a' := ?_) #[true, true, true, true, true, true, true, false, false, false, false, false, false, false, false, false, false, false] rfl rfl (by kernel_rfl) (fun _ _ _ h => h) (Or.inl ⟨by rfl, ?_⟩) ?_ ?_
            rotate_left
            · intro w'
              go_simp
              with_reducible rfl
            rotate_left
            · simp only [Act.put, List.setIfInBounds_toArray, List.set_cons_zero, List.set_cons_succ, i64_w, i32_w]
              rfl
            refine pure_ (i := 7) (N := some 124) (v := ?_) (a' := ?_) #[true, true, true, true, true, true, true, true, false, false, false, false, false, false, false, false, false, false] rfl rfl (by kernel_rfl) (fun _ _ _ h => h) (Or.inl ⟨by rfl, ?_⟩) ?_ ?_
            rotate_left
            · intro w'
              go_simp
              with_reducible rfl
            rotate_left
            · simp only [Act.put, List.setIfInBounds_toArray, List.set_cons_zero, List.set_cons_succ, i64_w, i32_w]
              rfl
            refine pure_ (i := 8) (N := some 125) (v := ?_) (a' := ?_) #[true, true, true, true, true, true, true, true, true, false, false, false, false, false, false, false, false, false] rfl rfl (by kernel_rfl) (fun _ _ _ h => h) (Or.inl ⟨by rfl, ?_⟩) ?_ ?_
            rotate_left
            · intro w'
              go_simp
              with_reducible rfl
            rotate_left
            · simp only [Act.put, List.setIfInBounds_toArray, List.set_cons_zero, List.set_cons_succ, i64_w, i32_w]
              rfl
            refine pure_ (i := 9) (N := some 126) (v := ?_) (a' := ?_) #[true, true, true, true, true, true, true, true, true, true, false, false, false, false, false, false, false, false] rfl rfl (by kernel_rfl) (fun _ _ _ h => h) (Or.inl ⟨by rfl, ?_⟩) ?_ ?_
            rotate_left
            · intro w'
              go_simp
              with_reducible rfl
            rotate_left
            · simp only [Act.put, List.setIfInBounds_toArray, List.set_cons_zero, List.set_cons_succ, i64_w, i32_w]
              rfl
            refine pure_ (i := 13) (N := some 130) (v := ?_) (a' := ?_) #[true, true, true, true, true, true, true, true, true, true, false, false, false, true, false, false, false, false] rfl rfl (by kernel_rfl) (fun _ _ _ h => h) (Or.inl ⟨by rfl, ?_⟩) ?_ ?_
            rotate_left
            · intro w'
              go_simp
              with_reducible rfl
            rotate_left
            · simp only [Act.put, List.setIfInBounds_toArray, List.set_cons_zero, List.set_cons_succ, i64_w, i32_w]
              rfl
            refine take_ (i := 14) (N := some 131) (v := ?_) (a' := ?_) #[true, true, true, true, true, true, true, true, true, true, false, false, false, true, true, false, false, false] rfl rfl (by kernel_rfl) (fun _ _ _ h => h) (Or.inl ⟨by rfl, ?_⟩) hHeld ?_ ?_
            rotate_left
            · intro w' s0
              go_simp
              with_reducible rfl
            rotate_left
            · simp only [Act.put, List.setIfInBounds_toArray, List.set_cons_zero, List.set_cons_succ, i64_w, i32_w]
              rfl
            refine one_ (i := 10) (N := some 127) #[true, true, true, true, true, true, true, true, true, true, true, false, false, true, true, false, false, false] rfl rfl (by kernel_rfl) (by decide) (fun K hK => ?_)
            refine goes_ Try.func27 (by kernel_rfl) rfl #[.slice A N c] (by rfl) rfl rfl (by simp only [List.map_toArray, List.map_cons, List.map_nil]; rfl) ?_
            with_reducible refine ((hnc.out _ hdr14.out)).mono ?_
            rintro e w15 ⟨rfl, hd15⟩
            refine ⟨_, rfl, ?_⟩
            have h1415 := Aside0.mk (below_then hdr14.out hdr14.out.size hd15.below)
            clear hd15
            refine hK.out _ _ (hSb.out _ h1415.out) (fun hHeld => ?_)
            clear hK K
            refine norm_ (a' := ?_) ?_ ?_
            rotate_left
            · show Act.put _ (some 127) _ = _
              simp only [Act.put, List.setIfInBounds_toArray, List.set_cons_zero, List.set_cons_succ, i64_w, i32_w]
              rfl
            refine one_ (i := 11) (N := some 128) #[true, true, true, true, true, true, true, true, true, true, true, true, false, true, true, false, false, false] rfl rfl (by kernel_rfl) (by decide) (fun K hK => ?_)
            refine goes_ Try.func25 (by kernel_rfl) rfl #[.int .i64 kb] (by rfl) rfl rfl (by simp only [List.map_toArray, List.map_cons, List.map_nil]; rfl) ?_
            with_reducible refine ((hwc.out _)).mono ?_
            rintro e w16 ⟨v16, rfl, hR16, hb16⟩
            refine ⟨_, rfl, ?_⟩
            obtain ⟨A16, c16, rfl⟩ := Kd.R_slice hR16
            have hcu := hcvw.out A16 c16 w16 (Kd.R_reads' hR16).2.2
            rw [hml.out]
            have h1416 := Aside0.mk (below_then h1415.out h1415.out.size hb16)
            clear hR16 hb16
            refine hK.out _ _ (hSb.out _ h1416.out) (fun hHeld => ?_)
            clear hK K
            refine norm_ (a' := ?_) ?_ ?_
            rotate_left
            · show Act.put _ (some 128) _ = _
              simp only [Act.put, List.setIfInBounds_toArray, List.set_cons_zero, List.set_cons_succ, i64_w, i32_w]
              rfl
            refine one_ (i := 12) (N := some 129) #[true, true, true, true, true, true, true, true, true, true, true, true, true, true, true, false, false, false] rfl rfl (by kernel_rfl) (by decide) (fun K hK => ?_)
            refine value_ (w1 := ?_) (v := ?_) (by rfl) rfl ?_ ?_
            rotate_left 2
            · go_simp
              constructor
              · rfl
              · rfl
            refine hK.out _ _ (hSb.out _ h1416.out) (fun hHeld => ?_)
            clear hK K
            refine norm_ (a' := ?_) ?_ ?_
            rotate_left
            · show Act.put _ (some 129) _ = _
              simp only [Act.put, List.setIfInBounds_toArray, List.set_cons_zero, List.set_cons_succ, i64_w, i32_w]
              rfl
            refine pure_ (i := 15) (N := some 132) (v := ?_) (a' := ?_) #[true, true, true, true, true, true, true, true, true, true, true, true, true, true, true, true, false, false] rfl rfl (by kernel_rfl) (fun _ _ _ h => h) (Or.inl ⟨by rfl, ?_⟩) ?_ ?_
            rotate_left
            · intro w'
              go_simp
              with_reducible rfl
            rotate_left
            · simp only [Act.put, List.setIfInBounds_toArray, List.set_cons_zero, List.set_cons_succ, i64_w, i32_w]
              rfl
            refine pure_ (i := 16) (N := some 133) (v := ?_) (a' := ?_) #[true, true, true, true, true, true, true, true, true, true, true, true, true, true, true, true, true, false] rfl rfl (by kernel_rfl) (fun _ _ _ h => h) (Or.inl ⟨by rfl, ?_⟩) ?_ ?_
            rotate_left
            · intro w'
              go_simp
              with_reducible rfl
            rotate_left
            · simp only [Act.put, List.setIfInBounds_toArray, List.set_cons_zero, List.set_cons_succ, i64_w, i32_w]
              rfl
            refine pure_ (i := 17) (N := some 16) (v := ?_) (a' := ?_) #[true, true, true, true, true, true, true, true, true, true, true, true, true, true, true, true, true, true] rfl rfl (by kernel_rfl) (fun _ _ _ h => h) (Or.inl ⟨by rfl, ?_⟩) ?_ ?_
            rotate_left
            · intro w'
              go_simp
              with_reducible rfl
            rotate_left
            · simp only [Act.put, List.setIfInBounds_toArray, List.set_cons_zero, List.set_cons_succ, i64_w, i32_w]
              rfl
            refine done_ (by kernel_rfl) ?_
            have h116 := Aside0.mk (below_then h114.out h114.out.size h1416.out)
            go_wp2_with fail
            refine (known_calls _).mono ?_
            rintro e w17 ⟨rfl, hb17⟩
            have hbf := Aside0.mk (below_then hb1'.out hb1'.out.size (below_then h116.out h116.out.size hb17))
            clear hb17
            go_wp2_with fail
            go_ret
            exact ⟨rfl, hbf.out⟩
end Go.Proofs.Ytlmelbnmfhpacaa
