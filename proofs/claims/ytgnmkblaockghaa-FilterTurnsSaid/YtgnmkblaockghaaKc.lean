/- FilterTurns. -/
import Derived.Test.YtgnmkblaockghaaKb
set_option linter.unusedVariables false
set_option linter.unusedSimpArgs false
namespace Go.Proofs.Ytgnmkblaockghaa
open Go.RowKit Go.Shelf Go.Deep Go.ChangeShapes Go.WideShapes Go.Proofs.YtgnmkblaockghaaW.PrintWords Go.Proofs.YtgnmkblaockghaaW.PrintMore Go.Proofs.YtgnmkblaockghaaW.PrintLast

/-- No text. -/
abbrev no : ByteArray := ⟨#[]⟩
/-- A filter over others. -/
abbrev over (k : Int) (l : List Ft) : Ft := ⟨k, l, no, no⟩
theorem wF_over (k : Int) (l : List Ft) : wF (over k l) = 1 + wFs l := by rw [wF_of]; show 1 + 0 + 0 + wFs l = 1 + wFs l; omega
/-- What is answered: the truth or an error. -/
theorem meansR_cases (x : Ft) (le : List At) : (meansR x le [] = (meansT (getF [] [] le) x, 0)) ∨ meansR x le [] = (false, 2) := by
  unfold meansR
  rw [moreOk]
  dsimp only
  split
  · exact .inl rfl
  · exact .inr rfl
theorem turn_1 (g : ByteArray → Fld) (a b : Ft) : meansT g (over 3 [over 1 [a, b]]) = meansT g (over 2 [over 3 [a], over 3 [b]]) := by
  simp only [meansT, meansHd, meansAll, meansAny]
  cases meansT g a <;> cases meansT g b <;> simp
theorem turn_2 (g : ByteArray → Fld) (a b : Ft) : meansT g (over 3 [over 2 [a, b]]) = meansT g (over 1 [over 3 [a], over 3 [b]]) := by
  simp only [meansT, meansHd, meansAll, meansAny]
  cases meansT g a <;> cases meansT g b <;> simp
theorem turn_a1 (g : ByteArray → Fld) (a : Ft) : meansT g (over 1 [a]) = meansT g a := by
  simp only [meansT, meansHd, meansAll, meansAny]
  simp
theorem turn_a2 (g : ByteArray → Fld) (a : Ft) : meansT g (over 2 [a]) = meansT g a := by
  simp only [meansT, meansHd, meansAll, meansAny]
  simp
theorem turn_n1 (g : ByteArray → Fld) : meansT g (over 1 []) = true := by
  simp only [meansT, meansHd, meansAll, meansAny]
  simp
theorem turn_n2 (g : ByteArray → Fld) : meansT g (over 2 []) = false := by
  simp only [meansT, meansHd, meansAll, meansAny]
  simp
/-- What the five questions of a turn answer fits. -/
theorem turn_fits (k o : Int) (hk : k = 1 ∧ o = 2 ∨ k = 2 ∧ o = 1) (a b : Ft) (le : List At) :
    (((meansR (over 3 [over k [a, b]]) le []).2 == 0) && (((meansR (over o [over 3 [a], over 3 [b]]) le []).2 == 0) && ((meansR (over 3 [over k [a, b]]) le []).1 != (meansR (over o [over 3 [a], over 3 [b]]) le []).1))) = false
    ∧ (((meansR (over k [a]) le []).2 == 0) && (((meansR a le []).2 == 0) && ((meansR (over k [a]) le []).1 != (meansR a le []).1))) = false
    ∧ (((meansR (over k []) le []).2 == 0) && ((meansR (over k []) le []).1 != decide (k = 1))) = false := by
  have hx := meansR_cases (over 3 [over k [a, b]]) le
  have hy := meansR_cases (over o [over 3 [a], over 3 [b]]) le
  have hu := meansR_cases (over k [a]) le
  have hv := meansR_cases a le
  have hn := meansR_cases (over k []) le
  refine ⟨?_, ?_, ?_⟩
  · rcases hx with h | h <;> rcases hy with h' | h' <;> rw [h, h'] <;> try rfl
    rcases hk with ⟨rfl, rfl⟩ | ⟨rfl, rfl⟩
    · rw [turn_1]; simp
    · rw [turn_2]; simp
  · rcases hu with h | h <;> rcases hv with h' | h' <;> rw [h, h'] <;> try rfl
    rcases hk with ⟨rfl, rfl⟩ | ⟨rfl, rfl⟩
    · rw [turn_a1]; simp
    · rw [turn_a2]; simp
  · rcases hn with h | h <;> rw [h] <;> try rfl
    rcases hk with ⟨rfl, rfl⟩ | ⟨rfl, rfl⟩
    · rw [turn_n1]; rfl
    · rw [turn_n2]; rfl
/-- A row of one filter in a block. -/
theorem kF_one {w : World} {g : Nat} {x : Ft} {A : Option Addr} {c : Nat} (h : w.heap[g]? = some (.cells #[.int .i64 x.f0, .slice A x.f1.length c, .string x.f2, .string x.f3] 25 (0, 0))) (hv : Fv w x A c) : kF.C w (some ⟨g, 0, none⟩) 1 [x] :=
  C_block (d := kF) h [x] (by simp) (fun j hj => by
    obtain rfl : j = 0 := by simp at hj; omega
    exact ⟨[.int .i64 x.f0, .slice A x.f1.length c, .string x.f2, .string x.f3], rfl, hv.K, fun i u hi => by
      match i, hi with
      | 0, hi => exact hi
      | 1, hi => exact hi
      | 2, hi => exact hi
      | 3, hi => exact hi⟩)
/-- A row of two. -/
theorem kF_two {w : World} {g : Nat} {x y : Ft} {A B : Option Addr} {c d : Nat} (h : w.heap[g]? = some (.cells #[.int .i64 x.f0, .slice A x.f1.length c, .string x.f2, .string x.f3, .int .i64 y.f0, .slice B y.f1.length d, .string y.f2, .string y.f3] 25 (0, 0))) (hv : Fv w x A c) (hu : Fv w y B d) : kF.C w (some ⟨g, 0, none⟩) 2 [x, y] :=
  C_block (d := kF) h [x, y] (by simp) (fun j hj => by
    have hj2 : j < 2 := by simpa using hj
    match j, hj2 with
    | 0, _ =>
      exact ⟨[.int .i64 x.f0, .slice A x.f1.length c, .string x.f2, .string x.f3], rfl, hv.K, fun i u hi => by
        match i, hi with
        | 0, hi => exact hi
        | 1, hi => exact hi
        | 2, hi => exact hi
        | 3, hi => exact hi⟩
    | 1, _ =>
      exact ⟨[.int .i64 y.f0, .slice B y.f1.length d, .string y.f2, .string y.f3], rfl, hu.K, fun i u hi => by
        match i, hi with
        | 0, hi => exact hi
        | 1, hi => exact hi
        | 2, hi => exact hi
        | 3, hi => exact hi⟩)
theorem kF_two_fst {w : World} {g : Nat} {x y : Ft} (h : kF.C w (some ⟨g, 0, none⟩) 2 [x, y]) : kF.C w (some ⟨g, 0, none⟩) 1 [x] := Kd.C_take (xs := [x, y]) (m := 1) h (by simp)
theorem kF_two_snd {w : World} {g : Nat} {x y : Ft} (h : kF.C w (some ⟨g, 0, none⟩) 2 [x, y]) : kF.C w (some ⟨g, 4, none⟩) 1 [y] := by
  have := Kd.C_drop (xs := [x, y]) (m := 1) (c := 2) h (by simp) (by simp)
  rw [if_neg (by decide)] at this
  exact this
/-- What Means answers without more attributes. -/
theorem means0 (x : Ft) (A : Option Addr) (c : Nat) (le : List At) (Ae : Option Addr) (ce : Nat) (w : World) (hv : Fv w x A c) (hw : wF x ≤ 12000) (he : MildE le) (hCe : kA.C w Ae le.length le) :
    Calls Try.prog 13 #[fv x A c, .slice Ae le.length ce, .slice none 0 0] w fun e w' => e = .returned (.tuple #[.bool (meansR x le []).1, .int .i64 (meansR x le []).2]) ∧ Below w.heap.size w w' :=
  Means_calls x A c le [] Ae none ce 0 w hv hw he ⟨by simp, fun a ha => by cases ha⟩ hCe (Kd.C_nil kA w)
theorem slice_fst (B : Nat) : ∀ w', (Instr.slice 23 (.slice (some ⟨B, 0, none⟩) 2 2) none (some (.int .i64 1)) none).run Try.prog w' = .ok (.slice (some ⟨B, 0, none⟩) 1 2) w' := by
  intro w'
  rw [run_slice_h (P := Try.prog) (w := w') 23 (some ⟨B, 0, none⟩) 2 2 (by kernel_rfl) .i64 1 (by omega) (by omega)]
  rw [show (Go.sizeOf (Try.prog.elem 23)).run Try.prog w' = .ok 4 w' by kernel_rfl]
  rfl
theorem slice_snd (B : Nat) : ∀ w', (Instr.slice 23 (.slice (some ⟨B, 0, none⟩) 2 2) (some (.int .i64 1)) none none).run Try.prog w' = .ok (.slice (some ⟨B, 4, none⟩) 1 1) w' := by
  intro w'
  rw [run_slice_l (P := Try.prog) (w := w') 23 (some ⟨B, 0, none⟩) 2 2 (by kernel_rfl) .i64 1 (by omega) (by omega)]
  rw [show (Go.sizeOf (Try.prog.elem 23)).run Try.prog w' = .ok 4 w' by kernel_rfl]
  rfl
set_option maxRecDepth 20000 in
set_option maxHeartbeats 16000000 in
theorem filterTurns_walk (a b : Ft) (A : Option Addr) (c : Nat) (A' : Option Addr) (c' : Nat) (le : List At) (Ae : Option Addr) (ce : Nat) (w : World) (hv : Fv w a A c) (hu : Fv w b A' c') (hce : le.length ≤ ce) (hCe : kA.C w Ae le.length le) :
    Calls Try.prog 5 #[fv a A c, fv b A' c', .slice Ae le.length ce] w fun e w' => e = .returned (.bool true) ∧ Below w.heap.size w w' := by
  obtain ⟨V, hV⟩ : ∃ V, w.heap.size = V := ⟨_, rfl⟩
  have hb1 := below_alloc (Below.refl w.heap.size w) (.cells #[.int .i64 a.f0, .slice A a.f1.length c, .string a.f2, .string a.f3] 25)
  have hX1 := fbox_new w 25 (.int .i64 a.f0) (.slice A a.f1.length c) (.string a.f2) (.string a.f3)
  obtain ⟨w1, hw1⟩ : ∃ w1, w.alloc (.cells #[.int .i64 a.f0, .slice A a.f1.length c, .string a.f2, .string a.f3] 25) = w1 := ⟨_, rfl⟩
  rw [hw1] at hb1 hX1
  rw [hV] at hX1
  obtain ⟨U, hU⟩ : ∃ U, w1.heap.size = U := ⟨_, rfl⟩
  have hb2 := below_alloc (Below.refl w1.heap.size w1) (.cells #[.int .i64 b.f0, .slice A' b.f1.length c', .string b.f2, .string b.f3] 25)
  have hY2 := fbox_new w1 25 (.int .i64 b.f0) (.slice A' b.f1.length c') (.string b.f2) (.string b.f3)
  obtain ⟨w2, hw2⟩ : ∃ w2, w1.alloc (.cells #[.int .i64 b.f0, .slice A' b.f1.length c', .string b.f2, .string b.f3] 25) = w2 := ⟨_, rfl⟩
  rw [hw2] at hb2 hY2
  rw [hU] at hY2
  have hX2 := hX1.below hb2
  have hbw := below_then hb1 hb1.size hb2
  have hC := Aside0.mk (fun W (h : Below w2.heap.size w2 W) => And.intro (hX2.below h).cells (hY2.below h).cells)
  have hva := Aside0.mk (fun W (h : Below w2.heap.size w2 W) => (hv.below hbw).below h)
  have hvb := Aside0.mk (fun W (h : Below w2.heap.size w2 W) => (hu.below hbw).below h)
  have hee := Aside0.mk (fun W (h : Below w2.heap.size w2 W) => Kd.C_below (Kd.C_below hCe hbw) h)
  have hz := Aside0.mk (Below.refl w2.heap.size w2)
  have hbw' := Aside0.mk (fun W (h : Below w2.heap.size w2 W) => (show Below w.heap.size w W from below_then hbw hbw.size h))
  obtain ⟨la, hla, hlia⟩ := light_calls a A c w2 (hva.out _ hz.out)
  replace hlia := Aside0.mk hlia
  have hlib := Aside0.mk (fun W (h : Below w2.heap.size w2 W) => light_calls b A' c' W (hvb.out W h))
  have hent := Aside0.mk (fun W (h : Below w2.heap.size w2 W) => (show ∃ b : Bool, (b = true → MildE le) ∧ Calls Try.prog 11 #[.slice Ae le.length ce] W fun e w' => e = .returned (.bool b) ∧ Below W.heap.size W w' by
    obtain ⟨b, h1, h2⟩ := entries_calls le Ae ce W hce (hee.out W h)
    exact ⟨b, fun hb => mild_of (h1 hb), h2⟩))
  have hkn := Aside0.mk known_calls
  obtain ⟨⟨p0, p1, p2, p3⟩, q0, q1, q2, q3⟩ := hC.out _ hz.out
  replace hla := Aside0.mk hla
  clear hX1 hX2 hY2 hb1 hb2 hv hu hbw hCe
  have hmeans := Aside0.mk (fun x A c (W : World) (hh : Below w2.heap.size w2 W) (hx : Fv W x A c) (hw : wF x ≤ 12000) (hm : MildE le) => means0 x A c le Ae ce W hx hw hm (hee.out W hh))
  have hfit := Aside0.mk (fun k o hk => turn_fits k o hk a b le)
  generalize hLL : le.length = LL at hce hent hmeans ⊢
  clear hee hce hLL
  have hlia' : Aside0 (Calls Try.prog 10 #[.agg #[.int .i64 a.f0, .slice A a.f1.length c, .string a.f2, .string a.f3]] w2 fun e w' => e = .returned (.bool la) ∧ Below w2.heap.size w2 w') := hlia
  have hlib' : Aside0 (∀ W, Below w2.heap.size w2 W → ∃ lb : Bool, (lb = true → wF b ≤ 4000) ∧ Calls Try.prog 10 #[.agg #[.int .i64 b.f0, .slice A' b.f1.length c', .string b.f2, .string b.f3]] W fun e w' => e = .returned (.bool lb) ∧ Below W.heap.size W w') := hlib
  clear hlia hlib
  unfold fv
  cases la with
  | false =>
    go_enter Try.func5, Try.ntmps5
    go_wp2_with fail
    refine hlia'.out.mono ?_
    rintro e w3 ⟨rfl, hb3⟩
    have hbx := Aside0.mk (hbw'.out w3 hb3)
    go_wp2_with fail
    refine (hkn.out w3).mono ?_
    rintro e w4 ⟨rfl, hb4⟩
    replace hbx := Aside0.mk (below_then hbx.out hbx.out.size hb4)
    go_wp2_with fail
    go_ret
    exact ⟨rfl, hbx.out⟩
  | true =>
    replace hla := Aside0.mk (hla.out rfl)
    go_enter Try.func5, Try.ntmps5
    go_wp2_with fail
    refine hlia'.out.mono ?_
    rintro e w3 ⟨rfl, hb3⟩
    obtain ⟨⟨a0, a1, a2, a3⟩, b0, b1, b2, b3⟩ := hC.out w3 hb3
    obtain ⟨lb, hlb, hli⟩ := hlib'.out w3 hb3
    replace hli := Aside0.mk hli
    replace hlb := Aside0.mk hlb
    replace hb3 := Aside0.mk hb3
    clear p0 p1 p2 p3 q0 q1 q2 q3
    cases lb with
    | false =>
      go_wp2_with fail
      refine hli.out.mono ?_
      rintro e w4 ⟨rfl, hb4⟩
      have hbx := Aside0.mk (hbw'.out w4 (below_then hb3.out hb3.out.size hb4))
      go_wp2_with fail
      refine (hkn.out w4).mono ?_
      rintro e w5 ⟨rfl, hb5⟩
      replace hbx := Aside0.mk (below_then hbx.out hbx.out.size hb5)
      go_wp2_with fail
      go_ret
      exact ⟨rfl, hbx.out⟩
    | true =>
      replace hlb := Aside0.mk (hlb.out rfl)
      go_wp2_with fail
      refine hli.out.mono ?_
      rintro e w4 ⟨rfl, hb4⟩
      have hb4 := Aside0.mk (below_then hb3.out hb3.out.size hb4)
      obtain ⟨be, hbe, hli⟩ := hent.out w4 hb4.out
      replace hli := Aside0.mk hli
      replace hbe := Aside0.mk hbe
      clear a0 a1 a2 a3 b0 b1 b2 b3
      cases be with
      | false =>
        go_wp2_with fail
        refine hli.out.mono ?_
        rintro e w5 ⟨rfl, hb5⟩
        have hbx := Aside0.mk (hbw'.out w5 (below_then hb4.out hb4.out.size hb5))
        go_wp2_with fail
        refine (hkn.out w5).mono ?_
        rintro e w6 ⟨rfl, hb6⟩
        replace hbx := Aside0.mk (below_then hbx.out hbx.out.size hb6)
        go_wp2_with fail
        go_ret
        exact ⟨rfl, hbx.out⟩
      | true =>
        have hmild := Aside0.mk (hbe.out rfl)
        go_wp2_with fail
        refine hli.out.mono ?_
        rintro e w5 ⟨rfl, hb5⟩
        have hb5 := Aside0.mk (below_then hb4.out hb4.out.size hb5)
        obtain ⟨⟨p0, p1, p2, p3⟩, q0, q1, q2, q3⟩ := hC.out w5 hb5.out
        have hal := below_alloc (Below.refl w5.heap.size w5) (.cells #[.int .i64 a.f0, .slice A a.f1.length c, .string a.f2, .string a.f3, .int .i64 b.f0, .slice A' b.f1.length c', .string b.f2, .string b.f3] 25)
        have hnw := heap_alloc_new w5 (.cells #[.int .i64 a.f0, .slice A a.f1.length c, .string a.f2, .string a.f3, .int .i64 b.f0, .slice A' b.f1.length c', .string b.f2, .string b.f3] 25)
        obtain ⟨w6, hw6⟩ : ∃ w6, w5.alloc (.cells #[.int .i64 a.f0, .slice A a.f1.length c, .string a.f2, .string a.f3, .int .i64 b.f0, .slice A' b.f1.length c', .string b.f2, .string b.f3] 25) = w6 := ⟨_, rfl⟩
        rw [hw6] at hal hnw
        obtain ⟨B, hB⟩ : ∃ B, w5.heap.size = B := ⟨_, rfl⟩
        rw [hB] at hnw
        have hb6 := Aside0.mk (below_then hb5.out hb5.out.size hal)
        have hAB := Aside0.mk (kF_two hnw (hva.out w6 hb6.out) (hvb.out w6 hb6.out))
        clear hnw hal
        have sl1 := slice_fst B
        have sl2 := slice_snd B
        go_wp2_with fail
        try rw [hB]
        refine start_ (n := 8) (S := fun w' => True) (ds := []) #[false, false, false, false, false, false, false, false] (by kernel_rfl) rfl rfl trivial (fun hHeld => ?_)
        refine pure_ (i := 0) (N := some 39) (v := ?_) (a' := ?_) #[true, false, false, false, false, false, false, false] rfl rfl (by kernel_rfl) (fun _ _ _ h => h) (Or.inl ⟨by rfl, ?_⟩) ?_ ?_
        rotate_left
        · intro w'
          go_simp
          with_reducible rfl
        rotate_left
        · simp only [Act.put, List.setIfInBounds_toArray, List.set_cons_zero, List.set_cons_succ, i64_w, i32_w]
          rfl
        refine pure_ (i := 1) (N := some 40) (v := ?_) (a' := ?_) #[true, true, false, false, false, false, false, false] rfl rfl (by kernel_rfl) (fun _ _ _ h => h) (Or.inl ⟨by rfl, ?_⟩) ?_ ?_
        rotate_left
        · intro w'
          go_simp
          with_reducible rfl
        rotate_left
        · simp only [Act.put, List.setIfInBounds_toArray, List.set_cons_zero, List.set_cons_succ, i64_w, i32_w]
          rfl
        refine pure_ (i := 2) (N := some 41) (v := ?_) (a' := ?_) #[true, true, true, false, false, false, false, false] rfl rfl (by kernel_rfl) (fun _ _ _ h => h) (Or.inl ⟨by rfl, ?_⟩) ?_ ?_
        rotate_left
        · intro w'
          go_simp
          with_reducible rfl
        rotate_left
        · simp only [Act.put, List.setIfInBounds_toArray, List.set_cons_zero, List.set_cons_succ, i64_w, i32_w]
          rfl
        refine pure_ (i := 3) (N := some 42) (v := ?_) (a' := ?_) #[true, true, true, true, false, false, false, false] rfl rfl (by kernel_rfl) (fun _ _ _ h => h) (Or.inl ⟨by rfl, ?_⟩) ?_ ?_
        rotate_left
        · intro w'
          go_simp
          with_reducible rfl
        rotate_left
        · simp only [Act.put, List.setIfInBounds_toArray, List.set_cons_zero, List.set_cons_succ, i64_w, i32_w]
          rfl
        refine pure_ (i := 4) (N := some 43) (v := ?_) (a' := ?_) #[true, true, true, true, true, false, false, false] rfl rfl (by kernel_rfl) (fun _ _ _ h => h) (Or.inl ⟨by rfl, ?_⟩) ?_ ?_
        rotate_left
        · intro w'
          go_simp
          with_reducible rfl
        rotate_left
        · simp only [Act.put, List.setIfInBounds_toArray, List.set_cons_zero, List.set_cons_succ, i64_w, i32_w]
          rfl
        refine pure_ (i := 5) (N := some 44) (v := ?_) (a' := ?_) #[true, true, true, true, true, true, false, false] rfl rfl (by kernel_rfl) (fun _ _ _ h => h) (Or.inl ⟨by rfl, ?_⟩) ?_ ?_
        rotate_left
        · intro w'
          go_simp
          with_reducible rfl
        rotate_left
        · simp only [Act.put, List.setIfInBounds_toArray, List.set_cons_zero, List.set_cons_succ, i64_w, i32_w]
          rfl
        refine one_ (i := 6) (N := some 45) #[true, true, true, true, true, true, true, false] rfl rfl (by kernel_rfl) (by decide) (fun K hK => ?_)
        refine value_ (w1 := ?_) (v := ?_) (by rfl) rfl ?_ ?_
        rotate_left 2
        · go_simp
          constructor
          · rfl
          · rfl
        refine hK.out _ _ trivial (fun hHeld => ?_)
        clear hK K
        refine norm_ (a' := ?_) ?_ ?_
        rotate_left
        · show Act.put _ (some 45) _ = _
          simp only [Act.put, List.setIfInBounds_toArray, List.set_cons_zero, List.set_cons_succ, i64_w, i32_w]
          rfl
        refine pure_ (i := 7) (N := some 8) (v := ?_) (a' := ?_) #[true, true, true, true, true, true, true, true] rfl rfl (by kernel_rfl) (fun _ _ _ h => h) (Or.inl ⟨by rfl, ?_⟩) ?_ ?_
        rotate_left
        · intro w'
          go_simp
          with_reducible rfl
        rotate_left
        · simp only [Act.put, List.setIfInBounds_toArray, List.set_cons_zero, List.set_cons_succ, i64_w, i32_w]
          rfl
        refine done_ (by kernel_rfl) ?_
        have hal := below_alloc (Below.refl w6.heap.size w6) (.cells #[.int .i64 3, .slice (some ⟨B, 0, none⟩) 1 2, .string no, .string no, .int .i64 3, .slice (some ⟨B, 4, none⟩) 1 1, .string no, .string no] 25)
        have hnw := heap_alloc_new w6 (.cells #[.int .i64 3, .slice (some ⟨B, 0, none⟩) 1 2, .string no, .string no, .int .i64 3, .slice (some ⟨B, 4, none⟩) 1 1, .string no, .string no] 25)
        obtain ⟨w7, hw7⟩ : ∃ w7, w6.alloc (.cells #[.int .i64 3, .slice (some ⟨B, 0, none⟩) 1 2, .string no, .string no, .int .i64 3, .slice (some ⟨B, 4, none⟩) 1 1, .string no, .string no] 25) = w7 := ⟨_, rfl⟩
        rw [hw7] at hal hnw
        obtain ⟨B7, hB7⟩ : ∃ B7, w6.heap.size = B7 := ⟨_, rfl⟩
        rw [hB7] at hnw
        have hN7 := Aside0.mk (kF_two (x := over 3 [a]) (y := over 3 [b]) hnw ⟨by show 1 ≤ 2; omega, kF_two_fst (Kd.C_below hAB.out hal)⟩ ⟨Nat.le_refl _, kF_two_snd (Kd.C_below hAB.out hal)⟩)
        have hb7 := Aside0.mk (below_drew (below_then hb6.out hb6.out.size hal))
        have hdr := Aside0.mk (below_drew (Below.refl w7.heap.size w7))
        have hAB6 := Aside0.mk (fun W (h : Below w6.heap.size w6 W) => Kd.C_below hAB.out h)
        have hal6 := Aside0.mk (below_drew hal)
        clear hnw hal sl1 sl2
        obtain ⟨wD, hwD⟩ : ∃ wD, w7.drew = wD := ⟨_, rfl⟩
        rw [hwD] at hb7 hdr hal6
        have hN7d := Aside0.mk (Kd.C_below hN7.out hdr.out)
        have hABd := Aside0.mk (hAB6.out wD hal6.out)
        have hdd := Aside0.mk (Below.refl wD.heap.size wD)
        clear hAB6 hal6 hdr hN7 hAB
        try simp only [hw7, hwD, hB7]
        clear hw7 hwD hB7
        go_wp2_with fail
        go_loopw [9, 10, 11, 12, 13, 14, 15, 16, 17, 18, 19, 20, 21] (fun s9 s10 s11 s12 s13 s14 s15 s16 s17 s18 s19 s20 s21 wr => ∃ t : Nat, t ≤ 2 ∧ s9 = .int .i64 t ∧ Aside0 (Below wD.heap.size wD wr)) (fun s9 _ _ _ _ _ _ _ _ _ _ _ _ _ => 2 - (intOf s9).toNat)
        case atStart => exact ⟨0, by omega, rfl, hdd⟩
        case round =>
          clear p0 p1 p2 p3 q0 q1 q2 q3
          obtain ⟨t, ht, rfl, hbr⟩ := hrel
          have hbr7 := Aside0.mk hbr.out
          have hN7k := Aside0.mk (Kd.C_below hN7d.out hbr.out)
          have hABw := Aside0.mk (Kd.C_below hABd.out hbr.out)
          have ht3 : t = 0 ∨ t = 1 ∨ t = 2 := by omega
          rcases ht3 with rfl | rfl | rfl
          · have e0 : ((0 : Nat) : Int) = 0 := rfl
            rw [e0]
            clear e0
            have f := hfit.out 1 2 (by omega)
            have i1 : (0 : Int) < 2 := by omega
            have hbr := Aside0.mk (below_then hb7.out hb7.out.size hbr.out)
            have hal := below_alloc (Below.refl wr.heap.size wr) (.cells #[.int .i64 1, .slice (some ⟨B, 0, none⟩) 2 2, .string no, .string no] 25)
            have hnw := heap_alloc_new wr (.cells #[.int .i64 1, .slice (some ⟨B, 0, none⟩) 2 2, .string no, .string no] 25)
            obtain ⟨wA, hwA⟩ : ∃ wA, wr.alloc (.cells #[.int .i64 1, .slice (some ⟨B, 0, none⟩) 2 2, .string no, .string no] 25) = wA := ⟨_, rfl⟩
            rw [hwA] at hal hnw
            have hbA := Aside0.mk (below_then hbr.out hbr.out.size hal)
            have hwr := Aside0.mk (below_then hbr7.out hbr7.out.size hal)
            have hABA := Aside0.mk (Kd.C_below hABw.out hal)
            have hABk := Aside0.mk (fun W (hW : Below wA.heap.size wA W) => Kd.C_below hABA.out hW)
            have hvx : Fv wA (over 3 [over 1 [a, b]]) (some ⟨wr.heap.size, 0, none⟩) 1 := ⟨Nat.le_refl _, kF_one (x := over 1 [a, b]) hnw ⟨Nat.le_refl _, hABA.out⟩⟩
            have m1 := Aside0.mk (show Calls Try.prog 13 #[.agg #[.int .i64 3, .slice (some ⟨wr.heap.size, 0, none⟩) 1 1, .string no, .string no], .slice Ae LL ce, .slice none 0 0] wA fun e w' => e = .returned (.tuple #[.bool (meansR (over 3 [over 1 [a, b]]) le []).1, .int .i64 (meansR (over 3 [over 1 [a, b]]) le []).2]) ∧ Below wA.heap.size wA w' from
              hmeans.out (over 3 [over 1 [a, b]]) _ _ wA hbA.out hvx (by have := hla.out; have := hlb.out; simp [wF_over, wFs_cons, wFs_nil]; omega) hmild.out)
            have m2 := Aside0.mk (fun W (hW : Below w2.heap.size w2 W) (hN : kF.C W (some ⟨B7, 0, none⟩) 2 [over 3 [a], over 3 [b]]) => show Calls Try.prog 13 #[.agg #[.int .i64 2, .slice (some ⟨B7, 0, none⟩) 2 2, .string no, .string no], .slice Ae LL ce, .slice none 0 0] W fun e w' => e = .returned (.tuple #[.bool (meansR (over 2 [over 3 [a], over 3 [b]]) le []).1, .int .i64 (meansR (over 2 [over 3 [a], over 3 [b]]) le []).2]) ∧ Below W.heap.size W w' from
              hmeans.out (over 2 [over 3 [a], over 3 [b]]) _ _ W hW ⟨Nat.le_refl _, hN⟩ (by have := hla.out; have := hlb.out; simp [wF_over, wFs_cons, wFs_nil]; omega) hmild.out)
            have m3 := Aside0.mk (fun W (hW : Below w2.heap.size w2 W) (hN : kF.C W (some ⟨B, 0, none⟩) 2 [a, b]) => show Calls Try.prog 13 #[.agg #[.int .i64 1, .slice (some ⟨B, 0, none⟩) 1 2, .string no, .string no], .slice Ae LL ce, .slice none 0 0] W fun e w' => e = .returned (.tuple #[.bool (meansR (over 1 [a]) le []).1, .int .i64 (meansR (over 1 [a]) le []).2]) ∧ Below W.heap.size W w' from
              hmeans.out (over 1 [a]) _ _ W hW ⟨by show 1 ≤ 2; omega, kF_two_fst hN⟩ (by have := hla.out; simp [wF_over, wFs_cons, wFs_nil]; omega) hmild.out)
            have m4 := Aside0.mk (fun W (hW : Below w2.heap.size w2 W) => show Calls Try.prog 13 #[.agg #[.int .i64 a.f0, .slice A a.f1.length c, .string a.f2, .string a.f3], .slice Ae LL ce, .slice none 0 0] W fun e w' => e = .returned (.tuple #[.bool (meansR a le []).1, .int .i64 (meansR a le []).2]) ∧ Below W.heap.size W w' from
              hmeans.out a _ _ W hW (hva.out W hW) (by have := hla.out; omega) hmild.out)
            have m5 := Aside0.mk (fun W (hW : Below w2.heap.size w2 W) => show Calls Try.prog 13 #[.agg #[.int .i64 1, .slice none 0 0, .string no, .string no], .slice Ae LL ce, .slice none 0 0] W fun e w' => e = .returned (.tuple #[.bool (meansR (over 1 []) le []).1, .int .i64 (meansR (over 1 []) le []).2]) ∧ Below W.heap.size W w' from
              hmeans.out (over 1 []) none 0 W hW (fv_nil _ _ _ _) (by simp [wF_over, wFs_nil]) hmild.out)
            have hNk := Aside0.mk (fun W (hW : Below wA.heap.size wA W) => Kd.C_below (Kd.C_below hN7k.out hal) hW)
            generalize meansR (over 3 [over 1 [a, b]]) le [] = X at m1 f
            generalize meansR (over 2 [over 3 [a], over 3 [b]]) le [] = Y at m2 f
            generalize meansR (over 1 [a]) le [] = Z at m3 f
            generalize meansR a le [] = T at m4 f
            generalize meansR (over 1 []) le [] = O at m5 f
            obtain ⟨x1, x2⟩ := X
            obtain ⟨y1, y2⟩ := Y
            obtain ⟨z1, z2⟩ := Z
            obtain ⟨t1, t2⟩ := T
            obtain ⟨n1, n2⟩ := O
            dsimp only at m1 m2 m3 m4 m5 f
            obtain ⟨f1, f2, f3⟩ := f
            have g1 : x2 ≠ 0 ∨ (x2 = 0 ∧ y2 ≠ 0) ∨ (x2 = 0 ∧ y2 = 0 ∧ x1 = y1) := by
              by_cases h : x2 = 0 <;> by_cases h' : y2 = 0 <;> simp_all
            have g2 : z2 ≠ 0 ∨ (z2 = 0 ∧ t2 ≠ 0) ∨ (z2 = 0 ∧ t2 = 0 ∧ z1 = t1) := by
              by_cases h : z2 = 0 <;> by_cases h' : t2 = 0 <;> simp_all
            have g3 : n2 ≠ 0 ∨ (n2 = 0 ∧ n1 = true) := by
              by_cases h : n2 = 0 <;> simp_all
            have hg := Aside0.mk (And.intro g1 (And.intro g2 g3))
            clear f1 f2 f3 g1 g2 g3 hal hnw hvx
            obtain ⟨⟨p0, p1, p2, p3⟩, q0, q1, q2, q3⟩ := hC.out wr hbr.out
            go_wp2_with fail
            refine m1.out.mono ?_
            rintro e w8 ⟨rfl, hb8⟩
            have hb8' := Aside0.mk (below_then hbA.out hbA.out.size hb8)
            have hA8 := Aside0.mk hb8
            clear hb8 p0 p1 p2 p3 q0 q1 q2 q3
            go_wp2_with fail
            refine (m2.out w8 hb8'.out (hNk.out w8 hA8.out)).mono ?_
            rintro e w9 ⟨rfl, hb9⟩
            replace hb8' := Aside0.mk (below_then hb8'.out hb8'.out.size hb9)
            replace hA8 := Aside0.mk (below_then hA8.out hA8.out.size hb9)
            clear hb9
            go_wp2_with fail
            refine (m3.out w9 hb8'.out (hABk.out w9 hA8.out)).mono ?_
            rintro e w10 ⟨rfl, hb10⟩
            replace hb8' := Aside0.mk (below_then hb8'.out hb8'.out.size hb10)
            replace hA8 := Aside0.mk (below_then hA8.out hA8.out.size hb10)
            clear hb10
            obtain ⟨⟨p0, p1, p2, p3⟩, q0, q1, q2, q3⟩ := hC.out w10 hb8'.out
            go_wp2_with fail
            refine (m4.out w10 hb8'.out).mono ?_
            rintro e w11 ⟨rfl, hb11⟩
            replace hb8' := Aside0.mk (below_then hb8'.out hb8'.out.size hb11)
            replace hA8 := Aside0.mk (below_then hA8.out hA8.out.size hb11)
            clear hb11 p0 p1 p2 p3 q0 q1 q2 q3
            go_wp2_with fail
            refine (m5.out w11 hb8'.out).mono ?_
            rintro e w12 ⟨rfl, hb12⟩
            replace hb8' := Aside0.mk (below_then hb8'.out hb8'.out.size hb12)
            replace hA8 := Aside0.mk (below_then hA8.out hA8.out.size hb12)
            clear hb12
            obtain ⟨g1, g2, g3⟩ := hg.out
            have hfin := Aside0.mk (below_then hwr.out hwr.out.size hA8.out)
            clear hg m1 m2 m3 m4 m5
            rcases g1 with d | ⟨rfl, d⟩ | ⟨rfl, rfl, rfl⟩ <;> rcases g2 with d2 | ⟨rfl, d2⟩ | ⟨rfl, rfl, rfl⟩ <;> rcases g3 with d3 | ⟨rfl, rfl⟩
            all_goals
              try (have b1 := beq_eq_false_iff_ne.2 d; have b1' := decide_eq_false d; clear d)
              try (have b2 := beq_eq_false_iff_ne.2 d2; have b2' := decide_eq_false d2; clear d2)
              try (have b3 := beq_eq_false_iff_ne.2 d3; have b3' := decide_eq_false d3; clear d3)
              go_wp2_with fail
              go_roundw
              case rel => exact ⟨1, by omega, by go_num, hfin⟩
              case measure => simp [intOf]
          · have e0 : ((1 : Nat) : Int) = 1 := rfl
            rw [e0]
            clear e0
            have f := hfit.out 2 1 (by omega)
            have i1 : (1 : Int) < 2 := by omega
            have hbr := Aside0.mk (below_then hb7.out hb7.out.size hbr.out)
            have hal := below_alloc (Below.refl wr.heap.size wr) (.cells #[.int .i64 2, .slice (some ⟨B, 0, none⟩) 2 2, .string no, .string no] 25)
            have hnw := heap_alloc_new wr (.cells #[.int .i64 2, .slice (some ⟨B, 0, none⟩) 2 2, .string no, .string no] 25)
            obtain ⟨wA, hwA⟩ : ∃ wA, wr.alloc (.cells #[.int .i64 2, .slice (some ⟨B, 0, none⟩) 2 2, .string no, .string no] 25) = wA := ⟨_, rfl⟩
            rw [hwA] at hal hnw
            have hbA := Aside0.mk (below_then hbr.out hbr.out.size hal)
            have hwr := Aside0.mk (below_then hbr7.out hbr7.out.size hal)
            have hABA := Aside0.mk (Kd.C_below hABw.out hal)
            have hABk := Aside0.mk (fun W (hW : Below wA.heap.size wA W) => Kd.C_below hABA.out hW)
            have hvx : Fv wA (over 3 [over 2 [a, b]]) (some ⟨wr.heap.size, 0, none⟩) 1 := ⟨Nat.le_refl _, kF_one (x := over 2 [a, b]) hnw ⟨Nat.le_refl _, hABA.out⟩⟩
            have m1 := Aside0.mk (show Calls Try.prog 13 #[.agg #[.int .i64 3, .slice (some ⟨wr.heap.size, 0, none⟩) 1 1, .string no, .string no], .slice Ae LL ce, .slice none 0 0] wA fun e w' => e = .returned (.tuple #[.bool (meansR (over 3 [over 2 [a, b]]) le []).1, .int .i64 (meansR (over 3 [over 2 [a, b]]) le []).2]) ∧ Below wA.heap.size wA w' from
              hmeans.out (over 3 [over 2 [a, b]]) _ _ wA hbA.out hvx (by have := hla.out; have := hlb.out; simp [wF_over, wFs_cons, wFs_nil]; omega) hmild.out)
            have m2 := Aside0.mk (fun W (hW : Below w2.heap.size w2 W) (hN : kF.C W (some ⟨B7, 0, none⟩) 2 [over 3 [a], over 3 [b]]) => show Calls Try.prog 13 #[.agg #[.int .i64 1, .slice (some ⟨B7, 0, none⟩) 2 2, .string no, .string no], .slice Ae LL ce, .slice none 0 0] W fun e w' => e = .returned (.tuple #[.bool (meansR (over 1 [over 3 [a], over 3 [b]]) le []).1, .int .i64 (meansR (over 1 [over 3 [a], over 3 [b]]) le []).2]) ∧ Below W.heap.size W w' from
              hmeans.out (over 1 [over 3 [a], over 3 [b]]) _ _ W hW ⟨Nat.le_refl _, hN⟩ (by have := hla.out; have := hlb.out; simp [wF_over, wFs_cons, wFs_nil]; omega) hmild.out)
            have m3 := Aside0.mk (fun W (hW : Below w2.heap.size w2 W) (hN : kF.C W (some ⟨B, 0, none⟩) 2 [a, b]) => show Calls Try.prog 13 #[.agg #[.int .i64 2, .slice (some ⟨B, 0, none⟩) 1 2, .string no, .string no], .slice Ae LL ce, .slice none 0 0] W fun e w' => e = .returned (.tuple #[.bool (meansR (over 2 [a]) le []).1, .int .i64 (meansR (over 2 [a]) le []).2]) ∧ Below W.heap.size W w' from
              hmeans.out (over 2 [a]) _ _ W hW ⟨by show 1 ≤ 2; omega, kF_two_fst hN⟩ (by have := hla.out; simp [wF_over, wFs_cons, wFs_nil]; omega) hmild.out)
            have m4 := Aside0.mk (fun W (hW : Below w2.heap.size w2 W) => show Calls Try.prog 13 #[.agg #[.int .i64 a.f0, .slice A a.f1.length c, .string a.f2, .string a.f3], .slice Ae LL ce, .slice none 0 0] W fun e w' => e = .returned (.tuple #[.bool (meansR a le []).1, .int .i64 (meansR a le []).2]) ∧ Below W.heap.size W w' from
              hmeans.out a _ _ W hW (hva.out W hW) (by have := hla.out; omega) hmild.out)
            have m5 := Aside0.mk (fun W (hW : Below w2.heap.size w2 W) => show Calls Try.prog 13 #[.agg #[.int .i64 2, .slice none 0 0, .string no, .string no], .slice Ae LL ce, .slice none 0 0] W fun e w' => e = .returned (.tuple #[.bool (meansR (over 2 []) le []).1, .int .i64 (meansR (over 2 []) le []).2]) ∧ Below W.heap.size W w' from
              hmeans.out (over 2 []) none 0 W hW (fv_nil _ _ _ _) (by simp [wF_over, wFs_nil]) hmild.out)
            have hNk := Aside0.mk (fun W (hW : Below wA.heap.size wA W) => Kd.C_below (Kd.C_below hN7k.out hal) hW)
            generalize meansR (over 3 [over 2 [a, b]]) le [] = X at m1 f
            generalize meansR (over 1 [over 3 [a], over 3 [b]]) le [] = Y at m2 f
            generalize meansR (over 2 [a]) le [] = Z at m3 f
            generalize meansR a le [] = T at m4 f
            generalize meansR (over 2 []) le [] = O at m5 f
            obtain ⟨x1, x2⟩ := X
            obtain ⟨y1, y2⟩ := Y
            obtain ⟨z1, z2⟩ := Z
            obtain ⟨t1, t2⟩ := T
            obtain ⟨n1, n2⟩ := O
            dsimp only at m1 m2 m3 m4 m5 f
            obtain ⟨f1, f2, f3⟩ := f
            have g1 : x2 ≠ 0 ∨ (x2 = 0 ∧ y2 ≠ 0) ∨ (x2 = 0 ∧ y2 = 0 ∧ x1 = y1) := by
              by_cases h : x2 = 0 <;> by_cases h' : y2 = 0 <;> simp_all
            have g2 : z2 ≠ 0 ∨ (z2 = 0 ∧ t2 ≠ 0) ∨ (z2 = 0 ∧ t2 = 0 ∧ z1 = t1) := by
              by_cases h : z2 = 0 <;> by_cases h' : t2 = 0 <;> simp_all
            have g3 : n2 ≠ 0 ∨ (n2 = 0 ∧ n1 = false) := by
              by_cases h : n2 = 0 <;> simp_all
            have hg := Aside0.mk (And.intro g1 (And.intro g2 g3))
            clear f1 f2 f3 g1 g2 g3 hal hnw hvx
            obtain ⟨⟨p0, p1, p2, p3⟩, q0, q1, q2, q3⟩ := hC.out wr hbr.out
            go_wp2_with fail
            refine m1.out.mono ?_
            rintro e w8 ⟨rfl, hb8⟩
            have hb8' := Aside0.mk (below_then hbA.out hbA.out.size hb8)
            have hA8 := Aside0.mk hb8
            clear hb8 p0 p1 p2 p3 q0 q1 q2 q3
            go_wp2_with fail
            refine (m2.out w8 hb8'.out (hNk.out w8 hA8.out)).mono ?_
            rintro e w9 ⟨rfl, hb9⟩
            replace hb8' := Aside0.mk (below_then hb8'.out hb8'.out.size hb9)
            replace hA8 := Aside0.mk (below_then hA8.out hA8.out.size hb9)
            clear hb9
            go_wp2_with fail
            refine (m3.out w9 hb8'.out (hABk.out w9 hA8.out)).mono ?_
            rintro e w10 ⟨rfl, hb10⟩
            replace hb8' := Aside0.mk (below_then hb8'.out hb8'.out.size hb10)
            replace hA8 := Aside0.mk (below_then hA8.out hA8.out.size hb10)
            clear hb10
            obtain ⟨⟨p0, p1, p2, p3⟩, q0, q1, q2, q3⟩ := hC.out w10 hb8'.out
            go_wp2_with fail
            refine (m4.out w10 hb8'.out).mono ?_
            rintro e w11 ⟨rfl, hb11⟩
            replace hb8' := Aside0.mk (below_then hb8'.out hb8'.out.size hb11)
            replace hA8 := Aside0.mk (below_then hA8.out hA8.out.size hb11)
            clear hb11 p0 p1 p2 p3 q0 q1 q2 q3
            go_wp2_with fail
            refine (m5.out w11 hb8'.out).mono ?_
            rintro e w12 ⟨rfl, hb12⟩
            replace hb8' := Aside0.mk (below_then hb8'.out hb8'.out.size hb12)
            replace hA8 := Aside0.mk (below_then hA8.out hA8.out.size hb12)
            clear hb12
            obtain ⟨g1, g2, g3⟩ := hg.out
            have hfin := Aside0.mk (below_then hwr.out hwr.out.size hA8.out)
            clear hg m1 m2 m3 m4 m5
            rcases g1 with d | ⟨rfl, d⟩ | ⟨rfl, rfl, rfl⟩ <;> rcases g2 with d2 | ⟨rfl, d2⟩ | ⟨rfl, rfl, rfl⟩ <;> rcases g3 with d3 | ⟨rfl, rfl⟩
            all_goals
              try (have b1 := beq_eq_false_iff_ne.2 d; have b1' := decide_eq_false d; clear d)
              try (have b2 := beq_eq_false_iff_ne.2 d2; have b2' := decide_eq_false d2; clear d2)
              try (have b3 := beq_eq_false_iff_ne.2 d3; have b3' := decide_eq_false d3; clear d3)
              go_wp2_with fail
              go_roundw
              case rel => exact ⟨2, by omega, by go_num, hfin⟩
              case measure => simp [intOf]
          · go_wp2_with fail
            refine (hkn.out wr).mono ?_
            rintro e w8 ⟨rfl, hb8⟩
            have hbx := Aside0.mk (hbw'.out w8 (below_then (below_then hb7.out hb7.out.size hbr.out) (below_then hb7.out hb7.out.size hbr.out).size hb8))
            go_wp2_with fail
            go_ret
            exact ⟨rfl, hbx.out⟩
end Go.Proofs.Ytgnmkblaockghaa
