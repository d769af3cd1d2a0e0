/- filter.Check's closure. -/
import Derived.Test.YtgnmkblaockghaaQJc
import Derived.Recover
set_option linter.unusedVariables false
set_option linter.unusedSimpArgs false
namespace Go.Proofs.Ytgnmkblaockghaa
open Go.RowKit Go.Shelf Go.Proofs.YtgnmkblaockghaaW.PrintWords Go.Proofs.YtgnmkblaockghaaW.PrintMore Go.Proofs.YtgnmkblaockghaaW.PrintLast

mutual
/-- How many filters there are behind this one and what is in it, n being there before; none: it may not be. -/
def cntT (n d : Nat) : Ft → Option Nat
  | ⟨k, l, s, v⟩ => if n + 1 ≤ 200 then (if d ≤ 16 then (if aloneOk ⟨k, l, s, v⟩ = true then cntL (n + 1) (d + 1) l else none) else none) else none
def cntL (n d : Nat) : List Ft → Option Nat
  | [] => some n
  | x :: xs => (cntT n d x).bind fun m => cntL m d xs
end
theorem cntT_of (n d : Nat) (x : Ft) : cntT n d x = if n + 1 ≤ 200 then (if d ≤ 16 then (if aloneOk x = true then cntL (n + 1) (d + 1) x.f1 else none) else none) else none := by cases x; rw [cntT]
theorem cntL_drop (n d : Nat) (l : List Ft) (k : Nat) (h : k < l.length) : cntL n d (l.drop k) = (cntT n d l[k]).bind fun m => cntL m d (l.drop (k + 1)) := by
  rw [List.drop_eq_getElem_cons h, cntL]
theorem cnt_le (x : Ft) : ∀ n d m, cntT n d x = some m → m ≤ 200 := by
  refine filtInd (P := fun x => ∀ n d m, cntT n d x = some m → m ≤ 200) (fun k l s v ih => ?_) x
  have hL : ∀ (l : List Ft), (∀ x ∈ l, ∀ n d m, cntT n d x = some m → m ≤ 200) → ∀ n d m, n ≤ 200 → cntL n d l = some m → m ≤ 200 := by
    intro l
    induction l with
    | nil => intro _ n d m hn h; rw [cntL] at h; injection h with h; omega
    | cons y ys ihy =>
      intro hy n d m hn h
      rw [cntL] at h
      obtain ⟨m', h1, h2⟩ := Option.bind_eq_some_iff.1 h
      exact ihy (fun z hz => hy z (List.mem_cons_of_mem _ hz)) m' d m (hy y List.mem_cons_self n d m' h1) h2
  intro n d m h
  rw [cntT] at h
  split at h
  · split at h
    · split at h
      · exact hL l ih _ _ _ (by omega) h
      · cases h
    · cases h
  · cases h
abbrev checkV (gn ga : Nat) : Value := .func (.func 39) #[] #[.pointer (some ⟨gn, 0, none⟩), .pointer (some ⟨ga, 0, none⟩)]
/-- What the closure ends in. -/
def Counted (o : Option Nat) (gn : Nat) (w : World) (e : Ending) (w' : World) : Prop :=
  (match o with | some m => e = .returned (.tuple #[]) ∧ w'.heap[gn]? = some (.cells #[.int .i64 (m : Int)] 3 (0, 0)) | none => e = stopE) ∧ Mod (fun q => q = gn) w w'
/-- A thing that came in, beside what is counted. -/
theorem below_mod {w0 w w' : World} {gn : Nat} (h : Below w0.heap.size w0 w) (hg : w0.heap.size ≤ gn) (hm : Mod (fun q => q = gn) w w') : Below w0.heap.size w0 w' := mod_below hm h hg
set_option maxHeartbeats 2000000 in
set_option maxRecDepth 20000 in
theorem check1_calls (w0 : World) (gn ga : Nat) (hgn : w0.heap.size ≤ gn) (hne : ga ≠ gn) (x : Ft) : ∀ (A : Option Addr) (c n d : Nat) (w : World), Fv w0 x A c → Below w0.heap.size w0 w → wF x ≤ 12000 → d + wF x ≤ 1000000 → n ≤ 200 →
    w.heap[gn]? = some (.cells #[.int .i64 (n : Int)] 3 (0, 0)) → w.heap[ga]? = some (.cells #[checkV gn ga] 68 (0, 0)) →
    Calls Try.prog 39 #[fv x A c, .int .i64 (d : Int), .pointer (some ⟨gn, 0, none⟩), .pointer (some ⟨ga, 0, none⟩)] w (Counted (cntT n d x) gn w) := by
  refine filtInd (P := fun x => ∀ (A : Option Addr) (c n d : Nat) (w : World), Fv w0 x A c → Below w0.heap.size w0 w → wF x ≤ 12000 → d + wF x ≤ 1000000 → n ≤ 200 →
    w.heap[gn]? = some (.cells #[.int .i64 (n : Int)] 3 (0, 0)) → w.heap[ga]? = some (.cells #[checkV gn ga] 68 (0, 0)) →
    Calls Try.prog 39 #[fv x A c, .int .i64 (d : Int), .pointer (some ⟨gn, 0, none⟩), .pointer (some ⟨ga, 0, none⟩)] w (Counted (cntT n d x) gn w)) (fun x0 xs s v ih => ?_) x
  intro A c n d w hv hw0 hw hd hn hgN hgA
  have he := enters_of (P := Try.prog) Try.func39 (by kernel_rfl) rfl
  have hwl := wFs_length xs
  rw [wF] at hw hd
  have hA := fbox_new w 25 (.int .i64 x0) (.slice A xs.length c) (.string s) (.string v)
  have hb1 := below_alloc (Below.refl w.heap.size w) (.cells #[.int .i64 x0, .slice A xs.length c, .string s, .string v] 25)
  obtain ⟨w1, hw1⟩ : ∃ w1, w.alloc (.cells #[.int .i64 x0, .slice A xs.length c, .string s, .string v] 25) = w1 := ⟨_, rfl⟩
  rw [hw1] at hA hb1
  have hN1 := (hb1.block gn (blk_lt hgN)).trans hgN
  have hG1 := (hb1.block ga (blk_lt hgA)).trans hgA
  have n0 : w1.cell? ⟨gn, 0, none⟩ = some (.int .i64 (n : Int)) := (blk_cell hN1 0).trans rfl
  have nf : w1.frozen? ⟨gn, 0, none⟩ = false := blk_frozen hN1 0
  have hN2 : (w1.setCell ⟨gn, 0, none⟩ (.int .i64 ((n : Int) + 1))).heap[gn]? = some (.cells #[.int .i64 ((n : Int) + 1)] 3 (0, 0)) := by simpa using blk_set hN1 0 (.int .i64 ((n : Int) + 1))
  have hm2 : Mod (fun q => q = gn) w (w1.setCell ⟨gn, 0, none⟩ (.int .i64 ((n : Int) + 1))) := (Mod.of_below (S := fun q => q = gn) hb1).setCell (p := ⟨gn, 0, none⟩) (.inl rfl) _
  have hm12 : Mod (fun q => q = gn) w1 (w1.setCell ⟨gn, 0, none⟩ (.int .i64 ((n : Int) + 1))) := (Mod.refl (fun q => q = gn) w1).setCell (p := ⟨gn, 0, none⟩) (.inl rfl) _
  obtain ⟨w2, hw2⟩ : ∃ w2, w1.setCell ⟨gn, 0, none⟩ (.int .i64 ((n : Int) + 1)) = w2 := ⟨_, rfl⟩
  rw [hw2] at hN2 hm2 hm12
  have hVne : w.heap.size ≠ gn := by have := blk_lt hgN; omega
  have hA2 := hA.mod hm12 hVne
  have hG2 := hm12.blk hG1 (by exact hne)
  have n2 : w2.cell? ⟨gn, 0, none⟩ = some (.int .i64 ((n : Int) + 1)) := (blk_cell hN2 0).trans rfl
  obtain ⟨p0, p1, p2, p3⟩ := hA2.cells
  have hal := alone_calls ⟨x0, xs, s, v⟩ A c w2 (by show s.size ≤ 12000; omega)
  have hct := cntT_of n d ⟨x0, xs, s, v⟩
  have hci := Aside0.mk (show kF.C w0 A xs.length xs from hv.co)
  unfold fv at hal ⊢
  dsimp only at hal hct ⊢
  generalize aloneOk ⟨x0, xs, s, v⟩ = al at *
  obtain ⟨o, ho⟩ : ∃ o, cntT n d ⟨x0, xs, s, v⟩ = o := ⟨_, rfl⟩
  rw [ho] at hct ⊢
  obtain ⟨N, hN⟩ : ∃ N, xs.length = N := ⟨_, rfl⟩
  rw [hN] at hw1 hA2 p1 hci hwl hal ⊢
  replace hN := Aside0.mk hN
  replace hal := Aside0.mk hal
  replace hA2 := Aside0.mk hA2
  replace hN2 := Aside0.mk hN2
  replace hG2 := Aside0.mk hG2
  replace hm2 := Aside0.mk hm2
  replace hw0 := Aside0.mk hw0
  replace ih := Aside0.mk ih
  replace hgn := Aside0.mk hgn
  replace hne := Aside0.mk hne
  clear hA hb1 hN1 hG1 hm12 hVne hv ho hgN hgA
  by_cases c1 : n + 1 ≤ 200
  · have q1 : decide ((n : Int) + 1 ≤ 200) = true := decide_eq_true (by omega)
    by_cases c2 : d ≤ 16
    · have q2 : decide ((d : Int) ≤ 16) = true := decide_eq_true (by omega)
      cases al with
      | true =>
        rw [if_pos c1, if_pos c2, if_pos rfl] at hct
        replace hct := Aside0.mk hct
        go_enter Try.func39, Try.ntmps39
        go_wp2_with fail
        refine hal.out.mono ?_
        rintro e w3 ⟨rfl, hb3⟩
        obtain ⟨r0, r1, r2, r3⟩ := (hA2.out.below hb3).cells
        have hN3 := Aside0.mk ((hb3.block gn (blk_lt hN2.out)).trans hN2.out)
        have hG3 := Aside0.mk ((hb3.block ga (blk_lt hG2.out)).trans hG2.out)
        have hm3 := Aside0.mk (hm2.out.then_below hb3)
        clear hal hA2 hN2 hG2 hm2 p0 p1 p2 p3 n0 nf n2 hb3 hw1 hw2
        go_wp2_with fail
        refine (must_yes _).mono ?_
        rintro e w' ⟨rfl, rfl⟩
        clear q1 q2
        go_wp2_with fail
        go_loopw [24] (fun s24 wr => ∃ k m : Nat, k ≤ N ∧ m ≤ 200 ∧ s24 = .int .i64 k ∧ Aside0 (Mod (fun q => q = gn) w wr) ∧ Aside0 (wr.heap[gn]? = some (.cells #[.int .i64 (m : Int)] 3 (0, 0))) ∧ Aside0 (wr.heap[ga]? = some (.cells #[checkV gn ga] 68 (0, 0))) ∧ Aside0 (o = cntL m (d + 1) (xs.drop k))) (fun s24 _ => N - (intOf s24).toNat)
        case atStart => exact ⟨0, n + 1, Nat.zero_le _, by omega, rfl, hm3, hN3, hG3, by simpa using hct⟩
        case round =>
          obtain ⟨k, m, hk, hm, rfl, hMr, hNr, hGr, hor⟩ := hrel
          by_cases hlt : k < N
          · have hkx : k < xs.length := by rw [hN.out]; exact hlt
            have hbr := below_mod hw0.out hgn.out hMr.out
            obtain ⟨ad, A6, c6, e, s0, s1, s2, s3, hv6⟩ := kF_at hci.out k hkx
            subst e
            have hcd : ∀ {a : Addr} {u : Value}, w0.cell? a = some u → wr.cell? a = some u := fun h => pw_cell_below hbr h
            replace s0 := hcd s0
            replace s1 := hcd s1
            replace s2 := hcd s2
            replace s3 := hcd s3
            have hmem : xs[k] ∈ xs := List.getElem_mem hkx
            have hwy := wF_mem hmem
            have hst := Aside0.mk (cntL_drop m (d + 1) xs k hkx)
            have hlec := Aside0.mk (cnt_le xs[k] m (d + 1))
            obtain ⟨y, hy⟩ : ∃ y, xs[k] = y := ⟨_, rfl⟩
            rw [hy] at s0 s1 s2 s3 hv6 hmem hwy hst hlec
            have hb2 := below_alloc (Below.refl wr.heap.size wr) (.cells #[.int .i64 y.f0, .slice A6 y.f1.length c6, .string y.f2, .string y.f3] 25)
            have hX2 := fbox_new wr 25 (.int .i64 y.f0) (.slice A6 y.f1.length c6) (.string y.f2) (.string y.f3)
            obtain ⟨w2, hw2e⟩ : ∃ w2, wr.alloc (.cells #[.int .i64 y.f0, .slice A6 y.f1.length c6, .string y.f2, .string y.f3] 25) = w2 := ⟨_, rfl⟩
            rw [hw2e] at hb2 hX2
            have hNy := (hb2.block gn (blk_lt hNr.out)).trans hNr.out
            have hGy := (hb2.block ga (blk_lt hGr.out)).trans hGr.out
            have g0 : w2.cell? ⟨ga, 0, none⟩ = some (.func (.func 39) #[] #[.pointer (some ⟨gn, 0, none⟩), .pointer (some ⟨ga, 0, none⟩)]) := (blk_cell hGy 0).trans rfl
            obtain ⟨t0, t1, t2, t3⟩ := hX2.cells
            have hcall : Calls Try.prog 39 #[.agg #[.int .i64 y.f0, .slice A6 y.f1.length c6, .string y.f2, .string y.f3], .int .i64 ((d : Int) + 1), .pointer (some ⟨gn, 0, none⟩), .pointer (some ⟨ga, 0, none⟩)] w2 (Counted (cntT m (d + 1) y) gn w2) :=
              ih.out y hmem A6 c6 m (d + 1) w2 hv6 (below_then hbr hbr.size hb2) (by omega) (by omega) hm hNy hGy
            unfold Counted at hcall
            have hm2 := Aside0.mk (hMr.out.then_below hb2)
            replace hGy := Aside0.mk hGy
            have i1 : (0 : Int) ≤ (k : Int) := by omega
            have i2 : (k : Int) < (N : Int) := by omega
            have hd9 : (d : Int) ≤ 16 := by omega
            have hN9 : N ≤ 12000 := by omega
            clear hy hmem hwy hv6 hkx hX2 hb2 hNy hcd hbr hw hd
            cases hcy : cntT m (d + 1) y with
            | none =>
              rw [hcy] at hcall hst
              have hon := Aside0.mk (hor.out.trans hst.out)
              replace hcall := Aside0.mk hcall
              clear hcy hst hlec
              go_wp2_with fail
              refine hcall.out.mono ?_
              rintro e w4 ⟨rfl, hm4⟩
              replace hm4 := Aside0.mk (hm2.out.trans hm4 (fun q h => .inl h))
              clear hm2 hcall
              go_wp2_with fail
              refine ⟨rfl, ?_, hm4.out⟩
              rw [hon.out]
              rfl
            | some m' =>
              rw [hcy] at hcall hst
              have hon := Aside0.mk (hor.out.trans hst.out)
              have hm' := hlec.out m' hcy
              replace hcall := Aside0.mk hcall
              clear hcy hst hlec
              go_wp2_with fail
              refine hcall.out.mono ?_
              rintro e w4 ⟨⟨rfl, hN4⟩, hm4⟩
              have hG4 := Aside0.mk (hm4.blk hGy.out (by exact hne.out))
              replace hm4 := Aside0.mk (hm2.out.trans hm4 (fun q h => .inl h))
              replace hN4 := Aside0.mk hN4
              clear hm2 hcall
              go_wp2_with fail
              go_roundw
              case rel => exact ⟨k + 1, m', by omega, hm', by go_num, hm4, hN4, hG4, by simpa using hon⟩
              case measure => simp [intOf]; omega
          · have hon : o = some m := by
              have := hor.out
              rw [List.drop_eq_nil_of_le (by rw [hN.out]; omega), cntL] at this
              exact this
            subst hon
            go_wp2_with fail
            go_end0
            exact ⟨⟨rfl, hNr.out⟩, hMr.out⟩
      | false =>
        rw [if_pos c1, if_pos c2, if_neg (by simp)] at hct
        subst hct
        go_enter Try.func39, Try.ntmps39
        go_wp2_with fail
        refine hal.out.mono ?_
        rintro e w3 ⟨rfl, hb3⟩
        have hm3 := Aside0.mk (hm2.out.then_below hb3)
        go_wp2_with fail
        refine (must_no _).mono ?_
        rintro e w' ⟨rfl, rfl⟩
        go_wp2_with fail
        exact ⟨rfl, rfl, hm3.out⟩
    · have q2 : decide ((d : Int) ≤ 16) = false := decide_eq_false (by omega)
      rw [if_pos c1, if_neg c2] at hct
      subst hct
      go_enter Try.func39, Try.ntmps39
      go_wp2_with fail
      refine (must_no _).mono ?_
      rintro e w' ⟨rfl, rfl⟩
      go_wp2_with fail
      exact ⟨rfl, rfl, hm2.out⟩
  · have q1 : decide ((n : Int) + 1 ≤ 200) = false := decide_eq_false (by omega)
    rw [if_neg c1] at hct
    subst hct
    go_enter Try.func39, Try.ntmps39
    go_wp2_with fail
    refine (must_no _).mono ?_
    rintro e w' ⟨rfl, rfl⟩
    go_wp2_with fail
    exact ⟨rfl, rfl, hm2.out⟩
end Go.Proofs.Ytgnmkblaockghaa

/- filter.caught, filter.Check. -/
set_option linter.unusedVariables false
set_option linter.unusedSimpArgs false
namespace Go.Proofs.Ytgnmkblaockghaa
open Go.RowKit Go.Shelf Go.Proofs.YtgnmkblaockghaaW.PrintWords Go.Proofs.YtgnmkblaockghaaW.PrintMore Go.Proofs.YtgnmkblaockghaaW.PrintLast

set_option maxRecDepth 8000 in
theorem catch_idle (pe : Addr) (n : Int) (w : World) :
    CallsD Try.prog 38 #[.pointer (some pe), .int .i64 n] .returning w fun e u' w' => e = .returned (.tuple #[]) ∧ u' = .returning ∧ w' = w := by
  refine callsD_of_wpS Try.func38 rfl fun c₀ cs hu => ?_
  apply wpS_seq
  apply wpS_region
  simp [wpOpsS, go_sem, recoverD, hu, Try.ntmps38, Exit.thenS]
  refine wpS_of_wp ?_
  have hlit : (#[Value.pointer (some pe), Value.int .i64 n] ++ (Array.replicate 14 undef).setIfInBounds 5 Value.nilIface) = #[.pointer (some pe), .int .i64 n, undef, undef, undef, undef, undef, .nilIface, undef, undef, undef, undef, undef, undef, undef, undef] := rfl
  rw [hlit]
  clear hlit
  go_wp2_with fail
  cases c₀
  simp_all [bodyPostS, results, Try.results38]
set_option maxRecDepth 8000 in
set_option maxHeartbeats 1000000 in
theorem catch_stop (E : Nat) (ev : Value) (n : Int) (w : World) (hE : w.heap[E]? = some (.cells #[ev] 31 (0, 0))) :
    CallsD Try.prog 38 #[.pointer (some ⟨E, 0, none⟩), .int .i64 n] (.panicking [{ v := .iface 90 (.agg #[]), recovered := false }]) w fun e u' w' => e = .returned (.tuple #[]) ∧ u' = .panicking [{ v := .iface 90 (.agg #[]), recovered := true }] ∧
      (w'.heap[E]? = some (.cells #[.int .i64 n] 31 (0, 0)) ∧ Mod (fun q => q = E) w w') := by
  refine callsD_of_wpS Try.func38 rfl fun c₀ cs hu => ?_
  apply wpS_seq
  apply wpS_region
  simp [wpOpsS, go_sem, recoverD, hu, Try.ntmps38, Exit.thenS]
  refine wpS_of_wp ?_
  have hlit : (#[Value.pointer (some ⟨E, 0, none⟩), Value.int .i64 n] ++ (Array.replicate 14 undef).setIfInBounds 5 (Value.iface 90 (.agg #[]))) = #[.pointer (some ⟨E, 0, none⟩), .int .i64 n, undef, undef, undef, undef, undef, .iface 90 (.agg #[]), undef, undef, undef, undef, undef, undef, undef, undef] := rfl
  rw [hlit]
  clear hlit
  have hta : ∀ W, (Instr.typeAssert (.iface 90 (.agg #[])) 20 90 true).run Try.prog W = .ok (.tuple #[.agg #[], .bool true]) W := fun W => rfl
  have hEl := blk_lt hE
  obtain ⟨w1, hw1⟩ : ∃ w1, w.alloc (.cells #[] 90) = w1 := ⟨_, rfl⟩
  have hb1 := Aside0.mk (hw1 ▸ below_alloc (Below.refl w.heap.size w) (.cells #[] 90))
  have hE1 := (hb1.out.block E hEl).trans hE
  have f1 : w1.cell? ⟨E, 0, none⟩ = some ev := (blk_cell hE1 0).trans rfl
  have f2 : w1.frozen? ⟨E, 0, none⟩ = false := blk_frozen hE1 0
  replace hE := Aside0.mk hE
  replace hE1 := Aside0.mk hE1
  go_wp2_with fail
  have k3 : (w1.setCell ⟨E, 0, none⟩ (.int .i64 n)).heap[E]? = some (.cells #[.int .i64 n] 31 (0, 0)) := by simpa using blk_set hE1.out 0 (.int .i64 n)
  have k5 : Mod (fun q => q = E) w (w1.setCell ⟨E, 0, none⟩ (.int .i64 n)) := (Mod.of_below (S := fun q => q = E) hb1.out).setCell (p := ⟨E, 0, none⟩) (.inl rfl) _
  clear hE hE1 f1 f2
  cases c₀
  simp_all [bodyPostS, results, Try.results38]
/-- Behind a give-up. -/
theorem gives_up (E : Nat) (ev : Value) (w : World) (tmps : Array Value) (R : Ending → World → Prop) (hE : w.heap[E]? = some (.cells #[ev] 31 (0, 0)))
    (h2 : tmps[2]? = some (.pointer (some ⟨E, 0, none⟩))) (hR : ∀ w', Mod (fun q => q = E) w w' → R (.returned (.int .i64 2)) w') :
    Leaves Try.prog Try.f16 tmps R [{ target := .fn (.func 38) #[], args := #[.pointer (some ⟨E, 0, none⟩), .int .i64 2] }] (.panicking [{ v := .iface 90 (.agg #[]), recovered := false }]) w := by
  refine leaves_cons (f := 38) (args := #[.pointer (some ⟨E, 0, none⟩), .int .i64 2]) (by simp) (by simp [go_sem]) ?_
  refine (catch_stop E ev 2 w hE).mono ?_
  rintro e u' w'' ⟨rfl, rfl, hE', hm'⟩
  have c2 : w''.cell? ⟨E, 0, none⟩ = some (.int .i64 2) := (blk_cell hE' 0).trans rfl
  refine ⟨.int .i64 2, ?_, hR w'' hm'⟩
  simp [results, Try.results16, go_sem, h2, c2]
theorem gives_back (E : Nat) (n : Int) (w : World) (tmps : Array Value) (R : Ending → World → Prop) (hE : w.heap[E]? = some (.cells #[.int .i64 n] 31 (0, 0)))
    (h2 : tmps[2]? = some (.pointer (some ⟨E, 0, none⟩))) (hR : R (.returned (.int .i64 n)) w) :
    Leaves Try.prog Try.f16 tmps R [{ target := .fn (.func 38) #[], args := #[.pointer (some ⟨E, 0, none⟩), .int .i64 2] }] .returning w := by
  refine leaves_cons (f := 38) (args := #[.pointer (some ⟨E, 0, none⟩), .int .i64 2]) (by simp) (by simp [go_sem]) ?_
  refine (catch_idle _ 2 w).mono ?_
  rintro e u' w'' ⟨rfl, rfl, rfl⟩
  have c2 : w''.cell? ⟨E, 0, none⟩ = some (.int .i64 n) := (blk_cell hE 0).trans rfl
  refine ⟨.int .i64 n, ?_, hR⟩
  simp [results, Try.results16, go_sem, h2, c2]
/-- May a filter be? -/
def rightF (x : Ft) : Bool := (cntT 0 1 x).isSome
def checkN (x : Ft) : Int := if rightF x = true then 0 else 2
set_option maxRecDepth 8000 in
set_option maxHeartbeats 2000000 in
theorem fcheck_calls (x : Ft) (A : Option Addr) (c : Nat) (w : World) (hv : Fv w x A c) (hw : wF x ≤ 12000) :
    Calls Try.prog 16 #[fv x A c] w fun e w' => e = .returned (.int .i64 (checkN x)) ∧ Below w.heap.size w w' := by
  have hmf : ∀ (fn : Fn) (first cap : Array Value) (w : World), (Instr.makeFunc fn first cap).run Try.prog w = .ok (.func fn first cap) w := fun _ _ _ _ => rfl
  have he := enters_of (P := Try.prog) Try.func39 (by kernel_rfl) rfl
  obtain ⟨w1, hw1⟩ : ∃ w1, w.alloc (.cells #[.int .i64 x.f0, .slice A x.f1.length c, .string x.f2, .string x.f3] 25) = w1 := ⟨_, rfl⟩
  obtain ⟨w2, hw2⟩ : ∃ w2, w1.alloc (.cells #[.int .i64 0] 31) = w2 := ⟨_, rfl⟩
  obtain ⟨wa, hwa⟩ : ∃ wa, w2.alloc (.cells #[.int .i64 0] 3) = wa := ⟨_, rfl⟩
  obtain ⟨E, hEe⟩ : ∃ E, w1.heap.size = E := ⟨_, rfl⟩
  obtain ⟨G, hGe⟩ : ∃ G, w2.heap.size = G := ⟨_, rfl⟩
  obtain ⟨w3, hw3⟩ : ∃ w3, wa.setCell ⟨G, 0, none⟩ (.int .i64 0) = w3 := ⟨_, rfl⟩
  have hGa : wa.heap[G]? = some (.cells #[.int .i64 0] 3 (0, 0)) := by rw [← hwa, ← hGe]; exact heap_alloc_new w2 _
  have ga0 : wa.cell? ⟨G, 0, none⟩ = some (.int .i64 0) := (blk_cell hGa 0).trans rfl
  have gaf : wa.frozen? ⟨G, 0, none⟩ = false := blk_frozen hGa 0
  obtain ⟨D, hDe⟩ : ∃ D, w3.heap.size = D := ⟨_, rfl⟩
  have hE1 : E = w.heap.size + 1 := by rw [← hEe, ← hw1]; simp
  have hG1 : G = E + 1 := by rw [← hGe, ← hEe, ← hw2]; simp
  have hD1 : D = G + 1 := by rw [← hDe, ← hw3, ← hwa, ← hGe]; simp
  obtain ⟨w4, hw4⟩ : ∃ w4, w3.alloc (.cells #[.func (.func 39) #[] #[.pointer (some ⟨G, 0, none⟩), .pointer (some ⟨D, 0, none⟩)]] 68) = w4 := ⟨_, rfl⟩
  have hX1 : FBox w1 w.heap.size 25 (.int .i64 x.f0) (.slice A x.f1.length c) (.string x.f2) (.string x.f3) := hw1 ▸ fbox_new w _ _ _ _ _
  have b1 : Below w.heap.size w w1 := hw1 ▸ below_alloc (Below.refl w.heap.size w) _
  have b2 : Below w1.heap.size w1 w2 := hw2 ▸ below_alloc (Below.refl w1.heap.size w1) _
  have b3 : Below w2.heap.size w2 w3 := hw3 ▸ (hwa ▸ below_alloc (Below.refl w2.heap.size w2) _ : Below w2.heap.size w2 wa).setCell (p := ⟨G, 0, none⟩) (by rw [← hGe]; exact Nat.le_refl _) _
  have b4 : Below w3.heap.size w3 w4 := hw4 ▸ below_alloc (Below.refl w3.heap.size w3) _
  have hE2 : w2.heap[E]? = some (.cells #[.int .i64 0] 31 (0, 0)) := by rw [← hw2, ← hEe]; exact heap_alloc_new w1 _
  have hG3 : w3.heap[G]? = some (.cells #[.int .i64 0] 3 (0, 0)) := by rw [← hw3]; simpa using blk_set hGa 0 (.int .i64 0)
  have hD4 : w4.heap[D]? = some (.cells #[checkV G D] 68 (0, 0)) := by
    have h := heap_alloc_new w3 (.cells #[checkV G D] 68)
    rw [hDe] at h
    rw [← hw4]
    exact h
  have hG4 := (b4.block G (by omega)).trans hG3
  have hE4 := Aside0.mk ((b4.block E (by omega)).trans ((b3.block E (by omega)).trans hE2))
  obtain ⟨p0, p1, p2, p3⟩ := (((hX1.below b2).below b3).below b4).cells
  have g0 : w4.cell? ⟨D, 0, none⟩ = some (.func (.func 39) #[] #[.pointer (some ⟨G, 0, none⟩), .pointer (some ⟨D, 0, none⟩)]) := (blk_cell hD4 0).trans rfl
  have hb4 := Aside0.mk (below_then b1 b1.size (below_then b2 b2.size (below_then b3 b3.size b4)))
  have hcall := check1_calls w G D (by omega) (by omega) x A c 0 1 w4 hv hb4.out (by omega) (by omega) (by omega) hG4 hD4
  unfold fv Counted at hcall
  have hc := Aside0.mk hcall
  have hE1' := Aside0.mk hE1
  have hG1' := Aside0.mk hG1
  clear hE1 hG1 hD1 hX1 b1 b2 b3 b4 hE2 hG3 hD4 hG4 hcall hv hw hGa
  have hgo : checkN x = if (cntT 0 1 x).isSome = true then 0 else 2 := rfl
  obtain ⟨N, hN⟩ : ∃ N, checkN x = N := ⟨_, rfl⟩
  rw [hN] at hgo ⊢
  have hup1 := Aside0.mk (fun (w' : World) (hm : Mod (fun q => q = G) w4 w') => (show Below w.heap.size w w' from mod_below hm hb4.out (by have := hE1'.out; have := hG1'.out; omega)))
  have hup := Aside0.mk (fun (w' w'' : World) (hb : Below w.heap.size w w') (hm : Mod (fun q => q = E) w' w'') => mod_below hm hb (by have := hE1'.out; omega))
  have hne := Aside0.mk (show E ≠ G by have := hG1'.out; omega)
  unfold fv
  cases ha : cntT 0 1 x with
  | none =>
    rw [ha] at hc hgo
    rw [if_neg (by simp)] at hgo
    subst hgo
    clear ha hN
    go_enter_defers Try.func16, Try.ntmps16
    go_wp2_with fail
    refine hc.out.mono ?_
    rintro e w5 ⟨rfl, hm5⟩
    have hE5 := Aside0.mk (hm5.blk hE4.out hne.out)
    have hb5 := Aside0.mk (hup1.out w5 hm5)
    clear hc hm5 p0 p1 p2 p3 g0 ga0 gaf
    go_wp2_with fail
    refine gives_up E _ w5 _ _ hE5.out rfl (fun w' hm => ⟨rfl, hup.out _ _ hb5.out hm⟩)
  | some m =>
    rw [ha] at hc hgo
    rw [if_pos (by simp)] at hgo
    subst hgo
    clear ha hN
    go_enter_defers Try.func16, Try.ntmps16
    go_wp2_with fail
    refine hc.out.mono ?_
    rintro e w5 ⟨⟨rfl, _⟩, hm5⟩
    have hE5 := Aside0.mk (hm5.blk hE4.out hne.out)
    have hb5 := Aside0.mk (hup1.out w5 hm5)
    clear hc hm5 p0 p1 p2 p3 g0 ga0 gaf
    have g1 : w5.cell? ⟨E, 0, none⟩ = some (.int .i64 0) := (blk_cell hE5.out 0).trans rfl
    have g2 : w5.frozen? ⟨E, 0, none⟩ = false := blk_frozen hE5.out 0
    have k1 := Aside0.mk (show (w5.setCell ⟨E, 0, none⟩ (.int .i64 0)).heap[E]? = some (.cells #[.int .i64 0] 31 (0, 0)) from by simpa using blk_set hE5.out 0 (.int .i64 0))
    have k2 := Aside0.mk ((Mod.refl (fun q => q = E) w5).setCell (p := ⟨E, 0, none⟩) (.inl rfl) (.int .i64 0))
    go_wp2_with fail
    refine gives_back E 0 _ _ _ k1.out rfl ⟨rfl, hup.out _ _ hb5.out k2.out⟩
end Go.Proofs.Ytgnmkblaockghaa

/- entry.Get. -/
set_option linter.unusedVariables false
set_option linter.unusedSimpArgs false
namespace Go.Proofs.Ytgnmkblaockghaa
open Go.RowKit Go.Shelf Go.Proofs.YtgnmkblaockghaaW.PrintWords Go.Proofs.YtgnmkblaockghaaW.PrintMore Go.Proofs.YtgnmkblaockghaaW.PrintLast

/-! ### Entries -/
/-- An attribute: its name, its values. -/
abbrev At := PFilterBounds.S47
abbrev kA : Kd At := PFilterBounds.k47
/-- Attribute k of a row. -/
theorem kA_at {w : World} {A0 : Option Addr} {n : Nat} {xs : List At} (h : kA.C w A0 n xs) (k : Nat) (hk : k < xs.length) : ∃ ad A c, A0 = some ad ∧ w.cell? (ad.add (k * 2)) = some (.string xs[k].f0) ∧ w.cell? ⟨(ad.add (k * 2)).block, (ad.add (k * 2)).off + 1, none⟩ = some (.slice A xs[k].f1.length c) ∧ xs[k].f1.length ≤ c ∧ st.C w A xs[k].f1.length xs[k].f1 := by
  have hn : xs.length = n := h.1
  obtain ⟨ad, A, c, e, h0, h1, g1, g2⟩ := PFilterBounds.at_T47 h (k : Int) (by omega) (by omega)
  have hr : PFilterBounds.rd_T47 xs (k : Int) = xs[k] := by unfold PFilterBounds.rd_T47; simp [List.getD_eq_getElem?_getD, hk]
  rw [hr] at h0 h1 g1 g2
  exact ⟨ad, A, c, e, h0, h1, g1, g2⟩
/-- No more than some. -/
def MildE (l : List At) : Prop := l.length ≤ 1000 ∧ ∀ a ∈ l, a.f0.size ≤ 12000 ∧ a.f1.length ≤ 1000 ∧ ∀ s ∈ a.f1, s.size ≤ 12000
/-- The values of a name (in small letters). -/
def getE (t : ByteArray) : List At → Fld
  | [] => []
  | a :: l => if (a.f0.toList == t.toList) = true then a.f1 else getE t l
theorem getE_mem {t : ByteArray} {l : List At} (h : MildE l) : (getE t l).length ≤ 1000 ∧ ∀ s ∈ getE t l, s.size ≤ 12000 := by
  obtain ⟨hlen, h⟩ := h
  clear hlen
  induction l with
  | nil => exact ⟨Nat.zero_le _, fun s hs => by cases hs⟩
  | cons a l ih =>
    rw [getE]
    split
    · exact ⟨(h a List.mem_cons_self).2.1, (h a List.mem_cons_self).2.2⟩
    · exact ih (fun b hb => h b (List.mem_cons_of_mem _ hb))
theorem getE_drop (t : ByteArray) (l : List At) (k : Nat) (h : k < l.length) : getE t (l.drop k) = if (l[k].f0.toList == t.toList) = true then l[k].f1 else getE t (l.drop (k + 1)) := by
  rw [List.drop_eq_getElem_cons h, getE]
/-- What Get ends in. -/
def Gets (r : Fld) (w : World) (e : Ending) (w' : World) : Prop := (∃ A' c', e = .returned (.slice A' r.length c') ∧ st.C w' A' r.length r) ∧ Below w.heap.size w w'
set_option maxRecDepth 8000 in
set_option maxHeartbeats 4000000 in
theorem get_calls (A : Option Addr) (c : Nat) (l : List At) (s : ByteArray) (w : World) (hl : MildE l) (hC : kA.C w A l.length l) (hs : s.size ≤ 12000) :
    Calls Try.prog 33 #[.slice A l.length c, .string s] w (Gets (getE (small s) l) w) := by
  obtain ⟨M, hM⟩ : ∃ M, l.length = M := ⟨_, rfl⟩
  have hsm := Aside0.mk (fun w => small_calls s w hs)
  have hl1 := hl.1
  have hl2 := Aside0.mk hl.2
  replace hC := Aside0.mk hC
  rw [hM] at hl1 ⊢
  replace hM := Aside0.mk hM
  clear hl
  generalize small s = t at *
  obtain ⟨r, hr⟩ : ∃ r, getE t l = r := ⟨_, rfl⟩
  rw [hr]
  replace hr := Aside0.mk hr
  have hb0 : Aside0 (Below w.heap.size w w) := Aside0.mk (Below.refl _ _)
  go_enter Try.func33, Try.ntmps33
  go_wp2
  go_loopw [9] (fun s9 wr => ∃ k : Nat, k ≤ M ∧ s9 = .int .i64 k ∧ Aside0 (Below w.heap.size w wr) ∧ Aside0 (getE t (l.drop k) = r)) (fun s9 _ => M - (intOf s9).toNat)
  case atStart => exact ⟨0, Nat.zero_le _, rfl, hb0, by simpa using hr⟩
  case round =>
    clear hb0
    obtain ⟨k, hk, rfl, hb, hg⟩ := hrel
    by_cases hlt : k < M
    · have hkl : k < l.length := by rw [hM.out]; exact hlt
      obtain ⟨ad, A6, c6, e, p0, p1, hc6, hC6⟩ := kA_at (Kd.C_below hC.out hb.out) k hkl
      subst e
      have hst := Aside0.mk (getE_drop t l k hkl)
      have hsz := (hl2.out l[k] (List.getElem_mem hkl)).2.1
      obtain ⟨y, hy⟩ : ∃ y, l[k] = y := ⟨_, rfl⟩
      rw [hy] at p0 p1 hc6 hC6 hst hsz
      have hb2 := below_alloc (Below.refl wr.heap.size wr) (.cells #[.string y.f0, .slice A6 y.f1.length c6] 47)
      have hX := heap_alloc_new wr (.cells #[.string y.f0, .slice A6 y.f1.length c6] 47)
      obtain ⟨w2, hw2⟩ : ∃ w2, wr.alloc (.cells #[.string y.f0, .slice A6 y.f1.length c6] 47) = w2 := ⟨_, rfl⟩
      rw [hw2] at hb2 hX
      have q0 : w2.cell? ⟨wr.heap.size, 0, none⟩ = some (.string y.f0) := (blk_cell hX 0).trans rfl
      have q1 : w2.cell? ⟨wr.heap.size, 1, none⟩ = some (.slice A6 y.f1.length c6) := (blk_cell hX 1).trans rfl
      have hC2 := Aside0.mk (Kd.C_below hC6 hb2)
      have hv := Aside0.mk (hsm.out w2.drew)
      replace hb2 := Aside0.mk (below_drew (below_then hb.out hb.out.size hb2))
      have i1 : (0 : Int) ≤ (k : Int) := by omega
      have i2 : (k : Int) < (M : Int) := by omega
      clear hy hkl hX hC6 hb
      cases hd : (y.f0.toList == t.toList) with
      | true =>
        have hd9 := Aside0.mk hd
        rw [hd, if_pos rfl] at hst
        replace hst := Aside0.mk (hg.out.symm.trans hst.out)
        go_wp2_with fail
        refine start_ (n := 5) (S := fun w' => w'.cell? ⟨wr.heap.size, 0, none⟩ = some (.string y.f0) ∧ w'.cell? ⟨wr.heap.size, 1, none⟩ = some (.slice A6 y.f1.length c6)) (ds := []) (B_ 5 0) (by kernel_rfl) rfl rfl ⟨q0, q1⟩ (fun hHeld => ?_)
        refine pn_ 0 13 (B_ 5 1) rfl rfl ?_
        refine pn_ 2 15 (B_ 5 5) rfl rfl ?_
        refine tk_ 1 14 (B_ 5 7) rfl rfl hHeld (by rintro w' ⟨s0, s1⟩; go_simp; with_reducible rfl) ?_
        refine one_ (i := 3) (N := some 16) (B_ 5 15) rfl rfl (by kernel_rfl) (by decide) (fun K hK => ?_)
        refine goes_ Try.func32 (by kernel_rfl) rfl #[.string s] (by rfl) rfl rfl (by simp only [List.map_toArray, List.map_cons, List.map_nil]; rfl) ?_
        with_reducible refine (hv.out).mono ?_
        rintro e w4 ⟨rfl, hb4⟩
        refine ⟨_, rfl, ?_⟩
        have hb4 := Aside0.mk hb4
        have q0 := pw_cell_below hb4.out q0
        have q1 := pw_cell_below hb4.out q1
        refine hK.out _ _ ⟨(And.intro q0 q1).1, (And.intro q0 q1).2⟩ (fun hHeld => ?_)
        clear hK K
        refine nm_ 16 ?_
        refine pn_ 4 17 (B_ 5 31) rfl rfl ?_
        refine done_ (by kernel_rfl) ?_
        have hcl := Aside0.mk (clone_calls A6 c6 y.f1 w4 (Kd.C_below (Kd.C_drew hC2.out) hb4.out) hsz)
        have hb5 := Aside0.mk (below_then hb2.out hb2.out.size hb4.out)
        clear hb4 hb2 hC2
        go_wp2_with fail
        refine hcl.out.mono ?_
        rintro e w5 ⟨⟨A', c', rfl, hC'⟩, hb6⟩
        replace hb6 := Aside0.mk (below_then hb5.out hb5.out.size hb6)
        replace hC' := Aside0.mk hC'
        clear hcl hb5
        go_wp2_with fail
        go_ret
        refine ⟨⟨A', c', ?_, ?_⟩, hb6.out⟩
        · rw [hst.out]; rfl
        · rw [hst.out]; exact hC'.out
      | false =>
        have hd9 := Aside0.mk hd
        rw [hd, if_neg (by simp)] at hst
        replace hst := Aside0.mk (hst.out.symm.trans hg.out)
        go_wp2_with fail
        refine start_ (n := 5) (S := fun w' => w'.cell? ⟨wr.heap.size, 0, none⟩ = some (.string y.f0) ∧ w'.cell? ⟨wr.heap.size, 1, none⟩ = some (.slice A6 y.f1.length c6)) (ds := []) (B_ 5 0) (by kernel_rfl) rfl rfl ⟨q0, q1⟩ (fun hHeld => ?_)
        refine pn_ 0 13 (B_ 5 1) rfl rfl ?_
        refine pn_ 2 15 (B_ 5 5) rfl rfl ?_
        refine tk_ 1 14 (B_ 5 7) rfl rfl hHeld (by rintro w' ⟨s0, s1⟩; go_simp; with_reducible rfl) ?_
        refine one_ (i := 3) (N := some 16) (B_ 5 15) rfl rfl (by kernel_rfl) (by decide) (fun K hK => ?_)
        refine goes_ Try.func32 (by kernel_rfl) rfl #[.string s] (by rfl) rfl rfl (by simp only [List.map_toArray, List.map_cons, List.map_nil]; rfl) ?_
        with_reducible refine (hv.out).mono ?_
        rintro e w4 ⟨rfl, hb4⟩
        refine ⟨_, rfl, ?_⟩
        have hb4 := Aside0.mk hb4
        have q0 := pw_cell_below hb4.out q0
        have q1 := pw_cell_below hb4.out q1
        refine hK.out _ _ ⟨(And.intro q0 q1).1, (And.intro q0 q1).2⟩ (fun hHeld => ?_)
        clear hK K
        refine nm_ 16 ?_
        refine pn_ 4 17 (B_ 5 31) rfl rfl ?_
        refine done_ (by kernel_rfl) ?_
        have hb5 := Aside0.mk (below_then hb2.out hb2.out.size hb4.out)
        clear hb4 hb2 hC2
        go_wp2_with fail
        go_roundw
        case rel => exact ⟨k + 1, by omega, by go_num, hb5, hst⟩
        case measure => simp [intOf]; omega
    · have h9 : r = [] := by
        have := hg.out
        rw [List.drop_eq_nil_of_le (by rw [hM.out]; omega), getE] at this
        exact this.symm
      subst h9
      go_wp2_with fail
      go_ret
      exact ⟨⟨_, _, rfl, Kd.C_nil _ _⟩, hb.out⟩
end Go.Proofs.Ytgnmkblaockghaa
