/- dn.Check: a part, all parts. -/
import Derived.Test.YtgnmkblaockghaaQJa
import Derived.StillTailTactics
import Derived.Shelf.RegionOpen
set_option linter.unusedVariables false
set_option linter.unusedSimpArgs false
namespace Go.Proofs.Ytgnmkblaockghaa
open Go.RowKit Go.Shelf Go.Proofs.YtgnmkblaockghaaW.PrintWords Go.Proofs.YtgnmkblaockghaaW.PrintMore Go.Proofs.YtgnmkblaockghaaW.PrintLast

/-- A part of a name. -/
structure Rdn where
  t : ByteArray
  v : ByteArray
def zR : Rdn := ⟨⟨#[]⟩, ⟨#[]⟩⟩
def kr : Kd Rdn := Kd.iso (Kd.pair Kd.string Kd.string) (fun x : Rdn => (x.t, x.v))
theorem kr_open {w : World} {x : Rdn} {cs : List Value} (h : kr.K w x cs) : cs = [.string x.t, .string x.v] := by
  obtain ⟨_, _, rfl, rfl, rfl⟩ := h
  exact rfl
theorem rdn_at {w : World} {A : Option Addr} {xs : List Rdn} (h : kr.C w A xs.length xs) (i : Nat) (hi : i < xs.length) : ∃ ad, A = some ad ∧ w.cell? (ad.add (i * 2)) = some (.string xs[i].t) ∧ w.cell? ⟨(ad.add (i * 2)).block, (ad.add (i * 2)).off + 1, none⟩ = some (.string xs[i].v) := by
  obtain ⟨ad, c, e, _, hK, hc0⟩ := Kd.C_get h zR (i : Int) (by omega) (by omega)
  have hc : ∀ j u, c[j]? = some u → w.cell? (ad.add (i * 2 + j)) = some u := hc0
  have hg : xs.getD (i : Int).toNat zR = xs[i] := by simp [List.getD_eq_getElem?_getD, hi]
  rw [hg] at hK
  obtain rfl := kr_open hK
  exact ⟨ad, e, hc 0 _ rfl, by rw [← add_field _ _ 1 (by omega)]; exact hc 1 _ rfl⟩
def partOk (x : Rdn) : Bool := nameOk x.t && (((small x.t).toList == x.t.toList) && (decide (1 ≤ (x.v.size : Int)) && decide ((x.v.size : Int) ≤ 200)))
set_option maxRecDepth 8000 in
set_option maxHeartbeats 4000000 in
theorem part_calls (t v : ByteArray) (w : World) (ht : t.size ≤ 12000) :
    Calls Try.prog 95 #[.agg #[.string t, .string v]] w fun e w' => e = .returned (.bool (partOk ⟨t, v⟩)) ∧ Below w.heap.size w w' := by
  have hb0 := Aside0.mk (below_alloc (Below.refl w.heap.size w) (.cells #[.string t, .string v] 104))
  have h0 := heap_alloc_new w (.cells #[.string t, .string v] 104)
  obtain ⟨w1, hw1⟩ : ∃ w1, w.alloc (.cells #[.string t, .string v] 104) = w1 := ⟨_, rfl⟩
  rw [hw1] at h0 hb0
  have p0 : w1.cell? ⟨w.heap.size, 0, none⟩ = some (.string t) := (cell_of_row _ _ _ _ _ _ h0).trans rfl
  have p1 : w1.cell? ⟨w.heap.size, 1, none⟩ = some (.string v) := (cell_of_row _ _ _ _ _ _ h0).trans rfl
  have hn := Aside0.mk (name_calls t w1.drew ht)
  have hsm := Aside0.mk (fun w => small_calls t w ht)
  unfold partOk
  dsimp only
  obtain ⟨a, ha⟩ : ∃ a, nameOk t = a := ⟨_, rfl⟩
  obtain ⟨b, hb⟩ : ∃ b, ((small t).toList == t.toList) = b := ⟨_, rfl⟩
  obtain ⟨c, hc⟩ : ∃ c, decide (1 ≤ (v.size : Int)) = c := ⟨_, rfl⟩
  obtain ⟨d, hd⟩ : ∃ d, decide ((v.size : Int) ≤ 200) = d := ⟨_, rfl⟩
  have hcn : decide (1 ≤ v.size) = c := by rw [← hc]; congr 1; exact propext ⟨fun h => by omega, fun h => by omega⟩
  have hdn : decide (v.size ≤ 200) = d := by rw [← hd]; congr 1; exact propext ⟨fun h => by omega, fun h => by omega⟩
  rw [ha] at hn
  rw [ha, hb, hc, hd]
  clear ha h0
  generalize small t = st at *
  go_enter Try.func95, Try.ntmps95
  cases a with
  | false =>
    simp only [Bool.false_and]
    go_wp2_with fail
    refine start_ (n := 24) (S := fun w' => w'.cell? ⟨w.heap.size, 0, none⟩ = some (.string t) ∧ w'.cell? ⟨w.heap.size, 1, none⟩ = some (.string v)) (ds := []) (B_ 24 0) (by kernel_rfl) rfl rfl ⟨p0, p1⟩ (fun hHeld => ?_)
    refine pn_ 0 3 (B_ 24 1) rfl rfl ?_
    refine tk_ 1 4 (B_ 24 3) rfl rfl hHeld (by rintro w' ⟨s0, s1⟩; go_simp; with_reducible rfl) ?_
    refine one_ (i := 2) (N := some 5) (B_ 24 7) rfl rfl (by kernel_rfl) (by decide) (fun K hK => ?_)
    refine goes_ Try.func96 (by kernel_rfl) rfl #[.string t] (by rfl) rfl rfl (by simp only [List.map_toArray, List.map_cons, List.map_nil]; rfl) ?_
    with_reducible refine (hn.out).mono ?_
    rintro e w4 ⟨rfl, hb4⟩
    refine ⟨_, rfl, ?_⟩
    have hb4 := Aside0.mk hb4
    have p0 := pw_cell_below hb4.out p0
    have p1 := pw_cell_below hb4.out p1
    refine hK.out _ _ ⟨(And.intro p0 p1).1, (And.intro p0 p1).2⟩ (fun hHeld => ?_)
    clear hK K
    refine nm_ 5 ?_
    refine pn_ 3 6 (B_ 24 15) rfl rfl ?_
    refine po_ 4 7 (B_ 24 31) rfl rfl ?_
    refine po_ 5 8 (B_ 24 63) rfl rfl ?_
    refine po_ 6 9 (B_ 24 127) rfl rfl ?_
    refine po_ 7 10 (B_ 24 255) rfl rfl ?_
    refine po_ 8 11 (B_ 24 511) rfl rfl ?_
    refine po_ 9 12 (B_ 24 1023) rfl rfl ?_
    refine pn_ 10 13 (B_ 24 2047) rfl rfl ?_
    refine pn_ 11 14 (B_ 24 4095) rfl rfl ?_
    refine po_ 12 15 (B_ 24 8191) rfl rfl ?_
    refine po_ 13 16 (B_ 24 16383) rfl rfl ?_
    refine po_ 14 17 (B_ 24 32767) rfl rfl ?_
    refine po_ 15 18 (B_ 24 65535) rfl rfl ?_
    refine pn_ 16 19 (B_ 24 131071) rfl rfl ?_
    refine pn_ 17 20 (B_ 24 262143) rfl rfl ?_
    refine po_ 18 21 (B_ 24 524287) rfl rfl ?_
    refine po_ 19 22 (B_ 24 1048575) rfl rfl ?_
    refine po_ 20 23 (B_ 24 2097151) rfl rfl ?_
    refine po_ 21 24 (B_ 24 4194303) rfl rfl ?_
    refine pn_ 22 25 (B_ 24 8388607) rfl rfl ?_
    refine pn_ 23 2 (B_ 24 16777215) rfl rfl ?_
    refine done_ (by kernel_rfl) ?_
    go_wp2_with fail
    go_ret
    exact ⟨rfl, below_then (below_drew hb0.out) hb0.out.size hb4.out⟩
  | true =>
    cases b with
    | false =>
      simp only [Bool.true_and, Bool.false_and]
      go_wp2_with fail
      refine start_ (n := 24) (S := fun w' => w'.cell? ⟨w.heap.size, 0, none⟩ = some (.string t) ∧ w'.cell? ⟨w.heap.size, 1, none⟩ = some (.string v)) (ds := []) (B_ 24 0) (by kernel_rfl) rfl rfl ⟨p0, p1⟩ (fun hHeld => ?_)
      refine pn_ 0 3 (B_ 24 1) rfl rfl ?_
      refine tk_ 1 4 (B_ 24 3) rfl rfl hHeld (by rintro w' ⟨s0, s1⟩; go_simp; with_reducible rfl) ?_
      refine one_ (i := 2) (N := some 5) (B_ 24 7) rfl rfl (by kernel_rfl) (by decide) (fun K hK => ?_)
      refine goes_ Try.func96 (by kernel_rfl) rfl #[.string t] (by rfl) rfl rfl (by simp only [List.map_toArray, List.map_cons, List.map_nil]; rfl) ?_
      with_reducible refine (hn.out).mono ?_
      rintro e w4 ⟨rfl, hb4⟩
      refine ⟨_, rfl, ?_⟩
      have hb4 := Aside0.mk hb4
      have p0 := pw_cell_below hb4.out p0
      have p1 := pw_cell_below hb4.out p1
      refine hK.out _ _ ⟨(And.intro p0 p1).1, (And.intro p0 p1).2⟩ (fun hHeld => ?_)
      clear hK K
      refine nm_ 5 ?_
      refine pn_ 3 6 (B_ 24 15) rfl rfl ?_
      refine pn_ 4 7 (B_ 24 31) rfl rfl ?_
      refine pn_ 7 10 (B_ 24 159) rfl rfl ?_
      refine tk_ 5 8 (B_ 24 191) rfl rfl hHeld (by rintro w' ⟨s0, s1⟩; go_simp; with_reducible rfl) ?_
      refine tk_ 8 11 (B_ 24 447) rfl rfl hHeld (by rintro w' ⟨s0, s1⟩; go_simp; with_reducible rfl) ?_
      refine one_ (i := 6) (N := some 9) (B_ 24 511) rfl rfl (by kernel_rfl) (by decide) (fun K hK => ?_)
      refine goes_ Try.func32 (by kernel_rfl) rfl #[.string t] (by rfl) rfl rfl (by simp only [List.map_toArray, List.map_cons, List.map_nil]; rfl) ?_
      with_reducible refine ((hsm.out w4)).mono ?_
      rintro e w5 ⟨rfl, hb5⟩
      refine ⟨_, rfl, ?_⟩
      have hb5 := Aside0.mk hb5
      have p0 := pw_cell_below hb5.out p0
      have p1 := pw_cell_below hb5.out p1
      refine hK.out _ _ ⟨(And.intro p0 p1).1, (And.intro p0 p1).2⟩ (fun hHeld => ?_)
      clear hK K
      refine nm_ 9 ?_
      refine pn_ 9 12 (B_ 24 1023) rfl rfl ?_
      refine pn_ 10 13 (B_ 24 2047) rfl rfl ?_
      refine pn_ 11 14 (B_ 24 4095) rfl rfl ?_
      refine po_ 12 15 (B_ 24 8191) rfl rfl ?_
      refine po_ 13 16 (B_ 24 16383) rfl rfl ?_
      refine po_ 14 17 (B_ 24 32767) rfl rfl ?_
      refine po_ 15 18 (B_ 24 65535) rfl rfl ?_
      refine pn_ 16 19 (B_ 24 131071) rfl rfl ?_
      refine pn_ 17 20 (B_ 24 262143) rfl rfl ?_
      refine po_ 18 21 (B_ 24 524287) rfl rfl ?_
      refine po_ 19 22 (B_ 24 1048575) rfl rfl ?_
      refine po_ 20 23 (B_ 24 2097151) rfl rfl ?_
      refine po_ 21 24 (B_ 24 4194303) rfl rfl ?_
      refine pn_ 22 25 (B_ 24 8388607) rfl rfl ?_
      refine pn_ 23 2 (B_ 24 16777215) rfl rfl ?_
      refine done_ (by kernel_rfl) ?_
      go_wp2_with fail
      go_ret
      exact ⟨rfl, below_then (below_then (below_drew hb0.out) hb0.out.size hb4.out) (Nat.le_trans hb0.out.size hb4.out.size) hb5.out⟩
    | true =>
      cases c with
      | false =>
        simp only [Bool.true_and, Bool.false_and]
        go_wp2_with fail
        refine start_ (n := 24) (S := fun w' => w'.cell? ⟨w.heap.size, 0, none⟩ = some (.string t) ∧ w'.cell? ⟨w.heap.size, 1, none⟩ = some (.string v)) (ds := []) (B_ 24 0) (by kernel_rfl) rfl rfl ⟨p0, p1⟩ (fun hHeld => ?_)
        refine pn_ 0 3 (B_ 24 1) rfl rfl ?_
        refine tk_ 1 4 (B_ 24 3) rfl rfl hHeld (by rintro w' ⟨s0, s1⟩; go_simp; with_reducible rfl) ?_
        refine one_ (i := 2) (N := some 5) (B_ 24 7) rfl rfl (by kernel_rfl) (by decide) (fun K hK => ?_)
        refine goes_ Try.func96 (by kernel_rfl) rfl #[.string t] (by rfl) rfl rfl (by simp only [List.map_toArray, List.map_cons, List.map_nil]; rfl) ?_
        with_reducible refine (hn.out).mono ?_
        rintro e w4 ⟨rfl, hb4⟩
        refine ⟨_, rfl, ?_⟩
        have hb4 := Aside0.mk hb4
        have p0 := pw_cell_below hb4.out p0
        have p1 := pw_cell_below hb4.out p1
        refine hK.out _ _ ⟨(And.intro p0 p1).1, (And.intro p0 p1).2⟩ (fun hHeld => ?_)
        clear hK K
        refine nm_ 5 ?_
        refine pn_ 3 6 (B_ 24 15) rfl rfl ?_
        refine pn_ 4 7 (B_ 24 31) rfl rfl ?_
        refine pn_ 7 10 (B_ 24 159) rfl rfl ?_
        refine tk_ 5 8 (B_ 24 191) rfl rfl hHeld (by rintro w' ⟨s0, s1⟩; go_simp; with_reducible rfl) ?_
        refine tk_ 8 11 (B_ 24 447) rfl rfl hHeld (by rintro w' ⟨s0, s1⟩; go_simp; with_reducible rfl) ?_
        refine one_ (i := 6) (N := some 9) (B_ 24 511) rfl rfl (by kernel_rfl) (by decide) (fun K hK => ?_)
        refine goes_ Try.func32 (by kernel_rfl) rfl #[.string t] (by rfl) rfl rfl (by simp only [List.map_toArray, List.map_cons, List.map_nil]; rfl) ?_
        with_reducible refine ((hsm.out w4)).mono ?_
        rintro e w5 ⟨rfl, hb5⟩
        refine ⟨_, rfl, ?_⟩
        have hb5 := Aside0.mk hb5
        have p0 := pw_cell_below hb5.out p0
        have p1 := pw_cell_below hb5.out p1
        refine hK.out _ _ ⟨(And.intro p0 p1).1, (And.intro p0 p1).2⟩ (fun hHeld => ?_)
        clear hK K
        refine nm_ 9 ?_
        refine pn_ 9 12 (B_ 24 1023) rfl rfl ?_
        refine pn_ 10 13 (B_ 24 2047) rfl rfl ?_
        refine pn_ 11 14 (B_ 24 4095) rfl rfl ?_
        refine pn_ 12 15 (B_ 24 8191) rfl rfl ?_
        refine tk_ 13 16 (B_ 24 16383) rfl rfl hHeld (by rintro w' ⟨s0, s1⟩; go_simp; with_reducible rfl) ?_
        refine pn_ 14 17 (B_ 24 32767) rfl rfl ?_
        refine pn_ 15 18 (B_ 24 65535) rfl rfl ?_
        refine pn_ 16 19 (B_ 24 131071) rfl rfl ?_
        refine pn_ 17 20 (B_ 24 262143) rfl rfl ?_
        refine po_ 18 21 (B_ 24 524287) rfl rfl ?_
        refine po_ 19 22 (B_ 24 1048575) rfl rfl ?_
        refine po_ 20 23 (B_ 24 2097151) rfl rfl ?_
        refine po_ 21 24 (B_ 24 4194303) rfl rfl ?_
        refine pn_ 22 25 (B_ 24 8388607) rfl rfl ?_
        refine pn_ 23 2 (B_ 24 16777215) rfl rfl ?_
        refine done_ (by kernel_rfl) ?_
        go_wp2_with fail
        go_ret
        exact ⟨rfl, below_then (below_then (below_drew hb0.out) hb0.out.size hb4.out) (Nat.le_trans hb0.out.size hb4.out.size) hb5.out⟩
      | true =>
        cases d with
        | false =>
          simp only [Bool.true_and]
          go_wp2_with fail
          refine start_ (n := 24) (S := fun w' => w'.cell? ⟨w.heap.size, 0, none⟩ = some (.string t) ∧ w'.cell? ⟨w.heap.size, 1, none⟩ = some (.string v)) (ds := []) (B_ 24 0) (by kernel_rfl) rfl rfl ⟨p0, p1⟩ (fun hHeld => ?_)
          refine pn_ 0 3 (B_ 24 1) rfl rfl ?_
          refine tk_ 1 4 (B_ 24 3) rfl rfl hHeld (by rintro w' ⟨s0, s1⟩; go_simp; with_reducible rfl) ?_
          refine one_ (i := 2) (N := some 5) (B_ 24 7) rfl rfl (by kernel_rfl) (by decide) (fun K hK => ?_)
          refine goes_ Try.func96 (by kernel_rfl) rfl #[.string t] (by rfl) rfl rfl (by simp only [List.map_toArray, List.map_cons, List.map_nil]; rfl) ?_
          with_reducible refine (hn.out).mono ?_
          rintro e w4 ⟨rfl, hb4⟩
          refine ⟨_, rfl, ?_⟩
          have hb4 := Aside0.mk hb4
          have p0 := pw_cell_below hb4.out p0
          have p1 := pw_cell_below hb4.out p1
          refine hK.out _ _ ⟨(And.intro p0 p1).1, (And.intro p0 p1).2⟩ (fun hHeld => ?_)
          clear hK K
          refine nm_ 5 ?_
          refine pn_ 3 6 (B_ 24 15) rfl rfl ?_
          refine pn_ 4 7 (B_ 24 31) rfl rfl ?_
          refine pn_ 7 10 (B_ 24 159) rfl rfl ?_
          refine tk_ 5 8 (B_ 24 191) rfl rfl hHeld (by rintro w' ⟨s0, s1⟩; go_simp; with_reducible rfl) ?_
          refine tk_ 8 11 (B_ 24 447) rfl rfl hHeld (by rintro w' ⟨s0, s1⟩; go_simp; with_reducible rfl) ?_
          refine one_ (i := 6) (N := some 9) (B_ 24 511) rfl rfl (by kernel_rfl) (by decide) (fun K hK => ?_)
          refine goes_ Try.func32 (by kernel_rfl) rfl #[.string t] (by rfl) rfl rfl (by simp only [List.map_toArray, List.map_cons, List.map_nil]; rfl) ?_
          with_reducible refine ((hsm.out w4)).mono ?_
          rintro e w5 ⟨rfl, hb5⟩
          refine ⟨_, rfl, ?_⟩
          have hb5 := Aside0.mk hb5
          have p0 := pw_cell_below hb5.out p0
          have p1 := pw_cell_below hb5.out p1
          refine hK.out _ _ ⟨(And.intro p0 p1).1, (And.intro p0 p1).2⟩ (fun hHeld => ?_)
          clear hK K
          refine nm_ 9 ?_
          refine pn_ 9 12 (B_ 24 1023) rfl rfl ?_
          refine pn_ 10 13 (B_ 24 2047) rfl rfl ?_
          refine pn_ 11 14 (B_ 24 4095) rfl rfl ?_
          refine pn_ 12 15 (B_ 24 8191) rfl rfl ?_
          refine tk_ 13 16 (B_ 24 16383) rfl rfl hHeld (by rintro w' ⟨s0, s1⟩; go_simp; with_reducible rfl) ?_
          refine pn_ 14 17 (B_ 24 32767) rfl rfl ?_
          refine pn_ 15 18 (B_ 24 65535) rfl rfl ?_
          refine pn_ 16 19 (B_ 24 131071) rfl rfl ?_
          refine pn_ 17 20 (B_ 24 262143) rfl rfl ?_
          refine pn_ 18 21 (B_ 24 524287) rfl rfl ?_
          refine tk_ 19 22 (B_ 24 1048575) rfl rfl hHeld (by rintro w' ⟨s0, s1⟩; go_simp; with_reducible rfl) ?_
          refine pn_ 20 23 (B_ 24 2097151) rfl rfl ?_
          refine pn_ 21 24 (B_ 24 4194303) rfl rfl ?_
          refine pn_ 22 25 (B_ 24 8388607) rfl rfl ?_
          refine pn_ 23 2 (B_ 24 16777215) rfl rfl ?_
          refine done_ (by kernel_rfl) ?_
          go_wp2_with fail
          go_ret
          exact ⟨rfl, below_then (below_then (below_drew hb0.out) hb0.out.size hb4.out) (Nat.le_trans hb0.out.size hb4.out.size) hb5.out⟩
        | true =>
          simp only [Bool.true_and]
          go_wp2_with fail
          refine start_ (n := 24) (S := fun w' => w'.cell? ⟨w.heap.size, 0, none⟩ = some (.string t) ∧ w'.cell? ⟨w.heap.size, 1, none⟩ = some (.string v)) (ds := []) (B_ 24 0) (by kernel_rfl) rfl rfl ⟨p0, p1⟩ (fun hHeld => ?_)
          refine pn_ 0 3 (B_ 24 1) rfl rfl ?_
          refine tk_ 1 4 (B_ 24 3) rfl rfl hHeld (by rintro w' ⟨s0, s1⟩; go_simp; with_reducible rfl) ?_
          refine one_ (i := 2) (N := some 5) (B_ 24 7) rfl rfl (by kernel_rfl) (by decide) (fun K hK => ?_)
          refine goes_ Try.func96 (by kernel_rfl) rfl #[.string t] (by rfl) rfl rfl (by simp only [List.map_toArray, List.map_cons, List.map_nil]; rfl) ?_
          with_reducible refine (hn.out).mono ?_
          rintro e w4 ⟨rfl, hb4⟩
          refine ⟨_, rfl, ?_⟩
          have hb4 := Aside0.mk hb4
          have p0 := pw_cell_below hb4.out p0
          have p1 := pw_cell_below hb4.out p1
          refine hK.out _ _ ⟨(And.intro p0 p1).1, (And.intro p0 p1).2⟩ (fun hHeld => ?_)
          clear hK K
          refine nm_ 5 ?_
          refine pn_ 3 6 (B_ 24 15) rfl rfl ?_
          refine pn_ 4 7 (B_ 24 31) rfl rfl ?_
          refine pn_ 7 10 (B_ 24 159) rfl rfl ?_
          refine tk_ 5 8 (B_ 24 191) rfl rfl hHeld (by rintro w' ⟨s0, s1⟩; go_simp; with_reducible rfl) ?_
          refine tk_ 8 11 (B_ 24 447) rfl rfl hHeld (by rintro w' ⟨s0, s1⟩; go_simp; with_reducible rfl) ?_
          refine one_ (i := 6) (N := some 9) (B_ 24 511) rfl rfl (by kernel_rfl) (by decide) (fun K hK => ?_)
          refine goes_ Try.func32 (by kernel_rfl) rfl #[.string t] (by rfl) rfl rfl (by simp only [List.map_toArray, List.map_cons, List.map_nil]; rfl) ?_
          with_reducible refine ((hsm.out w4)).mono ?_
          rintro e w5 ⟨rfl, hb5⟩
          refine ⟨_, rfl, ?_⟩
          have hb5 := Aside0.mk hb5
          have p0 := pw_cell_below hb5.out p0
          have p1 := pw_cell_below hb5.out p1
          refine hK.out _ _ ⟨(And.intro p0 p1).1, (And.intro p0 p1).2⟩ (fun hHeld => ?_)
          clear hK K
          refine nm_ 9 ?_
          refine pn_ 9 12 (B_ 24 1023) rfl rfl ?_
          refine pn_ 10 13 (B_ 24 2047) rfl rfl ?_
          refine pn_ 11 14 (B_ 24 4095) rfl rfl ?_
          refine pn_ 12 15 (B_ 24 8191) rfl rfl ?_
          refine tk_ 13 16 (B_ 24 16383) rfl rfl hHeld (by rintro w' ⟨s0, s1⟩; go_simp; with_reducible rfl) ?_
          refine pn_ 14 17 (B_ 24 32767) rfl rfl ?_
          refine pn_ 15 18 (B_ 24 65535) rfl rfl ?_
          refine pn_ 16 19 (B_ 24 131071) rfl rfl ?_
          refine pn_ 17 20 (B_ 24 262143) rfl rfl ?_
          refine pn_ 18 21 (B_ 24 524287) rfl rfl ?_
          refine tk_ 19 22 (B_ 24 1048575) rfl rfl hHeld (by rintro w' ⟨s0, s1⟩; go_simp; with_reducible rfl) ?_
          refine pn_ 20 23 (B_ 24 2097151) rfl rfl ?_
          refine pn_ 21 24 (B_ 24 4194303) rfl rfl ?_
          refine pn_ 22 25 (B_ 24 8388607) rfl rfl ?_
          refine pn_ 23 2 (B_ 24 16777215) rfl rfl ?_
          refine done_ (by kernel_rfl) ?_
          go_wp2_with fail
          go_ret
          exact ⟨rfl, below_then (below_then (below_drew hb0.out) hb0.out.size hb4.out) (Nat.le_trans hb0.out.size hb4.out.size) hb5.out⟩
end Go.Proofs.Ytgnmkblaockghaa
