/- The walk of DnUps. -/
import Derived.Test.YthbjgcmbbdlfkaaEe
import Derived.Test.YthbjgcmbbdlfkaaEh
import Derived.Test.YthbjgcmbbdlfkaaEj
import Derived.Test.YthbjgcmbbdlfkaaFd
import Derived.Test.YthbjgcmbbdlfkaaFe
set_option linter.unusedVariables false
set_option linter.unusedSimpArgs false
namespace Go.Proofs.Ythbjgcmbbdlfkaa
open Go.RowKit Go.Shelf Go.Proofs.YthbjgcmbbdlfkaaW.PrintWords Go.Proofs.YthbjgcmbbdlfkaaW.PrintMore Go.Proofs.YthbjgcmbbdlfkaaW.PrintLast

theorem light_one (t v : ByteArray) (w : World) : Calls Try.prog 10 #[.slice (some ⟨w.heap.size, 0, none⟩) 1 1] (w.alloc (.cells #[.string t, .string v] 40)) fun e w' => e = .returned (.bool (lightB [⟨t, v⟩])) ∧ Below w.heap.size w w' := by
  have h := PDnUps.light_calls (some ⟨w.heap.size, 0, none⟩) 1 [⟨t, v⟩] (w.alloc (.cells #[.string t, .string v] 40)) (one_C w t v) (Nat.le_refl _)
  refine h.mono ?_
  rintro e w' ⟨he, hb⟩
  have hb0 := below_alloc (Below.refl w.heap.size w) (.cells #[.string t, .string v] 40)
  exact ⟨he, below_then hb0 hb0.size hb⟩
theorem lightB_cons {r : Rdn} {l : List Rdn} (h : lightB l = true) (h1 : lightB [r] = true) : Mild (r :: l) := by
  obtain ⟨a, b⟩ := lightB_in h
  obtain ⟨_, d⟩ := lightB_in h1
  refine ⟨by simp; omega, fun x hx => ?_⟩
  rcases List.mem_cons.1 hx with rfl | hx
  · have := d x (by simp); omega
  · have := b x hx; omega
theorem agg_rdn {w : World} {v : Value} {y : Rdn} (hv : Value.okWide Try.prog w .any 0 40 v) (hK : kr.K w y v.cells.toList) : v = .agg #[.string y.t, .string y.v] := by
  obtain ⟨cs, rfl, hs⟩ := Go.WideShapes.okWide_struct Try.underlying40 hv
  have h2 : cs.toList = [.string y.t, .string y.v] := kr_open hK
  obtain ⟨l⟩ := cs
  have h3 : l = [.string y.t, .string y.v] := h2
  rw [h3]
set_option maxHeartbeats 1000000 in
set_option maxRecDepth 100000 in
theorem ups_x (W : World) (t v : ByteArray) (A : Option Addr) (c : Nat) (l : List Rdn) (hlc : l.length ≤ c) (hC : kr.C W A l.length l) (hl : lightB l = false) :
    Calls Try.prog 9 #[.agg #[.string t, .string v], .slice A l.length c] W fun e w' => e = .returned (.bool true) ∧ Below W.heap.size W w' := by
  have hb := Aside0.mk (below_alloc (Below.refl W.heap.size W) (.cells #[.string t, .string v] 40))
  have k0 := Aside0.mk (fun W' (hb : Below W.heap.size W W') => PDnUps.light_calls A c l W' (Kd.C_below hC hb) hlc)
  rw [hl] at k0
  generalize l.length = M at *
  clear hC hlc hl
  go_enter Try.func9, Try.ntmps9
  go_wp2_with fail
  refine (k0.out _ hb.out).mono ?_
  rintro e wn ⟨rfl, hbn⟩
  replace hb := Aside0.mk (below_then hb.out hb.out.size hbn)
  go_wp2_with fail
  refine (known_calls _).mono ?_
  rintro e wn2 ⟨rfl, hbn2⟩
  replace hb := Aside0.mk (below_then hb.out hb.out.size hbn2)
  go_wp2_with fail
  go_ret
  exact ⟨rfl, hb.out⟩
set_option maxHeartbeats 1000000 in
set_option maxRecDepth 100000 in
theorem ups_y (W : World) (t v : ByteArray) (A : Option Addr) (c : Nat) (l : List Rdn) (hlc : l.length ≤ c) (hC : kr.C W A l.length l) (hl : lightB l = true) (hr : lightB [⟨t, v⟩] = false) :
    Calls Try.prog 9 #[.agg #[.string t, .string v], .slice A l.length c] W fun e w' => e = .returned (.bool true) ∧ Below W.heap.size W w' := by
  have hb0 := below_alloc (Below.refl W.heap.size W) (.cells #[.string t, .string v] 40)
  have h0 := heap_alloc_new W (.cells #[.string t, .string v] 40)
  obtain ⟨w1, hw1⟩ : ∃ w1, W.alloc (.cells #[.string t, .string v] 40) = w1 := ⟨_, rfl⟩
  rw [hw1] at h0 hb0
  have p0 : w1.cell? ⟨W.heap.size, 0, none⟩ = some (.string t) := (cell_of_row _ _ _ _ _ _ h0).trans rfl
  have p1 : w1.cell? ⟨W.heap.size, 1, none⟩ = some (.string v) := (cell_of_row _ _ _ _ _ _ h0).trans rfl
  have hb := Aside0.mk hb0
  have k0 := Aside0.mk (fun W' (hb : Below W.heap.size W W') => PDnUps.light_calls A c l W' (Kd.C_below hC hb) hlc)
  have k1 := Aside0.mk (fun W' => light_one t v W')
  rw [hl] at k0
  rw [hr] at k1
  generalize l.length = M at *
  clear hC hlc hl hr h0 hb0
  go_enter Try.func9, Try.ntmps9
  go_wp2_with fail
  refine (k0.out _ hb.out).mono ?_
  rintro e wn ⟨rfl, hbn⟩
  replace p0 := pw_cell_below hbn p0
  replace p1 := pw_cell_below hbn p1
  replace hb := Aside0.mk (below_then hb.out hb.out.size hbn)
  clear hbn
  go_wp2_with fail
  refine (k1.out _).mono ?_
  rintro e wn1 ⟨rfl, hbn⟩
  replace hb := Aside0.mk (below_then hb.out hb.out.size hbn)
  clear hbn p0 p1
  go_wp2_with fail
  refine (known_calls _).mono ?_
  rintro e wn2 ⟨rfl, hbn2⟩
  replace hb := Aside0.mk (below_then hb.out hb.out.size hbn2)
  go_wp2_with fail
  go_ret
  exact ⟨rfl, hb.out⟩
set_option maxHeartbeats 4000000 in
set_option maxRecDepth 100000 in
theorem ups_a (W : World) (t v : ByteArray) (A : Option Addr) (c : Nat) (l : List Rdn) (hlc : l.length ≤ c) (hC : kr.C W A l.length l) (hl : lightB l = true) (hr : lightB [⟨t, v⟩] = true) (hall : dnOk (⟨t, v⟩ :: l) = true) (hok : dnOk l = true) (hne : l ≠ []) :
    Calls Try.prog 9 #[.agg #[.string t, .string v], .slice A l.length c] W fun e w' => e = .returned (.bool true) ∧ Below W.heap.size W w' := by
  have hb0 := below_alloc (Below.refl W.heap.size W) (.cells #[.string t, .string v] 40)
  have h0 := heap_alloc_new W (.cells #[.string t, .string v] 40)
  obtain ⟨w1, hw1⟩ : ∃ w1, W.alloc (.cells #[.string t, .string v] 40) = w1 := ⟨_, rfl⟩
  rw [hw1] at h0 hb0
  have p0 : w1.cell? ⟨W.heap.size, 0, none⟩ = some (.string t) := (cell_of_row _ _ _ _ _ _ h0).trans rfl
  have p1 : w1.cell? ⟨W.heap.size, 1, none⟩ = some (.string v) := (cell_of_row _ _ _ _ _ _ h0).trans rfl
  have hm := lightB_mild hl
  have hmr := lightB_cons hl hr
  have hln := hm.1
  have hl20 := (lightB_in hl).1
  have k0 := Aside0.mk (fun W' (hb : Below W.heap.size W W') => PDnUps.light_calls A c l W' (Kd.C_below hC hb) hlc)
  have k1 := Aside0.mk (fun W' => light_one t v W')
  rw [hl] at k0
  rw [hr] at k1
  have kr0 := Aside0.mk (fun W' (hb : Below W.heap.size W W') => PDnUps.right_calls A c l W' hm (Kd.C_below hC hb) hlc)
  have kall := Aside0.mk (fun (A' : Option Addr) (c' : Nat) W' (hc' : (⟨t, v⟩ :: l : List Rdn).length ≤ c') (hC' : kr.C W' A' (⟨t, v⟩ :: l : List Rdn).length (⟨t, v⟩ :: l)) => PDnUps.right_calls A' c' (⟨t, v⟩ :: l) W' hmr hC' hc')
  have hCn := Aside0.mk (fun W' (hb : Below W.heap.size W W') => Kd.C_below hC hb)
  have kup := Aside0.mk (fun W' (hb : Below W.heap.size W W') => up_yes A c l W' hm hlc (Kd.C_below hC hb) hok hne)
  have hsl := slice_from A l.length c 1 1 rfl (by have := List.length_pos_iff.2 hne; omega)
  rw [show l.length - 1 = (l.drop 1).length from List.length_drop.symm] at hsl
  have ksame := fun W' (hb : Below W.heap.size W W') (B : Option Addr) (d : Nat) (hd : (l.drop 1).length ≤ d) (hB : kr.C W' B (l.drop 1).length (l.drop 1)) => PDnUps.same_calls B _ d (c - 1) (l.drop 1) W' (by rw [List.length_drop]; omega) hB hd (Kd.C_drop (m := 1) (c := c) (Kd.C_below hC hb) (by have := List.length_pos_iff.2 hne; omega) hlc) (by rw [List.length_drop]; omega)
  obtain ⟨A1, hA1⟩ : ∃ A1, (if c = 1 then A else A.map (·.add (1 * kr.sz))) = A1 := ⟨_, rfl⟩
  rw [hA1] at hsl
  replace ksame := Aside0.mk (fun W' hb B d hd hB => hA1 ▸ ksame W' hb B d hd hB)
  have kbe := Aside0.mk (fun W' (hb : Below W.heap.size W W') (B : Option Addr) (d : Nat) (hB : kr.C W' B (l.drop 1).length (l.drop 1)) => belowN_calls A B c d l (l.drop 1) W' hm (mild_drop hm 1) hlc (Kd.C_below hC hb) hB)
  rw [beB_drop hok (by omega) (List.length_pos_iff.2 hne)] at kbe
  have hpos : 0 < l.length := List.length_pos_iff.2 hne
  rw [hok] at kr0
  clear hA1
  rw [hall] at kall
  have kund := Aside0.mk (fun W' (hb : Below W.heap.size W W') => under_yes t v A c l W' hmr (Kd.C_below hC hb) hall)
  have kup2 := Aside0.mk (fun (B : Option Addr) (d : Nat) W' hd hB => up_yes B d (⟨t, v⟩ :: l) W' hmr hd hB hall (by simp))
  have ksame2 := Aside0.mk (fun (B B' : Option Addr) (d d' : Nat) W' hB hd hB' hd' => PDnUps.same_calls B B' d d' (⟨t, v⟩ :: l) W' hmr.1 hB hd hB' hd')
  have ksame3 := Aside0.mk (fun W' (hb : Below W.heap.size W W') (B : Option Addr) (d : Nat) hB hd => PDnUps.same_calls B A d c l W' hln hB hd (Kd.C_below hC hb) hlc)
  have kbe2 := Aside0.mk (fun W' (hb : Below W.heap.size W W') (B : Option Addr) (d : Nat) hd hB => belowN_calls B A d c (⟨t, v⟩ :: l) l W' hmr hm hd hB (Kd.C_below hC hb))
  rw [show beB (⟨t, v⟩ :: l) l = true from beB_drop (l := ⟨t, v⟩ :: l) hall (k := 1) (by omega) (by simp)] at kbe2
  rw [show (⟨t, v⟩ :: l : List Rdn).drop 1 = l from rfl] at kup2
  obtain ⟨L, hL⟩ : ∃ L, (⟨t, v⟩ :: l : List Rdn) = L := ⟨_, rfl⟩
  have hLl : L.length = l.length + 1 := by rw [← hL]; rfl
  rw [hL] at kall kund kup2 ksame2 kbe2
  rw [hLl] at kall kup2 ksame2 kbe2
  obtain ⟨M, hM⟩ : ∃ M, l.length = M := ⟨_, rfl⟩
  simp only [hM] at k0 kr0 kall hCn kup kund hln hl20 hsl ksame kbe hpos kup2 ksame2 ksame3 kbe2
  rw [hM]
  rw [hM] at hLl
  have hb := Aside0.mk hb0
  replace hL := Aside0.mk hL
  replace hM := Aside0.mk hM
  replace hLl := Aside0.mk hLl
  clear hC hlc hl hr hb0 h0 hm hmr hall hok hne
  generalize l.drop 1 = l1 at *
  obtain ⟨M1, hM1⟩ : ∃ M1, l1.length = M1 := ⟨_, rfl⟩
  simp only [hM1] at kup hsl ksame kbe
  replace hM1 := Aside0.mk hM1
  have i1 : (0 : Int) < (M : Int) := by omega
  go_enter Try.func9, Try.ntmps9
  go_wp2_with fail
  refine (k0.out _ hb.out).mono ?_
  rintro e wn ⟨rfl, hbn⟩
  replace p0 := pw_cell_below hbn p0
  replace p1 := pw_cell_below hbn p1
  replace hb := Aside0.mk (below_then hb.out hb.out.size hbn)
  clear hbn
  go_wp2_with fail
  refine (k1.out _).mono ?_
  rintro e wn ⟨rfl, hbn⟩
  replace p0 := pw_cell_below hbn p0
  replace p1 := pw_cell_below hbn p1
  replace hb := Aside0.mk (below_then hb.out hb.out.size hbn)
  clear hbn
  go_wp2_with fail
  refine (kup.out _ hb.out).mono ?_
  rintro e wn ⟨⟨A2, c2, rfl, hR⟩, hbn⟩
  replace p0 := pw_cell_below hbn p0
  replace p1 := pw_cell_below hbn p1
  obtain ⟨_, _, ev, hd2, hC2⟩ := Kd.R_reads hR
  rw [hM1.out] at ev hd2 hC2
  injection ev with ev1 _ ev2
  subst ev1; subst ev2
  replace hd2 := Aside0.mk hd2
  replace hC2 := Aside0.mk hC2
  clear hR
  replace hb := Aside0.mk (below_then hb.out hb.out.size hbn)
  clear hbn
  go_wp2_with fail
  refine (kr0.out _ hb.out).mono ?_
  rintro e wn ⟨rfl, hbn⟩
  replace p0 := pw_cell_below hbn p0
  replace p1 := pw_cell_below hbn p1
  replace hC2 := Aside0.mk (Kd.C_below hC2.out hbn)
  replace hb := Aside0.mk (below_then hb.out hb.out.size hbn)
  clear hbn
  go_wp2_with fail
  refine (ksame.out _ hb.out _ _ hd2.out hC2.out).mono ?_
  rintro e wn ⟨rfl, hbn⟩
  replace p0 := pw_cell_below hbn p0
  replace p1 := pw_cell_below hbn p1
  replace hC2 := Aside0.mk (Kd.C_below hC2.out hbn)
  replace hb := Aside0.mk (below_then hb.out hb.out.size hbn)
  clear hbn
  go_wp2_with fail
  refine (kbe.out _ hb.out _ _ hC2.out).mono ?_
  rintro e wn ⟨rfl, hbn⟩
  replace p0 := pw_cell_below hbn p0
  replace p1 := pw_cell_below hbn p1
  replace hb := Aside0.mk (below_then hb.out hb.out.size hbn)
  clear hbn
  go_wp2_with fail
  refine (kund.out _ hb.out).mono ?_
  rintro e wn ⟨⟨A3, c3, rfl, hR⟩, hbn⟩
  replace p0 := pw_cell_below hbn p0
  replace p1 := pw_cell_below hbn p1
  obtain ⟨_, _, ev, hd3, hC3⟩ := Kd.R_reads hR
  rw [hLl.out] at ev hd3 hC3
  injection ev with ev1 _ ev2
  subst ev1; subst ev2
  replace hd3 := Aside0.mk hd3
  replace hC3 := Aside0.mk hC3
  clear hR
  replace hb := Aside0.mk (below_then hb.out hb.out.size hbn)
  clear hbn
  obtain ⟨wc, rfl⟩ : ∃ wc, wc = wn := ⟨_, rfl⟩
  have hE := Aside0.mk (R_one wc t v)
  have hba := Aside0.mk (below_alloc (Below.refl wc.heap.size wc) (.cells #[.string t, .string v] 40))
  have hC1 := Aside0.mk (hCn.out (wc.alloc (.cells #[.string t, .string v] 40)) (below_then hb.out hb.out.size hba.out))
  go_wp2_with ((with_reducible refine gate_builtin (b := .append) (xs := #[.tmp 71, .tmp 72]) rfl ?_); at_builtin; refine Kd.R_append_rows kr (w0 := wc.alloc (.cells #[.string t, .string v] 40)) 0 rfl (.tmp 71) (.tmp 72) 23 40 (.agg #[.string ByteArray.empty, .string ByteArray.empty]) 32 rfl Try.underlying23 info40 rfl (by decide) (by omega) (.slice (some ⟨wc.heap.size, 0, none⟩) 1 1) [⟨t, v⟩] l _ _ _ (fun q => wc.heap.size ≤ q) (fun _ => False) rfl rfl hE.out hC1.out (fun _ _ h => h) (fun _ h => h.elim) (fun k hk => by simp at hk; omega) (Below.refl _ _) (Nat.zero_le _) (by simp [hM.out]; omega) ?_; intro v1 w2 ho _ hg _; replace ho := Aside0.mk ho; replace hg := Aside0.mk hg)
  obtain ⟨A4, c4, e4⟩ := Kd.R_slice ho.out
  have hbn : Below wc.heap.size wc w2 := Mod.below (S := fun q => wc.heap.size ≤ q) (Mod.trans (Mod.of_below (below_alloc (Below.refl wc.heap.size wc) (.cells #[.string t, .string v] 40))) (Mod.of_grown (S := fun q => wc.heap.size ≤ q) hg.out (fun q hq => by simp [Value.ownBlock] at hq; omega)) (fun q hq => .inl hq)) (fun q hq => hq) (Nat.le_refl _)
  rw [show ([⟨t, v⟩] ++ l : List Rdn).length = M + 1 from by simp [hM.out]] at e4
  replace ho := Aside0.mk (show kr.R 40 w2 0 (fun q => wc.heap.size ≤ q) v1 L from by rw [← hL.out]; exact ho.out)
  subst e4
  obtain ⟨_, _, ev, hd4, hC4⟩ := Kd.R_reads ho.out
  rw [hLl.out] at ev hd4 hC4
  injection ev with ev1 _ ev2
  subst ev1; subst ev2
  replace hd4 := Aside0.mk hd4
  replace hC4 := Aside0.mk hC4
  replace p0 := pw_cell_below hbn p0
  replace p1 := pw_cell_below hbn p1
  replace hC3 := Aside0.mk (Kd.C_below hC3.out hbn)
  replace hb := Aside0.mk (below_then hb.out hb.out.size hbn)
  clear hbn ho hg hE hba hC1
  go_wp2_with fail
  refine (kall.out _ _ _ hd4.out hC4.out).mono ?_
  rintro e wn ⟨rfl, hbn⟩
  replace p0 := pw_cell_below hbn p0
  replace p1 := pw_cell_below hbn p1
  replace hC4 := Aside0.mk (Kd.C_below hC4.out hbn)
  replace hC3 := Aside0.mk (Kd.C_below hC3.out hbn)
  replace hb := Aside0.mk (below_then hb.out hb.out.size hbn)
  clear hbn
  go_wp2_with fail
  refine (kup2.out _ _ _ hd3.out hC3.out).mono ?_
  rintro e wn ⟨⟨A5, c5, rfl, hR⟩, hbn⟩
  replace p0 := pw_cell_below hbn p0
  replace p1 := pw_cell_below hbn p1
  obtain ⟨_, _, ev, hd5, hC5⟩ := Kd.R_reads hR
  rw [hM.out] at ev hd5 hC5
  injection ev with ev1 _ ev2
  subst ev1; subst ev2
  replace hd5 := Aside0.mk hd5
  replace hC5 := Aside0.mk hC5
  clear hR
  replace hC4 := Aside0.mk (Kd.C_below hC4.out hbn)
  replace hC3 := Aside0.mk (Kd.C_below hC3.out hbn)
  replace hb := Aside0.mk (below_then hb.out hb.out.size hbn)
  clear hbn
  try rw [hM.out]
  go_wp2_with fail
  refine (ksame2.out _ _ _ _ _ hC3.out hd3.out hC4.out hd4.out).mono ?_
  rintro e wn ⟨rfl, hbn⟩
  replace p0 := pw_cell_below hbn p0
  replace p1 := pw_cell_below hbn p1
  replace hC4 := Aside0.mk (Kd.C_below hC4.out hbn)
  replace hC3 := Aside0.mk (Kd.C_below hC3.out hbn)
  replace hC5 := Aside0.mk (Kd.C_below hC5.out hbn)
  replace hb := Aside0.mk (below_then hb.out hb.out.size hbn)
  clear hbn
  go_wp2_with fail
  refine (ksame3.out _ hb.out _ _ hC5.out hd5.out).mono ?_
  rintro e wn ⟨rfl, hbn⟩
  replace p0 := pw_cell_below hbn p0
  replace p1 := pw_cell_below hbn p1
  replace hC4 := Aside0.mk (Kd.C_below hC4.out hbn)
  replace hC3 := Aside0.mk (Kd.C_below hC3.out hbn)
  replace hb := Aside0.mk (below_then hb.out hb.out.size hbn)
  clear hbn
  go_wp2_with fail
  refine (kbe2.out _ hb.out _ _ hd3.out hC3.out).mono ?_
  rintro e wn ⟨rfl, hbn⟩
  replace p0 := pw_cell_below hbn p0
  replace p1 := pw_cell_below hbn p1
  replace hb := Aside0.mk (below_then hb.out hb.out.size hbn)
  clear hbn
  go_wp2_with fail
  refine (known_calls _).mono ?_
  rintro e wn ⟨rfl, hbn⟩
  replace hb := Aside0.mk (below_then hb.out hb.out.size hbn)
  go_wp2_with fail
  go_ret
  exact ⟨rfl, hb.out⟩
set_option maxHeartbeats 4000000 in
set_option maxRecDepth 100000 in
theorem ups_c (W : World) (t v : ByteArray) (A : Option Addr) (c : Nat) (l : List Rdn) (hlc : l.length ≤ c) (hC : kr.C W A l.length l) (hl : lightB l = true) (hr : lightB [⟨t, v⟩] = true) (hall : dnOk (⟨t, v⟩ :: l) = false) (hok : dnOk l = true) (hne : l ≠ []) :
    Calls Try.prog 9 #[.agg #[.string t, .string v], .slice A l.length c] W fun e w' => e = .returned (.bool true) ∧ Below W.heap.size W w' := by
  have hb0 := below_alloc (Below.refl W.heap.size W) (.cells #[.string t, .string v] 40)
  have h0 := heap_alloc_new W (.cells #[.string t, .string v] 40)
  obtain ⟨w1, hw1⟩ : ∃ w1, W.alloc (.cells #[.string t, .string v] 40) = w1 := ⟨_, rfl⟩
  rw [hw1] at h0 hb0
  have p0 : w1.cell? ⟨W.heap.size, 0, none⟩ = some (.string t) := (cell_of_row _ _ _ _ _ _ h0).trans rfl
  have p1 : w1.cell? ⟨W.heap.size, 1, none⟩ = some (.string v) := (cell_of_row _ _ _ _ _ _ h0).trans rfl
  have hm := lightB_mild hl
  have hmr := lightB_cons hl hr
  have hln := hm.1
  have hl20 := (lightB_in hl).1
  have k0 := Aside0.mk (fun W' (hb : Below W.heap.size W W') => PDnUps.light_calls A c l W' (Kd.C_below hC hb) hlc)
  have k1 := Aside0.mk (fun W' => light_one t v W')
  rw [hl] at k0
  rw [hr] at k1
  have kr0 := Aside0.mk (fun W' (hb : Below W.heap.size W W') => PDnUps.right_calls A c l W' hm (Kd.C_below hC hb) hlc)
  have kall := Aside0.mk (fun (A' : Option Addr) (c' : Nat) W' (hc' : (⟨t, v⟩ :: l : List Rdn).length ≤ c') (hC' : kr.C W' A' (⟨t, v⟩ :: l : List Rdn).length (⟨t, v⟩ :: l)) => PDnUps.right_calls A' c' (⟨t, v⟩ :: l) W' hmr hC' hc')
  have hCn := Aside0.mk (fun W' (hb : Below W.heap.size W W') => Kd.C_below hC hb)
  have kup := Aside0.mk (fun W' (hb : Below W.heap.size W W') => up_yes A c l W' hm hlc (Kd.C_below hC hb) hok hne)
  have hsl := slice_from A l.length c 1 1 rfl (by have := List.length_pos_iff.2 hne; omega)
  rw [show l.length - 1 = (l.drop 1).length from List.length_drop.symm] at hsl
  have ksame := fun W' (hb : Below W.heap.size W W') (B : Option Addr) (d : Nat) (hd : (l.drop 1).length ≤ d) (hB : kr.C W' B (l.drop 1).length (l.drop 1)) => PDnUps.same_calls B _ d (c - 1) (l.drop 1) W' (by rw [List.length_drop]; omega) hB hd (Kd.C_drop (m := 1) (c := c) (Kd.C_below hC hb) (by have := List.length_pos_iff.2 hne; omega) hlc) (by rw [List.length_drop]; omega)
  obtain ⟨A1, hA1⟩ : ∃ A1, (if c = 1 then A else A.map (·.add (1 * kr.sz))) = A1 := ⟨_, rfl⟩
  rw [hA1] at hsl
  replace ksame := Aside0.mk (fun W' hb B d hd hB => hA1 ▸ ksame W' hb B d hd hB)
  have kbe := Aside0.mk (fun W' (hb : Below W.heap.size W W') (B : Option Addr) (d : Nat) (hB : kr.C W' B (l.drop 1).length (l.drop 1)) => belowN_calls A B c d l (l.drop 1) W' hm (mild_drop hm 1) hlc (Kd.C_below hC hb) hB)
  rw [beB_drop hok (by omega) (List.length_pos_iff.2 hne)] at kbe
  have hpos : 0 < l.length := List.length_pos_iff.2 hne
  rw [hok] at kr0
  clear hA1
  rw [hall] at kall
  have kund := Aside0.mk (fun W' (hb : Below W.heap.size W W') => under_no t v A c l W' hmr (Kd.C_below hC hb) hall)
  obtain ⟨L, hL⟩ : ∃ L, (⟨t, v⟩ :: l : List Rdn) = L := ⟨_, rfl⟩
  have hLl : L.length = l.length + 1 := by rw [← hL]; rfl
  rw [hL] at kall
  rw [hLl] at kall
  obtain ⟨M, hM⟩ : ∃ M, l.length = M := ⟨_, rfl⟩
  simp only [hM] at k0 kr0 kall hCn kup kund hln hl20 hsl ksame kbe hpos
  rw [hM]
  rw [hM] at hLl
  have hb := Aside0.mk hb0
  replace hL := Aside0.mk hL
  replace hM := Aside0.mk hM
  replace hLl := Aside0.mk hLl
  clear hC hlc hl hr hb0 h0 hm hmr hall hok hne
  generalize l.drop 1 = l1 at *
  obtain ⟨M1, hM1⟩ : ∃ M1, l1.length = M1 := ⟨_, rfl⟩
  simp only [hM1] at kup hsl ksame kbe
  replace hM1 := Aside0.mk hM1
  have i1 : (0 : Int) < (M : Int) := by omega
  go_enter Try.func9, Try.ntmps9
  go_wp2_with fail
  refine (k0.out _ hb.out).mono ?_
  rintro e wn ⟨rfl, hbn⟩
  replace p0 := pw_cell_below hbn p0
  replace p1 := pw_cell_below hbn p1
  replace hb := Aside0.mk (below_then hb.out hb.out.size hbn)
  clear hbn
  go_wp2_with fail
  refine (k1.out _).mono ?_
  rintro e wn ⟨rfl, hbn⟩
  replace p0 := pw_cell_below hbn p0
  replace p1 := pw_cell_below hbn p1
  replace hb := Aside0.mk (below_then hb.out hb.out.size hbn)
  clear hbn
  go_wp2_with fail
  refine (kup.out _ hb.out).mono ?_
  rintro e wn ⟨⟨A2, c2, rfl, hR⟩, hbn⟩
  replace p0 := pw_cell_below hbn p0
  replace p1 := pw_cell_below hbn p1
  obtain ⟨_, _, ev, hd2, hC2⟩ := Kd.R_reads hR
  rw [hM1.out] at ev hd2 hC2
  injection ev with ev1 _ ev2
  subst ev1; subst ev2
  replace hd2 := Aside0.mk hd2
  replace hC2 := Aside0.mk hC2
  clear hR
  replace hb := Aside0.mk (below_then hb.out hb.out.size hbn)
  clear hbn
  go_wp2_with fail
  refine (kr0.out _ hb.out).mono ?_
  rintro e wn ⟨rfl, hbn⟩
  replace p0 := pw_cell_below hbn p0
  replace p1 := pw_cell_below hbn p1
  replace hC2 := Aside0.mk (Kd.C_below hC2.out hbn)
  replace hb := Aside0.mk (below_then hb.out hb.out.size hbn)
  clear hbn
  go_wp2_with fail
  refine (ksame.out _ hb.out _ _ hd2.out hC2.out).mono ?_
  rintro e wn ⟨rfl, hbn⟩
  replace p0 := pw_cell_below hbn p0
  replace p1 := pw_cell_below hbn p1
  replace hC2 := Aside0.mk (Kd.C_below hC2.out hbn)
  replace hb := Aside0.mk (below_then hb.out hb.out.size hbn)
  clear hbn
  go_wp2_with fail
  refine (kbe.out _ hb.out _ _ hC2.out).mono ?_
  rintro e wn ⟨rfl, hbn⟩
  replace p0 := pw_cell_below hbn p0
  replace p1 := pw_cell_below hbn p1
  replace hb := Aside0.mk (below_then hb.out hb.out.size hbn)
  clear hbn
  go_wp2_with fail
  refine (kund.out _ hb.out).mono ?_
  rintro e wn ⟨rfl, hbn⟩
  replace p0 := pw_cell_below hbn p0
  replace p1 := pw_cell_below hbn p1
  replace hb := Aside0.mk (below_then hb.out hb.out.size hbn)
  clear hbn
  obtain ⟨wc, rfl⟩ : ∃ wc, wc = wn := ⟨_, rfl⟩
  have hE := Aside0.mk (R_one wc t v)
  have hba := Aside0.mk (below_alloc (Below.refl wc.heap.size wc) (.cells #[.string t, .string v] 40))
  have hC1 := Aside0.mk (hCn.out (wc.alloc (.cells #[.string t, .string v] 40)) (below_then hb.out hb.out.size hba.out))
  go_wp2_with ((with_reducible refine gate_builtin (b := .append) (xs := #[.tmp 71, .tmp 72]) rfl ?_); at_builtin; refine Kd.R_append_rows kr (w0 := wc.alloc (.cells #[.string t, .string v] 40)) 0 rfl (.tmp 71) (.tmp 72) 23 40 (.agg #[.string ByteArray.empty, .string ByteArray.empty]) 32 rfl Try.underlying23 info40 rfl (by decide) (by omega) (.slice (some ⟨wc.heap.size, 0, none⟩) 1 1) [⟨t, v⟩] l _ _ _ (fun q => wc.heap.size ≤ q) (fun _ => False) rfl rfl hE.out hC1.out (fun _ _ h => h) (fun _ h => h.elim) (fun k hk => by simp at hk; omega) (Below.refl _ _) (Nat.zero_le _) (by simp [hM.out]; omega) ?_; intro v1 w2 ho _ hg _; replace ho := Aside0.mk ho; replace hg := Aside0.mk hg)
  obtain ⟨A4, c4, e4⟩ := Kd.R_slice ho.out
  have hbn : Below wc.heap.size wc w2 := Mod.below (S := fun q => wc.heap.size ≤ q) (Mod.trans (Mod.of_below (below_alloc (Below.refl wc.heap.size wc) (.cells #[.string t, .string v] 40))) (Mod.of_grown (S := fun q => wc.heap.size ≤ q) hg.out (fun q hq => by simp [Value.ownBlock] at hq; omega)) (fun q hq => .inl hq)) (fun q hq => hq) (Nat.le_refl _)
  rw [show ([⟨t, v⟩] ++ l : List Rdn).length = M + 1 from by simp [hM.out]] at e4
  replace ho := Aside0.mk (show kr.R 40 w2 0 (fun q => wc.heap.size ≤ q) v1 L from by rw [← hL.out]; exact ho.out)
  subst e4
  obtain ⟨_, _, ev, hd4, hC4⟩ := Kd.R_reads ho.out
  rw [hLl.out] at ev hd4 hC4
  injection ev with ev1 _ ev2
  subst ev1; subst ev2
  replace hd4 := Aside0.mk hd4
  replace hC4 := Aside0.mk hC4
  replace p0 := pw_cell_below hbn p0
  replace p1 := pw_cell_below hbn p1
  replace hb := Aside0.mk (below_then hb.out hb.out.size hbn)
  clear hbn ho hg hE hba hC1
  go_wp2_with fail
  refine (kall.out _ _ _ hd4.out hC4.out).mono ?_
  rintro e wn ⟨rfl, hbn⟩
  replace p0 := pw_cell_below hbn p0
  replace p1 := pw_cell_below hbn p1
  replace hC4 := Aside0.mk (Kd.C_below hC4.out hbn)
  replace hb := Aside0.mk (below_then hb.out hb.out.size hbn)
  clear hbn
  go_wp2_with fail
  refine (known_calls _).mono ?_
  rintro e wn ⟨rfl, hbn⟩
  replace hb := Aside0.mk (below_then hb.out hb.out.size hbn)
  go_wp2_with fail
  go_ret
  exact ⟨rfl, hb.out⟩
set_option maxHeartbeats 4000000 in
set_option maxRecDepth 100000 in
theorem ups_b (W : World) (t v : ByteArray) (A : Option Addr) (c : Nat) (l : List Rdn) (hlc : l.length ≤ c) (hC : kr.C W A l.length l) (hl : lightB l = true) (hr : lightB [⟨t, v⟩] = true) (hall : dnOk (⟨t, v⟩ :: l) = true) (hnil : l = []) :
    Calls Try.prog 9 #[.agg #[.string t, .string v], .slice A l.length c] W fun e w' => e = .returned (.bool true) ∧ Below W.heap.size W w' := by
  have hb0 := below_alloc (Below.refl W.heap.size W) (.cells #[.string t, .string v] 40)
  have h0 := heap_alloc_new W (.cells #[.string t, .string v] 40)
  obtain ⟨w1, hw1⟩ : ∃ w1, W.alloc (.cells #[.string t, .string v] 40) = w1 := ⟨_, rfl⟩
  rw [hw1] at h0 hb0
  have p0 : w1.cell? ⟨W.heap.size, 0, none⟩ = some (.string t) := (cell_of_row _ _ _ _ _ _ h0).trans rfl
  have p1 : w1.cell? ⟨W.heap.size, 1, none⟩ = some (.string v) := (cell_of_row _ _ _ _ _ _ h0).trans rfl
  have hm := lightB_mild hl
  have hmr := lightB_cons hl hr
  have hln := hm.1
  have hl20 := (lightB_in hl).1
  have k0 := Aside0.mk (fun W' (hb : Below W.heap.size W W') => PDnUps.light_calls A c l W' (Kd.C_below hC hb) hlc)
  have k1 := Aside0.mk (fun W' => light_one t v W')
  rw [hl] at k0
  rw [hr] at k1
  have kr0 := Aside0.mk (fun W' (hb : Below W.heap.size W W') => PDnUps.right_calls A c l W' hm (Kd.C_below hC hb) hlc)
  have kall := Aside0.mk (fun (A' : Option Addr) (c' : Nat) W' (hc' : (⟨t, v⟩ :: l : List Rdn).length ≤ c') (hC' : kr.C W' A' (⟨t, v⟩ :: l : List Rdn).length (⟨t, v⟩ :: l)) => PDnUps.right_calls A' c' (⟨t, v⟩ :: l) W' hmr hC' hc')
  have hCn := Aside0.mk (fun W' (hb : Below W.heap.size W W') => Kd.C_below hC hb)
  have hno : dnOk l = false ∨ l = [] := .inr hnil
  have hl0 : l.length = 0 := by rw [hnil]; rfl
  rw [show dnOk l = true from by rw [hnil]; rfl] at kr0
  have kup := Aside0.mk (fun W' (hb : Below W.heap.size W W') => up_no A c l W' hm (Kd.C_below hC hb) hno)
  rw [hall] at kall
  have kund := Aside0.mk (fun W' (hb : Below W.heap.size W W') => under_yes t v A c l W' hmr (Kd.C_below hC hb) hall)
  have kup2 := Aside0.mk (fun (B : Option Addr) (d : Nat) W' hd hB => up_yes B d (⟨t, v⟩ :: l) W' hmr hd hB hall (by simp))
  have ksame2 := Aside0.mk (fun (B B' : Option Addr) (d d' : Nat) W' hB hd hB' hd' => PDnUps.same_calls B B' d d' (⟨t, v⟩ :: l) W' hmr.1 hB hd hB' hd')
  have ksame3 := Aside0.mk (fun W' (hb : Below W.heap.size W W') (B : Option Addr) (d : Nat) hB hd => PDnUps.same_calls B A d c l W' hln hB hd (Kd.C_below hC hb) hlc)
  have kbe2 := Aside0.mk (fun W' (hb : Below W.heap.size W W') (B : Option Addr) (d : Nat) hd hB => belowN_calls B A d c (⟨t, v⟩ :: l) l W' hmr hm hd hB (Kd.C_below hC hb))
  rw [show beB (⟨t, v⟩ :: l) l = true from beB_drop (l := ⟨t, v⟩ :: l) hall (k := 1) (by omega) (by simp)] at kbe2
  rw [show (⟨t, v⟩ :: l : List Rdn).drop 1 = l from rfl] at kup2
  obtain ⟨L, hL⟩ : ∃ L, (⟨t, v⟩ :: l : List Rdn) = L := ⟨_, rfl⟩
  have hLl : L.length = l.length + 1 := by rw [← hL]; rfl
  rw [hL] at kall kund kup2 ksame2 kbe2
  rw [hLl] at kall kup2 ksame2 kbe2
  obtain ⟨M, hM⟩ : ∃ M, l.length = M := ⟨_, rfl⟩
  simp only [hM] at k0 kr0 kall hCn kup kund hln hl20 kup2 ksame2 ksame3 kbe2
  rw [hM]
  rw [hM] at hLl
  have hb := Aside0.mk hb0
  have i0 : (M : Int) ≤ 0 := by omega
  have z1 : decide ((0 : Int) < (M : Int)) = false := decide_eq_false (by omega)
  have z2 : decide (0 < M) = false := decide_eq_false (by omega)
  clear i0
  replace hL := Aside0.mk hL
  replace hM := Aside0.mk hM
  replace hLl := Aside0.mk hLl
  clear hC hlc hl hr hb0 h0 hm hmr hall hno hnil hl0
  go_enter Try.func9, Try.ntmps9
  go_wp2_with fail
  refine (k0.out _ hb.out).mono ?_
  rintro e wn ⟨rfl, hbn⟩
  replace p0 := pw_cell_below hbn p0
  replace p1 := pw_cell_below hbn p1
  replace hb := Aside0.mk (below_then hb.out hb.out.size hbn)
  clear hbn
  go_wp2_with fail
  refine (k1.out _).mono ?_
  rintro e wn ⟨rfl, hbn⟩
  replace p0 := pw_cell_below hbn p0
  replace p1 := pw_cell_below hbn p1
  replace hb := Aside0.mk (below_then hb.out hb.out.size hbn)
  clear hbn
  go_wp2_with fail
  refine (kup.out _ hb.out).mono ?_
  rintro e wn ⟨rfl, hbn⟩
  replace p0 := pw_cell_below hbn p0
  replace p1 := pw_cell_below hbn p1
  replace hb := Aside0.mk (below_then hb.out hb.out.size hbn)
  clear hbn
  go_wp2_with fail
  refine (kr0.out _ hb.out).mono ?_
  rintro e wn ⟨rfl, hbn⟩
  replace p0 := pw_cell_below hbn p0
  replace p1 := pw_cell_below hbn p1
  replace hb := Aside0.mk (below_then hb.out hb.out.size hbn)
  clear hbn
  go_wp2_with fail
  refine (kund.out _ hb.out).mono ?_
  rintro e wn ⟨⟨A3, c3, rfl, hR⟩, hbn⟩
  replace p0 := pw_cell_below hbn p0
  replace p1 := pw_cell_below hbn p1
  obtain ⟨_, _, ev, hd3, hC3⟩ := Kd.R_reads hR
  rw [hLl.out] at ev hd3 hC3
  injection ev with ev1 _ ev2
  subst ev1; subst ev2
  replace hd3 := Aside0.mk hd3
  replace hC3 := Aside0.mk hC3
  clear hR
  replace hb := Aside0.mk (below_then hb.out hb.out.size hbn)
  clear hbn
  obtain ⟨wc, rfl⟩ : ∃ wc, wc = wn := ⟨_, rfl⟩
  have hE := Aside0.mk (R_one wc t v)
  have hba := Aside0.mk (below_alloc (Below.refl wc.heap.size wc) (.cells #[.string t, .string v] 40))
  have hC1 := Aside0.mk (hCn.out (wc.alloc (.cells #[.string t, .string v] 40)) (below_then hb.out hb.out.size hba.out))
  go_wp2_with ((with_reducible refine gate_builtin (b := .append) (xs := #[.tmp 71, .tmp 72]) rfl ?_); at_builtin; refine Kd.R_append_rows kr (w0 := wc.alloc (.cells #[.string t, .string v] 40)) 0 rfl (.tmp 71) (.tmp 72) 23 40 (.agg #[.string ByteArray.empty, .string ByteArray.empty]) 32 rfl Try.underlying23 info40 rfl (by decide) (by omega) (.slice (some ⟨wc.heap.size, 0, none⟩) 1 1) [⟨t, v⟩] l _ _ _ (fun q => wc.heap.size ≤ q) (fun _ => False) rfl rfl hE.out hC1.out (fun _ _ h => h) (fun _ h => h.elim) (fun k hk => by simp at hk; omega) (Below.refl _ _) (Nat.zero_le _) (by simp [hM.out]; omega) ?_; intro v1 w2 ho _ hg _; replace ho := Aside0.mk ho; replace hg := Aside0.mk hg)
  obtain ⟨A4, c4, e4⟩ := Kd.R_slice ho.out
  have hbn : Below wc.heap.size wc w2 := Mod.below (S := fun q => wc.heap.size ≤ q) (Mod.trans (Mod.of_below (below_alloc (Below.refl wc.heap.size wc) (.cells #[.string t, .string v] 40))) (Mod.of_grown (S := fun q => wc.heap.size ≤ q) hg.out (fun q hq => by simp [Value.ownBlock] at hq; omega)) (fun q hq => .inl hq)) (fun q hq => hq) (Nat.le_refl _)
  rw [show ([⟨t, v⟩] ++ l : List Rdn).length = M + 1 from by simp [hM.out]] at e4
  replace ho := Aside0.mk (show kr.R 40 w2 0 (fun q => wc.heap.size ≤ q) v1 L from by rw [← hL.out]; exact ho.out)
  subst e4
  obtain ⟨_, _, ev, hd4, hC4⟩ := Kd.R_reads ho.out
  rw [hLl.out] at ev hd4 hC4
  injection ev with ev1 _ ev2
  subst ev1; subst ev2
  replace hd4 := Aside0.mk hd4
  replace hC4 := Aside0.mk hC4
  replace p0 := pw_cell_below hbn p0
  replace p1 := pw_cell_below hbn p1
  replace hC3 := Aside0.mk (Kd.C_below hC3.out hbn)
  replace hb := Aside0.mk (below_then hb.out hb.out.size hbn)
  clear hbn ho hg hE hba hC1
  go_wp2_with fail
  refine (kall.out _ _ _ hd4.out hC4.out).mono ?_
  rintro e wn ⟨rfl, hbn⟩
  replace p0 := pw_cell_below hbn p0
  replace p1 := pw_cell_below hbn p1
  replace hC4 := Aside0.mk (Kd.C_below hC4.out hbn)
  replace hC3 := Aside0.mk (Kd.C_below hC3.out hbn)
  replace hb := Aside0.mk (below_then hb.out hb.out.size hbn)
  clear hbn
  go_wp2_with fail
  refine (kup2.out _ _ _ hd3.out hC3.out).mono ?_
  rintro e wn ⟨⟨A5, c5, rfl, hR⟩, hbn⟩
  replace p0 := pw_cell_below hbn p0
  replace p1 := pw_cell_below hbn p1
  obtain ⟨_, _, ev, hd5, hC5⟩ := Kd.R_reads hR
  rw [hM.out] at ev hd5 hC5
  injection ev with ev1 _ ev2
  subst ev1; subst ev2
  replace hd5 := Aside0.mk hd5
  replace hC5 := Aside0.mk hC5
  clear hR
  replace hC4 := Aside0.mk (Kd.C_below hC4.out hbn)
  replace hC3 := Aside0.mk (Kd.C_below hC3.out hbn)
  replace hb := Aside0.mk (below_then hb.out hb.out.size hbn)
  clear hbn
  try rw [hM.out]
  go_wp2_with fail
  refine (ksame2.out _ _ _ _ _ hC3.out hd3.out hC4.out hd4.out).mono ?_
  rintro e wn ⟨rfl, hbn⟩
  replace p0 := pw_cell_below hbn p0
  replace p1 := pw_cell_below hbn p1
  replace hC4 := Aside0.mk (Kd.C_below hC4.out hbn)
  replace hC3 := Aside0.mk (Kd.C_below hC3.out hbn)
  replace hC5 := Aside0.mk (Kd.C_below hC5.out hbn)
  replace hb := Aside0.mk (below_then hb.out hb.out.size hbn)
  clear hbn
  go_wp2_with fail
  refine (ksame3.out _ hb.out _ _ hC5.out hd5.out).mono ?_
  rintro e wn ⟨rfl, hbn⟩
  replace p0 := pw_cell_below hbn p0
  replace p1 := pw_cell_below hbn p1
  replace hC4 := Aside0.mk (Kd.C_below hC4.out hbn)
  replace hC3 := Aside0.mk (Kd.C_below hC3.out hbn)
  replace hb := Aside0.mk (below_then hb.out hb.out.size hbn)
  clear hbn
  go_wp2_with fail
  refine (kbe2.out _ hb.out _ _ hd3.out hC3.out).mono ?_
  rintro e wn ⟨rfl, hbn⟩
  replace p0 := pw_cell_below hbn p0
  replace p1 := pw_cell_below hbn p1
  replace hb := Aside0.mk (below_then hb.out hb.out.size hbn)
  clear hbn
  go_wp2_with fail
  refine (known_calls _).mono ?_
  rintro e wn ⟨rfl, hbn⟩
  replace hb := Aside0.mk (below_then hb.out hb.out.size hbn)
  go_wp2_with fail
  go_ret
  exact ⟨rfl, hb.out⟩
set_option maxHeartbeats 4000000 in
set_option maxRecDepth 100000 in
theorem ups_d (W : World) (t v : ByteArray) (A : Option Addr) (c : Nat) (l : List Rdn) (hlc : l.length ≤ c) (hC : kr.C W A l.length l) (hl : lightB l = true) (hr : lightB [⟨t, v⟩] = true) (hall : dnOk (⟨t, v⟩ :: l) = false) (hnil : l = []) :
    Calls Try.prog 9 #[.agg #[.string t, .string v], .slice A l.length c] W fun e w' => e = .returned (.bool true) ∧ Below W.heap.size W w' := by
  have hb0 := below_alloc (Below.refl W.heap.size W) (.cells #[.string t, .string v] 40)
  have h0 := heap_alloc_new W (.cells #[.string t, .string v] 40)
  obtain ⟨w1, hw1⟩ : ∃ w1, W.alloc (.cells #[.string t, .string v] 40) = w1 := ⟨_, rfl⟩
  rw [hw1] at h0 hb0
  have p0 : w1.cell? ⟨W.heap.size, 0, none⟩ = some (.string t) := (cell_of_row _ _ _ _ _ _ h0).trans rfl
  have p1 : w1.cell? ⟨W.heap.size, 1, none⟩ = some (.string v) := (cell_of_row _ _ _ _ _ _ h0).trans rfl
  have hm := lightB_mild hl
  have hmr := lightB_cons hl hr
  have hln := hm.1
  have hl20 := (lightB_in hl).1
  have k0 := Aside0.mk (fun W' (hb : Below W.heap.size W W') => PDnUps.light_calls A c l W' (Kd.C_below hC hb) hlc)
  have k1 := Aside0.mk (fun W' => light_one t v W')
  rw [hl] at k0
  rw [hr] at k1
  have kr0 := Aside0.mk (fun W' (hb : Below W.heap.size W W') => PDnUps.right_calls A c l W' hm (Kd.C_below hC hb) hlc)
  have kall := Aside0.mk (fun (A' : Option Addr) (c' : Nat) W' (hc' : (⟨t, v⟩ :: l : List Rdn).length ≤ c') (hC' : kr.C W' A' (⟨t, v⟩ :: l : List Rdn).length (⟨t, v⟩ :: l)) => PDnUps.right_calls A' c' (⟨t, v⟩ :: l) W' hmr hC' hc')
  have hCn := Aside0.mk (fun W' (hb : Below W.heap.size W W') => Kd.C_below hC hb)
  have hno : dnOk l = false ∨ l = [] := .inr hnil
  have hl0 : l.length = 0 := by rw [hnil]; rfl
  rw [show dnOk l = true from by rw [hnil]; rfl] at kr0
  have kup := Aside0.mk (fun W' (hb : Below W.heap.size W W') => up_no A c l W' hm (Kd.C_below hC hb) hno)
  rw [hall] at kall
  have kund := Aside0.mk (fun W' (hb : Below W.heap.size W W') => under_no t v A c l W' hmr (Kd.C_below hC hb) hall)
  obtain ⟨L, hL⟩ : ∃ L, (⟨t, v⟩ :: l : List Rdn) = L := ⟨_, rfl⟩
  have hLl : L.length = l.length + 1 := by rw [← hL]; rfl
  rw [hL] at kall
  rw [hLl] at kall
  obtain ⟨M, hM⟩ : ∃ M, l.length = M := ⟨_, rfl⟩
  simp only [hM] at k0 kr0 kall hCn kup kund hln hl20
  rw [hM]
  rw [hM] at hLl
  have hb := Aside0.mk hb0
  have i0 : (M : Int) ≤ 0 := by omega
  have z1 : decide ((0 : Int) < (M : Int)) = false := decide_eq_false (by omega)
  have z2 : decide (0 < M) = false := decide_eq_false (by omega)
  clear i0
  replace hL := Aside0.mk hL
  replace hM := Aside0.mk hM
  replace hLl := Aside0.mk hLl
  clear hC hlc hl hr hb0 h0 hm hmr hall hno hnil hl0
  go_enter Try.func9, Try.ntmps9
  go_wp2_with fail
  refine (k0.out _ hb.out).mono ?_
  rintro e wn ⟨rfl, hbn⟩
  replace p0 := pw_cell_below hbn p0
  replace p1 := pw_cell_below hbn p1
  replace hb := Aside0.mk (below_then hb.out hb.out.size hbn)
  clear hbn
  go_wp2_with fail
  refine (k1.out _).mono ?_
  rintro e wn ⟨rfl, hbn⟩
  replace p0 := pw_cell_below hbn p0
  replace p1 := pw_cell_below hbn p1
  replace hb := Aside0.mk (below_then hb.out hb.out.size hbn)
  clear hbn
  go_wp2_with fail
  refine (kup.out _ hb.out).mono ?_
  rintro e wn ⟨rfl, hbn⟩
  replace p0 := pw_cell_below hbn p0
  replace p1 := pw_cell_below hbn p1
  replace hb := Aside0.mk (below_then hb.out hb.out.size hbn)
  clear hbn
  go_wp2_with fail
  refine (kr0.out _ hb.out).mono ?_
  rintro e wn ⟨rfl, hbn⟩
  replace p0 := pw_cell_below hbn p0
  replace p1 := pw_cell_below hbn p1
  replace hb := Aside0.mk (below_then hb.out hb.out.size hbn)
  clear hbn
  go_wp2_with fail
  refine (kund.out _ hb.out).mono ?_
  rintro e wn ⟨rfl, hbn⟩
  replace p0 := pw_cell_below hbn p0
  replace p1 := pw_cell_below hbn p1
  replace hb := Aside0.mk (below_then hb.out hb.out.size hbn)
  clear hbn
  obtain ⟨wc, rfl⟩ : ∃ wc, wc = wn := ⟨_, rfl⟩
  have hE := Aside0.mk (R_one wc t v)
  have hba := Aside0.mk (below_alloc (Below.refl wc.heap.size wc) (.cells #[.string t, .string v] 40))
  have hC1 := Aside0.mk (hCn.out (wc.alloc (.cells #[.string t, .string v] 40)) (below_then hb.out hb.out.size hba.out))
  go_wp2_with ((with_reducible refine gate_builtin (b := .append) (xs := #[.tmp 71, .tmp 72]) rfl ?_); at_builtin; refine Kd.R_append_rows kr (w0 := wc.alloc (.cells #[.string t, .string v] 40)) 0 rfl (.tmp 71) (.tmp 72) 23 40 (.agg #[.string ByteArray.empty, .string ByteArray.empty]) 32 rfl Try.underlying23 info40 rfl (by decide) (by omega) (.slice (some ⟨wc.heap.size, 0, none⟩) 1 1) [⟨t, v⟩] l _ _ _ (fun q => wc.heap.size ≤ q) (fun _ => False) rfl rfl hE.out hC1.out (fun _ _ h => h) (fun _ h => h.elim) (fun k hk => by simp at hk; omega) (Below.refl _ _) (Nat.zero_le _) (by simp [hM.out]; omega) ?_; intro v1 w2 ho _ hg _; replace ho := Aside0.mk ho; replace hg := Aside0.mk hg)
  obtain ⟨A4, c4, e4⟩ := Kd.R_slice ho.out
  have hbn : Below wc.heap.size wc w2 := Mod.below (S := fun q => wc.heap.size ≤ q) (Mod.trans (Mod.of_below (below_alloc (Below.refl wc.heap.size wc) (.cells #[.string t, .string v] 40))) (Mod.of_grown (S := fun q => wc.heap.size ≤ q) hg.out (fun q hq => by simp [Value.ownBlock] at hq; omega)) (fun q hq => .inl hq)) (fun q hq => hq) (Nat.le_refl _)
  rw [show ([⟨t, v⟩] ++ l : List Rdn).length = M + 1 from by simp [hM.out]] at e4
  replace ho := Aside0.mk (show kr.R 40 w2 0 (fun q => wc.heap.size ≤ q) v1 L from by rw [← hL.out]; exact ho.out)
  subst e4
  obtain ⟨_, _, ev, hd4, hC4⟩ := Kd.R_reads ho.out
  rw [hLl.out] at ev hd4 hC4
  injection ev with ev1 _ ev2
  subst ev1; subst ev2
  replace hd4 := Aside0.mk hd4
  replace hC4 := Aside0.mk hC4
  replace p0 := pw_cell_below hbn p0
  replace p1 := pw_cell_below hbn p1
  replace hb := Aside0.mk (below_then hb.out hb.out.size hbn)
  clear hbn ho hg hE hba hC1
  go_wp2_with fail
  refine (kall.out _ _ _ hd4.out hC4.out).mono ?_
  rintro e wn ⟨rfl, hbn⟩
  replace p0 := pw_cell_below hbn p0
  replace p1 := pw_cell_below hbn p1
  replace hC4 := Aside0.mk (Kd.C_below hC4.out hbn)
  replace hb := Aside0.mk (below_then hb.out hb.out.size hbn)
  clear hbn
  go_wp2_with fail
  refine (known_calls _).mono ?_
  rintro e wn ⟨rfl, hbn⟩
  replace hb := Aside0.mk (below_then hb.out hb.out.size hbn)
  go_wp2_with fail
  go_ret
  exact ⟨rfl, hb.out⟩
set_option maxHeartbeats 4000000 in
set_option maxRecDepth 100000 in
theorem ups_e (W : World) (t v : ByteArray) (A : Option Addr) (c : Nat) (l : List Rdn) (hlc : l.length ≤ c) (hC : kr.C W A l.length l) (hl : lightB l = true) (hr : lightB [⟨t, v⟩] = true) (hall : dnOk (⟨t, v⟩ :: l) = false) (hbad : dnOk l = false) :
    Calls Try.prog 9 #[.agg #[.string t, .string v], .slice A l.length c] W fun e w' => e = .returned (.bool true) ∧ Below W.heap.size W w' := by
  have hb0 := below_alloc (Below.refl W.heap.size W) (.cells #[.string t, .string v] 40)
  have h0 := heap_alloc_new W (.cells #[.string t, .string v] 40)
  obtain ⟨w1, hw1⟩ : ∃ w1, W.alloc (.cells #[.string t, .string v] 40) = w1 := ⟨_, rfl⟩
  rw [hw1] at h0 hb0
  have p0 : w1.cell? ⟨W.heap.size, 0, none⟩ = some (.string t) := (cell_of_row _ _ _ _ _ _ h0).trans rfl
  have p1 : w1.cell? ⟨W.heap.size, 1, none⟩ = some (.string v) := (cell_of_row _ _ _ _ _ _ h0).trans rfl
  have hm := lightB_mild hl
  have hmr := lightB_cons hl hr
  have hln := hm.1
  have hl20 := (lightB_in hl).1
  have k0 := Aside0.mk (fun W' (hb : Below W.heap.size W W') => PDnUps.light_calls A c l W' (Kd.C_below hC hb) hlc)
  have k1 := Aside0.mk (fun W' => light_one t v W')
  rw [hl] at k0
  rw [hr] at k1
  have kr0 := Aside0.mk (fun W' (hb : Below W.heap.size W W') => PDnUps.right_calls A c l W' hm (Kd.C_below hC hb) hlc)
  have kall := Aside0.mk (fun (A' : Option Addr) (c' : Nat) W' (hc' : (⟨t, v⟩ :: l : List Rdn).length ≤ c') (hC' : kr.C W' A' (⟨t, v⟩ :: l : List Rdn).length (⟨t, v⟩ :: l)) => PDnUps.right_calls A' c' (⟨t, v⟩ :: l) W' hmr hC' hc')
  have hCn := Aside0.mk (fun W' (hb : Below W.heap.size W W') => Kd.C_below hC hb)
  have hno : dnOk l = false ∨ l = [] := .inl hbad
  rw [hbad] at kr0
  have kup := Aside0.mk (fun W' (hb : Below W.heap.size W W') => up_no A c l W' hm (Kd.C_below hC hb) hno)
  rw [hall] at kall
  have kund := Aside0.mk (fun W' (hb : Below W.heap.size W W') => under_no t v A c l W' hmr (Kd.C_below hC hb) hall)
  obtain ⟨L, hL⟩ : ∃ L, (⟨t, v⟩ :: l : List Rdn) = L := ⟨_, rfl⟩
  have hLl : L.length = l.length + 1 := by rw [← hL]; rfl
  rw [hL] at kall
  rw [hLl] at kall
  obtain ⟨M, hM⟩ : ∃ M, l.length = M := ⟨_, rfl⟩
  simp only [hM] at k0 kr0 kall hCn kup kund hln hl20
  rw [hM]
  rw [hM] at hLl
  have hb := Aside0.mk hb0
  replace hL := Aside0.mk hL
  replace hM := Aside0.mk hM
  replace hLl := Aside0.mk hLl
  clear hC hlc hl hr hb0 h0 hm hmr hall hno hbad
  go_enter Try.func9, Try.ntmps9
  go_wp2_with fail
  refine (k0.out _ hb.out).mono ?_
  rintro e wn ⟨rfl, hbn⟩
  replace p0 := pw_cell_below hbn p0
  replace p1 := pw_cell_below hbn p1
  replace hb := Aside0.mk (below_then hb.out hb.out.size hbn)
  clear hbn
  go_wp2_with fail
  refine (k1.out _).mono ?_
  rintro e wn ⟨rfl, hbn⟩
  replace p0 := pw_cell_below hbn p0
  replace p1 := pw_cell_below hbn p1
  replace hb := Aside0.mk (below_then hb.out hb.out.size hbn)
  clear hbn
  go_wp2_with fail
  refine (kup.out _ hb.out).mono ?_
  rintro e wn ⟨rfl, hbn⟩
  replace p0 := pw_cell_below hbn p0
  replace p1 := pw_cell_below hbn p1
  replace hb := Aside0.mk (below_then hb.out hb.out.size hbn)
  clear hbn
  go_wp2_with fail
  refine (kr0.out _ hb.out).mono ?_
  rintro e wn ⟨rfl, hbn⟩
  replace p0 := pw_cell_below hbn p0
  replace p1 := pw_cell_below hbn p1
  replace hb := Aside0.mk (below_then hb.out hb.out.size hbn)
  clear hbn
  go_wp2_with fail
  refine (kund.out _ hb.out).mono ?_
  rintro e wn ⟨rfl, hbn⟩
  replace p0 := pw_cell_below hbn p0
  replace p1 := pw_cell_below hbn p1
  replace hb := Aside0.mk (below_then hb.out hb.out.size hbn)
  clear hbn
  obtain ⟨wc, rfl⟩ : ∃ wc, wc = wn := ⟨_, rfl⟩
  have hE := Aside0.mk (R_one wc t v)
  have hba := Aside0.mk (below_alloc (Below.refl wc.heap.size wc) (.cells #[.string t, .string v] 40))
  have hC1 := Aside0.mk (hCn.out (wc.alloc (.cells #[.string t, .string v] 40)) (below_then hb.out hb.out.size hba.out))
  go_wp2_with ((with_reducible refine gate_builtin (b := .append) (xs := #[.tmp 71, .tmp 72]) rfl ?_); at_builtin; refine Kd.R_append_rows kr (w0 := wc.alloc (.cells #[.string t, .string v] 40)) 0 rfl (.tmp 71) (.tmp 72) 23 40 (.agg #[.string ByteArray.empty, .string ByteArray.empty]) 32 rfl Try.underlying23 info40 rfl (by decide) (by omega) (.slice (some ⟨wc.heap.size, 0, none⟩) 1 1) [⟨t, v⟩] l _ _ _ (fun q => wc.heap.size ≤ q) (fun _ => False) rfl rfl hE.out hC1.out (fun _ _ h => h) (fun _ h => h.elim) (fun k hk => by simp at hk; omega) (Below.refl _ _) (Nat.zero_le _) (by simp [hM.out]; omega) ?_; intro v1 w2 ho _ hg _; replace ho := Aside0.mk ho; replace hg := Aside0.mk hg)
  obtain ⟨A4, c4, e4⟩ := Kd.R_slice ho.out
  have hbn : Below wc.heap.size wc w2 := Mod.below (S := fun q => wc.heap.size ≤ q) (Mod.trans (Mod.of_below (below_alloc (Below.refl wc.heap.size wc) (.cells #[.string t, .string v] 40))) (Mod.of_grown (S := fun q => wc.heap.size ≤ q) hg.out (fun q hq => by simp [Value.ownBlock] at hq; omega)) (fun q hq => .inl hq)) (fun q hq => hq) (Nat.le_refl _)
  rw [show ([⟨t, v⟩] ++ l : List Rdn).length = M + 1 from by simp [hM.out]] at e4
  replace ho := Aside0.mk (show kr.R 40 w2 0 (fun q => wc.heap.size ≤ q) v1 L from by rw [← hL.out]; exact ho.out)
  subst e4
  obtain ⟨_, _, ev, hd4, hC4⟩ := Kd.R_reads ho.out
  rw [hLl.out] at ev hd4 hC4
  injection ev with ev1 _ ev2
  subst ev1; subst ev2
  replace hd4 := Aside0.mk hd4
  replace hC4 := Aside0.mk hC4
  replace p0 := pw_cell_below hbn p0
  replace p1 := pw_cell_below hbn p1
  replace hb := Aside0.mk (below_then hb.out hb.out.size hbn)
  clear hbn ho hg hE hba hC1
  go_wp2_with fail
  refine (kall.out _ _ _ hd4.out hC4.out).mono ?_
  rintro e wn ⟨rfl, hbn⟩
  replace p0 := pw_cell_below hbn p0
  replace p1 := pw_cell_below hbn p1
  replace hC4 := Aside0.mk (Kd.C_below hC4.out hbn)
  replace hb := Aside0.mk (below_then hb.out hb.out.size hbn)
  clear hbn
  go_wp2_with fail
  refine (known_calls _).mono ?_
  rintro e wn ⟨rfl, hbn⟩
  replace hb := Aside0.mk (below_then hb.out hb.out.size hbn)
  go_wp2_with fail
  go_ret
  exact ⟨rfl, hb.out⟩
theorem dnUps_row (W : World) (v0 : Value) (x0 : Rdn) (hK : kr.K W x0 v0.cells.toList) (hG : x0.t.size ≤ maxLen ∧ x0.v.size ≤ maxLen) (hv : Value.okWide Try.prog W .any 0 40 v0) (A : Option Addr) (c : Nat) (l : List Rdn) (hlc : l.length ≤ c) (hcm : c ≤ maxLen) (hC : kr.C W A l.length l) (hGl : ∀ y ∈ l, y.t.size ≤ maxLen ∧ y.v.size ≤ maxLen) :
    Calls Try.prog 9 #[v0, .slice A l.length c] W fun e w' => e = .returned (.bool true) ∧ Below W.heap.size W w' := by
  obtain rfl := agg_rdn hv hK
  obtain ⟨t, v⟩ := x0
  clear hK hG hv hcm hGl
  dsimp only
  cases hl : lightB l with
  | false => exact ups_x W t v A c l hlc hC hl
  | true =>
    cases hr : lightB [⟨t, v⟩] with
    | false => exact ups_y W t v A c l hlc hC hl hr
    | true =>
      cases hall : dnOk (⟨t, v⟩ :: l) with
      | true =>
        have hok : dnOk l = true := dnOk_drop hall 1
        by_cases hne : l = []
        · exact ups_b W t v A c l hlc hC hl hr hall hne
        · exact ups_a W t v A c l hlc hC hl hr hall hok hne
      | false =>
        cases hok : dnOk l with
        | false => exact ups_e W t v A c l hlc hC hl hr hall hok
        | true =>
          by_cases hne : l = []
          · exact ups_d W t v A c l hlc hC hl hr hall hne
          · exact ups_c W t v A c l hlc hC hl hr hall hok hne
end Go.Proofs.Ythbjgcmbbdlfkaa
