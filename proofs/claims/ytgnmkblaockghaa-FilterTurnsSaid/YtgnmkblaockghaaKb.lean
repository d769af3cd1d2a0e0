/- FilterLetters. -/
import Derived.Test.YtgnmkblaockghaaKa
set_option linter.unusedVariables false
set_option linter.unusedSimpArgs false
namespace Go.Proofs.Ytgnmkblaockghaa
open Go.RowKit Go.Shelf Go.Deep Go.ChangeShapes Go.WideShapes Go.Proofs.YtgnmkblaockghaaW.PrintWords Go.Proofs.YtgnmkblaockghaaW.PrintMore Go.Proofs.YtgnmkblaockghaaW.PrintLast

theorem greatB_in {x : Int} (h : 0 ≤ x ∧ x < 256) : 0 ≤ greatB x ∧ greatB x < 256 := by unfold greatB; split <;> omega
theorem bytes_great (s : ByteArray) : bytesOf (great s) = (bytesOf s).map greatB := by
  unfold great
  rw [bytes_str]
  intro x hx
  obtain ⟨y, hy, rfl⟩ := List.mem_map.1 hx
  exact greatB_in (bytesOf_bound hy)
theorem small_great (s : ByteArray) : small (great s) = small s := by
  refine bytes_inj ?_
  rw [bytes_small, bytes_small, bytes_great, List.map_map]
  refine List.map_congr_left fun x _ => ?_
  show smallB (greatB x) = smallB x
  unfold smallB greatB
  split <;> split <;> (try split) <;> omega
theorem great_size (s : ByteArray) : (great s).size = s.size := by
  rw [size_bytes, bytes_great, List.length_map, ← size_bytes]
theorem ename_great (s : ByteArray) : enameOk (great s) = enameOk s := by unfold enameOk; rw [small_great]
/-- Letters' size is nothing to a filter that compares. -/
theorem means_great (k : Int) (hk : k = 4 ∨ k = 5) (n v : ByteArray) (le : List At) : meansR ⟨k, [], great n, great v⟩ le [] = meansR ⟨k, [], n, v⟩ le [] := by
  have ha : aloneOk ⟨k, [], great n, great v⟩ = aloneOk ⟨k, [], n, v⟩ := by
    unfold aloneOk aloneB
    rcases hk with rfl | rfl <;> simp [ename_great, great_size]
  have hr : rightF ⟨k, [], great n, great v⟩ = rightF ⟨k, [], n, v⟩ := by
    unfold rightF
    rw [cntT, cntT, ha]
  have hg : getF [] [] le (great n) = getF [] [] le n := by unfold getF; rw [small_great]
  unfold meansR
  rw [moreOk]
  dsimp only
  rw [hr, meansT, meansT, hg, small_great]
theorem fv_nil (k : Int) (n v : ByteArray) (w : World) : Fv w ⟨k, [], n, v⟩ none 0 := ⟨Nat.le_refl _, Kd.C_nil kF w⟩
set_option maxRecDepth 20000 in
set_option maxHeartbeats 4000000 in
theorem filterLetters_walk (n v : ByteArray) (le : List At) (Ae : Option Addr) (ce : Nat) (w : World) (hce : le.length ≤ ce) (hCe : kA.C w Ae le.length le) :
    Calls Try.prog 6 #[.string n, .string v, .slice Ae le.length ce] w fun e w' => e = .returned (.bool true) ∧ Below w.heap.size w w' := by
  have hkn := Aside0.mk known_calls
  have hbw := Aside0.mk (Below.refl w.heap.size w)
  obtain ⟨b, hb, hent⟩ := entries_calls le Ae ce w hce hCe
  replace hent := Aside0.mk hent
  replace hb := Aside0.mk hb
  have hCe' := Aside0.mk hCe
  have hm := Aside0.mk (fun (W : World) (hW : Below w.heap.size w W) (k : Nat) (hk : k = 4 ∨ k = 5) (hl : MildE le) (h1 : n.size ≤ 300) (h2 : v.size ≤ 300) =>
    Means_calls ⟨(k : Int), [], n, v⟩ none 0 le [] Ae none ce 0 W (fv_nil _ _ _ _) (by rw [wF_of]; simp [wFs_nil]; omega) hl ⟨by simp, fun a ha => by cases ha⟩ (Kd.C_below hCe hW) (Kd.C_nil kA W))
  have hmg := Aside0.mk (fun (W : World) (hW : Below w.heap.size w W) (k : Nat) (hk : k = 4 ∨ k = 5) (hl : MildE le) (h1 : n.size ≤ 300) (h2 : v.size ≤ 300) =>
    Means_calls ⟨(k : Int), [], great n, great v⟩ none 0 le [] Ae none ce 0 W (fv_nil _ _ _ _) (by rw [wF_of]; simp [wFs_nil, great_size]; omega) hl ⟨by simp, fun a ha => by cases ha⟩ (Kd.C_below hCe hW) (Kd.C_nil kA W))
  unfold fv at hm hmg
  dsimp only [List.length_nil] at hm hmg
  have hg1 := Aside0.mk (fun (W : World) (h1 : n.size ≤ 300) => great_calls n W (by omega))
  have hg2 := Aside0.mk (fun (W : World) (h2 : v.size ≤ 300) => great_calls v W (by omega))
  generalize hLL : le.length = LL at hent hm hmg hce ⊢
  clear hCe hCe' hce
  by_cases c1 : n.size ≤ 300
  · have d1 : decide ((n.size : Int) > 300) = false := decide_eq_false (by omega)
    by_cases c2 : v.size ≤ 300
    · have d2 : decide ((v.size : Int) > 300) = false := decide_eq_false (by omega)
      cases b with
      | false =>
        clear c1 c2 hb
        go_enter Try.func6, Try.ntmps6
        go_wp2_with fail
        refine hent.out.mono ?_
        rintro e w3 ⟨rfl, hb3⟩
        have hbx := Aside0.mk hb3
        go_wp2_with fail
        refine (hkn.out w3).mono ?_
        rintro e w4 ⟨rfl, hb4⟩
        replace hbx := Aside0.mk (below_then hbx.out hbx.out.size hb4)
        go_wp2_with fail
        go_ret
        exact ⟨rfl, hbx.out⟩
      | true =>
        have hl := Aside0.mk (mild_of (hb.out rfl))
        have hc1 := Aside0.mk c1
        have hc2 := Aside0.mk c2
        clear c1 c2 hb
        go_enter Try.func6, Try.ntmps6
        go_wp2_with fail
        refine hent.out.mono ?_
        rintro e w3 ⟨rfl, hb3⟩
        have hbx := Aside0.mk hb3
        clear hb3 hbw hent
        go_wp2_with fail
        go_loopw [7, 8, 9, 10, 11] (fun s7 s8 s9 s10 s11 wr => ∃ k : Nat, 4 ≤ k ∧ k ≤ 6 ∧ s7 = .int .i64 k ∧ Aside0 (Below w.heap.size w wr)) (fun s7 _ _ _ _ _ => 6 - (intOf s7).toNat)
        case atStart => exact ⟨4, by omega, by omega, rfl, hbx⟩
        case round =>
          obtain ⟨k, hk4, hk6, rfl, hbr⟩ := hrel
          by_cases hlt : k < 6
          · have i1 : (k : Int) ≤ 5 := by omega
            have hk45 : k = 4 ∨ k = 5 := by omega
            have h1 := Aside0.mk (hm.out wr hbr.out k hk45 hl.out hc1.out hc2.out)
            have h2 := Aside0.mk (fun W hW => hmg.out W hW k hk45 hl.out hc1.out hc2.out)
            rw [means_great (k : Int) (by omega)] at h2
            generalize meansR ⟨(k : Int), [], n, v⟩ le [] = R at h1 h2
            obtain ⟨r1, r2⟩ := R
            dsimp only at h1 h2
            go_wp2_with fail
            refine h1.out.mono ?_
            rintro e w4 ⟨rfl, hb4⟩
            have hbx := Aside0.mk (below_then hbr.out hbr.out.size hb4)
            clear hb4
            go_wp2_with fail
            refine (hg1.out w4 hc1.out).mono ?_
            rintro e w5 ⟨rfl, hb5⟩
            replace hbx := Aside0.mk (below_then hbx.out hbx.out.size hb5)
            clear hb5
            go_wp2_with fail
            refine (hg2.out w5 hc2.out).mono ?_
            rintro e w6 ⟨rfl, hb6⟩
            replace hbx := Aside0.mk (below_then hbx.out hbx.out.size hb6)
            clear hb6
            go_wp2_with fail
            refine (h2.out w6 hbx.out).mono ?_
            rintro e w7 ⟨rfl, hb7⟩
            replace hbx := Aside0.mk (below_then hbx.out hbx.out.size hb7)
            clear hb7
            cases r1 <;>
            · go_wp2_with fail
              go_roundw
              case rel => exact ⟨k + 1, by omega, by omega, by go_num, hbx⟩
              case measure => simp [intOf]; omega
          · obtain rfl : k = 6 := by omega
            go_wp2_with fail
            refine (hkn.out wr).mono ?_
            rintro e w4 ⟨rfl, hb4⟩
            have hbx := Aside0.mk (below_then hbr.out hbr.out.size hb4)
            go_wp2_with fail
            go_ret
            exact ⟨rfl, hbx.out⟩
    · have d2 : decide ((v.size : Int) > 300) = true := decide_eq_true (by omega)
      clear c1 c2
      go_enter Try.func6, Try.ntmps6
      go_wp2_with fail
      refine (hkn.out w).mono ?_
      rintro e w4 ⟨rfl, hb4⟩
      have hbx := Aside0.mk hb4
      go_wp2_with fail
      go_ret
      exact ⟨rfl, hbx.out⟩
  · have d1 : decide ((n.size : Int) > 300) = true := decide_eq_true (by omega)
    clear c1
    go_enter Try.func6, Try.ntmps6
    go_wp2_with fail
    refine (hkn.out w).mono ?_
    rintro e w4 ⟨rfl, hb4⟩
    have hbx := Aside0.mk hb4
    go_wp2_with fail
    go_ret
    exact ⟨rfl, hbx.out⟩
section
variable {H : Type} {enc : TypeId × Value → H} {w : World}
set_option maxRecDepth 8000 in
theorem opens_attr : Opens enc Try.prog w 47 kA (fun _ => True) := by
  intro fuel cs x h
  obtain ⟨xs, n, hfn, _, hl, hlen, hf⟩ := DataW.trod_struct Try.underlying47 h
  rw [cells_47'] at hl
  match xs, hlen, cs, hl with
  | [y0, y1], _, [c0, c1], _ =>
    have f0 := hf 0 (Field.mk "Name" 9 0 false "" "" 0) rfl
    have f1 := hf 1 (Field.mk "Values" 45 1 false "" "" 16) rfl
    simp only [cells_9, cells_45] at f0 f1
    obtain ⟨s0, e0, _, g0⟩ := DataW.trod_string Try.underlying9 f0
    obtain ⟨A1, c1', l1, e1, h1, _, hC1, hG1⟩ := opens_row (d := Kd.string) Try.underlying45 cells_9' (opens_string Try.underlying9) n _ _ f1
    replace e0 : c0 = .string s0 := by simpa using e0
    replace e1 : c1 = .slice A1 l1.length c1' := by simpa using e1
    subst e0; subst e1
    exact ⟨⟨s0, l1⟩, PFilterBounds.k47_mk w ⟨s0, l1⟩ h1 hC1, trivial⟩
end
/-- FilterLetters, behind what came in. -/
theorem filterLetters_row (W : World) (n : ByteArray) (hn : n.size ≤ 140737488351232) (v : ByteArray) (hv : v.size ≤ 140737488351232) (A : Option Addr) (c : Nat) (l : List At) (hlc : l.length ≤ c) (hcm : c ≤ maxLen) (hC : kA.C W A l.length l) (hG : ∀ y ∈ l, True) :
    Calls Try.prog 6 #[.string n, .string v, .slice A l.length c] W fun e w' => e = .returned (.bool true) ∧ Below W.heap.size W w' := filterLetters_walk n v l A c W hlc hC
end Go.Proofs.Ytgnmkblaockghaa
