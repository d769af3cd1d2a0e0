/- However bytes are cut, the sum is that of all of them; copies go on apart: the walk of the statement. -/
import Derived.Test.YtabejlldemhfaaaCl1
import Derived.Test.YtabejlldemhfaaaCa
import Derived.Test.YtabejlldemhfaaaCr1
set_option linter.unusedVariables false
set_option linter.unusedSimpArgs false
namespace Go.Proofs.Ytabejlldemhfaaa
open Go.RowKit Go.Proofs.YtabejlldemhfaaaW.PrintWords
open Go.Proofs.Ytabejlldemhfaaa.PCrcSums

abbrev ones : Nat := 4294967295
/-- What a copy made behind some parts, and these parts joined, are worth. -/
def Cst (w wr : World) (L : List (List UInt8)) (g : Nat) (pc A2 : Option Addr) (n2 c2 : Nat) : Prop :=
  pc = none ∨ ∃ g2 j, pc = some ⟨g2, 0, none⟩ ∧ g2 ≠ g ∧ w.heap.size ≤ g2 ∧ j ≤ L.length ∧ Adder wr g2 (foldN ones (L.take j).flatten) (flen (L.take j).flatten) ∧ n2 = (L.take j).flatten.length ∧
    Kd.R (Kd.int .u8) 5 wr w.heap.size (fun q => q ≠ g ∧ q ≠ g2) (.slice A2 n2 c2) (toI (L.take j).flatten)
theorem Adder.grown {w w1 : World} {g x m : Nat} (h : Adder w g x m) {row : Option Nat} (hg : w.grownBy w1 row) (hne : some g ≠ row) : Adder w1 g x m :=
  (hg.block g (Array.getElem?_eq_some_iff.1 h).1 hne).trans h
theorem Adder.lt {w : World} {g x m : Nat} (h : Adder w g x m) : g < w.heap.size := (Array.getElem?_eq_some_iff.1 h).1
theorem Cst.grown {w wr wr' : World} {L : List (List UInt8)} {g : Nat} {pc A2 : Option Addr} {n2 c2 : Nat} (h : Cst w wr L g pc A2 n2 c2) (hg : wr.grownBy wr' (some g)) : Cst w wr' L g pc A2 n2 c2 := by
  rcases h with h | ⟨g2, j, h1, h2, h3, h4, h5, h6, h7⟩
  · exact .inl h
  · exact .inr ⟨g2, j, h1, h2, h3, h4, h5.grown hg (by simpa using h2), h6, Kd.R_grown h7 hg (fun k hk => by simpa using hk.1)⟩
theorem parts_take {w : World} {A : Option Addr} {L : List (List UInt8)} (h : Parts w A L) (k : Nat) (hk : k ≤ L.length) : Parts w A (L.take k) := by
  have h' : Kd.C (Kd.slice 5 (Kd.int .u8)) w A (LL L).length (LL L) := by rw [LL_length]; exact h
  have := Kd.C_take h' (m := k) (by rw [LL_length]; exact hk)
  have e : (LL L).take k = LL (L.take k) := by simp [LL, List.map_take]
  rw [e, LL_length] at this
  exact this
theorem flen_take {L : List (List UInt8)} (k : Nat) : flen (L.take k).flatten ≤ flen L.flatten := by
  have : L.flatten = (L.take k).flatten ++ (L.drop k).flatten := by rw [← List.flatten_append, List.take_append_drop]
  unfold flen
  rw [this, List.length_append]
  omega
theorem joinedR_calls (A : Option Addr) (c : Nat) (L : List (List UInt8)) (w : World) (hP : Parts w A L) (hc : L.length ≤ c) (hl : L.length ≤ 20) (hf : flen L.flatten ≤ 3000) :
    Calls Try.prog 11 #[.slice A L.length c] w fun e w' => ∃ A1 c1, e = .returned (.slice A1 L.flatten.length c1) ∧ Kd.R (Kd.int .u8) 5 w' w.heap.size (fun q => w.heap.size ≤ q) (.slice A1 L.flatten.length c1) (toI L.flatten) ∧ Below w.heap.size w w' := by
  have h := cardcaselaw02_joined.calls (L.length + 1) A c (LL L) (toI L.flatten) w (by rw [LL_length]; exact hP) (by rw [LL_length]; exact hc) (joined_tells L (by omega) (by omega))
  rw [LL_length] at h
  refine h.mono ?_
  rintro e w' ⟨v, rfl, hR, hb⟩
  obtain ⟨A1, c1, rfl⟩ := Kd.R_slice hR
  rw [toI_length] at hR ⊢
  exact ⟨A1, c1, rfl, Kd.R_mono (Kd.R_bound hR) (fun k hk => hk.2.1), hb⟩
theorem reads_of_R {w : World} {base : Nat} {ok : Nat → Prop} {A1 : Option Addr} {c1 : Nat} {l : List UInt8} (h : Kd.R (Kd.int .u8) 5 w base ok (.slice A1 l.length c1) (toI l)) : l.length ≤ c1 ∧ (Kd.int .u8).C w A1 l.length (toI l) := by
  obtain ⟨h1, h2, h3⟩ := Kd.R_reads' h
  rw [toI_length] at h3
  exact ⟨h2, h3⟩

theorem foldN_append (x : Nat) (a b : List UInt8) : foldN x (a ++ b) = foldN (foldN x a) b := by simp [foldN]
theorem flen_append (a b : List UInt8) : flen (a ++ b) = flen a + flen b := by simp [flen]

set_option maxHeartbeats 1000000 in
theorem crcWrites_calls (A : Option Addr) (c : Nat) (L : List (List UInt8)) (at_ : Int) (w : World) (hP : Parts w A L) (hc : L.length ≤ c) (hcm : c ≤ maxLen) :
    Calls Try.prog 6 #[.slice A L.length c, .int .i64 at_] w fun e w' => e = .returned (.bool true) ∧ Below w.heap.size w w' := by
  obtain ⟨k, r, hf, hr⟩ := few_tells L
  have hP := Aside0.mk hP
  unfold maxLen at hcm
  cases r with
  | false =>
    have Hf := Aside0.mk hf
    clear hf hr
    go_enter Try.func6, Try.ntmps6
    go_wp2_with fail
    refine (few_calls k false A c L w hP.out hc Hf.out).mono ?_
    rintro e w1 ⟨rfl, hb1⟩
    have hb1 := Aside0.mk hb1
    go_wp2_with fail
    refine (known_calls _).mono ?_
    rintro e w2 ⟨rfl, hb2⟩
    have hb2 := Aside0.mk hb2
    go_wp2_with fail
    go_ret
    exact ⟨rfl, below_then hb1.out hb1.out.size hb2.out⟩
  | true =>
    obtain ⟨hl, hfl⟩ := hr rfl
    have Hf := Aside0.mk hf
    clear hf hr
    go_enter Try.func6, Try.ntmps6
    go_wp2_with fail
    refine (few_calls k true A c L w hP.out hc Hf.out).mono ?_
    rintro e w1 ⟨rfl, hb1⟩
    have hB1 := Aside0.mk hb1
    have hs1 := hb1.size
    clear hb1
    go_wp2_with fail
    refine (new_calls w1).mono ?_
    rintro e w2 ⟨rfl, rfl⟩
    go_wp2_with fail
    have hA0 : Adder (w1.alloc (.cells #[.int .u32 4294967295, .int .i64 0, .bool true] 37)) w1.heap.size (foldN ones (L.take 0).flatten) (flen (L.take 0).flatten) := Go.heap_alloc_new w1 _
    obtain ⟨g, hg⟩ : ∃ g, w1.heap.size = g := ⟨_, rfl⟩
    have hB2 : Below w.heap.size w (w1.alloc (.cells #[.int .u32 4294967295, .int .i64 0, .bool true] 37)) := hB1.out.alloc hs1 _
    rw [hg] at hA0 hs1 ⊢
    clear hg
    have hA0 := Aside0.mk hA0
    have hB2 := Aside0.mk hB2
    go_loopw [6, 7, 8] (fun s6 s7 s8 wr => ∃ (k : Nat) (pc A2 : Option Addr) (n2 c2 : Nat), k ≤ L.length ∧ s8 = .int .i64 k ∧ s6 = .pointer pc ∧ s7 = .slice A2 n2 c2 ∧
      Aside0 (Adder wr g (foldN ones (L.take k).flatten) (flen (L.take k).flatten)) ∧ Aside0 (Below w.heap.size w wr) ∧ Aside0 (Cst w wr L g pc A2 n2 c2)) (fun _ _ s8 _ => L.length - (intOf s8).toNat)
    case atStart => exact ⟨0, none, none, 0, 0, Nat.zero_le _, rfl, rfl, rfl, hA0, hB2, ⟨.inl rfl⟩⟩
    case round =>
      clear hA0 hB2 hB1
      obtain ⟨k, pc, A2, n2, c2, hk, rfl, rfl, rfl, hA, hB, hC⟩ := hrel
      by_cases hlt : k < L.length
      · have hdk : decide ((k : Int) < (L.length : Int)) = true := by simp; omega
        obtain ⟨ad, A0, c0, e, hcell, hc0, hb⟩ := parts_at hP.out k hlt
        cases e
        obtain ⟨p, hp⟩ : ∃ p, L[k] = p := ⟨_, rfl⟩
        rw [hp] at hcell hc0 hb
        have hpn := Aside0.mk (flat_next hlt hp)
        have hpl := Aside0.mk (flat_lt hlt hp)
        clear hp
        have hcell0 := Aside0.mk hcell
        have hb := Aside0.mk hb
        clear hcell
        have hflk := flen_take (L := L) k
        have hW : ∀ wr', Adder wr' g (foldN ones (L.take k).flatten) (flen (L.take k).flatten) → Below w.heap.size w wr' →
            Calls Try.prog 14 #[.pointer (some ⟨g, 0, none⟩), .slice A0 p.length c0] wr' fun e w' => e = .returned (.int .i64 0) ∧ Adder w' g (foldN ones (L.take (k + 1)).flatten) (flen (L.take (k + 1)).flatten) ∧ wr'.grownBy w' (some g) := by
          intro wr' hA' hB'
          rw [hpn.out, foldN_append, flen_append]
          exact write_here g _ _ A0 c0 p wr' hA' (foldN_lt _ (by decide)) (by have := hpl.out; unfold flen at *; omega) (Kd.C_below hb.out hB') hc0
        have hW := Aside0.mk hW
        by_cases hat : (k : Int) = at_
        · have hd : ((k : Int) == at_) = true := by simp [hat]
          clear hat
          have hkc : k ≤ c := by omega
          go_wp2_with fail
          refine (acopy_here g _ _ wr hA.out).mono ?_
          rintro e w2 ⟨rfl, rfl⟩
          obtain ⟨g2, hg2⟩ : ∃ g2, wr.heap.size = g2 := ⟨_, rfl⟩
          obtain ⟨w2, hw2⟩ : ∃ w2, wr.alloc (.cells #[.int .u32 ((foldN ones (L.take k).flatten : Nat) : Int), .int .i64 ((flen (L.take k).flatten : Nat) : Int), .bool true] 37) = w2 := ⟨_, rfl⟩
          have hAg : Adder w2 g2 (foldN ones (L.take k).flatten) (flen (L.take k).flatten) := by rw [← hw2, ← hg2]; exact Go.heap_alloc_new wr _
          have hA2 : Adder w2 g (foldN ones (L.take k).flatten) (flen (L.take k).flatten) := by rw [← hw2]; exact hA.out.grown (World.grownBy_alloc wr _ none) (by simp)
          have hBw2 : Below w.heap.size w w2 := by rw [← hw2]; exact hB.out.alloc hB.out.size _
          have hgg : g2 ≠ g := by have := hA.out.lt; omega
          have hg2w : w.heap.size ≤ g2 := by have := hB.out.size; omega
          have hw2s : g2 < w2.heap.size := hAg.lt
          have hw2g : g < w2.heap.size := hA2.lt
          rw [hg2, hw2]
          clear hw2 hg2
          have hAg := Aside0.mk hAg
          have hA2 := Aside0.mk hA2
          have hBw2 := Aside0.mk hBw2
          have htk : (L.take k).length = k := by rw [List.length_take]; omega
          have hJ := joinedR_calls (some ad) c (L.take k) w2 (parts_take (Kd.C_below hP.out hBw2.out) k (by omega)) (by omega) (by omega) (by omega)
          rw [htk] at hJ
          have hJ := Aside0.mk hJ
          clear htk
          go_wp2_with fail
          refine hJ.out.mono ?_
          rintro e w3 ⟨A3, c3, rfl, hR3, hb3⟩
          have hBw3 := Aside0.mk (below_then hBw2.out hBw2.out.size hb3)
          have hA3 : Adder w3 g _ _ := hA2.out.grown (grown_of_below hb3 none) (by simp)
          have hAg3 : Adder w3 g2 _ _ := hAg.out.grown (grown_of_below hb3 none) (by simp)
          have hR3 := Kd.R_lower hR3 (show w.heap.size ≤ w2.heap.size from hBw2.out.size)
          have hR3 := Kd.R_mono (ok' := fun q => q ≠ g ∧ q ≠ g2) hR3 (fun q hq => ⟨by omega, by omega⟩)
          have hC3 : Aside0 (Cst w w3 L g (some ⟨g2, 0, none⟩) A3 (L.take k).flatten.length c3) := ⟨.inr ⟨g2, k, rfl, hgg, hg2w, hk, hAg3, rfl, hR3⟩⟩
          have hA3 := Aside0.mk hA3
          obtain ⟨n3, hn3⟩ : ∃ n3, (L.take k).flatten.length = n3 := ⟨_, rfl⟩
          rw [hn3] at hC3 ⊢
          have hn3 := Aside0.mk hn3
          clear hR3 hAg3 hb3
          have hcell := (hBw3.out.cell (World.block_lt_of_cell? w _ hcell0.out)).trans hcell0.out
          go_wp2_with fail
          refine (hW.out w3 hA3.out hBw3.out).mono ?_
          rintro e w4 ⟨rfl, hA4, hgr⟩
          have hC4 := Aside0.mk (hC3.out.grown hgr)
          have hB4 := Aside0.mk (hBw3.out.grown hgr hBw3.out.size (fun q hq => by cases hq; omega))
          have hA4 := Aside0.mk hA4
          clear hgr
          go_wp2_with fail
          go_roundw
          case rel => exact ⟨k + 1, _, _, _, _, by omega, by go_num, rfl, rfl, hA4, hB4, hC4⟩
          case measure => simp [intOf]; omega
        · have hd : ((k : Int) == at_) = false := by simpa using hat
          have hcell := (hB.out.cell (World.block_lt_of_cell? w _ hcell0.out)).trans hcell0.out
          clear hat
          go_wp2_with fail
          refine (hW.out wr hA.out hB.out).mono ?_
          rintro e w4 ⟨rfl, hA4, hgr⟩
          have hC4 := Aside0.mk (hC.out.grown hgr)
          have hB4 := Aside0.mk (hB.out.grown hgr hB.out.size (fun q hq => by cases hq; omega))
          have hA4 := Aside0.mk hA4
          clear hgr
          go_wp2_with fail
          go_roundw
          case rel => exact ⟨k + 1, _, _, _, _, by omega, by go_num, rfl, rfl, hA4, hB4, hC4⟩
          case measure => simp [intOf]; omega
      · obtain rfl : k = L.length := by omega
        have hdk : decide ((L.length : Int) < (L.length : Int)) = false := by simp
        rw [List.take_length] at hA
        obtain ⟨q, hq⟩ : ∃ q, L.flatten = q := ⟨_, rfl⟩
        obtain ⟨N, hN⟩ : ∃ N, q.length = N := ⟨_, rfl⟩
        obtain ⟨S, hS⟩ : ∃ S, sumN q = S := ⟨_, rfl⟩
        have hxS : 4294967295 - foldN ones q = S := hS
        have hJ := joinedR_calls A c L wr (Kd.C_below hP.out hB.out) hc hl hfl
        rw [hq] at hA hfl hJ
        have hfN : flen q = N := hN
        have hxl := foldN_lt q (x := ones) (by decide)
        obtain ⟨x, hx⟩ : ∃ x, foldN ones q = x := ⟨_, rfl⟩
        rw [hx] at hA hxS hxl
        rw [hfN] at hA hfl
        rw [hN] at hJ
        have hJ := Aside0.mk hJ
        have hq := Aside0.mk hq
        have hN := Aside0.mk hN
        have hS := Aside0.mk hS
        have hfN := Aside0.mk hfN
        have hx := Aside0.mk hx
        have hxS := Aside0.mk hxS
        go_wp2_with fail
        refine hJ.out.mono ?_
        rintro e w2 ⟨A3, c3, rfl, hR2, hb2⟩
        have hBw2 := Aside0.mk (below_then hB.out hB.out.size hb2)
        have hA2 := Aside0.mk (hA.out.grown (grown_of_below hb2 none) (by simp))
        have hR2 := Aside0.mk hR2
        have hb2 := Aside0.mk hb2
        clear hA
        go_wp2_with fail
        refine (asum_here g x N w2 hA2.out hxl).mono ?_
        rintro e w2' ⟨rfl, rfl⟩
        rw [hxS.out]
        have hrs : ∀ W, Below w2.heap.size w2 W ∨ (∃ g2, w2.grownBy W (some g2) ∧ g2 < wr.heap.size) → Calls Try.prog 10 #[.slice A3 N c3] W fun e w' => e = .returned (.int .u32 (S : Int)) ∧ Below W.heap.size W w' := by
          intro W hW
          have hRW : Kd.R (Kd.int .u8) 5 W wr.heap.size (fun q => wr.heap.size ≤ q) (.slice A3 N c3) (toI q) := by
            rcases hW with hW | ⟨g2, hW, hg2⟩
            · exact Kd.R_below hR2.out hW
            · exact Kd.R_grown hR2.out hW (fun k hk => by simp; omega)
          rw [← hN.out] at hRW ⊢
          obtain ⟨h1, h2⟩ := reads_of_R hRW
          have := refSum_calls A3 c3 q W h2 h1 (by rw [hN.out]; omega)
          rw [hS.out] at this
          exact this
        have hrs := Aside0.mk hrs
        go_wp2_with fail
        refine (hrs.out w2 (.inl (Below.refl _ _))).mono ?_
        rintro e w3 ⟨rfl, hb3⟩
        have hA3 := Aside0.mk (hA2.out.grown (grown_of_below hb3 none) (by simp))
        have hb3 := Aside0.mk hb3
        have hbs : (((S : Nat) : Int) != ((S : Nat) : Int)) = false := by simp
        go_wp2_with fail
        refine (alen_here g x N w3 hA3.out).mono ?_
        rintro e w3' ⟨rfl, rfl⟩
        have hbn : (((N : Nat) : Int) != ((N : Nat) : Int)) = false := by simp
        have hsum : Calls Try.prog 9 #[.slice (some ⟨w3.heap.size, 0, none⟩) 1 1] (w3.alloc (.cells #[.slice A3 N c3] 28)) fun e w' => e = .returned (.int .u32 (S : Int)) ∧ Below (w3.heap.size + 1) (w3.alloc (.cells #[.slice A3 N c3] 28)) w' := by
          have hRW := Kd.R_below hR2.out hb3.out
          rw [← hN.out] at hRW ⊢
          obtain ⟨h1, h2⟩ := reads_of_R hRW
          have hPq : Parts (w3.alloc (.cells #[.slice A3 q.length c3] 28)) (some ⟨w3.heap.size, 0, none⟩) [q] :=
            parts_one q ((cell_of_row _ _ _ _ _ _ (Go.heap_alloc_new w3 _)).trans rfl) h1 (Kd.C_alloc h2 _)
          have hfl1 : ([q] : List (List UInt8)).flatten = q := by simp
          have := sum_calls (some ⟨w3.heap.size, 0, none⟩) 1 [q] _ hPq (by rw [hfl1, hfN.out]; omega)
          rw [hfl1, hS.out] at this
          exact this.mono (fun e w' ⟨h1, h2⟩ => ⟨h1, h2.mono (by simp)⟩)
        have hsum := Aside0.mk hsum
        go_wp2_with fail
        refine hsum.out.mono ?_
        rintro e w4 ⟨rfl, hb4⟩
        have hB34 : Below w3.heap.size w3 w4 := ((Below.refl _ w3).alloc (Nat.le_refl _) _).trans (hb4.mono (by omega))
        have hA4 := Aside0.mk (hA3.out.grown (grown_of_below hB34 none) (by simp))
        have hB24 := Aside0.mk (below_then hb3.out hb3.out.size hB34)
        clear hb4 hB34
        go_wp2_with fail
        refine (asum_here g x N w4 hA4.out hxl).mono ?_
        rintro e w4' ⟨rfl, rfl⟩
        rw [hxS.out]
        have hBw4 := Aside0.mk (below_then hBw2.out hBw2.out.size hB24.out)
        rcases hC.out with rfl | ⟨g2, j, rfl, hgg, hg2w, hj, hAj, hnj, hRj⟩
        · go_wp2_with fail
          refine (known_calls w4).mono ?_
          rintro e w5 ⟨rfl, hb5⟩
          have hB5 := Aside0.mk (below_then hBw4.out hBw4.out.size hb5)
          clear hb5
          go_wp2_with fail
          go_ret
          exact ⟨rfl, hB5.out⟩
        · have hfj : flen (L.take j).flatten ≤ 3000 := by have := flen_take (L := L) j; rw [hq.out] at this; unfold flen at *; omega
          obtain ⟨qj, hqj⟩ : ∃ qj, (L.take j).flatten = qj := ⟨_, rfl⟩
          rw [hqj] at hAj hnj hRj hfj
          obtain ⟨xj, hxj⟩ : ∃ xj, foldN ones qj = xj := ⟨_, rfl⟩
          have hxjl := foldN_lt qj (x := ones) (by decide)
          obtain ⟨Sj, hSj⟩ : ∃ Sj, sumN qj = Sj := ⟨_, rfl⟩
          have hxSj : 4294967295 - foldN ones qj = Sj := hSj
          have hfnj : flen qj = n2 := hnj.symm
          rw [hxj] at hAj hxjl hxSj
          rw [hfnj] at hAj hfj
          have hg2lt := hAj.lt
          have hB04 : Below wr.heap.size wr w4 := below_then hb2.out hb2.out.size hB24.out
          have hAj4 := Aside0.mk (hAj.grown (grown_of_below hB04 none) (by simp))
          have hR4 := Kd.R_below hRj hB04
          clear hqj hnj hRj hAj hC
          have hxj := Aside0.mk hxj
          have hxSj := Aside0.mk hxSj
          have hfnj := Aside0.mk hfnj
          have hB04 := Aside0.mk hB04
          have hr4 : Calls Try.prog 10 #[.slice A2 n2 c2] w4 fun e w' => e = .returned (.int .u32 (Sj : Int)) ∧ Below w4.heap.size w4 w' := by
            have hnn : qj.length = n2 := hfnj.out
            rw [← hnn] at hR4 ⊢
            obtain ⟨h1, h2⟩ := reads_of_R hR4
            have := refSum_calls A2 c2 qj w4 h2 h1 (by omega)
            rw [hSj] at this
            exact this
          have hr4 := Aside0.mk hr4
          clear hR4 hSj
          go_wp2_with fail
          refine (asum_here g2 xj n2 w4 hAj4.out hxjl).mono ?_
          rintro e w4' ⟨rfl, rfl⟩
          rw [hxSj.out]
          go_wp2_with fail
          refine hr4.out.mono ?_
          rintro e w5 ⟨rfl, hb5⟩
          have hA5 := Aside0.mk (hA4.out.grown (grown_of_below hb5 none) (by simp))
          have hAj5 := Aside0.mk (hAj4.out.grown (grown_of_below hb5 none) (by simp))
          have hB25 := Aside0.mk (below_then hB24.out hB24.out.size hb5)
          have hBw5 := Aside0.mk (below_then hBw4.out hBw4.out.size hb5)
          clear hb5
          go_wp2_with fail
          refine (alen_here g2 xj n2 w5 hAj5.out).mono ?_
          rintro e w5' ⟨rfl, rfl⟩
          have hb7 : (Kd.int .u8).C (w5.alloc (.cells #[.int .u8 7] 5)) (some ⟨w5.heap.size, 0, none⟩) 1 (toI [7]) :=
            bytes_of_block [7] (Go.heap_alloc_new w5 _) (fun j h => by
              have : j = 0 := by simpa using h
              subst this; rfl) (by decide)
          have hAj6 : Adder (w5.alloc (.cells #[.int .u8 7] 5)) g2 xj n2 := hAj5.out.grown (World.grownBy_alloc w5 _ none) (by simp)
          have hA6 : Adder (w5.alloc (.cells #[.int .u8 7] 5)) g x N := hA5.out.grown (World.grownBy_alloc w5 _ none) (by simp)
          have hWr : Calls Try.prog 14 #[.pointer (some ⟨g2, 0, none⟩), .slice (some ⟨w5.heap.size, 0, none⟩) 1 1] (w5.alloc (.cells #[.int .u8 7] 5)) fun e w' =>
              e = .returned (.int .i64 0) ∧ Adder w' g2 (foldN xj [7]) (n2 + flen [7]) ∧ (w5.alloc (.cells #[.int .u8 7] 5)).grownBy w' (some g2) :=
            write_here g2 xj n2 (some ⟨w5.heap.size, 0, none⟩) 1 [7] _ hAj6 hxjl (by simp [flen]; omega) hb7 (by simp)
          have hWr := Aside0.mk hWr
          have hA6 := Aside0.mk hA6
          clear hb7 hAj6
          go_wp2_with fail
          refine hWr.out.mono ?_
          rintro e w6 ⟨rfl, _, hgr⟩
          have hA7 := Aside0.mk (hA6.out.grown hgr (by simpa using hgg.symm))
          have hgr2 := Aside0.mk ((grown_of_below (below_alloc hB25.out _) (some g2)).trans hgr)
          have hBw6 := Aside0.mk ((hBw5.out.alloc hBw5.out.size (.cells #[.int .u8 7] 5)).grown hgr (by have := hBw5.out.size; simp; omega) (fun q hq => by cases hq; omega))
          clear hgr
          go_wp2_with fail
          refine (asum_here g x N w6 hA7.out hxl).mono ?_
          rintro e w6' ⟨rfl, rfl⟩
          rw [hxS.out]
          go_wp2_with fail
          refine (hrs.out w6 (.inr ⟨g2, hgr2.out, hg2lt⟩)).mono ?_
          rintro e w7 ⟨rfl, hb7⟩
          have hBw7 := Aside0.mk (below_then hBw6.out hBw6.out.size hb7)
          clear hb7
          go_wp2_with fail
          refine (known_calls w7).mono ?_
          rintro e w8 ⟨rfl, hb8⟩
          have hB8 := Aside0.mk (below_then hBw7.out hBw7.out.size hb8)
          clear hb8
          go_wp2_with fail
          go_ret
          exact ⟨rfl, hB8.out⟩

theorem crcWrites_row (w : World) (a : Option Addr) (c : Nat) (l : List (List Int)) (hc : l.length ≤ c) (hm : c ≤ maxLen) (hC : Kd.C (Kd.slice 5 (Kd.int .u8)) w a l.length l) (hG : ∀ y ∈ l, y.length ≤ maxLen ∧ ∀ n ∈ y, (Lit.int .u8 n).wf = true)
    (x : Int) (_ : (Lit.int .i64 x).wf = true) :
    Calls Try.prog 6 #[.slice a l.length c, .int .i64 x] w fun e w' => e = .returned (.bool true) ∧ Below w.heap.size w w' := by
  obtain ⟨L, hl, hP⟩ := parts_of hC hG
  rw [hl] at hc ⊢
  exact crcWrites_calls a c L x w hP hc hm
end Go.Proofs.Ytabejlldemhfaaa
