/- The reader's plain filter. -/
import Derived.Test.YtgnmkblaockghaaQGe
set_option linter.unusedVariables false
set_option linter.unusedSimpArgs false
namespace Go.Proofs.Ytgnmkblaockghaa
open Go.RowKit Go.Shelf Go.Proofs.YtgnmkblaockghaaW.PrintWords Go.Proofs.YtgnmkblaockghaaW.PrintMore Go.Proofs.YtgnmkblaockghaaW.PrintLast

/-- The first = from a place on, or the end. -/
def eqAt (s : ByteArray) (k : Nat) : Nat := if h : k < s.size ∧ bt s (k : Int) ≠ 61 then eqAt s (k + 1) else k
termination_by s.size - k
theorem eqAt_step {s : ByteArray} {k : Nat} (h : k < s.size) (h1 : bt s (k : Int) ≠ 61) : eqAt s (k + 1) = eqAt s k := by rw [eqAt.eq_1 s k, dif_pos ⟨h, h1⟩]
theorem eqAt_stop {s : ByteArray} {k : Nat} (h : ¬ (k < s.size ∧ bt s (k : Int) ≠ 61)) : eqAt s k = k := by rw [eqAt, dif_neg h]
/-- Where a value ends there is a byte, ) or *. -/
theorem valF_at (s : ByteArray) (k : Nat) (out : List Int) (r : List Int × Nat) (h : valF s k out = some r) : r.2 < s.size ∧ (bt s (r.2 : Int) = 41 ∨ bt s (r.2 : Int) = 42) ∧ k ≤ r.2 := by
  induction hn : s.size - k using Nat.strongRecOn generalizing k out with
  | _ n ih =>
    by_cases hk : k < s.size
    · by_cases h1 : bt s (k : Int) = 41 ∨ bt s (k : Int) = 42
      · rw [valF_stop hk h1] at h
        injection h with h
        subst h
        exact ⟨hk, h1, Nat.le_refl _⟩
      · by_cases h2 : bt s (k : Int) ≠ 40 ∧ 32 ≤ bt s (k : Int) ∧ bt s (k : Int) ≤ 126
        · by_cases h3 : bt s (k : Int) = 92
          · rw [valF_esc hk h1 h2 h3] at h
            split at h
            · have := ih (s.size - (k + 3)) (by omega) (k + 3) _ h rfl
              exact ⟨this.1, this.2.1, by omega⟩
            · cases h
          · rw [valF_next hk h1 h2 h3] at h
            have := ih (s.size - (k + 1)) (by omega) (k + 1) _ h rfl
            exact ⟨this.1, this.2.1, by omega⟩
        · rw [valF_bad hk h1 h2] at h; cases h
    · rw [valF_end hk] at h; cases h
/-- A filter of a name, from a place on. -/
def plainF (s : ByteArray) (p : Nat) : Option (Ft × Nat) :=
  if eqAt s p < s.size then
    (valF s (eqAt s p + 1) []).map fun r => if bt s (r.2 : Int) = 42 then (⟨if r.1 = [] then 6 else 5, [], small (s.extract p (eqAt s p)), strOfNums r.1⟩, r.2 + 1) else (⟨4, [], small (s.extract p (eqAt s p)), strOfNums r.1⟩, r.2)
  else none
theorem FBox.set0 {w : World} {b T : Nat} {v0 v1 v2 v3 : Value} (h : FBox w b T v0 v1 v2 v3) (v : Value) : FBox (w.setCell ⟨b, 0, none⟩ v) b T v v1 v2 v3 := by simpa [FBox] using blk_set h 0 v
theorem FBox.set1 {w : World} {b T : Nat} {v0 v1 v2 v3 : Value} (h : FBox w b T v0 v1 v2 v3) (v : Value) : FBox (w.setCell ⟨b, 1, none⟩ v) b T v0 v v2 v3 := by simpa [FBox] using blk_set h 1 v
theorem FBox.set3 {w : World} {b T : Nat} {v0 v1 v2 v3 : Value} (h : FBox w b T v0 v1 v2 v3) (v : Value) : FBox (w.setCell ⟨b, 3, none⟩ v) b T v0 v1 v2 v := by simpa [FBox] using blk_set h 3 v
theorem set_mod (w : World) (V : Nat) (j : Nat) (v : Value) : Mod (fun q => q = V) w (w.setCell ⟨V, j, none⟩ v) := (Mod.refl (fun q => q = V) w).setCell (p := ⟨V, j, none⟩) (.inl rfl) v
theorem extract_size {s : ByteArray} {i j : Nat} (h : j ≤ s.size) : (s.extract i j).size = j - i := by simp [ByteArray.size_extract]; omega
theorem str_empty (l : List Int) : ((strOfNums l).toList == []) = l.isEmpty := by
  rw [ByteArray.toList_eq]
  cases l with
  | nil => rfl
  | cons x l => rfl
/-- A box was made since, beside whatever else. -/
def Made (w : World) (V : Nat) (w' : World) : Prop := FBox w' V 25 (.int .i64 0) (.slice none 0 0) (.string ⟨#[]⟩) (.string ⟨#[]⟩) ∧ w.heap.size ≤ V ∧ Below w.heap.size w w'
set_option maxRecDepth 8000 in
set_option maxHeartbeats 8000000 in
theorem plain_calls (B p n : Nat) (s : ByteArray) (w : World) (hs : s.size ≤ 12000) (h : RdAt w B s p n) (hp : p ≤ s.size) :
    Calls Try.prog 68 #[.pointer (some ⟨B, 0, none⟩)] w (Took ((plainF s p).map fun r => (.agg #[.int .i64 r.1.f0, .slice none 0 0, .string r.1.f2, .string r.1.f3], r.2)) B n s w) := by
  have hF : plainF s p = if eqAt s p < s.size then (valF s (eqAt s p + 1) []).map fun r => if bt s (r.2 : Int) = 42 then (⟨if r.1 = [] then 6 else 5, [], small (s.extract p (eqAt s p)), strOfNums r.1⟩, r.2 + 1) else (⟨4, [], small (s.extract p (eqAt s p)), strOfNums r.1⟩, r.2) else none := rfl
  obtain ⟨res, hre⟩ : ∃ res, plainF s p = res := ⟨_, rfl⟩
  rw [hre] at hF ⊢
  replace hF := Aside0.mk hF
  clear hre
  have hBlt := h.lt
  have hB0 := fbox_new w 25 (.int .i64 0) (.slice none 0 0) (.string ⟨#[]⟩) (.string ⟨#[]⟩)
  have hb1 := below_alloc (Below.refl w.heap.size w) (.cells #[.int .i64 0, .slice none 0 0, .string ⟨#[]⟩, .string ⟨#[]⟩] 25)
  obtain ⟨w1, hw1⟩ : ∃ w1, w.alloc (.cells #[.int .i64 0, .slice none 0 0, .string ⟨#[]⟩, .string ⟨#[]⟩] 25) = w1 := ⟨_, rfl⟩
  obtain ⟨V0, hV0⟩ : ∃ V0, w.heap.size = V0 := ⟨_, rfl⟩
  rw [hw1] at hB0 hb1
  rw [hV0] at hB0 hBlt
  have h1 := h.below hb1
  have c1 := h1.c1
  replace h1 := Aside0.mk h1
  replace hB0 := Aside0.mk hB0
  have hm1 := Aside0.mk (Mod.of_below (S := Only B) hb1)
  have i0 : (0 : Int) ≤ (p : Int) := by omega
  clear hb1 h
  go_enter Try.func68, Try.ntmps68
  go_wp2_with fail
  clear c1
  go_loopw [] (fun wr => ∃ k : Nat, Aside0 (p ≤ k) ∧ Aside0 (k ≤ s.size) ∧ Aside0 (eqAt s k = eqAt s p) ∧ Aside0 (RdAt wr B s k n) ∧ Aside0 (FBox wr V0 25 (.int .i64 0) (.slice none 0 0) (.string ⟨#[]⟩) (.string ⟨#[]⟩)) ∧ Aside0 (Mod (Only B) w wr)) (fun wr => s.size - atOf B wr)
  case atStart => exact ⟨p, ⟨Nat.le_refl _⟩, ⟨hp⟩, ⟨rfl⟩, h1, hB0, hm1⟩
  case round =>
    clear h1 hB0 hm1
    obtain ⟨k, hpk, hks, heq, hr, hB0, hm⟩ := hrel
    by_cases hk : k < s.size
    · have hn := Aside0.mk (next_yes B k n s wr hs hr.out hk)
      obtain ⟨x0, x1⟩ := bt_range s (k : Int)
      by_cases hx : bt s (k : Int) = 61
      · have heq' := heq.out
        rw [eqAt_stop (fun h => h.2 hx)] at heq'
        have hF' := hF.out
        rw [← heq', if_pos hk] at hF'
        replace hF' := Aside0.mk hF'
        clear heq'
        rw [hx] at hn
        go_wp2_with fail
        refine hn.out.mono ?_
        rintro e w2 ⟨rfl, hb2⟩
        have h2 := Aside0.mk (hr.out.below hb2)
        have hB2 := Aside0.mk (hB0.out.below hb2)
        have hm2 := Aside0.mk (hm.out.then_below hb2)
        clear hn hb2 hr hB0 hm hx
        have hpk' := hpk.out
        have i1 : (p : Int) ≤ (k : Int) := by omega
        have i2 : (k : Int) ≤ (s.size : Int) := by omega
        have c0 := h2.out.c0
        have c1 := h2.out.c1
        have hsz : (s.extract p k).size ≤ 12000 := by rw [extract_size (by omega)]; omega
        have hsm := Aside0.mk (fun W => small_calls (s.extract p k) W hsz)
        obtain ⟨nm, hnm⟩ : ∃ nm, small (s.extract p k) = nm := ⟨_, rfl⟩
        rw [hnm] at hsm hF'
        obtain ⟨sx, hsx⟩ : ∃ sx, s.extract p k = sx := ⟨_, rfl⟩
        rw [hsx] at hsm
        have hdr := Aside0.mk (below_drew (Below.refl w2.heap.size w2))
        have hSa := Aside0.mk (fun W (hb : Below w2.heap.size w2 W) => And.intro (h2.out.below hb).c0 (h2.out.below hb).c1)
        have hba := Aside0.mk (below_alloc hdr.out (.cells #[.int .i64 0, .slice none 0 0, .string ⟨#[]⟩, .string ⟨#[]⟩] 25))
        have hBa := Aside0.mk (fbox_new w2.drew 25 (.int .i64 0) (.slice none 0 0) (.string ⟨#[]⟩) (.string ⟨#[]⟩))
        clear hnm
        have hdrl := Aside0.mk (Nat.le_refl w2.heap.size)
        go_wp2_with fail
        refine start_ (n := 14) (S := fun w' => w'.cell? ⟨B, 0, none⟩ = some (.string s) ∧ w'.cell? ⟨B, 1, none⟩ = some (.int .i64 (k : Int))) (ds := [13]) (B_ 14 0) (by kernel_rfl) rfl rfl ⟨(hSa.out _ hdr.out).1, (hSa.out _ hdr.out).2⟩ (fun hHeld => ?_)
        refine pn_ 0 19 (B_ 14 1) rfl rfl ?_
        refine pn_ 1 20 (B_ 14 3) rfl rfl ?_
        refine pn_ 2 21 (B_ 14 7) rfl rfl ?_
        refine pn_ 4 23 (B_ 14 23) rfl rfl ?_
        refine pn_ 5 24 (B_ 14 55) rfl rfl ?_
        refine pn_ 6 25 (B_ 14 119) rfl rfl ?_
        refine pn_ 7 26 (B_ 14 247) rfl rfl ?_
        refine tk_ 3 22 (B_ 14 255) rfl rfl hHeld (by rintro w' ⟨s0, s1⟩; go_simp; with_reducible rfl) ?_
        refine tk_ 8 27 (B_ 14 511) rfl rfl hHeld (by rintro w' ⟨s0, s1⟩; go_simp; with_reducible rfl) ?_
        refine pn_ 9 28 (B_ 14 1023) rfl rfl ?_
        refine join_ (σ := Nat) 1 (B_ 14 8191) (fun s => [(29, .string nm), (30, .agg #[.int .i64 4, .slice none 0 0, .string nm, .string ⟨#[]⟩]), (4, .pointer (some ⟨s, 0, none⟩))]) (fun s w' => Made w2 s w') ?_ ?_
        rotate_left
        · intro hCont
          refine two_ (i := 10) (j := 12) (Ni := some 29) (Nj := some 4) (B_ 14 2047) (B_ 14 5119) rfl rfl rfl rfl (by kernel_rfl) (by decide) (by decide) (fun K hK => ?_) (fun K hK => ?_)
          · skip
            refine goes_ Try.func32 (by kernel_rfl) rfl #[.string sx] (by rfl) rfl rfl (by simp only [List.map_toArray, List.map_cons, List.map_nil]; rfl) ?_
            with_reducible refine ((hsm.out _)).mono ?_
            rintro e w3 ⟨rfl, hb3⟩
            refine ⟨_, rfl, ?_⟩
            have h13 := Aside0.mk (below_then hdr.out hdr.out.size hb3)
            clear hb3
            refine hK.out _ _ ⟨(hSa.out _ h13.out).1, (hSa.out _ h13.out).2⟩ (fun hHeld => ?_)
            clear hK K
            refine nm_ 29 ?_
            refine pn_ 11 30 (B_ 14 4095) rfl rfl ?_
            refine one_ (i := 12) (N := some 4) (B_ 14 8191) rfl rfl (by kernel_rfl) (by decide) (fun K hK => ?_)
            refine value_ (w1 := ?_) (v := ?_) (by rfl) rfl ?_ ?_
            rotate_left 2
            · go_simp
              constructor
              · rfl
              · rfl
            have hmade := Aside0.mk (show Made w2 w3.heap.size _ from ⟨fbox_new w3 25 (.int .i64 0) (.slice none 0 0) (.string ⟨#[]⟩) (.string ⟨#[]⟩), h13.out.size, below_then h13.out h13.out.size (below_alloc (Below.refl _ _) _)⟩)
            refine hK.out _ _ ⟨(hSa.out _ hmade.out.2.2).1, (hSa.out _ hmade.out.2.2).2⟩ (fun hHeld => ?_)
            clear hK K
            refine nm_ 4 ?_
            exact norm_ (by simp only [putAll, Act.put, List.setIfInBounds_toArray, List.set_cons_zero, List.set_cons_succ]) (hCont w3.heap.size _ hmade.out)
          · skip
            refine value_ (w1 := ?_) (v := ?_) (by rfl) rfl ?_ ?_
            rotate_left 2
            · go_simp
              constructor
              · rfl
              · rfl
            refine hK.out _ _ ⟨(hSa.out _ hba.out).1, (hSa.out _ hba.out).2⟩ (fun hHeld => ?_)
            clear hK K
            refine nm_ 4 ?_
            refine one_ (i := 10) (N := some 29) (B_ 14 6143) rfl rfl (by kernel_rfl) (by decide) (fun K hK => ?_)
            refine goes_ Try.func32 (by kernel_rfl) rfl #[.string sx] (by rfl) rfl rfl (by simp only [List.map_toArray, List.map_cons, List.map_nil]; rfl) ?_
            with_reducible refine ((hsm.out _)).mono ?_
            rintro e w3 ⟨rfl, hb3⟩
            refine ⟨_, rfl, ?_⟩
            have hmade := Aside0.mk (show Made w2 w2.heap.size w3 from ⟨hBa.out.below hb3, Nat.le_refl _, below_then hba.out hba.out.size hb3⟩)
            clear hb3
            refine hK.out _ _ ⟨(hSa.out _ hmade.out.2.2).1, (hSa.out _ hmade.out.2.2).2⟩ (fun hHeld => ?_)
            clear hK K
            refine nm_ 29 ?_
            refine pn_ 11 30 (B_ 14 8191) rfl rfl ?_
            exact norm_ (by simp only [putAll, Act.put, List.setIfInBounds_toArray, List.set_cons_zero, List.set_cons_succ]) (hCont w2.heap.size _ hmade.out)
        rintro V w4 hmade
        have hHeld := hSa.out _ hmade.2.2
        obtain ⟨e0, e1, e2, e3⟩ := hmade.1.cells
        obtain ⟨f0, f1, f2, f3⟩ := hmade.1.free
        replace hmade := Aside0.mk hmade
        refine norm_ (a' := ?_) ?_ ?_
        rotate_left
        · simp only [putAll, Act.put, List.setIfInBounds_toArray, List.set_cons_zero, List.set_cons_succ]
          rfl
        refine last_ (i := 13) (N := none) (B_ 14 16383) rfl rfl (by kernel_rfl) (by decide) (fun K hK => ?_)
        refine skip_ (w1 := ?_) (by rfl) rfl ?_ ?_
        rotate_left
        · go_simp
          rfl
        refine hK.out _ _ ?_
        clear hK K
        refine done_ (by kernel_rfl) ?_
        obtain ⟨w5, hw5, hV5, hm5⟩ := put4 hmade.out.1 (.int .i64 4) (.slice none 0 0) (.string nm) (.string ⟨#[]⟩)
        rw [hw5]
        have hVw := hmade.out.2.1
        have hb5 : Below w2.heap.size w2 w5 := mod_below hm5 hmade.out.2.2 hVw
        have h5 := h2.out.below hb5
        have hB5 := hB2.out.below hb5
        have hV0V : V0 < V := by have := hB2.out.lt; omega
        have hm25 := hm2.out.then_below hb5
        clear e0 e1 e2 e3 f0 f1 f2 f3 hHeld hw5 hm5 hb5 hmade hba hBa hSa hdr hsm c0 c1 h2 hB2 hm2
        have c1 := h5.c1
        have z1 := h5.z1
        have h6 : RdAt (w5.setCell ⟨B, 1, none⟩ (.int .i64 ((k : Int) + 1))) B s (k + 1) n := h5.set (k + 1)
        have hms : Mod (Only B) w5 (w5.setCell ⟨B, 1, none⟩ (.int .i64 ((k : Int) + 1))) := setAt_mod w5 B 1 _
        obtain ⟨w6, hw6⟩ : ∃ wn, w5.setCell ⟨B, 1, none⟩ (.int .i64 ((k : Int) + 1)) = wn := ⟨_, rfl⟩
        rw [hw6] at h6 hms
        have hV6 := Aside0.mk (hV5.mod hms (show ¬ V = B by omega))
        have hB6 := Aside0.mk (hB5.mod hms (show ¬ V0 = B by omega))
        have hm6 := Aside0.mk (hm25.trans hms (fun q hq => .inl hq))
        have hva := Aside0.mk (rvalue_calls B (k + 1) n s w6 hs h6)
        have hat := Aside0.mk (valF_at s (k + 1) [])
        have h6' := Aside0.mk h6
        clear hV5 hB5 hm25 hms h5 h6
        obtain ⟨o, ho⟩ : ∃ o, valF s (k + 1) [] = o := ⟨_, rfl⟩
        rw [ho] at hva hat hF'
        clear ho
        cases o with
        | none =>
          have hres : Aside0 (res = none) := ⟨hF'.out⟩
          go_wp2_with fail
          refine hva.out.mono ?_
          rintro e w7 ⟨rfl, hm7⟩
          have hmz := Aside0.mk (hm6.out.trans hm7 (fun q hq => .inl hq))
          clear hva hm7
          go_wp2_with fail
          exact ⟨rfl, by rw [hres.out]; rfl, hmz.out⟩
        | some r =>
          obtain ⟨v, q⟩ := r
          obtain ⟨hq, hq2, hkq⟩ := hat.out (v, q) rfl
          dsimp only at hq hq2 hkq
          have hF2 : Aside0 (res = some (if bt s (q : Int) = 42 then (⟨if v = [] then 6 else 5, [], nm, strOfNums v⟩, q + 1) else (⟨4, [], nm, strOfNums v⟩, q))) := ⟨hF'.out⟩
          have hve := Aside0.mk (str_empty v)
          clear hF' hF hat
          go_wp2_with fail
          refine hva.out.mono ?_
          rintro e w7 ⟨⟨he, h7⟩, hm7⟩
          have he : e = .returned (.string (strOfNums v)) := he
          subst he
          obtain ⟨vs, hvs⟩ : ∃ vs, strOfNums v = vs := ⟨_, rfl⟩
          rw [hvs] at hF2 hve ⊢
          replace hvs := Aside0.mk hvs
          have hm67 := hm6.out.trans hm7 (fun q hq => .inl hq)
          have hV7 := hV6.out.mod hm7 (show ¬ V = B by omega)
          have hB7 := hB6.out.mod hm7 (show ¬ V0 = B by omega)
          have h7' : RdAt w7 B s q n := h7
          have hV8 := hV7.set3 (.string vs)
          have hm8 := set_mod w7 V 3 (.string vs)
          obtain ⟨u0, u1, u2, u3⟩ := hV7.cells
          obtain ⟨v0, v1, v2, v3⟩ := hV7.free
          obtain ⟨w8, hw8⟩ : ∃ wn, w7.setCell ⟨V, 3, none⟩ (.string vs) = wn := ⟨_, rfl⟩
          rw [hw8] at hV8 hm8
          have h8 := h7'.mod hm8 (show ¬ B = V by omega)
          have hB8 := hB7.mod hm8 (show ¬ V0 = V by omega)
          have hm08 := hm67.trans hm8 (fun q hq => .inr (by have hz : q = V := hq; omega))
          have hn8 := Aside0.mk (next_yes B q n s w8 hs h8 hq)
          have hV8' := Aside0.mk hV8
          have h8' := Aside0.mk h8
          have hB8' := Aside0.mk hB8
          have hm08' := Aside0.mk hm08
          clear hva hm7 hV6 hB6 hm6 h7 hm67 hV7 hB7 h7' hV8 hm8 h8 hB8 hm08
          go_wp2_with fail
          refine hn8.out.mono ?_
          rintro e w9 ⟨rfl, hb9⟩
          have hV9 := Aside0.mk (hV8'.out.below hb9)
          have hB9 := Aside0.mk (hB8'.out.below hb9)
          have h9 := Aside0.mk (h8'.out.below hb9)
          have hm9 := Aside0.mk (hm08'.out.then_below hb9)
          clear hn8 hV8' hB8' h8' hm08' hb9 u0 u1 u2 u3 v0 v1 v2 v3
          rcases hq2 with hq41 | hq42
          · rw [if_neg (by rw [hq41]; decide)] at hF2
            have hres := hF2
            clear hF2
            rw [hq41]
            obtain ⟨u0, u1, u2, u3⟩ := hV9.out.cells
            obtain ⟨g0, g1, g2, g3⟩ := hB9.out.cells
            obtain ⟨f0, f1, f2, f3⟩ := hB9.out.free
            obtain ⟨wf, hwf, hBf, hmf⟩ := put4 hB9.out (.int .i64 4) (.slice none 0 0) (.string nm) (.string vs)
            obtain ⟨r0, r1, r2, r3⟩ := hBf.cells
            have hrf := Aside0.mk (RdAt.mod h9.out hmf (by omega))
            have hmz := Aside0.mk (show Mod (Only B) w wf from Mod.trans hm9.out hmf (fun q hq => .inr (by have hz : q = V0 := hq; omega)))
            replace hBf := Aside0.mk hBf
            clear hmf
            go_wp2_with fail
            refine bodyPost_ret (v := .agg #[.int .i64 4, .slice none 0 0, .string nm, .string vs]) (by simp [results, Try.results68, go_sem, r0, r1, r2, r3]) rfl ?_
            refine ⟨?_, hmz.out⟩
            rw [hres.out]
            exact ⟨rfl, hrf.out⟩
          · rw [if_pos hq42] at hF2
            rw [hq42]
            have c1 := h9.out.c1
            have z1 := h9.out.z1
            have h10 : RdAt (w9.setCell ⟨B, 1, none⟩ (.int .i64 ((q : Int) + 1))) B s (q + 1) n := h9.out.set (q + 1)
            have hms : Mod (Only B) w9 (w9.setCell ⟨B, 1, none⟩ (.int .i64 ((q : Int) + 1))) := setAt_mod w9 B 1 _
            obtain ⟨w10, hw10⟩ : ∃ wn, w9.setCell ⟨B, 1, none⟩ (.int .i64 ((q : Int) + 1)) = wn := ⟨_, rfl⟩
            rw [hw10] at h10 hms
            have hV10 := hV9.out.mod hms (show ¬ V = B by omega)
            have hB10 := hB9.out.mod hms (show ¬ V0 = B by omega)
            have hm10 := hm9.out.trans hms (fun q hq => .inl hq)
            obtain ⟨a0, a1, a2, a3⟩ := hV10.cells
            obtain ⟨b0, b1, b2, b3⟩ := hV10.free
            have hV11 := hV10.set0 (.int .i64 5)
            have hm11 := set_mod w10 V 0 (.int .i64 5)
            obtain ⟨w11, hw11⟩ : ∃ wn, w10.setCell ⟨V, 0, none⟩ (.int .i64 5) = wn := ⟨_, rfl⟩
            rw [hw11] at hV11 hm11
            have h11 := h10.mod hm11 (show ¬ B = V by omega)
            have hB11 := hB10.mod hm11 (show ¬ V0 = V by omega)
            have hm011 := hm10.trans hm11 (fun q hq => .inr (by have hz : q = V := hq; omega))
            have hve' := hve.out
            cases hvv : v.isEmpty with
            | false =>
              rw [hvv] at hve'
              have hres : Aside0 (res = some (⟨5, [], nm, vs⟩, q + 1)) := ⟨by rw [hF2.out, if_neg (by rintro rfl; cases hvv)]⟩
              have hV11' := Aside0.mk hV11
              have hB11' := Aside0.mk hB11
              have h11' := Aside0.mk h11
              have hm011' := Aside0.mk hm011
              clear hF2 hV10 hB10 hm10 h10 hms hm11 hV11 hB11 h11 hm011 hV9 hB9 h9 hm9
              obtain ⟨u0, u1, u2, u3⟩ := hV11'.out.cells
              obtain ⟨g0, g1, g2, g3⟩ := hB11'.out.cells
              obtain ⟨f0, f1, f2, f3⟩ := hB11'.out.free
              obtain ⟨wf, hwf, hBf, hmf⟩ := put4 hB11'.out (.int .i64 5) (.slice none 0 0) (.string nm) (.string vs)
              obtain ⟨r0, r1, r2, r3⟩ := hBf.cells
              have hrf := Aside0.mk (RdAt.mod h11'.out hmf (by omega))
              have hmz := Aside0.mk (show Mod (Only B) w wf from Mod.trans hm011'.out hmf (fun q hq => .inr (by have hz : q = V0 := hq; omega)))
              replace hBf := Aside0.mk hBf
              clear hmf
              go_wp2_with fail
              refine bodyPost_ret (v := .agg #[.int .i64 5, .slice none 0 0, .string nm, .string vs]) (by simp [results, Try.results68, go_sem, r0, r1, r2, r3]) rfl ?_
              refine ⟨?_, hmz.out⟩
              rw [hres.out]
              exact ⟨rfl, hrf.out⟩
            | true =>
              rw [hvv] at hve'
              have hres : Aside0 (res = some (⟨6, [], nm, vs⟩, q + 1)) := ⟨by rw [hF2.out, if_pos (by simpa using hvv)]⟩
              obtain ⟨d0, d1, d2, d3⟩ := hV11.cells
              obtain ⟨i0', i1', i2', i3'⟩ := hV11.free
              have hV12 := hV11.set0 (.int .i64 6)
              have hm12 := set_mod w11 V 0 (.int .i64 6)
              obtain ⟨w12, hw12⟩ : ∃ wn, w11.setCell ⟨V, 0, none⟩ (.int .i64 6) = wn := ⟨_, rfl⟩
              rw [hw12] at hV12 hm12
              have h12' := Aside0.mk (h11.mod hm12 (show ¬ B = V by omega))
              have hB12' := Aside0.mk (hB11.mod hm12 (show ¬ V0 = V by omega))
              have hm012' := Aside0.mk (hm011.trans hm12 (fun q hq => .inr (by have hz : q = V := hq; omega)))
              have hV12' := Aside0.mk hV12
              clear hF2 hV10 hB10 hm10 h10 hms hm11 hV11 hB11 h11 hm011 hV9 hB9 h9 hm9 hV12 hm12
              obtain ⟨u0, u1, u2, u3⟩ := hV12'.out.cells
              obtain ⟨g0, g1, g2, g3⟩ := hB12'.out.cells
              obtain ⟨f0, f1, f2, f3⟩ := hB12'.out.free
              obtain ⟨wf, hwf, hBf, hmf⟩ := put4 hB12'.out (.int .i64 6) (.slice none 0 0) (.string nm) (.string vs)
              obtain ⟨r0, r1, r2, r3⟩ := hBf.cells
              have hrf := Aside0.mk (RdAt.mod h12'.out hmf (by omega))
              have hmz := Aside0.mk (show Mod (Only B) w wf from Mod.trans hm012'.out hmf (fun q hq => .inr (by have hz : q = V0 := hq; omega)))
              replace hBf := Aside0.mk hBf
              clear hmf
              go_wp2_with fail
              refine bodyPost_ret (v := .agg #[.int .i64 6, .slice none 0 0, .string nm, .string vs]) (by simp [results, Try.results68, go_sem, r0, r1, r2, r3]) rfl ?_
              refine ⟨?_, hmz.out⟩
              rw [hres.out]
              exact ⟨rfl, hrf.out⟩
      · have hq := Aside0.mk (show eqAt s (k + 1) = eqAt s p from (eqAt_step hk hx).trans heq.out)
        obtain ⟨x, hxx⟩ : ∃ x, bt s (k : Int) = x := ⟨_, rfl⟩
        rw [hxx] at hn hx x0 x1
        have n1 : (x != 61) = true := by simpa using hx
        have n2 : (x == 61) = false := by simpa using hx
        clear hx hxx
        go_wp2_with fail
        refine hn.out.mono ?_
        rintro e w2 ⟨rfl, hb2⟩
        have h2 := hr.out.below hb2
        have hB2 := hB0.out.below hb2
        have hm2 := hm.out.then_below hb2
        have c1 := h2.c1
        have z1 := h2.z1
        have h3 : RdAt (w2.setCell ⟨B, 1, none⟩ (.int .i64 ((k : Int) + 1))) B s (k + 1) n := h2.set (k + 1)
        have hms : Mod (Only B) w2 (w2.setCell ⟨B, 1, none⟩ (.int .i64 ((k : Int) + 1))) := setAt_mod w2 B 1 _
        obtain ⟨w3, hw3⟩ : ∃ wn, w2.setCell ⟨B, 1, none⟩ (.int .i64 ((k : Int) + 1)) = wn := ⟨_, rfl⟩
        rw [hw3] at h3 hms
        have hB3 := Aside0.mk (hB2.mod hms (show ¬ V0 = B by omega))
        have hm3 := Aside0.mk (hm2.trans hms (fun q hq => .inl hq))
        have hat := Aside0.mk (show s.size - atOf B w3 < s.size - atOf B wr by rw [atOf_rd h3, atOf_rd hr.out]; omega)
        replace h3 := Aside0.mk h3
        have hk9 : Aside0 (p ≤ k + 1) := ⟨by have := hpk.out; omega⟩
        have hk8 : Aside0 (k + 1 ≤ s.size) := ⟨by omega⟩
        clear h2 hB2 hm2 hms hb2
        go_wp2_with fail
        go_roundw
        case rel => exact ⟨k + 1, hk9, hk8, hq, h3, hB3, hm3⟩
        case measure => exact hat.out
    · have hn := Aside0.mk (next_no B k n s wr hs hr.out hk)
      have hres : Aside0 (res = none) := ⟨by
        have := heq.out
        rw [eqAt_stop (fun h => hk h.1)] at this
        rw [hF.out, ← this, if_neg hk]⟩
      replace hk := Aside0.mk hk
      go_wp2_with fail
      refine hn.out.mono ?_
      rintro e w2 ⟨rfl, hb2⟩
      have hmz := Aside0.mk (hm.out.then_below hb2)
      go_wp2_with fail
      exact ⟨rfl, by rw [hres.out]; rfl, hmz.out⟩
end Go.Proofs.Ytgnmkblaockghaa
