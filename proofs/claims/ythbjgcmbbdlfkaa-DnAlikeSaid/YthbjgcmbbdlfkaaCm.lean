/- dn.Parse: the closure that takes a part. -/
import Derived.Test.YthbjgcmbbdlfkaaCl
set_option linter.unusedVariables false
set_option linter.unusedSimpArgs false
namespace Go.Proofs.Ythbjgcmbbdlfkaa
open Go.RowKit Go.Shelf Go.Proofs.YthbjgcmbbdlfkaaW.PrintWords Go.Proofs.YthbjgcmbbdlfkaaW.PrintMore Go.Proofs.YthbjgcmbbdlfkaaW.PrintLast

/-- A part. -/
def partF (s : ByteArray) (p : Nat) : Option (Rdn × Nat) := (typedF s p).bind fun tq => (valF s tq.2 [] false).map fun r => (⟨tq.1, strOfNums r.1⟩, r.2)
set_option maxHeartbeats 2000000 in
theorem pcl_calls (C B p : Nat) (s : ByteArray) (w : World) (hs : s.size ≤ 12000) (hC : w.heap[C]? = some (.cells #[.pointer (some ⟨B, 0, none⟩)] 49 (0, 0))) (h : RdAt w B s p) (hp : p ≤ s.size) (hCB : C ≠ B) :
    Calls Try.prog 34 #[.pointer (some ⟨C, 0, none⟩)] w (Took ((partF s p).map fun r => (.agg #[.string r.1.t, .string r.1.v], r.2)) B s w) := by
  obtain ⟨w1, hw1⟩ : ∃ w1, w.alloc (.cells #[.string (⟨#[]⟩ : ByteArray), .string (⟨#[]⟩ : ByteArray)] 40) = w1 := ⟨_, rfl⟩
  have hb1 : Below w.heap.size w w1 := hw1 ▸ below_alloc (Below.refl w.heap.size w) _
  have hR1 := Aside0.mk (show w1.heap[w.heap.size]? = some (.cells #[.string (⟨#[]⟩ : ByteArray), .string (⟨#[]⟩ : ByteArray)] 40 (0, 0)) from hw1 ▸ heap_alloc_new w _)
  have hm1 := Aside0.mk (Mod.of_below (S := Only B) hb1)
  have hr1 := Aside0.mk (h.below hb1)
  have hC1 := Aside0.mk ((hb1.block C (blk_lt hC)).trans hC)
  have hBl := Aside0.mk h.lt
  have hCl := Aside0.mk (blk_lt hC)
  have q1 : w1.cell? ⟨C, 0, none⟩ = some (.pointer (some ⟨B, 0, none⟩)) := (blk_cell hC1.out 0).trans rfl
  have hty := Aside0.mk (typed_calls B p s w1 hs hr1.out hp)
  replace hC := Aside0.mk hC
  replace h := Aside0.mk h
  clear hb1
  go_enter Try.func34, Try.ntmps34
  go_wp2_with fail
  refine hty.out.mono ?_
  rintro e w2 ⟨he, hm2⟩
  cases htf : typedF s p with
  | none =>
    rw [htf] at he
    obtain rfl := he
    have hres := Aside0.mk (show partF s p = none from by unfold partF; rw [htf]; rfl)
    replace hm2 := Aside0.mk (hm1.out.trans hm2 (fun q hq => .inl hq))
    clear hty hw1
    go_wp2_with fail
    exact ⟨rfl, by rw [hres.out]; rfl, hm2.out⟩
  | some tq =>
    obtain ⟨t, q⟩ := tq
    rw [htf] at he
    obtain ⟨rfl, hr2, hq⟩ := he
    have hC2 := Aside0.mk (hm2.blk hC1.out (fun e => hCB e))
    have hR2 := Aside0.mk (hm2.blk hR1.out (fun e => by have := hBl.out; unfold Only at e; omega))
    replace hm2 := Aside0.mk (hm1.out.trans hm2 (fun q hq => .inl hq))
    have hva := Aside0.mk (rvalue_calls B q s w2 hs hr2 hq)
    have q2 : w2.cell? ⟨C, 0, none⟩ = some (.pointer (some ⟨B, 0, none⟩)) := (blk_cell hC2.out 0).trans rfl
    replace hr2 := Aside0.mk hr2
    clear q1 hw1 hty
    go_wp2_with fail
    refine hva.out.mono ?_
    rintro e w3 ⟨he, hm3⟩
    cases hvf : valF s q [] false with
    | none =>
      rw [hvf] at he
      obtain rfl := he
      have hres := Aside0.mk (show partF s p = none from by unfold partF; rw [htf]; show (valF s q [] false).map _ = none; rw [hvf]; rfl)
      replace hm3 := Aside0.mk (hm2.out.trans hm3 (fun q hq => .inl hq))
      clear hva
      go_wp2_with fail
      exact ⟨rfl, by rw [hres.out]; rfl, hm3.out⟩
    | some r =>
      obtain ⟨l, q3⟩ := r
      rw [hvf] at he
      obtain ⟨rfl, hr3, hq3⟩ := he
      have hres := Aside0.mk (show partF s p = some (⟨t, strOfNums l⟩, q3) from by unfold partF; rw [htf]; show (valF s q [] false).map _ = _; rw [hvf]; rfl)
      have hR3 := Aside0.mk (hm3.blk hR2.out (fun e => by have := hBl.out; unfold Only at e; omega))
      replace hm3 := Aside0.mk (hm2.out.trans hm3 (fun q hq => .inl hq))
      replace hr3 := Aside0.mk hr3
      have z0 : w3.cell? ⟨w.heap.size, 0, none⟩ = some (.string (⟨#[]⟩ : ByteArray)) := (blk_cell hR3.out 0).trans rfl
      have z1 : w3.cell? ⟨w.heap.size, 1, none⟩ = some (.string (⟨#[]⟩ : ByteArray)) := (blk_cell hR3.out 1).trans rfl
      have y0 : w3.frozen? ⟨w.heap.size, 0, none⟩ = false := blk_frozen hR3.out 0
      have y1 : w3.frozen? ⟨w.heap.size, 1, none⟩ = false := blk_frozen hR3.out 1
      clear q2 hva
      go_wp2_with fail
      have k1 : (w3.setCell ⟨w.heap.size, 0, none⟩ (.string t)).heap[w.heap.size]? = some (.cells #[.string t, .string (⟨#[]⟩ : ByteArray)] 40 (0, 0)) := by simpa using blk_set hR3.out 0 (.string t)
      have k2 : ((w3.setCell ⟨w.heap.size, 0, none⟩ (.string t)).setCell ⟨w.heap.size, 1, none⟩ (.string (strOfNums l))).heap[w.heap.size]? = some (.cells #[.string t, .string (strOfNums l)] 40 (0, 0)) := by simpa using blk_set k1 1 (.string (strOfNums l))
      have hr4 := hr3.out.mod (((Mod.refl (fun q => q = w.heap.size) w3).setCell (p := ⟨w.heap.size, 0, none⟩) (.inl rfl) (.string t)).setCell (p := ⟨w.heap.size, 1, none⟩) (.inl rfl) (.string (strOfNums l))) (by have := hBl.out; omega)
      have hm4 := (hm3.out.setCell (p := ⟨w.heap.size, 0, none⟩) (.inr (Nat.le_refl _)) (.string t)).setCell (p := ⟨w.heap.size, 1, none⟩) (.inr (Nat.le_refl _)) (.string (strOfNums l))
      obtain ⟨w4, hw4⟩ : ∃ w4, (w3.setCell ⟨w.heap.size, 0, none⟩ (.string t)).setCell ⟨w.heap.size, 1, none⟩ (.string (strOfNums l)) = w4 := ⟨_, rfl⟩
      rw [hw4] at k2 hr4 hm4 ⊢
      have x0 : w4.cell? ⟨w.heap.size, 0, none⟩ = some (.string t) := (blk_cell k2 0).trans rfl
      have x1 : w4.cell? ⟨w.heap.size, 1, none⟩ = some (.string (strOfNums l)) := (blk_cell k2 1).trans rfl
      refine ⟨rfl, .agg #[.string t, .string (strOfNums l)], ?_, ?_⟩
      · simp [results, Try.results34, go_sem, x0, x1]
      · exact ⟨by rw [hres.out]; exact ⟨rfl, hr4, hq3⟩, hm4⟩
end Go.Proofs.Ythbjgcmbbdlfkaa
