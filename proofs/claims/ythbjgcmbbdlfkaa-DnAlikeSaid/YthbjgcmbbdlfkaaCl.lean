/- dn.Parse: the deferred closure. -/
import Derived.Test.YthbjgcmbbdlfkaaCk
import Derived.Recover
set_option linter.unusedVariables false
set_option linter.unusedSimpArgs false
namespace Go.Proofs.Ythbjgcmbbdlfkaa
open Go.RowKit Go.Shelf Go.Proofs.YthbjgcmbbdlfkaaW.PrintWords Go.Proofs.YthbjgcmbbdlfkaaW.PrintMore Go.Proofs.YthbjgcmbbdlfkaaW.PrintLast

theorem catch_idle (pd pe : Addr) (w : World) :
    CallsD Try.prog 33 #[.pointer (some pd), .pointer (some pe)] .returning w fun e u' w' => e = .returned (.tuple #[]) ∧ u' = .returning ∧ w' = w := by
  refine callsD_of_wpS Try.func33 rfl fun c₀ cs hu => ?_
  apply wpS_seq
  apply wpS_region
  simp [wpOpsS, go_sem, recoverD, hu, Try.ntmps33, Exit.thenS]
  refine wpS_of_wp ?_
  have hlit : (#[Value.pointer (some pd), Value.pointer (some pe)] ++ (Array.replicate 9 undef).setIfInBounds 3 Value.nilIface) = #[.pointer (some pd), .pointer (some pe), undef, undef, undef, .nilIface, undef, undef, undef, undef, undef] := rfl
  rw [hlit]
  clear hlit
  go_wp2_with fail
  cases c₀
  simp_all [bodyPostS, results, Try.results33]
theorem catch_stop (D E : Nat) (dv ev : Value) (w : World) (hD : w.heap[D]? = some (.cells #[dv] 23 (0, 0))) (hE : w.heap[E]? = some (.cells #[ev] 26 (0, 0))) (hne : D ≠ E) :
    CallsD Try.prog 33 #[.pointer (some ⟨D, 0, none⟩), .pointer (some ⟨E, 0, none⟩)] (.panicking [{ v := .iface 48 (.agg #[]), recovered := false }]) w fun e u' w' => e = .returned (.tuple #[]) ∧ u' = .panicking [{ v := .iface 48 (.agg #[]), recovered := true }] ∧
      (w'.heap[D]? = some (.cells #[.slice none 0 0] 23 (0, 0)) ∧ w'.heap[E]? = some (.cells #[.int .i64 160] 26 (0, 0)) ∧ Mod (fun q => q = D ∨ q = E) w w') := by
  refine callsD_of_wpS Try.func33 rfl fun c₀ cs hu => ?_
  apply wpS_seq
  apply wpS_region
  simp [wpOpsS, go_sem, recoverD, hu, Try.ntmps33, Exit.thenS]
  refine wpS_of_wp ?_
  have hlit : (#[Value.pointer (some ⟨D, 0, none⟩), Value.pointer (some ⟨E, 0, none⟩)] ++ (Array.replicate 9 undef).setIfInBounds 3 (Value.iface 48 (.agg #[]))) = #[.pointer (some ⟨D, 0, none⟩), .pointer (some ⟨E, 0, none⟩), undef, undef, undef, .iface 48 (.agg #[]), undef, undef, undef, undef, undef] := rfl
  rw [hlit]
  clear hlit
  have hta : ∀ W, (Instr.typeAssert (.iface 48 (.agg #[])) 20 48 true).run Try.prog W = .ok (.tuple #[.agg #[], .bool true]) W := fun W => rfl
  have hDl := blk_lt hD
  have hEl := blk_lt hE
  obtain ⟨w1, hw1⟩ : ∃ w1, w.alloc (.cells #[] 48) = w1 := ⟨_, rfl⟩
  have hb1 := Aside0.mk (hw1 ▸ below_alloc (Below.refl w.heap.size w) (.cells #[] 48))
  have hD1 := (hb1.out.block D hDl).trans hD
  have hE1 := (hb1.out.block E hEl).trans hE
  have d1 : w1.cell? ⟨D, 0, none⟩ = some dv := (blk_cell hD1 0).trans rfl
  have d2 : w1.frozen? ⟨D, 0, none⟩ = false := blk_frozen hD1 0
  have f1 : w1.cell? ⟨E, 0, none⟩ = some ev := (blk_cell hE1 0).trans rfl
  have f2 : w1.frozen? ⟨E, 0, none⟩ = false := blk_frozen hE1 0
  replace hD := Aside0.mk hD
  replace hE := Aside0.mk hE
  replace hD1 := Aside0.mk hD1
  replace hE1 := Aside0.mk hE1
  go_wp2_with fail
  have k1 : (w1.setCell ⟨D, 0, none⟩ (.slice none 0 0)).heap[D]? = some (.cells #[.slice none 0 0] 23 (0, 0)) := by simpa using blk_set hD1.out 0 (.slice none 0 0)
  have k2 : (w1.setCell ⟨D, 0, none⟩ (.slice none 0 0)).heap[E]? = some (.cells #[ev] 26 (0, 0)) := blk_far hE1.out (p := ⟨D, 0, none⟩) (Ne.symm hne) _
  have k3 : ((w1.setCell ⟨D, 0, none⟩ (.slice none 0 0)).setCell ⟨E, 0, none⟩ (.int .i64 160)).heap[E]? = some (.cells #[.int .i64 160] 26 (0, 0)) := by simpa using blk_set k2 0 (.int .i64 160)
  have k4 : ((w1.setCell ⟨D, 0, none⟩ (.slice none 0 0)).setCell ⟨E, 0, none⟩ (.int .i64 160)).heap[D]? = some (.cells #[.slice none 0 0] 23 (0, 0)) := blk_far k1 (p := ⟨E, 0, none⟩) hne _
  have k5 : Mod (fun q => q = D ∨ q = E) w ((w1.setCell ⟨D, 0, none⟩ (.slice none 0 0)).setCell ⟨E, 0, none⟩ (.int .i64 160)) := ((Mod.of_below hb1.out).setCell (p := ⟨D, 0, none⟩) (.inl (.inl rfl)) _).setCell (p := ⟨E, 0, none⟩) (.inl (.inr rfl)) _
  clear hD hE hD1 hE1 d1 d2 f1 f2
  cases c₀
  simp_all [bodyPostS, results, Try.results33]
end Go.Proofs.Ythbjgcmbbdlfkaa
