/- Going over a contact's fields: the contract of the iterator. -/
import Derived.Test.YtbocbaakknkfiaaMe
set_option linter.unusedVariables false
set_option linter.unusedSimpArgs false
namespace Go.Proofs.Ytbocbaakknkfiaa
open Go.RowKit Go.Shelf Go.Proofs.YtbocbaakknkfiaaW.PrintWords Go.Proofs.YtbocbaakknkfiaaW.PrintMore Go.Proofs.YtbocbaakknkfiaaW.PrintLast
attribute [local go_sem] Oper.semAt_some

/-- What is handed to yield of field i. -/
abbrev encF (V : Nat → Value) (i : Fin 8) : Array Value := #[.int .i64 (i.val : Int), V i.val]
/-- The first k fields. -/
def firstF (k : Nat) : List (Fin 8) := (List.finRange 8).take k
theorem firstF_next (k : Nat) (h : k < 8) : firstF k ++ [⟨k, h⟩] = firstF (k + 1) := by
  unfold firstF
  rw [List.take_succ_eq_append_getElem (by simpa using h)]
  simp
theorem firstF_all : firstF 8 = List.finRange 8 := by
  unfold firstF; exact List.take_of_length_le (by simp)
theorem firstF_length (k : Nat) (h : k ≤ 8) : (firstF k).length = k := by simp [firstF]; omega
theorem slice_add (B i : Nat) : (⟨B, 0, none⟩ : Addr).add i = ⟨B, i, none⟩ := by rw [add_plain]
set_option maxRecDepth 100000 in
set_option maxHeartbeats 1000000 in
theorem all1_in (F : Fence) (n : Nat) (h47 : F.fn 47) (hro : F.round = none) (hn : 1 ≤ n) (l Bn B : Nat) (w0 : World) (V : Nat → Value) (J Jx : List (Fin 8) → World → Prop)
    (hY : ∀ pre x W, J pre W → pre.length < 8 → YieldAt F (n - 1) Try.prog l (encF V x) W fun e W' =>
      (e = .returned (.bool true) ∧ J (pre ++ [x]) W' ∧ Below w0.heap.size W W') ∨ (e = .returned (.bool false) ∧ Jx (pre ++ [x]) W'))
    (W : World) (hBn : W.cell? ⟨Bn, 0, none⟩ = some (.slice (some ⟨B, 0, none⟩) 8 8)) (hV : ∀ i, i < 8 → w0.cell? ⟨B, i, none⟩ = some (V i)) (hB : Below w0.heap.size w0 W) (h0 : J [] W) :
    CallsIn F n Try.prog 47 #[.func (.yield l) #[] #[], .pointer (some ⟨Bn, 0, none⟩)] W fun e W' => (∃ v, e = .returned v) ∧
      ((∃ ys, ys = List.finRange 8 ∧ J ys W') ∨ (∃ pre, True ∧ Jx pre W')) := by
  refine callsIn_of_wp Try.func47 rfl h47 ?_ hro
  simp only [Try.ntmps47, List.size_toArray, List.length_cons, List.length_nil, Nat.reduceAdd, Nat.reduceSub, Array.replicate_succ, Array.replicate_zero, List.push_toArray, List.append_toArray, List.nil_append, List.cons_append]
  have hV := Aside0.mk hV
  gi_wp2
  gi_loopw [7] (fun s7 wr => ∃ k : Nat, k ≤ 8 ∧ s7 = .int .i64 k ∧ Aside0 (Below w0.heap.size w0 wr) ∧ Aside0 (J (firstF k) wr)) (fun s7 _ => 8 - (intOf s7).toNat)
  case atStart =>
    exact ⟨0, by omega, rfl, ⟨hB⟩, ⟨h0⟩⟩
  case round =>
    obtain ⟨k, hk, rfl, hB1, hJ1⟩ := hrel
    by_cases hlt : k < 8
    · have hdk : decide ((k : Int) < 8) = true := by simp; omega
      have hcell := hV.out k hlt
      have hnx := Aside0.mk (firstF_next k hlt)
      have hln := Aside0.mk (firstF_length k hk)
      replace hcell := (hB1.out.cell (World.block_lt_of_cell? w0 _ hcell)).trans hcell
      have i1 : (0 : Int) ≤ (k : Int) := by omega
      have i2 : (k : Int) < 8 := by omega
      obtain ⟨fn, tmps, assign, body, hy, hR⟩ := hY _ ⟨k, hlt⟩ wr hJ1.out (by rw [hln.out]; exact hlt)
      simp only [encF] at hy
      gi_wp2
      refine hR.mono ?_
      rintro e W3 (⟨rfl, hJ3, hk3⟩ | ⟨rfl, hJx3⟩)
      · have hJ3 := Aside0.mk hJ3
        have hk3 := Aside0.mk hk3
        gi_wp2
        go_roundw
        case rel => exact ⟨k + 1, by omega, by go_num, ⟨hB1.out.trans hk3.out⟩, ⟨by rw [← hnx.out]; exact hJ3.out⟩⟩
        case measure => simp [intOf]; omega
      · have hJx3 := Aside0.mk hJx3
        gi_wp2
        refine bodyPost_ret (results_none rfl _ _ _) rfl ?_
        exact ⟨⟨_, rfl⟩, .inr ⟨_, trivial, hJx3.out⟩⟩
    · obtain rfl : k = 8 := by omega
      gi_wp2
      go_end0
      exact ⟨⟨_, rfl⟩, .inl ⟨_, rfl, by rw [← firstF_all]; exact hJ1.out⟩⟩
theorem all1_stops (F : Fence) (n : Nat) (h47 : F.fn 47) (hro : F.round = none) (hn : 1 ≤ n) (Bn B : Nat) (w0 : World) (V : Nat → Value) (w : World)
    (hBn : w.cell? ⟨Bn, 0, none⟩ = some (.slice (some ⟨B, 0, none⟩) 8 8)) (hlt : Bn < w.heap.size) (hV : ∀ i, i < 8 → w0.cell? ⟨B, i, none⟩ = some (V i)) (hB : Below w0.heap.size w0 w) :
    SeqStopsK F n Try.prog 47 #[.pointer (some ⟨Bn, 0, none⟩)] (encF V) (Below w0.heap.size) (fun xs => xs = List.finRange 8) (fun _ => True) 8 w :=
  fun l J Jx W hW _ _ hY h0 => all1_in F n h47 hro hn l Bn B w0 V J Jx hY W ((hW.cell hlt).trans hBn) hV (hB.trans (hW.mono hB.size)) h0
end Go.Proofs.Ytbocbaakknkfiaa
