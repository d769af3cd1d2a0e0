/- A sum under way behind more bytes. -/
import Derived.Test.YtabejlldemhfaaaCw1
import Derived.Test.YtabejlldemhfaaaCw2
import Derived.RangeFuncFrom
import Derived.RangeFuncBox
import Derived.Test.YtabejlldemhfaaaIn
set_option linter.unusedVariables false
set_option linter.unusedSimpArgs false
namespace Go.Proofs.Ytabejlldemhfaaa
open Go.RowKit Go.Shelf Go.Proofs.YtabejlldemhfaaaW.PrintWords
attribute [local go_sem] Oper.semAt_some

/-- How many bytes. -/
def flen (l : List UInt8) : Nat := l.length
theorem flen_snoc (l : List UInt8) (b : UInt8) : flen (l ++ [b]) = flen l + 1 := by simp [flen]

theorem each1_stops (F : Fence) (n : Nat) (h24 : F.fn 24) (hro : F.round = none) (hn : 1 ≤ n) (Bn : Nat) (w0 : World) (A : Option Addr) (c : Nat) (L : List (List UInt8)) (w : World)
    (hBn : w.cell? ⟨Bn, 0, none⟩ = some (.slice A L.length c)) (hlt : Bn < w.heap.size) (hL : Parts w0 A L) (hB : Below w0.heap.size w0 w) :
    SeqStopsK F n Try.prog 24 #[.pointer (some ⟨Bn, 0, none⟩)] encB (Below w0.heap.size) (fun xs => xs = L.flatten) (fun pre => pre <+: L.flatten) L.flatten.length w :=
  fun l J Jx W hW _ _ hY h0 => each1_in F n h24 hro hn l Bn w0 A c L J Jx hY W ((hW.cell hlt).trans hBn) hL (hB.trans (hW.mono hB.size)) h0

def foldN (x : Nat) (l : List UInt8) : Nat := l.foldl (fun a b => stepN a b.toNat) x
theorem foldN_snoc (x : Nat) (l : List UInt8) (b : UInt8) : foldN x (l ++ [b]) = stepN (foldN x l) b.toNat := by simp [foldN]

theorem stepN_lt {a b : Nat} (h : a < 4294967296) (hb : b < 256) : stepN a b < 4294967296 := Tn_lt 8 (Nat.xor_lt_two_pow (n := 32) (by omega) (by omega))
theorem foldN_lt {x : Nat} (l : List UInt8) (h : x < 4294967296) : foldN x l < 4294967296 := by
  unfold foldN
  induction l generalizing x with
  | nil => exact h
  | cons b l ih => exact ih (stepN_lt h b.toNat_lt)
theorem wpListIn_store_row {F : Fence} {n : Nat} {P : Program} {w : World} {ops : Array Oper} {rest : List Oper} {o : Oper} {a : Act} {Q : Exit → Act → World → Prop}
    (hgd : o.guard = none) (ty : TypeId) (x y : Operand) (ho : o.op = .store ty x y) (g : Nat) (cells : Array Value) (hx : a.eval x = .pointer (some ⟨g, 0, none⟩)) (hy : a.eval y = .agg cells)
    (t : TypeId) (old : Array Value) (hg : w.heap[g]? = some (.cells old t (0, 0))) (hi : (P.info? ty).map (·.size) = some cells.size)
    (hold : old.size = cells.size) (h1 : cells.all (·.oneCell') = true)
    (h : wpListIn F n P ops Q rest (a.put o.dst undef) (w.setRow g cells)) : wpListIn F n P ops Q (o :: rest) a w := by
  refine wpListIn_plain hgd fun K hK' => ?_
  unfold Oper.wpIn
  refine ⟨?_, ?_⟩
  · simp [Oper.about, ho]
  · rw [Oper.semAt_plain F _ _ (by rw [ho]; intro c hc'; cases hc')]
    simp only [execOp, ho, hx, hy, Instr.storeAt, Instr.sureAddr, Sem.run_bind, Sem.run_pure, Result.andThen_ok, run_storeVar_row w g t ty old cells hg hi hold h1]
    exact hK' _ _ h

theorem blk_own {W W' : World} {row : Option Nat} {b : Nat} {cs : Array Value} {t : TypeId} {fr : Nat × Nat} (h : W.heap[b]? = some (.cells cs t fr)) (hg : W.grownBy W' row)
    (hr : ∀ r, row = some r → ∃ o : Obj, W.heap[r]? = some o ∧ o.isCells = false) : W'.heap[b]? = some (.cells cs t fr) := by
  refine (hg.block b (Array.getElem?_eq_some_iff.1 h).1 (fun e => ?_)).trans h
  obtain ⟨o, ho, hc⟩ := hr b e.symm
  rw [h] at ho
  cases ho
  cases hc

set_option maxRecDepth 100000 in
set_option maxHeartbeats 1000000 in
theorem add_calls (x m : Nat) (A : Option Addr) (c : Nat) (L : List (List UInt8)) (w : World) (hL : Parts w A L) (hx : x < 4294967296) (hm : m + flen L.flatten < 9223372036854775808) :
    Calls Try.prog 19 #[.agg #[.int .u32 (x : Int), .int .i64 (m : Int)], .slice A L.length c] w fun e w' =>
      e = .returned (.agg #[.int .u32 ((foldN x L.flatten : Nat) : Int), .int .i64 ((m + flen L.flatten : Nat) : Int)]) ∧ Below w.heap.size w w' := by
  refine (callsIn_wide (n := 5)).1 ?_
  refine callsIn_of_wp_marks Try.func19 rfl trivial ?_ rfl
  simp only [Try.ntmps19, List.size_toArray, List.length_cons, List.length_nil, Nat.reduceAdd, Nat.reduceSub, Array.replicate_succ, Array.replicate_zero, List.push_toArray, List.append_toArray, List.nil_append, List.cons_append]
  obtain ⟨hv46, hi46⟩ := zero_of_info zv46
  gi_wp2_with (first
    | (refine ⟨trivial, ?_⟩; gi_at_call 21; refine (callsIn_wide.2 (words_calls _)).mono ?_; rintro e w1 ⟨rfl, hb⟩; replace hb := Aside0.mk hb)
    | (refine ⟨trivial, ?_⟩; gi_at_call 22; refine (callsIn_wide.2 (each_calls _ _ _ _)).mono ?_; rintro e w2 ⟨rfl, rfl⟩)
    | (with_reducible refine wpListIn_store_row rfl 46 _ _ rfl w1.heap.size (cellsAt 256) rfl rfl 46 (Array.replicate 256 (.int .u32 0)) (heap_alloc_new _ _) (by rw [cellsAt_size]; exact hi46) (by rw [cellsAt_size, Array.size_replicate]) (cellsAt_one _) ?_))
  rw [World.setRow_alloc_new]
  have hbS := hb.out.size
  simp only [World.size_alloc] at hbS
  have hu1 : w1.heap[w.heap.size]? = some (.cells #[.int .u32 (x : Int), .int .i64 (m : Int)] 35 (0, 0)) := (hb.out.block _ (by simp; omega)).trans (heap_alloc2_old _ _ _)
  have hr1 : w1.heap[w.heap.size + 1]? = some (.cells #[.int .u32 0, .int .i64 0] 35 (0, 0)) := (hb.out.block _ (by simp)).trans (heap_alloc2_new _ _ _)
  have hB1 : Below w.heap.size w w1 := (((Below.refl _ w).alloc (Nat.le_refl _) _).alloc (by simp) _).trans (hb.out.mono (by simp; omega))
  obtain ⟨tb, htb⟩ : ∃ tb, w1.heap.size = tb := ⟨_, rfl⟩
  obtain ⟨w2, hw2⟩ : ∃ w2, (w1.alloc (.cells (cellsAt 256) 46)).alloc (.cells #[.slice A L.length c] 22) = w2 := ⟨_, rfl⟩
  have hs2 : w2.heap.size = tb + 2 := by rw [← hw2]; simp; omega
  have hu2 : w2.heap[w.heap.size]? = some (.cells #[.int .u32 (x : Int), .int .i64 (m : Int)] 35 (0, 0)) := by
    rw [← hw2, Below.heap_alloc _ _ _ (by simp; omega), Below.heap_alloc _ _ _ (by omega)]; exact hu1
  have hr2 : w2.heap[w.heap.size + 1]? = some (.cells #[.int .u32 0, .int .i64 0] 35 (0, 0)) := by
    rw [← hw2, Below.heap_alloc _ _ _ (by simp; omega), Below.heap_alloc _ _ _ (by omega)]; exact hr1
  have ht2 : w2.heap[tb]? = some (.cells (cellsAt 256) 46 (0, 0)) := by rw [← hw2, ← htb]; exact heap_alloc2_old _ _ _
  have hc2 : w2.cell? ⟨tb + 1, 0, none⟩ = some (.slice A L.length c) := by
    have h : w2.heap[tb + 1]? = some (.cells #[.slice A L.length c] 22 (0, 0)) := by rw [← hw2, ← htb]; exact heap_alloc2_new _ _ _
    rw [cell_of_row _ _ _ _ _ _ h]; rfl
  have hB2 : Below w.heap.size w w2 := by rw [← hw2]; exact (hB1.alloc hB1.size _).alloc (by simp; omega) _
  rw [hw2, htb]
  have htS : w.heap.size + 2 ≤ tb := by omega
  have hst := each1_stops Fence.wide (5 - 1) trivial rfl (by omega) (tb + 1) w A c L w2 hc2 (by omega) hL hB2
  clear hb hu1 hr1 hB1 hc2
  refine wpIn_rangeFunc_ownF rfl (by omega) (gf := 24) (lb := #[.pointer (some ⟨tb + 1, 0, none⟩)]) rfl trivial (enters_of Try.func24 (by kernel_rfl) rfl)
    hst belowK_t (belowK_b (by omega)) (Below.refl _ _) (fun _ => rfl)
    (fun pre W => (W.heap[w.heap.size]? = some (.cells #[.int .u32 ((foldN x pre : Nat) : Int), .int .i64 ((m + flen pre : Nat) : Int)] 35 (0, 0)) ∧
      W.heap[w.heap.size + 1]? = some (.cells #[.int .u32 0, .int .i64 0] 35 (0, 0)) ∧ W.heap[tb]? = some (.cells (cellsAt 256) 46 (0, 0))) ∧ Below w.heap.size w W)
    (fun _ _ _ => False)
    (OwnFrom.and (Own.from (fun s A B row hs hg hr => ⟨blk_own hs.1 hg hr, blk_own hs.2.1 hg hr, blk_own hs.2.2 hg hr⟩) _) (ownFrom_below (Nat.le_refl _) (by omega)))
    (fun _ _ _ _ _ hs _ _ => hs)
    ⟨⟨hu2, hr2, ht2⟩, hB2⟩
    (fun b => { tmps := #[.agg #[.int .u32 (x : Int), .int .i64 (m : Int)], .slice A L.length c, .pointer (some ⟨w.heap.size, 0, none⟩), undef, .pointer (some ⟨w.heap.size + 1, 0, none⟩), .pointer (some ⟨tb, 0, none⟩), .int .u8 (b.toNat : Int), .agg (cellsAt 256),
      .slice A L.length c, .func (.func 24) #[] #[.pointer (some ⟨tb + 1, 0, none⟩)], .int .u8 (b.toNat : Int), undef, undef, undef, undef, undef, undef, undef, undef, undef, undef, undef, undef, undef, undef, undef, undef, undef], defers := [] }) ?assign ?body ?done ?stop
  case assign =>
    intro l x W K hK
    gi_wp2
    exact hK
  case body =>
    rintro l pre b W ⟨⟨hu, hr, ht⟩, hB⟩ hlen
    clear hw2 hs2 hu2 hr2 ht2 hB2 hst htb
    obtain ⟨y, hy, hyl⟩ : ∃ y, y = foldN x pre ∧ y < 4294967296 := ⟨_, rfl, foldN_lt _ hx⟩
    obtain ⟨q, hq, hql⟩ : ∃ q, q = m + flen pre ∧ q < 9223372036854775807 := ⟨_, rfl, by unfold flen at hm ⊢; omega⟩
    rw [← hy, ← hq] at hu
    have hbl := b.toNat_lt
    have hil : y % 256 ^^^ b.toNat < 256 := Nat.xor_lt_two_pow (n := 8) (by omega) (by omega)
    obtain ⟨i, hi⟩ : ∃ i, y % 256 ^^^ b.toNat = i := ⟨_, rfl⟩
    have hx8 : bits .xor .u8 (IntKind.u8.wrap (y : Int)) (b.toNat : Int) = (i : Int) := by
      have := bits_xor_u8 (y % 256) b.toNat (by omega) (by omega)
      rw [← hi, ← this, IntKind.wrap_u8]; rfl
    rw [hi] at hil
    have c0 : W.cell? ⟨w.heap.size, 0, none⟩ = some (.int .u32 (y : Int)) := (cell_of_row _ _ _ _ _ _ hu).trans rfl
    have c1 : W.cell? ⟨w.heap.size, 1, none⟩ = some (.int .i64 (q : Int)) := (cell_of_row _ _ _ _ _ _ hu).trans rfl
    have f0 : W.frozen? ⟨w.heap.size, 0, none⟩ = false := frozen_of_row _ _ _ _ _ hu
    have f1 : W.frozen? ⟨w.heap.size, 1, none⟩ = false := frozen_of_row _ _ _ _ _ hu
    have ct : W.cell? ⟨tb, i, none⟩ = some (.int .u32 ((Tn 8 i : Nat) : Int)) := by rw [cell_of_row _ _ _ _ _ _ ht, cellsAt_at _ _ hil, if_pos hil]
    have Hy := Aside0.mk hy
    have Hq := Aside0.mk hq
    have Hi := Aside0.mk hi
    have Hu := Aside0.mk hu
    have Hr := Aside0.mk hr
    have Ht := Aside0.mk ht
    clear hy hq hi hu hr ht
    have hm' : Try.prog.follows .mixedOrders = true := by kernel_rfl
    have hil0 : 0 ≤ (i : Int) := by omega
    have hil1 : (i : Int) < 256 := by omega
    gi_wp2
    refine wpIn_region_still_tail 11 hm' (by kernel_rfl) ?hQ (by kernel_rfl) ?_
    case hQ => exact fun _ _ h => h
    simp only [List.take_succ_cons, List.take_zero, List.drop_succ_cons, List.drop_zero]
    repeat still_step
    refine wpStill_nil ?_
    change wpList _ _ _ _ _ W.drew
    go_wp2
    gi_wp2
    have hv : Value.int .u32 (bits .xor .u32 ((Tn 8 i : Nat) : Int) ((y : Int) / 256)) = .int .u32 ((foldN x (pre ++ [b]) : Nat) : Int) := by
      have h1 := bits_xor_nat (Tn 8 i) (y / 256) (Tn_lt 8 (by omega)) (by omega)
      have h2 : ((y / 256 : Nat) : Int) = (y : Int) / 256 := rfl
      rw [h2] at h1
      rw [h1, foldN_snoc, ← Hy.out, ← step_table, Hi.out]
    have hv2 : Value.int .i64 ((q : Int) + 1) = .int .i64 ((m + flen (pre ++ [b]) : Nat) : Int) := by
      rw [flen_snoc, Hq.out]; push_cast; rw [Int.add_assoc]
    rw [hv, hv2]
    refine ⟨((KeepsOthers.setCell _ _ _).trans (KeepsOthers.setCell _ _ _)).trans (KeepsOthers.drew _), (((Below.refl _ _).setCell (by simp) _).setCell (by simp) _).drew, ⟨?_, ?_, ?_⟩, ((hB.setCell (by simp) _).setCell (by simp) _).drew⟩
    · show ((W.setCell _ _).setCell _ _).heap[w.heap.size]? = _
      rw [heap_setCell_same _ _ _ _ _ _ (heap_setCell_same _ _ _ _ _ _ Hu.out)]
      rfl
    · show ((W.setCell _ _).setCell _ _).heap[w.heap.size + 1]? = _
      rw [heap_setCell_other _ _ _ _ (by simp), heap_setCell_other _ _ _ _ (by simp)]
      exact Hr.out
    · show ((W.setCell _ _).setCell _ _).heap[tb]? = _
      rw [heap_setCell_other _ _ _ _ (by simp; omega), heap_setCell_other _ _ _ _ (by simp; omega)]
      exact Ht.out
  case done =>
    rintro D ys W hD rfl ⟨⟨hu, hr, _⟩, hB⟩ hK
    have hD2 : tb + 2 ≤ D := by omega
    have c0 : W.cell? ⟨w.heap.size, 0, none⟩ = some (.int .u32 ((foldN x L.flatten : Nat) : Int)) := (cell_of_row _ _ _ _ _ _ hu).trans rfl
    have c1 : W.cell? ⟨w.heap.size, 1, none⟩ = some (.int .i64 ((m + flen L.flatten : Nat) : Int)) := (cell_of_row _ _ _ _ _ _ hu).trans rfl
    have d0 : W.cell? ⟨w.heap.size + 1, 0, none⟩ = some (.int .u32 0) := (cell_of_row _ _ _ _ _ _ hr).trans rfl
    have d1 : W.cell? ⟨w.heap.size + 1, 1, none⟩ = some (.int .i64 0) := (cell_of_row _ _ _ _ _ _ hr).trans rfl
    have f0 : W.frozen? ⟨w.heap.size + 1, 0, none⟩ = false := frozen_of_row _ _ _ _ _ hr
    have f1 : W.frozen? ⟨w.heap.size + 1, 1, none⟩ = false := frozen_of_row _ _ _ _ _ hr
    have Hr := Aside0.mk hr
    have HK := Aside0.mk hK
    clear hu hr hK hw2 hs2 hu2 hr2 ht2 hB2 hst htb
    gi_wp2
    have hrow : ((W.setCell ⟨w.heap.size + 1, 0, none⟩ (.int .u32 ((foldN x L.flatten : Nat) : Int))).setCell ⟨w.heap.size + 1, 1, none⟩ (.int .i64 ((m : Int) + (flen L.flatten : Int)))).heap[w.heap.size + 1]? =
        some (.cells #[.int .u32 ((foldN x L.flatten : Nat) : Int), .int .i64 ((m : Int) + (flen L.flatten : Int))] 35 (0, 0)) :=
      (heap_setCell_same _ _ _ _ _ _ (heap_setCell_same _ _ _ _ _ _ Hr.out)).trans rfl
    have hK2 := ((KeepsOthers.setCell W ⟨w.heap.size + 1, 0, none⟩ (.int .u32 ((foldN x L.flatten : Nat) : Int))).trans (KeepsOthers.setCell _ ⟨w.heap.size + 1, 1, none⟩ (.int .i64 ((m : Int) + (flen L.flatten : Int))))).same D _ HK.out rfl
    have hB3 := (hB.setCell (p := ⟨w.heap.size + 1, 0, none⟩) (by simp) (.int .u32 ((foldN x L.flatten : Nat) : Int))).setCell (p := ⟨w.heap.size + 1, 1, none⟩) (by simp) (.int .i64 ((m : Int) + (flen L.flatten : Int)))
    refine ⟨by simp, .inl ⟨_, _, rfl, run_takeDeferred hK2, ?_⟩⟩
    refine ⟨_, results_cell_row rfl _ _ (w.heap.size + 1) 35 _ (0, 0) _ rfl ((World.putObj_heap_other (by omega)).trans hrow) Try.underlying35 rfl (by kernel_rfl), by simp, ?_⟩
    exact hB3.trans (belowK_b (w := w) (Nat.le_refl _) _ D _ _ (by omega) hK2 rfl rfl)
  case stop =>
    rintro D c pre W _ _ h _
    exact h.elim
end Go.Proofs.Ytabejlldemhfaaa
