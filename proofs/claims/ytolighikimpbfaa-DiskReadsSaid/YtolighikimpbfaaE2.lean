/- DiskCrash, walked. -/
import Derived.Test.YtolighikimpbfaaE1
set_option linter.unusedVariables false
set_option linter.unusedSimpArgs false
namespace Go.Proofs.Ytolighikimpbfaa
open Go.RowKit Go.Shelf Go.Proofs.YtolighikimpbfaaW.PrintWords Go.Proofs.YtolighikimpbfaaW.PrintMore

theorem R_falses (w : World) (m : Nat) (hm : m ≤ 9223372036854775807) :
    Kd.bool.R 4 (w.alloc (.cells (madeCells #[.bool false] m) 4)) 0 (fun q => q = w.heap.size) (.slice (some ⟨w.heap.size, 0, none⟩) m m) (List.replicate m false) :=
  Kd.R_of_own (own_made_of' (enc := Value.bool) w 0 4 m (Nat.zero_le _) hm) (fun k hk => by simp [Value.ownBlock] at hk; exact hk.symm)
theorem CL.sync {w0 wr w2 w3 : World} {B m g k gT capT : Nat} {ds : DS} {v9 v : Value} {T : List Bool} {O : Nat → Prop} (h : CL w0 B m wr g k ds v9 gT capT T O) (ho : Own O w2 g ds.synced) (hs : Stays O wr w2) (hf : Fine ds.synced)
    (hb : Below w2.heap.size w2 w3) (hv : u8.R 5 w3 0 (fun q => w2.heap.size ≤ q) v (toI ds.now)) (hm : m ≤ 262144) (k' : Nat) (hk : ds.done + 1 ≤ k') :
    ∃ O', CL w0 B m (w3.alloc (.cells (madeCells #[.bool false] m) 4)) g k' ds.synced v w3.heap.size m (List.replicate m false) O' := by
  have hB : B ≤ wr.heap.size := by have := h.bd gT h.og; have := h.bg; omega
  have hb2 := below_alloc hb (.cells (madeCells #[.bool false] m) 4)
  have hz1 := hs.size
  have hz2 := hb.size
  have hz3 : (w3.alloc (.cells (madeCells #[.bool false] m) 4)).heap.size = w3.heap.size + 1 := by simp
  refine ⟨fun q => O q ∨ (w2.heap.size ≤ q ∧ q < (w3.alloc (.cells (madeCells #[.bool false] m) 4)).heap.size), (ho.add hb2).weaken (fun q hq => hq.imp id (fun h => h.1)), ?_, fun q hq => .inl (h.lo q hq), ?_, ?_, R_falses w3 m (by omega), .inr ⟨hz2, by omega⟩, by omega, hf, rfl, hk, Nat.zero_le _, h.len, by simp⟩
  · rintro q (hq | hq)
    · have := h.bd q hq; omega
    · exact hq.2
  · exact h.bel.trans ((hs.below h.lo hB).trans (hb2.mono (by omega)))
  · have hv2 := R_mod (Kd.R_bound hv) ((Mod.refl (fun _ => False) w3).alloc (.cells (madeCells #[.bool false] m) 4)) (fun _ _ h => h)
    exact Kd.R_mono hv2 (fun q hq => ⟨.inr ⟨hq.1, by have := hq.2.2.1; omega⟩, by have := hq.2.2.1; omega⟩)
set_option maxRecDepth 20000 in
set_option maxHeartbeats 4000000 in
theorem diskCrash_few (size x y : Int) (A : Option Addr) (c : Nat) (l : List Act) (w : World) (hC : ak.C w A l.length (encAs l)) (hlc : l.length ≤ c) (hno : decide (Few size l) = false) :
    Calls Try.prog 3 #[.int .i64 size, .slice A l.length c, .agg #[.int .i64 x, .int .i64 y]] w fun e w' => e = .returned (.bool true) ∧ Below w.heap.size w w' := by
  have hb := below_alloc (Below.refl w.heap.size w) (.cells #[.int .i64 x, .int .i64 y] 24)
  have hf := few_calls size A c l _ (Kd.C_below hC hb) hlc
  rw [hno] at hf
  have hf := Aside0.mk hf
  have hb := Aside0.mk hb
  have hk := Aside0.mk (known_calls (w.alloc (.cells #[.int .i64 x, .int .i64 y] 24)))
  clear hC hlc
  generalize l.length = M at *
  go_enter Try.func3, Try.ntmps3
  go_wp2_with (first | (go_at_call 9; refine hf.out.mono ?_; rintro e w' ⟨rfl, rfl⟩) | (go_at_call 10; refine hk.out.mono ?_; rintro e w' ⟨rfl, hb2⟩; replace hb2 := Aside0.mk hb2))
  go_ret
  exact ⟨rfl, hb.out.trans (hb2.out.mono hb.out.size)⟩
set_option maxRecDepth 20000 in
set_option maxHeartbeats 4000000 in
theorem diskCrash_none (size x y : Int) (A : Option Addr) (c : Nat) (l : List Act) (w : World) (hC : ak.C w A l.length (encAs l)) (hlc : l.length ≤ c) (hyes : decide (Few size l) = true) (hs : size < 1) :
    Calls Try.prog 3 #[.int .i64 size, .slice A l.length c, .agg #[.int .i64 x, .int .i64 y]] w fun e w' => e = .returned (.bool true) ∧ Below w.heap.size w w' := by
  have hb := below_alloc (Below.refl w.heap.size w) (.cells #[.int .i64 x, .int .i64 y] 24)
  have hf := few_calls size A c l _ (Kd.C_below hC hb) hlc
  rw [hyes] at hf
  have hf := Aside0.mk hf
  have hb := Aside0.mk hb
  have hk := Aside0.mk (known_calls (w.alloc (.cells #[.int .i64 x, .int .i64 y] 24)))
  have hn := Aside0.mk (new_no size (.inl hs) (w.alloc (.cells #[.int .i64 x, .int .i64 y] 24)))
  clear hC hlc hs
  generalize l.length = M at *
  go_enter Try.func3, Try.ntmps3
  go_wp2_with (first | (go_at_call 9; refine hf.out.mono ?_; rintro e w' ⟨rfl, rfl⟩) | (go_at_call 11; refine hn.out.mono ?_; rintro e w' ⟨rfl, rfl⟩) | (go_at_call 10; refine hk.out.mono ?_; rintro e w' ⟨rfl, hb2⟩; replace hb2 := Aside0.mk hb2))
  go_ret
  exact ⟨rfl, hb.out.trans (hb2.out.mono hb.out.size)⟩
set_option maxRecDepth 20000 in
set_option maxHeartbeats 4000000 in
theorem diskCrash_go (m : Nat) (x y : Int) (A : Option Addr) (c : Nat) (l : List Act) (w : World) (hC : ak.C w A l.length (encAs l)) (hlc : l.length ≤ c) (hyes : decide (Few (m : Int) l) = true) (hm : 1 ≤ m)
    (hx : -9223372036854775808 ≤ x ∧ x ≤ 9223372036854775807) (hy : -9223372036854775808 ≤ y ∧ y ≤ 9223372036854775807) (hok : ∀ a ∈ l, a.Ok) :
    Calls Try.prog 3 #[.int .i64 (m : Int), .slice A l.length c, .agg #[.int .i64 x, .int .i64 y]] w fun e w' => e = .returned (.bool true) ∧ Below w.heap.size w w' := by
  have hb := below_alloc (Below.refl w.heap.size w) (.cells #[.int .i64 x, .int .i64 y] 24)
  have hf := few_calls m A c l _ (Kd.C_below hC hb) hlc
  rw [hyes] at hf
  have hfew := of_decide_eq_true hyes
  have hm3 : m ≤ 300 := by have := hfew.1; omega
  have hM40 := hfew.2.1
  have hb100 := Aside0.mk hfew.2.2
  obtain ⟨M, hM⟩ : ∃ M, l.length = M := ⟨_, rfl⟩
  replace hC := Aside0.mk hC
  replace hf := Aside0.mk hf
  replace hb := Aside0.mk hb
  replace hok := Aside0.mk hok
  have H1 := Aside0.mk (Go.heap_alloc_new w (.cells #[.int .i64 x, .int .i64 y] 24))
  have hn := Aside0.mk (new_own m hm (by omega) (w.alloc (.cells #[.int .i64 x, .int .i64 y] 24)))
  have hmk := print_make (P := Try.prog) 31 5 .u8 1 Try.underlying31 info5 (by decide) m (by omega)
  have hmkb := print_make_of (P := Try.prog) 32 4 (.bool false) 1 Try.underlying32 info4 rfl (by decide) m (by omega)
  rw [hM] at hf hM40 hlc ⊢
  replace hM := Aside0.mk hM
  go_enter Try.func3, Try.ntmps3
  go_wp2_with (first | (go_at_call 9; refine hf.out.mono ?_; rintro e w' ⟨rfl, rfl⟩) | (go_at_call 11; refine hn.out.mono ?_; rintro e w1 ⟨g, rfl, ho1, hb1⟩; replace ho1 := Aside0.mk ho1; replace hb1 := Aside0.mk hb1))
  obtain ⟨wb, hwb⟩ : ∃ wb, w.alloc (.cells #[.int .i64 x, .int .i64 y] 24) = wb := ⟨_, rfl⟩
  obtain ⟨pc, hpc⟩ : ∃ pc, w.heap.size = pc := ⟨_, rfl⟩
  rw [hwb] at hb H1 ho1 hb1
  rw [hpc] at hb H1 ⊢
  have hsb : wb.heap.size = pc + 1 := by rw [← hwb, ← hpc]; simp
  clear hf hn
  have hz1 := hb1.out.size
  have r9 := R_mod (R_zeros w1 m (by omega)) ((Mod.refl (fun _ => False) _).alloc (.cells (madeCells #[.bool false] m) 4)) (fun _ _ h => h)
  have rT := R_falses (w1.alloc (.cells (madeCells #[Value.int .u8 0] m) 5)) m (by omega)
  have hbW := below_alloc (below_alloc (Below.refl w1.heap.size w1) (.cells (madeCells #[Value.int .u8 0] m) 5)) (.cells (madeCells #[.bool false] m) 4)
  have hsW : ((w1.alloc (.cells (madeCells #[Value.int .u8 0] m) 5)).alloc (.cells (madeCells #[.bool false] m) 4)).heap.size = w1.heap.size + 2 := by simp
  rw [World.size_alloc] at rT
  obtain ⟨W0, hW0⟩ : ∃ W0, (w1.alloc (.cells (madeCells #[Value.int .u8 0] m) 5)).alloc (.cells (madeCells #[.bool false] m) 4) = W0 := ⟨_, rfl⟩
  rw [hW0] at r9 rT hbW hsW ⊢
  have hcl0 : Aside0 (∃ O, CL wb (pc + 1) m W0 g 0 (fresh m) (.slice (some ⟨w1.heap.size, 0, none⟩) m m) (w1.heap.size + 1) m (List.replicate m false) O) := by
    refine Aside0.mk ⟨fun q => q < pc + 1 ∨ (w1.heap.size ≤ q ∧ q < W0.heap.size), ?_, ?_, fun q hq => .inl hq, ?_, ?_, rT, .inr ⟨by omega, by omega⟩, by omega, fine_fresh m (by omega), std_fresh m, by show (0 : Int) ≤ _; omega, Nat.zero_le _, by simp [fresh], by simp⟩
    · exact (ho1.out.add hbW).weaken (fun q hq => hq.imp (fun h => by rw [hsb]; exact h) (fun h => h.1))
    · rintro q (hq | hq) <;> omega
    · exact hsb ▸ below_then hb1.out hz1 hbW
    · exact Kd.R_mono r9 (fun q hq => ⟨.inr ⟨by omega, by omega⟩, by omega⟩)
  have ht0 : Aside0 (Touched (fresh m) (List.replicate m false)) := Aside0.mk (touched_fresh _ _)
  clear r9 rT hbW hsW hW0 hz1 ho1 hb1
  generalize w1.heap.size = g9 at *
  go_loopw [9, 10, 11] (fun s9 s10 s11 wr => ∃ (k : Nat) (ds : DS) (gT capT : Nat) (T : List Bool), k ≤ M ∧ s11 = .int .i64 k ∧ s10 = .slice (some ⟨gT, 0, none⟩) m capT ∧ Aside0 (∃ O, CL wb (pc + 1) m wr g k ds s9 gT capT T O) ∧ Aside0 (Touched ds T)) (fun _ _ s11 _ => M - (intOf s11).toNat)
  case atStart => exact ⟨0, fresh m, _, _, _, Nat.zero_le _, rfl, rfl, hcl0, ht0⟩
  case round =>
    clear hcl0 ht0
    obtain ⟨k, ds, gT, capT, T, hk, rfl, rfl, hcl, ht⟩ := hrel
    by_cases hlt : k < M
    · obtain ⟨O, hcl⟩ := hcl.out
      have hbwr : Below w.heap.size w wr := hpc ▸ hb.out.trans (hcl.bel.mono (by omega))
      have hkw : k < l.length := by rw [hM.out]; exact hlt
      obtain ⟨ad, A2, c2, e, hlc2, hC2, P0, O0, sp, hak, p0, p1, p2, p3, p4, p5⟩ := act_at hC.out k hkw
      subst e
      have htok := hok.out l[k] (List.getElem_mem hkw)
      have htb := hb100.out l[k] (List.getElem_mem hkw)
      obtain ⟨t, hx⟩ : ∃ t, l[k] = t := ⟨_, rfl⟩
      rw [hx] at hlc2 hC2 p0 p1 p2 p3 p4 p5 htok htb
      clear hx hkw
      have p0 := pw_cell_below hbwr p0
      have p1 := pw_cell_below hbwr p1
      have p2 := pw_cell_below hbwr p2
      have p3 := pw_cell_below hbwr p3
      have p4 := pw_cell_below hbwr p4
      have p5 := pw_cell_below hbwr p5
      have HA := Go.heap_alloc_new wr (.cells #[.int .i64 t.kind, .int .i64 t.at_, .int .i64 t.n, .slice A2 t.b.length c2, .int .i64 t.keep, .int .i64 t.torn] 34)
      have hbA := below_alloc (Below.refl wr.heap.size wr) (.cells #[.int .i64 t.kind, .int .i64 t.at_, .int .i64 t.n, .slice A2 t.b.length c2, .int .i64 t.keep, .int .i64 t.torn] 34)
      have hclA := hcl.grow hbA
      have hpO : (fun q => O q ∨ (wr.heap.size ≤ q ∧ q < (wr.alloc (.cells #[.int .i64 t.kind, .int .i64 t.at_, .int .i64 t.n, .slice A2 t.b.length c2, .int .i64 t.keep, .int .i64 t.torn] 34)).heap.size)) wr.heap.size := .inr ⟨Nat.le_refl _, by simp⟩
      have hwO : ∀ q, q < w.heap.size → (fun q => O q ∨ (wr.heap.size ≤ q ∧ q < (wr.alloc (.cells #[.int .i64 t.kind, .int .i64 t.at_, .int .i64 t.n, .slice A2 t.b.length c2, .int .i64 t.keep, .int .i64 t.torn] 34)).heap.size)) q := fun q hq => .inl (hcl.lo q (by omega))
      have hCA := F_came hC2 (hbwr.trans (hbA.mono hbwr.size))
      have htg : gT ≠ wr.heap.size := by have := hcl.bd gT hcl.og; omega
      obtain ⟨WA, hWA⟩ : ∃ WA, wr.alloc (.cells #[.int .i64 t.kind, .int .i64 t.at_, .int .i64 t.n, .slice A2 t.b.length c2, .int .i64 t.keep, .int .i64 t.torn] 34) = WA := ⟨_, rfl⟩
      obtain ⟨pa, hpa⟩ : ∃ pa, wr.heap.size = pa := ⟨_, rfl⟩
      have hclA : Aside0 _ := Aside0.mk hclA
      have hpO := Aside0.mk hpO
      have hwO := Aside0.mk hwO
      have hCA := Aside0.mk hCA
      have HA := Aside0.mk HA
      rw [hWA] at hclA hpO hwO hCA HA
      rw [hpa] at hclA hpO hwO HA htg
      generalize (fun q => O q ∨ (pa ≤ q ∧ q < WA.heap.size)) = OA at hclA hpO hwO
      have q0 : WA.cell? ⟨pa, 0, none⟩ = some (.int .i64 t.kind) := (cell_of_row _ _ _ _ _ _ HA.out).trans rfl
      have q1 : WA.cell? ⟨pa, 1, none⟩ = some (.int .i64 t.at_) := (cell_of_row _ _ _ _ _ _ HA.out).trans rfl
      have q2 : WA.cell? ⟨pa, 2, none⟩ = some (.int .i64 t.n) := (cell_of_row _ _ _ _ _ _ HA.out).trans rfl
      have q3 : WA.cell? ⟨pa, 3, none⟩ = some (.slice A2 t.b.length c2) := (cell_of_row _ _ _ _ _ _ HA.out).trans rfl
      have hpl : pa < WA.heap.size := hclA.out.bd pa hpO.out
      have hdone := hclA.out.done
      have hwai := hclA.out.wai
      clear hcl hbwr hC2 hbA
      by_cases h1 : t.kind = 1
      · have d1 : (t.kind == 1) = true := by simpa using h1
        clear h1
        have hw := Aside0.mk (write_own hclA.out.own hclA.out.bd hclA.out.fine t.at_ A2 c2 t.b (by omega) _ hCA.out hwO.out)
        have hf2 := Aside0.mk (fine_write hclA.out.fine (by omega) (by omega) t.at_ t.b)
        go_wp2_with fail
        refine hw.out.mono ?_
        rintro e w2 ⟨rfl, ho2, hs2⟩
        have hwd := write_done ds t.at_ t.b
        have hcl2 := Aside0.mk (hclA.out.op ho2 hs2 hf2.out (std_write hclA.out.std t.at_ t.b) (write_lasts ds t.at_ t.b) (write_length ds t.at_ t.b) (k + 1) (by omega) (by omega))
        have H2 := Aside0.mk ((Stays.blk hs2 hpO.out hpl).trans HA.out)
        clear hwd hw
        by_cases hz : (ds.write t.at_ t.b).2 = 0
        · obtain ⟨ha0, ha1, hwr⟩ := write_ok hz
          have hlen := hclA.out.len
          rw [hlen] at ha1
          have hd2 : ((ds.write t.at_ t.b).2 == 0) = true := by simpa using hz
          obtain ⟨a0, ha⟩ := Int.eq_ofNat_of_zero_le ha0
          have hm0 : Aside0 ((∀ p : Nat, T[p]? = some true → T[p]? = some true) ∧ ∀ p : Nat, a0 ≤ p → p < a0 + 0 → T[p]? = some true) := Aside0.mk ⟨fun _ h => h, fun p h1 h2 => by omega⟩
          have hwr := Aside0.mk hwr
          have ha := Aside0.mk ha
          rw [hz]
          clear q0 q1 q2 q3 p0 p1 p2 p3 p4 p5 hs2 ho2 hz
          go_wp2_with fail
          go_loopw [13] (fun s13 wr2 => ∃ (j : Nat) (T2 : List Bool), j ≤ t.b.length ∧ s13 = .int .i64 j ∧ Aside0 (CL wb (pc + 1) m wr2 g (k + 1) (ds.write t.at_ t.b).1 u9 gT capT T2 OA) ∧ Aside0 (wr2.heap[pa]? = some (.cells #[.int .i64 t.kind, .int .i64 t.at_, .int .i64 t.n, .slice A2 t.b.length c2, .int .i64 t.keep, .int .i64 t.torn] 34)) ∧
            Aside0 ((∀ p : Nat, T[p]? = some true → T2[p]? = some true) ∧ ∀ p : Nat, a0 ≤ p → p < a0 + j → T2[p]? = some true)) (fun s13 _ => t.b.length - (intOf s13).toNat)
          case atStart => exact ⟨0, T, Nat.zero_le _, rfl, hcl2, H2, hm0⟩
          case round =>
            clear hcl2 H2 hm0
            obtain ⟨j, T2, hj, rfl, hcl2, H2, hmk2⟩ := hrel
            have r1 : wr.cell? ⟨pa, 1, none⟩ = some (.int .i64 (a0 : Int)) := by
              have h9 : wr.cell? ⟨pa, 1, none⟩ = some (.int .i64 t.at_) := (cell_of_row _ _ _ _ _ _ H2.out).trans rfl
              rw [ha.out] at h9
              exact h9
            have r3 : wr.cell? ⟨pa, 3, none⟩ = some (.slice A2 t.b.length c2) := (cell_of_row _ _ _ _ _ _ H2.out).trans rfl
            by_cases hjl : j < t.b.length
            · have hij : a0 + j < m := by have := ha.out; omega
              obtain ⟨cT, fT⟩ := Kd.R_celln false hcl2.out.row ((a0 + j : Nat) : Int) (by omega) (by omega)
              rw [Int.toNat_natCast] at cT fT
              have hcl3 := Aside0.mk (hcl2.out.mark (a0 + j))
              have H3 := Aside0.mk ((Below.heap_setCell wr ⟨gT, a0 + j, none⟩ (.bool true) pa (fun e => htg (e ▸ rfl))).trans H2.out)
              have hmk3 : Aside0 ((∀ p : Nat, T[p]? = some true → (T2.set (a0 + j) true)[p]? = some true) ∧ ∀ p : Nat, a0 ≤ p → p < a0 + (j + 1) → (T2.set (a0 + j) true)[p]? = some true) := Aside0.mk (by
                have hl2 := hcl2.out.tl
                refine ⟨fun p hp => ?_, fun p hp1 hp2 => ?_⟩
                · by_cases e : a0 + j = p
                  · subst e; rw [List.getElem?_set_self (by omega)]
                  · rw [List.getElem?_set_ne e]; exact hmk2.out.1 p hp
                · by_cases e : a0 + j = p
                  · subst e; rw [List.getElem?_set_self (by omega)]
                  · rw [List.getElem?_set_ne e]; exact hmk2.out.2 p hp1 (by omega))
              go_wp2_with fail
              go_roundw
              case rel => exact ⟨j + 1, _, by omega, by go_num, hcl3, H3, hmk3⟩
              case measure => simp [intOf]; omega
            · have hjj : j = t.b.length := by omega
              subst hjj
              go_wp2_with fail
              go_roundw
              case rel =>
                refine ⟨k + 1, _, _, _, T2, by omega, by go_num, rfl, Aside0.mk ⟨OA, hcl2.out⟩, Aside0.mk ?_⟩
                rw [hwr.out]
                intro z hz i hi1 hi2
                rcases List.mem_append.1 hz with hz | hz
                · exact hmk2.out.1 i (ht.out z hz i hi1 hi2)
                · simp only [List.mem_singleton] at hz
                  subst hz
                  have e2 : t.at_.toNat = a0 := by rw [ha.out]; rfl
                  exact hmk2.out.2 i (by rw [← e2]; exact hi1) (by rw [← e2]; exact hi2)
              case measure => simp [intOf]; omega
        · have hd2 : ((ds.write t.at_ t.b).2 == 0) = false := by simpa using hz
          have hwb := write_bad hz
          rw [hwb] at hcl2
          clear q0 q1 q2 q3 p0 p1 p2 p3 p4 p5 hs2 ho2 hz hwb
          go_wp2_with fail
          go_roundw
          case rel => exact ⟨k + 1, _, _, _, T, by omega, by go_num, rfl, Aside0.mk ⟨OA, hcl2.out⟩, ht⟩
          case measure => simp [intOf]; omega
      have d1 : (t.kind == 1) = false := by simpa using h1
      by_cases h2 : t.kind = 2
      · have d2 : (t.kind == 2) = true := by simpa using h2
        clear h1 h2
        have hw := Aside0.mk (sync_own hclA.out.own hclA.out.bd hclA.out.fine)
        have hf2 := Aside0.mk (fine_sync hclA.out.fine (by omega))
        go_wp2_with fail
        refine hw.out.mono ?_
        rintro e w2 ⟨rfl, ho2, hs2⟩
        have hwd := sync_done ds
        by_cases hz : ds.sync.2 = 0
        · have hd2 : (ds.sync.2 == 0) = true := by simpa using hz
          rw [hz]
          have hsy := sync_ok hz
          rw [hsy] at ho2 hf2 hwd
          have hrd := Aside0.mk (readall_own ho2 hf2.out.len m hclA.out.len)
          have ho2 := Aside0.mk ho2
          have hs2 := Aside0.mk hs2
          have ht2 : Aside0 (Touched ds.synced (List.replicate m false)) := Aside0.mk (fun z hz => by cases hz)
          clear q0 q1 q2 q3 p0 p1 p2 p3 p4 p5 hz hsy
          go_wp2_with fail
          refine hrd.out.mono ?_
          rintro e w3 ⟨v, rfl, hv3, hb3⟩
          have hcl3 := Aside0.mk (hclA.out.sync ho2.out hs2.out hf2.out hb3 hv3 (by omega) (k + 1) (by omega))
          clear hv3 hb3
          go_wp2_with fail
          go_roundw
          case rel => exact ⟨k + 1, _, _, _, _, by omega, by go_num, rfl, hcl3, ht2⟩
          case measure => simp [intOf]; omega
        · have hd2 : (ds.sync.2 == 0) = false := by simpa using hz
          have hsy := sync_bad hz
          rw [hsy] at ho2
          have hcl2 := Aside0.mk (hclA.out.op ho2 hs2 hclA.out.fine hclA.out.std rfl rfl (k + 1) (by omega) (by omega))
          clear q0 q1 q2 q3 p0 p1 p2 p3 p4 p5 hs2 ho2 hz hsy
          go_wp2_with fail
          go_roundw
          case rel => exact ⟨k + 1, _, _, _, T, by omega, by go_num, rfl, Aside0.mk ⟨OA, hcl2.out⟩, ht⟩
          case measure => simp [intOf]; omega
      have d2 : (t.kind == 2) = false := by simpa using h2
      by_cases h3 : t.kind = 3
      · have d3 : (t.kind == 3) = true := by simpa using h3
        clear h1 h2 h3
        have hw := Aside0.mk (arm_own hclA.out.own t.n)
        have hf2 := Aside0.mk (fine_arm hclA.out.fine t.n htok.n.2)
        go_wp2_with fail
        refine hw.out.mono ?_
        rintro e w2 ⟨rfl, ho2, hs2⟩
        have hcl2 := Aside0.mk (hclA.out.op ho2 hs2 hf2.out (std_arm hclA.out.std t.n) rfl rfl (k + 1) (show ds.done ≤ _ by omega) (show ds.waits.length ≤ _ by omega))
        clear q0 q1 q2 q3 p0 p1 p2 p3 p4 p5 hs2 ho2
        go_wp2_with fail
        go_roundw
        case rel => exact ⟨k + 1, _, _, _, T, by omega, by go_num, rfl, Aside0.mk ⟨OA, hcl2.out⟩, ht⟩
        case measure => simp [intOf]; omega
      have d3 : (t.kind == 3) = false := by simpa using h3
      by_cases h4 : t.kind = 4
      · have d4 : (t.kind == 4) = true := by simpa using h4
        clear h1 h2 h3 h4
        have hw := Aside0.mk (lim_own hclA.out.own hclA.out.fine t.n)
        have hf2 := Aside0.mk (fine_lim hclA.out.fine t.n)
        go_wp2_with fail
        refine hw.out.mono ?_
        rintro e w2 ⟨rfl, ho2, hs2⟩
        have hld := lim_done ds t.n
        have ht2 : Aside0 (Touched (ds.lim t.n).1 T) := Aside0.mk (fun z hz => ht.out z (hld.2 ▸ hz))
        have hcl2 := Aside0.mk (hclA.out.op ho2 hs2 hf2.out (std_lim hclA.out.std t.n) (lim_lasts ds t.n) (lim_length ds t.n) (k + 1) (by rw [hld.1]; omega) (by rw [hld.2]; omega))
        clear q0 q1 q2 q3 p0 p1 p2 p3 p4 p5 hs2 ho2 hld
        go_wp2_with fail
        go_roundw
        case rel => exact ⟨k + 1, _, _, _, T, by omega, by go_num, rfl, Aside0.mk ⟨OA, hcl2.out⟩, ht2⟩
        case measure => simp [intOf]; omega
      have d4 : (t.kind == 4) = false := by simpa using h4
      clear h1 h2 h3 h4
      have hcl2 := Aside0.mk (hclA.out.up (k + 1) (by omega))
      go_wp2_with fail
      go_roundw
      case rel => exact ⟨k + 1, _, _, _, T, by omega, by go_num, rfl, Aside0.mk ⟨OA, hcl2.out⟩, ht⟩
      case measure => simp [intOf]; omega
    · obtain ⟨O, hcl⟩ := hcl.out
      obtain ⟨A9, c9, rfl⟩ := Kd.R_slice hcl.last
      have hlas : ds.lasts.length = m := hcl.fine.las.trans hcl.len
      have hzr := hcl.bd gT hcl.og
      have hbg := hcl.bg
      have hrd := Aside0.mk (readall_own hcl.own hcl.fine.len m hcl.len)
      rw [toI_length, hlas] at hcl ⊢
      have hbr := hcl.bel
      have hcl := Aside0.mk hcl
      go_wp2_with fail
      refine hrd.out.mono ?_
      rintro e w2 ⟨v14, rfl, hv14, hb2⟩
      obtain ⟨A14, c14, rfl⟩ := Kd.R_slice hv14
      rw [toI_length, hcl.out.len] at hv14 ⊢
      have hz2 := hb2.size
      replace hcl := Aside0.mk (hcl.out.grow hb2)
      have hbr := hcl.out.bel
      have hc1 := Aside0.mk (crash_own hcl.out.own hcl.out.fine 0 0 (by decide) (by decide))
      replace hv14 := Aside0.mk hv14
      clear hb2
      clear hrd
      go_wp2_with fail
      refine hc1.out.mono ?_
      rintro e w3 ⟨g3, rfl, ho3, hb3⟩
      have hz3 := hb3.size
      replace hb3 := Aside0.mk hb3
      have hc2 := Aside0.mk (crash_own (hcl.out.own.below hb3.out) hcl.out.fine (-1) 0 (by decide) (by decide))
      have ho3 := Aside0.mk ho3
      clear hc1
      go_wp2_with fail
      refine hc2.out.mono ?_
      rintro e w4 ⟨g4, rfl, ho4, hb4⟩
      have hz4 := hb4.size
      have ho3 := Aside0.mk (ho3.out.below hb4)
      have hb4 := Aside0.mk (hb3.out.trans (hb4.mono (by omega)))
      have hc3 := Aside0.mk (crash_own (hcl.out.own.below hb4.out) hcl.out.fine x y hx hy)
      have ho4 := Aside0.mk ho4
      have H4 := (hb4.out.block pc (by omega)).trans ((hbr.block pc (by omega)).trans H1.out)
      have x0 : w4.cell? ⟨pc, 0, none⟩ = some (.int .i64 x) := (cell_of_row _ _ _ _ _ _ H4).trans rfl
      have x1 : w4.cell? ⟨pc, 1, none⟩ = some (.int .i64 y) := (cell_of_row _ _ _ _ _ _ H4).trans rfl
      clear hc2 H4
      go_wp2_with fail
      refine hc3.out.mono ?_
      rintro e w5 ⟨g5, rfl, ho5, hb5⟩
      have hz5 := hb5.size
      have ho3 := ho3.out.below hb5
      have ho4 := Aside0.mk (ho4.out.below hb5)
      have hb5 := Aside0.mk (hb4.out.trans (hb5.mono (by omega)))
      have hr1 := Aside0.mk (readall_own ho3 (fine_crashed hcl.out.fine 0 0).len m ((crashed_length hcl.out.fine 0 0).trans hcl.out.len))
      have ho5 := Aside0.mk ho5
      clear hc3 x0 x1 ho3
      go_wp2_with fail
      refine hr1.out.mono ?_
      rintro e w6 ⟨v6, rfl, hv6, hb6⟩
      rw [crash_none] at hv6
      obtain ⟨A6, c6, rfl⟩ := Kd.R_slice hv6
      rw [toI_length, hlas] at hv6 ⊢
      have hz6 := hb6.size
      have ho4 := ho4.out.below hb6
      have ho5 := Aside0.mk (ho5.out.below hb6)
      have hb6 := Aside0.mk (hb5.out.trans (hb6.mono (by omega)))
      have hr2 := Aside0.mk (readall_own ho4 (fine_crashed hcl.out.fine (-1) 0).len m ((crashed_length hcl.out.fine (-1) 0).trans hcl.out.len))
      have hv6 := Aside0.mk hv6
      clear hr1 ho4
      go_wp2_with fail
      refine hr2.out.mono ?_
      rintro e w7 ⟨v7, rfl, hv7, hb7⟩
      rw [crash_all hcl.out.std] at hv7
      obtain ⟨A7, c7, rfl⟩ := Kd.R_slice hv7
      rw [toI_length, hcl.out.len] at hv7 ⊢
      have hz7 := hb7.size
      have ho5 := ho5.out.below hb7
      have hv6 := Aside0.mk (R_mod hv6.out (Mod.of_below (S := fun _ => False) hb7) (fun _ _ h => h))
      have hb7 := Aside0.mk (hb6.out.trans (hb7.mono (by omega)))
      have hl8 := (crashed_length hcl.out.fine x y).trans hcl.out.len
      have hr3 := Aside0.mk (readall_own ho5 (fine_crashed hcl.out.fine x y).len m hl8)
      have hv7 := Aside0.mk hv7
      clear hr2
      have ho5 := Aside0.mk ho5
      go_wp2_with fail
      refine hr3.out.mono ?_
      rintro e w8 ⟨v8, rfl, hv8, hb8⟩
      have hl8 : (ds.crashed x y).now.length = m := hl8
      obtain ⟨g8, c8, rfl, _, _, hv8⟩ := R_form hv8 (by rw [toI_length, hl8]; omega)
      rw [toI_length, hl8] at hv8 ⊢
      have hz8 := hb8.size
      have hwa := Aside0.mk (waits_own (ho5.out.below hb8))
      have hv6 := R_mod hv6.out (Mod.of_below (S := fun _ => False) hb8) (fun _ _ h => h)
      have hv7 := R_mod hv7.out (Mod.of_below (S := fun _ => False) hb8) (fun _ _ h => h)
      have hb8 := Aside0.mk (hb7.out.trans (hb8.mono (by omega)))
      have hv14 := R_mod hv14.out (Mod.of_below (S := fun _ => False) hb8.out) (fun _ _ h => h)
      have hv9 := R_mod hcl.out.last (Mod.of_below (S := fun _ => False) hb8.out) (fun _ _ h => h)
      have hvT := R_mod hcl.out.row (Mod.of_below (S := fun _ => False) hb8.out) (fun _ _ h => h)
      have s6 := Kd.C_string (P := Try.prog) (dst := 9) (c := c6) Try.underlying31 Try.underlying5 Try.underlying9 (Kd.R_reads' hv6).2.2
      have s7 := Kd.C_string (P := Try.prog) (dst := 9) (c := c7) Try.underlying31 Try.underlying5 Try.underlying9 (Kd.R_reads' hv7).2.2
      have s14 := Kd.C_string (P := Try.prog) (dst := 9) (c := c14) Try.underlying31 Try.underlying5 Try.underlying9 (Kd.R_reads' hv14).2.2
      have s9 := Kd.C_string (P := Try.prog) (dst := 9) (c := c9) Try.underlying31 Try.underlying5 Try.underlying9 (by have h := (Kd.R_reads' hv9).2.2; exact h)
      rw [toI_length, hlas] at s6
      rw [toI_length, hcl.out.len] at s7 s14
      rw [toI_length, hlas] at s9
      generalize strOfNums (toI ds.lasts) = q1 at s6 s9
      generalize strOfNums (toI ds.now) = q2 at s7 s14
      have hv8 := Aside0.mk hv8
      have hvT := Aside0.mk hvT
      have hv9 := Aside0.mk hv9
      clear hv6 hv7 hv14
      go_wp2_with (go_at_call 18; refine hwa.out.mono ?_; rintro e w9 ⟨rfl, hb9⟩; replace hb9 := Aside0.mk hb9)
      obtain ⟨ga, ca, e9, _, _, _⟩ := R_form hv9.out (by rw [toI_length, hlas]; omega)
      injection e9 with e9 _ _
      subst e9
      have hsm : ∀ j : Nat, T[j]? = some false → rdOf 0 (toI (ds.crashed x y).now) (j : Int) = rdOf 0 (toI ds.lasts) (j : Int) := by
        intro j hj
        have h := crash_untouched hcl.out.fine ht.out x y j hj
        simp only [rdOf, Int.toNat_natCast, List.getD_eq_getElem?_getD, toI, List.getElem?_map, h]
      have hsm := Aside0.mk hsm
      have hTl := Aside0.mk hcl.out.tl
      have hb9' := Aside0.mk (Below.refl w9.heap.size w9)
      clear s6 s7 s14 s9
      go_loopw [28] (fun s28 wr => ∃ (j : Nat), j ≤ m ∧ s28 = .int .i64 j ∧ Aside0 (Below w9.heap.size w9 wr)) (fun s28 _ => m - (intOf s28).toNat)
      case atStart => exact ⟨0, Nat.zero_le _, rfl, hb9'⟩
      case round =>
        clear hb9'
        obtain ⟨j, hj, rfl, hbj⟩ := hrel
        by_cases hjm : j < m
        · have hb8w := Aside0.mk (hb9.out.trans (hbj.out.mono hb9.out.size))
          have cT := (Kd.R_celln false (R_mod hvT.out (Mod.of_below (S := fun _ => False) hb8w.out) (fun _ _ h => h)) (j : Int) (by omega) (by omega)).1
          have c8' := (Kd.R_celln 0 (R_mod hv8.out (Mod.of_below (S := fun _ => False) hb8w.out) (fun _ _ h => h)) (j : Int) (by omega) (by omega)).1
          have c9' := (Kd.R_celln 0 (R_mod hv9.out (Mod.of_below (S := fun _ => False) hb8w.out) (fun _ _ h => h)) (j : Int) (by omega) (by omega)).1
          rw [Int.toNat_natCast] at cT c8' c9'
          have hjT : j < T.length := by rw [hTl.out]; exact hjm
          have hrd : rdOf false T (j : Int) = T[j] := by simp [rdOf, List.getD_eq_getElem?_getD, hjT]
          cases hT : T[j] with
          | true =>
            rw [hrd, hT] at cT
            clear c8' c9' hrd hT
            go_wp2_with fail
            go_quiet (fail)
            go_wp2_with fail
            go_roundw
            case rel => exact ⟨j + 1, by omega, by go_num, Aside0.mk (pw_below_drewN hbj.out _)⟩
            case measure => simp [intOf]; omega
          | false =>
            have hq := hsm.out j (by rw [List.getElem?_eq_getElem hjT, hT])
            rw [hrd, hT] at cT
            rw [hq] at c8'
            generalize rdOf 0 (toI ds.lasts) (j : Int) = z at c8' c9'
            clear hrd hT hq
            go_wp2_with fail
            go_quiet (fail)
            go_wp2_with fail
            go_roundw
            case rel => exact ⟨j + 1, by omega, by go_num, Aside0.mk (pw_below_drewN hbj.out _)⟩
            case measure => simp [intOf]; omega
        · have hjj : j = m := by omega
          subst hjj
          go_wp2_with (go_at_call 10; refine (known_calls _).mono ?_; rintro e wz ⟨rfl, hbz⟩; replace hbz := Aside0.mk hbz)
          go_ret
          have k1 := hbr.size
          have k2 := hb8.out.size
          have k3 := hb9.out.size
          have k4 := hbj.out.size
          exact ⟨rfl, by rw [hpc]; exact ((((hb.out.trans (hbr.mono (by omega))).trans (hb8.out.mono (by omega))).trans (hb9.out.mono (by omega))).trans (hbj.out.mono (by omega))).trans (hbz.out.mono (by omega))⟩
end Go.Proofs.Ytolighikimpbfaa
