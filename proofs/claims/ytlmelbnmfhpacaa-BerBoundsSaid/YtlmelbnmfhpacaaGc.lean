/- slices.Grow of nothing; slices.Concat. -/
import Derived.Test.YtlmelbnmfhpacaaGb
set_option linter.unusedVariables false
set_option linter.unusedSimpArgs false
namespace Go.Proofs.Ytlmelbnmfhpacaa
open Go.RowKit Go.Shelf Go.Proofs.YtlmelbnmfhpacaaW.PrintWords Go.Proofs.YtlmelbnmfhpacaaW.PrintMore Go.Proofs.YtlmelbnmfhpacaaW.PrintLast

theorem run_grow (w : World) (ty : TypeId) (n : Nat) (h0 : 0 < n) (h1 : n ≤ 1000000) :
    (Builtin.append_ #[23, 3] ty #[.slice none 0 0, .int .i64 (n : Int)]).run Try.prog w = .ok (.slice (some ⟨w.heap.size, 0, none⟩) n (grownCap w n 0 5)) (w.drew.alloc (.cells (Builtin.zeroCells #[.int .u8 0] n ++ Builtin.zeroCells #[.int .u8 0] (grownCap w n 0 5 - n)) 5)) := by
  obtain ⟨i, hi, hz⟩ := Option.map_eq_some_iff.1 PBerEncodes.info5
  simp only [Prod.mk.injEq] at hz
  obtain ⟨hz, hs, hb⟩ := hz
  have hn : n ≠ 0 := by omega
  have hw : IntKind.i64.wrap (n : Int) = (n : Int) := by rw [IntKind.wrap_i64]; omega
  have h63 : ¬ (9223372036854775807 < (n : Int)) := by omega
  have h48 : ¬ (281474976710656 < Builtin.nextslicecap n 0 * 1) := by rw [nextslicecap_zero h0]; omega
  have h48' : ¬ (281474976710656 < (n : Int) * 1) := by omega
  have hneg : ¬ ((n : Int) < 0) := by omega
  simp [Builtin.append_, run_underlying Try.underlying23, run_underlying Try.underlying3, sizeOf, typeInfo, zeroValue, hi, hz, hs, hb, Builtin.lenOf, hn, h63, h48, hw, hneg, Question.forced, run_firstCells_none, newRow, grownCap, asInt, asIntOf]
  rw [if_neg (by omega), if_neg (by rw [nextslicecap_zero h0]; omega)]
  rfl
section
variable {ops : Array Oper} {rest : List Oper} {o : Oper} {a : Act} {Q : Exit → Act → World → Prop} {w : World}
theorem wpList_grow (hgd : o.guard = none) (s x : Operand) (ho : o.op = .call { callee := .builtin .append, args := #[s, x], argTypes := #[23, 3] }) (n : Nat) (hs : a.eval s = .slice none 0 0) (hx : a.eval x = .int .i64 (n : Int)) (h0 : 0 < n) (h1 : n ≤ 1000000)
    (h : ∀ g cap w1, w.heap.size ≤ g → kU.R 5 w1 w.heap.size (fun q => w.heap.size ≤ q) (.slice (some ⟨g, 0, none⟩) 0 cap) [] → n ≤ cap → Below w.heap.size w w1 → wpList Try.prog ops Q rest (a.put o.dst (.slice (some ⟨g, 0, none⟩) n cap)) w1) : wpList Try.prog ops Q (o :: rest) a w := by
  have hge := grownCap_ge w n 0 5
  have hle := grownCap_le_maxLen w n 0 5 (by unfold maxLen; omega)
  refine wpList_plain hgd fun K hK => ?_
  unfold Oper.wp execOp
  simp only [ho, resolve, invoke, builtin, Sem.run_bind, Sem.run_pure, Result.andThen_ok, List.map_toArray, List.map_cons, List.map_nil, hs, hx, run_grow w o.type n h0 h1]
  refine hK _ _ (h _ _ _ (Nat.le_refl _) ⟨fun k hk => ?_, [], ⟨by simp, .inr ⟨w.heap.size, _, _, rfl, Nat.le_refl _, heap_alloc_new w.drew _, Nat.zero_le _, hle, ?_, by simp⟩⟩, Reps.none _ _⟩ hge ?_)
  · simp [Value.ownBlock] at hk; omega
  · simp [Builtin.zeroCells]
    show n + (grownCap w n 0 5 - n) = grownCap w n 0 5 * 1
    omega
  · exact below_alloc (below_drew (Below.refl _ _)) _
end
set_option maxHeartbeats 1000000 in
theorem grow_calls (n : Nat) (w : World) (h0 : 0 < n) (h1 : n ≤ 1000000) : Calls Try.prog 56 #[.slice none 0 0, .int .i64 (n : Int)] w fun e w' => ∃ v, e = .returned v ∧ kU.R 5 w' w.heap.size (fun q => w.heap.size ≤ q) v [] ∧ Below w.heap.size w w' := by
  have i1 : (0 : Int) < (n : Int) := by omega
  have i2 : (n : Int) ≤ 1000000 := by omega
  go_enter Try.func56, Try.ntmps56
  go_wp2_with (refine wpList_grow rfl (.tmp 20) (.tmp 21) rfl n rfl rfl h0 h1 ?_; intro g cap w1 hg hR hcap hb; replace hR := Aside0.mk hR; replace hb := Aside0.mk hb)
  go_ret
  exact ⟨_, rfl, hR.out, hb.out⟩
/-- Some rows of bytes, their slices in a block. -/
def Srs (w : World) (b : Nat) (L : List (Option Addr × Nat × List Int)) : Prop := ∀ j (h : j < L.length), w.cell? ⟨b, j, none⟩ = some (.slice L[j].1 L[j].2.2.length L[j].2.1) ∧ kU.C w L[j].1 L[j].2.2.length L[j].2.2
theorem Srs.below {w w' : World} {b : Nat} {L : List (Option Addr × Nat × List Int)} (h : Srs w b L) (hb : Below w.heap.size w w') : Srs w' b L := fun j hj => ⟨pw_cell_below hb (h j hj).1, Kd.C_below (h j hj).2 hb⟩
/-- All bytes of the first k rows. -/
def cat (L : List (Option Addr × Nat × List Int)) (k : Nat) : List Int := (L.take k).flatMap fun x => x.2.2
theorem cat_next {L : List (Option Addr × Nat × List Int)} {k : Nat} (h : k < L.length) : cat L (k + 1) = cat L k ++ L[k].2.2 := by
  unfold cat
  rw [List.take_succ_eq_append_getElem h, List.flatMap_append]
  simp
theorem cat_le {L : List (Option Addr × Nat × List Int)} (k : Nat) : (cat L k).length ≤ (cat L L.length).length := by
  unfold cat
  rw [List.take_length]
  conv => rhs; rw [← List.take_append_drop k L]
  rw [List.flatMap_append, List.length_append]
  omega
set_option maxHeartbeats 2000000 in
theorem concat_calls (b c : Nat) (L : List (Option Addr × Nat × List Int)) (w : World) (hl : L.length ≤ 100) (h : Srs w b L) (h0 : 0 < (cat L L.length).length) (h1 : (cat L L.length).length ≤ 1000000) :
    Calls Try.prog 51 #[.slice (some ⟨b, 0, none⟩) L.length c] w fun e w' => ∃ A c', e = .returned (.slice A (cat L L.length).length c') ∧ kU.R 5 w' w.heap.size (fun q => w.heap.size ≤ q) (.slice A (cat L L.length).length c') (cat L L.length) ∧ Below w.heap.size w w' := by
  obtain ⟨M, hM⟩ : ∃ M, L.length = M := ⟨_, rfl⟩
  have hcn := Aside0.mk (fun (k : Nat) (hk : k < L.length) => cat_next hk)
  have hcl := Aside0.mk (fun (k : Nat) => cat_le (L := L) k)
  replace h := Aside0.mk h
  have h0' := Aside0.mk h0
  have h1' := Aside0.mk h1
  rw [hM] at hl h0 h1 hcl ⊢
  replace hM := Aside0.mk hM
  clear h0' h1'
  have hb0 := Aside0.mk (Below.refl w.heap.size w)
  go_enter Try.func51, Try.ntmps51
  go_wp2_with fail
  go_loopw [3, 11] (fun s3 s11 wr => ∃ k : Nat, k ≤ M ∧ s11 = .int .i64 k ∧ s3 = .int .i64 ((cat L k).length : Int) ∧ wr = w) (fun _ s11 _ => M - (intOf s11).toNat)
  case atStart => exact ⟨0, Nat.zero_le _, rfl, rfl, rfl⟩
  case round =>
    obtain ⟨k, hk, rfl, rfl, rfl⟩ := hrel
    by_cases hlt : k < M
    · have hkl : k < L.length := by rw [hM.out]; exact hlt
      obtain ⟨p0, hC⟩ := h.out k hkl
      have hnx := hcn.out k hkl
      have hle := hcl.out (k + 1)
      obtain ⟨x, hx⟩ : ∃ x, L[k] = x := ⟨_, rfl⟩
      rw [hx] at p0 hC hnx
      obtain ⟨xa, xc, xl⟩ := x
      dsimp only at p0 hC hnx
      have hlen : (cat L (k + 1)).length = (cat L k).length + xl.length := by rw [hnx, List.length_append]
      rw [hlen] at hle
      have hlen' := Aside0.mk hlen
      obtain ⟨ck, hck⟩ : ∃ ck, (cat L k).length = ck := ⟨_, rfl⟩
      rw [hck] at hle ⊢
      have hck' := Aside0.mk hck
      obtain ⟨xn, hxn⟩ : ∃ xn, xl.length = xn := ⟨_, rfl⟩
      rw [hxn] at hle p0
      have hxn' := Aside0.mk hxn
      have i1 : (0 : Int) ≤ (k : Int) := by omega
      have i2 : (k : Int) < (M : Int) := by omega
      have i3 : (0 : Int) ≤ (ck : Int) := by omega
      have i4 : (0 : Int) ≤ (xn : Int) := by omega
      have i5 : (ck : Int) + (xn : Int) ≤ 1000000 := by omega
      clear hkl hx hC hnx hlen hck hxn
      go_wp2_with fail
      go_roundw
      case rel => exact ⟨k + 1, by omega, by go_num, by rw [hlen'.out, hck'.out, hxn'.out]; go_num, trivial⟩
      case measure => simp [intOf]; omega
    · obtain rfl : k = M := by omega
      obtain ⟨wo, rfl⟩ : ∃ wo : World, wo = wr := ⟨_, rfl⟩
      have hgr := Aside0.mk (grow_calls (cat L k).length wo h0 h1)
      have i6 : ¬ ((cat L k).length : Int) < 0 := by omega
      obtain ⟨N, hN⟩ : ∃ N, (cat L k).length = N := ⟨_, rfl⟩
      rw [hN] at hgr h0 h1 i6 hcl ⊢
      replace hN := Aside0.mk hN
      go_wp2_with fail
      refine hgr.out.mono ?_
      rintro e w1 ⟨v, rfl, hR, hb⟩
      replace hR := Aside0.mk hR
      replace hb := Aside0.mk hb
      clear hgr
      go_wp2_with fail
      go_loopw [6, 27] (fun s6 s27 wq => ∃ (j : Nat) (v : Value), j ≤ k ∧ s27 = .int .i64 j ∧ s6 = v ∧ Aside0 (kU.R 5 wq wo.heap.size (fun q => wo.heap.size ≤ q) v (cat L j)) ∧ Aside0 (Below wo.heap.size wo wq)) (fun _ s27 _ => k - (intOf s27).toNat)
      case atStart => exact ⟨0, _, Nat.zero_le _, rfl, rfl, hR, hb⟩
      case round =>
        clear hR hb
        obtain ⟨j, v, hj, rfl, rfl, hR, hb⟩ := hrel
        by_cases hlt2 : j < k
        · have hkl : j < L.length := by rw [hM.out]; exact hlt2
          obtain ⟨p0, hC⟩ := (h.out.below hb.out) j hkl
          have hnx := Aside0.mk (hcn.out j hkl)
          have hle := Aside0.mk (hcl.out (j + 1))
          obtain ⟨x, hx⟩ : ∃ x, L[j] = x := ⟨_, rfl⟩
          rw [hx] at p0 hC hnx
          obtain ⟨xa, xc, xl⟩ := x
          dsimp only at p0 hC hnx
          replace hC := Aside0.mk hC
          have hbd := Aside0.mk (show ((cat L j).length + xl.length) * 1 ≤ 140737488355328 from by have := hle.out; rw [hnx.out, List.length_append] at this; omega)
          have i1 : (0 : Int) ≤ (j : Int) := by omega
          have i2 : (j : Int) < (k : Int) := by omega
          obtain ⟨va, vc, ev⟩ := Kd.R_slice hR.out
          subst ev
          clear hkl hx hle
          go_wp2_with ((with_reducible refine gate_builtin (b := .append) (xs := #[.tmp 31, .tmp 32]) rfl ?_); at_builtin; refine Kd.R_append_rows kU (w0 := wo) wo.heap.size rfl (.tmp 31) (.tmp 32) 23 5 (.int .u8 0) 1 rfl Try.underlying23 PBerEncodes.info5 rfl (by decide) (by omega) (.slice va (cat L j).length vc) (cat L j) xl _ _ _ (fun q => wo.heap.size ≤ q) (fun _ => False) rfl rfl hR.out hC.out (fun _ _ h => h) (fun _ h => h.elim) (fun q hq => Nat.le_trans hb.out.size hq) hb.out hb.out.size hbd.out ?_; intro v1 w2 ho hb2 hg _; replace ho := Aside0.mk ho; replace hb2 := Aside0.mk hb2)
          go_roundw
          case rel => exact ⟨j + 1, v1, by omega, by go_num, rfl, by rw [hnx.out]; exact ho, hb2⟩
          case measure => simp [intOf]; omega
        · obtain rfl : j = k := by omega
          obtain ⟨va, vc, ev⟩ := Kd.R_slice hR.out
          rw [hN.out] at ev
          subst ev
          go_wp2_with fail
          go_ret
          exact ⟨va, vc, by rw [hN.out]; rfl, by rw [hN.out]; exact hR.out, hb.out⟩
end Go.Proofs.Ytlmelbnmfhpacaa

/- ber.laid. -/
set_option linter.unusedVariables false
set_option linter.unusedSimpArgs false
namespace Go.Proofs.Ytlmelbnmfhpacaa
open Go.RowKit Go.Shelf Go.Proofs.YtlmelbnmfhpacaaW.PrintWords Go.Proofs.YtlmelbnmfhpacaaW.PrintMore Go.Proofs.YtlmelbnmfhpacaaW.PrintLast

theorem reverse1 (a : Int) : PBerEncodes.slices_Reverse_byte_byte.f 4 [a] = some [a] := by
  simp [PBerEncodes.slices_Reverse_byte_byte.f, PBerEncodes.slices_Reverse_byte_byte.l0, wrap64, rd]
theorem reverse2 (a b : Int) : PBerEncodes.slices_Reverse_byte_byte.f 4 [a, b] = some [b, a] := by
  simp [PBerEncodes.slices_Reverse_byte_byte.f, PBerEncodes.slices_Reverse_byte_byte.l0, wrap64, rd]
theorem reverse3 (a b c : Int) : PBerEncodes.slices_Reverse_byte_byte.f 4 [a, b, c] = some [c, b, a] := by
  simp [PBerEncodes.slices_Reverse_byte_byte.f, PBerEncodes.slices_Reverse_byte_byte.l0, wrap64, rd]
theorem up_le {α : Type} {f : Nat → Option α} (h : ∀ k, LeO (f k) (f (k + 1))) {k k' : Nat} (hk : k ≤ k') {r : α} (hr : f k = some r) : f k' = some r := by
  obtain ⟨d, rfl⟩ := Nat.exists_eq_add_of_le hk
  clear hk
  induction d with
  | zero => exact hr
  | succ d ih => exact h (k + d) r ih
theorem hl0 (k : Nat) (x : Int) (l : List Int) : PBerEncodes.ber_high_int.l0 (k + 1) x l = if x > 0 then (if l.length < 140737488355328 then (PBerEncodes.ber_high_int.l0 k (x / 256) (l ++ [x % 256])) else none) else ((PBerEncodes.slices_Reverse_byte_byte.f k l).bind fun t => some t) := by
  conv => lhs; unfold PBerEncodes.ber_high_int.l0
theorem high_ours (n : Nat) (h1 : 128 ≤ n) (h2 : n ≤ 10000000) : PBerEncodes.ber_high_int.f 7 (n : Int) = some ((lenL n).drop 1) := by
  unfold PBerEncodes.ber_high_int.f lenL
  rw [if_neg (by omega)]
  rw [hl0 6]
  by_cases c1 : n < 256
  · rw [if_neg (by omega), if_pos c1]
    rw [up_le (PBerEncodes.slices_Reverse_byte_byte.mono _) (show 4 ≤ 6 by omega) (reverse1 _)]
    simp only [Option.bind_some]
    congr 1
    simp; omega
  · rw [if_pos (by omega), if_pos (by simp), if_neg c1]
    rw [hl0 5]
    by_cases c2 : n < 65536
    · rw [if_neg (by omega), if_pos c2]
      show ((PBerEncodes.slices_Reverse_byte_byte.f 5 [(n : Int) % 256, (n : Int) / 256 % 256]).bind fun t => some t) = _
      rw [up_le (PBerEncodes.slices_Reverse_byte_byte.mono _) (show 4 ≤ 5 by omega) (reverse2 _ _)]
      simp only [Option.bind_some]
      congr 1
      simp; omega
    · rw [if_pos (by omega), if_pos (by simp), if_neg c2]
      rw [hl0 4, if_neg (by omega)]
      show ((PBerEncodes.slices_Reverse_byte_byte.f 4 [(n : Int) % 256, (n : Int) / 256 % 256, (n : Int) / 256 / 256 % 256]).bind fun t => some t) = _
      rw [reverse3]
      simp only [Option.bind_some]
      congr 1
      simp; omega
theorem length_ours (n : Nat) (h2 : n ≤ 10000000) : PBerEncodes.ber_length.f 7 (n : Int) = some (lenL n) := by
  unfold PBerEncodes.ber_length.f
  by_cases c : n < 128
  · rw [if_pos (by omega)]
    unfold lenL
    rw [if_pos c]
    congr 2
    omega
  · rw [if_neg (by omega), high_ours n (by omega) h2]
    simp only [Option.bind_some]
    have hl : ((lenL n).drop 1).length ≤ 3 := by have := (lenL_length n).2; rw [List.length_drop]; omega
    rw [if_pos (by simp at hl ⊢; omega)]
    unfold lenL at hl ⊢
    rw [if_neg c]
    split
    · simp [wrap64]
    · split <;> simp [wrap64]
end Go.Proofs.Ytlmelbnmfhpacaa

/- ber.laid. -/
set_option linter.unusedVariables false
set_option linter.unusedSimpArgs false
namespace Go.Proofs.Ytlmelbnmfhpacaa
open Go.RowKit Go.Shelf Go.Proofs.YtlmelbnmfhpacaaW.PrintWords Go.Proofs.YtlmelbnmfhpacaaW.PrintMore Go.Proofs.YtlmelbnmfhpacaaW.PrintLast

theorem tagA : ∀ c : Fin 4, ∀ m : Fin 31, bits .or .u8 (64 * (c.val : Int)) (m.val : Int) = 64 * (c.val : Int) + (m.val : Int) := by decide
theorem tagB : ∀ c : Fin 4, ∀ m : Fin 31, bits .or .u8 (64 * (c.val : Int) + (m.val : Int)) 32 = 64 * (c.val : Int) + (m.val : Int) + 32 := by decide
theorem tag_or (c m : Int) (c0 : 0 ≤ c) (c1 : c ≤ 3) (m0 : 0 ≤ m) (m1 : m ≤ 30) : bits .or .u8 (64 * c) m = 64 * c + m := by
  have := tagA ⟨c.toNat, by omega⟩ ⟨m.toNat, by omega⟩
  simpa [Int.toNat_of_nonneg c0, Int.toNat_of_nonneg m0] using this
theorem tag_cons (c m : Int) (c0 : 0 ≤ c) (c1 : c ≤ 3) (m0 : 0 ≤ m) (m1 : m ≤ 30) : bits .or .u8 (64 * c + m) 32 = 64 * c + m + 32 := by
  have := tagB ⟨c.toNat, by omega⟩ ⟨m.toNat, by omega⟩
  simpa [Int.toNat_of_nonneg c0, Int.toNat_of_nonneg m0] using this
theorem lay_next {xs : List T} {k : Nat} (hk : k < xs.length) : layL (xs.take (k + 1)) = layL (xs.take k) ++ layT xs[k] := by
  rw [layL_flat, layL_flat, List.take_succ_eq_append_getElem hk, List.flatMap_append]
  simp
theorem lay_le {xs : List T} (k : Nat) : (layL (xs.take k)).length ≤ (layL xs).length := by
  conv => rhs; rw [← List.take_append_drop k xs]
  rw [layL_flat, layL_flat, List.flatMap_append, List.length_append]
  omega
theorem lay_count (xs : List T) : xs.length ≤ (layL xs).length := by
  induction xs with
  | nil => simp [layL]
  | cons x l ih => cases x; simp only [layL, layT, List.length_append, List.length_cons]; omega
/-- What laid ends in. -/
def Laid (l : List Int) (w : World) (e : Ending) (w' : World) : Prop := ∃ A' c', e = .returned (.slice A' l.length c') ∧ kU.R 5 w' w.heap.size (fun q => w.heap.size ≤ q) (.slice A' l.length c') l ∧ Below w.heap.size w w'
theorem one_C {w : World} {g : Nat} {x : Int} (h : w.heap[g]? = some (.cells #[.int .u8 x] 5 (0, 0))) : kU.C w (some ⟨g, 0, none⟩) 1 [x] := by
  refine ⟨rfl, by decide, fun _ => ⟨_, rfl, fun j p hj => ?_⟩⟩
  have hj' := (List.getElem?_eq_some_iff.1 hj).1
  obtain rfl : j = 0 := by simp at hj'; omega
  obtain rfl : x = p := by simpa using hj
  refine ⟨[.int .u8 x], rfl, rfl, fun i u hu => ?_⟩
  have hi : i = 0 := by have := (List.getElem?_eq_some_iff.1 hu).1; simp at this; omega
  subst hi
  obtain rfl := Option.some.inj hu
  have h2 : (⟨g, 0, none⟩ : Addr).add (0 * kU.sz + 0) = ⟨g, 0, none⟩ := by rw [add_plain]; show (⟨_, 0 * 1 + 0, none⟩ : Addr) = _; rfl
  rw [h2]
  exact (blk_cell h 0).trans rfl
/-- Three rows in one. -/
theorem concat3 (tag : Int) (l2 l3 : List Int) (g1 : Nat) (A2 A3 : Option Addr) (c2 c3 : Nat) (w w3 : World) (hT : w3.heap[g1]? = some (.cells #[.int .u8 tag] 5 (0, 0))) (h2 : kU.C w3 A2 l2.length l2) (h3 : kU.C w3 A3 l3.length l3) (hb : Below w.heap.size w w3) (hz : (tag :: (l2 ++ l3)).length ≤ 1000000) :
    Calls Try.prog 51 #[.slice (some ⟨w3.heap.size, 0, none⟩) 3 3] (w3.alloc (.cells #[.slice (some ⟨g1, 0, none⟩) 1 1, .slice A2 l2.length c2, .slice A3 l3.length c3] 23)) (Laid (tag :: (l2 ++ l3)) w) := by
  have hb1 := below_alloc (Below.refl w3.heap.size w3) (.cells #[.slice (some ⟨g1, 0, none⟩) 1 1, .slice A2 l2.length c2, .slice A3 l3.length c3] 23)
  have hb2 := below_alloc hb (.cells #[.slice (some ⟨g1, 0, none⟩) 1 1, .slice A2 l2.length c2, .slice A3 l3.length c3] 23)
  have hN := heap_alloc_new w3 (.cells #[.slice (some ⟨g1, 0, none⟩) 1 1, .slice A2 l2.length c2, .slice A3 l3.length c3] 23)
  obtain ⟨w4, hw4⟩ : ∃ w4, w3.alloc (.cells #[.slice (some ⟨g1, 0, none⟩) 1 1, .slice A2 l2.length c2, .slice A3 l3.length c3] 23) = w4 := ⟨_, rfl⟩
  rw [hw4] at hb1 hb2 hN ⊢
  have hs : Srs w4 w3.heap.size [(some ⟨g1, 0, none⟩, 1, [tag]), (A2, c2, l2), (A3, c3, l3)] := by
    intro j hj
    match j, hj with
    | 0, _ => exact ⟨(blk_cell hN 0).trans rfl, one_C ((hb1.block g1 (blk_lt hT)).trans hT)⟩
    | 1, _ => exact ⟨(blk_cell hN 1).trans rfl, Kd.C_below h2 hb1⟩
    | 2, _ => exact ⟨(blk_cell hN 2).trans rfl, Kd.C_below h3 hb1⟩
  have hcat : cat [(some ⟨g1, 0, none⟩, 1, [tag]), (A2, c2, l2), (A3, c3, l3)] 3 = tag :: (l2 ++ l3) := by simp [cat]
  have hc := concat_calls w3.heap.size 3 _ w4 (by simp) hs (by show 0 < (cat _ 3).length; rw [hcat]; simp) (by show (cat _ 3).length ≤ _; rw [hcat]; exact hz)
  refine hc.mono ?_
  rintro e w5 ⟨A', c', he, hR, hb5⟩
  have hlen : (cat [(some (⟨g1, 0, none⟩ : Addr), 1, [tag]), (A2, c2, l2), (A3, c3, l3)] [(some (⟨g1, 0, none⟩ : Addr), 1, [tag]), (A2, c2, l2), (A3, c3, l3)].length) = tag :: (l2 ++ l3) := hcat
  rw [hlen] at he hR
  have hle : w.heap.size ≤ w4.heap.size := hb2.size
  exact ⟨A', c', he, Kd.R_lower (Kd.R_mono hR (fun q hq => Nat.le_trans hle hq)) hle, below_then hb2 hle hb5⟩
set_option maxHeartbeats 1000000 in
theorem laid_calls (x : T) : ∀ (A : Option Addr) (c : Nat) (B : Option Addr) (d : Nat) (w : World), Bv w x A c B d → argT x = true → byteT x → (layT x).length ≤ 1000000 →
    Calls Try.prog 36 #[bv x A c B d] w (Laid (layT x) w) := by
  refine treeInd (P := fun x => ∀ (A : Option Addr) (c : Nat) (B : Option Addr) (d : Nat) (w : World), Bv w x A c B d → argT x = true → byteT x → (layT x).length ≤ 1000000 → Calls Try.prog 36 #[bv x A c B d] w (Laid (layT x) w)) (fun x0 x1 x2 xb xs ih => ?_) x
  intro A c B d w hv ha hy hz
  have he := enters_of (P := Try.prog) Try.func36 (by kernel_rfl) rfl
  have hy' : (0 ≤ x0 ∧ x0 < 256) ∧ (0 ≤ x1 ∧ x1 < 256) ∧ (∀ x ∈ xb, 0 ≤ x ∧ x < 256) ∧ byteL xs := hy
  obtain ⟨⟨y0, y1⟩, ⟨y2, y3⟩, y4, y5⟩ := hy'
  have ha' : ((decide (x0 ≤ 3) && decide (x1 ≤ 30) && (!x2 || xb.isEmpty) && (x2 || xs.isEmpty)) && argL xs) = true := ha
  simp only [Bool.and_eq_true, decide_eq_true_eq] at ha'
  obtain ⟨⟨⟨⟨a0, a1⟩, a2⟩, a3⟩, a4⟩ := ha'
  have hA1 := box_new w (.int .u8 x0) (.int .u8 x1) (.bool x2) (.slice A xb.length c) (.slice B xs.length d)
  have hb1 := below_alloc (Below.refl w.heap.size w) (.cells #[.int .u8 x0, .int .u8 x1, .bool x2, .slice A xb.length c, .slice B xs.length d] 26)
  obtain ⟨w1, hw1⟩ : ∃ w1, w.alloc (.cells #[.int .u8 x0, .int .u8 x1, .bool x2, .slice A xb.length c, .slice B xs.length d] 26) = w1 := ⟨_, rfl⟩
  rw [hw1] at hA1 hb1
  obtain ⟨p0, p1, p2, p3, p4⟩ := hA1.cells
  have hor := tag_or x0 x1 y0 a0 y2 a1
  have hoc := tag_cons x0 x1 y0 a0 y2 a1
  have hshl : x0 * 64 = 64 * x0 := by omega
  replace hb1 := Aside0.mk hb1
  have hcb := Aside0.mk (show kU.C w A xb.length xb from hv.cb)
  have hci := Aside0.mk (show kT.C w B xs.length xs from hv.ci)
  replace ih := Aside0.mk ih
  have hlay : layT ⟨x0, x1, x2, xb, xs⟩ = (64 * x0 + x1 + (if x2 then 32 else 0)) :: (lenL (if x2 then layL xs else xb).length ++ (if x2 then layL xs else xb)) := rfl
  rw [hlay] at hz ⊢
  clear hlay hA1 hv ha hy
  unfold bv
  dsimp only
  cases x2 with
  | false =>
    rw [if_neg (by simp), if_neg (by simp)] at hz ⊢
    rw [Int.add_zero] at hz ⊢
    have hlen := (lenL_length xb.length).2
    have hz1 : xb.length ≤ 1000000 := by simp at hz; omega
    replace hz := Aside0.mk hz
    have hcl := fun W => PBerEncodes.ber_length.calls 7 _ _ W (length_ours xb.length (by omega))
    obtain ⟨N, hN⟩ : ∃ N, xb.length = N := ⟨_, rfl⟩
    have hcb := hcb.out
    rw [hN] at hz1 hcl hw1 hcb p3 ⊢
    replace hcb := Aside0.mk hcb
    replace hN := Aside0.mk hN
    replace hcl := Aside0.mk hcl
    clear y4 y5 hci ih a2 a3 a4 hlen hoc
    go_enter Try.func36, Try.ntmps36
    go_wp2_with fail
    have hbT := below_alloc hb1.out (.cells #[.int .u8 (64 * x0 + x1)] 5)
    have hbT1 := below_alloc (Below.refl w1.heap.size w1) (.cells #[.int .u8 (64 * x0 + x1)] 5)
    have hT := heap_alloc_new w1 (.cells #[.int .u8 (64 * x0 + x1)] 5)
    obtain ⟨g1, hg1⟩ : ∃ g1, w1.heap.size = g1 := ⟨_, rfl⟩
    have hcb2 := Kd.C_below (Kd.C_below hcb.out hb1.out) hbT1
    rw [hg1] at hT ⊢
    obtain ⟨w2, hw2⟩ : ∃ w2, w1.alloc (.cells #[.int .u8 (64 * x0 + x1)] 5) = w2 := ⟨_, rfl⟩
    rw [hw2] at hbT hbT1 hT hcb2 ⊢
    refine (hcl.out w2).mono ?_
    rintro e w3 ⟨v, rfl, hR, hb3⟩
    obtain ⟨A2, c2, rfl⟩ := Kd.R_slice hR
    obtain ⟨A2', c2', e2, _, hC2⟩ := Kd.R_reads hR
    obtain ⟨rfl, rfl⟩ : A2 = A2' ∧ c2 = c2' := by injection e2 with h1 _ h2; exact ⟨h1, h2⟩
    clear e2
    have hfin := concat3 (64 * x0 + x1) (lenL xb.length) xb g1 A2 A c2 c w w3 ((hb3.block g1 (blk_lt hT)).trans hT) (by rw [hN.out]; exact hC2) (by rw [hN.out]; exact Kd.C_below hcb2 hb3) (below_then hbT hbT.size hb3) hz.out
    rw [hN.out] at hfin
    obtain ⟨M, hM⟩ : ∃ M, (lenL N).length = M := ⟨_, rfl⟩
    rw [hM] at hfin ⊢
    replace hfin := Aside0.mk hfin
    clear hcl hR hC2 hcb2 hbT hbT1 hT hM hw2 hg1
    go_wp2_with fail
    refine hfin.out.mono ?_
    rintro e w4 ⟨A', c', rfl, hR, hb4⟩
    obtain ⟨Z, hZ⟩ : ∃ Z, (64 * x0 + x1) :: (lenL N ++ xb) = Z := ⟨_, rfl⟩
    rw [hZ] at hR ⊢
    replace hZ := Aside0.mk hZ
    replace hR := Aside0.mk hR
    replace hb4 := Aside0.mk hb4
    clear hfin
    go_wp2_with fail
    go_ret
    have hZ' := hZ.out
    subst hZ'
    exact ⟨A', c', rfl, hR.out, hb4.out⟩
  | true =>
    rw [if_pos rfl, if_pos rfl] at hz ⊢
    have hz1 : (layL xs).length ≤ 1000000 := by simp at hz; omega
    replace hz := Aside0.mk hz
    have hcl := fun W => PBerEncodes.ber_length.calls 7 _ _ W (length_ours (layL xs).length (by omega))
    replace hcl := Aside0.mk hcl
    have hal := Aside0.mk ((argL_iff xs).1 a4)
    have hbl := Aside0.mk ((byteL_iff xs).1 y5)
    have hst := Aside0.mk (fun (k : Nat) (hk : k < xs.length) => lay_next hk)
    have hsl := Aside0.mk (fun (k : Nat) => lay_le (xs := xs) k)
    have hwn : xs.length ≤ 1000000 := Nat.le_trans (lay_count xs) hz1
    have hR0 := Aside0.mk (Kd.R_nil kU 5 w1 w.heap.size (fun q => w.heap.size ≤ q))
    obtain ⟨N, hN⟩ : ∃ N, xs.length = N := ⟨_, rfl⟩
    have hci := hci.out
    rw [hN] at hci hwn hw1 p4 ⊢
    replace hci := Aside0.mk hci
    replace hN := Aside0.mk hN
    replace hz1 := Aside0.mk hz1
    clear y4 y5 a2 a3 a4 hcb
    go_enter Try.func36, Try.ntmps36
    go_wp2_with fail
    go_loopw [4, 22] (fun s4 s22 wr => ∃ (k : Nat) (v : Value), k ≤ N ∧ s22 = .int .i64 k ∧ s4 = v ∧ Aside0 (kU.R 5 wr w.heap.size (fun q => w.heap.size ≤ q) v (layL (xs.take k))) ∧ Aside0 (Below w.heap.size w wr)) (fun _ s22 _ => N - (intOf s22).toNat)
    case atStart => exact ⟨0, _, Nat.zero_le _, rfl, rfl, hR0, hb1⟩
    case round =>
      clear hR0 hb1
      obtain ⟨k, v, hk, rfl, rfl, hR, hb⟩ := hrel
      by_cases hlt : k < N
      · have hkx : k < xs.length := by rw [hN.out]; exact hlt
        obtain ⟨ad, A6, c6, B6, d6, e, s0, s1, s2, s3, s4, hv6⟩ := kT_at (Kd.C_below hci.out hb.out) k hkx
        subst e
        have hmem : xs[k] ∈ xs := List.getElem_mem hkx
        have hay := hal.out _ hmem
        have hby := hbl.out _ hmem
        have hnx := hst.out k hkx
        have hle := hsl.out (k + 1)
        obtain ⟨y, hy⟩ : ∃ y, xs[k] = y := ⟨_, rfl⟩
        rw [hy] at s0 s1 s2 s3 s4 hv6 hmem hay hby hnx
        have hly : (layL (xs.take k)).length + (layT y).length ≤ 1000000 := by rw [hnx, List.length_append] at hle; have := hz1.out; omega
        have hb2 := below_alloc (Below.refl wr.heap.size wr) (.cells #[.int .u8 y.f0, .int .u8 y.f1, .bool y.f2, .slice A6 y.f3.length c6, .slice B6 y.f4.length d6] 26)
        have hX2 := box_new wr (.int .u8 y.f0) (.int .u8 y.f1) (.bool y.f2) (.slice A6 y.f3.length c6) (.slice B6 y.f4.length d6)
        obtain ⟨w2, hw2e⟩ : ∃ w2, wr.alloc (.cells #[.int .u8 y.f0, .int .u8 y.f1, .bool y.f2, .slice A6 y.f3.length c6, .slice B6 y.f4.length d6] 26) = w2 := ⟨_, rfl⟩
        rw [hw2e] at hb2 hX2
        obtain ⟨t0, t1, t2, t3, t4⟩ := hX2.cells
        have hcall : Calls Try.prog 36 #[.agg #[.int .u8 y.f0, .int .u8 y.f1, .bool y.f2, .slice A6 y.f3.length c6, .slice B6 y.f4.length d6]] w2 (Laid (layT y) w2) := ih.out y hmem A6 c6 B6 d6 w2 (hv6.below hb2) hay hby (by omega)
        have hR2 := Aside0.mk (Kd.R_below hR.out hb2)
        replace hb2 := Aside0.mk (below_then hb.out hb.out.size hb2)
        obtain ⟨va, vc, ev⟩ := Kd.R_slice hR.out
        subst ev
        replace hcall := Aside0.mk hcall
        replace hnx := Aside0.mk hnx
        replace hly := Aside0.mk hly
        have i1 : (0 : Int) ≤ (k : Int) := by omega
        have i2 : (k : Int) < (N : Int) := by omega
        clear hX2 hR hb hay hby hv6 hkx hmem hle hy
        go_wp2_with fail
        refine hcall.out.mono ?_
        rintro e w4 ⟨A', c', rfl, hR4, hb4⟩
        have hC4 := Aside0.mk (Kd.F_now (Kd.R_F hR4))
        have hR3 := Aside0.mk (Kd.R_below hR2.out hb4)
        have hb3 := Aside0.mk (below_then hb2.out hb2.out.size hb4)
        have hbd := Aside0.mk (show ((layL (xs.take k)).length + (layT y).length) * 1 ≤ 140737488355328 from by have := hly.out; omega)
        clear hcall hR2 hb2 hR4 hb4
        go_wp2_with ((with_reducible refine gate_builtin (b := .append) (xs := #[.tmp 26, .tmp 28]) rfl ?_); at_builtin; refine Kd.R_append_rows kU (w0 := w) w.heap.size rfl (.tmp 26) (.tmp 28) 23 5 (.int .u8 0) 1 rfl Try.underlying23 PBerEncodes.info5 rfl (by decide) (by omega) (.slice va (layL (xs.take k)).length vc) (layL (xs.take k)) (layT y) _ _ _ (fun q => w.heap.size ≤ q) (fun _ => False) rfl rfl hR3.out hC4.out (fun _ _ h => h) (fun _ h => h.elim) (fun q hq => Nat.le_trans hb3.out.size hq) hb3.out hb3.out.size hbd.out ?_; intro v1 w5 ho hb5 hg _; replace ho := Aside0.mk ho; replace hb5 := Aside0.mk hb5)
        go_roundw
        case rel => exact ⟨k + 1, v1, by omega, by go_num, rfl, by rw [hnx.out]; exact ho, hb5⟩
        case measure => simp [intOf]; omega
      · obtain rfl : k = N := by omega
        have ht : xs.take k = xs := List.take_of_length_le (by rw [hN.out]; exact Nat.le_refl _)
        rw [ht] at hR
        obtain ⟨xb, hxb⟩ : ∃ xb, layL xs = xb := ⟨_, rfl⟩
        rw [hxb] at hR hcl hz hz1 ⊢
        obtain ⟨A, c, ev⟩ := Kd.R_slice hR.out
        subst ev
        obtain ⟨N, hNN⟩ : ∃ N, xb.length = N := ⟨_, rfl⟩
        have hcb := Kd.F_now (Kd.R_F hR.out)
        rw [hNN] at hcl hcb ⊢
        replace hcb := Aside0.mk hcb
        replace hNN := Aside0.mk hNN
        have hbT := below_alloc hb.out (.cells #[.int .u8 (64 * x0 + x1 + 32)] 5)
        have hbT1 := below_alloc (Below.refl wr.heap.size wr) (.cells #[.int .u8 (64 * x0 + x1 + 32)] 5)
        have hT := heap_alloc_new wr (.cells #[.int .u8 (64 * x0 + x1 + 32)] 5)
        obtain ⟨g1, hg1⟩ : ∃ g1, wr.heap.size = g1 := ⟨_, rfl⟩
        have hcb2 := Kd.C_below hcb.out hbT1
        rw [hg1] at hT
        obtain ⟨w2, hw2⟩ : ∃ w2, wr.alloc (.cells #[.int .u8 (64 * x0 + x1 + 32)] 5) = w2 := ⟨_, rfl⟩
        rw [hw2] at hbT hbT1 hT hcb2
        replace hbT := Aside0.mk hbT
        replace hT := Aside0.mk hT
        replace hcb2 := Aside0.mk hcb2
        replace hxb := Aside0.mk hxb
        clear hbT1 hb hR hcb hci ih hal hbl hst hsl ht
        go_wp2_with fail
        try rw [hg1]
        try rw [hw2]
        refine (hcl.out w2).mono ?_
        rintro e w3 ⟨v, rfl, hR, hb3⟩
        obtain ⟨A2, c2, rfl⟩ := Kd.R_slice hR
        obtain ⟨A2', c2', e2, _, hC2⟩ := Kd.R_reads hR
        obtain ⟨rfl, rfl⟩ : A2 = A2' ∧ c2 = c2' := by injection e2 with h1 _ h2; exact ⟨h1, h2⟩
        clear e2
        have hfin := concat3 (64 * x0 + x1 + 32) (lenL xb.length) xb g1 A2 A c2 c w w3 ((hb3.block g1 (blk_lt hT.out)).trans hT.out) (by rw [hNN.out]; exact hC2) (by rw [hNN.out]; exact Kd.C_below hcb2.out hb3) (below_then hbT.out hbT.out.size hb3) hz.out
        rw [hNN.out] at hfin
        obtain ⟨M, hM⟩ : ∃ M, (lenL N).length = M := ⟨_, rfl⟩
        rw [hM] at hfin ⊢
        replace hfin := Aside0.mk hfin
        clear hcl hR hC2 hcb2 hbT hT hM hw2 hg1
        go_wp2_with fail
        refine hfin.out.mono ?_
        rintro e w4 ⟨A', c', rfl, hR, hb4⟩
        obtain ⟨Z, hZ⟩ : ∃ Z, (64 * x0 + x1 + 32) :: (lenL N ++ xb) = Z := ⟨_, rfl⟩
        rw [hZ] at hR ⊢
        replace hZ := Aside0.mk hZ
        replace hR := Aside0.mk hR
        replace hb4 := Aside0.mk hb4
        clear hfin
        go_wp2_with fail
        go_ret
        have hZ' := hZ.out
        subst hZ'
        exact ⟨A', c', by rw [hxb.out, hNN.out]; rfl, by rw [hxb.out, hNN.out]; exact hR.out, hb4.out⟩
end Go.Proofs.Ytlmelbnmfhpacaa

/- ber.size and ber.Check, plain; ber.Encode. -/
set_option linter.unusedVariables false
set_option linter.unusedSimpArgs false
namespace Go.Proofs.Ytlmelbnmfhpacaa
open Go.RowKit Go.Shelf Go.Proofs.YtlmelbnmfhpacaaW.PrintWords Go.Proofs.YtlmelbnmfhpacaaW.PrintMore Go.Proofs.YtlmelbnmfhpacaaW.PrintLast

abbrev sizeF (K : Nat) (x : T) : Option Int := PBerEncodes.ber_size.f K x.f0 x.f1 x.f2 x.f3 x.f4
theorem rd_at {xs : List T} {k : Nat} (hk : k < xs.length) : PBerEncodes.rd_T26 xs (k : Int) = xs[k] := by unfold PBerEncodes.rd_T26; simp [List.getD_eq_getElem?_getD, hk]
theorem wrap_nat (n : Nat) (h : n ≤ 100000000) : wrap64 (n : Int) = (n : Int) := by unfold wrap64; omega
/-- What size says, against what it is. -/
def SizeOk (r n : Nat) : Prop := r ≤ n ∧ (r = n ∨ 65536 < r)
theorem f_succ (K : Nat) (x0 x1 : Int) (x2 : Bool) (xb : List Int) (xs : List T) : PBerEncodes.ber_size.f (K + 1) x0 x1 x2 xb xs = PBerEncodes.ber_size.l0 K (xb.length : Int) xs (xs.length : Int) 0 := by rw [PBerEncodes.ber_size.f]
theorem l0_succ (K : Nat) (n : Int) (xs : List T) (l j : Int) : PBerEncodes.ber_size.l0 (K + 1) n xs l j = if j < l then (if 0 ≤ j then (if j < (xs.length : Int) then ((sizeF K (PBerEncodes.rd_T26 xs j)).bind fun t => (if (wrap64 (n + t)) > 65536 then (some (wrap64 (n + t))) else (PBerEncodes.ber_size.l0 K (wrap64 (n + t)) xs l (wrap64 (j + 1))))) else (none)) else (none)) else ((PBerEncodes.ber_length.f K n).bind fun t => (some (wrap64 ((wrap64 (1 + (t.length : Int))) + n)))) := by rw [PBerEncodes.ber_size.l0]
theorem wrap_sum (a b : Nat) (h : a + b ≤ 100000000) : wrap64 ((a : Int) + (b : Int)) = ((a + b : Nat) : Int) := by rw [← Int.natCast_add]; exact wrap_nat _ h
theorem size_end (xs : List T) (n : Nat) (h : n ≤ 10000000) : PBerEncodes.ber_size.l0 8 (n : Int) xs (xs.length : Int) (xs.length : Int) = some ((1 + (lenL n).length + n : Nat) : Int) := by
  have h4 := (lenL_length n).2
  have e := length_ours n h
  have hlt : ¬ ((xs.length : Int) < (xs.length : Int)) := Int.lt_irrefl _
  have q1 : wrap64 (1 + ((lenL n).length : Int)) = ((1 + (lenL n).length : Nat) : Int) := wrap_sum 1 _ (by omega)
  have q2 := wrap_sum (1 + (lenL n).length) n (by omega)
  rw [l0_succ 7, if_neg hlt, e]
  generalize (1 + (lenL n).length + n) = z at q2 ⊢
  generalize (1 + (lenL n).length) = y at q1 q2
  show some (wrap64 (wrap64 (1 + ((lenL n).length : Int)) + (n : Int))) = _
  rw [q1, q2]
theorem size_over (K : Nat) (xs : List T) (j n r1 : Nat) (hj : j < xs.length) (hn : n + r1 ≤ 10000000) (e : sizeF K xs[j] = some ((r1 : Nat) : Int)) (c : 65536 < n + r1) : PBerEncodes.ber_size.l0 (K + 1) (n : Int) xs (xs.length : Int) (j : Int) = some ((n + r1 : Nat) : Int) := by
  have q1 := wrap_sum n r1 (by omega)
  have q2 : ((n + r1 : Nat) : Int) > 65536 := by omega
  rw [l0_succ, if_pos (by omega), if_pos (by omega), if_pos (by omega), rd_at hj, e, Option.bind_some, q1, if_pos q2]
theorem size_step (K : Nat) (xs : List T) (j n r1 : Nat) (hj : j < xs.length) (hx : xs.length ≤ 10000000) (hn : n + r1 ≤ 10000000) (e : sizeF K xs[j] = some ((r1 : Nat) : Int)) (c : ¬ 65536 < n + r1) : PBerEncodes.ber_size.l0 (K + 1) (n : Int) xs (xs.length : Int) (j : Int) = PBerEncodes.ber_size.l0 K ((n + r1 : Nat) : Int) xs (xs.length : Int) ((j + 1 : Nat) : Int) := by
  have q1 := wrap_sum n r1 (by omega)
  have q2 : ¬ ((n + r1 : Nat) : Int) > 65536 := by omega
  have q3 : wrap64 ((j : Int) + 1) = ((j + 1 : Nat) : Int) := wrap_sum j 1 (by omega)
  rw [l0_succ, if_pos (by omega), if_pos (by omega), if_pos (by omega), rd_at hj, e, Option.bind_some, q1, if_neg q2, q3]
theorem size_loop (xs : List T) (hx : xs.length ≤ 10000000) (ih : ∀ x ∈ xs, ∃ K r, sizeF K x = some ((r : Nat) : Int) ∧ SizeOk r (sizeT x)) : ∀ m j, j + m = xs.length → ∀ n : Nat, n + sizeL (xs.drop j) ≤ 10000000 →
    ∃ K r, PBerEncodes.ber_size.l0 K (n : Int) xs (xs.length : Int) (j : Int) = some ((r : Nat) : Int) ∧ SizeOk r (1 + (lenL (n + sizeL (xs.drop j))).length + (n + sizeL (xs.drop j))) := by
  intro m
  induction m with
  | zero =>
    intro j hj n hn
    obtain rfl : j = xs.length := by omega
    have hd : sizeL (xs.drop xs.length) = 0 := by rw [List.drop_length, sizeL]
    rw [hd, Nat.add_zero] at hn ⊢
    exact ⟨8, _, size_end xs n hn, Nat.le_refl _, .inl rfl⟩
  | succ m ihm =>
    intro j hj n hn
    have hjl : j < xs.length := by omega
    obtain ⟨K1, r1, e1, h1, h2⟩ := ih xs[j] (List.getElem_mem hjl)
    have hd : sizeL (xs.drop j) = sizeT xs[j] + sizeL (xs.drop (j + 1)) := by rw [List.drop_eq_getElem_cons hjl, sizeL]
    rw [hd] at hn ⊢
    by_cases c : 65536 < n + r1
    · exact ⟨K1 + 1, n + r1, size_over K1 xs j n r1 hjl (by omega) e1 c, by omega, .inr c⟩
    · have h3 : r1 = sizeT xs[j] := by omega
      rw [h3] at e1 c
      obtain ⟨K2, r2, e2, h4⟩ := ihm (j + 1) (by omega) (n + sizeT xs[j]) (by omega)
      refine ⟨max K1 K2 + 1, r2, ?_, by rw [← Nat.add_assoc n]; exact h4⟩
      rw [size_step (max K1 K2) xs j n (sizeT xs[j]) hjl hx (by omega) (up_le (f := fun k => sizeF k xs[j]) (PBerEncodes.ber_size.mono _ _ _ _ _) (Nat.le_max_left K1 K2) e1) c]
      exact up_le (f := fun k => PBerEncodes.ber_size.l0 k ((n + sizeT xs[j] : Nat) : Int) xs (xs.length : Int) ((j + 1 : Nat) : Int)) (fun k => (PBerEncodes.ber_size.mono_l k).2 _ _ _ _) (Nat.le_max_right K1 K2) e2
theorem sizeL_mem {xs : List T} {x : T} (h : x ∈ xs) : sizeT x ≤ sizeL xs := by
  induction xs with
  | nil => cases h
  | cons y ys ih =>
    rw [sizeL]
    rcases List.mem_cons.1 h with rfl | h
    · omega
    · have := ih h; omega
theorem sizeL_count (xs : List T) : xs.length ≤ sizeL xs := by
  induction xs with
  | nil => simp [sizeL]
  | cons x l ih => cases x; simp only [sizeL, sizeT, List.length_cons]; omega
theorem size_ours (x : T) : sizeT x ≤ 10000000 → ∃ K r, sizeF K x = some ((r : Nat) : Int) ∧ SizeOk r (sizeT x) := by
  refine treeInd (P := fun x => sizeT x ≤ 10000000 → ∃ K r, sizeF K x = some ((r : Nat) : Int) ∧ SizeOk r (sizeT x)) (fun x0 x1 x2 xb xs ih => ?_) x
  intro h
  simp only [sizeT] at h
  obtain ⟨K, r, e, h2⟩ := size_loop xs (by have := sizeL_count xs; omega) (fun y hy => ih y hy (by have := sizeL_mem hy; omega)) xs.length 0 (by omega) xb.length (by rw [List.drop_zero]; omega)
  rw [List.drop_zero] at h2
  refine ⟨K + 1, r, ?_, ?_⟩
  · unfold sizeF
    rw [f_succ]
    exact e
  · rw [sizeT]
    exact h2
/-- What Check says, in numbers. -/
def checkN (x : T) : Int := if rightN x = 0 then (if 65536 < (sizeT x : Int) then 3 else 0) else rightN x
theorem check_ours (x : T) (A : Option Addr) (c : Nat) (B : Option Addr) (d : Nat) (w : World) (hv : Bv w x A c B d) (hw : wT x ≤ 1000000) :
    Calls Try.prog 13 #[.agg #[.int .u8 x.f0, .int .u8 x.f1, .bool x.f2, .slice A x.f3.length c, .slice B x.f4.length d]] w fun e w' => e = .returned (.int .i64 (checkN x)) ∧ Below w.heap.size w w' := by
  have hz := sizeT_w x
  obtain ⟨K, r, e, h1, h2⟩ := size_ours x (by omega)
  refine (check_calls x A c B d w r K hv hw e).mono ?_
  rintro e w' ⟨rfl, hb⟩
  refine ⟨?_, hb⟩
  unfold checkN
  have : (65536 < (r : Int)) ↔ (65536 < (sizeT x : Int)) := by omega
  simp only [this]
end Go.Proofs.Ytlmelbnmfhpacaa
