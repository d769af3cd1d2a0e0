/- The reference's one: the filter that begins at a place. -/
import Derived.Test.YtgnmkblaockghaaQNo
import Derived.Test.YtgnmkblaockghaaQKd
import Derived.Laws.DeepStrings4
set_option linter.unusedVariables false
set_option linter.unusedSimpArgs false
namespace Go.Proofs.Ytgnmkblaockghaa
open Go.RowKit Go.Shelf Go.Proofs.YtgnmkblaockghaaW.PrintWords Go.Proofs.YtgnmkblaockghaaW.PrintMore Go.Proofs.YtgnmkblaockghaaW.PrintLast

theorem ralone_calls (x : Ft) (A : Option Addr) (c : Nat) (w : World) (hs : x.f2.size ≤ 12000) (hc : x.f1.length ≤ c) (hC : kF.C w A x.f1.length x.f1) : Calls Try.prog 62 #[fv x A c] w fun e w' => e = .returned (.bool (aloneOk x)) ∧ Below w.heap.size w w' :=
  PFilterBounds.cardcaseref08_alone.calls _ x.f0 A c x.f1 x.f2 x.f3 (aloneOk x) w hC hc (alone_ours x hs 0)
/-- What one ends in. -/
def OneEnds (o : Option (Ft × Nat)) (w : World) (e : Ending) (w' : World) : Prop :=
  (match o with
    | some (x, k) => ∃ A c, e = .returned (.tuple #[fv x A c, .int .i64 (k : Int)]) ∧ x.f1.length ≤ c ∧ kF.F w' (fun q => w.heap.size ≤ q) A x.f1.length x.f1
    | none => e = .returned (.tuple #[noF, .int .i64 (-1)])) ∧ Below w.heap.size w w'
theorem slice_text (s : ByteArray) (i j : Nat) (h : i ≤ j ∧ j ≤ s.size) : ∀ w', (Instr.slice 9 (.string s) (some (.int .i64 (i : Int))) (some (.int .i64 (j : Int))) none).run Try.prog w' = .ok (.string (s.extract i j)) w' := by
  intro w'
  rw [run_slice_string_if (P := Try.prog) w' 9 s .i64 .i64 (i : Int) (j : Int) (by kernel_rfl), if_pos (by omega), if_pos (by omega)]
  rfl
/-- The letter of a kind. -/
def letB (j : Nat) : ByteArray := if j = 0 then { data := #[38] } else if j = 1 then { data := #[124] } else { data := #[33] }
theorem let_at (j : Nat) (hj : j < 3) : ∀ h : j < ([.string { data := #[38] }, .string { data := #[124] }, .string { data := #[33] }] : List Value).length, ([.string { data := #[38] }, .string { data := #[124] }, .string { data := #[33] }] : List Value)[j]'h = .string (letB j) := by
  intro h
  obtain rfl | rfl | rfl : j = 0 ∨ j = 1 ∨ j = 2 := by omega
  · rfl
  · rfl
  · rfl
theorem bytes_one (s : ByteArray) (k : Nat) (hk : k < s.size) : (s.extract k (k + 1)).toList = [s[k]] := by
  rw [ByteArray.toList_eq, ByteArray.data_extract, Array.toList_extract, List.extract_eq_take_drop]
  rw [show k + 1 - k = 1 by omega, List.drop_eq_getElem_cons (by simpa using hk), List.take_succ_cons, List.take_zero]
  rfl
theorem let_fin : ∀ t : Fin 256, ∀ j : Fin 3, ([UInt8.ofNat t.val] == [if j.val = 0 then (38 : UInt8) else if j.val = 1 then 124 else 33]) = decide (opN (t.val : Int) = (j.val : Int)) := by decide +kernel
theorem let_eq (s : ByteArray) (k j : Nat) (hk : k < s.size) (hj : j < 3) : ((s.extract k (k + 1)).toList == (letB j).toList) = decide (opN (bt s (k : Int)) = (j : Int)) := by
  rw [bytes_one s k hk]
  have hb := bt_nat hk
  have hl : (letB j).toList = [if j = 0 then 38 else if j = 1 then 124 else 33] := by
    unfold letB
    obtain rfl | rfl | rfl : j = 0 ∨ j = 1 ∨ j = 2 := by omega
    · rw [ByteArray.toList_eq]; rfl
    · rw [ByteArray.toList_eq]; rfl
    · rw [ByteArray.toList_eq]; rfl
  rw [hl, ← hb]
  have h := let_fin ⟨s[k].toNat, s[k].toNat_lt⟩ ⟨j, hj⟩
  rw [show UInt8.ofNat s[k].toNat = s[k] from UInt8.ofNat_toNat] at h
  exact h
set_option maxRecDepth 8000 in
/-- append(f.Of, x), as a step of a region that draws no order. -/
theorem NF_append_last {ops : Array Oper} {rest : List Oper} {o : Oper} {a : Act} {w0 W : World} {Q : Exit → Act → World → Prop} (hgd : o.guard = none) (s x : Operand)
    (ho : o.op = .call { callee := .builtin .append, args := #[s, x], argTypes := #[23, 23] })
    (base : Nat) (v : Value) (xs : List Ft) (p : Ft) (cs : List Value) (ok okp : Nat → Prop) (hs : a.eval s = v) (hx : a.eval x = .slice (some ⟨W.heap.size, 0, none⟩) 1 1)
    (hp : Kd.FK kF W okp p cs) (hokp : ∀ k, okp k → ok k ∧ some k ≠ v.ownBlock) (hfresh : ∀ k, W.heap.size ≤ k → ok k)
    (HO : Kd.N kF 25 W base ok v xs) (HB : Below base w0 W) (hbase : base ≤ W.heap.size) (hl : (xs.length + 1) * 64 ≤ 140737488355328)
    (h : ∀ v1 w1, Kd.N kF 25 w1 base ok v1 (xs ++ [p]) → Below base w0 w1 → W.grownBy w1 v.ownBlock → wpList Try.prog ops Q rest (a.put o.dst v1) w1) :
    wpList Try.prog ops Q (o :: rest) a (W.alloc (.cells cs.toArray 25)) := by
  refine wpList_plain hgd fun K hK => ?_
  have hst := Kd.N_append_step (o := o) (ops := ops) (Kc := K) (Q := Q) (a := a) kF (w0 := w0) (W := W) base (by unfold Region.wanted; rw [hgd]) s x 23 25 (.agg #[.int .i64 0, .slice none 0 0, .string ⟨#[]⟩, .string ⟨#[]⟩]) 64 ho Try.underlying23 PFilterBounds.info25 rfl (by decide) (by decide) v xs p cs ok okp hs hx hp hokp hfresh HO HB hbase hl (fun v1 w1 h1 h2 h3 h4 => hK _ _ (h v1 w1 h1 h2 h3))
  exact (if_pos (by unfold Region.wanted; rw [hgd])).mp hst
set_option maxRecDepth 20000 in
set_option maxHeartbeats 16000000 in
theorem one_plain (s : ByteArray) (hs : s.size ≤ 12000) (m d : Nat) (hd : d + (m + 1) = 17) (k : Nat) (w : World) (hk1 : k + 1 < s.size) (h40 : bt s (k : Int) = 40) (hop0 : opN (bt s ((k + 1 : Nat) : Int)) < 0) :
    Calls Try.prog 44 #[.string s, .int .i64 (k : Int), .int .i64 (d : Int)] w (OneEnds (oneF (m + 1) s k) w) := by
  have hone := one_weight s
  replace hop0 := Aside0.mk hop0
  have hd16 : d ≤ 16 := by omega
  have q1 : decide ((d : Int) > 16) = false := decide_eq_false (by omega)
  have hF : oneF (m + 1) s k = _ := oneF.eq_2 s k m
  obtain ⟨res, hre⟩ : ∃ res, oneF (m + 1) s k = res := ⟨_, rfl⟩
  rw [hre] at hF ⊢
  clear hre
  skip
  replace hone := Aside0.mk hone
  have hwkA := Aside0.mk (show wrap64 ((k : Int) + 1) = (k : Int) + 1 by unfold wrap64; omega)
  have hwdA := Aside0.mk (show wrap64 ((d : Int) + 1) = (d : Int) + 1 by unfold wrap64; omega)
  replace hd := Aside0.mk hd
  obtain ⟨R, hRw⟩ : ∃ R, w.heap.size = R := ⟨_, rfl⟩
  have hR1 := fbox_new w 25 (.int .i64 0) (.slice none 0 0) (.string ⟨#[]⟩) (.string ⟨#[]⟩)
  have hb1 := below_alloc (Below.refl w.heap.size w) (.cells #[.int .i64 0, .slice none 0 0, .string ⟨#[]⟩, .string ⟨#[]⟩] 25)
  obtain ⟨w1, hw1⟩ : ∃ w1, w.alloc (.cells #[.int .i64 0, .slice none 0 0, .string ⟨#[]⟩, .string ⟨#[]⟩] 25) = w1 := ⟨_, rfl⟩
  rw [hw1] at hR1 hb1
  rw [hRw] at hR1
  have hRle := Aside0.mk (show w.heap.size ≤ R by omega)
  replace hR1 := Aside0.mk hR1
  replace hb1 := Aside0.mk hb1
  have q2 : decide ((k : Int) + 1 ≥ (s.size : Int)) = false := decide_eq_false (by omega)
  have i0 : (0 : Int) ≤ (k : Int) := by omega
  have i1 : (k : Int) < (s.size : Int) := by omega
  have hbt := fun h : k < s.size => bt_nat h
  have q3 : (bt s (k : Int) != 40) = false := by simp [h40]
  rw [if_pos ⟨hk1, h40⟩] at hF
  obtain ⟨k1, hk1e⟩ : ∃ k1, k + 1 = k1 := ⟨_, rfl⟩
  rw [show k + 2 = k1 + 1 from by omega, hk1e] at hF
  have hw1kA := Aside0.mk (show wrap64 ((k1 : Int) + 1) = (k1 : Int) + 1 by unfold wrap64; omega)
  have hkk : (k : Int) + 1 = (k1 : Int) := by omega
  rw [hkk] at hwkA q2
  have hk1s : k1 < s.size := by omega
  have hwk := hwkA.out
  have hVn := fbox_new w1 25 (.int .i64 0) (.slice none 0 0) (.string ⟨#[]⟩) (.string ⟨#[]⟩)
  have hbn := below_alloc (Below.refl w1.heap.size w1) (.cells #[.int .i64 0, .slice none 0 0, .string ⟨#[]⟩, .string ⟨#[]⟩] 25)
  obtain ⟨w2, hw2⟩ : ∃ w2, w1.alloc (.cells #[.int .i64 0, .slice none 0 0, .string ⟨#[]⟩, .string ⟨#[]⟩] 25) = w2 := ⟨_, rfl⟩
  obtain ⟨V, hVe⟩ : ∃ V, w1.heap.size = V := ⟨_, rfl⟩
  rw [hw2] at hVn hbn
  rw [hVe] at hVn
  have hRV := Aside0.mk (show R < V by rw [← hVe]; exact hR1.out.lt)
  have hb2 := below_then hb1.out hb1.out.size hbn
  have hR2 := hR1.out.below hbn
  obtain ⟨f0, f1, f2, f3⟩ := hVn.free
  obtain ⟨c0, c1, c2, c3⟩ := hVn.cells
  obtain ⟨w3, hw3, hV3, hm3⟩ := put4 hVn (.int .i64 0) (.slice none 0 0) (.string ⟨#[]⟩) (.string ⟨#[]⟩)
  have hVle := Aside0.mk (show w.heap.size ≤ V by have := hRle.out; have := hRV.out; omega)
  have hb3 := Aside0.mk (mod_below hm3 hb2 hVle.out)
  have hR3 := Aside0.mk (hR2.mod hm3 (show ¬ R = V by have := hRV.out; omega))
  replace hV3 := Aside0.mk hV3
  replace hF := Aside0.mk hF
  replace hk1e := Aside0.mk hk1e
  clear hVn hbn hb2 hR2 hm3 hb1 hR1
  have hop0 : opN (bt s (k1 : Int)) < 0 := by rw [show (k1 : Int) = ((k + 1 : Nat) : Int) by have := hk1e.out; omega]; exact hop0.out
  obtain ⟨op, hop⟩ : ∃ op, opN (bt s (k1 : Int)) = op := ⟨_, rfl⟩
  rw [hop] at hF hop0
  replace hop0 := Aside0.mk hop0
  obtain ⟨o0, o1⟩ := opN_range (bt s (k1 : Int))
  rw [hop] at o0 o1
  have hleq := Aside0.mk (fun (j : Nat) (hj : j < 3) => (show ((s.extract k1 (k1 + 1)).toList == (letB j).toList) = decide (op = (j : Int)) by rw [let_eq s k1 j hk1s hj, hop]))
  clear hop
  go_enter Try.func44, Try.ntmps44
  go_wp2_with fail
  clear f0 f1 f2 f3 c0 c1 c2 c3 hw3 hbt hwk hw1 hw2 hVe hRw
  have kj0 : Aside0 ((if op < ((0 : Nat) : Int) then op + 1 else 0) = 0) := ⟨by split <;> omega⟩
  go_loopw [9] (fun s9 wr => ∃ (j : Nat) (K : Int), j ≤ 3 ∧ s9 = .int .i64 ((j : Int) + 1) ∧ Aside0 ((if op < (j : Int) then op + 1 else 0) = K) ∧ Aside0 (FBox wr V 25 (.int .i64 K) (.slice none 0 0) (.string ⟨#[]⟩) (.string ⟨#[]⟩)) ∧ Aside0 (FBox wr R 25 (.int .i64 0) (.slice none 0 0) (.string ⟨#[]⟩) (.string ⟨#[]⟩)) ∧ Aside0 (Below w.heap.size w wr)) (fun s9 _ => 4 - (intOf s9).toNat)
  case atStart => exact ⟨0, 0, by omega, by go_num, kj0, hV3, hR3, hb3⟩
  case round =>
    clear hV3 hR3 hb3
    obtain ⟨j, K, hj, rfl, hK, hV, hR, hb⟩ := hrel
    by_cases hj3 : j < 3
    · have q4 : decide ((j : Int) + 1 ≤ 3) = true := decide_eq_true (by omega)
      have hjsA := Aside0.mk (show wrap64 (j : Int) = (j : Int) from wrap_in _ (by omega))
      have j3 : (j : Int) < 3 := by omega
      have hjnA := Aside0.mk (show wrap64 ((j : Int) + 1 + 1) = ((j + 1 : Nat) : Int) + 1 by rw [wrap_in _ (by omega)]; omega)
      have k10 : (0 : Int) ≤ (k1 : Int) := by omega
      have k11 : (k1 : Int) + 1 ≤ (s.size : Int) := by omega
      have j0 : (0 : Int) ≤ (j : Int) := by omega
      have hsl := slice_text s k1 (k1 + 1) ⟨by omega, by omega⟩
      rw [show ((k1 + 1 : Nat) : Int) = (k1 : Int) + 1 from rfl] at hsl
      have hla := let_at j hj3
      have hE := hleq.out j hj3
      have hba := below_alloc (Below.refl wr.heap.size wr) (.cells #[.string { data := #[38] }, .string { data := #[124] }, .string { data := #[33] }] 9)
      have hba : Below wr.heap.size wr (wr.alloc (.cells #[.string { data := #[38] }, .string { data := #[124] }, .string { data := #[33] }] 9)).drew := below_then hba hba.size (below_drew (Below.refl _ _))
      have hVq := Aside0.mk (hV.out.below hba)
      have hRq := Aside0.mk (hR.out.below hba)
      have hbq := Aside0.mk (below_then hb.out hb.out.size hba)
      clear hba
      by_cases hoj : op = (j : Int)
      · rw [decide_eq_true hoj] at hE
        have hms : Aside0 (K = 0) := ⟨by have := hK.out; rw [if_neg (by omega)] at this; exact this.symm⟩
        obtain ⟨f0, _, _, _⟩ := hVq.out.free
        obtain ⟨b0, _, _, _⟩ := hVq.out.cells
        have hV6 := Aside0.mk (hVq.out.set0 (.int .i64 ((j : Int) + 1)))
        have hm6 := set_mod (wr.alloc (.cells #[.string { data := #[38] }, .string { data := #[124] }, .string { data := #[33] }] 9)).drew V 0 (.int .i64 ((j : Int) + 1))
        obtain ⟨w6, hw6⟩ : ∃ w6, ((wr.alloc (.cells #[.string { data := #[38] }, .string { data := #[124] }, .string { data := #[33] }] 9)).drew).setCell ⟨V, 0, none⟩ (.int .i64 ((j : Int) + 1)) = w6 := ⟨_, rfl⟩
        rw [hw6] at hV6 hm6
        have hR6 := Aside0.mk (hRq.out.mod hm6 (show ¬ R = V by have := hRV.out; omega))
        have hb6 := Aside0.mk (mod_below hm6 hbq.out hVle.out)
        clear hm6
        have hjs := hjsA.out
        have hjn := hjnA.out
        have hw1k := hw1kA.out
        go_wp2_with fail
        refine start_ (n := 11) (S := fun w' => True) (ds := [9]) (B_ 11 0) (by kernel_rfl) rfl rfl trivial (fun hHeld => ?_)
        refine pn_ 0 38 (B_ 11 1) rfl rfl ?_
        refine pn_ 1 39 (B_ 11 3) rfl rfl ?_
        refine pn_ 2 40 (B_ 11 7) rfl rfl ?_
        refine pn_ 3 41 (B_ 11 15) rfl rfl ?_
        refine pn_ 4 42 (B_ 11 31) rfl rfl ?_
        refine pn_ 6 44 (B_ 11 95) rfl rfl ?_
        refine pn_ 7 45 (B_ 11 223) rfl rfl ?_
        refine one_ (i := 5) (N := some 43) (B_ 11 255) rfl rfl (by kernel_rfl) (by decide) (fun K hK => ?_)
        refine value_ (w1 := ?_) (v := ?_) (by rfl) rfl ?_ ?_
        rotate_left 2
        · go_simp
          constructor
          · rfl
          · rfl
        refine hK.out _ _ trivial (fun hHeld => ?_)
        clear hK K
        refine nm_ 43 ?_
        refine pn_ 8 46 (B_ 11 511) rfl rfl ?_
        refine last_ (i := 9) (N := some 47) (B_ 11 1023) rfl rfl (by kernel_rfl) (by decide) (fun K hK => ?_)
        refine value_ (w1 := ?_) (v := ?_) (by rfl) rfl ?_ ?_
        rotate_left 2
        · go_simp
          constructor
          · rfl
          · rfl
        refine hK.out _ _ ?_
        clear hK K
        refine nm_ 47 ?_
        refine pn_ 10 48 (B_ 11 2047) rfl rfl ?_
        refine done_ (by kernel_rfl) ?_
        go_wp2_with fail
        clear hjs hjn hw1k
        go_roundw
        case rel => exact ⟨j + 1, (j : Int) + 1, by omega, by go_num, ⟨by rw [if_pos (by omega)]; omega⟩, hV6, hR6, hb6⟩
        case measure => simp [intOf]; omega
      · rw [decide_eq_false hoj] at hE
        have hK2 : Aside0 ((if op < ((j + 1 : Nat) : Int) then op + 1 else 0) = K) := ⟨by
          have h := hK.out
          by_cases c : op < (j : Int)
          · rw [if_pos c] at h; rw [if_pos (by omega)]; exact h
          · rw [if_neg c] at h; rw [if_neg (by omega)]; exact h⟩
        have hjs := hjsA.out
        have hjn := hjnA.out
        have hw1k := hw1kA.out
        go_wp2_with fail
        refine start_ (n := 11) (S := fun w' => True) (ds := [9]) (B_ 11 0) (by kernel_rfl) rfl rfl trivial (fun hHeld => ?_)
        refine pn_ 0 38 (B_ 11 1) rfl rfl ?_
        refine pn_ 1 39 (B_ 11 3) rfl rfl ?_
        refine pn_ 2 40 (B_ 11 7) rfl rfl ?_
        refine pn_ 3 41 (B_ 11 15) rfl rfl ?_
        refine pn_ 4 42 (B_ 11 31) rfl rfl ?_
        refine pn_ 6 44 (B_ 11 95) rfl rfl ?_
        refine pn_ 7 45 (B_ 11 223) rfl rfl ?_
        refine one_ (i := 5) (N := some 43) (B_ 11 255) rfl rfl (by kernel_rfl) (by decide) (fun K hK => ?_)
        refine value_ (w1 := ?_) (v := ?_) (by rfl) rfl ?_ ?_
        rotate_left 2
        · go_simp
          constructor
          · rfl
          · rfl
        refine hK.out _ _ trivial (fun hHeld => ?_)
        clear hK K
        refine nm_ 43 ?_
        refine pn_ 8 46 (B_ 11 511) rfl rfl ?_
        refine last_ (i := 9) (N := some 47) (B_ 11 1023) rfl rfl (by kernel_rfl) (by decide) (fun K hK => ?_)
        refine value_ (w1 := ?_) (v := ?_) (by rfl) rfl ?_ ?_
        rotate_left 2
        · go_simp
          constructor
          · rfl
          · rfl
        refine hK.out _ _ ?_
        clear hK K
        refine nm_ 47 ?_
        refine pn_ 10 48 (B_ 11 2047) rfl rfl ?_
        refine done_ (by kernel_rfl) ?_
        go_wp2_with fail
        clear hjs hjn hw1k
        go_roundw
        case rel => exact ⟨j + 1, K, by omega, by go_num, hK2, hVq, hRq, hbq⟩
        case measure => simp [intOf]; omega
    · obtain rfl : j = 3 := by omega
      obtain rfl : K = 1 + op := by have h := hK.out; rw [if_pos (by omega)] at h; omega
      have q4 : decide (((3 : Nat) : Int) + 1 ≤ 3) = false := by decide
      clear hK hleq hj3
      have hop0 := hop0.out
      obtain rfl : op = -1 := by omega
      clear hop0
      have q5 : decide ((1 : Int) + -1 > 0) = false := by decide
      have hF2 := hF.out
      rw [if_neg (show ¬ ((0 : Int) ≤ -1) by decide)] at hF2
      obtain ⟨b0, b1, b2, b3⟩ := hV.out.cells
      obtain ⟨f0, f1, f2, f3⟩ := hV.out.free
      clear hw1kA
      go_upto_if 53 with fail
      go_cut [1] from 9 (fun s1 wx => ∃ (kk : Nat) (K : Int) (acc : List Ft) (A : Option Addr) (c L : Nat) (NN VV : ByteArray), kk ≤ s.size ∧ s1 = .int .i64 (kk : Int) ∧ Aside0 (acc.length = L) ∧ Aside0 (acc.length ≤ c) ∧ Aside0 (kF.F wx (fun q => V < q) A acc.length acc) ∧ Aside0 (FBox wx V 25 (.int .i64 K) (.slice A L c) (.string NN) (.string VV)) ∧ Aside0 (FBox wx R 25 (.int .i64 0) (.slice none 0 0) (.string ⟨#[]⟩) (.string ⟨#[]⟩)) ∧ Aside0 (Below w.heap.size w wx) ∧ Aside0 (res = endO s (⟨K, acc, NN, VV⟩, kk)) ∧ Aside0 (NN.size ≤ 12000))
      case rest =>
        clear b0 b1 b2 b3 f0 f1 f2 f3 hV hR hb hF2 q5 q2 q3 q1 i0 i1 hF hone
        obtain ⟨kk, K, acc, A, c, L, NN, VV, hkk, rfl, hLEN, hcap, hFr, hV, hR, hb, hfin, hsz⟩ := hcut
        by_cases hlt : kk < s.size
        · skip
          have g1 : decide ((kk : Int) ≥ (s.size : Int)) = false := decide_eq_false (by omega)
          have i0 : (0 : Int) ≤ (kk : Int) := by omega
          have i1 : (kk : Int) < (s.size : Int) := by omega
          have hbt := fun h : kk < s.size => bt_nat h
          by_cases h41 : bt s (kk : Int) = 41
          · have g2 : (bt s (kk : Int) != 41) = false := by simp [h41]
            have g3A := Aside0.mk (show wrap64 ((kk : Int) + 1) = (kk : Int) + 1 by unfold wrap64; omega)
            obtain ⟨b0, b1, b2, b3⟩ := hV.out.cells
            have hal := ralone_calls ⟨K, acc, NN, VV⟩ A c wc hsz.out hcap.out (Kd.F_now hFr.out)
            unfold fv at hal
            dsimp only [List.length_nil] at hal
            rw [hLEN.out] at hal
            cases hao : aloneOk ⟨K, acc, NN, VV⟩ with
            | false =>
              rw [hao] at hal
              have hres : Aside0 (res = none) := ⟨by rw [hfin.out]; unfold endO; rw [if_neg (by rintro ⟨_, _, h⟩; rw [hao] at h; cases h)]⟩
              replace hal := Aside0.mk hal
              clear hao h41
              skip
              go_wp2_with fail
              skip
              refine hal.out.mono ?_
              rintro e wa ⟨rfl, hba⟩
              have hRa := Aside0.mk (hR.out.below hba)
              have hbb := Aside0.mk (below_then hb.out hb.out.size hba)
              clear hal hba
              obtain ⟨c0, c1, c2, c3⟩ := hRa.out.cells
              obtain ⟨f0, f1, f2, f3⟩ := hRa.out.free
              obtain ⟨wz, hwz, hRz, hmz⟩ := put4 hRa.out (.int .i64 0) (.slice none 0 0) (.string ⟨#[]⟩) (.string ⟨#[]⟩)
              obtain ⟨r0, r1, r2, r3⟩ := hRz.cells
              have hbz := Aside0.mk (mod_below hmz hbb.out hRle.out)
              clear hmz hRz
              go_wp2_with fail
              refine bodyPost_ret (v := .tuple #[noF, .int .i64 (-1)]) (by simp [results, Try.results44, go_sem, r0, r1, r2, r3]) rfl ?_
              exact ⟨by rw [hres.out], hbz.out⟩
            | true =>
              rw [hao] at hal
              have hres : Aside0 (res = some (⟨K, acc, NN, VV⟩, kk + 1)) := ⟨by rw [hfin.out]; unfold endO; rw [if_pos ⟨hlt, h41, hao⟩]⟩
              replace hal := Aside0.mk hal
              clear hao h41
              skip
              go_wp2_with fail
              skip
              refine hal.out.mono ?_
              rintro e wa ⟨rfl, hba⟩
              have hRa := hR.out.below hba
              have hVa := hV.out.below hba
              have hFa := Kd.F_below hFr.out hba
              have hbb := Aside0.mk (below_then hb.out hb.out.size hba)
              obtain ⟨d0, d1, d2, d3⟩ := hVa.cells
              obtain ⟨f0, f1, f2, f3⟩ := hRa.free
              obtain ⟨c0, c1, c2, c3⟩ := hRa.cells
              obtain ⟨wz, hwz, hRz, hmz⟩ := put4 hRa (.int .i64 K) (.slice A L c) (.string NN) (.string VV)
              obtain ⟨r0, r1, r2, r3⟩ := hRz.cells
              have hbz := Aside0.mk (mod_below hmz hbb.out hRle.out)
              have hFz := Aside0.mk (F_mod hFa hmz (fun j hj e => by have e : j = R := e; have hj : V < j := hj; have := hRV.out; omega))
              clear hal hba hmz hRz hRa hVa hFa b0 b1 b2 b3
              have g3 := g3A.out
              go_wp2_with fail
              clear g3
              refine bodyPost_ret (v := .tuple #[.agg #[.int .i64 K, .slice A L c, .string NN, .string VV], .int .i64 ((kk : Int) + 1)]) (by simp [results, Try.results44, go_sem, r0, r1, r2, r3]) rfl ?_
              refine ⟨?_, hbz.out⟩
              rw [hres.out]
              exact ⟨A, c, (by unfold fv; dsimp only; rw [hLEN.out]; rfl), hcap.out, Kd.F_mono hFz.out (fun q hq => by have hq : V < q := hq; have := hVle.out; show w.heap.size ≤ q; omega)⟩
          · have g2 : (bt s (kk : Int) != 41) = true := by simp [h41]
            have hres : Aside0 (res = none) := ⟨by rw [hfin.out]; unfold endO; rw [if_neg (by rintro ⟨_, h, _⟩; exact h41 h)]⟩
            clear h41
            skip
            obtain ⟨c0, c1, c2, c3⟩ := hR.out.cells
            obtain ⟨f0, f1, f2, f3⟩ := hR.out.free
            obtain ⟨wz, hwz, hRz, hmz⟩ := put4 hR.out (.int .i64 0) (.slice none 0 0) (.string ⟨#[]⟩) (.string ⟨#[]⟩)
            obtain ⟨r0, r1, r2, r3⟩ := hRz.cells
            have hbz := Aside0.mk (mod_below hmz hb.out hRle.out)
            clear hmz hRz
            go_wp2_with fail
            refine bodyPost_ret (v := .tuple #[noF, .int .i64 (-1)]) (by simp [results, Try.results44, go_sem, r0, r1, r2, r3]) rfl ?_
            exact ⟨by rw [hres.out], hbz.out⟩
        · skip
          have g1 : decide ((kk : Int) ≥ (s.size : Int)) = true := decide_eq_true (by omega)
          have hres : Aside0 (res = none) := ⟨by rw [hfin.out]; unfold endO; rw [if_neg (by rintro ⟨h, _⟩; exact hlt h)]⟩
          skip
          obtain ⟨c0, c1, c2, c3⟩ := hR.out.cells
          obtain ⟨f0, f1, f2, f3⟩ := hR.out.free
          obtain ⟨wz, hwz, hRz, hmz⟩ := put4 hR.out (.int .i64 0) (.slice none 0 0) (.string ⟨#[]⟩) (.string ⟨#[]⟩)
          obtain ⟨r0, r1, r2, r3⟩ := hRz.cells
          have hbz := Aside0.mk (mod_below hmz hb.out hRle.out)
          clear hmz hRz
          go_wp2_with fail
          refine bodyPost_ret (v := .tuple #[noF, .int .i64 (-1)]) (by simp [results, Try.results44, go_sem, r0, r1, r2, r3]) rfl ?_
          exact ⟨by rw [hres.out], hbz.out⟩
      go_wp2_with fail
      go_loopw [1] (fun s1 wq => ∃ k3 : Nat, k3 ≤ s.size ∧ s1 = .int .i64 (k3 : Int) ∧ wq = wr ∧ Aside0 (k1 ≤ k3) ∧ Aside0 (eqAt s k3 = eqAt s k1)) (fun s1 _ => s.size - (intOf s1).toNat)
      case atStart => exact ⟨k1, by omega, rfl, rfl, ⟨Nat.le_refl _⟩, ⟨rfl⟩⟩
      case round =>
        obtain ⟨k3, hk3, rfl, rfl, hk13, he3⟩ := hrel
        by_cases hlt3 : k3 < s.size
        · have i0 : (0 : Int) ≤ (k3 : Int) := by omega
          have i1 : (k3 : Int) < (s.size : Int) := by omega
          have g0 : decide ((k3 : Int) < (s.size : Int)) = true := decide_eq_true i1
          have hbt := fun h : k3 < s.size => bt_nat h
          have hw3A := Aside0.mk (show wrap64 ((k3 : Int) + 1) = ((k3 + 1 : Nat) : Int) by rw [wrap_in _ (by omega)]; omega)
          by_cases h61 : bt s (k3 : Int) = 61
          · have g2 : (bt s (k3 : Int) != 61) = false := by simp [h61]
            have heq : eqAt s k1 = k3 := by rw [← he3.out]; exact eqAt_stop (fun h => h.2 h61)
            have hP : plainF s k1 = (valF s (k3 + 1) []).map fun r => if bt s (r.2 : Int) = 42 then (⟨if r.1 = [] then 6 else 5, [], small (s.extract k1 k3), strOfNums r.1⟩, r.2 + 1) else (⟨4, [], small (s.extract k1 k3), strOfNums r.1⟩, r.2) := by
              unfold plainF; rw [heq, if_pos hlt3]
            rw [hP] at hF2
            have g3 : decide ((k3 : Int) ≥ (s.size : Int)) = false := decide_eq_false (by omega)
            have hval := Aside0.mk (fun W => rvalue_ours s hs (k3 + 1) (by omega) W)
            have hvl := valF_at s (k3 + 1) []
            have hsm := Aside0.mk (fun W => PFilterBounds.rsmall_calls (s.extract k1 k3) (by rw [extract_size (by omega)]; omega) W)
            have hsz : Aside0 ((small (s.extract k1 k3)).size ≤ 12000) := ⟨by rw [small_size, extract_size (by omega)]; omega⟩
            have hsl := slice_text s k1 k3 ⟨hk13.out, hk3⟩
            obtain ⟨NN, hNN⟩ : ∃ NN, small (s.extract k1 k3) = NN := ⟨_, rfl⟩
            obtain ⟨SX, hSX⟩ : ∃ SX, s.extract k1 k3 = SX := ⟨_, rfl⟩
            rw [hNN] at hF2 hsm hsz
            rw [hSX] at hsm hsl
            clear hP heq h61 hNN hSX
            cases hvv : valF s (k3 + 1) [] with
            | none =>
              rw [hvv] at hval hF2
              have hres : Aside0 (res = none) := ⟨hF2⟩
              have g4 : decide ((-1 : Int) < 0) = true := by decide
              replace hval : Aside0 (∀ W, Calls Try.prog 69 #[.string s, .int .i64 ((k3 + 1 : Nat) : Int)] W fun e w' => e = .returned (.tuple #[.string ⟨#[]⟩, .int .i64 (-1)]) ∧ Below W.heap.size W w') := hval
              clear hvv hvl
              have hw3 := hw3A.out
              go_wp2_with fail
              clear hw3
              refine (hval.out _).mono ?_
              rintro e w5 ⟨rfl, hb5⟩
              have hR5 := Aside0.mk (hR.out.below hb5)
              have hb5' := Aside0.mk (below_then hb.out hb.out.size hb5)
              clear hb5 b0 b1 b2 b3 f0 f1 f2 f3 hsl
              obtain ⟨c0, c1, c2, c3⟩ := hR5.out.cells
              obtain ⟨f0, f1, f2, f3⟩ := hR5.out.free
              obtain ⟨wz, hwz, hRz, hmz⟩ := put4 hR5.out (.int .i64 0) (.slice none 0 0) (.string ⟨#[]⟩) (.string ⟨#[]⟩)
              obtain ⟨r0, r1, r2, r3⟩ := hRz.cells
              have hbz := Aside0.mk (mod_below hmz hb5'.out hRle.out)
              clear hmz hRz
              go_wp2_with fail
              refine bodyPost_ret (v := .tuple #[noF, .int .i64 (-1)]) (by simp [results, Try.results44, go_sem, r0, r1, r2, r3]) rfl ?_
              exact ⟨by rw [hres.out], hbz.out⟩
            | some r =>
              obtain ⟨l, k4⟩ := r
              obtain ⟨hk4s, hk4c, hk34⟩ := hvl (l, k4) hvv
              rw [hvv] at hval hF2
              replace hval : Aside0 (∀ W, Calls Try.prog 69 #[.string s, .int .i64 ((k3 + 1 : Nat) : Int)] W fun e w' => e = .returned (.tuple #[.string (strOfNums l), .int .i64 (k4 : Int)]) ∧ Below W.heap.size W w') := hval
              replace hF2 : res = endO s (if bt s (k4 : Int) = 42 then (⟨if l = [] then 6 else 5, [], NN, strOfNums l⟩, k4 + 1) else (⟨4, [], NN, strOfNums l⟩, k4)) := hF2
              replace hF2 := Aside0.mk hF2
              have hw4A := Aside0.mk (show wrap64 ((k4 : Int) + 1) = ((k4 + 1 : Nat) : Int) by rw [wrap_in _ (by omega)]; omega)
              obtain ⟨k5, hk5⟩ : ∃ k5, k4 + 1 = k5 := ⟨_, rfl⟩
              rw [hk5] at hw4A
              have hk5s : k5 ≤ s.size := by omega
              replace hk5 := Aside0.mk hk5
              have g4 : decide ((k4 : Int) < 0) = false := decide_eq_false (by omega)
              have hem := str_empty l
              dsimp only at hk4s hk4c hk34
              clear hk4c
              have n0 : (0 : Int) ≤ (k4 : Int) := by omega
              have n1 : (k4 : Int) < (s.size : Int) := by omega
              have hb4 := fun h : k4 < s.size => bt_nat h
              obtain ⟨VV, hVV⟩ : ∃ VV, strOfNums l = VV := ⟨_, rfl⟩
              rw [hVV] at hval hF2 hem
              replace hem := Aside0.mk hem
              clear hvv hvl hVV
              have hw3 := hw3A.out
              go_wp2_with fail
              clear hw3
              refine (hval.out _).mono ?_
              rintro e w5 ⟨rfl, hb5⟩
              have hR5 := Aside0.mk (hR.out.below hb5)
              have hV5 := Aside0.mk (hV.out.below hb5)
              have hb5' := Aside0.mk (below_then hb.out hb.out.size hb5)
              clear hb5 b0 b1 b2 b3 f0 f1 f2 f3
              go_wp2_with fail
              refine (hsm.out _).mono ?_
              rintro e w6 ⟨rfl, hb6⟩
              have hR6 := hR5.out.below hb6
              have hV6 := hV5.out.below hb6
              have hb6' := below_then hb5'.out hb5'.out.size hb6
              obtain ⟨b0, b1, b2, b3⟩ := hV6.cells
              obtain ⟨f0, f1, f2, f3⟩ := hV6.free
              obtain ⟨w7, hw7, hV7, hm7⟩ := put4 hV6 (.int .i64 4) (.slice none 0 0) (.string NN) (.string VV)
              have hR7 := hR6.mod hm7 (show ¬ R = V by have := hRV.out; omega)
              have hb7 := mod_below hm7 hb6' hVle.out
              clear hm7 hR6 hV6 hb6' hb6 hR5 hV5 hb5' hval hsm
              by_cases h42 : bt s (k4 : Int) = 42
              · have m1 : (bt s (k4 : Int) == 42) = true := by simp [h42]
                rw [if_pos h42] at hF2
                rw [hk5.out] at hF2
                obtain ⟨u0, _, _, _⟩ := hV7.cells
                obtain ⟨z0, _, _, _⟩ := hV7.free
                have hV8 := hV7.set0 (.int .i64 5)
                have hm8 := set_mod w7 V 0 (.int .i64 5)
                obtain ⟨w8, hw8⟩ : ∃ wn, w7.setCell ⟨V, 0, none⟩ (.int .i64 5) = wn := ⟨_, rfl⟩
                rw [hw8] at hV8 hm8
                have hR8 := hR7.mod hm8 (show ¬ R = V by have := hRV.out; omega)
                have hb8 := mod_below hm8 hb7 hVle.out
                clear hm8 hR7 hV7 hb7
                by_cases hl : l = []
                · rw [if_pos hl] at hF2
                  have m2 : (VV.toList == []) = true := by rw [hem.out, hl]; rfl
                  obtain ⟨u1, _, _, _⟩ := hV8.cells
                  obtain ⟨z1, _, _, _⟩ := hV8.free
                  have hV9 := hV8.set0 (.int .i64 6)
                  have hm9 := set_mod w8 V 0 (.int .i64 6)
                  obtain ⟨w9, hw9⟩ : ∃ wn, w8.setCell ⟨V, 0, none⟩ (.int .i64 6) = wn := ⟨_, rfl⟩
                  rw [hw9] at hV9 hm9
                  have hR := Aside0.mk (hR8.mod hm9 (show ¬ R = V by have := hRV.out; omega))
                  have hb := Aside0.mk (mod_below hm9 hb8 hVle.out)
                  have hV := Aside0.mk hV9
                  have hfin : Aside0 (res = endO s (⟨6, [], NN, VV⟩, k5)) := hF2
                  have hFr := Aside0.mk (Kd.F_nil kF w9 (fun q => V < q))
                  have hcap : Aside0 (([] : List Ft).length ≤ 0) := ⟨Nat.le_refl _⟩
                  clear hm9 hR8 hV9 hV8 hb8
                  have hw4 := hw4A.out
                  go_wp2_with fail
                  clear hw4
                  go_meet
                  case rel => exact ⟨k5, 6, [], none, 0, 0, NN, VV, hk5s, (by first | rfl | (rw [show (k5 : Int) = (k4 : Int) + 1 by have := hk5.out; omega])), ⟨rfl⟩, hcap, hFr, hV, hR, hb, hfin, hsz⟩
                · rw [if_neg hl] at hF2
                  have m2 : (VV.toList == []) = false := by rw [hem.out]; cases l with
                    | nil => exact absurd rfl hl
                    | cons _ _ => rfl
                  have hR := Aside0.mk hR8
                  have hb := Aside0.mk hb8
                  have hV := Aside0.mk hV8
                  have hfin : Aside0 (res = endO s (⟨5, [], NN, VV⟩, k5)) := hF2
                  have hFr := Aside0.mk (Kd.F_nil kF w8 (fun q => V < q))
                  have hcap : Aside0 (([] : List Ft).length ≤ 0) := ⟨Nat.le_refl _⟩
                  clear hR8 hV8 hb8
                  have hw4 := hw4A.out
                  go_wp2_with fail
                  clear hw4
                  go_meet
                  case rel => exact ⟨k5, 5, [], none, 0, 0, NN, VV, hk5s, (by first | rfl | (rw [show (k5 : Int) = (k4 : Int) + 1 by have := hk5.out; omega])), ⟨rfl⟩, hcap, hFr, hV, hR, hb, hfin, hsz⟩
              · have m1 : (bt s (k4 : Int) == 42) = false := by simpa using h42
                rw [if_neg h42] at hF2
                have hR := Aside0.mk hR7
                have hb := Aside0.mk hb7
                have hV := Aside0.mk hV7
                have hfin : Aside0 (res = endO s (⟨4, [], NN, VV⟩, k4)) := hF2
                have hFr := Aside0.mk (Kd.F_nil kF w7 (fun q => V < q))
                have hcap : Aside0 (([] : List Ft).length ≤ 0) := ⟨Nat.le_refl _⟩
                clear hR7 hV7 hb7
                go_wp2_with fail
                go_meet
                case rel => exact ⟨k4, 4, [], none, 0, 0, NN, VV, Nat.le_of_lt hk4s, rfl, ⟨rfl⟩, hcap, hFr, hV, hR, hb, hfin, hsz⟩
          · have g2 : (bt s (k3 : Int) != 61) = true := by simp [h61]
            have he4 : Aside0 (eqAt s (k3 + 1) = eqAt s k1) := ⟨by rw [eqAt_step hlt3 h61]; exact he3.out⟩
            have hk14 : Aside0 (k1 ≤ k3 + 1) := ⟨by have := hk13.out; omega⟩
            have hw3 := hw3A.out
            go_wp2_with fail
            clear hw3
            go_roundw
            case rel => exact ⟨k3 + 1, by omega, by go_num, (by first | rfl | trivial), hk14, he4⟩
            case measure => simp [intOf]; omega
        · have g0 : decide ((k3 : Int) < (s.size : Int)) = false := decide_eq_false (by omega)
          have g3 : decide ((k3 : Int) ≥ (s.size : Int)) = true := decide_eq_true (by omega)
          have heq : eqAt s k1 = k3 := by rw [← he3.out]; exact eqAt_stop (fun h => hlt3 h.1)
          have hres : Aside0 (res = none) := ⟨by rw [hF2]; unfold plainF; rw [heq, if_neg hlt3]; rfl⟩
          clear b0 b1 b2 b3 f0 f1 f2 f3
          obtain ⟨c0, c1, c2, c3⟩ := hR.out.cells
          obtain ⟨f0, f1, f2, f3⟩ := hR.out.free
          obtain ⟨wz, hwz, hRz, hmz⟩ := put4 hR.out (.int .i64 0) (.slice none 0 0) (.string ⟨#[]⟩) (.string ⟨#[]⟩)
          obtain ⟨r0, r1, r2, r3⟩ := hRz.cells
          have hbz := Aside0.mk (mod_below hmz hb.out hRle.out)
          clear hmz hRz
          go_wp2_with fail
          refine bodyPost_ret (v := .tuple #[noF, .int .i64 (-1)]) (by simp [results, Try.results44, go_sem, r0, r1, r2, r3]) rfl ?_
          exact ⟨by rw [hres.out], hbz.out⟩
end Go.Proofs.Ytgnmkblaockghaa
