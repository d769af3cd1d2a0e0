/- dn.value: a value as a text. -/
import Derived.Test.YthbjgcmbbdlfkaaCe
set_option linter.unusedVariables false
set_option linter.unusedSimpArgs false
namespace Go.Proofs.Ythbjgcmbbdlfkaa
open Go.RowKit Go.Shelf Go.Proofs.YthbjgcmbbdlfkaaW.PrintWords Go.Proofs.YthbjgcmbbdlfkaaW.PrintMore Go.Proofs.YthbjgcmbbdlfkaaW.PrintLast

theorem info5 : (Try.prog.info? 5).map (fun i => (i.zero, i.size, i.bytes)) = some (some (.int .u8 0), 1, 1) := by kernel_rfl
def hexS : ByteArray := ⟨#[48, 49, 50, 51, 52, 53, 54, 55, 56, 57, 97, 98, 99, 100, 101, 102]⟩
def hexd (d : Int) : Int := if d < 10 then 48 + d else 87 + d
theorem hex_get (d : Int) (h0 : 0 ≤ d) (h1 : d < 16) : ((({ data := #[48, 49, 50, 51, 52, 53, 54, 55, 56, 57, 97, 98, 99, 100, 101, 102] } : ByteArray)[d.toNat]'(by show d.toNat < 16; omega)).toNat : Int) = hexd d := by
  have h : d = 0 ∨ d = 1 ∨ d = 2 ∨ d = 3 ∨ d = 4 ∨ d = 5 ∨ d = 6 ∨ d = 7 ∨ d = 8 ∨ d = 9 ∨ d = 10 ∨ d = 11 ∨ d = 12 ∨ d = 13 ∨ d = 14 ∨ d = 15 := by omega
  rcases h with rfl | rfl | rfl | rfl | rfl | rfl | rfl | rfl | rfl | rfl | rfl | rfl | rfl | rfl | rfl | rfl <;> rfl
/-- A byte of a value, the k-th of n, as a text. -/
def valB (n k : Nat) (x : Int) : List Int :=
  if decide (x < 32) || decide (126 < x) then [92, hexd (x / 16), hexd (x % 16)]
  else if signB x || ((k == 0 && (x == 32 || x == 35)) || (k + 1 == n && x == 32)) then [92, x] else [x]
theorem valB_length (n k : Nat) (x : Int) : (valB n k x).length ≤ 3 := by unfold valB; split <;> (try split) <;> simp
def pre (f : Nat → Int) (n k : Nat) : List Int := (List.range k).flatMap fun i => valB n i (f i)
theorem pre_next (f : Nat → Int) (n k : Nat) : pre f n (k + 1) = pre f n k ++ valB n k (f k) := by unfold pre; rw [List.range_succ, List.flatMap_append]; simp
theorem pre_length (f : Nat → Int) (n k : Nat) : (pre f n k).length ≤ 3 * k := by
  induction k with
  | zero => simp [pre]
  | succ k ih => rw [pre_next, List.length_append]; have := valB_length n k (f k); omega
/-- A value as a text. -/
def valText (s : ByteArray) : ByteArray := strOfNums (pre (fun j => (bytesOf s).getD j 0) s.size s.size)
theorem reads3 (W : World) (a b c : Int) : ReadsRow (fun (x : Int) cs => cs = [.int .u8 x]) 1 (W.alloc (.cells #[.int .u8 a, .int .u8 b, .int .u8 c] 5)) (some ⟨W.heap.size, 0, none⟩) 3 [a, b, c] := by
  refine ⟨rfl, by omega, fun _ => ⟨_, rfl, ?_⟩⟩
  intro j p hp
  have hj : j = 0 ∨ j = 1 ∨ j = 2 := by
    have := (List.getElem?_eq_some_iff.1 hp).1
    simp at this; omega
  rcases hj with rfl | rfl | rfl <;> (
    obtain rfl := Option.some.inj hp
    refine ⟨_, rfl, rfl, ?_⟩
    intro i u hu
    have hi : i = 0 := by have := (List.getElem?_eq_some_iff.1 hu).1; simp at this; omega
    subst hi
    obtain rfl := Option.some.inj hu
    have hh : (W.alloc (.cells #[.int .u8 a, .int .u8 b, .int .u8 c] 5)).heap[W.heap.size]? = some (.cells #[.int .u8 a, .int .u8 b, .int .u8 c] 5) := Array.getElem?_push_size
    unfold World.cell?
    rw [show ((⟨W.heap.size, 0, none⟩ : Addr).add _).block = W.heap.size from rfl, hh]
    rfl)
set_option maxHeartbeats 4000000 in
theorem value_calls (s : ByteArray) (w : World) (hs : s.size ≤ 12000) :
    Calls Try.prog 28 #[.string s] w fun e w' => e = .returned (.string (valText s)) ∧ Below w.heap.size w w' := by
  have hsg := Aside0.mk (signs_calls w)
  go_enter Try.func28, Try.ntmps28
  go_wp2_with fail
  refine hsg.out.mono ?_
  rintro e w0' ⟨rfl, hb0, hm0⟩
  obtain ⟨w0, rfl⟩ : ∃ w0, w0 = w := ⟨_, rfl⟩
  obtain ⟨w1, rfl⟩ : ∃ w1, w1 = w0' := ⟨_, rfl⟩
  have kb := fun W => print_bytes (P := Try.prog) 9 38 5 Try.underlying9 Try.underlying38 Try.underlying5 s W
  have hN := bytes_new w1 s
  have hb := bytes_below (Below.refl w1.heap.size w1) (Nat.le_refl _) 5 s
  have hx : ∀ j, j < s.size → 0 ≤ (bytesOf s).getD j 0 ∧ (bytesOf s).getD j 0 < 256 := by
    intro j hj
    have h' : j < (bytesOf s).length := by rw [bytesOf_length]; exact hj
    simp only [List.getD_eq_getElem?_getD, List.getElem?_eq_getElem h', Option.getD_some]
    exact bytesOf_bound (List.getElem_mem h')
  have hv : valText s = strOfNums (pre (fun j => (bytesOf s).getD j 0) s.size s.size) := rfl
  obtain ⟨r, hr⟩ : ∃ r, valText s = r := ⟨_, rfl⟩
  rw [hr] at hv
  obtain ⟨M, hM⟩ : ∃ M, s.size = M := ⟨_, rfl⟩
  obtain ⟨f, hf⟩ : ∃ f : Nat → Int, (fun j => (bytesOf s).getD j 0) = f := ⟨_, rfl⟩
  have hf' : ∀ j, (bytesOf s).getD j 0 = f j := fun j => congrFun hf j
  rw [hf, hM] at hN hv
  rw [hM] at hs hx
  simp only [hM] at kb
  simp only [hf'] at hx
  have hm1 : (Lib.bytesWorld w1 5 s).heap[w0.heap.size]? = some (.map signEs 8) := (hb.block _ (Array.getElem?_eq_some_iff.1 hm0).1).trans hm0
  have hbb := Aside0.mk (below_then hb0 hb0.size hb)
  replace hN := Aside0.mk hN
  replace hx := Aside0.mk hx
  replace hm1 := Aside0.mk hm1
  replace hv := Aside0.mk hv
  replace hr := Aside0.mk hr
  have hM' := Aside0.mk hM
  clear hf hf' hb hb0 hm0
  go_wp2_with fail
  clear kb
  obtain ⟨w2, hw2⟩ : ∃ w2, Lib.bytesWorld w1 5 s = w2 := ⟨_, rfl⟩
  rw [hw2] at hN hbb hm1 ⊢
  clear hw2
  obtain ⟨cap, hcap⟩ : ∃ c, grownCap w1 M 0 5 = c := ⟨_, rfl⟩
  rw [hcap]
  clear hcap
  go_loopw [4, 11] (fun s4 s11 wr => ∃ (k : Nat) (v : Value), k ≤ M ∧ s4 = v ∧ s11 = .int .i64 k ∧ Aside0 (Below w2.heap.size w2 wr) ∧ Aside0 ((Kd.int .u8).R 5 wr 0 (fun q => w2.heap.size ≤ q) v (pre f M k))) (fun _ s11 _ => M - (intOf s11).toNat)
  case atStart => exact ⟨0, _, Nat.zero_le _, rfl, rfl, ⟨Below.refl _ _⟩, ⟨Kd.R_nil _ _ _ _ _⟩⟩
  case round =>
    obtain ⟨k, v, hk, rfl, rfl, hkeep, hR⟩ := hrel
    by_cases hlt : k < M
    · obtain ⟨p0, p1⟩ := hN.out k hlt
      replace p0 := pw_cell_below hkeep.out p0
      have hm := (hkeep.out.block _ (Array.getElem?_eq_some_iff.1 hm1.out).1).trans hm1.out
      have hks := hkeep.out.size
      obtain ⟨x0, x1⟩ := hx.out k hlt
      have hstep := Aside0.mk (fun l (h : valB M k (f k) = l) => show pre f M (k + 1) = pre f M k ++ l by rw [pre_next, h])
      have hpl := pre_length f M k
      have i1 : (0 : Int) ≤ (k : Int) := by omega
      have i2 : (k : Int) < (M : Int) := by omega
      obtain ⟨x, hxx⟩ : ∃ x, f k = x := ⟨_, rfl⟩
      rw [hxx] at p0 x0 x1 hstep
      clear hxx p1
      obtain ⟨A', c', ev⟩ := Kd.R_slice hR.out
      obtain ⟨n', hn'⟩ : ∃ n', (pre f M k).length = n' := ⟨_, rfl⟩
      rw [hn'] at ev hpl
      subst ev
      by_cases c1 : x < 32
      · have d1 : decide (x < 32) = true := decide_eq_true c1
        have hnx := Aside0.mk (hstep.out _ (show valB M k x = [92, hexd (x / 16), hexd (x % 16)] from by unfold valB; rw [d1]; rfl))
        clear hstep
        have e1 : bits .and .u8 x 15 = x % 16 := u8_and15 x x0 x1
        have f1 : 0 ≤ x / 16 := by omega
        have f2 : x / 16 < 16 := by omega
        have f3 : 0 ≤ x % 16 := by omega
        have f4 : x % 16 < 16 := by omega
        have e2 := hex_get (x / 16) f1 f2
        have e3 := hex_get (x % 16) f3 f4
        generalize hexd (x / 16) = ha at *
        generalize hexd (x % 16) = hb' at *
        go_wp2_with fail
        refine start_ (n := 10) (S := fun w' => True) (ds := []) #[false, false, false, false, false, false, false, false, false, false] (by kernel_rfl) rfl rfl (trivial) (fun hHeld => ?_)
        refine pure_ (i := 0) (N := some 23) (v := ?_) (a' := ?_) #[true, false, false, false, false, false, false, false, false, false] rfl rfl (by kernel_rfl) (fun _ _ _ h => h) (Or.inl ⟨by rfl, ?_⟩) ?_ ?_
        rotate_left
        · intro w'
          go_simp
          with_reducible rfl
        rotate_left
        · simp only [Act.put, List.setIfInBounds_toArray, List.set_cons_zero, List.set_cons_succ, i64_w, i32_w]
          rfl
        refine pure_ (i := 1) (N := some 24) (v := ?_) (a' := ?_) #[true, true, false, false, false, false, false, false, false, false] rfl rfl (by kernel_rfl) (fun _ _ _ h => h) (Or.inl ⟨by rfl, ?_⟩) ?_ ?_
        rotate_left
        · intro w'
          go_simp
          with_reducible rfl
        rotate_left
        · simp only [Act.put, List.setIfInBounds_toArray, List.set_cons_zero, List.set_cons_succ, i64_w, i32_w]
          rfl
        refine pure_ (i := 2) (N := some 25) (v := ?_) (a' := ?_) #[true, true, true, false, false, false, false, false, false, false] rfl rfl (by kernel_rfl) (fun _ _ _ h => h) (Or.inl ⟨by rfl, ?_⟩) ?_ ?_
        rotate_left
        · intro w'
          go_simp
          with_reducible rfl
        rotate_left
        · simp only [Act.put, List.setIfInBounds_toArray, List.set_cons_zero, List.set_cons_succ, i64_w, i32_w]
          rfl
        refine pure_ (i := 4) (N := some 27) (v := ?_) (a' := ?_) #[true, true, true, false, true, false, false, false, false, false] rfl rfl (by kernel_rfl) (fun _ _ _ h => h) (Or.inl ⟨by rfl, ?_⟩) ?_ ?_
        rotate_left
        · intro w'
          go_simp
          with_reducible rfl
        rotate_left
        · simp only [Act.put, List.setIfInBounds_toArray, List.set_cons_zero, List.set_cons_succ, i64_w, i32_w]
          rfl
        refine pure_ (i := 5) (N := some 28) (v := ?_) (a' := ?_) #[true, true, true, false, true, true, false, false, false, false] rfl rfl (by kernel_rfl) (fun _ _ _ h => h) (Or.inl ⟨by rfl, ?_⟩) ?_ ?_
        rotate_left
        · intro w'
          go_simp
          with_reducible rfl
        rotate_left
        · simp only [Act.put, List.setIfInBounds_toArray, List.set_cons_zero, List.set_cons_succ, i64_w, i32_w]
          rfl
        refine take_ (i := 3) (N := some 26) (v := ?_) (a' := ?_) #[true, true, true, true, true, true, false, false, false, false] rfl rfl (by kernel_rfl) (fun _ _ _ h => h) (Or.inl ⟨by rfl, ?_⟩) hHeld ?_ ?_
        rotate_left
        · intro w' s0
          go_simp
          with_reducible rfl
        rotate_left
        · simp only [Act.put, List.setIfInBounds_toArray, List.set_cons_zero, List.set_cons_succ, i64_w, i32_w]
          rfl
        refine take_ (i := 6) (N := some 29) (v := ?_) (a' := ?_) #[true, true, true, true, true, true, true, false, false, false] rfl rfl (by kernel_rfl) (fun _ _ _ h => h) (Or.inl ⟨by rfl, ?_⟩) hHeld ?_ ?_
        rotate_left
        · intro w' s0
          go_simp
          with_reducible rfl
        rotate_left
        · simp only [Act.put, List.setIfInBounds_toArray, List.set_cons_zero, List.set_cons_succ, i64_w, i32_w]
          rfl
        refine one_ (i := 7) (N := some 30) #[true, true, true, true, true, true, true, true, false, false] rfl rfl (by kernel_rfl) (by decide) (fun K hK => ?_)
        refine value_ (w1 := ?_) (v := ?_) (by rfl) rfl ?_ ?_
        rotate_left 2
        · go_simp
          constructor
          · rfl
          · rfl
        refine hK.out _ _ (trivial) (fun hHeld => ?_)
        clear hK K
        refine norm_ (a' := ?_) ?_ ?_
        rotate_left
        · show Act.put _ (some 30) _ = _
          simp only [Act.put, List.setIfInBounds_toArray, List.set_cons_zero, List.set_cons_succ, i64_w, i32_w]
          rfl
        refine one_ (i := 8) (N := some 31) #[true, true, true, true, true, true, true, true, true, false] rfl rfl (by kernel_rfl) (by decide) (fun K hK => ?_)
        refine Kd.R_append_rows_step (Kd.int .u8) (Rr := fun x cs => cs = [.int .u8 x]) (w0 := wr.drew.alloc (.cells #[.int .u8 92, .int .u8 ha, .int .u8 hb'] 5)) 0 (by rfl) (.tmp 23) (.tmp 30) 38 5 (.int .u8 0) 1 rfl Try.underlying38 info5 rfl (by decide) (by omega) (.slice A' n' c') (pre f M k) [92, ha, hb'] (some ⟨wr.heap.size, 0, none⟩) 3 3 (fun q => w2.heap.size ≤ q) (fun _ => False) rfl rfl (Kd.R_below hR.out (below_then (below_drew (Below.refl _ _)) (Nat.le_refl _) (below_alloc (Below.refl _ _) _))) (reads3 wr.drew 92 ha hb') (fun _ _ h => h) (fun _ h => h.elim) (fun q hq => by simp at hq; omega) (Below.refl _ _) (Nat.zero_le _) (by omega) ?_
        intro v1 w9 ho _ hg _
        replace ho := Aside0.mk ho
        replace hg := Aside0.mk hg
        refine hK.out _ _ (trivial) (fun hHeld => ?_)
        clear hK K
        refine norm_ (a' := ?_) ?_ ?_
        rotate_left
        · show Act.put _ (some 31) _ = _
          simp only [Act.put, List.setIfInBounds_toArray, List.set_cons_zero, List.set_cons_succ, i64_w, i32_w]
          rfl
        refine pure_ (i := 9) (N := some 4) (v := ?_) (a' := ?_) #[true, true, true, true, true, true, true, true, true, true] rfl rfl (by kernel_rfl) (fun _ _ _ h => h) (Or.inl ⟨by rfl, ?_⟩) ?_ ?_
        rotate_left
        · intro w'
          go_simp
          with_reducible rfl
        rotate_left
        · simp only [Act.put, List.setIfInBounds_toArray, List.set_cons_zero, List.set_cons_succ, i64_w, i32_w]
          rfl
        refine done_ (by kernel_rfl) ?_
        go_wp2_with fail
        go_roundw
        case rel => exact ⟨k + 1, _, by omega, rfl, by go_num, ⟨hkeep.out.trans (Below.grown (below_then (below_drew (Below.refl _ _)) (Nat.le_refl _) (below_alloc (Below.refl _ _) _) |>.mono hkeep.out.size) hg.out (by have := hkeep.out.size; simp; omega) (fun q hq => hR.out.1 q hq))⟩, ⟨by rw [hnx.out]; exact ho.out⟩⟩
        case measure => simp [intOf]; omega
      · have d1 : decide (x < 32) = false := decide_eq_false c1
        by_cases c2 : 126 < x
        · have d2 : decide (126 < x) = true := decide_eq_true c2
          have hnx := Aside0.mk (hstep.out _ (show valB M k x = [92, hexd (x / 16), hexd (x % 16)] from by unfold valB; rw [d1, d2]; rfl))
          clear hstep
          have e1 : bits .and .u8 x 15 = x % 16 := u8_and15 x x0 x1
          have f1 : 0 ≤ x / 16 := by omega
          have f2 : x / 16 < 16 := by omega
          have f3 : 0 ≤ x % 16 := by omega
          have f4 : x % 16 < 16 := by omega
          have e2 := hex_get (x / 16) f1 f2
          have e3 := hex_get (x % 16) f3 f4
          generalize hexd (x / 16) = ha at *
          generalize hexd (x % 16) = hb' at *
          go_wp2_with fail
          refine start_ (n := 10) (S := fun w' => True) (ds := []) #[false, false, false, false, false, false, false, false, false, false] (by kernel_rfl) rfl rfl (trivial) (fun hHeld => ?_)
          refine pure_ (i := 0) (N := some 23) (v := ?_) (a' := ?_) #[true, false, false, false, false, false, false, false, false, false] rfl rfl (by kernel_rfl) (fun _ _ _ h => h) (Or.inl ⟨by rfl, ?_⟩) ?_ ?_
          rotate_left
          · intro w'
            go_simp
            with_reducible rfl
          rotate_left
          · simp only [Act.put, List.setIfInBounds_toArray, List.set_cons_zero, List.set_cons_succ, i64_w, i32_w]
            rfl
          refine pure_ (i := 1) (N := some 24) (v := ?_) (a' := ?_) #[true, true, false, false, false, false, false, false, false, false] rfl rfl (by kernel_rfl) (fun _ _ _ h => h) (Or.inl ⟨by rfl, ?_⟩) ?_ ?_
          rotate_left
          · intro w'
            go_simp
            with_reducible rfl
          rotate_left
          · simp only [Act.put, List.setIfInBounds_toArray, List.set_cons_zero, List.set_cons_succ, i64_w, i32_w]
            rfl
          refine pure_ (i := 2) (N := some 25) (v := ?_) (a' := ?_) #[true, true, true, false, false, false, false, false, false, false] rfl rfl (by kernel_rfl) (fun _ _ _ h => h) (Or.inl ⟨by rfl, ?_⟩) ?_ ?_
          rotate_left
          · intro w'
            go_simp
            with_reducible rfl
          rotate_left
          · simp only [Act.put, List.setIfInBounds_toArray, List.set_cons_zero, List.set_cons_succ, i64_w, i32_w]
            rfl
          refine pure_ (i := 4) (N := some 27) (v := ?_) (a' := ?_) #[true, true, true, false, true, false, false, false, false, false] rfl rfl (by kernel_rfl) (fun _ _ _ h => h) (Or.inl ⟨by rfl, ?_⟩) ?_ ?_
          rotate_left
          · intro w'
            go_simp
            with_reducible rfl
          rotate_left
          · simp only [Act.put, List.setIfInBounds_toArray, List.set_cons_zero, List.set_cons_succ, i64_w, i32_w]
            rfl
          refine pure_ (i := 5) (N := some 28) (v := ?_) (a' := ?_) #[true, true, true, false, true, true, false, false, false, false] rfl rfl (by kernel_rfl) (fun _ _ _ h => h) (Or.inl ⟨by rfl, ?_⟩) ?_ ?_
          rotate_left
          · intro w'
            go_simp
            with_reducible rfl
          rotate_left
          · simp only [Act.put, List.setIfInBounds_toArray, List.set_cons_zero, List.set_cons_succ, i64_w, i32_w]
            rfl
          refine take_ (i := 3) (N := some 26) (v := ?_) (a' := ?_) #[true, true, true, true, true, true, false, false, false, false] rfl rfl (by kernel_rfl) (fun _ _ _ h => h) (Or.inl ⟨by rfl, ?_⟩) hHeld ?_ ?_
          rotate_left
          · intro w' s0
            go_simp
            with_reducible rfl
          rotate_left
          · simp only [Act.put, List.setIfInBounds_toArray, List.set_cons_zero, List.set_cons_succ, i64_w, i32_w]
            rfl
          refine take_ (i := 6) (N := some 29) (v := ?_) (a' := ?_) #[true, true, true, true, true, true, true, false, false, false] rfl rfl (by kernel_rfl) (fun _ _ _ h => h) (Or.inl ⟨by rfl, ?_⟩) hHeld ?_ ?_
          rotate_left
          · intro w' s0
            go_simp
            with_reducible rfl
          rotate_left
          · simp only [Act.put, List.setIfInBounds_toArray, List.set_cons_zero, List.set_cons_succ, i64_w, i32_w]
            rfl
          refine one_ (i := 7) (N := some 30) #[true, true, true, true, true, true, true, true, false, false] rfl rfl (by kernel_rfl) (by decide) (fun K hK => ?_)
          refine value_ (w1 := ?_) (v := ?_) (by rfl) rfl ?_ ?_
          rotate_left 2
          · go_simp
            constructor
            · rfl
            · rfl
          refine hK.out _ _ (trivial) (fun hHeld => ?_)
          clear hK K
          refine norm_ (a' := ?_) ?_ ?_
          rotate_left
          · show Act.put _ (some 30) _ = _
            simp only [Act.put, List.setIfInBounds_toArray, List.set_cons_zero, List.set_cons_succ, i64_w, i32_w]
            rfl
          refine one_ (i := 8) (N := some 31) #[true, true, true, true, true, true, true, true, true, false] rfl rfl (by kernel_rfl) (by decide) (fun K hK => ?_)
          refine Kd.R_append_rows_step (Kd.int .u8) (Rr := fun x cs => cs = [.int .u8 x]) (w0 := wr.drew.alloc (.cells #[.int .u8 92, .int .u8 ha, .int .u8 hb'] 5)) 0 (by rfl) (.tmp 23) (.tmp 30) 38 5 (.int .u8 0) 1 rfl Try.underlying38 info5 rfl (by decide) (by omega) (.slice A' n' c') (pre f M k) [92, ha, hb'] (some ⟨wr.heap.size, 0, none⟩) 3 3 (fun q => w2.heap.size ≤ q) (fun _ => False) rfl rfl (Kd.R_below hR.out (below_then (below_drew (Below.refl _ _)) (Nat.le_refl _) (below_alloc (Below.refl _ _) _))) (reads3 wr.drew 92 ha hb') (fun _ _ h => h) (fun _ h => h.elim) (fun q hq => by simp at hq; omega) (Below.refl _ _) (Nat.zero_le _) (by omega) ?_
          intro v1 w9 ho _ hg _
          replace ho := Aside0.mk ho
          replace hg := Aside0.mk hg
          refine hK.out _ _ (trivial) (fun hHeld => ?_)
          clear hK K
          refine norm_ (a' := ?_) ?_ ?_
          rotate_left
          · show Act.put _ (some 31) _ = _
            simp only [Act.put, List.setIfInBounds_toArray, List.set_cons_zero, List.set_cons_succ, i64_w, i32_w]
            rfl
          refine pure_ (i := 9) (N := some 4) (v := ?_) (a' := ?_) #[true, true, true, true, true, true, true, true, true, true] rfl rfl (by kernel_rfl) (fun _ _ _ h => h) (Or.inl ⟨by rfl, ?_⟩) ?_ ?_
          rotate_left
          · intro w'
            go_simp
            with_reducible rfl
          rotate_left
          · simp only [Act.put, List.setIfInBounds_toArray, List.set_cons_zero, List.set_cons_succ, i64_w, i32_w]
            rfl
          refine done_ (by kernel_rfl) ?_
          go_wp2_with fail
          go_roundw
          case rel => exact ⟨k + 1, _, by omega, rfl, by go_num, ⟨hkeep.out.trans (Below.grown (below_then (below_drew (Below.refl _ _)) (Nat.le_refl _) (below_alloc (Below.refl _ _) _) |>.mono hkeep.out.size) hg.out (by have := hkeep.out.size; simp; omega) (fun q hq => hR.out.1 q hq))⟩, ⟨by rw [hnx.out]; exact ho.out⟩⟩
          case measure => simp [intOf]; omega
        · have d2 : decide (126 < x) = false := decide_eq_false c2
          have hlk := run_lookup_sign x wr w0.heap.size hm
          cases hs : signB x with
          | true =>
            rw [hs] at hlk
            have hv2 := Aside0.mk (fun (_ : 0 ≤ x) => show valB M k x = [92, x] from by unfold valB; rw [d1, d2, hs]; rfl)
            have hv1 := Aside0.mk (fun (h : x < 0) => show valB M k x = [x] from by omega)
            clear hs
            go_wp2_with (first | ((with_reducible refine gate_builtin (b := .append) (xs := #[.tmp 55, .tmp 56]) rfl ?_); at_builtin; refine Kd.R_append (Kd.int .u8) (w0 := wr) 0 rfl (.tmp 55) (.tmp 56) 38 5 (.int .u8 0) 1 rfl Try.underlying38 info5 rfl (by decide) (by omega) (.slice A' n' c') (pre f M k) 92 [.int .u8 92] (fun q => w2.heap.size ≤ q) (fun _ => False) rfl rfl rfl (fun _ h => h.elim) (fun q hq => by omega) hR.out (Below.refl _ _) (Nat.zero_le _) (by omega) ?_; intro v1 w9 ho _ hg _; replace ho := Aside0.mk ho; replace hg := Aside0.mk hg; obtain ⟨A9, c9, ev9⟩ := Kd.R_slice ho.out; obtain ⟨n9, hn9⟩ : ∃ n9, (pre f M k ++ [92]).length = n9 := ⟨_, rfl⟩; have hl9 : n9 ≤ 3 * k + 1 := (by rw [← hn9]; simp; omega); rw [hn9] at ev9; subst ev9; have hk9 := Aside0.mk (hkeep.out.trans (Below.grown (Below.refl _ _) hg.out hkeep.out.size (fun q hq => hR.out.1 q hq))); have hs9 := hk9.out.size; replace hn9 := Aside0.mk hn9; have ho9 := ho; clear ho hg hR hkeep) | ((with_reducible refine gate_builtin (b := .append) (xs := #[.tmp 58, .tmp 60]) rfl ?_); at_builtin; refine Kd.R_append (Kd.int .u8) (w0 := w9) 0 rfl (.tmp 58) (.tmp 60) 38 5 (.int .u8 0) 1 rfl Try.underlying38 info5 rfl (by decide) (by have := hn9.out; omega) (.slice A9 n9 c9) (pre f M k ++ [92]) x [.int .u8 x] (fun q => w2.heap.size ≤ q) (fun _ => False) rfl rfl rfl (fun _ h => h.elim) (fun q hq => by omega) ho9.out (Below.refl _ _) (Nat.zero_le _) (by have := hn9.out; omega) ?_; intro v2 w8 ho _ hg _; replace ho := Aside0.mk ho; replace hg := Aside0.mk hg; have hRF := Aside0.mk ((show pre f M k ++ [92] ++ [x] = pre f M (k + 1) from (by rw [List.append_assoc]; exact (hstep.out _ (by rw [hv2.out (by first | omega | (simp only [beq_iff_eq, beq_eq_false_iff_ne, ne_eq] at *; omega)), show x = x from (by first | omega | (simp only [beq_iff_eq, beq_eq_false_iff_ne, ne_eq] at *; omega))]; rfl)).symm)) ▸ ho.out); have hkF := Aside0.mk (hk9.out.trans (Below.grown (Below.refl _ _) hg.out hk9.out.size (fun q hq => ho9.out.1 q hq))); clear ho hg ho9 hk9) | ((with_reducible refine gate_builtin (b := .append) (xs := #[.tmp 58, .tmp 60]) rfl ?_); at_builtin; refine Kd.R_append (Kd.int .u8) (w0 := w9) 0 rfl (.tmp 58) (.tmp 60) 38 5 (.int .u8 0) 1 rfl Try.underlying38 info5 rfl (by decide) (by have := hn9.out; omega) (.slice A9 n9 c9) (pre f M k ++ [92]) (32 : Int) [.int .u8 (32 : Int)] (fun q => w2.heap.size ≤ q) (fun _ => False) rfl rfl rfl (fun _ h => h.elim) (fun q hq => by omega) ho9.out (Below.refl _ _) (Nat.zero_le _) (by have := hn9.out; omega) ?_; intro v2 w8 ho _ hg _; replace ho := Aside0.mk ho; replace hg := Aside0.mk hg; have hRF := Aside0.mk ((show pre f M k ++ [92] ++ [(32 : Int)] = pre f M (k + 1) from (by rw [List.append_assoc]; exact (hstep.out _ (by rw [hv2.out (by first | omega | (simp only [beq_iff_eq, beq_eq_false_iff_ne, ne_eq] at *; omega)), show x = (32 : Int) from (by first | omega | (simp only [beq_iff_eq, beq_eq_false_iff_ne, ne_eq] at *; omega))]; rfl)).symm)) ▸ ho.out); have hkF := Aside0.mk (hk9.out.trans (Below.grown (Below.refl _ _) hg.out hk9.out.size (fun q hq => ho9.out.1 q hq))); clear ho hg ho9 hk9) | ((with_reducible refine gate_builtin (b := .append) (xs := #[.tmp 58, .tmp 60]) rfl ?_); at_builtin; refine Kd.R_append (Kd.int .u8) (w0 := w9) 0 rfl (.tmp 58) (.tmp 60) 38 5 (.int .u8 0) 1 rfl Try.underlying38 info5 rfl (by decide) (by have := hn9.out; omega) (.slice A9 n9 c9) (pre f M k ++ [92]) (35 : Int) [.int .u8 (35 : Int)] (fun q => w2.heap.size ≤ q) (fun _ => False) rfl rfl rfl (fun _ h => h.elim) (fun q hq => by omega) ho9.out (Below.refl _ _) (Nat.zero_le _) (by have := hn9.out; omega) ?_; intro v2 w8 ho _ hg _; replace ho := Aside0.mk ho; replace hg := Aside0.mk hg; have hRF := Aside0.mk ((show pre f M k ++ [92] ++ [(35 : Int)] = pre f M (k + 1) from (by rw [List.append_assoc]; exact (hstep.out _ (by rw [hv2.out (by first | omega | (simp only [beq_iff_eq, beq_eq_false_iff_ne, ne_eq] at *; omega)), show x = (35 : Int) from (by first | omega | (simp only [beq_iff_eq, beq_eq_false_iff_ne, ne_eq] at *; omega))]; rfl)).symm)) ▸ ho.out); have hkF := Aside0.mk (hk9.out.trans (Below.grown (Below.refl _ _) hg.out hk9.out.size (fun q hq => ho9.out.1 q hq))); clear ho hg ho9 hk9) | ((with_reducible refine gate_builtin (b := .append) (xs := #[.tmp 58, .tmp 60]) rfl ?_); at_builtin; refine Kd.R_append (Kd.int .u8) (w0 := wr) 0 rfl (.tmp 58) (.tmp 60) 38 5 (.int .u8 0) 1 rfl Try.underlying38 info5 rfl (by decide) (by omega) (.slice A' n' c') (pre f M k) x [.int .u8 x] (fun q => w2.heap.size ≤ q) (fun _ => False) rfl rfl rfl (fun _ h => h.elim) (fun q hq => by omega) hR.out (Below.refl _ _) (Nat.zero_le _) (by omega) ?_; intro v2 w8 ho _ hg _; replace ho := Aside0.mk ho; replace hg := Aside0.mk hg; have hRF := Aside0.mk ((show pre f M k ++ [x] = pre f M (k + 1) from (hstep.out _ (by rw [hv1.out (by first | omega | (simp only [beq_iff_eq, beq_eq_false_iff_ne, ne_eq] at *; omega)), show x = x from (by first | omega | (simp only [beq_iff_eq, beq_eq_false_iff_ne, ne_eq] at *; omega))])).symm) ▸ ho.out); have hkF := Aside0.mk (hkeep.out.trans (Below.grown (Below.refl _ _) hg.out hkeep.out.size (fun q hq => hR.out.1 q hq))); clear ho hg hR hkeep) | ((with_reducible refine gate_builtin (b := .append) (xs := #[.tmp 58, .tmp 60]) rfl ?_); at_builtin; refine Kd.R_append (Kd.int .u8) (w0 := wr) 0 rfl (.tmp 58) (.tmp 60) 38 5 (.int .u8 0) 1 rfl Try.underlying38 info5 rfl (by decide) (by omega) (.slice A' n' c') (pre f M k) (32 : Int) [.int .u8 (32 : Int)] (fun q => w2.heap.size ≤ q) (fun _ => False) rfl rfl rfl (fun _ h => h.elim) (fun q hq => by omega) hR.out (Below.refl _ _) (Nat.zero_le _) (by omega) ?_; intro v2 w8 ho _ hg _; replace ho := Aside0.mk ho; replace hg := Aside0.mk hg; have hRF := Aside0.mk ((show pre f M k ++ [(32 : Int)] = pre f M (k + 1) from (hstep.out _ (by rw [hv1.out (by first | omega | (simp only [beq_iff_eq, beq_eq_false_iff_ne, ne_eq] at *; omega)), show x = (32 : Int) from (by first | omega | (simp only [beq_iff_eq, beq_eq_false_iff_ne, ne_eq] at *; omega))])).symm) ▸ ho.out); have hkF := Aside0.mk (hkeep.out.trans (Below.grown (Below.refl _ _) hg.out hkeep.out.size (fun q hq => hR.out.1 q hq))); clear ho hg hR hkeep) | ((with_reducible refine gate_builtin (b := .append) (xs := #[.tmp 58, .tmp 60]) rfl ?_); at_builtin; refine Kd.R_append (Kd.int .u8) (w0 := wr) 0 rfl (.tmp 58) (.tmp 60) 38 5 (.int .u8 0) 1 rfl Try.underlying38 info5 rfl (by decide) (by omega) (.slice A' n' c') (pre f M k) (35 : Int) [.int .u8 (35 : Int)] (fun q => w2.heap.size ≤ q) (fun _ => False) rfl rfl rfl (fun _ h => h.elim) (fun q hq => by omega) hR.out (Below.refl _ _) (Nat.zero_le _) (by omega) ?_; intro v2 w8 ho _ hg _; replace ho := Aside0.mk ho; replace hg := Aside0.mk hg; have hRF := Aside0.mk ((show pre f M k ++ [(35 : Int)] = pre f M (k + 1) from (hstep.out _ (by rw [hv1.out (by first | omega | (simp only [beq_iff_eq, beq_eq_false_iff_ne, ne_eq] at *; omega)), show x = (35 : Int) from (by first | omega | (simp only [beq_iff_eq, beq_eq_false_iff_ne, ne_eq] at *; omega))])).symm) ▸ ho.out); have hkF := Aside0.mk (hkeep.out.trans (Below.grown (Below.refl _ _) hg.out hkeep.out.size (fun q hq => hR.out.1 q hq))); clear ho hg hR hkeep) | ((with_reducible refine gate_builtin (b := .append) (xs := #[.tmp 58, .tmp 60]) rfl ?_); trace_state; sorry))
            all_goals (
              go_roundw
              case rel => exact ⟨k + 1, _, by omega, rfl, by congr 1 <;> omega, hkF, hRF⟩
              case measure => (simp [intOf] <;> omega))
          | false =>
            rw [hs] at hlk
            have hv2 := Aside0.mk (fun (h : (k = 0 ∧ (x = 32 ∨ x = 35)) ∨ ((k : Int) = M - 1 ∧ x = 32)) => show valB M k x = [92, x] from by
              unfold valB
              rw [d1, d2, hs, show ((k == 0 && (x == 32 || x == 35)) || (k + 1 == M && x == 32)) = true from by simp; omega]
              rfl)
            have hv1 := Aside0.mk (fun (h : ¬ ((k = 0 ∧ (x = 32 ∨ x = 35)) ∨ ((k : Int) = M - 1 ∧ x = 32))) => show valB M k x = [x] from by
              unfold valB
              rw [d1, d2, hs, show ((k == 0 && (x == 32 || x == 35)) || (k + 1 == M && x == 32)) = false from by
                rw [Bool.eq_false_iff]; intro h'; apply h; simp at h'; omega]
              rfl)
            clear hs
            go_wp2_with (first | ((with_reducible refine gate_builtin (b := .append) (xs := #[.tmp 55, .tmp 56]) rfl ?_); at_builtin; refine Kd.R_append (Kd.int .u8) (w0 := wr) 0 rfl (.tmp 55) (.tmp 56) 38 5 (.int .u8 0) 1 rfl Try.underlying38 info5 rfl (by decide) (by omega) (.slice A' n' c') (pre f M k) 92 [.int .u8 92] (fun q => w2.heap.size ≤ q) (fun _ => False) rfl rfl rfl (fun _ h => h.elim) (fun q hq => by omega) hR.out (Below.refl _ _) (Nat.zero_le _) (by omega) ?_; intro v1 w9 ho _ hg _; replace ho := Aside0.mk ho; replace hg := Aside0.mk hg; obtain ⟨A9, c9, ev9⟩ := Kd.R_slice ho.out; obtain ⟨n9, hn9⟩ : ∃ n9, (pre f M k ++ [92]).length = n9 := ⟨_, rfl⟩; have hl9 : n9 ≤ 3 * k + 1 := (by rw [← hn9]; simp; omega); rw [hn9] at ev9; subst ev9; have hk9 := Aside0.mk (hkeep.out.trans (Below.grown (Below.refl _ _) hg.out hkeep.out.size (fun q hq => hR.out.1 q hq))); have hs9 := hk9.out.size; replace hn9 := Aside0.mk hn9; have ho9 := ho; clear ho hg hR hkeep) | ((with_reducible refine gate_builtin (b := .append) (xs := #[.tmp 58, .tmp 60]) rfl ?_); at_builtin; refine Kd.R_append (Kd.int .u8) (w0 := w9) 0 rfl (.tmp 58) (.tmp 60) 38 5 (.int .u8 0) 1 rfl Try.underlying38 info5 rfl (by decide) (by have := hn9.out; omega) (.slice A9 n9 c9) (pre f M k ++ [92]) x [.int .u8 x] (fun q => w2.heap.size ≤ q) (fun _ => False) rfl rfl rfl (fun _ h => h.elim) (fun q hq => by omega) ho9.out (Below.refl _ _) (Nat.zero_le _) (by have := hn9.out; omega) ?_; intro v2 w8 ho _ hg _; replace ho := Aside0.mk ho; replace hg := Aside0.mk hg; have hRF := Aside0.mk ((show pre f M k ++ [92] ++ [x] = pre f M (k + 1) from (by rw [List.append_assoc]; exact (hstep.out _ (by rw [hv2.out (by first | omega | (simp only [beq_iff_eq, beq_eq_false_iff_ne, ne_eq] at *; omega)), show x = x from (by first | omega | (simp only [beq_iff_eq, beq_eq_false_iff_ne, ne_eq] at *; omega))]; rfl)).symm)) ▸ ho.out); have hkF := Aside0.mk (hk9.out.trans (Below.grown (Below.refl _ _) hg.out hk9.out.size (fun q hq => ho9.out.1 q hq))); clear ho hg ho9 hk9) | ((with_reducible refine gate_builtin (b := .append) (xs := #[.tmp 58, .tmp 60]) rfl ?_); at_builtin; refine Kd.R_append (Kd.int .u8) (w0 := w9) 0 rfl (.tmp 58) (.tmp 60) 38 5 (.int .u8 0) 1 rfl Try.underlying38 info5 rfl (by decide) (by have := hn9.out; omega) (.slice A9 n9 c9) (pre f M k ++ [92]) (32 : Int) [.int .u8 (32 : Int)] (fun q => w2.heap.size ≤ q) (fun _ => False) rfl rfl rfl (fun _ h => h.elim) (fun q hq => by omega) ho9.out (Below.refl _ _) (Nat.zero_le _) (by have := hn9.out; omega) ?_; intro v2 w8 ho _ hg _; replace ho := Aside0.mk ho; replace hg := Aside0.mk hg; have hRF := Aside0.mk ((show pre f M k ++ [92] ++ [(32 : Int)] = pre f M (k + 1) from (by rw [List.append_assoc]; exact (hstep.out _ (by rw [hv2.out (by first | omega | (simp only [beq_iff_eq, beq_eq_false_iff_ne, ne_eq] at *; omega)), show x = (32 : Int) from (by first | omega | (simp only [beq_iff_eq, beq_eq_false_iff_ne, ne_eq] at *; omega))]; rfl)).symm)) ▸ ho.out); have hkF := Aside0.mk (hk9.out.trans (Below.grown (Below.refl _ _) hg.out hk9.out.size (fun q hq => ho9.out.1 q hq))); clear ho hg ho9 hk9) | ((with_reducible refine gate_builtin (b := .append) (xs := #[.tmp 58, .tmp 60]) rfl ?_); at_builtin; refine Kd.R_append (Kd.int .u8) (w0 := w9) 0 rfl (.tmp 58) (.tmp 60) 38 5 (.int .u8 0) 1 rfl Try.underlying38 info5 rfl (by decide) (by have := hn9.out; omega) (.slice A9 n9 c9) (pre f M k ++ [92]) (35 : Int) [.int .u8 (35 : Int)] (fun q => w2.heap.size ≤ q) (fun _ => False) rfl rfl rfl (fun _ h => h.elim) (fun q hq => by omega) ho9.out (Below.refl _ _) (Nat.zero_le _) (by have := hn9.out; omega) ?_; intro v2 w8 ho _ hg _; replace ho := Aside0.mk ho; replace hg := Aside0.mk hg; have hRF := Aside0.mk ((show pre f M k ++ [92] ++ [(35 : Int)] = pre f M (k + 1) from (by rw [List.append_assoc]; exact (hstep.out _ (by rw [hv2.out (by first | omega | (simp only [beq_iff_eq, beq_eq_false_iff_ne, ne_eq] at *; omega)), show x = (35 : Int) from (by first | omega | (simp only [beq_iff_eq, beq_eq_false_iff_ne, ne_eq] at *; omega))]; rfl)).symm)) ▸ ho.out); have hkF := Aside0.mk (hk9.out.trans (Below.grown (Below.refl _ _) hg.out hk9.out.size (fun q hq => ho9.out.1 q hq))); clear ho hg ho9 hk9) | ((with_reducible refine gate_builtin (b := .append) (xs := #[.tmp 58, .tmp 60]) rfl ?_); at_builtin; refine Kd.R_append (Kd.int .u8) (w0 := wr) 0 rfl (.tmp 58) (.tmp 60) 38 5 (.int .u8 0) 1 rfl Try.underlying38 info5 rfl (by decide) (by omega) (.slice A' n' c') (pre f M k) x [.int .u8 x] (fun q => w2.heap.size ≤ q) (fun _ => False) rfl rfl rfl (fun _ h => h.elim) (fun q hq => by omega) hR.out (Below.refl _ _) (Nat.zero_le _) (by omega) ?_; intro v2 w8 ho _ hg _; replace ho := Aside0.mk ho; replace hg := Aside0.mk hg; have hRF := Aside0.mk ((show pre f M k ++ [x] = pre f M (k + 1) from (hstep.out _ (by rw [hv1.out (by first | omega | (simp only [beq_iff_eq, beq_eq_false_iff_ne, ne_eq] at *; omega)), show x = x from (by first | omega | (simp only [beq_iff_eq, beq_eq_false_iff_ne, ne_eq] at *; omega))])).symm) ▸ ho.out); have hkF := Aside0.mk (hkeep.out.trans (Below.grown (Below.refl _ _) hg.out hkeep.out.size (fun q hq => hR.out.1 q hq))); clear ho hg hR hkeep) | ((with_reducible refine gate_builtin (b := .append) (xs := #[.tmp 58, .tmp 60]) rfl ?_); at_builtin; refine Kd.R_append (Kd.int .u8) (w0 := wr) 0 rfl (.tmp 58) (.tmp 60) 38 5 (.int .u8 0) 1 rfl Try.underlying38 info5 rfl (by decide) (by omega) (.slice A' n' c') (pre f M k) (32 : Int) [.int .u8 (32 : Int)] (fun q => w2.heap.size ≤ q) (fun _ => False) rfl rfl rfl (fun _ h => h.elim) (fun q hq => by omega) hR.out (Below.refl _ _) (Nat.zero_le _) (by omega) ?_; intro v2 w8 ho _ hg _; replace ho := Aside0.mk ho; replace hg := Aside0.mk hg; have hRF := Aside0.mk ((show pre f M k ++ [(32 : Int)] = pre f M (k + 1) from (hstep.out _ (by rw [hv1.out (by first | omega | (simp only [beq_iff_eq, beq_eq_false_iff_ne, ne_eq] at *; omega)), show x = (32 : Int) from (by first | omega | (simp only [beq_iff_eq, beq_eq_false_iff_ne, ne_eq] at *; omega))])).symm) ▸ ho.out); have hkF := Aside0.mk (hkeep.out.trans (Below.grown (Below.refl _ _) hg.out hkeep.out.size (fun q hq => hR.out.1 q hq))); clear ho hg hR hkeep) | ((with_reducible refine gate_builtin (b := .append) (xs := #[.tmp 58, .tmp 60]) rfl ?_); at_builtin; refine Kd.R_append (Kd.int .u8) (w0 := wr) 0 rfl (.tmp 58) (.tmp 60) 38 5 (.int .u8 0) 1 rfl Try.underlying38 info5 rfl (by decide) (by omega) (.slice A' n' c') (pre f M k) (35 : Int) [.int .u8 (35 : Int)] (fun q => w2.heap.size ≤ q) (fun _ => False) rfl rfl rfl (fun _ h => h.elim) (fun q hq => by omega) hR.out (Below.refl _ _) (Nat.zero_le _) (by omega) ?_; intro v2 w8 ho _ hg _; replace ho := Aside0.mk ho; replace hg := Aside0.mk hg; have hRF := Aside0.mk ((show pre f M k ++ [(35 : Int)] = pre f M (k + 1) from (hstep.out _ (by rw [hv1.out (by first | omega | (simp only [beq_iff_eq, beq_eq_false_iff_ne, ne_eq] at *; omega)), show x = (35 : Int) from (by first | omega | (simp only [beq_iff_eq, beq_eq_false_iff_ne, ne_eq] at *; omega))])).symm) ▸ ho.out); have hkF := Aside0.mk (hkeep.out.trans (Below.grown (Below.refl _ _) hg.out hkeep.out.size (fun q hq => hR.out.1 q hq))); clear ho hg hR hkeep) | ((with_reducible refine gate_builtin (b := .append) (xs := #[.tmp 58, .tmp 60]) rfl ?_); trace_state; sorry))
            all_goals (
              go_roundw
              case rel => exact ⟨k + 1, _, by omega, rfl, by congr 1 <;> omega, hkF, hRF⟩
              case measure => (simp [intOf] <;> omega))
    · obtain rfl : k = M := by omega
      obtain ⟨A', c', ev, _, hC⟩ := Kd.R_reads hR.out
      have hst := Kd.C_string (P := Try.prog) (src := 38) (dst := 9) (c := c') Try.underlying38 Try.underlying5 Try.underlying9 hC
      have hbn := Aside0.mk (below_then hbb.out hbb.out.size hkeep.out)
      subst ev
      rw [← hv.out] at hst
      generalize (pre f k k).length = nn at *
      clear hC hR
      go_wp2_with fail
      go_ret
      exact ⟨by rw [hr.out]; rfl, hbn.out⟩
end Go.Proofs.Ythbjgcmbbdlfkaa
