/- strings.IndexByte; filter.value: a value as a text. -/
import Derived.Test.YtgnmkblaockghaaQFk
import Derived.Lib.Bytealg
set_option linter.unusedVariables false
set_option linter.unusedSimpArgs false
namespace Go.Proofs.Ytgnmkblaockghaa
open Go.RowKit Go.Shelf Go.Proofs.YtgnmkblaockghaaW.PrintWords Go.Proofs.YtgnmkblaockghaaW.PrintMore Go.Proofs.YtgnmkblaockghaaW.PrintLast

set_option maxRecDepth 100000 in
theorem ib0_calls (s : ByteArray) (c : Int) (w : World) : Calls Try.prog 86 #[.string s, .int .u8 c] w fun e w' => e = .returned (.int .i64 (Lib.indexByte s.data.toList c.toNat.toUInt8)) ∧ w' = w := by
  go_enter Try.func86, Try.ntmps86
  go_wp2_with fail
  rw [run_callFunc_extern Try.func101 (by kernel_rfl) (by kernel_rfl) (by kernel_rfl) (e := Extern.BytealgIndexByte.indexByte) (by kernel_rfl), Lib.run_indexByteString]
  simp only [Result.andThen]
  rw [Oper.upon_value]
  go_wp2_with fail
  go_ret
  exact ⟨rfl, rfl⟩
set_option maxRecDepth 8000 in
theorem ib_calls (s : ByteArray) (c : Int) (w : World) : Calls Try.prog 66 #[.string s, .int .u8 c] w fun e w' => e = .returned (.int .i64 (Lib.indexByte s.data.toList c.toNat.toUInt8)) ∧ w' = w := by
  have h := Aside0.mk (ib0_calls s c w)
  generalize Lib.indexByte s.data.toList c.toNat.toUInt8 = n at *
  go_enter Try.func66, Try.ntmps66
  go_wp2_with fail
  refine h.out.mono ?_
  rintro e w' ⟨rfl, rfl⟩
  go_wp2_with fail
  go_ret
  exact ⟨rfl, rfl⟩
def hexd (d : Int) : Int := if d < 10 then 48 + d else 87 + d
theorem hex_get (d : Int) (h0 : 0 ≤ d) (h1 : d < 16) : ((({ data := #[48, 49, 50, 51, 52, 53, 54, 55, 56, 57, 97, 98, 99, 100, 101, 102] } : ByteArray)[d.toNat]'(by show d.toNat < 16; omega)).toNat : Int) = hexd d := by
  have h : d = 0 ∨ d = 1 ∨ d = 2 ∨ d = 3 ∨ d = 4 ∨ d = 5 ∨ d = 6 ∨ d = 7 ∨ d = 8 ∨ d = 9 ∨ d = 10 ∨ d = 11 ∨ d = 12 ∨ d = 13 ∨ d = 14 ∨ d = 15 := by omega
  rcases h with rfl | rfl | rfl | rfl | rfl | rfl | rfl | rfl | rfl | rfl | rfl | rfl | rfl | rfl | rfl | rfl <;> rfl
/-- Has a byte to be told by its number, though it could be seen? -/
def specB (x : Int) : Bool := x == 42 || x == 40 || x == 41 || x == 92
theorem spec_fin : ∀ t : Fin 256, decide (0 ≤ Lib.indexByte [42, 40, 41, 92] (t.val : Int).toNat.toUInt8) = specB (t.val : Int) := by decide +kernel
theorem spec_idx (x : Int) (x0 : 0 ≤ x) (x1 : x < 256) : decide (0 ≤ Lib.indexByte ({ data := #[42, 40, 41, 92] } : ByteArray).data.toList x.toNat.toUInt8) = specB x := by
  have h := spec_fin ⟨x.toNat, by omega⟩
  have e : ((x.toNat : Nat) : Int) = x := by omega
  simp only [e] at h
  exact h
/-- A byte of a value as a text. -/
def valB (x : Int) : List Int := if (decide (x < 32) || decide (126 < x) || specB x) = true then [92, hexd (x / 16), hexd (x % 16)] else [x]
theorem valB_length (x : Int) : (valB x).length ≤ 3 := by unfold valB; split <;> simp
def pre (f : Nat → Int) (k : Nat) : List Int := (List.range k).flatMap fun i => valB (f i)
theorem pre_next (f : Nat → Int) (k : Nat) : pre f (k + 1) = pre f k ++ valB (f k) := by unfold pre; rw [List.range_succ, List.flatMap_append]; simp
theorem pre_length (f : Nat → Int) (k : Nat) : (pre f k).length ≤ 3 * k := by
  induction k with
  | zero => simp [pre]
  | succ k ih => rw [pre_next, List.length_append]; have := valB_length (f k); omega
/-- A value as a text. -/
def valText (s : ByteArray) : ByteArray := strOfNums ((bytesOf s).flatMap valB)
theorem pre_all (l : List Int) : pre (fun j => l.getD j 0) l.length = l.flatMap valB := by
  unfold pre
  rw [show l.flatMap valB = ((List.range l.length).map fun j => l.getD j 0).flatMap valB from by
    congr 1
    refine List.ext_getElem (by simp) fun j h1 h2 => ?_
    simp at h2
    simp [List.getD_eq_getElem?_getD, h1]]
  rw [List.flatMap_map]
theorem reads3 (W : World) (a b c : Int) : ReadsRow (fun (x : Int) cs => cs = [.int .u8 x]) 1 (W.alloc (.cells #[.int .u8 a, .int .u8 b, .int .u8 c] 5)) (some ⟨W.heap.size, 0, none⟩) 3 [a, b, c] := by
  refine ⟨rfl, by omega, fun _ => ⟨_, rfl, ?_⟩⟩
  intro j p hp
  have hj : j = 0 ∨ j = 1 ∨ j = 2 := by
    have := (List.getElem?_eq_some_iff.1 hp).1
    simp at this; omega
  rcases hj with rfl | rfl | rfl <;> (
    obtain rfl := Option.some.inj hp
    refine ⟨_, rfl, rfl, ?_⟩
    intro i u hu
    have hi : i = 0 := by have := (List.getElem?_eq_some_iff.1 hu).1; simp at this; omega
    subst hi
    obtain rfl := Option.some.inj hu
    have hh : (W.alloc (.cells #[.int .u8 a, .int .u8 b, .int .u8 c] 5)).heap[W.heap.size]? = some (.cells #[.int .u8 a, .int .u8 b, .int .u8 c] 5) := Array.getElem?_push_size
    unfold World.cell?
    rw [show ((⟨W.heap.size, 0, none⟩ : Addr).add _).block = W.heap.size from rfl, hh]
    rfl)
set_option maxRecDepth 8000 in
set_option maxHeartbeats 4000000 in
theorem value_calls (s : ByteArray) (w1 : World) (hs : s.size ≤ 12000) :
    Calls Try.prog 76 #[.string s] w1 fun e w' => e = .returned (.string (valText s)) ∧ Below w1.heap.size w1 w' := by
  have kb := fun W => print_bytes (P := Try.prog) 9 52 5 Try.underlying9 Try.underlying52 Try.underlying5 s W
  have hN := bytes_new w1 s
  have hb := bytes_below (Below.refl w1.heap.size w1) (Nat.le_refl _) 5 s
  have hx : ∀ j, j < s.size → 0 ≤ (bytesOf s).getD j 0 ∧ (bytesOf s).getD j 0 < 256 := by
    intro j hj
    have h' : j < (bytesOf s).length := by rw [bytesOf_length]; exact hj
    simp only [List.getD_eq_getElem?_getD, List.getElem?_eq_getElem h', Option.getD_some]
    exact bytesOf_bound (List.getElem_mem h')
  have hv : valText s = strOfNums (pre (fun j => (bytesOf s).getD j 0) s.size) := by
    rw [← bytesOf_length s, pre_all]; rfl
  obtain ⟨r, hr⟩ : ∃ r, valText s = r := ⟨_, rfl⟩
  rw [hr] at hv
  obtain ⟨M, hM⟩ : ∃ M, s.size = M := ⟨_, rfl⟩
  obtain ⟨f, hf⟩ : ∃ f : Nat → Int, (fun j => (bytesOf s).getD j 0) = f := ⟨_, rfl⟩
  have hf' : ∀ j, (bytesOf s).getD j 0 = f j := fun j => congrFun hf j
  rw [hf, hM] at hv
  rw [hf, hM] at hN
  rw [hM] at hs hx
  simp only [hM] at kb
  simp only [hf'] at hx
  have hbb := Aside0.mk hb
  replace hN := Aside0.mk hN
  replace hx := Aside0.mk hx
  replace hv := Aside0.mk hv
  replace hr := Aside0.mk hr
  have hM' := Aside0.mk hM
  clear hf hf' hb
  go_enter Try.func76, Try.ntmps76
  go_wp2_with fail
  clear kb
  obtain ⟨w2, hw2⟩ : ∃ w2, Lib.bytesWorld w1 5 s = w2 := ⟨_, rfl⟩
  rw [hw2] at hN hbb ⊢
  clear hw2
  obtain ⟨cap, hcap⟩ : ∃ c, grownCap w1 M 0 5 = c := ⟨_, rfl⟩
  rw [hcap]
  clear hcap
  go_loopw [3, 9] (fun s3 s9 wr => ∃ (k : Nat) (v : Value), k ≤ M ∧ s3 = v ∧ s9 = .int .i64 k ∧ Aside0 (Below w2.heap.size w2 wr) ∧ Aside0 ((Kd.int .u8).R 5 wr 0 (fun q => w2.heap.size ≤ q) v (pre f k))) (fun _ s9 _ => M - (intOf s9).toNat)
  case atStart => exact ⟨0, _, Nat.zero_le _, rfl, rfl, ⟨Below.refl _ _⟩, ⟨Kd.R_nil _ _ _ _ _⟩⟩
  case round =>
    obtain ⟨k, v, hk, rfl, rfl, hkeep, hR⟩ := hrel
    by_cases hlt : k < M
    · obtain ⟨p0, p1⟩ := hN.out k hlt
      replace p0 := pw_cell_below hkeep.out p0
      have hks := hkeep.out.size
      obtain ⟨x0, x1⟩ := hx.out k hlt
      have hstep := Aside0.mk (fun l (h : valB (f k) = l) => show pre f (k + 1) = pre f k ++ l by rw [pre_next, h])
      have hpl := pre_length f k
      have i1 : (0 : Int) ≤ (k : Int) := by omega
      have i2 : (k : Int) < (M : Int) := by omega
      obtain ⟨x, hxx⟩ : ∃ x, f k = x := ⟨_, rfl⟩
      rw [hxx] at p0 x0 x1 hstep
      clear hxx p1
      obtain ⟨A', c', ev⟩ := Kd.R_slice hR.out
      obtain ⟨n', hn'⟩ : ∃ n', (pre f k).length = n' := ⟨_, rfl⟩
      rw [hn'] at ev hpl
      subst ev
      by_cases c1 : x < 32
      · have d1 : decide (x < 32) = true := decide_eq_true c1
        have hnx := Aside0.mk (hstep.out _ (show valB x = [92, hexd (x / 16), hexd (x % 16)] from by unfold valB; rw [d1]; rfl))
        clear hstep
        have e1 : bits .and .u8 x 15 = x % 16 := u8_and15 x x0 x1
        have f1 : 0 ≤ x / 16 := by omega
        have f2 : x / 16 < 16 := by omega
        have f3 : 0 ≤ x % 16 := by omega
        have f4 : x % 16 < 16 := by omega
        have e2 := hex_get (x / 16) f1 f2
        have e3 := hex_get (x % 16) f3 f4
        generalize hexd (x / 16) = ha at *
        generalize hexd (x % 16) = hb' at *
        go_wp2_with fail
        refine start_ (n := 10) (S := fun w' => True) (ds := []) (B_ 10 0) (by kernel_rfl) rfl rfl (trivial) (fun hHeld => ?_)
        refine pn_ 0 24 (B_ 10 1) rfl rfl ?_
        refine pn_ 1 25 (B_ 10 3) rfl rfl ?_
        refine pn_ 2 26 (B_ 10 7) rfl rfl ?_
        refine pn_ 4 28 (B_ 10 23) rfl rfl ?_
        refine pn_ 5 29 (B_ 10 55) rfl rfl ?_
        refine tk_ 3 27 (B_ 10 63) rfl rfl hHeld (by intro w' s0; go_simp; with_reducible rfl) ?_
        refine tk_ 6 30 (B_ 10 127) rfl rfl hHeld (by intro w' s0; go_simp; with_reducible rfl) ?_
        refine one_ (i := 7) (N := some 31) (B_ 10 255) rfl rfl (by kernel_rfl) (by decide) (fun K hK => ?_)
        refine value_ (w1 := ?_) (v := ?_) (by rfl) rfl ?_ ?_
        rotate_left 2
        · go_simp
          constructor
          · rfl
          · rfl
        refine hK.out _ _ (trivial) (fun hHeld => ?_)
        clear hK K
        refine nm_ 31 ?_
        refine one_ (i := 8) (N := some 32) (B_ 10 511) rfl rfl (by kernel_rfl) (by decide) (fun K hK => ?_)
        refine Kd.R_append_rows_step (Kd.int .u8) (Rr := fun x cs => cs = [.int .u8 x]) (w0 := wr.drew.alloc (.cells #[.int .u8 92, .int .u8 ha, .int .u8 hb'] 5)) 0 (by rfl) (.tmp 24) (.tmp 31) 52 5 (.int .u8 0) 1 rfl Try.underlying52 PFilterBounds.info5 rfl (by decide) (by omega) (.slice A' n' c') (pre f k) [92, ha, hb'] (some ⟨wr.heap.size, 0, none⟩) 3 3 (fun q => w2.heap.size ≤ q) (fun _ => False) rfl rfl (Kd.R_below hR.out (below_then (below_drew (Below.refl _ _)) (Nat.le_refl _) (below_alloc (Below.refl _ _) _))) (reads3 wr.drew 92 ha hb') (fun _ _ h => h) (fun _ h => h.elim) (fun q hq => by simp at hq; omega) (Below.refl _ _) (Nat.zero_le _) (by omega) ?_
        intro v1 w9 ho _ hg _
        replace ho := Aside0.mk ho
        replace hg := Aside0.mk hg
        refine hK.out _ _ (trivial) (fun hHeld => ?_)
        clear hK K
        refine nm_ 32 ?_
        refine pn_ 9 3 (B_ 10 1023) rfl rfl ?_
        refine done_ (by kernel_rfl) ?_
        go_wp2_with fail
        go_roundw
        case rel => exact ⟨k + 1, _, by omega, rfl, by go_num, ⟨hkeep.out.trans (Below.grown (below_then (below_drew (Below.refl _ _)) (Nat.le_refl _) (below_alloc (Below.refl _ _) _) |>.mono hkeep.out.size) hg.out (by have := hkeep.out.size; simp; omega) (fun q hq => hR.out.1 q hq))⟩, ⟨by rw [hnx.out]; exact ho.out⟩⟩
        case measure => simp [intOf]; omega
      · have d1 : decide (x < 32) = false := decide_eq_false c1
        by_cases c2 : 126 < x
        · have d2 : decide (126 < x) = true := decide_eq_true c2
          have hnx := Aside0.mk (hstep.out _ (show valB x = [92, hexd (x / 16), hexd (x % 16)] from by unfold valB; rw [d1, d2]; rfl))
          clear hstep
          have e1 : bits .and .u8 x 15 = x % 16 := u8_and15 x x0 x1
          have f1 : 0 ≤ x / 16 := by omega
          have f2 : x / 16 < 16 := by omega
          have f3 : 0 ≤ x % 16 := by omega
          have f4 : x % 16 < 16 := by omega
          have e2 := hex_get (x / 16) f1 f2
          have e3 := hex_get (x % 16) f3 f4
          generalize hexd (x / 16) = ha at *
          generalize hexd (x % 16) = hb' at *
          go_wp2_with fail
          refine start_ (n := 10) (S := fun w' => True) (ds := []) (B_ 10 0) (by kernel_rfl) rfl rfl (trivial) (fun hHeld => ?_)
          refine pn_ 0 24 (B_ 10 1) rfl rfl ?_
          refine pn_ 1 25 (B_ 10 3) rfl rfl ?_
          refine pn_ 2 26 (B_ 10 7) rfl rfl ?_
          refine pn_ 4 28 (B_ 10 23) rfl rfl ?_
          refine pn_ 5 29 (B_ 10 55) rfl rfl ?_
          refine tk_ 3 27 (B_ 10 63) rfl rfl hHeld (by intro w' s0; go_simp; with_reducible rfl) ?_
          refine tk_ 6 30 (B_ 10 127) rfl rfl hHeld (by intro w' s0; go_simp; with_reducible rfl) ?_
          refine one_ (i := 7) (N := some 31) (B_ 10 255) rfl rfl (by kernel_rfl) (by decide) (fun K hK => ?_)
          refine value_ (w1 := ?_) (v := ?_) (by rfl) rfl ?_ ?_
          rotate_left 2
          · go_simp
            constructor
            · rfl
            · rfl
          refine hK.out _ _ (trivial) (fun hHeld => ?_)
          clear hK K
          refine nm_ 31 ?_
          refine one_ (i := 8) (N := some 32) (B_ 10 511) rfl rfl (by kernel_rfl) (by decide) (fun K hK => ?_)
          refine Kd.R_append_rows_step (Kd.int .u8) (Rr := fun x cs => cs = [.int .u8 x]) (w0 := wr.drew.alloc (.cells #[.int .u8 92, .int .u8 ha, .int .u8 hb'] 5)) 0 (by rfl) (.tmp 24) (.tmp 31) 52 5 (.int .u8 0) 1 rfl Try.underlying52 PFilterBounds.info5 rfl (by decide) (by omega) (.slice A' n' c') (pre f k) [92, ha, hb'] (some ⟨wr.heap.size, 0, none⟩) 3 3 (fun q => w2.heap.size ≤ q) (fun _ => False) rfl rfl (Kd.R_below hR.out (below_then (below_drew (Below.refl _ _)) (Nat.le_refl _) (below_alloc (Below.refl _ _) _))) (reads3 wr.drew 92 ha hb') (fun _ _ h => h) (fun _ h => h.elim) (fun q hq => by simp at hq; omega) (Below.refl _ _) (Nat.zero_le _) (by omega) ?_
          intro v1 w9 ho _ hg _
          replace ho := Aside0.mk ho
          replace hg := Aside0.mk hg
          refine hK.out _ _ (trivial) (fun hHeld => ?_)
          clear hK K
          refine nm_ 32 ?_
          refine pn_ 9 3 (B_ 10 1023) rfl rfl ?_
          refine done_ (by kernel_rfl) ?_
          go_wp2_with fail
          go_roundw
          case rel => exact ⟨k + 1, _, by omega, rfl, by go_num, ⟨hkeep.out.trans (Below.grown (below_then (below_drew (Below.refl _ _)) (Nat.le_refl _) (below_alloc (Below.refl _ _) _) |>.mono hkeep.out.size) hg.out (by have := hkeep.out.size; simp; omega) (fun q hq => hR.out.1 q hq))⟩, ⟨by rw [hnx.out]; exact ho.out⟩⟩
          case measure => simp [intOf]; omega
        · have d2 : decide (126 < x) = false := decide_eq_false c2
          have hib := ib_calls { data := #[42, 40, 41, 92] } x wr
          have hsp := spec_idx x x0 x1
          generalize Lib.indexByte _ _ = ix at hib hsp
          replace hib := Aside0.mk hib
          cases hs : specB x with
          | true =>
            rw [hs] at hsp
            have hnx := Aside0.mk (hstep.out _ (show valB x = [92, hexd (x / 16), hexd (x % 16)] from by unfold valB; rw [d1, d2, hs]; rfl))
            clear hstep
            have e1 : bits .and .u8 x 15 = x % 16 := u8_and15 x x0 x1
            have f1 : 0 ≤ x / 16 := by omega
            have f2 : x / 16 < 16 := by omega
            have f3 : 0 ≤ x % 16 := by omega
            have f4 : x % 16 < 16 := by omega
            have e2 := hex_get (x / 16) f1 f2
            have e3 := hex_get (x % 16) f3 f4
            generalize hexd (x / 16) = ha at *
            generalize hexd (x % 16) = hb' at *
            go_wp2_with fail
            refine hib.out.mono ?_
            rintro e wx ⟨rfl, rfl⟩
            go_wp2_with fail
            refine start_ (n := 10) (S := fun w' => True) (ds := []) (B_ 10 0) (by kernel_rfl) rfl rfl (trivial) (fun hHeld => ?_)
            refine pn_ 0 24 (B_ 10 1) rfl rfl ?_
            refine pn_ 1 25 (B_ 10 3) rfl rfl ?_
            refine pn_ 2 26 (B_ 10 7) rfl rfl ?_
            refine pn_ 4 28 (B_ 10 23) rfl rfl ?_
            refine pn_ 5 29 (B_ 10 55) rfl rfl ?_
            refine tk_ 3 27 (B_ 10 63) rfl rfl hHeld (by intro w' s0; go_simp; with_reducible rfl) ?_
            refine tk_ 6 30 (B_ 10 127) rfl rfl hHeld (by intro w' s0; go_simp; with_reducible rfl) ?_
            refine one_ (i := 7) (N := some 31) (B_ 10 255) rfl rfl (by kernel_rfl) (by decide) (fun K hK => ?_)
            refine value_ (w1 := ?_) (v := ?_) (by rfl) rfl ?_ ?_
            rotate_left 2
            · go_simp
              constructor
              · rfl
              · rfl
            refine hK.out _ _ (trivial) (fun hHeld => ?_)
            clear hK K
            refine nm_ 31 ?_
            refine one_ (i := 8) (N := some 32) (B_ 10 511) rfl rfl (by kernel_rfl) (by decide) (fun K hK => ?_)
            refine Kd.R_append_rows_step (Kd.int .u8) (Rr := fun x cs => cs = [.int .u8 x]) (w0 := wx.drew.alloc (.cells #[.int .u8 92, .int .u8 ha, .int .u8 hb'] 5)) 0 (by rfl) (.tmp 24) (.tmp 31) 52 5 (.int .u8 0) 1 rfl Try.underlying52 PFilterBounds.info5 rfl (by decide) (by omega) (.slice A' n' c') (pre f k) [92, ha, hb'] (some ⟨wx.heap.size, 0, none⟩) 3 3 (fun q => w2.heap.size ≤ q) (fun _ => False) rfl rfl (Kd.R_below hR.out (below_then (below_drew (Below.refl _ _)) (Nat.le_refl _) (below_alloc (Below.refl _ _) _))) (reads3 wx.drew 92 ha hb') (fun _ _ h => h) (fun _ h => h.elim) (fun q hq => by simp at hq; omega) (Below.refl _ _) (Nat.zero_le _) (by omega) ?_
            intro v1 w9 ho _ hg _
            replace ho := Aside0.mk ho
            replace hg := Aside0.mk hg
            refine hK.out _ _ (trivial) (fun hHeld => ?_)
            clear hK K
            refine nm_ 32 ?_
            refine pn_ 9 3 (B_ 10 1023) rfl rfl ?_
            refine done_ (by kernel_rfl) ?_
            go_wp2_with fail
            go_roundw
            case rel => exact ⟨k + 1, _, by omega, rfl, by go_num, ⟨hkeep.out.trans (Below.grown (below_then (below_drew (Below.refl _ _)) (Nat.le_refl _) (below_alloc (Below.refl _ _) _) |>.mono hkeep.out.size) hg.out (by have := hkeep.out.size; simp; omega) (fun q hq => hR.out.1 q hq))⟩, ⟨by rw [hnx.out]; exact ho.out⟩⟩
            case measure => simp [intOf]; omega
          | false =>
            rw [hs] at hsp
            have hnx := Aside0.mk (hstep.out _ (show valB x = [x] from by unfold valB; rw [d1, d2, hs]; rfl))
            clear hstep
            go_wp2_with fail
            refine hib.out.mono ?_
            rintro e wx ⟨rfl, rfl⟩
            go_wp2_with ((with_reducible refine gate_builtin (b := .append) (xs := #[.tmp 33, .tmp 35]) rfl ?_); at_builtin; refine Kd.R_append (Kd.int .u8) (w0 := wx) 0 rfl (.tmp 33) (.tmp 35) 52 5 (.int .u8 0) 1 rfl Try.underlying52 PFilterBounds.info5 rfl (by decide) (by omega) (.slice A' n' c') (pre f k) x [.int .u8 x] (fun q => w2.heap.size ≤ q) (fun _ => False) rfl rfl rfl (fun _ h => h.elim) (fun q hq => by omega) hR.out (Below.refl _ _) (Nat.zero_le _) (by omega) ?_; intro v1 w9 ho _ hg _; replace ho := Aside0.mk ho; replace hg := Aside0.mk hg)
            go_roundw
            case rel => exact ⟨k + 1, _, by omega, rfl, by go_num, ⟨hkeep.out.trans (Below.grown (Below.refl _ _) hg.out hkeep.out.size (fun q hq => hR.out.1 q hq))⟩, ⟨by rw [hnx.out]; exact ho.out⟩⟩
            case measure => simp [intOf]; omega
    · obtain rfl : k = M := by omega
      obtain ⟨A', c', ev, _, hC⟩ := Kd.R_reads hR.out
      have hst := Kd.C_string (P := Try.prog) (src := 52) (dst := 9) (c := c') Try.underlying52 Try.underlying5 Try.underlying9 hC
      have hbn := Aside0.mk (below_then hbb.out hbb.out.size hkeep.out)
      subst ev
      rw [← hv.out] at hst
      generalize (pre f k).length = nn at *
      clear hC hR
      go_wp2_with fail
      go_ret
      exact ⟨by rw [hr.out]; rfl, hbn.out⟩
end Go.Proofs.Ytgnmkblaockghaa
