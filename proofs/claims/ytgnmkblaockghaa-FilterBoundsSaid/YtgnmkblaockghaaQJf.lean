/- filter.Text; the reader: next, take; filter.digit. -/
import Derived.Test.YtgnmkblaockghaaQGb
set_option linter.unusedVariables false
set_option linter.unusedSimpArgs false
namespace Go.Proofs.Ytgnmkblaockghaa
open Go.RowKit Go.Shelf Go.Proofs.YtgnmkblaockghaaW.PrintWords Go.Proofs.YtgnmkblaockghaaW.PrintMore Go.Proofs.YtgnmkblaockghaaW.PrintLast

/-- What Text answers. -/
def textR (x : Ft) : ByteArray × Int := if rightF x = true then (textT x, 0) else ({ data := #[] }, 2)
set_option maxRecDepth 8000 in
set_option maxHeartbeats 1000000 in
theorem Text_calls (x : Ft) (A : Option Addr) (c : Nat) (w : World) (hv : Fv w x A c) (hw : wF x ≤ 12000) :
    Calls Try.prog 28 #[fv x A c] w fun e w' => e = .returned (.tuple #[.string (textR x).1, .int .i64 (textR x).2]) ∧ Below w.heap.size w w' := by
  have hb1 := below_alloc (Below.refl w.heap.size w) (.cells #[.int .i64 x.f0, .slice A x.f1.length c, .string x.f2, .string x.f3] 25)
  have hX := fbox_new w 25 (.int .i64 x.f0) (.slice A x.f1.length c) (.string x.f2) (.string x.f3)
  obtain ⟨w1, hw1⟩ : ∃ w1, w.alloc (.cells #[.int .i64 x.f0, .slice A x.f1.length c, .string x.f2, .string x.f3] 25) = w1 := ⟨_, rfl⟩
  rw [hw1] at hb1 hX
  obtain ⟨p0, p1, p2, p3⟩ := hX.cells
  have hck := fcheck_calls x A c w1 (hv.below hb1) hw
  have htx := Aside0.mk (fun (h : rightF x = true) W (hb : Below w.heap.size w W) => by
    obtain ⟨mm, hmm⟩ := Option.isSome_iff_exists.1 (show (cntT 0 1 x).isSome = true from h)
    exact text_calls x (good_of_cnt x 0 1 mm hmm) hw A c W (hv.below hb))
  have hcn : checkN x = if rightF x = true then 0 else 2 := rfl
  have hr : textR x = if rightF x = true then (textT x, 0) else ({ data := #[] }, 2) := rfl
  obtain ⟨⟨R1, R2⟩, hRe⟩ : ∃ R, textR x = R := ⟨_, rfl⟩
  rw [hRe] at hr ⊢
  unfold fv at hck htx ⊢
  replace hck := Aside0.mk hck
  replace hX := Aside0.mk hX
  replace hb1 := Aside0.mk hb1
  generalize hrf : rightF x = rf at *
  generalize checkN x = nn at *
  generalize textT x = tt at *
  generalize x.f1.length = M at *
  clear hRe hv hw
  cases rf with
  | false =>
    rw [if_neg (by simp)] at hcn hr
    subst hcn
    obtain ⟨rfl, rfl⟩ : R1 = { data := #[] } ∧ R2 = 2 := by injection hr with h1 h2; exact ⟨h1, h2⟩
    go_enter Try.func28, Try.ntmps28
    go_wp2_with fail
    refine hck.out.mono ?_
    rintro e w2 ⟨rfl, hb2⟩
    replace hb2 := Aside0.mk (below_then hb1.out hb1.out.size hb2)
    go_wp2_with fail
    go_ret2
    exact ⟨rfl, hb2.out⟩
  | true =>
    rw [if_pos rfl] at hcn hr
    subst hcn
    obtain ⟨rfl, rfl⟩ : R1 = tt ∧ R2 = 0 := by injection hr with h1 h2; exact ⟨h1, h2⟩
    go_enter Try.func28, Try.ntmps28
    go_wp2_with fail
    refine hck.out.mono ?_
    rintro e w2 ⟨rfl, hb2⟩
    obtain ⟨q0, q1, q2, q3⟩ := (hX.out.below hb2).cells
    replace hb2 := Aside0.mk (below_then hb1.out hb1.out.size hb2)
    have ht := Aside0.mk (htx.out trivial w2 hb2.out)
    clear p0 p1 p2 p3 htx
    go_wp2_with fail
    refine ht.out.mono ?_
    rintro e w3 ⟨rfl, hb3⟩
    replace hb3 := Aside0.mk (below_then hb2.out hb2.out.size hb3)
    go_wp2_with fail
    go_ret2
    exact ⟨rfl, hb3.out⟩

/-! ### The reader -/
/-- A reader of s at a place, so many filters begun, lies at block B. -/
def RdAt (W : World) (B : Nat) (s : ByteArray) (p n : Nat) : Prop := W.heap[B]? = some (.cells #[.string s, .int .i64 (p : Int), .int .i64 (n : Int)] 73 (0, 0))
/-- Only block B. -/
def Only (B : Nat) : Nat → Prop := fun q => q = B
namespace RdAt
variable {W W' : World} {B p n : Nat} {s : ByteArray}
theorem c0 (h : RdAt W B s p n) : W.cell? ⟨B, 0, none⟩ = some (.string s) := (blk_cell h 0).trans rfl
theorem c1 (h : RdAt W B s p n) : W.cell? ⟨B, 1, none⟩ = some (.int .i64 (p : Int)) := (blk_cell h 1).trans rfl
theorem c2 (h : RdAt W B s p n) : W.cell? ⟨B, 2, none⟩ = some (.int .i64 (n : Int)) := (blk_cell h 2).trans rfl
theorem z1 (h : RdAt W B s p n) : W.frozen? ⟨B, 1, none⟩ = false := blk_frozen h 1
theorem z2 (h : RdAt W B s p n) : W.frozen? ⟨B, 2, none⟩ = false := blk_frozen h 2
theorem lt (h : RdAt W B s p n) : B < W.heap.size := blk_lt h
theorem below (h : RdAt W B s p n) (k : Below W.heap.size W W') : RdAt W' B s p n := (k.block _ h.lt).trans h
theorem set (h : RdAt W B s p n) (q : Nat) : RdAt (W.setCell ⟨B, 1, none⟩ (.int .i64 (q : Int))) B s q n := by unfold RdAt; simpa using blk_set h 1 (.int .i64 (q : Int))
theorem setN (h : RdAt W B s p n) (q : Nat) : RdAt (W.setCell ⟨B, 2, none⟩ (.int .i64 (q : Int))) B s p q := by unfold RdAt; simpa using blk_set h 2 (.int .i64 (q : Int))
theorem mod (h : RdAt W B s p n) {S : Nat → Prop} (k : Mod S W W') (hn : ¬ S B) : RdAt W' B s p n := k.blk h hn
end RdAt
theorem setAt_mod (w : World) (B : Nat) (j : Nat) (v : Value) : Mod (Only B) w (w.setCell ⟨B, j, none⟩ v) := (Mod.refl (Only B) w).setCell (p := ⟨B, j, none⟩) (.inl rfl) v
theorem bt_nat {s : ByteArray} {p : Nat} (h : p < s.size) : ((s[p]'h).toNat : Int) = bt s (p : Int) := bt_at s (p : Int) h
/-- A call of a Go function in a region that draws, by its contract: it may give up. -/
theorem goesP_ {P : Program} {ops : Array Oper} {Q : Exit → Act → World → Prop} {oi : Oper} {N : Option Tmp} {a : Act} {w : World} {K : Act → World → Prop} {f : FuncId} (args : Array Value)
    (hw : Region.wanted oi (yielded ops a.tmps) = true) (hN : oi.dst = N) (hrun : (execOp a.eval oi).run P w = .ok (.enter f args) w)
    (h : Calls P f args w fun e w' => (∃ v, e = .returned v ∧ K (a.put N v) w') ∨ ∃ ch, e = .panicked ch ∧ Q (.panic ch) a w') : if Region.wanted oi (yielded ops a.tmps) = true then Oper.wp P oi a w K Q else K (a.put N undef) w := by
  rw [if_pos hw]
  subst hN
  unfold Oper.wp
  rw [hrun, Oper.upon_enter]
  refine h.mono fun e w'' hh => ?_
  rcases hh with ⟨v, rfl, hk⟩ | ⟨ch, rfl, hq⟩
  · exact hk
  · exact hq
theorem must_calls (b : Bool) (w : World) : Calls Try.prog 40 #[.bool b] w fun e w' => e = (if b = true then .returned (.tuple #[]) else stopE) ∧ w' = w := by
  cases b with
  | true => exact must_yes w
  | false => exact must_no w
set_option maxRecDepth 8000 in
set_option maxHeartbeats 1000000 in
theorem next_calls (B p n : Nat) (s : ByteArray) (w : World) (hs : s.size ≤ 12000) (h : RdAt w B s p n) (b : Bool) (hb : decide (p < s.size) = b) :
    Calls Try.prog 67 #[.pointer (some ⟨B, 0, none⟩)] w fun e w' => e = (if b = true then .returned (.int .u8 (bt s p)) else stopE) ∧ Below w.heap.size w w' := by
  have c0 := h.c0
  have c1 := h.c1
  have hbn := Aside0.mk (fun (hp : p < s.size) => bt_nat hp)
  have hmy := Aside0.mk (must_calls b w.drew)
  have hb' := Aside0.mk hb
  have d1 : decide ((p : Int) < (s.size : Int)) = b := by rw [← hb]; exact decide_eq_decide.2 ⟨fun h => by omega, fun h => by omega⟩
  have hb0 := Aside0.mk (below_drew (Below.refl w.heap.size w))
  replace h := Aside0.mk h
  have i0 : (0 : Int) ≤ (p : Int) := by omega
  go_enter Try.func67, Try.ntmps67
  go_wp2_with fail
  refine start_ (n := 11) (S := fun w' => w'.cell? ⟨B, 0, none⟩ = some (.string s) ∧ w'.cell? ⟨B, 1, none⟩ = some (.int .i64 (p : Int))) (ds := []) #[false, false, false, false, false, false, false, false, false, false, false] (by kernel_rfl) rfl rfl ⟨c0, c1⟩ (fun hHeld => ?_)
  refine pn_ 0 3 #[true, false, false, false, false, false, false, false, false, false, false] rfl rfl ?_
  refine pn_ 1 4 #[true, true, false, false, false, false, false, false, false, false, false] rfl rfl ?_
  refine pn_ 2 5 #[true, true, true, false, false, false, false, false, false, false, false] rfl rfl ?_
  refine pn_ 4 7 #[true, true, true, false, true, false, false, false, false, false, false] rfl rfl ?_
  refine pn_ 5 8 #[true, true, true, false, true, true, false, false, false, false, false] rfl rfl ?_
  refine pn_ 6 9 #[true, true, true, false, true, true, true, false, false, false, false] rfl rfl ?_
  refine tk_ 3 6 #[true, true, true, true, true, true, true, false, false, false, false] rfl rfl hHeld (by rintro w' ⟨s0, s1⟩; go_simp; with_reducible rfl) ?_
  refine tk_ 7 10 #[true, true, true, true, true, true, true, true, false, false, false] rfl rfl hHeld (by rintro w' ⟨s0, s1⟩; go_simp; with_reducible rfl) ?_
  refine pn_ 8 11 #[true, true, true, true, true, true, true, true, true, false, false] rfl rfl ?_
  refine pn_ 9 12 #[true, true, true, true, true, true, true, true, true, true, false] rfl rfl ?_
  refine one_ (i := 10) (N := some 13) #[true, true, true, true, true, true, true, true, true, true, true] rfl rfl (by kernel_rfl) (by decide) (fun K hK => ?_)
  refine goesP_ (f := 40) #[.bool b] (by rfl) rfl (by go_simp) ?_
  refine hmy.out.mono ?_
  rintro e w4 ⟨he, hw4⟩
  subst hw4
  rcases b with _ | _
  · exact .inr ⟨_, he, rfl, rfl, hb0.out⟩
  refine .inl ⟨_, he, ?_⟩
  refine hK.out _ _ ⟨c0, c1⟩ (fun hHeld => ?_)
  clear hK K
  refine nm_ 13 ?_
  refine done_ (by kernel_rfl) ?_
  have i1 : (p : Int) < (s.size : Int) := of_decide_eq_true d1
  have i2 : p < s.size := by omega
  have hbt := hbn.out i2
  clear hb d1 hbn
  go_wp2_with fail
  go_quiet (fail)
  go_wp2_with fail
  go_ret
  exact ⟨rfl, ⟨rfl, rfl, rfl, Nat.le_refl _, fun _ _ => rfl⟩⟩
theorem next_yes (B p n : Nat) (s : ByteArray) (w : World) (hs : s.size ≤ 12000) (h : RdAt w B s p n) (hp : p < s.size) :
    Calls Try.prog 67 #[.pointer (some ⟨B, 0, none⟩)] w fun e w' => e = .returned (.int .u8 (bt s p)) ∧ Below w.heap.size w w' := next_calls B p n s w hs h true (decide_eq_true hp)
theorem next_no (B p n : Nat) (s : ByteArray) (w : World) (hs : s.size ≤ 12000) (h : RdAt w B s p n) (hp : ¬ p < s.size) :
    Calls Try.prog 67 #[.pointer (some ⟨B, 0, none⟩)] w fun e w' => e = stopE ∧ Below w.heap.size w w' := next_calls B p n s w hs h false (decide_eq_false hp)
end Go.Proofs.Ytgnmkblaockghaa

/- The reader: take; filter.digit. -/
set_option linter.unusedVariables false
set_option linter.unusedSimpArgs false
namespace Go.Proofs.Ytgnmkblaockghaa
open Go.RowKit Go.Shelf Go.Proofs.YtgnmkblaockghaaW.PrintWords Go.Proofs.YtgnmkblaockghaaW.PrintMore Go.Proofs.YtgnmkblaockghaaW.PrintLast

/-- What a call ends in: an answer and the reader behind it, or it gives up. -/
def Took (r : Option (Value × Nat)) (B n : Nat) (s : ByteArray) (w : World) (e : Ending) (w' : World) : Prop :=
  (match r with
    | some (v, q) => e = .returned v ∧ RdAt w' B s q n
    | none => e = stopE) ∧ Mod (Only B) w w'
/-- A byte is taken. -/
def takeF (s : ByteArray) (p : Nat) (x : Int) : Option Nat := if p < s.size ∧ bt s (p : Int) = x then some (p + 1) else none
set_option maxRecDepth 8000 in
set_option maxHeartbeats 1000000 in
theorem take_calls (B p n : Nat) (s : ByteArray) (x : Int) (w : World) (hs : s.size ≤ 12000) (h : RdAt w B s p n) :
    Calls Try.prog 65 #[.pointer (some ⟨B, 0, none⟩), .int .u8 x] w (Took ((takeF s p x).map fun q => (.tuple #[], q)) B n s w) := by
  by_cases hp : p < s.size
  · have hn := Aside0.mk (next_yes B p n s w hs h hp)
    generalize hy : bt s (p : Int) = y at *
    cases hq : (y == x) with
    | true =>
      have hr : takeF s p x = some (p + 1) := if_pos ⟨hp, by rw [hy]; simpa using hq⟩
      rw [hr]
      have hp' := Aside0.mk hp
      have hpp : p ≤ 12000 := by omega
      replace h := Aside0.mk h
      clear hp hy hr
      go_enter Try.func65, Try.ntmps65
      go_wp2_with fail
      refine hn.out.mono ?_
      rintro e w1 ⟨rfl, hb⟩
      have h1 := h.out.below hb
      have hm1 := Aside0.mk (Mod.of_below (S := Only B) hb)
      clear hb hn
      go_wp2_with fail
      refine (must_yes _).mono ?_
      rintro e w2 ⟨rfl, rfl⟩
      have c1 := h1.c1
      have z1 := h1.z1
      have hset := Aside0.mk (h1.set (p + 1))
      have hm2 := Aside0.mk (hm1.out.trans (setAt_mod w2 B 1 (.int .i64 ((p + 1 : Nat) : Int))) (fun q hq => .inl hq))
      rw [show ((p + 1 : Nat) : Int) = (p : Int) + 1 from rfl] at hset hm2
      replace h1 := Aside0.mk h1
      go_wp2_with fail
      go_end0
      exact ⟨⟨rfl, hset.out⟩, hm2.out⟩
    | false =>
      have hr : takeF s p x = none := if_neg (by rintro ⟨_, h⟩; rw [hy] at h; simp [h] at hq)
      rw [hr]
      have hp' := Aside0.mk hp
      replace h := Aside0.mk h
      clear hp hy hr
      go_enter Try.func65, Try.ntmps65
      go_wp2_with fail
      refine hn.out.mono ?_
      rintro e w1 ⟨rfl, hb⟩
      have hm1 := Aside0.mk (Mod.of_below (S := Only B) hb)
      clear hb hn
      go_wp2_with fail
      refine (must_no _).mono ?_
      rintro e w2 ⟨rfl, rfl⟩
      go_wp2_with fail
      exact ⟨rfl, rfl, hm1.out⟩
  · have hn := Aside0.mk (next_no B p n s w hs h hp)
    have hr : takeF s p x = none := if_neg (fun h => hp h.1)
    rw [hr]
    replace hp := Aside0.mk hp
    replace h := Aside0.mk h
    clear hr
    go_enter Try.func65, Try.ntmps65
    go_wp2_with fail
    refine hn.out.mono ?_
    rintro e w1 ⟨rfl, hb⟩
    have hm1 := Aside0.mk (Mod.of_below (S := Only B) hb)
    clear hb hn
    go_wp2_with fail
    exact ⟨rfl, rfl, hm1.out⟩
/-! ### digit -/
def hexN (x : Int) : Int := if 48 ≤ x ∧ x ≤ 57 then x - 48 else if 97 ≤ x ∧ x ≤ 102 then x - 87 else if 65 ≤ x ∧ x ≤ 70 then x - 55 else -1
theorem hex_fin : ∀ t : Fin 256, Lib.indexByte [48, 49, 50, 51, 52, 53, 54, 55, 56, 57, 97, 98, 99, 100, 101, 102] (smallB (t.val : Int)).toNat.toUInt8 = hexN (t.val : Int) := by decide +kernel
theorem hex_idx (x : Int) (x0 : 0 ≤ x) (x1 : x < 256) : Lib.indexByte ({ data := #[48, 49, 50, 51, 52, 53, 54, 55, 56, 57, 97, 98, 99, 100, 101, 102] } : ByteArray).data.toList (smallB x).toNat.toUInt8 = hexN x := by
  have h := hex_fin ⟨x.toNat, by omega⟩
  have e : ((x.toNat : Nat) : Int) = x := by omega
  simp only [e] at h
  exact h
theorem hexN_range (x : Int) : -1 ≤ hexN x ∧ hexN x < 16 := by unfold hexN; split <;> (try split) <;> (try split) <;> omega
theorem small_one (x : Int) (x0 : 0 ≤ x) (x1 : x < 256) : small (strOfNums [x]) = strOfNums [smallB x] := by
  have h : bytesOf (strOfNums [x]) = [x] := by
    simp [strOfNums, bytesOf]
    omega
  unfold small
  rw [h]
  rfl
theorem str_one (y : Int) (y0 : 0 ≤ y) (y1 : y < 256) : (strOfNums [y]).size = 1 ∧ bt (strOfNums [y]) 0 = y := by
  refine ⟨rfl, ?_⟩
  rw [← bt_at (strOfNums [y]) 0 (show (0 : Int).toNat < 1 by decide)]
  show ((UInt8.ofNat y.toNat).toNat : Int) = y
  rw [UInt8.toNat_ofNat']
  omega
theorem smallB_range (x : Int) (x0 : 0 ≤ x) (x1 : x < 256) : 0 ≤ smallB x ∧ smallB x < 256 := by unfold smallB; split <;> omega
set_option maxRecDepth 8000 in
set_option maxHeartbeats 1000000 in
theorem digit_calls (x : Int) (w : World) (x0 : 0 ≤ x) (x1 : x < 256) :
    Calls Try.prog 102 #[.int .u8 x] w fun e w' => e = (if 0 ≤ hexN x then .returned (.int .u8 (hexN x)) else stopE) ∧ Below w.heap.size w w' := by
  have hN := heap_alloc_new w (.cells #[.int .u8 x] 5)
  have hb1 := below_alloc (Below.refl w.heap.size w) (.cells #[.int .u8 x] 5)
  obtain ⟨w1, hw1⟩ : ∃ w1, w.alloc (.cells #[.int .u8 x] 5) = w1 := ⟨_, rfl⟩
  rw [hw1] at hN hb1
  have hR : ReadsInt w1 .u8 (some ⟨w.heap.size, 0, none⟩) 1 [x] := ⟨rfl, by decide, fun _ => ⟨_, rfl, fun j hj => by
    obtain rfl : j = 0 := by omega
    rw [add_plain]
    exact (blk_cell hN 0).trans rfl⟩⟩
  have hst := string_of_reads (P := Try.prog) (src := 52) (dst := 9) (c := 1) Try.underlying52 Try.underlying5 Try.underlying9 hR
  have hsm := small_calls (strOfNums [x]) w1 (by show (1 : Nat) ≤ 12000; decide)
  rw [small_one x x0 x1] at hsm
  obtain ⟨y0, y1⟩ := smallB_range x x0 x1
  obtain ⟨hz, hbt⟩ := str_one (smallB x) y0 y1
  have hix := hex_idx x x0 x1
  have hib := fun W => ib_calls { data := #[48, 49, 50, 51, 52, 53, 54, 55, 56, 57, 97, 98, 99, 100, 101, 102] } (smallB x) W
  rw [hix] at hib
  replace hsm := Aside0.mk hsm
  replace hib := Aside0.mk hib
  replace hb1 := Aside0.mk hb1
  obtain ⟨r1, r2⟩ := hexN_range x
  generalize hexN x = r at *
  generalize smallB x = y at *
  have hix0 : ∀ W, (Instr.index 9 (.string (strOfNums [y])) (.int .i64 0)).run Try.prog W = .ok (.int .u8 y) W := by
    intro W
    have hg := bt_at (strOfNums [y]) 0 (show (0 : Int).toNat < (strOfNums [y]).size by rw [hz]; decide)
    rw [hbt] at hg
    have i1 : (0 : Int) ≤ 0 ∧ (0 : Int) < ((strOfNums [y]).size : Int) := by rw [hz]; decide
    rw [run_index_string (P := Try.prog) (t := 9) (s := strOfNums [y]) (k := .i64) (i := 0) (h := Try.underlying9), dif_pos i1]
    exact congrArg (fun q => Result.ok (Value.int .u8 q) W) hg
  clear hN hR hix hz hbt
  generalize strOfNums [y] = sy at *
  generalize strOfNums [x] = sx at *
  by_cases hr : 0 ≤ r
  · rw [if_pos hr]
    have e1 : r % 256 = r := by omega
    have e2 : IntKind.u8.wrap r = r := by rw [IntKind.wrap_u8]; exact e1
    have d1 : decide (0 ≤ r) = true := decide_eq_true hr
    go_enter Try.func102, Try.ntmps102
    go_wp2_with fail
    refine hsm.out.mono ?_
    rintro e w2 ⟨rfl, hb2⟩
    replace hb2 := Aside0.mk (below_then hb1.out hb1.out.size hb2)
    go_wp2_with fail
    refine (hib.out w2).mono ?_
    rintro e w3 ⟨rfl, rfl⟩
    go_wp2_with fail
    refine (must_yes _).mono ?_
    rintro e w4 ⟨rfl, rfl⟩
    go_wp2_with fail
    go_ret
    exact ⟨rfl, hb2.out⟩
  · rw [if_neg hr]
    have d1 : decide (0 ≤ r) = false := decide_eq_false hr
    go_enter Try.func102, Try.ntmps102
    go_wp2_with fail
    refine hsm.out.mono ?_
    rintro e w2 ⟨rfl, hb2⟩
    replace hb2 := Aside0.mk (below_then hb1.out hb1.out.size hb2)
    go_wp2_with fail
    refine (hib.out w2).mono ?_
    rintro e w3 ⟨rfl, rfl⟩
    go_wp2_with fail
    refine (must_no _).mono ?_
    rintro e w4 ⟨rfl, rfl⟩
    go_wp2_with fail
    exact ⟨rfl, rfl, hb2.out⟩
end Go.Proofs.Ytgnmkblaockghaa
