/- What the parser does, as plain functions; (*reader).typed. -/
import Derived.Test.YthbjgcmbbdlfkaaCh
set_option linter.unusedVariables false
set_option linter.unusedSimpArgs false
namespace Go.Proofs.Ythbjgcmbbdlfkaa
open Go.RowKit Go.Shelf Go.Proofs.YthbjgcmbbdlfkaaW.PrintWords Go.Proofs.YthbjgcmbbdlfkaaW.PrintMore Go.Proofs.YthbjgcmbbdlfkaaW.PrintLast

/-- The first = from a place on, or the end. -/
def eqAt (s : ByteArray) (k : Nat) : Nat := if h : k < s.size ∧ bt s (k : Int) ≠ 61 then eqAt s (k + 1) else k
termination_by s.size - k
theorem eqAt_step {s : ByteArray} {k : Nat} (h : k < s.size) (h1 : bt s (k : Int) ≠ 61) : eqAt s (k + 1) = eqAt s k := by rw [eqAt.eq_1 s k, dif_pos ⟨h, h1⟩]
theorem eqAt_stop {s : ByteArray} {k : Nat} (h : ¬ (k < s.size ∧ bt s (k : Int) ≠ 61)) : eqAt s k = k := by rw [eqAt, dif_neg h]
/-- A Type and the = behind it. -/
def typedF (s : ByteArray) (k : Nat) : Option (ByteArray × Nat) :=
  if eqAt s k < s.size ∧ nameOk (s.extract k (eqAt s k)) = true then some (small (s.extract k (eqAt s k)), eqAt s k + 1) else none
/-- A byte behind a backslash. -/
def toldF (s : ByteArray) (k : Nat) : Option (Int × Nat) :=
  if k < s.size then
    if signB (bt s (k : Int)) = true ∨ bt s (k : Int) = 32 ∨ bt s (k : Int) = 35 then some (bt s (k : Int), k + 1)
    else if k + 1 < s.size ∧ digitB (bt s (k : Int)) < 16 ∧ digitB (bt s ((k + 1 : Nat) : Int)) < 16 then some (16 * digitB (bt s (k : Int)) + digitB (bt s ((k + 1 : Nat) : Int)), k + 2)
    else none
  else none
/-- A Value; out: its bytes up to here; blank: is the last one a bare blank? -/
def valF (s : ByteArray) (k : Nat) (out : List Int) (blank : Bool) : Option (List Int × Nat) :=
  if h : k < s.size ∧ bt s (k : Int) ≠ 44 then
    if bt s (k : Int) = 92 then
      match toldF s (k + 1) with
      | none => none
      | some (y, q) => if h2 : k < q then valF s q (out ++ [y]) false else none
    else if signB (bt s (k : Int)) = false ∧ 32 ≤ bt s (k : Int) ∧ bt s (k : Int) ≤ 126 ∧ (out ≠ [] ∨ (bt s (k : Int) ≠ 32 ∧ bt s (k : Int) ≠ 35)) then
      valF s (k + 1) (out ++ [bt s (k : Int)]) (bt s (k : Int) == 32)
    else none
  else if blank = false ∧ 1 ≤ out.length ∧ out.length ≤ 200 then some (out, k) else none
termination_by s.size - k
/-- What a call ends in: an answer and the reader behind it, or it gives up. -/
def Took (r : Option (Value × Nat)) (B : Nat) (s : ByteArray) (w : World) (e : Ending) (w' : World) : Prop :=
  (match r with
    | some (v, q) => e = .returned v ∧ RdAt w' B s q ∧ q ≤ s.size
    | none => e = stopE) ∧ Mod (Only B) w w'
theorem extract_size {s : ByteArray} {i j : Nat} (h : j ≤ s.size) : (s.extract i j).size = j - i := by simp [ByteArray.size_extract]; omega
def nextX (s : ByteArray) (k : Nat) : Int := if k < s.size then bt s (k : Int) else 0
def nextB (s : ByteArray) (k : Nat) : Bool := decide (k < s.size)
theorem next' (B p : Nat) (s : ByteArray) (w : World) (hs : s.size ≤ 12000) (h : RdAt w B s p) (hp : p ≤ s.size) :
    Calls Try.prog 38 #[.pointer (some ⟨B, 0, none⟩)] w fun e w' => e = .returned (.tuple #[.int .u8 (nextX s p), .bool (nextB s p)]) ∧ Below w.heap.size w w' := by
  have := next_calls B p s w hs h hp
  unfold nextX nextB
  by_cases c : p < s.size
  · simp only [if_pos c, decide_eq_true c] at this ⊢
    exact this
  · simp only [if_neg c, decide_eq_false c] at this ⊢
    exact this
theorem next_yes {s : ByteArray} {k : Nat} (h : k < s.size) : nextX s k = bt s (k : Int) ∧ nextB s k = true := ⟨by unfold nextX; rw [if_pos h], decide_eq_true h⟩
theorem next_no {s : ByteArray} {k : Nat} (h : ¬ k < s.size) : nextX s k = 0 ∧ nextB s k = false := ⟨by unfold nextX; rw [if_neg h], decide_eq_false h⟩
/-- The reader's place in a world: for a measure. -/
def atOf (B : Nat) (W : World) : Nat := (intOf ((W.cell? ⟨B, 1, none⟩).getD undef)).toNat
theorem atOf_rd {W : World} {B p : Nat} {s : ByteArray} (h : RdAt W B s p) : atOf B W = p := by unfold atOf; rw [h.c1]; simp [intOf]
set_option maxHeartbeats 2000000 in
theorem typed_calls (B p : Nat) (s : ByteArray) (w : World) (hs : s.size ≤ 12000) (h : RdAt w B s p) (hp : p ≤ s.size) :
    Calls Try.prog 35 #[.pointer (some ⟨B, 0, none⟩)] w (Took ((typedF s p).map fun r => (.string r.1, r.2)) B s w) := by
  have c1 := h.c1
  have hnx := Aside0.mk (next' B p s w hs h hp)
  replace h := Aside0.mk h
  go_enter Try.func35, Try.ntmps35
  go_wp2_with fail
  refine hnx.out.mono ?_
  rintro e w1 ⟨rfl, hb⟩
  replace h := Aside0.mk (h.out.below hb)
  have hmod := Aside0.mk (Mod.of_below (S := Only B) hb)
  clear c1 hb hnx
  go_wp2_with fail
  go_loopw [4, 5] (fun s4 s5 wr => ∃ k : Nat, Aside0 (k ≤ s.size) ∧ Aside0 (p ≤ k) ∧ Aside0 (eqAt s k = eqAt s p) ∧ s4 = .int .u8 (nextX s k) ∧ s5 = .bool (nextB s k) ∧ Aside0 (RdAt wr B s k) ∧ Aside0 (Mod (Only B) w wr)) (fun _ _ wr => s.size - atOf B wr)
  case atStart => exact ⟨p, ⟨hp⟩, ⟨Nat.le_refl _⟩, ⟨rfl⟩, rfl, rfl, h, hmod⟩
  case round =>
    obtain ⟨k, hk, hpk, heq, rfl, rfl, hr, hm⟩ := hrel
    clear h hmod
    have c0 := hr.out.c0
    have c1 := hr.out.c1
    have z1 := hr.out.z1
    have i0 : (0 : Int) ≤ (p : Int) := by omega
    have i1 : (p : Int) ≤ (k : Int) := by have := hpk.out; omega
    have i2 : (k : Int) ≤ (s.size : Int) := by have := hk.out; omega
    by_cases hlt : k < s.size
    · rw [(next_yes hlt).1, (next_yes hlt).2]
      by_cases h61 : bt s (k : Int) = 61
      · have e1 : (bt s (k : Int) != 61) = false := by simpa using h61
        have heq' : eqAt s p = k := by rw [← heq.out, eqAt_stop (fun h => h.2 h61)]
        clear h61
        have hnx := Aside0.mk (fun W h => next' B k s W hs h hk.out)
        rw [(next_yes hlt).1, (next_yes hlt).2] at hnx
        go_wp2_with fail
        go_quiet (fail)
        go_wp2_with fail
        refine (hnx.out (wr.drewN nq) (hr.out.below ⟨rfl, rfl, rfl, Nat.le_refl _, fun _ _ => rfl⟩)).mono ?_
        rintro e w3 ⟨rfl, hb3⟩
        have hr3 := Aside0.mk ((hr.out.below ⟨rfl, rfl, rfl, Nat.le_refl _, fun _ _ => rfl⟩ : RdAt (wr.drewN nq) B s k).below hb3)
        have hm3 := Aside0.mk ((hm.out.drewN nq).then_below hb3)
        clear hnx hb3 c0 c1 z1
        obtain ⟨T, hT⟩ : ∃ T, s.extract p k = T := ⟨_, rfl⟩
        rw [hT]
        have hts : T.size ≤ 12000 := by rw [← hT, extract_size hk.out]; omega
        have hnm := Aside0.mk (name_calls T w3 hts)
        have hres : typedF s p = if nameOk T = true then some (small T, k + 1) else none := by
          unfold typedF
          rw [heq', hT]
          simp [hlt]
        replace heq' := Aside0.mk heq'
        replace hT := Aside0.mk hT
        replace hts := Aside0.mk hts
        cases hok : nameOk T with
        | true =>
          rw [hok] at hnm
          rw [hok, if_pos rfl] at hres
          replace hres := Aside0.mk hres
          go_wp2_with fail
          refine hnm.out.mono ?_
          rintro e w4 ⟨rfl, hb4⟩
          replace hr3 := Aside0.mk (hr3.out.below hb4)
          replace hm3 := Aside0.mk (hm3.out.then_below hb4)
          clear hb4 hnm
          go_wp2_with fail
          refine (must_yes _).mono ?_
          rintro e w4 ⟨rfl, rfl⟩
          have c1 := hr3.out.c1
          have z1 := hr3.out.z1
          have e2 : wrap64 ((k : Int) + 1) = (k : Int) + 1 := by unfold wrap64; have := hk.out; omega
          have hr' := Aside0.mk (show RdAt (w4.setCell ⟨B, 1, none⟩ (.int .i64 ((k : Int) + 1))) B s (k + 1) from hr3.out.set (k + 1))
          have hm' := Aside0.mk (hm3.out.setCell (p := ⟨B, 1, none⟩) (.inl rfl) (.int .i64 ((k : Int) + 1)))
          obtain ⟨wn, hwn⟩ : ∃ wn, w4.setCell ⟨B, 1, none⟩ (.int .i64 ((k : Int) + 1)) = wn := ⟨_, rfl⟩
          rw [hwn] at hr' hm'
          clear hr3 hm3
          go_wp2_with fail
          clear c1 z1 e2 hwn
          refine (small_calls T wn hts.out).mono ?_
          rintro e w6 ⟨rfl, hb6⟩
          replace hr' := Aside0.mk (hr'.out.below hb6)
          replace hm' := Aside0.mk (hm'.out.then_below hb6)
          clear hb6
          go_wp2_with fail
          go_ret
          exact ⟨by rw [hres.out]; exact ⟨rfl, hr'.out, hlt⟩, hm'.out⟩
        | false =>
          rw [hok] at hnm
          rw [hok, if_neg (by simp)] at hres
          replace hres := Aside0.mk hres
          go_wp2_with fail
          refine hnm.out.mono ?_
          rintro e w4 ⟨rfl, hb4⟩
          replace hm3 := Aside0.mk (hm3.out.then_below hb4)
          clear hb4 hnm
          go_wp2_with fail
          refine (must_no _).mono ?_
          rintro e w4 ⟨rfl, rfl⟩
          go_wp2_with fail
          exact ⟨rfl, by rw [hres.out]; rfl, hm3.out⟩
      · have e1 : (bt s (k : Int) != 61) = true := by simpa using h61
        have e2 : wrap64 ((k : Int) + 1) = (k : Int) + 1 := by unfold wrap64; omega
        have hr' := Aside0.mk (show RdAt (wr.setCell ⟨B, 1, none⟩ (.int .i64 ((k : Int) + 1))) B s (k + 1) from hr.out.set (k + 1))
        have hm' := Aside0.mk (hm.out.setCell (p := ⟨B, 1, none⟩) (.inl rfl) (.int .i64 ((k : Int) + 1)))
        have heq' := Aside0.mk ((eqAt_step hlt h61).trans heq.out)
        have hmz := Aside0.mk (atOf_rd hr.out)
        obtain ⟨wn, hwn⟩ : ∃ wn, wr.setCell ⟨B, 1, none⟩ (.int .i64 ((k : Int) + 1)) = wn := ⟨_, rfl⟩
        rw [hwn] at hr' hm'
        have hnx := Aside0.mk (next' B (k + 1) s wn hs hr'.out (by omega))
        replace h61 := Aside0.mk h61
        replace hlt := Aside0.mk hlt
        go_wp2_with fail
        refine hnx.out.mono ?_
        rintro e w2 ⟨rfl, hb⟩
        have hm2 := Aside0.mk (hm'.out.then_below hb)
        replace hr' := Aside0.mk (hr'.out.below hb)
        clear hnx hm' hwn
        replace hb := Aside0.mk hb
        go_wp2_with fail
        go_roundw
        case rel => exact ⟨k + 1, ⟨hlt.out⟩, ⟨by have := hpk.out; omega⟩, heq', rfl, rfl, hr', hm2⟩
        case measure => rw [atOf_rd hr'.out, hmz.out]; have := hlt.out; omega
    · obtain rfl : k = s.size := by have := hk.out; omega
      rw [(next_no hlt).1, (next_no hlt).2]
      have heq' : eqAt s p = s.size := by rw [← heq.out, eqAt_stop (fun h => hlt h.1)]
      have hnx := Aside0.mk (fun W h => next' B s.size s W hs h hk.out)
      rw [(next_no hlt).1, (next_no hlt).2] at hnx
      have hres := Aside0.mk (show typedF s p = none from by unfold typedF; rw [heq', if_neg (fun h => hlt h.1)])
      clear heq'
      replace hlt := Aside0.mk hlt
      go_wp2_with fail
      go_quiet (fail)
      go_wp2_with fail
      refine (hnx.out (wr.drewN nq) (hr.out.below ⟨rfl, rfl, rfl, Nat.le_refl _, fun _ _ => rfl⟩)).mono ?_
      rintro e w3 ⟨rfl, hb3⟩
      have hm3 := Aside0.mk ((hm.out.drewN nq).then_below hb3)
      clear hnx hb3 c0 c1 z1
      go_wp2_with fail
      refine (must_no _).mono ?_
      rintro e w4 ⟨rfl, rfl⟩
      go_wp2_with fail
      exact ⟨rfl, by rw [hres.out]; rfl, hm3.out⟩
end Go.Proofs.Ythbjgcmbbdlfkaa
