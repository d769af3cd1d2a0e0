/- dn.Parse. -/
import Derived.Test.YthbjgcmbbdlfkaaCm
set_option linter.unusedVariables false
set_option linter.unusedSimpArgs false
namespace Go.Proofs.Ythbjgcmbbdlfkaa
open Go.RowKit Go.Shelf Go.Proofs.YthbjgcmbbdlfkaaW.PrintWords Go.Proofs.YthbjgcmbbdlfkaaW.PrintMore Go.Proofs.YthbjgcmbbdlfkaaW.PrintLast

theorem eqAt_ge (s : ByteArray) (k : Nat) : k ≤ eqAt s k := by
  induction h : s.size - k using Nat.strongRecOn generalizing k with
  | _ n ih =>
    by_cases c : k < s.size ∧ bt s (k : Int) ≠ 61
    · rw [← eqAt_step c.1 c.2]
      have := ih (s.size - (k + 1)) (by omega) (k + 1) rfl
      omega
    · rw [eqAt_stop c]; exact Nat.le_refl _
theorem typedF_gt {s : ByteArray} {k q : Nat} {t : ByteArray} (h : typedF s k = some (t, q)) : k < q := by
  unfold typedF at h
  split at h
  · injection h with h
    injection h with h1 h2
    have := eqAt_ge s k
    omega
  · cases h
theorem valF_ge (s : ByteArray) (k : Nat) (out : List Int) (b : Bool) {l : List Int} {q : Nat} (h : valF s k out b = some (l, q)) : k ≤ q := by
  induction hn : s.size - k using Nat.strongRecOn generalizing k out b with
  | _ n ih =>
    by_cases c : k < s.size ∧ bt s (k : Int) ≠ 44
    · by_cases c2 : bt s (k : Int) = 92
      · cases ht : toldF s (k + 1) with
        | none => rw [valF_untold c.1 c.2 c2 ht] at h; cases h
        | some yq =>
          obtain ⟨y, q'⟩ := yq
          rw [valF_told c.1 c.2 c2 ht] at h
          have := toldF_gt ht
          have := ih (s.size - q') (by omega) q' _ _ h rfl
          omega
      · by_cases c3 : signB (bt s (k : Int)) = false ∧ 32 ≤ bt s (k : Int) ∧ bt s (k : Int) ≤ 126 ∧ (out ≠ [] ∨ (bt s (k : Int) ≠ 32 ∧ bt s (k : Int) ≠ 35))
        · rw [valF_bare c.1 c.2 c2 ⟨rfl, c3⟩] at h
          have := ih (s.size - (k + 1)) (by omega) (k + 1) _ _ h rfl
          omega
        · rw [valF_no c.1 c.2 c2 c3] at h; cases h
    · rw [valF_end c] at h
      split at h
      · injection h with h; injection h with h1 h2; omega
      · cases h
theorem partF_gt {s : ByteArray} {k q : Nat} {r : Rdn} (h : partF s k = some (r, q)) : k < q := by
  unfold partF at h
  cases ht : typedF s k with
  | none => rw [ht] at h; cases h
  | some tq =>
    obtain ⟨t, q'⟩ := tq
    rw [ht] at h
    have h' : (valF s q' [] false).map (fun r => ((⟨t, strOfNums r.1⟩ : Rdn), r.2)) = some (r, q) := h
    cases hv : valF s q' [] false with
    | none => rw [hv] at h'; cases h'
    | some l =>
      obtain ⟨l, q2⟩ := l
      rw [hv] at h'
      injection h' with h'
      injection h' with h1 h2
      have := valF_ge s q' [] false hv
      have := typedF_gt ht
      omega
/-- The parts from a place on, behind d. -/
def parseF (s : ByteArray) (p : Nat) (d : List Rdn) : Option (List Rdn) :=
  match partF s p with
  | none => none
  | some (r, q) => if d.length + 1 ≤ 16 then (if h1 : q < s.size then (if h : p < q then parseF s (q + 1) (d ++ [r]) else none) else some (d ++ [r])) else none
termination_by s.size - p
theorem parseF_none {s : ByteArray} {p : Nat} {d : List Rdn} (h : partF s p = none) : parseF s p d = none := by rw [parseF, h]
theorem parseF_many {s : ByteArray} {p q : Nat} {d : List Rdn} {r : Rdn} (h : partF s p = some (r, q)) (hd : ¬ d.length + 1 ≤ 16) : parseF s p d = none := by rw [parseF, h]; simp only []; rw [if_neg hd]
theorem parseF_last {s : ByteArray} {p q : Nat} {d : List Rdn} {r : Rdn} (h : partF s p = some (r, q)) (hd : d.length + 1 ≤ 16) (hq : ¬ q < s.size) : parseF s p d = some (d ++ [r]) := by rw [parseF, h]; simp only []; rw [if_pos hd, dif_neg hq]
theorem parseF_more {s : ByteArray} {p q : Nat} {d : List Rdn} {r : Rdn} (h : partF s p = some (r, q)) (hd : d.length + 1 ≤ 16) (hq : q < s.size) : parseF s p d = parseF s (q + 1) (d ++ [r]) := by
  have := partF_gt h
  rw [parseF, h]
  simp only []
  rw [if_pos hd, dif_pos hq, dif_pos this]
/-- The name of a text. -/
def parseAll (s : ByteArray) : Option (List Rdn) := if s.size = 0 then some [] else parseF s 0 []
/-- What Parse ends in. -/
def Parsed (r : Option (List Rdn)) (w : World) (e : Ending) (w' : World) : Prop :=
  (match r with
    | some d => ∃ v, e = .returned (.tuple #[v, .int .i64 0]) ∧ kr.R 40 w' 0 (fun q => w.heap.size ≤ q) v d
    | none => e = .returned (.tuple #[.slice none 0 0, .int .i64 160])) ∧ Below w.heap.size w w'
theorem goesP_ {P : Program} {ops : Array Oper} {Q : Exit → Act → World → Prop} {oi : Oper} {N : Option Tmp} {a : Act} {w : World} {K : Act → World → Prop} {f : FuncId} (args : Array Value)
    (hw : Region.wanted oi (yielded ops a.tmps) = true) (hN : oi.dst = N) (hrun : (execOp a.eval oi).run P w = .ok (.enter f args) w)
    (h : Calls P f args w fun e w' => (∃ v, e = .returned v ∧ K (a.put N v) w') ∨ ∃ ch, e = .panicked ch ∧ Q (.panic ch) a w') : if Region.wanted oi (yielded ops a.tmps) = true then Oper.wp P oi a w K Q else K (a.put N undef) w := by
  rw [if_pos hw]
  subst hN
  unfold Oper.wp
  rw [hrun, Oper.upon_enter]
  refine h.mono fun e w'' hh => ?_
  rcases hh with ⟨v, rfl, hk⟩ | ⟨ch, rfl, hq⟩
  · exact hk
  · exact hq
theorem info40 : (Try.prog.info? 40).map (fun i => (i.zero, i.size, i.bytes)) = some (some (.agg #[.string (⟨#[]⟩ : ByteArray), .string (⟨#[]⟩ : ByteArray)]), 2, 32) := by kernel_rfl
theorem leaves_same {P : Program} {fn : Func} {t1 t2 : Array Value} {R : Ending → World → Prop} (h : results fn t1 = results fn t2) : ∀ (ds : List Deferred) (u : FrameMode) (w : World), Leaves P fn t1 R ds u w → Leaves P fn t2 R ds u w := by
  intro ds
  induction ds with
  | nil =>
    intro u w hl
    cases u with
    | returning => simp only [Leaves] at hl ⊢; rw [← h]; exact hl
    | panicking c => exact hl
    | run => exact hl
  | cons d ds ih =>
    intro u w hl
    obtain ⟨hu, fv, cap, f, args, h1, h2, h3⟩ := hl
    refine ⟨hu, fv, cap, f, args, h1, h2, h3.mono ?_⟩
    intro e u' w' he
    cases e with
    | returned v => exact ih _ _ he
    | panicked c => exact ih _ _ he
    | outgrown => exact he
theorem panic_put {a : Act} {v : Value} {R : Ending → World → Prop} {u : FrameMode} {w : World} (k : Nat) (h2 : k ≠ 2) (h3 : k ≠ 3) (h : Leaves Try.prog Try.f15 (a.put (some k) v).tmps R (a.put (some k) v).defers u w) : Leaves Try.prog Try.f15 a.tmps R a.defers u w := by
  refine leaves_same ?_ _ _ _ h
  simp [results, Try.results15, Act.put, Array.getElem?_setIfInBounds, h2, h3]
/-- Behind a give-up: what is deferred, and the end. -/
theorem gives_up (n E : Nat) (dv ev : Value) (w0 w : World) (tmps : Array Value) (R : Ending → World → Prop) (hD : w.heap[n]? = some (.cells #[dv] 23 (0, 0))) (hE : w.heap[E]? = some (.cells #[ev] 26 (0, 0))) (hne : n ≠ E)
    (h2 : tmps[2]? = some (.pointer (some ⟨n, 0, none⟩))) (h3 : tmps[3]? = some (.pointer (some ⟨E, 0, none⟩)))
    (hR : ∀ w', Mod (fun q => q = n ∨ q = E) w w' → R (.returned (.tuple #[.slice none 0 0, .int .i64 160])) w') :
    Leaves Try.prog Try.f15 tmps R [{ target := .fn (.func 33) #[.pointer (some ⟨n, 0, none⟩), .pointer (some ⟨E, 0, none⟩)], args := #[] }] (.panicking [{ v := .iface 48 (.agg #[]), recovered := false }]) w := by
  refine leaves_cons (f := 33) (args := #[.pointer (some ⟨n, 0, none⟩), .pointer (some ⟨E, 0, none⟩)]) (by simp) (by simp [go_sem]) ?_
  refine (catch_stop n E dv ev w hD hE hne).mono ?_
  rintro e u' w'' ⟨rfl, rfl, hD', hE', hm'⟩
  have c1 : w''.cell? ⟨n, 0, none⟩ = some (.slice none 0 0) := (blk_cell hD' 0).trans rfl
  have c2 : w''.cell? ⟨E, 0, none⟩ = some (.int .i64 160) := (blk_cell hE' 0).trans rfl
  have hr := hR w'' hm'
  refine ⟨.tuple #[.slice none 0 0, .int .i64 160], ?_, hr⟩
  simp [results, Try.results15, go_sem, h2, h3, c1, c2]
theorem gives_back (n E : Nat) (v : Value) (w : World) (tmps : Array Value) (R : Ending → World → Prop) (hD : w.heap[n]? = some (.cells #[v] 23 (0, 0))) (hE : w.heap[E]? = some (.cells #[.int .i64 0] 26 (0, 0)))
    (h2 : tmps[2]? = some (.pointer (some ⟨n, 0, none⟩))) (h3 : tmps[3]? = some (.pointer (some ⟨E, 0, none⟩)))
    (hR : R (.returned (.tuple #[v, .int .i64 0])) w) :
    Leaves Try.prog Try.f15 tmps R [{ target := .fn (.func 33) #[.pointer (some ⟨n, 0, none⟩), .pointer (some ⟨E, 0, none⟩)], args := #[] }] .returning w := by
  refine leaves_cons (f := 33) (args := #[.pointer (some ⟨n, 0, none⟩), .pointer (some ⟨E, 0, none⟩)]) (by simp) (by simp [go_sem]) ?_
  refine (catch_idle _ _ w).mono ?_
  rintro e u' w'' ⟨rfl, rfl, rfl⟩
  have c1 : w''.cell? ⟨n, 0, none⟩ = some v := (blk_cell hD 0).trans rfl
  have c2 : w''.cell? ⟨E, 0, none⟩ = some (.int .i64 0) := (blk_cell hE 0).trans rfl
  refine ⟨.tuple #[v, .int .i64 0], ?_, hR⟩
  simp [results, Try.results15, go_sem, h2, h3, c1, c2]
set_option maxHeartbeats 4000000 in
theorem parse_calls (s : ByteArray) (w : World) (hs : s.size ≤ 12000) : Calls Try.prog 15 #[.string s] w (Parsed (parseAll s) w) := by
  have hmf : ∀ (fn : Fn) (first cap : Array Value) (w : World), (Instr.makeFunc fn first cap).run Try.prog w = .ok (.func fn first cap) w := fun _ _ _ _ => rfl
  obtain ⟨n, hn⟩ : ∃ n, w.heap.size = n := ⟨_, rfl⟩
  obtain ⟨w1, hw1⟩ : ∃ w1, w.alloc (.cells #[.slice none 0 0] 23) = w1 := ⟨_, rfl⟩
  obtain ⟨w2, hw2⟩ : ∃ w2, w1.alloc (.cells #[.int .i64 0] 26) = w2 := ⟨_, rfl⟩
  obtain ⟨E, hEe⟩ : ∃ E, w1.heap.size = E := ⟨_, rfl⟩
  obtain ⟨B, hBe⟩ : ∃ B, w2.heap.size = B := ⟨_, rfl⟩
  have hnE : E = n + 1 := by rw [← hEe, ← hn, ← hw1]; simp
  have hEB : B = E + 1 := by rw [← hBe, ← hEe, ← hw2]; simp
  obtain ⟨w3, hw3⟩ : ∃ w3, w2.alloc (.cells #[.string s, .int .i64 0] 51) = w3 := ⟨_, rfl⟩
  obtain ⟨C, hCe⟩ : ∃ C, w3.heap.size = C := ⟨_, rfl⟩
  have hBC : C = B + 1 := by rw [← hCe, ← hBe, ← hw3]; simp
  obtain ⟨w4, hw4⟩ : ∃ w4, w3.alloc (.cells #[.pointer (some ⟨B, 0, none⟩)] 49) = w4 := ⟨_, rfl⟩
  have b1 : Below n w w1 := by rw [← hw1]; exact (Below.refl n w).alloc (by omega) _
  have b2 : Below E w1 w2 := by rw [← hw2]; exact (Below.refl E w1).alloc (by omega) _
  have b3 : Below B w2 w3 := by rw [← hw3]; exact (Below.refl B w2).alloc (by omega) _
  have b4 : Below C w3 w4 := by rw [← hw4]; exact (Below.refl C w3).alloc (by omega) _
  have hD1 : w1.heap[n]? = some (.cells #[.slice none 0 0] 23 (0, 0)) := by rw [← hw1, ← hn]; exact heap_alloc_new w _
  have hE1 : w2.heap[E]? = some (.cells #[.int .i64 0] 26 (0, 0)) := by rw [← hw2, ← hEe]; exact heap_alloc_new w1 _
  have hB1 : w3.heap[B]? = some (.cells #[.string s, .int .i64 0] 51 (0, 0)) := by rw [← hw3, ← hBe]; exact heap_alloc_new w2 _
  have hC1 : w4.heap[C]? = some (.cells #[.pointer (some ⟨B, 0, none⟩)] 49 (0, 0)) := by rw [← hw4, ← hCe]; exact heap_alloc_new w3 _
  have hD := Aside0.mk ((b4.block n (by omega)).trans ((b3.block n (by omega)).trans ((b2.block n (by omega)).trans hD1)))
  have hE := Aside0.mk ((b4.block E (by omega)).trans ((b3.block E (by omega)).trans hE1))
  have hrd := Aside0.mk (show RdAt w4 B s 0 from (b4.block B (by omega)).trans hB1)
  have hC := Aside0.mk hC1
  have hbel := Aside0.mk (b1.trans ((b2.mono (by omega)).trans ((b3.mono (by omega)).trans (b4.mono (by omega)))))
  clear b1 b2 b3 b4 hD1 hE1 hB1 hC1
  replace hnE := Aside0.mk hnE
  replace hEB := Aside0.mk hEB
  have hBC' := Aside0.mk hBC
  clear hBC
  go_enter_defers Try.func15, Try.ntmps15
  go_wp2_with fail
  clear hmf hw1 hw2 hw3 hw4
  go_loopw [6] (fun s6 wr => ∃ (p : Nat) (d : List Rdn) (dv v6 : Value), Aside0 (p ≤ s.size) ∧ Aside0 (d.length ≤ 16) ∧ Aside0 (parseF s p d = parseF s 0 []) ∧ s6 = v6 ∧ Aside0 (wr.heap[n]? = some (.cells #[dv] 23 (0, 0))) ∧ Aside0 (wr.heap[E]? = some (.cells #[.int .i64 0] 26 (0, 0))) ∧ Aside0 (RdAt wr B s p) ∧ Aside0 (wr.heap[C]? = some (.cells #[.pointer (some ⟨B, 0, none⟩)] 49 (0, 0))) ∧ Aside0 (Below n w wr) ∧ Aside0 (kr.R 40 wr 0 (fun q => C < q) dv d) ∧ Aside0 (s.size = 0 → d = [])) (fun _ wr => s.size - atOf B wr)
  case atStart => exact ⟨0, [], _, _, ⟨Nat.zero_le _⟩, ⟨Nat.zero_le _⟩, ⟨rfl⟩, rfl, hD, hE, hrd, hC, hbel, ⟨Kd.R_nil _ _ _ _ _⟩, ⟨fun _ => rfl⟩⟩
  case round =>
    obtain ⟨p, d, dv, v6, hp, hd16, heq, rfl, hD', hE', hrd', hC', hbel', hR, hemp⟩ := hrel
    clear hD hE hrd hC hbel
    have hneE : n ≠ E := by have := hnE.out; omega
    replace hneE := Aside0.mk hneE
    have q1 : wr.cell? ⟨n, 0, none⟩ = some dv := (blk_cell hD'.out 0).trans rfl
    have q2 : wr.frozen? ⟨n, 0, none⟩ = false := blk_frozen hD'.out 0
    have hlen : s.toList.length = s.size := by rw [ByteArray.toList_eq]; exact data_length s
    by_cases hs0 : s.size = 0
    · have hse : s.toList.isEmpty = true := by
        cases h : s.toList with
        | nil => rfl
        | cons x l => rw [h] at hlen; simp at hlen; omega
      have hd0 := hemp.out hs0
      subst hd0
      have hres := Aside0.mk (show parseAll s = some [] from by unfold parseAll; rw [if_pos hs0])
      replace hs0 := Aside0.mk hs0
      clear hlen q1 q2
      obtain ⟨A9, c9, ev9⟩ : ∃ A9 c9, dv = .slice A9 0 c9 := Kd.R_slice hR.out
      subst ev9
      have g1 : wr.cell? ⟨n, 0, none⟩ = some (.slice A9 0 c9) := (blk_cell hD'.out 0).trans rfl
      have g2 : wr.frozen? ⟨n, 0, none⟩ = false := blk_frozen hD'.out 0
      have k1 := Aside0.mk (show (wr.setCell ⟨n, 0, none⟩ (.slice A9 0 c9)).heap[n]? = some (.cells #[.slice A9 0 c9] 23 (0, 0)) from by simpa using blk_set hD'.out 0 (.slice A9 0 c9))
      have k2 := Aside0.mk (show (wr.setCell ⟨n, 0, none⟩ (.slice A9 0 c9)).heap[E]? = some (.cells #[.int .i64 0] 26 (0, 0)) from blk_far hE'.out (p := ⟨n, 0, none⟩) (Ne.symm hneE.out) _)
      have k4 := Aside0.mk (((Mod.refl (fun q => q = n ∨ q = E) wr).setCell (p := ⟨n, 0, none⟩) (.inl (.inl rfl)) (.slice A9 0 c9)))
      obtain ⟨wx, hwx⟩ : ∃ wx, wr.setCell ⟨n, 0, none⟩ (.slice A9 0 c9) = wx := ⟨_, rfl⟩
      rw [hwx] at k1 k2 k4
      have g3 : wx.cell? ⟨E, 0, none⟩ = some (.int .i64 0) := (blk_cell k2.out 0).trans rfl
      have g4 : wx.frozen? ⟨E, 0, none⟩ = false := blk_frozen k2.out 0
      have k5 := Aside0.mk (show (wx.setCell ⟨E, 0, none⟩ (.int .i64 0)).heap[E]? = some (.cells #[.int .i64 0] 26 (0, 0)) from by simpa using blk_set k2.out 0 (.int .i64 0))
      have k6 := Aside0.mk (show (wx.setCell ⟨E, 0, none⟩ (.int .i64 0)).heap[n]? = some (.cells #[.slice A9 0 c9] 23 (0, 0)) from blk_far k1.out (p := ⟨E, 0, none⟩) hneE.out _)
      have k7 := Aside0.mk (k4.out.setCell (p := ⟨E, 0, none⟩) (.inl (.inr rfl)) (.int .i64 0))
      obtain ⟨wy, hwy⟩ : ∃ wy, wx.setCell ⟨E, 0, none⟩ (.int .i64 0) = wy := ⟨_, rfl⟩
      rw [hwy] at k5 k6 k7
      have hRy := Aside0.mk (R_mod hR.out k7.out (fun q hq h => by have := hnE.out; have := hEB.out; have := hBC'.out; omega))
      have hby := Aside0.mk (hbel'.out.trans (k7.out.below (B := n) (fun q hq => by have := hnE.out; omega) (by have := blk_lt hE'.out; have := hnE.out; omega)))
      clear k1 k2 k4
      go_wp2_with fail
      refine gives_back n E (.slice A9 0 c9) wy _ _ k6.out k5.out rfl rfl ?_
      refine ⟨by rw [hres.out]; exact ⟨_, rfl, Kd.R_mono hRy.out (fun q hq => by have := hnE.out; have := hEB.out; have := hBC'.out; omega)⟩, ?_⟩
      rw [hn]
      exact hby.out
    · have hse : s.toList.isEmpty = false := by
        cases h : s.toList with
        | nil => rw [h] at hlen; simp at hlen; omega
        | cons x l => rfl
      clear hlen
      have hall := Aside0.mk (show parseAll s = parseF s p d from by unfold parseAll; rw [if_neg hs0]; exact heq.out.symm)
      replace hs0 := Aside0.mk hs0
      go_wp2_with fail
      have hpc := Aside0.mk (pcl_calls C B p s wr.drew hs (hC'.out) (show RdAt wr.drew B s p from hrd'.out) hp.out (by have := hBC'.out; omega))
      refine start_ (n := 6) (S := fun w' => w'.cell? ⟨n, 0, none⟩ = some dv) (ds := [5]) #[false, false, false, false, false, false] (by kernel_rfl) rfl rfl (q1) (fun hHeld => ?_)
      refine pure_ (i := 1) (N := some 16) (v := ?_) (a' := ?_) #[false, true, false, false, false, false] rfl rfl (by kernel_rfl) (fun _ _ _ h => panic_put 16 (by decide) (by decide) h) (Or.inl ⟨by rfl, ?_⟩) ?_ ?_
      rotate_left
      · intro w'
        go_simp
        with_reducible rfl
      rotate_left
      · simp only [Act.put, List.setIfInBounds_toArray, List.set_cons_zero, List.set_cons_succ, i64_w, i32_w]
        rfl
      refine take_ (i := 0) (N := some 15) (v := ?_) (a' := ?_) #[true, true, false, false, false, false] rfl rfl (by kernel_rfl) (fun _ _ _ h => panic_put 15 (by decide) (by decide) h) (Or.inl ⟨by rfl, ?_⟩) hHeld ?_ ?_
      rotate_left
      · intro w' s0
        go_simp
        with_reducible rfl
      rotate_left
      · simp only [Act.put, List.setIfInBounds_toArray, List.set_cons_zero, List.set_cons_succ, i64_w, i32_w]
        rfl
      refine one_ (i := 2) (N := some 17) #[true, true, true, false, false, false] rfl rfl (by kernel_rfl) (by decide) (fun K hK => ?_)
      refine goesP_ (f := 34) #[.pointer (some ⟨C, 0, none⟩)] (by rfl) rfl (by go_simp) ?_
      refine hpc.out.mono ?_
      rintro e w9 ⟨he, hm9⟩
      have hD9 := Aside0.mk (hm9.blk (show wr.drew.heap[n]? = _ from hD'.out) (by have := hnE.out; have := hEB.out; unfold Only; omega))
      have hE9 := Aside0.mk (hm9.blk (show wr.drew.heap[E]? = _ from hE'.out) (by have := hEB.out; unfold Only; omega))
      have hC9 := Aside0.mk (hm9.blk (show wr.drew.heap[C]? = _ from hC'.out) (by have := hBC'.out; unfold Only; omega))
      have hb9 := Aside0.mk (hbel'.out.drew.trans (hm9.below (B := n) (a := wr.drew) (fun q hq => by have := hnE.out; have := hEB.out; unfold Only at hq; omega) (by have := hbel'.out.size; show n ≤ wr.heap.size; omega)))
      have hR9 := Aside0.mk (R_mod (w := wr.drew) (show kr.R 40 wr.drew 0 (fun q => C < q) dv d from Kd.R_below hR.out (below_drew (Below.refl _ _))) hm9 (fun q hq h => by have := hBC'.out; unfold Only at h; omega))
      rcases hpf : partF s p with _ | ⟨r, q⟩
      · (rw [hpf] at he; refine .inr ⟨_, he, ?_⟩; refine gives_up n E dv (.int .i64 0) w9 w9 _ _ hD9.out hE9.out hneE.out rfl rfl (fun w' hm => ?_); refine ⟨by rw [hall.out, parseF_none hpf], ?_⟩; rw [hn]; exact hb9.out.trans (hm.below (fun q hq => by have := hnE.out; omega) (by have := hb9.out.size; have := blk_lt hE9.out; have := hnE.out; omega)))
      rw [hpf] at he
      obtain ⟨rfl, hr9, hqM⟩ := he
      refine .inl ⟨_, rfl, ?_⟩
      replace hr9 := Aside0.mk hr9
      replace hqM := Aside0.mk hqM
      replace hpf := Aside0.mk hpf
      refine hK.out _ _ ((blk_cell hD9.out 0).trans rfl) (fun hHeld => ?_)
      clear hK K
      refine norm_ (a' := ?_) ?_ ?_
      rotate_left
      · show Act.put _ (some 17) _ = _
        simp only [Act.put, List.setIfInBounds_toArray, List.set_cons_zero, List.set_cons_succ, i64_w, i32_w]
        rfl
      refine one_ (i := 3) (N := some 18) #[true, true, true, true, false, false] rfl rfl (by kernel_rfl) (by decide) (fun K hK => ?_)
      refine value_ (w1 := ?_) (v := ?_) (by rfl) rfl ?_ ?_
      rotate_left 2
      · go_simp
        constructor
        · rfl
        · rfl
      refine hK.out _ _ ((by have h := hHeld; first | exact h | (rw [show World.cell? _ _ = some dv from (blk_cell (Below.block (below_alloc (Below.refl _ w9) _) n (blk_lt hD9.out) |>.trans hD9.out) 0).trans rfl]))) (fun hHeld => ?_)
      clear hK K
      refine norm_ (a' := ?_) ?_ ?_
      rotate_left
      · show Act.put _ (some 18) _ = _
        simp only [Act.put, List.setIfInBounds_toArray, List.set_cons_zero, List.set_cons_succ, i64_w, i32_w]
        rfl
      refine one_ (i := 4) (N := some 19) #[true, true, true, true, true, false] rfl rfl (by kernel_rfl) (by decide) (fun K hK => ?_)
      have hd0 := Aside0.mk (show kr.M w9 0 (fun _ => False) r [.string r.t, .string r.v] from ⟨[.string r.t], [.string r.v], rfl, rfl, rfl⟩)
      refine Kd.R_append_step kr (w0 := w9) 0 (by rfl) (.tmp 15) (.tmp 18) 23 40 (.agg #[.string (⟨#[]⟩ : ByteArray), .string (⟨#[]⟩ : ByteArray)]) 32 rfl Try.underlying23 info40 rfl (by decide) (by decide) dv d r [.string r.t, .string r.v] (fun q => C < q) (fun _ => False) rfl rfl hd0.out (fun _ h => h.elim) (fun k hk => by have := blk_lt hC9.out; omega) hR9.out (Below.refl _ _) (Nat.zero_le _) (by have := hd16.out; omega) ?_
      intro v1 w10 ho _ hg _
      have hm10 := Aside0.mk (Mod.of_grown (S := fun q => C < q) hg (fun q hq => .inl (hR9.out.1 q hq)))
      have hD10 := Aside0.mk (hm10.out.blk hD9.out (by have := hnE.out; have := hEB.out; have := hBC'.out; omega))
      have q10 : w10.cell? ⟨n, 0, none⟩ = some dv := (blk_cell hD10.out 0).trans rfl
      have q11 : w10.frozen? ⟨n, 0, none⟩ = false := blk_frozen hD10.out 0
      obtain ⟨A9, c9, ev9⟩ := Kd.R_slice ho
      obtain ⟨n9, hn9⟩ : ∃ n9, (d ++ [r]).length = n9 := ⟨_, rfl⟩
      rw [hn9] at ev9
      subst ev9
      replace ho := Aside0.mk ho
      replace hn9 := Aside0.mk hn9
      clear hg
      refine hK.out _ _ (q10) (fun hHeld => ?_)
      clear hK K
      refine norm_ (a' := ?_) ?_ ?_
      rotate_left
      · show Act.put _ (some 19) _ = _
        simp only [Act.put, List.setIfInBounds_toArray, List.set_cons_zero, List.set_cons_succ, i64_w, i32_w]
        rfl
      refine last_ (i := 5) (N := none) #[true, true, true, true, true, true] rfl rfl (by kernel_rfl) (by decide) (fun K hK => ?_)
      refine skip_ (w1 := ?_) (by rfl) rfl ?_ ?_
      rotate_left
      · go_simp
        rfl
      refine hK.out _ _ ?_
      clear hK K
      refine done_ (by kernel_rfl) ?_
      have hl9 : n9 = d.length + 1 := by rw [← hn9.out]; simp
      have hD11 := Aside0.mk (show (w10.setCell ⟨n, 0, none⟩ (.slice A9 n9 c9)).heap[n]? = some (.cells #[.slice A9 n9 c9] 23 (0, 0)) from by simpa using blk_set hD10.out 0 (.slice A9 n9 c9))
      have hm11 := Aside0.mk (((hm10.out.mono (S' := fun q => q = n ∨ C < q) (fun q hq => .inr hq)).setCell (p := ⟨n, 0, none⟩) (.inl (.inl rfl)) (.slice A9 n9 c9)))
      have hR11 := Aside0.mk (R_mod ho.out ((Mod.refl (fun q => q = n) w10).setCell (p := ⟨n, 0, none⟩) (.inl rfl) (.slice A9 n9 c9)) (fun q hq h => by have := hnE.out; have := hEB.out; have := hBC'.out; omega))
      obtain ⟨w11, hw11⟩ : ∃ wn, w10.setCell ⟨n, 0, none⟩ (.slice A9 n9 c9) = wn := ⟨_, rfl⟩
      rw [hw11] at hD11 hm11 hR11 ⊢
      have hE11 := Aside0.mk (hm11.out.blk hE9.out (by have := hnE.out; have := hEB.out; have := hBC'.out; omega))
      have hC11 := Aside0.mk (hm11.out.blk hC9.out (by have := hnE.out; have := hEB.out; have := hBC'.out; omega))
      have hr11 := Aside0.mk (hr9.out.mod hm11.out (by have := hnE.out; have := hEB.out; have := hBC'.out; omega))
      have hb11 := Aside0.mk (hb9.out.trans (hm11.out.below (B := n) (fun q hq => by have := hnE.out; have := hEB.out; have := hBC'.out; omega) (by have := blk_lt hD9.out; omega)))
      have hmz := Aside0.mk (atOf_rd hrd'.out)
      clear hw11 hm11 hm10 ho hD10 hD9 hE9 hC9 hr9 hb9 hR9 hm9 hpc hD' hE' hC' hrd' hbel' hR q1 q2 q10 q11 hd0
      have g1 : w11.cell? ⟨n, 0, none⟩ = some (.slice A9 n9 c9) := (blk_cell hD11.out 0).trans rfl
      have g5 : w11.cell? ⟨C, 0, none⟩ = some (.pointer (some ⟨B, 0, none⟩)) := (blk_cell hC11.out 0).trans rfl
      by_cases h16 : d.length + 1 ≤ 16
      · have e16 : decide ((n9 : Int) ≤ 16) = true := decide_eq_true (by omega)
        replace hl9 := Aside0.mk hl9
        have hnx := Aside0.mk (next' B q s w11 hs hr11.out hqM.out)
        go_wp2_with fail
        refine (must_yes _).mono ?_
        rintro e w11 ⟨rfl, rfl⟩
        by_cases hq : q < s.size
        · rw [(next_yes hq).1, (next_yes hq).2] at hnx
          have hnext := Aside0.mk ((parseF_more hpf.out h16 hq).symm.trans heq.out)
          have hpq := Aside0.mk (partF_gt hpf.out)
          replace hq := Aside0.mk hq
          go_wp2_with fail
          refine hnx.out.mono ?_
          rintro e w12 ⟨rfl, hb12⟩
          have hD12 := Aside0.mk ((hb12.block _ (blk_lt hD11.out)).trans hD11.out)
          have hE12 := Aside0.mk ((hb12.block _ (blk_lt hE11.out)).trans hE11.out)
          have hC12 := Aside0.mk ((hb12.block _ (blk_lt hC11.out)).trans hC11.out)
          have hr12 := Aside0.mk (hr11.out.below hb12)
          have hR12 := Aside0.mk (Kd.R_below hR11.out hb12)
          replace hb12 := Aside0.mk (hb11.out.trans (hb12.mono (by have := blk_lt hD11.out; omega)))
          clear hnx g1 g5 hD11 hE11 hC11 hr11 hR11 hb11
          have g5 : w12.cell? ⟨C, 0, none⟩ = some (.pointer (some ⟨B, 0, none⟩)) := (blk_cell hC12.out 0).trans rfl
          have c1 := hr12.out.c1
          have z1 := hr12.out.z1
          have e2 : wrap64 ((q : Int) + 1) = (q : Int) + 1 := by unfold wrap64; have := hqM.out; omega
          have hr13 := Aside0.mk (show RdAt (w12.setCell ⟨B, 1, none⟩ (.int .i64 ((q : Int) + 1))) B s (q + 1) from hr12.out.set (q + 1))
          have hm13 := Aside0.mk ((Mod.refl (fun q => q = B) w12).setCell (p := ⟨B, 1, none⟩) (.inl rfl) (.int .i64 ((q : Int) + 1)))
          obtain ⟨w13, hw13⟩ : ∃ wn, w12.setCell ⟨B, 1, none⟩ (.int .i64 ((q : Int) + 1)) = wn := ⟨_, rfl⟩
          rw [hw13] at hr13 hm13
          have hD13 := Aside0.mk (hm13.out.blk hD12.out (by have := hnE.out; have := hEB.out; omega))
          have hE13 := Aside0.mk (hm13.out.blk hE12.out (by have := hEB.out; omega))
          have hC13 := Aside0.mk (hm13.out.blk hC12.out (by have := hBC'.out; omega))
          have hR13 := Aside0.mk (R_mod hR12.out hm13.out (fun q hq h => by have := hBC'.out; omega))
          have hb13 := Aside0.mk (hb12.out.trans (hm13.out.below (B := n) (fun q hq => by have := hnE.out; have := hEB.out; omega) (by have := blk_lt hE12.out; have := hnE.out; omega)))
          clear hD12 hE12 hC12 hR12 hb12 hm13 hr12
          go_wp2_with fail
          go_roundw
          case rel => exact ⟨q + 1, d ++ [r], _, _, ⟨hq.out⟩, ⟨by simp; omega⟩, hnext, rfl, hD13, hE13, hr13, hC13, hb13, hR13, ⟨fun h => absurd h hs0.out⟩⟩
          case measure => rw [atOf_rd hr13.out, hmz.out]; have := hpq.out; have := hq.out; omega
        · rw [(next_no hq).1, (next_no hq).2] at hnx
          have hres := Aside0.mk (hall.out.trans (parseF_last hpf.out h16 hq))
          replace hq := Aside0.mk hq
          go_wp2_with fail
          refine hnx.out.mono ?_
          rintro e w12 ⟨rfl, hb12⟩
          have hD12 := Aside0.mk ((hb12.block _ (blk_lt hD11.out)).trans hD11.out)
          have hE12 := Aside0.mk ((hb12.block _ (blk_lt hE11.out)).trans hE11.out)
          have hR12 := Aside0.mk (Kd.R_below hR11.out hb12)
          replace hb12 := Aside0.mk (hb11.out.trans (hb12.mono (by have := blk_lt hD11.out; omega)))
          clear hnx g1 g5 hD11 hE11 hC11 hr11 hR11 hb11
          have g1 : w12.cell? ⟨n, 0, none⟩ = some (.slice A9 n9 c9) := (blk_cell hD12.out 0).trans rfl
          have g2 : w12.frozen? ⟨n, 0, none⟩ = false := blk_frozen hD12.out 0
          have k1 := Aside0.mk (show (w12.setCell ⟨n, 0, none⟩ (.slice A9 n9 c9)).heap[n]? = some (.cells #[.slice A9 n9 c9] 23 (0, 0)) from by simpa using blk_set hD12.out 0 (.slice A9 n9 c9))
          have k2 := Aside0.mk (show (w12.setCell ⟨n, 0, none⟩ (.slice A9 n9 c9)).heap[E]? = some (.cells #[.int .i64 0] 26 (0, 0)) from blk_far hE12.out (p := ⟨n, 0, none⟩) (Ne.symm hneE.out) _)
          have k4 := Aside0.mk (((Mod.refl (fun q => q = n ∨ q = E) w12).setCell (p := ⟨n, 0, none⟩) (.inl (.inl rfl)) (.slice A9 n9 c9)))
          obtain ⟨wx, hwx⟩ : ∃ wx, w12.setCell ⟨n, 0, none⟩ (.slice A9 n9 c9) = wx := ⟨_, rfl⟩
          rw [hwx] at k1 k2 k4
          have g3 : wx.cell? ⟨E, 0, none⟩ = some (.int .i64 0) := (blk_cell k2.out 0).trans rfl
          have g4 : wx.frozen? ⟨E, 0, none⟩ = false := blk_frozen k2.out 0
          have k5 := Aside0.mk (show (wx.setCell ⟨E, 0, none⟩ (.int .i64 0)).heap[E]? = some (.cells #[.int .i64 0] 26 (0, 0)) from by simpa using blk_set k2.out 0 (.int .i64 0))
          have k6 := Aside0.mk (show (wx.setCell ⟨E, 0, none⟩ (.int .i64 0)).heap[n]? = some (.cells #[.slice A9 n9 c9] 23 (0, 0)) from blk_far k1.out (p := ⟨E, 0, none⟩) hneE.out _)
          have k7 := Aside0.mk (k4.out.setCell (p := ⟨E, 0, none⟩) (.inl (.inr rfl)) (.int .i64 0))
          obtain ⟨wy, hwy⟩ : ∃ wy, wx.setCell ⟨E, 0, none⟩ (.int .i64 0) = wy := ⟨_, rfl⟩
          rw [hwy] at k5 k6 k7
          have hRy := Aside0.mk (R_mod hR12.out k7.out (fun q hq h => by have := hnE.out; have := hEB.out; have := hBC'.out; omega))
          have hby := Aside0.mk (hb12.out.trans (k7.out.below (B := n) (fun q hq => by have := hnE.out; omega) (by have := blk_lt hE12.out; have := hnE.out; omega)))
          clear k1 k2 k4
          go_wp2_with fail
          refine gives_back n E (.slice A9 n9 c9) wy _ _ k6.out k5.out rfl rfl ?_
          refine ⟨by rw [hres.out]; exact ⟨_, rfl, Kd.R_mono hRy.out (fun q hq => by have := hnE.out; have := hEB.out; have := hBC'.out; omega)⟩, ?_⟩
          rw [hn]
          exact hby.out
      · have e16 : decide ((n9 : Int) ≤ 16) = false := decide_eq_false (by omega)
        replace hl9 := Aside0.mk hl9
        have hres := Aside0.mk (hall.out.trans (parseF_many hpf.out h16))
        replace h16 := Aside0.mk h16
        go_wp2_with fail
        refine (must_no _).mono ?_
        rintro e w11 ⟨rfl, rfl⟩
        go_wp2_with fail
        refine gives_up n E _ (.int .i64 0) w11 w11 _ _ hD11.out hE11.out hneE.out rfl rfl (fun w' hm => ?_)
        refine ⟨by rw [hres.out], ?_⟩
        rw [hn]
        exact hb11.out.trans (hm.below (fun q hq => by have := hnE.out; omega) (by have := blk_lt hE11.out; have := hnE.out; omega))
end Go.Proofs.Ythbjgcmbbdlfkaa
