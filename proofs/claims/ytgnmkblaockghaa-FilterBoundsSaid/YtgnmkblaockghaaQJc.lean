/- entry.all over values. -/
import Derived.Test.YtgnmkblaockghaaQEb
import Derived.Test.YtgnmkblaockghaaQPFilterBoundsx0
set_option linter.unusedVariables false
set_option linter.unusedSimpArgs false
namespace Go.Proofs.Ytgnmkblaockghaa
open Go.RowKit Go.Shelf Go.Proofs.YtgnmkblaockghaaW.PrintWords Go.Proofs.YtgnmkblaockghaaW.PrintMore Go.Proofs.YtgnmkblaockghaaW.PrintLast

set_option maxRecDepth 8000 in
theorem notval_calls (x : ByteArray) (gb : Nat) (w : World) (hg : w.cell? ⟨gb, 0, none⟩ = some (.func (.func 53) #[] #[])) :
    Calls Try.prog 79 #[.string x, .pointer (some ⟨gb, 0, none⟩)] w fun e w' => e = .returned (.bool (!valOk x)) ∧ Below w.heap.size w w' := by
  have he := enters_of (P := Try.prog) Try.func53 (by kernel_rfl) rfl
  have hv := Aside0.mk (evalue_calls x w)
  have hb0 := Aside0.mk (Below.refl w.heap.size w)
  generalize valOk x = b at *
  go_enter Try.func79, Try.ntmps79
  go_wp2_with fail
  refine hv.out.mono ?_
  rintro e w2 ⟨rfl, rfl⟩
  go_wp2_with fail
  go_ret
  exact ⟨rfl, hb0.out⟩
set_option maxRecDepth 8000 in
set_option maxHeartbeats 1000000 in
theorem vindex_calls (gb : Nat) (A : Option Addr) (c : Nat) (l : Fld) (w : World) (hl : l.length ≤ 1000) (hC : st.C w A l.length l) (hg : w.cell? ⟨gb, 0, none⟩ = some (.func (.func 53) #[] #[])) :
    Calls Try.prog 98 #[.slice A l.length c, .func (.func 79) #[] #[.pointer (some ⟨gb, 0, none⟩)]] w fun e w' => (∃ r : Int, e = .returned (.int .i64 r) ∧ decide (0 ≤ r) = l.any (fun x => !valOk x)) ∧ Below w.heap.size w w' := by
  have he := enters_of (P := Try.prog) Try.func79 (by kernel_rfl) rfl
  obtain ⟨M, hM⟩ : ∃ M, l.length = M := ⟨_, rfl⟩
  replace hC := Aside0.mk hC
  replace hg := Aside0.mk hg
  rw [hM] at hl ⊢
  replace hM := Aside0.mk hM
  have hb0 : Aside0 (Below w.heap.size w w) := Aside0.mk (Below.refl _ _)
  go_enter Try.func98, Try.ntmps98
  go_wp2
  go_loopw [8] (fun s8 wr => ∃ k : Nat, k ≤ M ∧ s8 = .int .i64 k ∧ Aside0 (Below w.heap.size w wr) ∧ Aside0 ((l.take k).any (fun x => !valOk x) = false)) (fun s8 _ => M - (intOf s8).toNat)
  case atStart => exact ⟨0, Nat.zero_le _, rfl, hb0, ⟨by simp⟩⟩
  case round =>
    clear hb0
    obtain ⟨k, hk, rfl, hb, ha⟩ := hrel
    by_cases hlt : k < M
    · have hkl : k < l.length := by rw [hM.out]; exact hlt
      obtain ⟨ad, e, p0⟩ := str_at hC.out k hkl
      subst e
      replace p0 := pw_cell_below hb.out p0
      have hnx := Aside0.mk (fun h => any_take_snoc (fun x => !valOk x) l k hkl ha.out h)
      have hno := Aside0.mk (any_true_at (fun x => !valOk x) l k hkl)
      obtain ⟨x, hx⟩ : ∃ x, l[k] = x := ⟨_, rfl⟩
      rw [hx] at p0 hnx hno
      clear hx hkl
      have hv := Aside0.mk (notval_calls x gb wr (pw_cell_below hb.out hg.out))
      have i1 : (0 : Int) ≤ (k : Int) := by omega
      have i2 : (k : Int) < (M : Int) := by omega
      cases hvo : valOk x with
      | true =>
        replace hv := Aside0.mk (show Calls Try.prog 79 #[.string x, .pointer (some ⟨gb, 0, none⟩)] wr fun e w' => e = .returned (.bool false) ∧ Below wr.heap.size wr w' by have := hv.out; rw [show valOk x = true from hvo] at this; exact this)
        have hy := Aside0.mk (hnx.out (by simp [hvo]))
        clear hnx hno hvo
        go_wp2_with fail
        refine hv.out.mono ?_
        rintro e w1 ⟨rfl, hb1⟩
        replace hb1 := Aside0.mk (below_then hb.out hb.out.size hb1)
        go_wp2_with fail
        go_roundw
        case rel => exact ⟨k + 1, by omega, by go_num, hb1, hy⟩
        case measure => simp [intOf]; omega
      | false =>
        replace hv := Aside0.mk (show Calls Try.prog 79 #[.string x, .pointer (some ⟨gb, 0, none⟩)] wr fun e w' => e = .returned (.bool true) ∧ Below wr.heap.size wr w' by have := hv.out; rw [show valOk x = false from hvo] at this; exact this)
        have hy := Aside0.mk (hno.out (by simp [hvo]))
        clear hnx hno hvo
        go_wp2_with fail
        refine hv.out.mono ?_
        rintro e w1 ⟨rfl, hb1⟩
        replace hb1 := Aside0.mk (below_then hb.out hb.out.size hb1)
        go_wp2_with fail
        go_ret
        exact ⟨⟨_, rfl, by rw [hy.out]; simp⟩, hb1.out⟩
    · have hkM : k = M := by omega
      subst hkM
      have h9 : l.any (fun x => !valOk x) = false := by
        have h9 := ha.out
        rwa [List.take_of_length_le (by rw [hM.out]; exact Nat.le_refl _)] at h9
      replace h9 := Aside0.mk h9
      go_wp2_with fail
      go_ret
      exact ⟨⟨_, rfl, by rw [h9.out]; rfl⟩, hb.out⟩
set_option maxRecDepth 8000 in
set_option maxHeartbeats 1000000 in
theorem vcontains_calls (gb : Nat) (A : Option Addr) (c : Nat) (l : Fld) (w : World) (hl : l.length ≤ 1000) (hC : st.C w A l.length l) (hg : w.cell? ⟨gb, 0, none⟩ = some (.func (.func 53) #[] #[])) :
    Calls Try.prog 78 #[.slice A l.length c, .func (.func 79) #[] #[.pointer (some ⟨gb, 0, none⟩)]] w fun e w' => e = .returned (.bool (l.any (fun x => !valOk x))) ∧ Below w.heap.size w w' := by
  have hi := Aside0.mk (vindex_calls gb A c l w hl hC hg)
  clear hC hg hl
  generalize l.any (fun x => !valOk x) = b at *
  generalize l.length = M at *
  go_enter Try.func78, Try.ntmps78
  go_wp2_with fail
  refine hi.out.mono ?_
  rintro e w1 ⟨⟨r, rfl, hr⟩, hb⟩
  replace hb := Aside0.mk hb
  replace hr := Aside0.mk hr
  go_wp2_with fail
  go_ret
  exact ⟨by rw [← hr.out]; rfl, hb.out⟩
set_option maxRecDepth 8000 in
set_option maxHeartbeats 1000000 in
theorem veach_calls (A : Option Addr) (c : Nat) (l : Fld) (w : World) (hl : l.length ≤ 1000) (hC : st.C w A l.length l) :
    Calls Try.prog 52 #[.slice A l.length c, .func (.func 53) #[] #[]] w fun e w' => e = .returned (.bool (l.all valOk)) ∧ Below w.heap.size w w' := by
  have hb0 := Aside0.mk (below_alloc (Below.refl w.heap.size w) (.cells #[.func (.func 53) #[] #[]] 41))
  have h0 := heap_alloc_new w (.cells #[.func (.func 53) #[] #[]] 41)
  obtain ⟨w1, hw1⟩ : ∃ w1, w.alloc (.cells #[.func (.func 53) #[] #[]] 41) = w1 := ⟨_, rfl⟩
  rw [hw1] at h0 hb0
  have p0 : w1.cell? ⟨w.heap.size, 0, none⟩ = some (.func (.func 53) #[] #[]) := (cell_of_row _ _ _ _ _ _ h0).trans rfl
  have hi := Aside0.mk (vcontains_calls w.heap.size A c l w1 hl (Kd.C_below hC hb0.out) p0)
  have e : l.all valOk = !(l.any (fun x => !valOk x)) := by
    clear hi hC hl
    induction l with
    | nil => rfl
    | cons x l ih => simp [ih]
  rw [e]
  clear e hC hl h0 p0
  generalize l.any (fun x => !valOk x) = b at *
  generalize l.length = M at *
  go_enter Try.func52, Try.ntmps52
  go_wp2_with fail
  refine hi.out.mono ?_
  rintro e w2 ⟨rfl, hb⟩
  replace hb := Aside0.mk (below_then hb0.out hb0.out.size hb)
  go_wp2_with fail
  go_ret
  exact ⟨rfl, hb.out⟩
end Go.Proofs.Ytgnmkblaockghaa

/- entry.name, filter.name: is a text a name, in whatever letters? -/
set_option linter.unusedVariables false
set_option linter.unusedSimpArgs false
namespace Go.Proofs.Ytgnmkblaockghaa
open Go.RowKit Go.Shelf Go.Proofs.YtgnmkblaockghaaW.PrintWords Go.Proofs.YtgnmkblaockghaaW.PrintMore Go.Proofs.YtgnmkblaockghaaW.PrintLast

/-- A row that a block holds from its beginning. -/
theorem C_block {α : Type} {d : Kd α} {w : World} {g : Nat} {T : TypeId} {cs : Array Value} (hg : w.heap[g]? = some (.cells cs T (0, 0))) (xs : List α) (hm : xs.length ≤ 9223372036854775807)
    (hK : ∀ j (h : j < xs.length), ∃ c, c.length = d.sz ∧ d.K w xs[j] c ∧ ∀ i u, c[i]? = some u → cs[j * d.sz + i]? = some u) : d.C w (some ⟨g, 0, none⟩) xs.length xs := by
  refine ⟨rfl, hm, fun _ => ⟨_, rfl, fun j p hj => ?_⟩⟩
  obtain ⟨hj', rfl⟩ := List.getElem?_eq_some_iff.1 hj
  obtain ⟨c, hc, hk, hu⟩ := hK j hj'
  refine ⟨c, hc, hk, fun i u hi => ?_⟩
  rw [add_plain]
  exact (blk_cell hg _).trans (hu i u hi)
theorem kr_one {w : World} {g : Nat} {t v : ByteArray} (h : w.heap[g]? = some (.cells #[.string t, .string v] 104 (0, 0))) : kr.C w (some ⟨g, 0, none⟩) 1 [⟨t, v⟩] :=
  C_block (d := kr) h [⟨t, v⟩] (by simp) (fun j hj => by
    obtain rfl : j = 0 := by simp at hj; omega
    exact ⟨[.string t, .string v], rfl, ⟨[.string t], [.string v], rfl, rfl, rfl⟩, fun i u hi => by
      match i, hi with
      | 0, hi => exact hi
      | 1, hi => exact hi⟩)
/-- Is a text a name, in whatever letters? -/
def enameOk (s : ByteArray) : Bool := dnErr [⟨small s, { data := #[120] }⟩] == 0
theorem small_size (s : ByteArray) : (small s).size = s.size := by
  unfold small strOfNums
  rw [← bytesOf_length s]
  simp [ByteArray.size]
set_option maxRecDepth 8000 in
theorem ename_calls (s : ByteArray) (w : World) (hs : s.size ≤ 12000) :
    Calls Try.prog 51 #[.string s] w fun e w' => e = .returned (.bool (enameOk s)) ∧ Below w.heap.size w w' := by
  have hv := Aside0.mk (small_calls s w hs)
  have hsz := small_size s
  unfold enameOk
  obtain ⟨t, ht⟩ : ∃ t, small s = t := ⟨_, rfl⟩
  rw [ht] at hv hsz ⊢
  rw [← hsz] at hs
  clear hsz ht
  have hcc := fun A c W hC => check_calls A c [⟨t, { data := #[120] }⟩] W ⟨by simp, fun x hx => by
    obtain rfl : x = _ := by simpa using hx
    exact ⟨hs, show (1 : Nat) ≤ 12000 by decide⟩⟩ hC
  obtain ⟨n, hn⟩ : ∃ n, dnErr [⟨t, { data := #[120] }⟩] = n := ⟨_, rfl⟩
  rw [hn] at hcc ⊢
  replace hcc := Aside0.mk hcc
  clear hn
  go_enter Try.func51, Try.ntmps51
  go_wp2_with fail
  refine hv.out.mono ?_
  rintro e w2 ⟨rfl, hb⟩
  replace hb := Aside0.mk hb
  go_wp2_with fail
  have hC := kr_one (heap_alloc_new w2 (.cells #[.string t, .string { data := #[120] }] 104))
  have hc := hcc.out (some ⟨w2.heap.size, 0, none⟩) 1 (w2.alloc (.cells #[.string t, .string { data := #[120] }] 104)) hC
  have hb2 := below_alloc hb.out (.cells #[.string t, .string { data := #[120] }] 104)
  refine hc.mono ?_
  rintro e w3 ⟨rfl, hb3⟩
  replace hb3 := Aside0.mk (below_then hb2 hb2.size hb3)
  clear hC hc hb2
  go_wp2_with fail
  go_ret
  exact ⟨rfl, hb3.out⟩
set_option maxRecDepth 8000 in
theorem fname_calls (s : ByteArray) (w : World) (hs : s.size ≤ 12000) :
    Calls Try.prog 64 #[.string s] w fun e w' => e = .returned (.bool (enameOk s)) ∧ Below w.heap.size w w' := by
  have hv := Aside0.mk (small_calls s w hs)
  have hsz := small_size s
  unfold enameOk
  obtain ⟨t, ht⟩ : ∃ t, small s = t := ⟨_, rfl⟩
  rw [ht] at hv hsz ⊢
  rw [← hsz] at hs
  clear hsz ht
  have hcc := fun A c W hC => check_calls A c [⟨t, { data := #[120] }⟩] W ⟨by simp, fun x hx => by
    obtain rfl : x = _ := by simpa using hx
    exact ⟨hs, show (1 : Nat) ≤ 12000 by decide⟩⟩ hC
  obtain ⟨n, hn⟩ : ∃ n, dnErr [⟨t, { data := #[120] }⟩] = n := ⟨_, rfl⟩
  rw [hn] at hcc ⊢
  replace hcc := Aside0.mk hcc
  clear hn
  go_enter Try.func64, Try.ntmps64
  go_wp2_with fail
  refine hv.out.mono ?_
  rintro e w2 ⟨rfl, hb⟩
  replace hb := Aside0.mk hb
  go_wp2_with fail
  have hC := kr_one (heap_alloc_new w2 (.cells #[.string t, .string { data := #[120] }] 104))
  have hc := hcc.out (some ⟨w2.heap.size, 0, none⟩) 1 (w2.alloc (.cells #[.string t, .string { data := #[120] }] 104)) hC
  have hb2 := below_alloc hb.out (.cells #[.string t, .string { data := #[120] }] 104)
  refine hc.mono ?_
  rintro e w3 ⟨rfl, hb3⟩
  replace hb3 := Aside0.mk (below_then hb2 hb2.size hb3)
  clear hC hc hb2
  go_wp2_with fail
  go_ret
  exact ⟨rfl, hb3.out⟩
end Go.Proofs.Ytgnmkblaockghaa

/- Filters in memory; filter.must; slices.Clone of texts. -/
set_option linter.unusedVariables false
set_option linter.unusedSimpArgs false
namespace Go.Proofs.Ytgnmkblaockghaa
open Go.RowKit Go.Shelf Go.Proofs.YtgnmkblaockghaaW.PrintWords Go.Proofs.YtgnmkblaockghaaW.PrintMore Go.Proofs.YtgnmkblaockghaaW.PrintLast

/-! ### Filters -/
/-- A filter: its kind, what it is of, its name, its value. -/
abbrev Ft := PFilterBounds.S25
abbrev kF : Kd Ft := PFilterBounds.k25
/-- A filter as the machine holds it. -/
def fv (x : Ft) (A : Option Addr) (c : Nat) : Value := .agg #[.int .i64 x.f0, .slice A x.f1.length c, .string x.f2, .string x.f3]
/-- A filter by value, in a world. -/
structure Fv (w : World) (x : Ft) (A : Option Addr) (c : Nat) : Prop where
  lo : x.f1.length ≤ c
  co : kF.C w A x.f1.length x.f1
theorem Fv.below {w w' : World} {x : Ft} {A : Option Addr} {c : Nat} (h : Fv w x A c) (hb : Below w.heap.size w w') : Fv w' x A c := ⟨h.lo, Kd.C_below h.co hb⟩
theorem Fv.cells {w : World} {x : Ft} {cs : List Value} (h : kF.K w x cs) : ∃ A c, cs = [.int .i64 x.f0, .slice A x.f1.length c, .string x.f2, .string x.f3] ∧ Fv w x A c := by
  obtain ⟨A, c, e, h1, h2⟩ := PFilterBounds.k25_open h
  exact ⟨A, c, e, ⟨h1, h2⟩⟩
theorem Fv.K {w : World} {x : Ft} {A : Option Addr} {c : Nat} (h : Fv w x A c) : kF.K w x [.int .i64 x.f0, .slice A x.f1.length c, .string x.f2, .string x.f3] := PFilterBounds.k25_mk w x h.lo h.co
/-- Element k of a row of filters. -/
theorem kF_at {w : World} {A0 : Option Addr} {n : Nat} {xs : List Ft} (h : kF.C w A0 n xs) (k : Nat) (hk : k < xs.length) : ∃ ad A c, A0 = some ad ∧ w.cell? (ad.add (k * 4)) = some (.int .i64 xs[k].f0) ∧ w.cell? ⟨(ad.add (k * 4)).block, (ad.add (k * 4)).off + 1, none⟩ = some (.slice A xs[k].f1.length c) ∧ w.cell? ⟨(ad.add (k * 4)).block, (ad.add (k * 4)).off + 2, none⟩ = some (.string xs[k].f2) ∧ w.cell? ⟨(ad.add (k * 4)).block, (ad.add (k * 4)).off + 3, none⟩ = some (.string xs[k].f3) ∧ Fv w xs[k] A c := by
  have hn : xs.length = n := h.1
  obtain ⟨ad, A, c, e, h0, h1, h2, h3, g1, g2⟩ := PFilterBounds.at_T25 h (k : Int) (by omega) (by omega)
  have hr : PFilterBounds.rd_T25 xs (k : Int) = xs[k] := by unfold PFilterBounds.rd_T25; simp [List.getD_eq_getElem?_getD, hk]
  rw [hr] at h0 h1 h2 h3 g1 g2
  exact ⟨ad, A, c, e, h0, h1, h2, h3, ⟨g1, g2⟩⟩
mutual
/-- A filter's weight. -/
def wF : Ft → Nat
  | ⟨_, l, n, v⟩ => 1 + n.size + v.size + wFs l
def wFs : List Ft → Nat
  | [] => 0
  | x :: xs => wF x + wFs xs
end
theorem wF_of (x : Ft) : wF x = 1 + x.f2.size + x.f3.size + wFs x.f1 := by cases x; rw [wF]
theorem wFs_cons (x : Ft) (xs : List Ft) : wFs (x :: xs) = wF x + wFs xs := by rw [wFs]
theorem wFs_nil : wFs [] = 0 := by rw [wFs]
/-- Induction over filters. -/
theorem filtInd {P : Ft → Prop} (h : ∀ k l n v, (∀ x ∈ l, P x) → P ⟨k, l, n, v⟩) : ∀ x, P x := by
  intro x
  induction hn : SizeOf.sizeOf x using Nat.strongRecOn generalizing x with
  | _ n ih =>
    obtain ⟨k, l, a, v⟩ := x
    refine h k l a v (fun y hy => ih (SizeOf.sizeOf y) ?_ y rfl)
    have := List.sizeOf_lt_of_mem hy
    rw [← hn]
    simp
    omega
theorem wF_mem {l : List Ft} {x : Ft} (h : x ∈ l) : wF x ≤ wFs l := by
  induction l with
  | nil => cases h
  | cons y ys ih =>
    rw [wFs_cons]
    rcases List.mem_cons.1 h with rfl | h
    · omega
    · have := ih h; omega
theorem wF_pos (x : Ft) : 1 ≤ wF x := by rw [wF_of]; omega
theorem wFs_length (l : List Ft) : l.length ≤ wFs l := by
  induction l with
  | nil => simp
  | cons y ys ih => have := wF_pos y; rw [wFs_cons]; simp; omega

/-! ### Boxes of filters -/
/-- Block b holds these four cells. -/
def FBox (w : World) (b : Nat) (T : TypeId) (v0 v1 v2 v3 : Value) : Prop := w.heap[b]? = some (.cells #[v0, v1, v2, v3] T (0, 0))
theorem FBox.lt {w : World} {b T : Nat} {v0 v1 v2 v3 : Value} (h : FBox w b T v0 v1 v2 v3) : b < w.heap.size := blk_lt h
theorem FBox.below {w w' : World} {b T : Nat} {v0 v1 v2 v3 : Value} (h : FBox w b T v0 v1 v2 v3) (hb : Below w.heap.size w w') : FBox w' b T v0 v1 v2 v3 := (hb.block _ h.lt).trans h
theorem FBox.mod {w w' : World} {S : Nat → Prop} {b T : Nat} {v0 v1 v2 v3 : Value} (h : FBox w b T v0 v1 v2 v3) (hm : Mod S w w') (hn : ¬ S b) : FBox w' b T v0 v1 v2 v3 := hm.blk h hn
theorem FBox.cells {w : World} {b T : Nat} {v0 v1 v2 v3 : Value} (h : FBox w b T v0 v1 v2 v3) : w.cell? ⟨b, 0, none⟩ = some v0 ∧ w.cell? ⟨b, 1, none⟩ = some v1 ∧ w.cell? ⟨b, 2, none⟩ = some v2 ∧ w.cell? ⟨b, 3, none⟩ = some v3 :=
  ⟨(blk_cell h 0).trans rfl, (blk_cell h 1).trans rfl, (blk_cell h 2).trans rfl, (blk_cell h 3).trans rfl⟩
theorem FBox.free {w : World} {b T : Nat} {v0 v1 v2 v3 : Value} (h : FBox w b T v0 v1 v2 v3) : w.frozen? ⟨b, 0, none⟩ = false ∧ w.frozen? ⟨b, 1, none⟩ = false ∧ w.frozen? ⟨b, 2, none⟩ = false ∧ w.frozen? ⟨b, 3, none⟩ = false :=
  ⟨blk_frozen h 0, blk_frozen h 1, blk_frozen h 2, blk_frozen h 3⟩
theorem fbox_new (w : World) (T : TypeId) (v0 v1 v2 v3 : Value) : FBox (w.alloc (.cells #[v0, v1, v2, v3] T)) w.heap.size T v0 v1 v2 v3 := heap_alloc_new w _
theorem put4 {w : World} {b T : Nat} {u0 u1 u2 u3 : Value} (h : FBox w b T u0 u1 u2 u3) (v0 v1 v2 v3 : Value) :
    ∃ w', ((((w.setCell ⟨b, 0, none⟩ v0).setCell ⟨b, 1, none⟩ v1).setCell ⟨b, 2, none⟩ v2).setCell ⟨b, 3, none⟩ v3) = w' ∧ FBox w' b T v0 v1 v2 v3 ∧ Mod (fun q => q = b) w w' := by
  refine ⟨_, rfl, ?_, ?_⟩
  · have h0 := blk_set h 0 v0
    have h1 := blk_set h0 1 v1
    have h2 := blk_set h1 2 v2
    have h3 := blk_set h2 3 v3
    simpa [FBox] using h3
  · exact (((((Mod.refl (fun q => q = b) w).setCell (p := ⟨b, 0, none⟩) (.inl rfl) v0).setCell (p := ⟨b, 1, none⟩) (.inl rfl) v1).setCell (p := ⟨b, 2, none⟩) (.inl rfl) v2).setCell (p := ⟨b, 3, none⟩) (.inl rfl) v3)
/-- What was done to a block made since is below it. -/
theorem mod_below {a w w' : World} {b : Nat} (h : Mod (fun q => q = b) w w') (ha : Below a.heap.size a w) (hb : a.heap.size ≤ b) : Below a.heap.size a w' :=
  Mod.below (S := fun q => a.heap.size ≤ q) ((Mod.of_below ha).trans h (fun q hq => .inl (by rw [hq]; exact hb))) (fun q hq => hq) (Nat.le_refl _)
theorem cell_at {w w' : World} {a : Addr} (h : w'.heap[a.block]? = w.heap[a.block]?) : w'.cell? a = w.cell? a := by simp [World.cell?, h]
theorem add_block (a : Addr) (i : Nat) : (a.add i).block = a.block := by unfold Addr.add; split <;> rfl

/-! ### must -/
abbrev stopE : Ending := .panicked [{ v := .iface 90 (.agg #[]), recovered := false }]
theorem must_yes (w : World) : Calls Try.prog 40 #[.bool true] w fun e w' => e = .returned (.tuple #[]) ∧ w' = w := by
  go_enter Try.func40, Try.ntmps40
  go_wp2_with fail
  go_end0
  exact ⟨rfl, rfl⟩
theorem must_no (w : World) : Calls Try.prog 40 #[.bool false] w fun e w' => e = stopE ∧ w' = w := by
  go_enter Try.func40, Try.ntmps40
  go_wp2_with fail
  exact ⟨rfl, rfl, rfl⟩

/-! ### slices.Clone of texts -/
theorem R_empty {α : Type} {d : Kd α} {e g : Nat} {w : World} {ok : Nat → Prop} (hg : w.heap[g]? = some (.cells #[] e (0, 0))) (hok : ok g) : d.R e w 0 ok (.slice (some ⟨g, 0, none⟩) 0 0) [] :=
  ⟨fun k hk => by simp [Value.ownBlock] at hk; rw [← hk]; exact hok, [], ⟨by simp, .inr ⟨g, 0, #[], rfl, Nat.zero_le _, hg, Nat.le_refl _, Nat.zero_le _, by simp, by simp⟩⟩, Reps.none _ _⟩
set_option maxRecDepth 8000 in
set_option maxHeartbeats 1000000 in
theorem clone_calls (A : Option Addr) (c : Nat) (l : Fld) (w : World) (hC : st.C w A l.length l) (hl : l.length ≤ 1000) :
    Calls Try.prog 61 #[.slice A l.length c] w fun e w' => (∃ A' c', e = .returned (.slice A' l.length c') ∧ st.C w' A' l.length l) ∧ Below w.heap.size w w' := by
  have hC := Aside0.mk hC
  cases A with
  | none =>
    have h0 : l = [] := by
      rcases Nat.eq_zero_or_pos l.length with h | h
      · exact List.length_eq_zero_iff.1 h
      · obtain ⟨_, h, _⟩ := hC.out.2.2 h; cases h
    subst h0
    have hr := fun (w : World) => Lib.run_eql_slice_nil (P := Try.prog) w 45 9 none 0 c 0 0 Try.underlying45
    go_enter Try.func61, Try.ntmps61
    go_wp2
    go_ret
    exact ⟨⟨_, _, rfl, Kd.C_nil _ _⟩, Below.refl _ _⟩
  | some a =>
    obtain ⟨N, hN⟩ : ∃ N, l.length = N := ⟨_, rfl⟩
    rw [hN] at hC hl ⊢
    have hN := Aside0.mk hN
    have hr := fun (w : World) => Lib.run_eql_slice_nil (P := Try.prog) w 45 9 (some a) N c 0 0 Try.underlying45
    have hE : st.R 9 (w.alloc (.cells #[] 9)) 0 (fun q => w.heap.size ≤ q) (.slice (some ⟨w.heap.size, 0, none⟩) 0 0) [] := R_empty (Go.heap_alloc_new w _) (Nat.le_refl _)
    have hE := Aside0.mk hE
    go_enter Try.func61, Try.ntmps61
    go_wp2_with ((with_reducible refine gate_builtin (b := .append) (xs := #[.tmp 5, .tmp 6]) rfl ?_); at_builtin; refine Kd.R_append_rows st (w0 := w.alloc (.cells #[] 9)) 0 rfl (.tmp 5) (.tmp 6) 45 9 (.string ByteArray.empty) 16 rfl Try.underlying45 PFilterBounds.info9 rfl (by decide) (by omega) (.slice (some ⟨w.heap.size, 0, none⟩) 0 0) [] l _ _ _ (fun q => w.heap.size ≤ q) (fun _ => False) rfl rfl hE.out (Kd.C_alloc hC.out _) (fun _ _ h => h) (fun _ h => h.elim) (fun k hk => by simp at hk; omega) (Below.refl _ _) (Nat.zero_le _) (by simp; omega) ?_; intro v1 w1 ho _ hg _; replace ho := Aside0.mk ho; replace hg := Aside0.mk hg)
    go_ret
    obtain ⟨A', c', e⟩ := Kd.R_slice ho.out
    obtain ⟨A2, c2, e2, _, hC2⟩ := Kd.R_reads ho.out
    rw [List.nil_append, hN.out] at e e2 hC2
    rw [e] at e2
    obtain ⟨rfl, rfl⟩ : A' = A2 ∧ c' = c2 := by injection e2 with h1 _ h2; exact ⟨h1, h2⟩
    refine ⟨⟨A', c', congrArg _ e, hC2⟩, ?_⟩
    exact Mod.below (S := fun q => w.heap.size ≤ q) (Mod.trans (Mod.of_below (below_alloc (Below.refl _ _) _)) (Mod.of_grown (S := fun q => w.heap.size ≤ q) hg.out (fun q hq => by simp [Value.ownBlock] at hq; omega)) (fun q hq => .inl hq)) (fun q hq => hq) (Nat.le_refl _)
end Go.Proofs.Ytgnmkblaockghaa

/- filter.alone. -/
set_option linter.unusedVariables false
set_option linter.unusedSimpArgs false
namespace Go.Proofs.Ytgnmkblaockghaa
open Go.RowKit Go.Shelf Go.Proofs.YtgnmkblaockghaaW.PrintWords Go.Proofs.YtgnmkblaockghaaW.PrintMore Go.Proofs.YtgnmkblaockghaaW.PrintLast

/-- Has a filter just what its kind names? by what is asked. -/
def aloneB (k : Int) (n z o e2 e3 l1 l2 : Bool) : Bool :=
  if k = 1 ∨ k = 2 then e2 && e3 else if k = 3 then (e2 && e3) && o else if k = 4 ∨ k = 5 then (n && z) && l1 && l2 else (k == 6) && (n && z) && e3
def aloneOk (x : Ft) : Bool := aloneB x.f0 (enameOk x.f2) ((x.f1.length : Int) == 0) ((x.f1.length : Int) == 1) (x.f2.toList == []) (x.f3.toList == []) (decide (1 ≤ (x.f3.size : Int))) (decide ((x.f3.size : Int) ≤ 2048))
set_option maxRecDepth 8000 in
set_option maxHeartbeats 4000000 in
theorem alone_calls (x : Ft) (A : Option Addr) (c : Nat) (w : World) (hs : x.f2.size ≤ 12000) :
    Calls Try.prog 41 #[fv x A c] w fun e w' => e = .returned (.bool (aloneOk x)) ∧ Below w.heap.size w w' := by
  obtain ⟨k, l, s, v⟩ := x
  unfold fv aloneOk
  dsimp only at hs ⊢
  have hA := fbox_new w 70 (.int .i64 k) (.slice A l.length c) (.string s) (.string v)
  have hb1 := below_alloc (Below.refl w.heap.size w) (.cells #[.int .i64 k, .slice A l.length c, .string s, .string v] 70)
  obtain ⟨w1, hw1⟩ : ∃ w1, w.alloc (.cells #[.int .i64 k, .slice A l.length c, .string s, .string v] 70) = w1 := ⟨_, rfl⟩
  rw [hw1] at hA hb1
  obtain ⟨p0, p1, p2, p3⟩ := hA.cells
  have hn := Aside0.mk (fname_calls s w1 hs)
  replace hb1 := Aside0.mk hb1
  obtain ⟨M, hM⟩ : ∃ M, l.length = M := ⟨_, rfl⟩
  rw [hM] at hw1 p1 hA ⊢
  clear hM hs
  replace hA := Aside0.mk hA
  generalize enameOk s = n at *
  generalize hz : ((M : Int) == 0) = z
  generalize ho : ((M : Int) == 1) = o
  generalize h2 : (s.toList == []) = e2
  generalize h3 : (v.toList == []) = e3
  generalize h4 : decide (1 ≤ (v.size : Int)) = l1
  generalize h5 : decide ((v.size : Int) ≤ 2048) = l2
  obtain ⟨r, hr⟩ : ∃ r, aloneB k n z o e2 e3 l1 l2 = r := ⟨_, rfl⟩
  rw [hr]
  have hfin := Aside0.mk hr
  clear hr
  have hall : k = 1 ∨ k = 2 ∨ k = 3 ∨ k = 4 ∨ k = 5 ∨ k = 6 ∨ (k ≠ 1 ∧ k ≠ 2 ∧ k ≠ 3 ∧ k ≠ 4 ∧ k ≠ 5 ∧ k ≠ 6) := by omega
  rcases hall with rfl | rfl | rfl | rfl | rfl | rfl | ⟨k1, k2, k3, k4, k5, k6⟩
  all_goals
    go_enter Try.func41, Try.ntmps41
    go_wp2_with fail
    refine hn.out.mono ?_
    rintro e w2 ⟨rfl, hb2⟩
    obtain ⟨q0, q1, q2, q3⟩ := (hA.out.below hb2).cells
    replace hb2 := Aside0.mk (below_then hb1.out hb1.out.size hb2)
    clear p0 p1 p2 p3 hn hA
    go_wp2_with fail
    all_goals
      go_ret
      refine ⟨?_, hb2.out⟩
      rw [← hfin.out]
      simp_all [aloneB]
end Go.Proofs.Ytgnmkblaockghaa
