/- dn.right. -/
import Derived.Test.YthbjgcmbbdlfkaaDa
set_option linter.unusedVariables false
set_option linter.unusedSimpArgs false
namespace Go.Proofs.Ythbjgcmbbdlfkaa
open Go.RowKit Go.Shelf Go.Proofs.YthbjgcmbbdlfkaaW.PrintWords Go.Proofs.YthbjgcmbbdlfkaaW.PrintMore Go.Proofs.YthbjgcmbbdlfkaaW.PrintLast

/-- A name in memory. -/
structure Nm where
  A : Option Addr
  c : Nat
  l : List Rdn
def Nm.v (n : Nm) : Value := .slice n.A n.l.length n.c
def Nm.In (n : Nm) (w : World) : Prop := kr.C w n.A n.l.length n.l ∧ Mild n.l
theorem Nm.In.below {n : Nm} {w w' : World} (h : n.In w) (hb : Below w.heap.size w w') : n.In w' := ⟨Kd.C_below h.1 hb, h.2⟩
/-- Some names in a block. -/
def Nms (w : World) (b : Nat) (L : List Nm) : Prop := ∀ j (h : j < L.length), w.cell? ⟨b, j, none⟩ = some L[j].v ∧ L[j].In w
theorem Nms.below {w w' : World} {b : Nat} {L : List Nm} (h : Nms w b L) (hb : Below w.heap.size w w') : Nms w' b L := fun j hj => ⟨pw_cell_below hb (h j hj).1, (h j hj).2.below hb⟩
def okN (n : Nm) : Bool := dnOk n.l
set_option maxHeartbeats 1000000 in
theorem right1_calls (n : Nm) (w : World) (h : n.In w) : Calls Try.prog 55 #[n.v] w fun e w' => e = .returned (.bool (okN n)) ∧ Below w.heap.size w w' := by
  have hi := Aside0.mk (check_calls n.A n.c n.l w h.2 h.1)
  have hd : dnErr n.l = if okN n = true then 0 else 2 := rfl
  unfold Nm.v
  generalize dnErr n.l = r at *
  generalize okN n = b at *
  generalize n.l.length = M at *
  clear h
  cases b with
  | true =>
    obtain rfl : r = 0 := hd
    go_enter Try.func55, Try.ntmps55
    go_wp2_with fail
    refine hi.out.mono ?_
    rintro e w1 ⟨rfl, hb⟩
    replace hb := Aside0.mk hb
    go_wp2_with fail
    go_ret
    exact ⟨rfl, hb.out⟩
  | false =>
    obtain rfl : r = 2 := hd
    go_enter Try.func55, Try.ntmps55
    go_wp2_with fail
    refine hi.out.mono ?_
    rintro e w1 ⟨rfl, hb⟩
    replace hb := Aside0.mk hb
    go_wp2_with fail
    go_ret
    exact ⟨rfl, hb.out⟩
set_option maxHeartbeats 1000000 in
theorem notright_calls (n : Nm) (gb : Nat) (w : World) (h : n.In w) (hg : w.cell? ⟨gb, 0, none⟩ = some (.func (.func 55) #[] #[])) :
    Calls Try.prog 60 #[n.v, .pointer (some ⟨gb, 0, none⟩)] w fun e w' => e = .returned (.bool (!okN n)) ∧ Below w.heap.size w w' := by
  have he := enters_of (P := Try.prog) Try.func55 (by kernel_rfl) rfl
  have hi := Aside0.mk (right1_calls n w h)
  clear h
  generalize okN n = b at *
  generalize n.v = v at *
  go_enter Try.func60, Try.ntmps60
  go_wp2_with fail
  refine hi.out.mono ?_
  rintro e w1 ⟨rfl, hb⟩
  replace hb := Aside0.mk hb
  go_wp2_with fail
  go_ret
  exact ⟨rfl, hb.out⟩
set_option maxHeartbeats 1000000 in
theorem nindex_calls (gb b c : Nat) (L : List Nm) (w : World) (hl : L.length ≤ 10) (h : Nms w b L) (hg : w.cell? ⟨gb, 0, none⟩ = some (.func (.func 55) #[] #[])) :
    Calls Try.prog 61 #[.slice (some ⟨b, 0, none⟩) L.length c, .func (.func 60) #[] #[.pointer (some ⟨gb, 0, none⟩)]] w fun e w' => (∃ r : Int, e = .returned (.int .i64 r) ∧ decide (0 ≤ r) = L.any (fun x => !okN x)) ∧ Below w.heap.size w w' := by
  have he := enters_of (P := Try.prog) Try.func60 (by kernel_rfl) rfl
  obtain ⟨M, hM⟩ : ∃ M, L.length = M := ⟨_, rfl⟩
  replace h := Aside0.mk h
  replace hg := Aside0.mk hg
  rw [hM] at hl ⊢
  replace hM := Aside0.mk hM
  have hb0 : Aside0 (Below w.heap.size w w) := Aside0.mk (Below.refl _ _)
  go_enter Try.func61, Try.ntmps61
  go_wp2
  go_loopw [8] (fun s8 wr => ∃ k : Nat, k ≤ M ∧ s8 = .int .i64 k ∧ Aside0 (Below w.heap.size w wr) ∧ Aside0 ((L.take k).any (fun x => !okN x) = false)) (fun s8 _ => M - (intOf s8).toNat)
  case atStart => exact ⟨0, Nat.zero_le _, rfl, hb0, ⟨by simp⟩⟩
  case round =>
    clear hb0
    obtain ⟨k, hk, rfl, hb, ha⟩ := hrel
    by_cases hlt : k < M
    · have hkl : k < L.length := by rw [hM.out]; exact hlt
      have hh := h.out.below hb.out
      obtain ⟨p0, p1⟩ := hh k hkl
      clear hh
      have hnx := Aside0.mk (fun h => any_take_snoc (fun x => !okN x) L k hkl ha.out h)
      have hno := Aside0.mk (any_true_at (fun x => !okN x) L k hkl)
      obtain ⟨x, hx⟩ : ∃ x, L[k] = x := ⟨_, rfl⟩
      rw [hx] at p0 p1 hnx hno
      clear hx hkl
      have hv := Aside0.mk (notright_calls x gb wr p1 (pw_cell_below hb.out hg.out))
      clear p1
      obtain ⟨xv, hxv⟩ : ∃ xv, x.v = xv := ⟨_, rfl⟩
      rw [hxv] at p0 hv
      clear hxv
      have i1 : (0 : Int) ≤ (k : Int) := by omega
      have i2 : (k : Int) < (M : Int) := by omega
      cases hvo : okN x with
      | true =>
        rw [hvo] at hv
        have hy := Aside0.mk (hnx.out (by simp [hvo]))
        clear hnx hno hvo
        go_wp2_with fail
        refine hv.out.mono ?_
        rintro e w1 ⟨rfl, hb1⟩
        replace hb1 := Aside0.mk (below_then hb.out hb.out.size hb1)
        go_wp2_with fail
        go_roundw
        case rel => exact ⟨k + 1, by omega, by go_num, hb1, hy⟩
        case measure => simp [intOf]; omega
      | false =>
        rw [hvo] at hv
        have hy := Aside0.mk (hno.out (by simp [hvo]))
        clear hnx hno hvo
        go_wp2_with fail
        refine hv.out.mono ?_
        rintro e w1 ⟨rfl, hb1⟩
        replace hb1 := Aside0.mk (below_then hb.out hb.out.size hb1)
        go_wp2_with fail
        go_ret
        exact ⟨⟨_, rfl, by rw [hy.out]; simp⟩, hb1.out⟩
    · have hkM : k = M := by omega
      subst hkM
      have h9 : L.any (fun x => !okN x) = false := by
        have h9 := ha.out
        rwa [List.take_of_length_le (by rw [hM.out]; exact Nat.le_refl _)] at h9
      replace h9 := Aside0.mk h9
      go_wp2_with fail
      go_ret
      exact ⟨⟨_, rfl, by rw [h9.out]; rfl⟩, hb.out⟩
set_option maxHeartbeats 1000000 in
theorem ncontains_calls (gb b c : Nat) (L : List Nm) (w : World) (hl : L.length ≤ 10) (h : Nms w b L) (hg : w.cell? ⟨gb, 0, none⟩ = some (.func (.func 55) #[] #[])) :
    Calls Try.prog 59 #[.slice (some ⟨b, 0, none⟩) L.length c, .func (.func 60) #[] #[.pointer (some ⟨gb, 0, none⟩)]] w fun e w' => e = .returned (.bool (L.any (fun x => !okN x))) ∧ Below w.heap.size w w' := by
  have hi := Aside0.mk (nindex_calls gb b c L w hl h hg)
  clear h hg hl
  generalize L.any (fun x => !okN x) = r at *
  generalize L.length = M at *
  go_enter Try.func59, Try.ntmps59
  go_wp2_with fail
  refine hi.out.mono ?_
  rintro e w1 ⟨⟨r, rfl, hr⟩, hb⟩
  replace hb := Aside0.mk hb
  replace hr := Aside0.mk hr
  go_wp2_with fail
  go_ret
  exact ⟨by rw [← hr.out]; rfl, hb.out⟩
set_option maxHeartbeats 1000000 in
theorem neach_calls (b c : Nat) (L : List Nm) (w : World) (hl : L.length ≤ 10) (h : Nms w b L) :
    Calls Try.prog 54 #[.slice (some ⟨b, 0, none⟩) L.length c, .func (.func 55) #[] #[]] w fun e w' => e = .returned (.bool (L.all okN)) ∧ Below w.heap.size w w' := by
  have hb0 := Aside0.mk (below_alloc (Below.refl w.heap.size w) (.cells #[.func (.func 55) #[] #[]] 24))
  have h0 := heap_alloc_new w (.cells #[.func (.func 55) #[] #[]] 24)
  obtain ⟨w1, hw1⟩ : ∃ w1, w.alloc (.cells #[.func (.func 55) #[] #[]] 24) = w1 := ⟨_, rfl⟩
  rw [hw1] at h0 hb0
  have p0 : w1.cell? ⟨w.heap.size, 0, none⟩ = some (.func (.func 55) #[] #[]) := (cell_of_row _ _ _ _ _ _ h0).trans rfl
  have hi := Aside0.mk (ncontains_calls w.heap.size b c L w1 hl (h.below hb0.out) p0)
  have e : L.all okN = !(L.any (fun x => !okN x)) := by
    clear hi h hl
    induction L with
    | nil => rfl
    | cons x l ih => simp [ih]
  rw [e]
  clear e h hl h0 p0
  generalize L.any (fun x => !okN x) = r at *
  generalize L.length = M at *
  go_enter Try.func54, Try.ntmps54
  go_wp2_with fail
  refine hi.out.mono ?_
  rintro e w2 ⟨rfl, hb⟩
  replace hb := Aside0.mk (below_then hb0.out hb0.out.size hb)
  go_wp2_with fail
  go_ret
  exact ⟨rfl, hb.out⟩
set_option maxHeartbeats 1000000 in
theorem nright_calls (b c : Nat) (L : List Nm) (w : World) (hl : L.length ≤ 10) (h : Nms w b L) :
    Calls Try.prog 42 #[.slice (some ⟨b, 0, none⟩) L.length c] w fun e w' => e = .returned (.bool (L.all okN)) ∧ Below w.heap.size w w' := by
  have hi := Aside0.mk (neach_calls b c L w hl h)
  clear h hl
  generalize L.all okN = r at *
  generalize L.length = M at *
  go_enter Try.func42, Try.ntmps42
  go_wp2_with fail
  refine hi.out.mono ?_
  rintro e w2 ⟨rfl, hb⟩
  replace hb := Aside0.mk hb
  go_wp2_with fail
  go_ret
  exact ⟨rfl, hb.out⟩
/-- Two names laid into a row of their own. -/
theorem nms_two (w : World) (m n : Nm) (hm : m.In w) (hn : n.In w) : Nms (w.alloc (.cells #[m.v, n.v] 23)) w.heap.size [m, n] := by
  have h0 := heap_alloc_new w (.cells #[m.v, n.v] 23)
  have hb := below_alloc (Below.refl w.heap.size w) (.cells #[m.v, n.v] 23)
  intro j hj
  have hj' : j = 0 ∨ j = 1 := by simp at hj; omega
  rcases hj' with rfl | rfl
  · exact ⟨(cell_of_row _ _ _ _ _ _ h0).trans rfl, hm.below hb⟩
  · exact ⟨(cell_of_row _ _ _ _ _ _ h0).trans rfl, hn.below hb⟩
theorem nms_one (w : World) (m : Nm) (hm : m.In w) : Nms (w.alloc (.cells #[m.v] 23)) w.heap.size [m] := by
  have h0 := heap_alloc_new w (.cells #[m.v] 23)
  have hb := below_alloc (Below.refl w.heap.size w) (.cells #[m.v] 23)
  intro j hj
  have hj' : j = 0 := by simp at hj; omega
  subst hj'
  exact ⟨(cell_of_row _ _ _ _ _ _ h0).trans rfl, hm.below hb⟩
end Go.Proofs.Ythbjgcmbbdlfkaa
