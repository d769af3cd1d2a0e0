/- slices.EqualFunc of two names. -/
import Derived.Test.YthbjgcmbbdlfkaaFb
set_option linter.unusedVariables false
set_option linter.unusedSimpArgs false
namespace Go.Proofs.Ythbjgcmbbdlfkaa
open Go.RowKit Go.Shelf Go.Proofs.YthbjgcmbbdlfkaaW.PrintWords Go.Proofs.YthbjgcmbbdlfkaaW.PrintMore Go.Proofs.YthbjgcmbbdlfkaaW.PrintLast

/-- Are the first k parts alike? -/
def alikeTo (a b : List Rdn) (k : Nat) : Bool := (List.range k).all fun i => alikeR (a.getD i zR) (b.getD i zR)
theorem alikeTo_next (a b : List Rdn) (k : Nat) : alikeTo a b (k + 1) = (alikeTo a b k && alikeR (a.getD k zR) (b.getD k zR)) := by
  unfold alikeTo
  rw [List.range_succ, List.all_append]
  simp
theorem alikeTo_no {a b : List Rdn} {k n : Nat} (hk : k < n) (h : alikeR (a.getD k zR) (b.getD k zR) = false) : alikeTo a b n = false := by
  unfold alikeTo
  rw [Bool.eq_false_iff]
  intro h2
  rw [List.all_eq_true] at h2
  have := h2 k (List.mem_range.2 hk)
  rw [h] at this
  cases this
/-- Are two lists of parts alike, one by one? -/
def eqF (a b : List Rdn) : Bool := decide (a.length = b.length) && alikeTo a b a.length
set_option maxHeartbeats 2000000 in
theorem eqfunc_calls (A B : Option Addr) (c d : Nat) (a b : List Rdn) (w : World) (ha : Mild a) (hb : Mild b) (hA : kr.C w A a.length a) (hB : kr.C w B b.length b) :
    Calls Try.prog 44 #[.slice A a.length c, .slice B b.length d, .func (.func 45) #[] #[]] w fun e w' => e = .returned (.bool (eqF a b)) ∧ Below w.heap.size w w' := by
  have he := enters_of (P := Try.prog) Try.func45 (by kernel_rfl) rfl
  have hb0 := Aside0.mk (Below.refl w.heap.size w)
  obtain ⟨ha, hsa⟩ := ha
  obtain ⟨hb, hsb⟩ := hb
  by_cases hlen : a.length = b.length
  · rw [← hlen]
    have hfin := Aside0.mk (show eqF a b = alikeTo a b a.length from by unfold eqF; rw [decide_eq_true hlen, Bool.true_and])
    obtain ⟨M, hM⟩ : ∃ M, a.length = M := ⟨_, rfl⟩
    replace hA := Aside0.mk hA
    replace hB := Aside0.mk hB
    replace hsa := Aside0.mk hsa
    replace hsb := Aside0.mk hsb
    have hM2 := Aside0.mk (hlen.symm.trans hM)
    rw [hM] at ha hfin ⊢
    replace hM := Aside0.mk hM
    clear hlen hb
    go_enter Try.func44, Try.ntmps44
    go_wp2_with fail
    go_loopw [17] (fun s17 wr => ∃ k : Nat, k ≤ M ∧ s17 = .int .i64 k ∧ Aside0 (Below w.heap.size w wr) ∧ Aside0 (alikeTo a b k = true)) (fun s17 _ => M - (intOf s17).toNat)
    case atStart => exact ⟨0, Nat.zero_le _, rfl, hb0, ⟨rfl⟩⟩
    case round =>
      clear hb0
      obtain ⟨k, hk, rfl, hb, hal⟩ := hrel
      by_cases hlt : k < M
      · have hka : k < a.length := by rw [hM.out]; exact hlt
        have hkb : k < b.length := by rw [hM2.out]; exact hlt
        obtain ⟨ad, e, p0, p1⟩ := rdn_at hA.out k hka
        subst e
        obtain ⟨bd, e, q0, q1⟩ := rdn_at hB.out k hkb
        subst e
        replace p0 := pw_cell_below hb.out p0
        replace p1 := pw_cell_below hb.out p1
        replace q0 := pw_cell_below hb.out q0
        replace q1 := pw_cell_below hb.out q1
        have hza := (hsa.out a[k] (List.getElem_mem hka)).2
        have hzb := (hsb.out b[k] (List.getElem_mem hkb)).2
        have hnx := Aside0.mk (alikeTo_next a b k)
        have hno := Aside0.mk (fun h => alikeTo_no (a := a) (b := b) hlt h)
        rw [show a.getD k zR = a[k] by simp [List.getD_eq_getElem?_getD, hka], show b.getD k zR = b[k] by simp [List.getD_eq_getElem?_getD, hkb], hal.out, Bool.true_and] at hnx
        rw [show a.getD k zR = a[k] by simp [List.getD_eq_getElem?_getD, hka], show b.getD k zR = b[k] by simp [List.getD_eq_getElem?_getD, hkb]] at hno
        obtain ⟨x, hx⟩ : ∃ x, a[k] = x := ⟨_, rfl⟩
        obtain ⟨y, hy⟩ : ∃ y, b[k] = y := ⟨_, rfl⟩
        rw [hx] at p0 p1 hza hnx hno
        rw [hy] at q0 q1 hzb hnx hno
        clear hx hy hka hkb
        obtain ⟨xt, xv⟩ := x
        obtain ⟨yt, yv⟩ := y
        dsimp only at p0 p1 q0 q1 hza hzb
        have hv := Aside0.mk (fun W => alike_calls xt xv yt yv W hza hzb)
        have i1 : (0 : Int) ≤ (k : Int) := by omega
        have i2 : (k : Int) < (M : Int) := by omega
        have hb0 := below_alloc (Below.refl wr.heap.size wr) (.cells #[.string xt, .string xv] 40)
        have h0 := heap_alloc_new wr (.cells #[.string xt, .string xv] 40)
        obtain ⟨w1, hw1⟩ : ∃ w1, wr.alloc (.cells #[.string xt, .string xv] 40) = w1 := ⟨_, rfl⟩
        have hz : w1.heap.size = wr.heap.size + 1 := by rw [← hw1]; simp
        rw [hw1] at h0 hb0
        have hb1 := below_then hb0 hb0.size (below_alloc (Below.refl w1.heap.size w1) (.cells #[.string yt, .string yv] 40))
        have h1 := heap_alloc_new w1 (.cells #[.string yt, .string yv] 40)
        have hb2 := below_alloc (Below.refl w1.heap.size w1) (.cells #[.string yt, .string yv] 40)
        obtain ⟨w2, hw2⟩ : ∃ w2, w1.alloc (.cells #[.string yt, .string yv] 40) = w2 := ⟨_, rfl⟩
        rw [hw2] at h1 hb1 hb2
        have h0' := (hb2.block _ (by omega)).trans h0
        have r0 : w2.cell? ⟨wr.heap.size, 0, none⟩ = some (.string xt) := (cell_of_row _ _ _ _ _ _ h0').trans rfl
        have r1 : w2.cell? ⟨wr.heap.size, 1, none⟩ = some (.string xv) := (cell_of_row _ _ _ _ _ _ h0').trans rfl
        have t0 : w2.cell? ⟨w1.heap.size, 0, none⟩ = some (.string yt) := (cell_of_row _ _ _ _ _ _ h1).trans rfl
        have t1 : w2.cell? ⟨w1.heap.size, 1, none⟩ = some (.string yv) := (cell_of_row _ _ _ _ _ _ h1).trans rfl
        replace q0 := pw_cell_below hb0 q0
        replace q1 := pw_cell_below hb0 q1
        replace hb1 := Aside0.mk (below_then hb.out hb.out.size hb1)
        clear hb0 hb2 h0 h0' h1 hz
        cases hal' : alikeR ⟨xt, xv⟩ ⟨yt, yv⟩ with
        | true =>
          rw [hal'] at hv hnx
          clear hno hal'
          go_wp2_with fail
          refine (hv.out _).mono ?_
          rintro e w4 ⟨rfl, hb4⟩
          replace hb4 := Aside0.mk (below_then hb1.out hb1.out.size hb4)
          go_wp2_with fail
          go_roundw
          case rel => exact ⟨k + 1, by omega, by go_num, hb4, hnx⟩
          case measure => simp [intOf]; omega
        | false =>
          rw [hal'] at hv
          have hno' := Aside0.mk (hfin.out.trans (hno.out hal'))
          clear hno hal' hnx
          go_wp2_with fail
          refine (hv.out _).mono ?_
          rintro e w4 ⟨rfl, hb4⟩
          replace hb4 := Aside0.mk (below_then hb1.out hb1.out.size hb4)
          go_wp2_with fail
          go_ret
          exact ⟨by rw [hno'.out]; rfl, hb4.out⟩
      · obtain rfl : k = M := by omega
        go_wp2_with fail
        go_ret
        exact ⟨by rw [hfin.out, hal.out]; rfl, hb.out⟩
  · have hfin := Aside0.mk (show eqF a b = false from by unfold eqF; rw [decide_eq_false hlen, Bool.false_and])
    have hne : ¬ (a.length : Int) = (b.length : Int) := by omega
    generalize a.length = M at *
    generalize b.length = N at *
    clear hsa hsb hA hB
    go_enter Try.func44, Try.ntmps44
    go_wp2_with fail
    go_ret
    exact ⟨by rw [hfin.out]; rfl, hb0.out⟩
end Go.Proofs.Ythbjgcmbbdlfkaa
