/- dn.Alike, dn.Below. -/
import Derived.Test.YthbjgcmbbdlfkaaFc
set_option linter.unusedVariables false
set_option linter.unusedSimpArgs false
namespace Go.Proofs.Ythbjgcmbbdlfkaa
open Go.RowKit Go.Shelf Go.Proofs.YthbjgcmbbdlfkaaW.PrintWords Go.Proofs.YthbjgcmbbdlfkaaW.PrintMore Go.Proofs.YthbjgcmbbdlfkaaW.PrintLast

/-- Two names alike. -/
def alB (a b : List Rdn) : Bool := (dnOk a && dnOk b) && eqF a b
/-- A name below another one. -/
def beB (a b : List Rdn) : Bool := (dnOk a && dnOk b) && (decide (b.length < a.length) && eqF (a.drop (a.length - b.length)) b)
theorem nright_two (w : World) (m n : Nm) (hm : m.In w) (hn : n.In w) :
    Calls Try.prog 42 #[.slice (some ⟨w.heap.size, 0, none⟩) 2 2] (w.alloc (.cells #[m.v, n.v] 23)) fun e w' => e = .returned (.bool (dnOk m.l && dnOk n.l)) ∧ Below (w.alloc (.cells #[m.v, n.v] 23)).heap.size (w.alloc (.cells #[m.v, n.v] 23)) w' := by
  have h := nright_calls w.heap.size 2 [m, n] (w.alloc (.cells #[m.v, n.v] 23)) (by simp) (nms_two w m n hm hn)
  have e : ([m, n].all okN) = (dnOk m.l && dnOk n.l) := by simp [okN]
  rw [e] at h
  exact h
theorem nright_one (w : World) (m : Nm) (hm : m.In w) :
    Calls Try.prog 42 #[.slice (some ⟨w.heap.size, 0, none⟩) 1 1] (w.alloc (.cells #[m.v] 23)) fun e w' => e = .returned (.bool (dnOk m.l)) ∧ Below (w.alloc (.cells #[m.v] 23)).heap.size (w.alloc (.cells #[m.v] 23)) w' := by
  have h := nright_calls w.heap.size 1 [m] (w.alloc (.cells #[m.v] 23)) (by simp) (nms_one w m hm)
  have e : ([m].all okN) = dnOk m.l := by simp [okN]
  rw [e] at h
  exact h
set_option maxHeartbeats 1000000 in
theorem alikeN_calls (A B : Option Addr) (c d : Nat) (a b : List Rdn) (w : World) (ha : Mild a) (hb : Mild b) (hA : kr.C w A a.length a) (hB : kr.C w B b.length b) :
    Calls Try.prog 23 #[.slice A a.length c, .slice B b.length d] w fun e w' => e = .returned (.bool (alB a b)) ∧ Below w.heap.size w w' := by
  have hr := Aside0.mk (nright_two w ⟨A, c, a⟩ ⟨B, d, b⟩ ⟨hA, ha⟩ ⟨hB, hb⟩)
  have hbw := Aside0.mk (below_alloc (Below.refl w.heap.size w) (.cells #[Nm.v ⟨A, c, a⟩, Nm.v ⟨B, d, b⟩] 23))
  have heq := Aside0.mk (fun W (h : Below w.heap.size w W) => eqfunc_calls A B c d a b W ha hb (Kd.C_below hA h) (Kd.C_below hB h))
  unfold Nm.v at hr hbw
  dsimp only at hr hbw
  unfold alB
  generalize (dnOk a && dnOk b) = r at *
  generalize eqF a b = q at *
  generalize a.length = M at *
  generalize b.length = N at *
  clear hA hB ha hb
  cases r with
  | false =>
    simp only [Bool.false_and]
    go_enter Try.func23, Try.ntmps23
    go_wp2_with fail
    refine hr.out.mono ?_
    rintro e w2 ⟨rfl, hb⟩
    replace hb := Aside0.mk (below_then hbw.out hbw.out.size hb)
    go_wp2_with fail
    go_ret
    exact ⟨rfl, hb.out⟩
  | true =>
    simp only [Bool.true_and]
    go_enter Try.func23, Try.ntmps23
    go_wp2_with fail
    refine hr.out.mono ?_
    rintro e w2 ⟨rfl, hb⟩
    replace hb := Aside0.mk (below_then hbw.out hbw.out.size hb)
    go_wp2_with fail
    refine (heq.out _ hb.out).mono ?_
    rintro e w3 ⟨rfl, hb3⟩
    replace hb3 := Aside0.mk (below_then hb.out hb.out.size hb3)
    go_wp2_with fail
    go_ret
    exact ⟨rfl, hb3.out⟩
theorem slice_from (A : Option Addr) (M c m : Nat) (i : Int) (hi : i = (m : Int)) (hm : m ≤ M) : ∀ w', (Instr.slice 23 (.slice A M c) (some (.int .i64 i)) none none).run Try.prog w' = .ok (.slice (if c = m then A else A.map (·.add (m * kr.sz))) (M - m) (c - m)) w' := by
  intro w'
  subst hi
  rw [run_slice_l (P := Try.prog) (w := w') 23 A M c (by kernel_rfl) .i64 (m : Int) (by omega) (by omega)]
  rw [show (sizeOf (Try.prog.elem 23)).run Try.prog w' = .ok 2 w' by kernel_rfl]
  show Result.ok (sliced A ((m : Int).toNat) M c 2) w' = _
  rw [show ((m : Int).toNat) = m from rfl]
  unfold sliced
  rfl
set_option maxHeartbeats 1000000 in
theorem belowN_calls (A B : Option Addr) (c d : Nat) (a b : List Rdn) (w : World) (ha : Mild a) (hb : Mild b) (hc : a.length ≤ c) (hA : kr.C w A a.length a) (hB : kr.C w B b.length b) :
    Calls Try.prog 22 #[.slice A a.length c, .slice B b.length d] w fun e w' => e = .returned (.bool (beB a b)) ∧ Below w.heap.size w w' := by
  have hr := Aside0.mk (nright_two w ⟨A, c, a⟩ ⟨B, d, b⟩ ⟨hA, ha⟩ ⟨hB, hb⟩)
  have hbw := Aside0.mk (below_alloc (Below.refl w.heap.size w) (.cells #[Nm.v ⟨A, c, a⟩, Nm.v ⟨B, d, b⟩] 23))
  unfold Nm.v at hr hbw
  dsimp only at hr hbw
  unfold beB
  have hla := ha.1
  have hlb := hb.1
  by_cases hlt : b.length < a.length
  · rw [decide_eq_true hlt, Bool.true_and]
    have hdl : (a.drop (a.length - b.length)).length = b.length := by rw [List.length_drop]; omega
    have hCd := fun W (h : Below w.heap.size w W) => Kd.C_drop (m := a.length - b.length) (c := c) (Kd.C_below hA h) (by omega) hc
    have hmd : Mild (a.drop (a.length - b.length)) := ⟨by rw [hdl]; exact hb.1, fun x hx => ha.2 x (List.mem_of_mem_drop hx)⟩
    have heq := fun W (h : Below w.heap.size w W) => eqfunc_calls _ B (c - (a.length - b.length)) d _ b W hmd hb (hCd W h) (Kd.C_below hB h)
    have hsl := slice_from A a.length c (a.length - b.length) ((a.length : Int) - (b.length : Int)) (by omega) (by omega)
    rw [hdl] at heq
    rw [show a.length - (a.length - b.length) = b.length by omega] at hsl
    obtain ⟨A', hA'⟩ : ∃ A', (if c = a.length - b.length then A else A.map (·.add ((a.length - b.length) * kr.sz))) = A' := ⟨_, rfl⟩
    rw [hA'] at hsl
    replace heq := Aside0.mk (fun W h => hA' ▸ heq W h)
    clear hA' hdl hCd hmd hA hB ha hb
    generalize (dnOk a && dnOk b) = r at *
    generalize eqF (a.drop (a.length - b.length)) b = q at *
    generalize a.length = M at *
    generalize b.length = N at *
    have i1 : (N : Int) < (M : Int) := by omega
    have i2 : (0 : Int) ≤ (N : Int) := by omega
    cases r with
    | false =>
      simp only [Bool.false_and]
      go_enter Try.func22, Try.ntmps22
      go_wp2_with fail
      refine hr.out.mono ?_
      rintro e w2 ⟨rfl, hb⟩
      replace hb := Aside0.mk (below_then hbw.out hbw.out.size hb)
      go_wp2_with fail
      go_ret
      exact ⟨rfl, hb.out⟩
    | true =>
      simp only [Bool.true_and]
      go_enter Try.func22, Try.ntmps22
      go_wp2_with fail
      refine hr.out.mono ?_
      rintro e w2 ⟨rfl, hb⟩
      replace hb := Aside0.mk (below_then hbw.out hbw.out.size hb)
      go_wp2_with fail
      refine (heq.out _ hb.out).mono ?_
      rintro e w3 ⟨rfl, hb3⟩
      replace hb3 := Aside0.mk (below_then hb.out hb.out.size hb3)
      go_wp2_with fail
      go_ret
      exact ⟨rfl, hb3.out⟩
  · rw [decide_eq_false hlt, Bool.false_and, Bool.and_false]
    clear hA hB ha hb
    generalize (dnOk a && dnOk b) = r at *
    generalize a.length = M at *
    generalize b.length = N at *
    have i1 : ¬ (N : Int) < (M : Int) := by omega
    cases r
    all_goals
      go_enter Try.func22, Try.ntmps22
      go_wp2_with fail
      refine hr.out.mono ?_
      rintro e w2 ⟨rfl, hb⟩
      replace hb := Aside0.mk (below_then hbw.out hbw.out.size hb)
      go_wp2_with fail
      go_ret
      exact ⟨rfl, hb.out⟩
end Go.Proofs.Ythbjgcmbbdlfkaa
namespace Go.Proofs.Ythbjgcmbbdlfkaa
open Go.RowKit Go.Shelf Go.Proofs.YthbjgcmbbdlfkaaW.PrintWords Go.Proofs.YthbjgcmbbdlfkaaW.PrintMore Go.Proofs.YthbjgcmbbdlfkaaW.PrintLast

theorem alikeR_refl (r : Rdn) : alikeR r r = true := by unfold alikeR; simp
theorem alikeTo_refl (l : List Rdn) : ∀ k, alikeTo l l k = true := by
  intro k
  induction k with
  | zero => rfl
  | succ k ih => rw [alikeTo_next, ih, alikeR_refl]; rfl
theorem eqF_refl (l : List Rdn) : eqF l l = true := by unfold eqF; rw [alikeTo_refl]; simp
theorem dnOk_drop {l : List Rdn} (h : dnOk l = true) (k : Nat) : dnOk (l.drop k) = true := by
  unfold dnOk at h ⊢
  simp only [Bool.and_eq_true, List.all_eq_true, decide_eq_true_eq, List.length_drop] at h ⊢
  exact ⟨by omega, fun x hx => h.2 x (List.mem_of_mem_drop hx)⟩
theorem mild_drop {l : List Rdn} (h : Mild l) (k : Nat) : Mild (l.drop k) := ⟨by rw [List.length_drop]; have := h.1; omega, fun x hx => h.2 x (List.mem_of_mem_drop hx)⟩
theorem beB_drop {l : List Rdn} (h : dnOk l = true) {k : Nat} (h0 : 0 < k) (hk : k ≤ l.length) : beB l (l.drop k) = true := by
  unfold beB
  rw [h, dnOk_drop h k, List.length_drop, decide_eq_true (by omega), show l.length - (l.length - k) = k by omega, eqF_refl]
  rfl
theorem beB_short {a b : List Rdn} (h : ¬ b.length < a.length) : beB a b = false := by
  unfold beB
  rw [decide_eq_false h, Bool.false_and, Bool.and_false]
theorem alB_short {a b : List Rdn} (h : a.length ≠ b.length) : alB a b = false := by
  unfold alB eqF
  rw [decide_eq_false h, Bool.false_and, Bool.and_false]
end Go.Proofs.Ythbjgcmbbdlfkaa
