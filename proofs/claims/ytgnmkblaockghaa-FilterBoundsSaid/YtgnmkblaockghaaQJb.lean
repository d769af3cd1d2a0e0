/- dn.Check. -/
import Derived.Test.YtgnmkblaockghaaQCc
import Derived.Laws.EntriesVeiled
set_option linter.unusedVariables false
set_option linter.unusedSimpArgs false
namespace Go.Proofs.Ytgnmkblaockghaa
open Go.RowKit Go.Shelf Go.Proofs.YtgnmkblaockghaaW.PrintWords Go.Proofs.YtgnmkblaockghaaW.PrintMore Go.Proofs.YtgnmkblaockghaaW.PrintLast

/-- Parts no larger than some. -/
def Mild (l : List Rdn) : Prop := l.length ≤ 1000 ∧ ∀ x ∈ l, x.t.size ≤ 12000 ∧ x.v.size ≤ 12000
set_option maxRecDepth 8000 in
set_option maxHeartbeats 1000000 in
theorem notpart_calls (t v : ByteArray) (gb : Nat) (w : World) (ht : t.size ≤ 12000) (hg : w.cell? ⟨gb, 0, none⟩ = some (.func (.func 95) #[] #[])) :
    Calls Try.prog 110 #[.agg #[.string t, .string v], .pointer (some ⟨gb, 0, none⟩)] w fun e w' => e = .returned (.bool (!partOk ⟨t, v⟩)) ∧ Below w.heap.size w w' := by
  have he := enters_of (P := Try.prog) Try.func95 (by kernel_rfl) rfl
  have hb0 := Aside0.mk (below_alloc (Below.refl w.heap.size w) (.cells #[.string t, .string v] 104))
  have h0 := heap_alloc_new w (.cells #[.string t, .string v] 104)
  obtain ⟨w1, hw1⟩ : ∃ w1, w.alloc (.cells #[.string t, .string v] 104) = w1 := ⟨_, rfl⟩
  rw [hw1] at h0 hb0
  have p0 : w1.cell? ⟨w.heap.size, 0, none⟩ = some (.string t) := (cell_of_row _ _ _ _ _ _ h0).trans rfl
  have p1 : w1.cell? ⟨w.heap.size, 1, none⟩ = some (.string v) := (cell_of_row _ _ _ _ _ _ h0).trans rfl
  have hg1 := pw_cell_below hb0.out hg
  have hv := Aside0.mk (part_calls t v w1 ht)
  clear hg h0
  generalize partOk ⟨t, v⟩ = b at *
  go_enter Try.func110, Try.ntmps110
  go_wp2_with fail
  refine hv.out.mono ?_
  rintro e w2 ⟨rfl, hb⟩
  replace hb := Aside0.mk (below_then hb0.out hb0.out.size hb)
  go_wp2_with fail
  go_ret
  exact ⟨rfl, hb.out⟩
theorem any_take_snoc {α : Type} (p : α → Bool) (l : List α) (k : Nat) (h : k < l.length) (h1 : (l.take k).any p = false) (h2 : p l[k] = false) : (l.take (k + 1)).any p = false := by
  rw [List.take_succ_eq_append_getElem h, List.any_append, h1]; simp [h2]
theorem any_true_at {α : Type} (p : α → Bool) (l : List α) (k : Nat) (h : k < l.length) (h2 : p l[k] = true) : l.any p = true := by
  rw [List.any_eq_true]; exact ⟨l[k], List.getElem_mem h, h2⟩
set_option maxRecDepth 8000 in
set_option maxHeartbeats 1000000 in
theorem index_calls (gb : Nat) (A : Option Addr) (c : Nat) (l : List Rdn) (w : World) (hl : Mild l) (hC : kr.C w A l.length l) (hg : w.cell? ⟨gb, 0, none⟩ = some (.func (.func 95) #[] #[])) :
    Calls Try.prog 112 #[.slice A l.length c, .func (.func 110) #[] #[.pointer (some ⟨gb, 0, none⟩)]] w fun e w' => (∃ r : Int, e = .returned (.int .i64 r) ∧ decide (0 ≤ r) = l.any (fun x => !partOk x)) ∧ Below w.heap.size w w' := by
  have he := enters_of (P := Try.prog) Try.func110 (by kernel_rfl) rfl
  obtain ⟨hl, hs⟩ := hl
  obtain ⟨M, hM⟩ : ∃ M, l.length = M := ⟨_, rfl⟩
  replace hC := Aside0.mk hC
  replace hs := Aside0.mk hs
  replace hg := Aside0.mk hg
  rw [hM] at hl ⊢
  replace hM := Aside0.mk hM
  have hb0 : Aside0 (Below w.heap.size w w) := Aside0.mk (Below.refl _ _)
  go_enter Try.func112, Try.ntmps112
  go_wp2
  go_loopw [8] (fun s8 wr => ∃ k : Nat, k ≤ M ∧ s8 = .int .i64 k ∧ Aside0 (Below w.heap.size w wr) ∧ Aside0 ((l.take k).any (fun x => !partOk x) = false)) (fun s8 _ => M - (intOf s8).toNat)
  case atStart => exact ⟨0, Nat.zero_le _, rfl, hb0, ⟨by simp⟩⟩
  case round =>
    clear hb0
    obtain ⟨k, hk, rfl, hb, ha⟩ := hrel
    by_cases hlt : k < M
    · have hkl : k < l.length := by rw [hM.out]; exact hlt
      obtain ⟨ad, e, p0, p1⟩ := rdn_at hC.out k hkl
      subst e
      replace p0 := pw_cell_below hb.out p0
      replace p1 := pw_cell_below hb.out p1
      have hsz := (hs.out l[k] (List.getElem_mem hkl)).1
      have hnx := Aside0.mk (fun h => any_take_snoc (fun x => !partOk x) l k hkl ha.out h)
      have hno := Aside0.mk (any_true_at (fun x => !partOk x) l k hkl)
      obtain ⟨x, hx⟩ : ∃ x, l[k] = x := ⟨_, rfl⟩
      rw [hx] at p0 p1 hnx hno hsz
      clear hx hkl
      have hv := Aside0.mk (notpart_calls x.t x.v gb wr hsz (pw_cell_below hb.out hg.out))
      have i1 : (0 : Int) ≤ (k : Int) := by omega
      have i2 : (k : Int) < (M : Int) := by omega
      cases hvo : partOk x with
      | true =>
        replace hv := Aside0.mk (show Calls Try.prog 110 #[.agg #[.string x.t, .string x.v], .pointer (some ⟨gb, 0, none⟩)] wr fun e w' => e = .returned (.bool false) ∧ Below wr.heap.size wr w' by have := hv.out; rw [show partOk ⟨x.t, x.v⟩ = true from hvo] at this; exact this)
        have hy := Aside0.mk (hnx.out (by simp [hvo]))
        clear hnx hno hvo
        go_wp2_with fail
        refine hv.out.mono ?_
        rintro e w1 ⟨rfl, hb1⟩
        replace hb1 := Aside0.mk (below_then hb.out hb.out.size hb1)
        go_wp2_with fail
        go_roundw
        case rel => exact ⟨k + 1, by omega, by go_num, hb1, hy⟩
        case measure => simp [intOf]; omega
      | false =>
        replace hv := Aside0.mk (show Calls Try.prog 110 #[.agg #[.string x.t, .string x.v], .pointer (some ⟨gb, 0, none⟩)] wr fun e w' => e = .returned (.bool true) ∧ Below wr.heap.size wr w' by have := hv.out; rw [show partOk ⟨x.t, x.v⟩ = false from hvo] at this; exact this)
        have hy := Aside0.mk (hno.out (by simp [hvo]))
        clear hnx hno hvo
        go_wp2_with fail
        refine hv.out.mono ?_
        rintro e w1 ⟨rfl, hb1⟩
        replace hb1 := Aside0.mk (below_then hb.out hb.out.size hb1)
        go_wp2_with fail
        go_ret
        exact ⟨⟨_, rfl, by rw [hy.out]; simp⟩, hb1.out⟩
    · have hkM : k = M := by omega
      subst hkM
      have h9 : l.any (fun x => !partOk x) = false := by
        have h9 := ha.out
        rwa [List.take_of_length_le (by rw [hM.out]; exact Nat.le_refl _)] at h9
      replace h9 := Aside0.mk h9
      go_wp2_with fail
      go_ret
      exact ⟨⟨_, rfl, by rw [h9.out]; rfl⟩, hb.out⟩
set_option maxRecDepth 8000 in
set_option maxHeartbeats 1000000 in
theorem contains_calls (gb : Nat) (A : Option Addr) (c : Nat) (l : List Rdn) (w : World) (hl : Mild l) (hC : kr.C w A l.length l) (hg : w.cell? ⟨gb, 0, none⟩ = some (.func (.func 95) #[] #[])) :
    Calls Try.prog 109 #[.slice A l.length c, .func (.func 110) #[] #[.pointer (some ⟨gb, 0, none⟩)]] w fun e w' => e = .returned (.bool (l.any (fun x => !partOk x))) ∧ Below w.heap.size w w' := by
  have hi := Aside0.mk (index_calls gb A c l w hl hC hg)
  clear hC hg hl
  generalize l.any (fun x => !partOk x) = b at *
  generalize l.length = M at *
  go_enter Try.func109, Try.ntmps109
  go_wp2_with fail
  refine hi.out.mono ?_
  rintro e w1 ⟨⟨r, rfl, hr⟩, hb⟩
  replace hb := Aside0.mk hb
  replace hr := Aside0.mk hr
  go_wp2_with fail
  go_ret
  exact ⟨by rw [← hr.out]; rfl, hb.out⟩
set_option maxRecDepth 8000 in
set_option maxHeartbeats 1000000 in
theorem each_calls (A : Option Addr) (c : Nat) (l : List Rdn) (w : World) (hl : Mild l) (hC : kr.C w A l.length l) :
    Calls Try.prog 97 #[.slice A l.length c, .func (.func 95) #[] #[]] w fun e w' => e = .returned (.bool (l.all partOk)) ∧ Below w.heap.size w w' := by
  have hb0 := Aside0.mk (below_alloc (Below.refl w.heap.size w) (.cells #[.func (.func 95) #[] #[]] 116))
  have h0 := heap_alloc_new w (.cells #[.func (.func 95) #[] #[]] 116)
  obtain ⟨w1, hw1⟩ : ∃ w1, w.alloc (.cells #[.func (.func 95) #[] #[]] 116) = w1 := ⟨_, rfl⟩
  rw [hw1] at h0 hb0
  have p0 : w1.cell? ⟨w.heap.size, 0, none⟩ = some (.func (.func 95) #[] #[]) := (cell_of_row _ _ _ _ _ _ h0).trans rfl
  have hi := Aside0.mk (contains_calls w.heap.size A c l w1 hl (Kd.C_below hC hb0.out) p0)
  have e : l.all partOk = !(l.any (fun x => !partOk x)) := by
    clear hi hC hl
    induction l with
    | nil => rfl
    | cons x l ih => simp [ih]
  rw [e]
  clear e hC hl h0 p0
  generalize l.any (fun x => !partOk x) = b at *
  generalize l.length = M at *
  go_enter Try.func97, Try.ntmps97
  go_wp2_with fail
  refine hi.out.mono ?_
  rintro e w2 ⟨rfl, hb⟩
  replace hb := Aside0.mk (below_then hb0.out hb0.out.size hb)
  go_wp2_with fail
  go_ret
  exact ⟨rfl, hb.out⟩
/-- May a name be? -/
def dnOk (l : List Rdn) : Bool := decide ((l.length : Int) ≤ 16) && l.all partOk
def dnErr (l : List Rdn) : Int := if dnOk l then 0 else 2
set_option maxRecDepth 8000 in
set_option maxHeartbeats 1000000 in
theorem check_calls (A : Option Addr) (c : Nat) (l : List Rdn) (w : World) (hl : Mild l) (hC : kr.C w A l.length l) :
    Calls Try.prog 77 #[.slice A l.length c] w fun e w' => e = .returned (.int .i64 (dnErr l)) ∧ Below w.heap.size w w' := by
  have hi := Aside0.mk (each_calls A c l w hl hC)
  have hb0 := Aside0.mk (Below.refl w.heap.size w)
  have hd : dnErr l = if (decide ((l.length : Int) ≤ 16) && l.all partOk) = true then 0 else 2 := rfl
  obtain ⟨r, hr⟩ : ∃ r, dnErr l = r := ⟨_, rfl⟩
  rw [hr]
  rw [hr] at hd
  clear hC hl hr
  generalize l.all partOk = b at *
  generalize l.length = M at *
  by_cases h : (M : Int) ≤ 16
  · have d1 : decide ((16 : Int) < (M : Int)) = false := by simp; omega
    have d1n : decide (16 < M) = false := by simp; omega
    rw [decide_eq_true h] at hd
    clear h
    cases b with
    | true =>
      obtain rfl : r = 0 := hd
      go_enter Try.func77, Try.ntmps77
      go_wp2_with fail
      refine hi.out.mono ?_
      rintro e w2 ⟨rfl, hb⟩
      replace hb := Aside0.mk hb
      go_wp2_with fail
      go_ret
      exact ⟨rfl, hb.out⟩
    | false =>
      obtain rfl : r = 2 := hd
      go_enter Try.func77, Try.ntmps77
      go_wp2_with fail
      refine hi.out.mono ?_
      rintro e w2 ⟨rfl, hb⟩
      replace hb := Aside0.mk hb
      go_wp2_with fail
      go_ret
      exact ⟨rfl, hb.out⟩
  · have d1 : decide ((16 : Int) < (M : Int)) = true := by simp; omega
    have d1n : decide (16 < M) = true := by simp; omega
    rw [decide_eq_false h] at hd
    obtain rfl : r = 2 := hd
    clear h
    go_enter Try.func77, Try.ntmps77
    go_wp2_with fail
    go_ret
    exact ⟨rfl, hb0.out⟩
end Go.Proofs.Ytgnmkblaockghaa

/- entry.value: may a text be a value? -/
set_option linter.unusedVariables false
set_option linter.unusedSimpArgs false
namespace Go.Proofs.Ytgnmkblaockghaa
open Go.RowKit Go.Proofs.YtgnmkblaockghaaW.PrintWords Go.Proofs.YtgnmkblaockghaaW.PrintMore Go.Proofs.YtgnmkblaockghaaW.PrintLast

/-- May a text be a value? -/
def valOk (s : ByteArray) : Bool := decide (1 ≤ (s.size : Int)) && decide ((s.size : Int) ≤ 2048)
set_option maxRecDepth 8000 in
theorem evalue_calls (s : ByteArray) (w : World) : Calls Try.prog 53 #[.string s] w fun e w' => e = .returned (.bool (valOk s)) ∧ w = w' := by
  unfold valOk
  cases h1 : decide (1 ≤ (s.size : Int)) <;> cases h2 : decide ((s.size : Int) ≤ 2048)
  all_goals
    go_enter Try.func53, Try.ntmps53
    go_wp2_with fail
    go_ret
    exact ⟨rfl, rfl⟩
end Go.Proofs.Ytgnmkblaockghaa
