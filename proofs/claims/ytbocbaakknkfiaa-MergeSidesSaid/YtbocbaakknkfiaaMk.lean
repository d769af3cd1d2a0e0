/- merge.pick: the side that counts. -/
import Derived.Test.YtbocbaakknkfiaaMj
set_option linter.unusedVariables false
set_option linter.unusedSimpArgs false
namespace Go.Proofs.Ytbocbaakknkfiaa
open Go.RowKit Go.Shelf Go.Proofs.YtbocbaakknkfiaaW.PrintWords Go.Proofs.YtbocbaakknkfiaaW.PrintMore Go.Proofs.YtbocbaakknkfiaaW.PrintLast

/-- Is it the first side's? -/
def takesA (base a b : Fld) : Bool := !T a base && T b base
/-- Is a field in dispute? -/
def dispF (base a b : Fld) : Bool := !T a base && !T b base && !T a b
/-- What may be turned where a field is in dispute. -/
def Turned (w : World) (B : Nat) (v : Value) (xs : List Int) (w' : World) : Prop := ∃ v', Disp w' B v' xs ∧ (v'.ownBlock = v.ownBlock ∨ ∃ b, v'.ownBlock = some b ∧ w.heap.size ≤ b) ∧ Mod (fun q => q = B ∨ some q = v.ownBlock) w w'
theorem turned_below {w w' : World} {B : Nat} {v : Value} {xs : List Int} (h : Disp w B v xs) (hb : Below w.heap.size w w') : Turned w B v xs w' := ⟨v, h.below hb, .inl rfl, Mod.of_below hb⟩
theorem turned_after {w w1 w' : World} {B : Nat} {v : Value} {xs : List Int} (hb : Below w.heap.size w w1) (h : Turned w1 B v xs w') : Turned w B v xs w' := by
  obtain ⟨v', h1, h2, h3⟩ := h
  exact ⟨v', h1, h2.imp id (fun ⟨b, e, hb2⟩ => ⟨b, e, Nat.le_trans hb.size hb2⟩), (Mod.of_below (S := fun q => q = B ∨ some q = v.ownBlock) hb).trans h3 (fun q hq => .inl hq)⟩
set_option maxHeartbeats 1000000 in
theorem pick_calls (B fb : Nat) (f : Int) (v : Value) (xs : List Int) (A0 A1 A2 : Option Addr) (c0 c1 c2 : Nat) (base a b : Fld) (w : World) (hD : Disp w B v xs) (hf : w.cell? ⟨fb, 0, none⟩ = some (.int .i64 f)) (hx : xs.length ≤ 900)
    (h0 : st.C w A0 base.length base) (h1 : st.C w A1 a.length a) (h2 : st.C w A2 b.length b) (la : a.length ≤ 1000) (lb : b.length ≤ 1000) :
    Calls Try.prog 24 #[.slice A0 base.length c0, .slice A1 a.length c1, .slice A2 b.length c2, .func (.func 25) #[] #[], .func (.func 26) #[] #[.pointer (some ⟨B, 0, none⟩), .pointer (some ⟨fb, 0, none⟩)]] w fun e w' =>
      e = .returned (if takesA base a b then .slice A1 a.length c1 else .slice A2 b.length c2) ∧ Turned w B v (if dispF base a b then xs ++ [f] else xs) w' := by
  have he := enters_of (P := Try.prog) Try.func25 (by kernel_rfl) rfl
  have he2 := enters_of (P := Try.prog) Try.func26 (by kernel_rfl) rfl
  have q1 := equal_calls A1 A0 c1 c0 a base w la h1 h0
  have q2 := fun (w' : World) (hb : Below w.heap.size w w') => equal_calls A2 A0 c2 c0 b base w' lb (Kd.C_below h2 hb) (Kd.C_below h0 hb)
  have q3 := fun (w' : World) (hb : Below w.heap.size w w') => equal_calls A1 A2 c1 c2 a b w' la (Kd.C_below h1 hb) (Kd.C_below h2 hb)
  have q4 := fun (w' : World) (hb : Below w.heap.size w w') => disp_calls B fb f v xs w' (hD.below hb) (pw_cell_below hb hf) hx
  unfold takesA dispF
  replace hD := Aside0.mk hD
  replace q2 := Aside0.mk q2
  replace q3 := Aside0.mk q3
  replace q4 := Aside0.mk q4
  clear h0 h1 h2 hf
  generalize T a base = t1 at *
  generalize T b base = t2 at *
  generalize T a b = t3 at *
  generalize a.length = na at *
  generalize b.length = nb at *
  generalize base.length = n0 at *
  replace q1 := Aside0.mk q1
  cases t1 with
  | true =>
    simp only [Bool.not_true, Bool.false_and, Bool.false_eq_true, if_false]
    go_enter Try.func24, Try.ntmps24
    go_wp2_with fail
    refine q1.out.mono ?_
    rintro e w1 ⟨rfl, hb1⟩
    have hT := Aside0.mk (turned_below hD.out hb1)
    clear q1 q2 q3 q4
    go_wp2_with fail
    go_ret
    exact ⟨rfl, hT.out⟩
  | false =>
    cases t2 with
    | true =>
      simp only [Bool.not_true, Bool.not_false, Bool.true_and, Bool.false_and, Bool.false_eq_true, if_false, if_true]
      go_enter Try.func24, Try.ntmps24
      go_wp2_with fail
      refine q1.out.mono ?_
      rintro e w1 ⟨rfl, hb1⟩
      have r2 := Aside0.mk (q2.out w1 hb1)
      have hb1 := Aside0.mk hb1
      clear q1 q2 q3 q4
      go_wp2_with fail
      refine r2.out.mono ?_
      rintro e w2 ⟨rfl, hb2⟩
      have hT := Aside0.mk (turned_below hD.out (below_then hb1.out hb1.out.size hb2))
      clear r2 hb1 hb2
      go_wp2_with fail
      go_ret
      exact ⟨rfl, hT.out⟩
    | false =>
      cases t3 with
      | true =>
        simp only [Bool.not_true, Bool.not_false, Bool.true_and, Bool.and_false, Bool.false_eq_true, if_false, if_true]
        go_enter Try.func24, Try.ntmps24
        go_wp2_with fail
        refine q1.out.mono ?_
        rintro e w1 ⟨rfl, hb1⟩
        have r2 := Aside0.mk (q2.out w1 hb1)
        have hb1 := Aside0.mk hb1
        clear q1 q2 q4
        go_wp2_with fail
        refine r2.out.mono ?_
        rintro e w2 ⟨rfl, hb2⟩
        have hb2 := below_then hb1.out hb1.out.size hb2
        have r3 := Aside0.mk (q3.out w2 hb2)
        have hb2 := Aside0.mk hb2
        clear r2 q3 hb1
        go_wp2_with fail
        refine r3.out.mono ?_
        rintro e w3 ⟨rfl, hb3⟩
        have hT := Aside0.mk (turned_below hD.out (below_then hb2.out hb2.out.size hb3))
        clear r3 hb2 hb3
        go_wp2_with fail
        go_ret
        exact ⟨rfl, hT.out⟩
      | false =>
        simp only [Bool.not_true, Bool.not_false, Bool.true_and, Bool.and_false, Bool.and_true, Bool.false_eq_true, if_false, if_true]
        go_enter Try.func24, Try.ntmps24
        go_wp2_with fail
        refine q1.out.mono ?_
        rintro e w1 ⟨rfl, hb1⟩
        have r2 := Aside0.mk (q2.out w1 hb1)
        have hb1 := Aside0.mk hb1
        clear q1 q2
        go_wp2_with fail
        refine r2.out.mono ?_
        rintro e w2 ⟨rfl, hb2⟩
        have hb2 := below_then hb1.out hb1.out.size hb2
        have r3 := Aside0.mk (q3.out w2 hb2)
        have hb2 := Aside0.mk hb2
        clear r2 q3 hb1
        go_wp2_with fail
        refine r3.out.mono ?_
        rintro e w3 ⟨rfl, hb3⟩
        have hb3 := below_then hb2.out hb2.out.size hb3
        have r4 := Aside0.mk (q4.out w3 hb3)
        have hb3 := Aside0.mk hb3
        clear r3 q4 hb2
        go_wp2_with fail
        refine r4.out.mono ?_
        rintro e w4 ⟨rfl, hT⟩
        have hT := Aside0.mk (turned_after hb3.out (show Turned w3 B v (xs ++ [f]) w4 from hT))
        clear r4 hb3
        go_wp2_with fail
        go_ret
        exact ⟨rfl, hT.out⟩
end Go.Proofs.Ytbocbaakknkfiaa
