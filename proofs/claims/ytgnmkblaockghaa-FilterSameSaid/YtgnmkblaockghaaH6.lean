/- The walk of FilterSame. -/
import Derived.Test.YtgnmkblaockghaaHd
import Derived.Test.YtgnmkblaockghaaJi
set_option linter.unusedVariables false
set_option linter.unusedSimpArgs false
namespace Go.Proofs.Ytgnmkblaockghaa
open Go.RowKit Go.Shelf Go.Proofs.YtgnmkblaockghaaW.PrintWords Go.Proofs.YtgnmkblaockghaaW.PrintMore Go.Proofs.YtgnmkblaockghaaW.PrintLast

theorem sameT_refl (x : Ft) : sameT x x = true := by
  refine filtInd (P := fun x => sameT x x = true) (fun k l s v ih => ?_) x
  have hL : ∀ l : List Ft, (∀ x ∈ l, sameT x x = true) → sameL l l = true := by
    intro l
    induction l with
    | nil => intro _; rw [sameL]
    | cons y ys ihy => intro h; rw [sameL, h y List.mem_cons_self, ihy (fun z hz => h z (List.mem_cons_of_mem _ hz))]; rfl
  rw [sameT, hL l ih]
  simp
theorem sameT_symm (x : Ft) : ∀ y, sameT x y = sameT y x := by
  refine filtInd (P := fun x => ∀ y, sameT x y = sameT y x) (fun k l s v ih => ?_) x
  have hL : ∀ (l : List Ft), (∀ x ∈ l, ∀ y, sameT x y = sameT y x) → ∀ m, sameL l m = sameL m l := by
    intro l
    induction l with
    | nil => intro _ m; cases m with
      | nil => rfl
      | cons z zs => rw [sameL, sameL]
    | cons y ys ihy =>
      intro h m
      cases m with
      | nil => rw [sameL, sameL]
      | cons z zs => rw [sameL, sameL, h y List.mem_cons_self z, ihy (fun q hq => h q (List.mem_cons_of_mem _ hq)) zs]
  intro y
  obtain ⟨k2, l2, s2, v2⟩ := y
  rw [sameT, sameT, hL l ih l2]
  have e : ∀ (a b : List UInt8), (a == b) = (b == a) := fun a b => by rw [Bool.eq_iff_iff, beq_iff_eq, beq_iff_eq]; exact eq_comm
  have e2 : (k == k2) = (k2 == k) := by rw [Bool.eq_iff_iff, beq_iff_eq, beq_iff_eq]; exact eq_comm
  show ((k == k2) && (((small s).toList == (small s2).toList) && ((v.toList == v2.toList) && sameL l2 l))) = _
  rw [e2, e (small s).toList, e v.toList]
set_option maxRecDepth 20000 in
set_option maxHeartbeats 8000000 in
theorem filterSame_walk (a b : Ft) (A : Option Addr) (c : Nat) (A' : Option Addr) (c' : Nat) (w : World) (hv : Fv w a A c) (hu : Fv w b A' c') :
    Calls Try.prog 8 #[fv a A c, fv b A' c'] w fun e w' => e = .returned (.bool true) ∧ Below w.heap.size w w' := by
  obtain ⟨V, hV⟩ : ∃ V, w.heap.size = V := ⟨_, rfl⟩
  have hb1 := below_alloc (Below.refl w.heap.size w) (.cells #[.int .i64 a.f0, .slice A a.f1.length c, .string a.f2, .string a.f3] 25)
  have hX1 := fbox_new w 25 (.int .i64 a.f0) (.slice A a.f1.length c) (.string a.f2) (.string a.f3)
  obtain ⟨w1, hw1⟩ : ∃ w1, w.alloc (.cells #[.int .i64 a.f0, .slice A a.f1.length c, .string a.f2, .string a.f3] 25) = w1 := ⟨_, rfl⟩
  rw [hw1] at hb1 hX1
  rw [hV] at hX1
  obtain ⟨U, hU⟩ : ∃ U, w1.heap.size = U := ⟨_, rfl⟩
  have hb2 := below_alloc (Below.refl w1.heap.size w1) (.cells #[.int .i64 b.f0, .slice A' b.f1.length c', .string b.f2, .string b.f3] 25)
  have hY2 := fbox_new w1 25 (.int .i64 b.f0) (.slice A' b.f1.length c') (.string b.f2) (.string b.f3)
  obtain ⟨w2, hw2⟩ : ∃ w2, w1.alloc (.cells #[.int .i64 b.f0, .slice A' b.f1.length c', .string b.f2, .string b.f3] 25) = w2 := ⟨_, rfl⟩
  rw [hw2] at hb2 hY2
  rw [hU] at hY2
  have hX2 := hX1.below hb2
  have hbw := below_then hb1 hb1.size hb2
  -- what stands in any later world
  have hC := Aside0.mk (fun W (h : Below w2.heap.size w2 W) => And.intro (hX2.below h).cells (hY2.below h).cells)
  have hva := Aside0.mk (fun W (h : Below w2.heap.size w2 W) => (hv.below hbw).below h)
  have hvb := Aside0.mk (fun W (h : Below w2.heap.size w2 W) => (hu.below hbw).below h)
  have hz := Aside0.mk (Below.refl w2.heap.size w2)
  have hbw' := Aside0.mk (fun W (h : Below w2.heap.size w2 W) => (show Below w.heap.size w W from below_then hbw hbw.size h))
  obtain ⟨la, hla, hlia⟩ := light_calls a A c w2 (hva.out _ hz.out)
  replace hlia := Aside0.mk hlia
  have hlib := Aside0.mk (fun W (h : Below w2.heap.size w2 W) => light_calls b A' c' W (hvb.out W h))
  have hkn := Aside0.mk known_calls
  have hrs := Aside0.mk (fun W (h : Below w2.heap.size w2 W) h1 h2 => rsame_calls a b A c A' c' W (hva.out W h) (hvb.out W h) h1 h2)
  have hs1 := Aside0.mk (fun W (h : Below w2.heap.size w2 W) h1 h2 => fsame_calls a b h1 h2 A c A' c' W (hva.out W h) (hvb.out W h))
  have hs2 := Aside0.mk (fun W (h : Below w2.heap.size w2 W) h1 h2 => fsame_calls b a h2 h1 A' c' A c W (hvb.out W h) (hva.out W h))
  have hs3 := Aside0.mk (fun W (h : Below w2.heap.size w2 W) h1 => fsame_calls a a h1 h1 A c A c W (hva.out W h) (hva.out W h))
  have hsy := sameT_symm b a
  have hre := sameT_refl a
  rw [hsy] at hs2
  rw [hre] at hs3
  generalize sameT a b = r at *
  obtain ⟨⟨p0, p1, p2, p3⟩, q0, q1, q2, q3⟩ := hC.out _ hz.out
  replace hla := Aside0.mk hla
  unfold fv at hlia hlib hrs hs1 hs2 hs3 ⊢
  clear hX1 hX2 hY2 hb1 hb2 hv hu hbw hsy hre
  cases la with
  | false =>
    go_enter Try.func8, Try.ntmps8
    go_wp2_with fail
    refine hlia.out.mono ?_
    rintro e w3 ⟨rfl, hb3⟩
    have hbx := Aside0.mk (hbw'.out w3 hb3)
    go_wp2_with fail
    refine (hkn.out w3).mono ?_
    rintro e w4 ⟨rfl, hb4⟩
    replace hbx := Aside0.mk (below_then hbx.out hbx.out.size hb4)
    go_wp2_with fail
    go_ret
    exact ⟨rfl, hbx.out⟩
  | true =>
    have hwa : wF a ≤ 12000 := by have := hla.out rfl; omega
    replace hwa := Aside0.mk hwa
    go_enter Try.func8, Try.ntmps8
    go_wp2_with fail
    refine hlia.out.mono ?_
    rintro e w3 ⟨rfl, hb3⟩
    obtain ⟨⟨a0, a1, a2, a3⟩, b0, b1, b2, b3⟩ := hC.out w3 hb3
    obtain ⟨lb, hlb, hli⟩ := hlib.out w3 hb3
    replace hli := Aside0.mk hli
    replace hlb := Aside0.mk hlb
    replace hb3 := Aside0.mk hb3
    clear p0 p1 p2 p3 q0 q1 q2 q3
    cases lb with
    | false =>
      go_wp2_with fail
      refine hli.out.mono ?_
      rintro e w4 ⟨rfl, hb4⟩
      have hbx := Aside0.mk (hbw'.out w4 (below_then hb3.out hb3.out.size hb4))
      go_wp2_with fail
      refine (hkn.out w4).mono ?_
      rintro e w5 ⟨rfl, hb5⟩
      replace hbx := Aside0.mk (below_then hbx.out hbx.out.size hb5)
      go_wp2_with fail
      go_ret
      exact ⟨rfl, hbx.out⟩
    | true =>
      have hwb : wF b ≤ 12000 := by have := hlb.out rfl; omega
      replace hwb := Aside0.mk hwb
      go_wp2_with fail
      refine hli.out.mono ?_
      rintro e w4 ⟨rfl, hb4⟩
      have hb4 := Aside0.mk (below_then hb3.out hb3.out.size hb4)
      obtain ⟨⟨p0, p1, p2, p3⟩, q0, q1, q2, q3⟩ := hC.out w4 hb4.out
      clear a0 a1 a2 a3 b0 b1 b2 b3
      go_wp2_with fail
      refine (hrs.out w4 hb4.out hwa.out hwb.out).mono ?_
      rintro e w5 ⟨rfl, hb5⟩
      have hb5 := Aside0.mk (below_then hb4.out hb4.out.size hb5)
      obtain ⟨⟨a0, a1, a2, a3⟩, b0, b1, b2, b3⟩ := hC.out w5 hb5.out
      clear p0 p1 p2 p3 q0 q1 q2 q3
      go_wp2_with fail
      refine (hs1.out w5 hb5.out hwa.out hwb.out).mono ?_
      rintro e w6 ⟨rfl, hb6⟩
      have hb6 := Aside0.mk (below_then hb5.out hb5.out.size hb6)
      obtain ⟨⟨p0, p1, p2, p3⟩, q0, q1, q2, q3⟩ := hC.out w6 hb6.out
      clear a0 a1 a2 a3 b0 b1 b2 b3
      go_wp2_with fail
      refine (hs2.out w6 hb6.out hwa.out hwb.out).mono ?_
      rintro e w7 ⟨rfl, hb7⟩
      have hb7 := Aside0.mk (below_then hb6.out hb6.out.size hb7)
      obtain ⟨⟨a0, a1, a2, a3⟩, b0, b1, b2, b3⟩ := hC.out w7 hb7.out
      clear p0 p1 p2 p3 q0 q1 q2 q3
      go_wp2_with fail
      refine (hs3.out w7 hb7.out hwa.out).mono ?_
      rintro e w8 ⟨rfl, hb8⟩
      have hb8 := Aside0.mk (below_then hb7.out hb7.out.size hb8)
      have hbx := Aside0.mk (hbw'.out w8 hb8.out)
      go_wp2_with fail
      refine (hkn.out w8).mono ?_
      rintro e w9 ⟨rfl, hb9⟩
      replace hbx := Aside0.mk (below_then hbx.out hbx.out.size hb9)
      go_wp2_with fail
      go_ret
      exact ⟨rfl, hbx.out⟩
end Go.Proofs.Ytgnmkblaockghaa
namespace Go.Proofs.Ytgnmkblaockghaa
open Go.RowKit Go.Deep Go.ChangeShapes Go.WideShapes Go.Proofs.YtgnmkblaockghaaW.PrintWords Go.Proofs.YtgnmkblaockghaaW.PrintMore
set_option maxRecDepth 8000 in
/-- FilterSame, behind what came in. -/
theorem filterSame_row (W : World) (v : Value) (x : Ft) (hK : kF.K W x v.cells.toList) (hG : byteF x) (hv : Value.okWide Try.prog W .any 0 25 v) (v' : Value) (x' : Ft) (hK' : kF.K W x' v'.cells.toList) (hG' : byteF x') (hv' : Value.okWide Try.prog W .any 0 25 v') :
    Calls Try.prog 8 #[v, v'] W fun e w' => e = .returned (.bool true) ∧ Below W.heap.size W w' := by
  obtain ⟨A, c, rfl, hb⟩ := filt_of hK hv
  obtain ⟨A', c', rfl, hb'⟩ := filt_of hK' hv'
  exact filterSame_walk x x' A c A' c' W hb hb'
end Go.Proofs.Ytgnmkblaockghaa
