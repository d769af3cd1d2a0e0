/- filter.Means. -/
import Derived.Test.YtgnmkblaockghaaQFj
set_option linter.unusedVariables false
set_option linter.unusedSimpArgs false
namespace Go.Proofs.Ytgnmkblaockghaa
open Go.RowKit Go.Shelf Go.Proofs.YtgnmkblaockghaaW.PrintWords Go.Proofs.YtgnmkblaockghaaW.PrintMore Go.Proofs.YtgnmkblaockghaaW.PrintLast

/-- More attributes: their names, or that they may not be. -/
noncomputable def moreOk (names : List ByteArray) : List At → Option (List ByteArray)
  | [] => some names
  | a :: l => if (entOk [a] && !amongS names a.f0) = true then moreOk (a.f0 :: names) l else none
theorem moreOk_drop (names : List ByteArray) (l : List At) (k : Nat) (h : k < l.length) : moreOk names (l.drop k) = if (entOk [l[k]] && !amongS names l[k].f0) = true then moreOk (l[k].f0 :: names) (l.drop (k + 1)) else none := by
  rw [List.drop_eq_getElem_cons h, moreOk]
/-- What Means answers. -/
noncomputable def meansR (x : Ft) (le lm : List At) : Bool × Int :=
  match moreOk [] lm with
  | none => (false, 2)
  | some names => if (rightF x && entOk le) = true then (meansT (getF names lm le) x, 0) else (false, 2)
theorem kA_one {w : World} {g : Nat} {a : At} {A : Option Addr} {c : Nat} (h : w.heap[g]? = some (.cells #[.string a.f0, .slice A a.f1.length c] 47 (0, 0))) (hc : a.f1.length ≤ c) (hC : st.C w A a.f1.length a.f1) : kA.C w (some ⟨g, 0, none⟩) 1 [a] :=
  C_block (d := kA) h [a] (by simp) (fun j hj => by
    obtain rfl : j = 0 := by simp at hj; omega
    exact ⟨[.string a.f0, .slice A a.f1.length c], rfl, PFilterBounds.k47_mk w a hc hC, fun i u hi => by
      match i, hi with
      | 0, hi => exact hi
      | 1, hi => exact hi⟩)
set_option maxRecDepth 20000 in
set_option maxHeartbeats 4000000 in
theorem Means_calls (x : Ft) (A : Option Addr) (c : Nat) (le lm : List At) (Ae Am : Option Addr) (ce cm : Nat) (w : World) (hv : Fv w x A c) (hw : wF x ≤ 12000) (he : MildE le) (hm : MildE lm) (hCe : kA.C w Ae le.length le) (hCm : kA.C w Am lm.length lm) :
    Calls Try.prog 13 #[fv x A c, .slice Ae le.length ce, .slice Am lm.length cm] w fun e w' => e = .returned (.tuple #[.bool (meansR x le lm).1, .int .i64 (meansR x le lm).2]) ∧ Below w.heap.size w w' := by
  have hmm := @run_makeMap Try.prog
  have hmf : ∀ (fn : Fn) (first cap : Array Value) (w : World), (Instr.makeFunc fn first cap).run Try.prog w = .ok (.func fn first cap) w := fun _ _ _ _ => rfl
  obtain ⟨V, hV⟩ : ∃ V, w.heap.size = V := ⟨_, rfl⟩
  obtain ⟨w1, hw1⟩ : ∃ w1, w.alloc (.cells #[.int .i64 x.f0, .slice A x.f1.length c, .string x.f2, .string x.f3] 25) = w1 := ⟨_, rfl⟩
  obtain ⟨EB, hEB⟩ : ∃ EB, w1.heap.size = EB := ⟨_, rfl⟩
  obtain ⟨w2, hw2⟩ : ∃ w2, w1.alloc (.cells #[.slice Ae le.length ce] 27) = w2 := ⟨_, rfl⟩
  obtain ⟨MB, hMB⟩ : ∃ MB, w2.heap.size = MB := ⟨_, rfl⟩
  obtain ⟨w3, hw3⟩ : ∃ w3, w2.alloc (.cells #[.slice Am lm.length cm] 26) = w3 := ⟨_, rfl⟩
  obtain ⟨B, hB⟩ : ∃ B, w3.heap.size = B := ⟨_, rfl⟩
  obtain ⟨w4, hw4⟩ : ∃ w4, w3.alloc (.map #[] 0) = w4 := ⟨_, rfl⟩
  obtain ⟨SB, hSB⟩ : ∃ SB, w4.heap.size = SB := ⟨_, rfl⟩
  obtain ⟨w5, hw5⟩ : ∃ w5, w4.alloc (.cells #[.map (some B)] 61) = w5 := ⟨_, rfl⟩
  have b1 : Below w.heap.size w w1 := hw1 ▸ below_alloc (Below.refl w.heap.size w) _
  have b2 : Below w1.heap.size w1 w2 := hw2 ▸ below_alloc (Below.refl w1.heap.size w1) _
  have b3 : Below w2.heap.size w2 w3 := hw3 ▸ below_alloc (Below.refl w2.heap.size w2) _
  have b4 : Below w3.heap.size w3 w4 := hw4 ▸ below_alloc (Below.refl w3.heap.size w3) _
  have b5 : Below w4.heap.size w4 w5 := hw5 ▸ below_alloc (Below.refl w4.heap.size w4) _
  have s1 : EB = V + 1 := by rw [← hEB, ← hV, ← hw1]; simp
  have s2 : MB = V + 2 := by rw [← hMB, ← hw2, World.alloc, Array.size_push, hEB, s1]
  have s3 : B = V + 3 := by rw [← hB, ← hw3, World.alloc, Array.size_push, hMB, s2]
  have s4 : SB = V + 4 := by rw [← hSB, ← hw4, World.alloc, Array.size_push, hB, s3]
  have hX5 : FBox w5 V 25 (.int .i64 x.f0) (.slice A x.f1.length c) (.string x.f2) (.string x.f3) := ((((hV ▸ hw1 ▸ fbox_new w 25 _ _ _ _ : FBox w1 V 25 _ _ _ _).below b2).below b3).below b4).below b5
  have hE5 : w5.heap[EB]? = some (.cells #[.slice Ae le.length ce] 27 (0, 0)) := by
    rw [b5.block EB (by omega), b4.block EB (by omega), b3.block EB (by omega), ← hw2, ← hEB]
    exact heap_alloc_new w1 _
  have hM5 : w5.heap[MB]? = some (.cells #[.slice Am lm.length cm] 26 (0, 0)) := by
    rw [b5.block MB (by omega), b4.block MB (by omega), ← hw3, ← hMB]
    exact heap_alloc_new w2 _
  have hS5 : w5.heap[SB]? = some (.cells #[.map (some B)] 61 (0, 0)) := by
    rw [← hw5, ← hSB]
    exact heap_alloc_new w4 _
  have hN5 : SeenM w5 B [] := (hB ▸ hw4 ▸ SeenM.new w3 : SeenM w4 B []).below b5
  have bb5 : Below w.heap.size w w5 := below_then b1 b1.size (below_then b2 b2.size (below_then b3 b3.size (below_then b4 b4.size b5)))
  have hup := Aside0.mk (fun (W : World) (hm : Mod (fun q => q = B) w5 W) => (show Below w.heap.size w W from mod_below hm bb5 (by omega)))
  have hXk := Aside0.mk (fun (W : World) (hm : Mod (fun q => q = B) w5 W) => (hX5.mod hm (by omega)).cells)
  have hEk := Aside0.mk (fun (W : World) (hm : Mod (fun q => q = B) w5 W) => (blk_cell (hm.blk hE5 (by omega)) 0).trans (show _ = some (Value.slice Ae le.length ce) from rfl))
  have hMk := Aside0.mk (fun (W : World) (hm : Mod (fun q => q = B) w5 W) => (blk_cell (hm.blk hM5 (by omega)) 0).trans (show _ = some (Value.slice Am lm.length cm) from rfl))
  have hSk := Aside0.mk (fun (W : World) (hm : Mod (fun q => q = B) w5 W) => (blk_cell (hm.blk hS5 (by omega)) 0).trans (show _ = some (Value.map (some B)) from rfl))
  have hrefl := Aside0.mk (Mod.refl (fun q => q = B) w5)
  obtain ⟨p0, p1, p2, p3⟩ := hXk.out w5 hrefl.out
  have q0 := hMk.out w5 hrefl.out
  have hckF := Aside0.mk (fun W (hb : Below w.heap.size w W) => fcheck_calls x A c W (hv.below hb) hw)
  have hckE := Aside0.mk (fun W (hb : Below w.heap.size w W) => echeck_calls Ae ce le W he (Kd.C_below hCe hb))
  have hmns : Aside0 (∀ names W, rightF x = true → Below w.heap.size w W → Env W SB MB EB names lm le → Calls Try.prog 30 #[fv x A c, getV SB MB EB] W fun e W' => e = .returned (.bool (meansT (getF names lm le) x)) ∧ Below W.heap.size W W') := by
    refine ⟨fun names W hr hb hE => ?_⟩
    obtain ⟨mm, hmm⟩ := Option.isSome_iff_exists.1 (show (cntT 0 1 x).isSome = true from hr)
    exact means_calls (m := SB) (mo := MB) (e0 := EB) (g := getF names lm le) (E := fun W => Env W SB MB EB names lm le) ⟨fun W W' h hb => h.below hb, fun W n h hn => getter_calls SB MB EB names lm le n W h hm he hn, getF_mem hm he⟩ x (good_of_cnt x 0 1 mm hmm) hw A c W hE (hv.below hb)
  have hEnv := Aside0.mk (fun names (W : World) (hm : Mod (fun q => q = B) w5 W) (hs : SeenM W B names) => (show Env W SB MB EB names lm le from ⟨⟨B, hSk.out W hm, hs⟩, ⟨Am, cm, hMk.out W hm, Kd.C_below hCm (hup.out W hm)⟩, ⟨Ae, ce, hEk.out W hm, Kd.C_below hCe (hup.out W hm)⟩⟩))
  have hR : ∀ o, moreOk [] lm = o → meansR x le lm = match o with | none => (false, 2) | some names => if (rightF x && entOk le) = true then (meansT (getF names lm le) x, 0) else (false, 2) := by
    rintro _ rfl; rfl
  obtain ⟨R, hRe⟩ : ∃ R, meansR x le lm = R := ⟨_, rfl⟩
  rw [hRe] at hR ⊢
  have hgw : w.heap.size ≤ B := by omega
  obtain ⟨o, ho⟩ : ∃ o, moreOk [] lm = o := ⟨_, rfl⟩
  replace hR := Aside0.mk (hR o ho)
  obtain ⟨R1, R2⟩ := R
  have hlm := hm.1
  obtain ⟨N, hN⟩ : ∃ N, lm.length = N := ⟨_, rfl⟩
  have hCm' := Aside0.mk hCm
  have hCe' := Aside0.mk hCe
  rw [hN] at hw3 hMk hlm q0 hCm' ⊢
  replace hN := Aside0.mk hN
  have hm2 := Aside0.mk hm.2
  have hstart := Aside0.mk ho
  have hN5' := Aside0.mk hN5
  unfold fv at hckF hmns ⊢
  unfold getV at hmns
  generalize x.f1.length = XL at *
  generalize hEL : le.length = EL at *
  replace hEL := Aside0.mk hEL
  replace s1 := Aside0.mk s1
  replace s2 := Aside0.mk s2
  replace s3 := Aside0.mk s3
  replace s4 := Aside0.mk s4
  replace bb5 := Aside0.mk bb5
  replace hgw := Aside0.mk hgw
  replace hRe := Aside0.mk hRe
  clear hCe' hEL
  clear hCe hv hw he hm b1 b2 b3 b4 b5 hX5 hE5 hM5 hS5 hN5 ho hCm
  go_enter Try.func13, Try.ntmps13
  go_wp2_with fail
  go_loopw [14] (fun s14 wr => ∃ k names, k ≤ N ∧ s14 = .int .i64 (k : Nat) ∧ Aside0 (Mod (fun q => q = B) w5 wr) ∧ Aside0 (SeenM wr B names) ∧ Aside0 (List.length names = k) ∧ Aside0 (moreOk names (lm.drop k) = o)) (fun s14 _ => N - (intOf s14).toNat)
  case atStart => exact ⟨0, [], Nat.zero_le _, rfl, hrefl, hN5', ⟨rfl⟩, by simpa using hstart⟩
  case round =>
    clear p0 p1 p2 p3 q0 hw1 hw2 hw3 hw4 hw5 hmm
    obtain ⟨k, names, hk, rfl, hm, hsee, hlen, hmo⟩ := hrel
    by_cases hlt : k < N
    · have hkl : k < lm.length := by rw [hN.out]; exact hlt
      obtain ⟨ad, A6, c6, e, t0, t1, hc6, hC6⟩ := kA_at hCm'.out k hkl
      subst e
      have hbr := hup.out wr hm.out
      replace t0 := pw_cell_below hbr t0
      replace t1 := pw_cell_below hbr t1
      have hst := moreOk_drop names lm k hkl
      have hsz := hm2.out lm[k] (List.getElem_mem hkl)
      obtain ⟨y, hy⟩ : ∃ y, lm[k] = y := ⟨_, rfl⟩
      rw [hy] at t0 t1 hc6 hC6 hst hsz
      have hb6 := below_alloc (Below.refl wr.heap.size wr) (.cells #[.string y.f0, .slice A6 y.f1.length c6] 47)
      have hY := heap_alloc_new wr (.cells #[.string y.f0, .slice A6 y.f1.length c6] 47)
      obtain ⟨w6, hw6⟩ : ∃ w6, wr.alloc (.cells #[.string y.f0, .slice A6 y.f1.length c6] 47) = w6 := ⟨_, rfl⟩
      rw [hw6] at hb6 hY
      have hb7 := below_alloc (Below.refl w6.heap.size w6) (.cells #[.string y.f0, .slice A6 y.f1.length c6] 47)
      have hZ := heap_alloc_new w6 (.cells #[.string y.f0, .slice A6 y.f1.length c6] 47)
      obtain ⟨w7, hw7⟩ : ∃ w7, w6.alloc (.cells #[.string y.f0, .slice A6 y.f1.length c6] 47) = w7 := ⟨_, rfl⟩
      rw [hw7] at hb7 hZ
      have hb67 := below_then hb6 hb6.size hb7
      have hCy := kA_one (a := y) hZ hc6 (Kd.C_below (Kd.C_below hC6 hbr) hb67)
      have hck := Aside0.mk (echeck_calls (some ⟨w6.heap.size, 0, none⟩) 1 [y] w7 ⟨by simp, fun a ha => by
        obtain rfl : a = y := by simpa using ha
        exact hsz⟩ hCy)
      have u0 : w6.cell? ⟨wr.heap.size, 0, none⟩ = some (.string y.f0) := (blk_cell hY 0).trans rfl
      have u1 : w6.cell? ⟨wr.heap.size, 1, none⟩ = some (.slice A6 y.f1.length c6) := (blk_cell hY 1).trans rfl
      have hY7 := Aside0.mk ((hb7.block _ (blk_lt hY)).trans hY)
      have hm7 := Aside0.mk (hm.out.then_below hb67)
      have hs7 := Aside0.mk (hsee.out.below hb67)
      have hmax : y.f0.size ≤ maxLen := by unfold maxLen; omega
      have hmax' := Aside0.mk hmax
      have hen : entN [y] = if entOk [y] = true then 0 else 2 := rfl
      generalize entOk [y] = ok at *
      generalize entN [y] = nn at *
      have i1 : (0 : Int) ≤ (k : Int) := by omega
      have i2 : (k : Int) < (N : Int) := by omega
      clear hy hkl hY hZ hC6 hCy hb6 hb7 hb67 hsz hmax hbr hm
      cases ok with
      | false =>
        rw [if_neg (by simp)] at hen
        subst hen
        have hoN : o = none := by rw [← hmo.out, hst]; simp
        subst hoN
        obtain ⟨rfl, rfl⟩ : R1 = false ∧ R2 = 2 := by have := hR.out; simpa using this
        clear hst
        go_wp2_with fail
        refine hck.out.mono ?_
        rintro e w8 ⟨rfl, hb8⟩
        have hbf := Aside0.mk (hup.out w8 (hm7.out.then_below hb8))
        go_wp2_with fail
        go_ret2
        exact ⟨rfl, hbf.out⟩
      | true =>
        rw [if_pos rfl] at hen
        subst hen
        rw [Bool.true_and] at hst
        cases ham : amongS names y.f0 with
        | true =>
          have hoN : o = none := by rw [← hmo.out, hst, ham]; simp
          subst hoN
          obtain ⟨rfl, rfl⟩ : R1 = false ∧ R2 = 2 := by have := hR.out; simpa using this
          clear hst
          have ham' := Aside0.mk ham
          clear ham
          go_wp2_with fail
          refine hck.out.mono ?_
          rintro e w8 ⟨rfl, hb8⟩
          have hm8 := hm7.out.then_below hb8
          have z0 := hSk.out w8 hm8
          have z1 : w8.cell? ⟨wr.heap.size, 0, none⟩ = some (.string y.f0) := (blk_cell ((hb8.block _ (blk_lt hY7.out)).trans hY7.out) 0).trans rfl
          have z2 := (hs7.out.below hb8).look y.f0 hmax'.out
          rw [ham'.out] at z2
          have hbf := Aside0.mk (hup.out w8 hm8)
          clear hm8 hb8 u0 u1 t0 t1
          go_wp2_with fail
          go_ret2
          exact ⟨rfl, hbf.out⟩
        | false =>
          rw [ham, if_pos (by rfl)] at hst
          have hst' := Aside0.mk (hst.symm.trans hmo.out)
          have ham' := Aside0.mk ham
          clear ham hst
          go_wp2_with fail
          refine hck.out.mono ?_
          rintro e w8 ⟨rfl, hb8⟩
          have hm8 := hm7.out.then_below hb8
          have z0 := hSk.out w8 hm8
          have z1 : w8.cell? ⟨wr.heap.size, 0, none⟩ = some (.string y.f0) := (blk_cell ((hb8.block _ (blk_lt hY7.out)).trans hY7.out) 0).trans rfl
          have hs8 := hs7.out.below hb8
          have z2 := hs8.look y.f0 hmax'.out
          rw [ham'.out] at z2
          obtain ⟨w9, z3, hs9, hg9⟩ := hs8.put y.f0 hmax'.out (by rw [hlen.out]; omega)
          have hm9 := Aside0.mk (hm8.trans (Mod.of_grown (S := fun q => q = B) hg9 (fun q hq => .inl (by injection hq with hq; exact hq.symm))) (fun q hq => .inl hq))
          have hs9' := Aside0.mk hs9
          have hlen9 := Aside0.mk (show (y.f0 :: names).length = k + 1 by simp [hlen.out])
          clear hm8 hb8 u0 u1 t0 t1 hs8 hs9 hg9
          go_wp2_with fail
          go_roundw
          case rel => exact ⟨k + 1, y.f0 :: names, by omega, by go_num, hm9, hs9', hlen9, hst'⟩
          case measure => simp [intOf]; omega
    · have hkM : k = N := by omega
      subst hkM
      have hoS : o = some names := by
        have := hmo.out
        rw [List.drop_eq_nil_of_le (by rw [hN.out]; exact Nat.le_refl _), moreOk] at this
        exact this.symm
      subst hoS
      have hR' : (R1, R2) = if (rightF x && entOk le) = true then (meansT (getF names lm le) x, 0) else (false, 2) := hR.out
      have hbr := hup.out wr hm.out
      obtain ⟨p0, p1, p2, p3⟩ := hXk.out wr hm.out
      have hf := Aside0.mk (hckF.out wr hbr)
      have hfn : checkN x = if rightF x = true then 0 else 2 := rfl
      have hcn : entN le = if entOk le = true then 0 else 2 := rfl
      have hmq := hmns.out names
      generalize hrf : rightF x = rf at *
      generalize entOk le = ok at *
      generalize checkN x = nf at *
      generalize hne : entN le = ne at *
      clear hRe hbr hR hlen hmo
      cases rf with
      | false =>
        rw [if_neg (by simp)] at hfn hR'
        subst hfn
        obtain ⟨rfl, rfl⟩ : R1 = false ∧ R2 = 2 := by simpa using hR'
        clear hR' hmq
        go_wp2_with fail
        refine hf.out.mono ?_
        rintro e w6 ⟨rfl, hb6⟩
        have hbf := Aside0.mk (hup.out w6 (hm.out.then_below hb6))
        go_wp2_with fail
        go_ret2
        exact ⟨rfl, hbf.out⟩
      | true =>
        rw [if_pos rfl] at hfn
        subst hfn
        cases ok with
        | false =>
          rw [if_neg (by simp)] at hcn hR'
          subst hcn
          obtain ⟨rfl, rfl⟩ : R1 = false ∧ R2 = 2 := by simpa using hR'
          clear hR' hmq
          go_wp2_with fail
          refine hf.out.mono ?_
          rintro e w6 ⟨rfl, hb6⟩
          have hm6 := hm.out.then_below hb6
          have z0 := hEk.out w6 hm6
          have hbf := Aside0.mk (hup.out w6 hm6)
          have hc := Aside0.mk (hckE.out w6 hbf.out)
          replace hm6 := Aside0.mk hm6
          clear p0 p1 p2 p3 hb6
          go_wp2_with fail
          refine hc.out.mono ?_
          rintro e w7 ⟨rfl, hb7⟩
          replace hbf := Aside0.mk (below_then hbf.out hbf.out.size hb7)
          go_wp2_with fail
          go_ret2
          exact ⟨rfl, hbf.out⟩
        | true =>
          rw [if_pos rfl] at hcn
          rw [if_pos (by rfl)] at hR'
          subst hcn
          obtain ⟨rfl, rfl⟩ : R1 = meansT (getF names lm le) x ∧ R2 = 0 := by injection hR' with h1 h2; exact ⟨h1, h2⟩
          obtain ⟨bb, hbb⟩ : ∃ bb, meansT (getF names lm le) x = bb := ⟨_, rfl⟩
          rw [hbb] at hmq
          replace hbb := Aside0.mk hbb
          replace hmq := Aside0.mk hmq
          clear hR'
          go_wp2_with fail
          refine hf.out.mono ?_
          rintro e w6 ⟨rfl, hb6⟩
          have hm6 := hm.out.then_below hb6
          have z0 := hEk.out w6 hm6
          have hbf := Aside0.mk (hup.out w6 hm6)
          have hc := Aside0.mk (hckE.out w6 hbf.out)
          have hs6 := Aside0.mk (hsee.out.below hb6)
          replace hm6 := Aside0.mk hm6
          clear p0 p1 p2 p3 hb6
          go_wp2_with fail
          refine hc.out.mono ?_
          rintro e w7 ⟨rfl, hb7⟩
          have hm7 := hm6.out.then_below hb7
          obtain ⟨p0, p1, p2, p3⟩ := hXk.out w7 hm7
          have hcm := Aside0.mk (hmq.out w7 trivial (hup.out w7 hm7) (hEnv.out names w7 hm7 (hs6.out.below hb7)))
          replace hbf := Aside0.mk (below_then hbf.out hbf.out.size hb7)
          clear hb7 hm7 hc z0
          go_wp2_with fail
          refine hcm.out.mono ?_
          rintro e w8 ⟨rfl, hb8⟩
          replace hbf := Aside0.mk (below_then hbf.out hbf.out.size hb8)
          go_wp2_with fail
          go_ret2
          exact ⟨by rw [hbb.out]; rfl, hbf.out⟩
end Go.Proofs.Ytgnmkblaockghaa
