/- The walk of BerCuts. -/
import Derived.Test.YtlmelbnmfhpacaaBl
set_option linter.unusedVariables false
set_option linter.unusedSimpArgs false
namespace Go.Proofs.Ytlmelbnmfhpacaa
open Go.RowKit Go.Shelf Go.Proofs.YtlmelbnmfhpacaaW.PrintWords Go.Proofs.YtlmelbnmfhpacaaW.PrintMore Go.Proofs.YtlmelbnmfhpacaaW.PrintLast

/-- A proper part ahead of a value's bytes is none's. -/
theorem cut_err (x : T) (cz : checkN x = 0) (hb : byteT x) (k : Nat) (hk : k < (layT x).length) : decF ((layT x).take k) = .error 151 := by
  obtain ⟨ha, hd, hz⟩ := check_zero cz
  have hl := sizeT_lay x ha
  have hby := lay_bytes x ha hb (by omega)
  have hlen : ((layT x).take k).length = k := by rw [List.length_take]; omega
  unfold decF
  rw [if_neg (by omega)]
  obtain ⟨x0, x1, x2, xb, xs⟩ := x
  obtain ⟨body, hbody⟩ : ∃ body, (if x2 then layL xs else xb) = body := ⟨_, rfl⟩
  have hlay : layT ⟨x0, x1, x2, xb, xs⟩ = (64 * x0 + x1 + (if x2 then 32 else 0)) :: (lenL body.length ++ body) := by rw [← hbody]; rfl
  rw [hlay] at hk hby hl hlen ⊢
  have ha' : ((decide (x0 ≤ 3) && decide (x1 ≤ 30) && (!x2 || xb.isEmpty) && (x2 || xs.isEmpty)) && argL xs) = true := ha
  simp only [Bool.and_eq_true, decide_eq_true_eq] at ha'
  obtain ⟨⟨⟨⟨h0, h1⟩, _⟩, _⟩, _⟩ := ha'
  obtain ⟨hy0, hy1, _⟩ := hb
  match k, hk with
  | 0, _ => rfl
  | k + 1, hk =>
    simp only [List.take_succ_cons, List.length_cons] at hk hlen ⊢
    obtain ⟨q, hq⟩ : ∃ q, (lenL body.length ++ body).take k = q := ⟨_, rfl⟩
    rw [hq] at hlen ⊢
    have hql : q.length = k := by omega
    have hqt : lenL body.length ++ body = q ++ (lenL body.length ++ body).drop k := by rw [← hq, List.take_append_drop]
    have hqb : ∀ y ∈ q, 0 ≤ y := fun y hy => (hby y (List.mem_cons_of_mem _ (by rw [← hq] at hy; exact List.mem_of_mem_take hy))).1
    have hv : valF 16 ((64 * x0 + x1 + (if x2 then 32 else 0)) :: q) = .error 151 := by
      have ht : ¬ 30 < (64 * x0 + x1 + (if x2 then (32 : Int) else 0)) % 32 := by split <;> omega
      rw [valF, if_neg ht]
      cases hlf : lenF q with
      | none => rfl
      | some r =>
        obtain ⟨n, m⟩ := r
        obtain ⟨e1, e2, e3⟩ := lenF_ext q ((lenL body.length ++ body).drop k) n m hqb hlf
        rw [← hqt] at e1
        have hbl : body.length ≤ 10000000 := by simp only [List.length_cons, List.length_append] at hl; omega
        rw [lenF_lay body.length hbl body] at e1
        injection e1 with e1
        injection e1 with e1 e4
        have h5 : ((q.drop m).length : Int) < n := by
          rw [List.length_drop]
          simp only [List.length_append] at hk
          omega
        simp only
        rw [if_pos h5]
    rw [hv]
/-- With a byte behind it is none's. -/
theorem more_err (x : T) (cz : checkN x = 0) (hb : byteT x) (y : Int) : decF (layT x ++ [y]) = .error (if (layT x).length = 65536 then 3 else 151) := by
  obtain ⟨ha, hd, hz⟩ := check_zero cz
  have hl := sizeT_lay x ha
  have hv := val_lay x 1 15 [y] rfl ha hd hb (by omega)
  unfold decF
  by_cases c : (layT x).length = 65536
  · rw [if_pos c, if_pos (by simp; omega)]
  · rw [if_neg c, if_neg (by simp; omega), hv]
    rfl
set_option maxHeartbeats 16000000 in
theorem cuts_walk (x : T) (at_ : Int) (y : Int) (A : Option Addr) (c : Nat) (B : Option Addr) (d : Nat) (w : World) (hv : Bv w x A c B d) (hx : byteT x) (hat : -9223372036854775808 ≤ at_ ∧ at_ ≤ 9223372036854775807) (hy : 0 ≤ y ∧ y < 256) :
    Calls Try.prog 5 #[.agg #[.int .u8 x.f0, .int .u8 x.f1, .bool x.f2, .slice A x.f3.length c, .slice B x.f4.length d], .int .i64 at_, .int .u8 y] w fun e w' => e = .returned (.bool true) ∧ Below w.heap.size w w' := by
  have hX1 := box_new w (.int .u8 x.f0) (.int .u8 x.f1) (.bool x.f2) (.slice A x.f3.length c) (.slice B x.f4.length d)
  have hb1 := below_alloc (Below.refl w.heap.size w) (.cells #[.int .u8 x.f0, .int .u8 x.f1, .bool x.f2, .slice A x.f3.length c, .slice B x.f4.length d] 26)
  obtain ⟨w1, hw1⟩ : ∃ w1, w.alloc (.cells #[.int .u8 x.f0, .int .u8 x.f1, .bool x.f2, .slice A x.f3.length c, .slice B x.f4.length d] 26) = w1 := ⟨_, rfl⟩
  obtain ⟨V, hV⟩ : ∃ V, w.heap.size = V := ⟨_, rfl⟩
  rw [hw1] at hX1 hb1
  rw [hV] at hX1
  have hK := Aside0.mk (show ∀ W, Below w1.heap.size w1 W → (W.cell? ⟨V, 0, none⟩ = some (.int .u8 x.f0) ∧ W.cell? ⟨V, 1, none⟩ = some (.int .u8 x.f1) ∧ W.cell? ⟨V, 2, none⟩ = some (.bool x.f2) ∧ W.cell? ⟨V, 3, none⟩ = some (.slice A x.f3.length c) ∧ W.cell? ⟨V, 4, none⟩ = some (.slice B x.f4.length d)) from fun W hW => (hX1.below hW).cells)
  have hv2 := Aside0.mk (fun W (hW : Below w1.heap.size w1 W) => (hv.below hb1).below hW)
  have hb1' := Aside0.mk hb1
  have hw10 := Aside0.mk (Below.refl w1.heap.size w1)
  obtain ⟨r1, hr1, hl1⟩ := left_calls x A c B d 1000 w1 (hv2.out _ hw10.out) (by omega)
  have hl1 := Aside0.mk (show Calls Try.prog 20 #[.agg #[.int .u8 x.f0, .int .u8 x.f1, .bool x.f2, .slice A x.f3.length c, .slice B x.f4.length d], .int .i64 1000, .int .i64 1] w1 (fun e w' => e = .returned (.int .i64 r1) ∧ Below w1.heap.size w1 w') from hl1)
  obtain ⟨p0, p1, p2, p3, p4⟩ := hK.out _ hw10.out
  replace hx := Aside0.mk hx
  replace hy := Aside0.mk hy
  clear hX1 hb1 hv
  by_cases c1 : r1 < 0
  · clear hr1
    go_enter Try.func5, Try.ntmps5
    go_wp2_with fail
    refine hl1.out.mono ?_
    rintro e w2 ⟨rfl, hb⟩
    have hw2 := Aside0.mk hb
    clear hb p0 p1 p2 p3 p4
    obtain ⟨p0, p1, p2, p3, p4⟩ := hK.out _ hw2.out
    go_wp2_with fail
    refine (known_calls _).mono ?_
    rintro e w11 ⟨rfl, hb11⟩
    have hbf := Aside0.mk (below_then hb1'.out hb1'.out.size (below_then hw2.out hw2.out.size hb11))
    clear hb11
    go_wp2_with fail
    go_ret
    exact ⟨rfl, hbf.out⟩
  · have hwx := Aside0.mk (show wT x ≤ 1000 from by have := hr1.2.2 (by omega); omega)
    have i1 : decide (r1 < 0) = false := by simp; omega
    clear hr1 c1
    by_cases cx : checkN x = 0
    · have hex := Aside0.mk (fun W (hW : Below w1.heap.size w1 W) => enc_yes x A c B d W (hv2.out W hW) hx.out (by have := hwx.out; omega) cx)
      have hcut := Aside0.mk (fun k hk => cut_err x cx hx.out k hk)
      have hmore := Aside0.mk (more_err x cx hx.out y)
      have hlb : (layT x).length ≤ 65536 := by
        obtain ⟨ha, _, hz⟩ := check_zero cx
        have := sizeT_lay x ha
        omega
      have hby : Aside0 (∀ b ∈ layT x, 0 ≤ b ∧ b < 256) := by
        obtain ⟨ha, _, hz⟩ := check_zero cx
        exact ⟨lay_bytes x ha hx.out (by omega)⟩
      obtain ⟨l, hl⟩ : ∃ l, layT x = l := ⟨_, rfl⟩
      rw [hl] at hex hcut hmore hlb hby
      have hN' : ∃ N, l.length = N := ⟨_, rfl⟩
      obtain ⟨N, hN⟩ := hN'
      rw [hN] at hex hcut hmore hlb
      replace hN := Aside0.mk hN
      clear hl cx
      by_cases c2 : at_ < 0
      · skip
        go_enter Try.func5, Try.ntmps5
        go_wp2_with fail
        refine hl1.out.mono ?_
        rintro e w2 ⟨rfl, hb⟩
        have hw2 := Aside0.mk hb
        clear hb p0 p1 p2 p3 p4
        obtain ⟨p0, p1, p2, p3, p4⟩ := hK.out _ hw2.out
        go_wp2_with fail
        refine (hex.out _ hw2.out).mono ?_
        rintro e w3 ⟨A3, c3, rfl, hc3, hF3, hb⟩
        have hw3 := Aside0.mk (below_then hw2.out hw2.out.size hb)
        clear hb p0 p1 p2 p3 p4
        clear hc3 hF3
        go_wp2_with fail
        refine (known_calls _).mono ?_
        rintro e w11 ⟨rfl, hb11⟩
        have hbf := Aside0.mk (below_then hb1'.out hb1'.out.size (below_then hw3.out hw3.out.size hb11))
        clear hb11
        go_wp2_with fail
        go_ret
        exact ⟨rfl, hbf.out⟩
      · by_cases c3 : at_ < (N : Int)
        · obtain ⟨k, rfl⟩ := Int.eq_ofNat_of_zero_le (show 0 ≤ at_ by omega)
          have hk : k < N := by omega
          have i2 : decide ((k : Int) < 0) = false := by simp
          have i3 : decide ((N : Int) ≤ (k : Int)) = false := by simp; omega
          have i4 : (0 : Int) ≤ (k : Int) := by omega
          have hcutk := Aside0.mk (hcut.out k hk)
          clear c2 c3 hat
          go_enter Try.func5, Try.ntmps5
          go_wp2_with fail
          refine hl1.out.mono ?_
          rintro e w2 ⟨rfl, hb⟩
          have hw2 := Aside0.mk hb
          clear hb p0 p1 p2 p3 p4
          obtain ⟨p0, p1, p2, p3, p4⟩ := hK.out _ hw2.out
          go_wp2_with fail
          refine (hex.out _ hw2.out).mono ?_
          rintro e w3 ⟨A3, c3, rfl, hc3, hF3, hb⟩
          have hw3 := Aside0.mk (below_then hw2.out hw2.out.size hb)
          clear hb p0 p1 p2 p3 p4
          have i5 : (k : Int) ≤ (c3 : Int) := by omega
          have hpre : kU.C w3 A3 (l.take k).length (l.take k) := Kd.C_take (by rw [hN.out]; exact Kd.F_now hF3) (by rw [hN.out]; omega)
          have hd1 := decode_calls A3 c3 (l.take k) w3 hpre (by rw [List.length_take]; omega) (by rw [List.length_take]; have := hN.out; omega) (fun b hb => hby.out b (List.mem_of_mem_take hb))
          rw [hcutk.out, show (l.take k).length = k from by rw [List.length_take, hN.out]; omega] at hd1
          have hd1 := Aside0.mk (show Calls Try.prog 16 #[.slice A3 k c3] w3 (fun e w' => e = .returned (.tuple #[noV, .int .i64 151]) ∧ Below w3.heap.size w3 w') from hd1)
          have hF3 := Aside0.mk hF3
          clear hpre
          go_wp2_with fail
          refine hd1.out.mono ?_
          rintro e w4 ⟨rfl, hb4⟩
          obtain ⟨w5, w6, hw5, hw6, hX5, hX6, hb46⟩ := boxed w4 ⟨0, 0, false, [], []⟩ none 0 none 0
          dsimp only at hw6 hX6
          simp only [List.length_nil] at hw6 hX6
          obtain ⟨a0, a1, a2, a3, a4⟩ := hX5.cells
          obtain ⟨f0, f1, f2, f3, f4⟩ := hX5.free
          have hw4 := below_then hw3.out hw3.out.size hb4
          have hb36 := below_then hb4 hb4.size hb46
          have hw6' := Aside0.mk (below_then hw4 hw4.size hb46)
          have hF6 := Aside0.mk (Kd.F_below hF3.out hb36)
          have hX5 := Aside0.mk hX5
          have hX6 := Aside0.mk hX6
          have hlN : (l.length + 1) * 1 ≤ 140737488355328 := by rw [hN.out]; omega
          have hN0 : N * 1 ≤ 140737488355328 := by omega
          replace hd1 := Aside0.mk trivial
          clear hb4 hb46 hw4 hb36
          replace hw3 := Aside0.mk trivial
          go_wp2_with (first | ((with_reducible refine gate_builtin (b := .append) (xs := #[.const (.slice none 0 0), .tmp 43]) rfl ?_); at_builtin; refine Kd.R_append_rows kU (w0 := w6) 0 rfl (.const (.slice none 0 0)) (.tmp 43) 23 5 (.int .u8 0) 1 rfl Try.underlying23 PBerEncodes.info5 rfl (by decide) (by omega) (.slice none 0 0) [] l A3 N c3 (fun q => w6.heap.size ≤ q) (fun _ => False) rfl rfl (Kd.R_nil _ _ _ _ _) (Kd.F_now hF6.out) (fun _ _ h => h) (fun _ h => h.elim) (fun k hk => hk) (Below.refl _ _) (Nat.zero_le _) (by simpa using hN0) ?_; intro v1 w7 ho _ hg _; rw [List.nil_append] at ho; obtain ⟨A7, c7, ev⟩ := Kd.R_slice ho; rw [hN.out] at ev; subst ev; have ho := Aside0.mk ho; have hg7 := Aside0.mk (Mod.below (S := fun q => w6.heap.size ≤ q) (Mod.of_grown (S := fun q => w6.heap.size ≤ q) hg (fun q hq => by simp [Value.ownBlock] at hq)) (fun q hq => hq) (Nat.le_refl _)); clear hg; have hfr := Aside0.mk (show ∀ q, w7.heap.size ≤ q → w6.heap.size ≤ q from fun q hq => Nat.le_trans hg7.out.size hq)) | ((with_reducible refine gate_builtin (b := .append) (xs := #[.tmp 44, .tmp 46]) rfl ?_); at_builtin; refine Kd.R_append kU (w0 := w7) 0 rfl (.tmp 44) (.tmp 46) 23 5 (.int .u8 0) 1 rfl Try.underlying23 PBerEncodes.info5 rfl (by decide) (by omega) (.slice A7 N c7) l y [.int .u8 y] (fun q => w6.heap.size ≤ q) (fun _ => False) rfl rfl rfl (fun _ h => h.elim) (fun q hq => hfr.out q hq) ho.out (Below.refl _ _) (Nat.zero_le _) (by rw [hN.out]; omega) ?_; intro v2 w9 ho2 _ hg2 _; have hR9 := Aside0.mk ho2; have hg9 := Aside0.mk (Mod.below (S := fun q => w6.heap.size ≤ q) (Mod.trans (Mod.of_below (S := fun q => w6.heap.size ≤ q) hg7.out) (Mod.of_grown (S := fun q => w6.heap.size ≤ q) hg2 (fun q hq => .inl (ho.out.1 q hq))) (fun q hq => .inl hq)) (fun q hq => hq) (Nat.le_refl _)); clear ho2 hg2))
          replace hw5 := Aside0.mk hw5
          replace hw6 := Aside0.mk hw6
          clear a0 a1 a2 a3 a4 f0 f1 f2 f3 f4
          obtain ⟨A9, c9, ev9⟩ := Kd.R_slice hR9.out
          subst ev9
          obtain ⟨_, hl9, hC9⟩ := Kd.R_reads' hR9.out
          have hd2 := decode_calls A9 c9 (l ++ [y]) w9 hC9 hl9 (by simp; have := hN.out; omega) (fun b hb => by
            rcases List.mem_append.1 hb with h | h
            · exact hby.out b h
            · rw [List.mem_singleton.1 h]; exact hy.out)
          rw [hmore.out] at hd2
          obtain ⟨M, hM⟩ : ∃ M, (l ++ [y]).length = M := ⟨_, rfl⟩
          rw [hM] at hd2 ⊢
          have hw9 := Aside0.mk (below_then hw6'.out hw6'.out.size hg9.out)
          clear hl9 hC9 hM
          replace hmore := Aside0.mk trivial
          by_cases c4 : N = 65536
          · rw [if_pos c4] at hd2
            have hd2 := Aside0.mk (show Calls Try.prog 16 #[.slice A9 M c9] w9 (fun e w' => e = .returned (.tuple #[noV, .int .i64 3]) ∧ Below w9.heap.size w9 w') from hd2)
            have i6 : ((N : Int) == 65536) = true := by simp; omega
            clear c4
            refine hd2.out.mono ?_
            rintro e w10 ⟨rfl, hb10⟩
            obtain ⟨w11, w12, hw11, hw12, hX11, hX12, hb1012⟩ := boxed w10 ⟨0, 0, false, [], []⟩ none 0 none 0
            dsimp only at hw12 hX12
            simp only [List.length_nil] at hw12 hX12
            obtain ⟨b0, b1, b2, b3, b4⟩ := hX11.cells
            obtain ⟨g0, g1, g2, g3, g4⟩ := hX11.free
            have hw12' := Aside0.mk (below_then (below_then hw9.out hw9.out.size hb10) (below_then hw9.out hw9.out.size hb10).size hb1012)
            have hX11 := Aside0.mk hX11
            have hX12 := Aside0.mk hX12
            clear hb10 hb1012 hd2
            go_wp2_with fail
            refine (known_calls _).mono ?_
            rintro e w13 ⟨rfl, hb13⟩
            have hbf := Aside0.mk (below_then hb1'.out hb1'.out.size (below_then hw12'.out hw12'.out.size hb13))
            clear hb13
            go_wp2_with fail
            go_ret
            exact ⟨rfl, hbf.out⟩
          · rw [if_neg c4] at hd2
            have hd2 := Aside0.mk (show Calls Try.prog 16 #[.slice A9 M c9] w9 (fun e w' => e = .returned (.tuple #[noV, .int .i64 151]) ∧ Below w9.heap.size w9 w') from hd2)
            clear c4
            refine hd2.out.mono ?_
            rintro e w10 ⟨rfl, hb10⟩
            obtain ⟨w11, w12, hw11, hw12, hX11, hX12, hb1012⟩ := boxed w10 ⟨0, 0, false, [], []⟩ none 0 none 0
            dsimp only at hw12 hX12
            simp only [List.length_nil] at hw12 hX12
            obtain ⟨b0, b1, b2, b3, b4⟩ := hX11.cells
            obtain ⟨g0, g1, g2, g3, g4⟩ := hX11.free
            have hw12' := Aside0.mk (below_then (below_then hw9.out hw9.out.size hb10) (below_then hw9.out hw9.out.size hb10).size hb1012)
            have hX11 := Aside0.mk hX11
            have hX12 := Aside0.mk hX12
            clear hb10 hb1012 hd2
            go_wp2_with fail
            refine (known_calls _).mono ?_
            rintro e w13 ⟨rfl, hb13⟩
            have hbf := Aside0.mk (below_then hb1'.out hb1'.out.size (below_then hw12'.out hw12'.out.size hb13))
            clear hb13
            go_wp2_with fail
            go_ret
            exact ⟨rfl, hbf.out⟩
        · have i3 : decide ((N : Int) ≤ at_) = true := by simp; omega
          have i2 : decide (at_ < 0) = false := by simp; omega
          clear c2 c3 hat
          go_enter Try.func5, Try.ntmps5
          go_wp2_with fail
          refine hl1.out.mono ?_
          rintro e w2 ⟨rfl, hb⟩
          have hw2 := Aside0.mk hb
          clear hb p0 p1 p2 p3 p4
          obtain ⟨p0, p1, p2, p3, p4⟩ := hK.out _ hw2.out
          go_wp2_with fail
          refine (hex.out _ hw2.out).mono ?_
          rintro e w3 ⟨A3, c3, rfl, hc3, hF3, hb⟩
          have hw3 := Aside0.mk (below_then hw2.out hw2.out.size hb)
          clear hb p0 p1 p2 p3 p4
          clear hc3 hF3
          go_wp2_with fail
          refine (known_calls _).mono ?_
          rintro e w11 ⟨rfl, hb11⟩
          have hbf := Aside0.mk (below_then hb1'.out hb1'.out.size (below_then hw3.out hw3.out.size hb11))
          clear hb11
          go_wp2_with fail
          go_ret
          exact ⟨rfl, hbf.out⟩
    · have hex := Aside0.mk (fun W (hW : Below w1.heap.size w1 W) => enc_no x A c B d W (hv2.out W hW) hx.out (by have := hwx.out; omega) cx)
      obtain ⟨N, hN⟩ : ∃ N, checkN x = N := ⟨_, rfl⟩
      rw [hN] at hex cx
      have hN0 : (N != 0) = true := by simpa using cx
      have hN1 : (N == 0) = false := by simpa using cx
      clear cx hN
      go_enter Try.func5, Try.ntmps5
      go_wp2_with fail
      refine hl1.out.mono ?_
      rintro e w2 ⟨rfl, hb⟩
      have hw2 := Aside0.mk hb
      clear hb p0 p1 p2 p3 p4
      obtain ⟨p0, p1, p2, p3, p4⟩ := hK.out _ hw2.out
      go_wp2_with fail
      refine (hex.out _ hw2.out).mono ?_
      rintro e w3 ⟨rfl, hb⟩
      have hw3 := Aside0.mk (below_then hw2.out hw2.out.size hb)
      clear hb p0 p1 p2 p3 p4
      go_wp2_with fail
      refine (known_calls _).mono ?_
      rintro e w11 ⟨rfl, hb11⟩
      have hbf := Aside0.mk (below_then hb1'.out hb1'.out.size (below_then hw3.out hw3.out.size hb11))
      clear hb11
      go_wp2_with fail
      go_ret
      exact ⟨rfl, hbf.out⟩
end Go.Proofs.Ytlmelbnmfhpacaa
