/- The reader's value. -/
import Derived.Test.YtlmelbnmfhpacaaGe
import Derived.IntWalk
set_option linter.unusedVariables false
set_option linter.unusedSimpArgs false
namespace Go.Proofs.Ytlmelbnmfhpacaa
open Go.RowKit Go.Shelf Go.Proofs.YtlmelbnmfhpacaaW.PrintWords Go.Proofs.YtlmelbnmfhpacaaW.PrintMore Go.Proofs.YtlmelbnmfhpacaaW.PrintLast

/-- What the reader's value ends in. -/
def ValEnds (o : Except Int (T × List Int)) (R : Nat) (ok : Nat → Prop) (w : World) (e : Ending) (w' : World) : Prop :=
  (match o with
   | .error k => e = stopE k
   | .ok r => ∃ A c B d A' c', e = .returned (bv r.1 A c B d) ∧ BvF w' (fun q => w.heap.size ≤ q) r.1 A c B d ∧ Rd w' R ok r.2 A' c') ∧ Mod (fun q => q = R) w w'
theorem and31 : ∀ t : Fin 256, bits .and .u8 (t.val : Int) 31 = (t.val : Int) % 32 := by decide +kernel
theorem and32 : ∀ t : Fin 256, bits .and .u8 (t.val : Int) 32 = if (t.val : Int) / 32 % 2 = 0 then 0 else 32 := by decide +kernel
theorem tag31 (t : Int) (t0 : 0 ≤ t) (t1 : t < 256) : bits .and .u8 t 31 = t % 32 := by
  have := and31 ⟨t.toNat, by omega⟩
  simpa [Int.toNat_of_nonneg t0] using this
theorem tag32 (t : Int) (t0 : 0 ≤ t) (t1 : t < 256) : bits .and .u8 t 32 = if t / 32 % 2 = 0 then 0 else 32 := by
  have := and32 ⟨t.toNat, by omega⟩
  simpa [Int.toNat_of_nonneg t0] using this
/-- How much is left to a reader, told by the memory. -/
def leftAt (R : Nat) (w : World) : Nat := match w.heap[R]? with | some (Obj.cells cs _ _) => (match cs[0]? with | some (Value.slice _ n _) => n | _ => 0) | _ => 0
theorem leftAt_rd {w : World} {R : Nat} {ok : Nat → Prop} {l : List Int} {A : Option Addr} {c : Nat} (h : Rd w R ok l A c) : leftAt R w = l.length := by
  unfold leftAt
  rw [h.blk]
  rfl
/-- What is told, with some ahead. -/
def pre (xs : List T) : Except Int (List T) → Except Int (List T)
  | .error e => .error e
  | .ok ys => .ok (xs ++ ys)
theorem wrap_d (d : Nat) (h : d ≤ 16) : IntKind.i64.wrap ((d : Int) + 1) = (d : Int) + 1 := IntWalk.i64_in _ (by omega)
theorem items_nil (v : List Int → Except Int (T × List Int)) (k : Nat) : itemsF v k [] = .ok [] := by cases k <;> rfl
theorem items_err {v : List Int → Except Int (T × List Int)} {k : Nat} {q : List Int} {e : Int} (hk : q.length ≤ k) (hq : 0 < q.length) (h : v q = .error e) : itemsF v k q = .error e := by
  match k, q, hq with
  | 0, x :: l, _ => simp at hk
  | k + 1, x :: l, _ => rw [itemsF, h]
theorem items_ok {v : List Int → Except Int (T × List Int)} {k : Nat} {q : List Int} {r : T × List Int} (hk : q.length ≤ k) (hq : 0 < q.length) (h : v q = .ok r) (hr : r.2.length < q.length) : ∃ k', r.2.length ≤ k' ∧ itemsF v k q = pre [r.1] (itemsF v k' r.2) := by
  match k, q, hq with
  | 0, x :: l, _ => simp at hk
  | k + 1, x :: l, _ =>
    refine ⟨k, by omega, ?_⟩
    rw [itemsF, h]
    dsimp only
    cases itemsF v k r.2 <;> rfl
theorem pre_pre (xs ys : List T) (o : Except Int (List T)) : pre xs (pre ys o) = pre (xs ++ ys) o := by
  cases o with
  | error e => rfl
  | ok l => simp [pre]
theorem goesP_ {P : Program} {ops : Array Oper} {Q : Exit → Act → World → Prop} {oi : Oper} {N : Option Tmp} {a : Act} {w : World} {K : Act → World → Prop} {f : FuncId} (args : Array Value)
    (hw : Region.wanted oi (yielded ops a.tmps) = true) (hN : oi.dst = N) (hrun : (execOp a.eval oi).run P w = .ok (.enter f args) w)
    (h : Calls P f args w fun e w' => (∃ v, e = .returned v ∧ K (a.put N v) w') ∨ ∃ ch, e = .panicked ch ∧ Q (.panic ch) a w') : if Region.wanted oi (yielded ops a.tmps) = true then Oper.wp P oi a w K Q else K (a.put N undef) w := by
  rw [if_pos hw]
  subst hN
  unfold Oper.wp
  rw [hrun, Oper.upon_enter]
  refine h.mono fun e w'' hh => ?_
  rcases hh with ⟨v, rfl, hk⟩ | ⟨ch, rfl, hq⟩
  · exact hk
  · exact hq
set_option maxHeartbeats 4000000 in
theorem value_calls (n : Nat) : ∀ (d : Nat), d + n = 17 → ∀ (R : Nat) (ok : Nat → Prop) (l : List Int) (A : Option Addr) (c : Nat) (w : World), Rd w R ok l A c → (∀ q, ok q → q < w.heap.size) → l.length ≤ 1000000 → (∀ x ∈ l, 0 ≤ x ∧ x < 256) →
    Calls Try.prog 40 #[.pointer (some ⟨R, 0, none⟩), .int .i64 (d : Int)] w (ValEnds (valF n l) R ok w) := by
  induction n with
  | zero =>
    intro d hd R ok l A c w h hok hl hy
    obtain rfl : d = 17 := by omega
    have hb1 := Aside0.mk (below_alloc (Below.refl w.heap.size w) (.cells #[.int .u8 0, .int .u8 0, .bool false, .slice none 0 0, .slice none 0 0] 26))
    clear h hl hy hd hok
    go_enter Try.func40, Try.ntmps40
    go_wp2_with fail
    refine (must_no _ _).mono ?_
    rintro e w' ⟨rfl, rfl⟩
    go_wp2_with fail
    exact ⟨rfl, rfl, Mod.of_below hb1.out⟩
  | succ n ih =>
    intro d hd R ok l A c w h hok hl hy
    have hX := box_new w (.int .u8 0) (.int .u8 0) (.bool false) (.slice none 0 0) (.slice none 0 0)
    have hb1 := below_alloc (Below.refl w.heap.size w) (.cells #[.int .u8 0, .int .u8 0, .bool false, .slice none 0 0, .slice none 0 0] 26)
    obtain ⟨w1, hw1⟩ : ∃ w1, w.alloc (.cells #[.int .u8 0, .int .u8 0, .bool false, .slice none 0 0, .slice none 0 0] 26) = w1 := ⟨_, rfl⟩
    obtain ⟨P, hP⟩ : ∃ P, w.heap.size = P := ⟨_, rfl⟩
    rw [hw1] at hX hb1
    have h1 := h.below hb1
    have hRP : R < P := by rw [← hP]; exact h.lt
    have hz1 : w1.heap.size = P + 1 := by rw [← hw1, ← hP]; simp
    have hd16 : decide ((d : Int) ≤ 16) = true := by simp; omega
    have hX := Aside0.mk hX
    have hb1 := Aside0.mk hb1
    have hz1 := Aside0.mk hz1
    replace ih := Aside0.mk (ih (d + 1) (by omega))
    have hd17 : d ≤ 16 := by omega
    rw [hP] at hok
    replace hok := Aside0.mk hok
    clear h hd
    rw [hP] at hX
    match l, h1, hl, hy with
    | [], h1, hl, hy =>
      have ht := Aside0.mk (take_no R ok [] A c 1 w1 h1 hl (by simp))
      clear h1 ih
      go_enter Try.func40, Try.ntmps40
      go_wp2_with fail
      refine (must_yes _ _).mono ?_
      rintro e w' ⟨rfl, rfl⟩
      go_wp2_with fail
      refine ht.out.mono ?_
      rintro e w' ⟨rfl, rfl⟩
      go_wp2_with fail
      exact ⟨rfl, rfl, Mod.of_below hb1.out⟩
    | t :: l, h1, hl, hy =>
      obtain ⟨t0, t1⟩ := hy t (by simp)
      have hyl : ∀ y ∈ l, 0 ≤ y ∧ y < 256 := fun y hm => hy y (by simp [hm])
      have hll : l.length ≤ 1000000 := by simp at hl; omega
      have ht := Aside0.mk (take_yes R ok (t :: l) A c 1 w1 h1 hl (by simp))
      have hv : valF (n + 1) (t :: l) = if 30 < t % 32 then .error 151 else
        match lenF l with
        | none => .error 151
        | some r =>
          if ((l.drop r.2).length : Int) < r.1 then .error 151 else
          if t / 32 % 2 = 0 then .ok (⟨t / 64, t % 32, false, (l.drop r.2).take r.1.toNat, []⟩, (l.drop r.2).drop r.1.toNat) else
          match itemsF (valF n) r.1.toNat ((l.drop r.2).take r.1.toNat) with
          | .error e => .error e
          | .ok xs => .ok (⟨t / 64, t % 32, true, [], xs⟩, (l.drop r.2).drop r.1.toNat) := rfl
      have e31 := tag31 t t0 t1
      have e32 := tag32 t t0 t1
      have hr1 : Rd w1 R ok (t :: l) A c := h1
      clear h1 hy hl
      by_cases c0 : 30 < t % 32
      · rw [hv, if_pos c0]
        clear hv ih
        have d1 : decide (t % 32 ≤ 30) = false := by simp; omega
        go_enter Try.func40, Try.ntmps40
        go_wp2_with fail
        refine (must_yes _ _).mono ?_
        rintro e w' ⟨rfl, rfl⟩
        go_wp2_with fail
        refine ht.out.mono ?_
        rintro e w2 ⟨rfl, h2, hF, hm⟩
        obtain ⟨ad, e, p0⟩ := u8_at (Kd.F_now hF) 0 (by simp)
        subst e
        have p0' : w2.cell? ad = some (.int .u8 t) := by rw [show ad = ad.add 0 from by simp [Addr.add]]; exact p0
        have hm := Aside0.mk (Mod.trans (Mod.of_below (S := fun q => q = R) hb1.out) hm (fun q hq => .inl hq))
        clear hF p0 ht h2
        go_wp2_with fail
        refine (must_no _ _).mono ?_
        rintro e w' ⟨rfl, rfl⟩
        go_wp2_with fail
        exact ⟨rfl, rfl, hm.out⟩
      · have d1 : decide (t % 32 ≤ 30) = true := by simp; omega
        rw [if_neg c0] at hv
        replace hv := Aside0.mk hv
        have hcb : ∃ cb : Bool, (cb = false ↔ t / 32 % 2 = 0) ∧ (bits .and .u8 t 32 != 0) = cb ∧ (bits .and .u8 t 32 = if cb = true then 32 else 0) := by
          by_cases c1 : t / 32 % 2 = 0
          · refine ⟨false, by simp [c1], ?_, ?_⟩ <;> rw [e32, if_pos c1] <;> rfl
          · refine ⟨true, by simp [c1], ?_, ?_⟩ <;> rw [e32, if_neg c1] <;> rfl
        obtain ⟨cb, hcb, e33, e34⟩ := hcb
        clear e32
        cases cb with
        | false =>
          have e34 : bits .and .u8 t 32 = 0 := by simpa using e34
          have hlx := fun k m (h : lenF l = some (k, m)) => lenF_ext l [] k m (fun x hx => (hyl x hx).1) h
          have hvc := hv.out
          clear hv
          replace hcb := Aside0.mk hcb
          rcases hlo : lenF l with _ | ⟨k, m⟩
          · rw [hlo] at hvc
            replace hvc := Aside0.mk (show valF (n + 1) (t :: l) = .error 151 from hvc)
            replace hlo := Aside0.mk hlo
            clear hlx
            go_enter Try.func40, Try.ntmps40
            go_wp2_with fail
            refine (must_yes _ _).mono ?_
            rintro e w' ⟨rfl, rfl⟩
            go_wp2_with fail
            refine ht.out.mono ?_
            rintro e w2 ⟨rfl, h2, hF, hm⟩
            obtain ⟨ad, e, p0⟩ := u8_at (Kd.F_now hF) 0 (by simp)
            subst e
            have p0' : w2.cell? ad = some (.int .u8 t) := by rw [show ad = ad.add 0 from by simp [Addr.add]]; exact p0
            have hX2 := hX.out.mod hm (by omega)
            have hz2 := hm.size
            have hm := Aside0.mk (Mod.trans (Mod.of_below (S := fun q => q = R) hb1.out) hm (fun q hq => .inl hq))
            have h2' : Rd w2 R ok l _ _ := h2
            clear hF p0 ht h2
            obtain ⟨A1, hA1⟩ : ∃ A1, Rd.rest (some ad) c 1 = A1 := ⟨_, rfl⟩
            obtain ⟨c1, hc1⟩ : ∃ c1, c - 1 = c1 := ⟨_, rfl⟩
            rw [hA1, hc1] at h2'
            have hB3 := box_new w2 (.int .u8 0) (.int .u8 0) (.bool false) (.slice none 0 0) (.slice none 0 0)
            have hb3 := below_alloc (Below.refl w2.heap.size w2) (.cells #[.int .u8 0, .int .u8 0, .bool false, .slice none 0 0, .slice none 0 0] 26)
            obtain ⟨w3, hw3⟩ : ∃ w3, w2.alloc (.cells #[.int .u8 0, .int .u8 0, .bool false, .slice none 0 0, .slice none 0 0] 26) = w3 := ⟨_, rfl⟩
            obtain ⟨V, hV⟩ : ∃ V, w2.heap.size = V := ⟨_, rfl⟩
            rw [hw3, hV] at hB3
            rw [hw3] at hb3
            obtain ⟨w4, hw4, hB4, hm4⟩ := put5 hB3 (.int .u8 (t / 64)) (.int .u8 (t % 32)) (.bool false) (.slice none 0 0) (.slice none 0 0)
            obtain ⟨f0, f1, f2, f3, f4⟩ := hB3.free
            obtain ⟨g0, g1, g2, g3, g4⟩ := hB3.cells
            have hb4 : Below w2.heap.size w2 w4 := put5_mod hm4 hb3 (by rw [hV]; exact Nat.le_refl _)
            have h4 := h2'.below hb4
            have hX4 := Aside0.mk (hX2.below hb4)
            have hPV : P < V := by have := hz1.out; omega
            have hm4' := Aside0.mk (hm.out.then_below hb4)
            have hlen := Aside0.mk (len_calls R ok l _ _ w4 h4 hll hyl)
            rw [hlo.out] at hlen
            replace hB4 := Aside0.mk hB4
            clear hB3 hb3 hm4 hb4 h4 h2' hX2 hm hz2
            replace hw1 := Aside0.mk hw1
            replace hP := Aside0.mk hP
            replace hA1 := Aside0.mk hA1
            replace hc1 := Aside0.mk hc1
            go_wp2_with fail
            refine (must_yes _ _).mono ?_
            rintro e w2 ⟨rfl, rfl⟩
            go_wp2_with fail
            refine hlen.out.mono ?_
            rintro e w5 ⟨he, hm5⟩
            replace he : e = stopE 151 := he
            subst he
            have hm5' := Aside0.mk (hm4'.out.trans hm5 (fun q hq => .inl hq))
            go_wp2_with fail
            exact ⟨rfl, by rw [hvc.out], hm5'.out⟩
          · obtain ⟨_, hml, hk0⟩ := hlx k m hlo
            clear hlx
            rw [hlo] at hvc
            replace hlo := Aside0.mk hlo
            dsimp only at hvc
            obtain ⟨l2, hl2⟩ : ∃ l2, l.drop m = l2 := ⟨_, rfl⟩
            have hl2l : l2.length ≤ 1000000 := by rw [← hl2, List.length_drop]; omega
            have hl2b : ∀ y ∈ l2, 0 ≤ y ∧ y < 256 := fun y hm => hyl y (by rw [← hl2] at hm; exact List.mem_of_mem_drop hm)
            rw [hl2] at hvc
            replace hl2 := Aside0.mk hl2
            replace hml := Aside0.mk hml
            obtain ⟨K, rfl⟩ := Int.eq_ofNat_of_zero_le hk0
            by_cases c2 : ((l2.length : Nat) : Int) < (K : Int)
            · rw [if_pos c2] at hvc
              replace hvc := Aside0.mk hvc
              replace c2 := Aside0.mk c2
              go_enter Try.func40, Try.ntmps40
              go_wp2_with fail
              refine (must_yes _ _).mono ?_
              rintro e w' ⟨rfl, rfl⟩
              go_wp2_with fail
              refine ht.out.mono ?_
              rintro e w2 ⟨rfl, h2, hF, hm⟩
              obtain ⟨ad, e, p0⟩ := u8_at (Kd.F_now hF) 0 (by simp)
              subst e
              have p0' : w2.cell? ad = some (.int .u8 t) := by rw [show ad = ad.add 0 from by simp [Addr.add]]; exact p0
              have hX2 := hX.out.mod hm (by omega)
              have hz2 := hm.size
              have hm := Aside0.mk (Mod.trans (Mod.of_below (S := fun q => q = R) hb1.out) hm (fun q hq => .inl hq))
              have h2' : Rd w2 R ok l _ _ := h2
              clear hF p0 ht h2
              obtain ⟨A1, hA1⟩ : ∃ A1, Rd.rest (some ad) c 1 = A1 := ⟨_, rfl⟩
              obtain ⟨c1, hc1⟩ : ∃ c1, c - 1 = c1 := ⟨_, rfl⟩
              rw [hA1, hc1] at h2'
              have hB3 := box_new w2 (.int .u8 0) (.int .u8 0) (.bool false) (.slice none 0 0) (.slice none 0 0)
              have hb3 := below_alloc (Below.refl w2.heap.size w2) (.cells #[.int .u8 0, .int .u8 0, .bool false, .slice none 0 0, .slice none 0 0] 26)
              obtain ⟨w3, hw3⟩ : ∃ w3, w2.alloc (.cells #[.int .u8 0, .int .u8 0, .bool false, .slice none 0 0, .slice none 0 0] 26) = w3 := ⟨_, rfl⟩
              obtain ⟨V, hV⟩ : ∃ V, w2.heap.size = V := ⟨_, rfl⟩
              rw [hw3, hV] at hB3
              rw [hw3] at hb3
              obtain ⟨w4, hw4, hB4, hm4⟩ := put5 hB3 (.int .u8 (t / 64)) (.int .u8 (t % 32)) (.bool false) (.slice none 0 0) (.slice none 0 0)
              obtain ⟨f0, f1, f2, f3, f4⟩ := hB3.free
              obtain ⟨g0, g1, g2, g3, g4⟩ := hB3.cells
              have hb4 : Below w2.heap.size w2 w4 := put5_mod hm4 hb3 (by rw [hV]; exact Nat.le_refl _)
              have h4 := h2'.below hb4
              have hX4 := Aside0.mk (hX2.below hb4)
              have hPV : P < V := by have := hz1.out; omega
              have hm4' := Aside0.mk (hm.out.then_below hb4)
              have hlen := Aside0.mk (len_calls R ok l _ _ w4 h4 hll hyl)
              rw [hlo.out] at hlen
              replace hB4 := Aside0.mk hB4
              clear hB3 hb3 hm4 hb4 h4 h2' hX2 hm hz2
              replace hw1 := Aside0.mk hw1
              replace hP := Aside0.mk hP
              replace hA1 := Aside0.mk hA1
              replace hc1 := Aside0.mk hc1
              go_wp2_with fail
              refine (must_yes _ _).mono ?_
              rintro e w2 ⟨rfl, rfl⟩
              go_wp2_with fail
              refine hlen.out.mono ?_
              rintro e w5 ⟨⟨he, A2, c3, h5⟩, hm5⟩
              replace he : e = .returned (.int .i64 (K : Int)) := he
              subst he
              dsimp only at h5
              rw [hl2.out] at h5
              have ht2 := Aside0.mk (take_no R ok l2 _ _ (K : Int) w5 h5 hl2l c2.out)
              have hm5' := Aside0.mk (hm4'.out.trans hm5 (fun q hq => .inl hq))
              clear hlen h5 hm5
              go_wp2_with fail
              refine ht2.out.mono ?_
              rintro e w5 ⟨rfl, rfl⟩
              go_wp2_with fail
              exact ⟨rfl, by rw [hvc.out], hm5'.out⟩
            · rw [if_neg c2] at hvc
              have hKl : K ≤ l2.length := by omega
              clear c2
              rw [Int.toNat_natCast] at hvc
              obtain ⟨b, hbq⟩ : ∃ b, l2.take K = b := ⟨_, rfl⟩
              have hbl : b.length = K := by rw [← hbq, List.length_take, Nat.min_eq_left hKl]
              rw [hbq] at hvc
              have hbb : ∀ y ∈ b, 0 ≤ y ∧ y < 256 := fun y hm => hl2b y (by rw [← hbq] at hm; exact List.mem_of_mem_take hm)
              obtain ⟨rs, hrs⟩ : ∃ rs, l2.drop K = rs := ⟨_, rfl⟩
              rw [hrs] at hvc
              replace hbq := Aside0.mk hbq
              replace hrs := Aside0.mk hrs
              have hK1 : K ≤ 1000000 := by omega
              replace hbb := Aside0.mk hbb
              rw [if_pos (hcb.out.1 rfl)] at hvc
              replace hvc := Aside0.mk hvc
              go_enter Try.func40, Try.ntmps40
              go_wp2_with fail
              refine (must_yes _ _).mono ?_
              rintro e w' ⟨rfl, rfl⟩
              go_wp2_with fail
              refine ht.out.mono ?_
              rintro e w2 ⟨rfl, h2, hF, hm⟩
              obtain ⟨ad, e, p0⟩ := u8_at (Kd.F_now hF) 0 (by simp)
              subst e
              have p0' : w2.cell? ad = some (.int .u8 t) := by rw [show ad = ad.add 0 from by simp [Addr.add]]; exact p0
              have hX2 := hX.out.mod hm (by omega)
              have hz2 := hm.size
              have hm := Aside0.mk (Mod.trans (Mod.of_below (S := fun q => q = R) hb1.out) hm (fun q hq => .inl hq))
              have h2' : Rd w2 R ok l _ _ := h2
              clear hF p0 ht h2
              obtain ⟨A1, hA1⟩ : ∃ A1, Rd.rest (some ad) c 1 = A1 := ⟨_, rfl⟩
              obtain ⟨c1, hc1⟩ : ∃ c1, c - 1 = c1 := ⟨_, rfl⟩
              rw [hA1, hc1] at h2'
              have hB3 := box_new w2 (.int .u8 0) (.int .u8 0) (.bool false) (.slice none 0 0) (.slice none 0 0)
              have hb3 := below_alloc (Below.refl w2.heap.size w2) (.cells #[.int .u8 0, .int .u8 0, .bool false, .slice none 0 0, .slice none 0 0] 26)
              obtain ⟨w3, hw3⟩ : ∃ w3, w2.alloc (.cells #[.int .u8 0, .int .u8 0, .bool false, .slice none 0 0, .slice none 0 0] 26) = w3 := ⟨_, rfl⟩
              obtain ⟨V, hV⟩ : ∃ V, w2.heap.size = V := ⟨_, rfl⟩
              rw [hw3, hV] at hB3
              rw [hw3] at hb3
              obtain ⟨w4, hw4, hB4, hm4⟩ := put5 hB3 (.int .u8 (t / 64)) (.int .u8 (t % 32)) (.bool false) (.slice none 0 0) (.slice none 0 0)
              obtain ⟨f0, f1, f2, f3, f4⟩ := hB3.free
              obtain ⟨g0, g1, g2, g3, g4⟩ := hB3.cells
              have hb4 : Below w2.heap.size w2 w4 := put5_mod hm4 hb3 (by rw [hV]; exact Nat.le_refl _)
              have h4 := h2'.below hb4
              have hX4 := Aside0.mk (hX2.below hb4)
              have hPV : P < V := by have := hz1.out; omega
              have hm4' := Aside0.mk (hm.out.then_below hb4)
              have hlen := Aside0.mk (len_calls R ok l _ _ w4 h4 hll hyl)
              rw [hlo.out] at hlen
              replace hB4 := Aside0.mk hB4
              clear hB3 hb3 hm4 hb4 h4 h2' hX2 hm hz2
              replace hw1 := Aside0.mk hw1
              replace hP := Aside0.mk hP
              replace hA1 := Aside0.mk hA1
              replace hc1 := Aside0.mk hc1
              go_wp2_with fail
              refine (must_yes _ _).mono ?_
              rintro e w2 ⟨rfl, rfl⟩
              go_wp2_with fail
              refine hlen.out.mono ?_
              rintro e w5 ⟨⟨he, A2, c3, h5⟩, hm5⟩
              replace he : e = .returned (.int .i64 (K : Int)) := he
              subst he
              dsimp only at h5
              rw [hl2.out] at h5
              have ht2 := Aside0.mk (take_yes R ok l2 _ _ K w5 h5 hl2l hKl)
              have hm5' := Aside0.mk (hm4'.out.trans hm5 (fun q hq => .inl hq))
              have hB5 := Aside0.mk (hB4.out.mod hm5 (by omega))
              have hX5 := Aside0.mk (hX4.out.mod hm5 (by omega))
              clear hlen h5 hm5 hB4 hX4 hm4'
              replace hw3 := Aside0.mk hw3
              replace hw4 := Aside0.mk hw4
              replace hV := Aside0.mk hV
              clear f0 f1 f2 f3 f4 g0 g1 g2 g3 g4
              go_wp2_with fail
              refine ht2.out.mono ?_
              rintro e w6 ⟨rfl, h6, hF6, hm6⟩
              rw [hrs.out] at h6
              rw [hbq.out] at hF6
              have hm6' := Aside0.mk (hm5'.out.trans hm6 (fun q hq => .inl hq))
              have hB6 := Aside0.mk (hB5.out.mod hm6 (by omega))
              have hX6 := Aside0.mk (hX5.out.mod hm6 (by omega))
              have h6' := Aside0.mk h6
              have hcl := cloneb_calls A2 c3 b w6 (by rw [hbl]; exact Kd.F_now hF6) (by omega)
              rw [hbl] at hcl
              replace hcl := Aside0.mk hcl
              clear ht2 h6 hF6 hm6 hB5 hX5 hm5'
              obtain ⟨_, _, q2, _, _⟩ := hB6.out.cells
              go_wp2_with fail
              refine hcl.out.mono ?_
              rintro e w7 ⟨A7, c7, rfl, hR7, hb7⟩
              have hB7 := hB6.out.below hb7
              have hX7 := hX6.out.below hb7
              obtain ⟨j0, j1, j2, j3, j4⟩ := hB7.cells
              obtain ⟨f0, f1, f2, f3, f4⟩ := hB7.free
              have hB8 : Box (w7.setCell ⟨V, 3, none⟩ (.slice A7 b.length c7)) V (.int .u8 (t / 64)) (.int .u8 (t % 32)) (.bool false) (.slice A7 b.length c7) (.slice none 0 0) := by simpa [Box] using blk_set hB7 3 (.slice A7 b.length c7)
              have hm8 := (Mod.refl (fun q => q = V) w7).setCell (p := ⟨V, 3, none⟩) (.inl rfl) (.slice A7 b.length c7)
              obtain ⟨w8, hw8⟩ : ∃ w8, w7.setCell ⟨V, 3, none⟩ (.slice A7 b.length c7) = w8 := ⟨_, rfl⟩
              rw [hw8] at hB8 hm8
              have hX8 := hX7.mod hm8 (by omega)
              obtain ⟨m0, m1, m2, m3, m4⟩ := hB8.cells
              obtain ⟨n0, n1, n2, n3, n4⟩ := hX8.cells
              obtain ⟨o0, o1, o2, o3, o4⟩ := hX8.free
              obtain ⟨w9, hw9, hX9, hm9⟩ := put5 hX8 (.int .u8 (t / 64)) (.int .u8 (t % 32)) (.bool false) (.slice A7 b.length c7) (.slice none 0 0)
              obtain ⟨r0, r1, r2, r3, r4⟩ := hX9.cells
              have hR9 := Aside0.mk (R_mod (R_mod hR7 hm8 (fun q hq e => by have := blk_lt hB6.out; omega)) hm9 (fun q hq e => by have := blk_lt hX6.out; omega))
              have h9 := Aside0.mk (((h6'.out.below hb7).mod hm8 (fun q hq e => by have := hok.out q hq; omega) (by omega)).mod hm9 (fun q hq e => by have := hok.out q hq; omega) (by omega))
              have hfm := Aside0.mk (((hm6'.out.then_below hb7).trans hm8 (fun q hq => .inr (by have := hP.out; omega))).trans hm9 (fun q hq => .inr (by have := hP.out; omega)))
              have hwP := Aside0.mk (show w.heap.size ≤ w6.heap.size from hm6'.out.size)
              rw [hbl] at hw8 hw9 m3 r3
              replace hB7 := Aside0.mk hB7
              replace hB8 := Aside0.mk hB8
              replace hX9 := Aside0.mk hX9
              replace hX8 := Aside0.mk hX8
              replace hX7 := Aside0.mk hX7
              clear hb7 hm8 hm9 hR7 hcl
              go_wp2_with fail
              refine bodyPost_ret (v := .agg #[.int .u8 (t / 64), .int .u8 (t % 32), .bool false, .slice A7 K c7, .slice none 0 0]) (by simp [results, Try.results40, go_sem, r0, r1, r2, r3, r4]) rfl ?_
              have hfin := hvc.out
              refine ⟨?_, hfm.out⟩
              rw [hfin]
              refine ⟨A7, c7, none, 0, _, _, by unfold bv; rw [← hbl]; rfl, ⟨?_, ?_, Nat.le_refl _, Kd.F_nil _ _ _⟩, h9.out⟩
              · rw [hbl]; exact (Kd.R_reads' hR9.out).2.1
              · rw [hbl]; exact Kd.F_mono (Kd.R_F hR9.out) (fun q hq => by have := hwP.out; omega)
        | true =>
          have e34 : bits .and .u8 t 32 = 32 := by simpa using e34
          have hlx := fun k m (h : lenF l = some (k, m)) => lenF_ext l [] k m (fun x hx => (hyl x hx).1) h
          have hvc := hv.out
          clear hv
          replace hcb := Aside0.mk hcb
          rcases hlo : lenF l with _ | ⟨k, m⟩
          · rw [hlo] at hvc
            replace hvc := Aside0.mk (show valF (n + 1) (t :: l) = .error 151 from hvc)
            replace hlo := Aside0.mk hlo
            clear hlx
            go_enter Try.func40, Try.ntmps40
            go_wp2_with fail
            refine (must_yes _ _).mono ?_
            rintro e w' ⟨rfl, rfl⟩
            go_wp2_with fail
            refine ht.out.mono ?_
            rintro e w2 ⟨rfl, h2, hF, hm⟩
            obtain ⟨ad, e, p0⟩ := u8_at (Kd.F_now hF) 0 (by simp)
            subst e
            have p0' : w2.cell? ad = some (.int .u8 t) := by rw [show ad = ad.add 0 from by simp [Addr.add]]; exact p0
            have hX2 := hX.out.mod hm (by omega)
            have hz2 := hm.size
            have hm := Aside0.mk (Mod.trans (Mod.of_below (S := fun q => q = R) hb1.out) hm (fun q hq => .inl hq))
            have h2' : Rd w2 R ok l _ _ := h2
            clear hF p0 ht h2
            obtain ⟨A1, hA1⟩ : ∃ A1, Rd.rest (some ad) c 1 = A1 := ⟨_, rfl⟩
            obtain ⟨c1, hc1⟩ : ∃ c1, c - 1 = c1 := ⟨_, rfl⟩
            rw [hA1, hc1] at h2'
            have hB3 := box_new w2 (.int .u8 0) (.int .u8 0) (.bool false) (.slice none 0 0) (.slice none 0 0)
            have hb3 := below_alloc (Below.refl w2.heap.size w2) (.cells #[.int .u8 0, .int .u8 0, .bool false, .slice none 0 0, .slice none 0 0] 26)
            obtain ⟨w3, hw3⟩ : ∃ w3, w2.alloc (.cells #[.int .u8 0, .int .u8 0, .bool false, .slice none 0 0, .slice none 0 0] 26) = w3 := ⟨_, rfl⟩
            obtain ⟨V, hV⟩ : ∃ V, w2.heap.size = V := ⟨_, rfl⟩
            rw [hw3, hV] at hB3
            rw [hw3] at hb3
            obtain ⟨w4, hw4, hB4, hm4⟩ := put5 hB3 (.int .u8 (t / 64)) (.int .u8 (t % 32)) (.bool true) (.slice none 0 0) (.slice none 0 0)
            obtain ⟨f0, f1, f2, f3, f4⟩ := hB3.free
            obtain ⟨g0, g1, g2, g3, g4⟩ := hB3.cells
            have hb4 : Below w2.heap.size w2 w4 := put5_mod hm4 hb3 (by rw [hV]; exact Nat.le_refl _)
            have h4 := h2'.below hb4
            have hX4 := Aside0.mk (hX2.below hb4)
            have hPV : P < V := by have := hz1.out; omega
            have hm4' := Aside0.mk (hm.out.then_below hb4)
            have hlen := Aside0.mk (len_calls R ok l _ _ w4 h4 hll hyl)
            rw [hlo.out] at hlen
            replace hB4 := Aside0.mk hB4
            clear hB3 hb3 hm4 hb4 h4 h2' hX2 hm hz2
            replace hw1 := Aside0.mk hw1
            replace hP := Aside0.mk hP
            replace hA1 := Aside0.mk hA1
            replace hc1 := Aside0.mk hc1
            go_wp2_with fail
            refine (must_yes _ _).mono ?_
            rintro e w2 ⟨rfl, rfl⟩
            go_wp2_with fail
            refine hlen.out.mono ?_
            rintro e w5 ⟨he, hm5⟩
            replace he : e = stopE 151 := he
            subst he
            have hm5' := Aside0.mk (hm4'.out.trans hm5 (fun q hq => .inl hq))
            go_wp2_with fail
            exact ⟨rfl, by rw [hvc.out], hm5'.out⟩
          · obtain ⟨_, hml, hk0⟩ := hlx k m hlo
            clear hlx
            rw [hlo] at hvc
            replace hlo := Aside0.mk hlo
            dsimp only at hvc
            obtain ⟨l2, hl2⟩ : ∃ l2, l.drop m = l2 := ⟨_, rfl⟩
            have hl2l : l2.length ≤ 1000000 := by rw [← hl2, List.length_drop]; omega
            have hl2b : ∀ y ∈ l2, 0 ≤ y ∧ y < 256 := fun y hm => hyl y (by rw [← hl2] at hm; exact List.mem_of_mem_drop hm)
            rw [hl2] at hvc
            replace hl2 := Aside0.mk hl2
            replace hml := Aside0.mk hml
            obtain ⟨K, rfl⟩ := Int.eq_ofNat_of_zero_le hk0
            by_cases c2 : ((l2.length : Nat) : Int) < (K : Int)
            · rw [if_pos c2] at hvc
              replace hvc := Aside0.mk hvc
              replace c2 := Aside0.mk c2
              go_enter Try.func40, Try.ntmps40
              go_wp2_with fail
              refine (must_yes _ _).mono ?_
              rintro e w' ⟨rfl, rfl⟩
              go_wp2_with fail
              refine ht.out.mono ?_
              rintro e w2 ⟨rfl, h2, hF, hm⟩
              obtain ⟨ad, e, p0⟩ := u8_at (Kd.F_now hF) 0 (by simp)
              subst e
              have p0' : w2.cell? ad = some (.int .u8 t) := by rw [show ad = ad.add 0 from by simp [Addr.add]]; exact p0
              have hX2 := hX.out.mod hm (by omega)
              have hz2 := hm.size
              have hm := Aside0.mk (Mod.trans (Mod.of_below (S := fun q => q = R) hb1.out) hm (fun q hq => .inl hq))
              have h2' : Rd w2 R ok l _ _ := h2
              clear hF p0 ht h2
              obtain ⟨A1, hA1⟩ : ∃ A1, Rd.rest (some ad) c 1 = A1 := ⟨_, rfl⟩
              obtain ⟨c1, hc1⟩ : ∃ c1, c - 1 = c1 := ⟨_, rfl⟩
              rw [hA1, hc1] at h2'
              have hB3 := box_new w2 (.int .u8 0) (.int .u8 0) (.bool false) (.slice none 0 0) (.slice none 0 0)
              have hb3 := below_alloc (Below.refl w2.heap.size w2) (.cells #[.int .u8 0, .int .u8 0, .bool false, .slice none 0 0, .slice none 0 0] 26)
              obtain ⟨w3, hw3⟩ : ∃ w3, w2.alloc (.cells #[.int .u8 0, .int .u8 0, .bool false, .slice none 0 0, .slice none 0 0] 26) = w3 := ⟨_, rfl⟩
              obtain ⟨V, hV⟩ : ∃ V, w2.heap.size = V := ⟨_, rfl⟩
              rw [hw3, hV] at hB3
              rw [hw3] at hb3
              obtain ⟨w4, hw4, hB4, hm4⟩ := put5 hB3 (.int .u8 (t / 64)) (.int .u8 (t % 32)) (.bool true) (.slice none 0 0) (.slice none 0 0)
              obtain ⟨f0, f1, f2, f3, f4⟩ := hB3.free
              obtain ⟨g0, g1, g2, g3, g4⟩ := hB3.cells
              have hb4 : Below w2.heap.size w2 w4 := put5_mod hm4 hb3 (by rw [hV]; exact Nat.le_refl _)
              have h4 := h2'.below hb4
              have hX4 := Aside0.mk (hX2.below hb4)
              have hPV : P < V := by have := hz1.out; omega
              have hm4' := Aside0.mk (hm.out.then_below hb4)
              have hlen := Aside0.mk (len_calls R ok l _ _ w4 h4 hll hyl)
              rw [hlo.out] at hlen
              replace hB4 := Aside0.mk hB4
              clear hB3 hb3 hm4 hb4 h4 h2' hX2 hm hz2
              replace hw1 := Aside0.mk hw1
              replace hP := Aside0.mk hP
              replace hA1 := Aside0.mk hA1
              replace hc1 := Aside0.mk hc1
              go_wp2_with fail
              refine (must_yes _ _).mono ?_
              rintro e w2 ⟨rfl, rfl⟩
              go_wp2_with fail
              refine hlen.out.mono ?_
              rintro e w5 ⟨⟨he, A2, c3, h5⟩, hm5⟩
              replace he : e = .returned (.int .i64 (K : Int)) := he
              subst he
              dsimp only at h5
              rw [hl2.out] at h5
              have ht2 := Aside0.mk (take_no R ok l2 _ _ (K : Int) w5 h5 hl2l c2.out)
              have hm5' := Aside0.mk (hm4'.out.trans hm5 (fun q hq => .inl hq))
              clear hlen h5 hm5
              go_wp2_with fail
              refine ht2.out.mono ?_
              rintro e w5 ⟨rfl, rfl⟩
              go_wp2_with fail
              exact ⟨rfl, by rw [hvc.out], hm5'.out⟩
            · rw [if_neg c2] at hvc
              have hKl : K ≤ l2.length := by omega
              clear c2
              rw [Int.toNat_natCast] at hvc
              obtain ⟨b, hbq⟩ : ∃ b, l2.take K = b := ⟨_, rfl⟩
              have hbl : b.length = K := by rw [← hbq, List.length_take, Nat.min_eq_left hKl]
              rw [hbq] at hvc
              have hbb : ∀ y ∈ b, 0 ≤ y ∧ y < 256 := fun y hm => hl2b y (by rw [← hbq] at hm; exact List.mem_of_mem_take hm)
              obtain ⟨rs, hrs⟩ : ∃ rs, l2.drop K = rs := ⟨_, rfl⟩
              rw [hrs] at hvc
              replace hbq := Aside0.mk hbq
              replace hrs := Aside0.mk hrs
              have hK1 : K ≤ 1000000 := by omega
              replace hbb := Aside0.mk hbb
              rw [if_neg (fun h => by have := hcb.out.2 h; cases this)] at hvc
              replace hvc := Aside0.mk hvc
              go_enter Try.func40, Try.ntmps40
              go_wp2_with fail
              refine (must_yes _ _).mono ?_
              rintro e w' ⟨rfl, rfl⟩
              go_wp2_with fail
              refine ht.out.mono ?_
              rintro e w2 ⟨rfl, h2, hF, hm⟩
              obtain ⟨ad, e, p0⟩ := u8_at (Kd.F_now hF) 0 (by simp)
              subst e
              have p0' : w2.cell? ad = some (.int .u8 t) := by rw [show ad = ad.add 0 from by simp [Addr.add]]; exact p0
              have hX2 := hX.out.mod hm (by omega)
              have hz2 := hm.size
              have hm := Aside0.mk (Mod.trans (Mod.of_below (S := fun q => q = R) hb1.out) hm (fun q hq => .inl hq))
              have h2' : Rd w2 R ok l _ _ := h2
              clear hF p0 ht h2
              obtain ⟨A1, hA1⟩ : ∃ A1, Rd.rest (some ad) c 1 = A1 := ⟨_, rfl⟩
              obtain ⟨c1, hc1⟩ : ∃ c1, c - 1 = c1 := ⟨_, rfl⟩
              rw [hA1, hc1] at h2'
              have hB3 := box_new w2 (.int .u8 0) (.int .u8 0) (.bool false) (.slice none 0 0) (.slice none 0 0)
              have hb3 := below_alloc (Below.refl w2.heap.size w2) (.cells #[.int .u8 0, .int .u8 0, .bool false, .slice none 0 0, .slice none 0 0] 26)
              obtain ⟨w3, hw3⟩ : ∃ w3, w2.alloc (.cells #[.int .u8 0, .int .u8 0, .bool false, .slice none 0 0, .slice none 0 0] 26) = w3 := ⟨_, rfl⟩
              obtain ⟨V, hV⟩ : ∃ V, w2.heap.size = V := ⟨_, rfl⟩
              rw [hw3, hV] at hB3
              rw [hw3] at hb3
              obtain ⟨w4, hw4, hB4, hm4⟩ := put5 hB3 (.int .u8 (t / 64)) (.int .u8 (t % 32)) (.bool true) (.slice none 0 0) (.slice none 0 0)
              obtain ⟨f0, f1, f2, f3, f4⟩ := hB3.free
              obtain ⟨g0, g1, g2, g3, g4⟩ := hB3.cells
              have hb4 : Below w2.heap.size w2 w4 := put5_mod hm4 hb3 (by rw [hV]; exact Nat.le_refl _)
              have h4 := h2'.below hb4
              have hX4 := Aside0.mk (hX2.below hb4)
              have hPV : P < V := by have := hz1.out; omega
              have hm4' := Aside0.mk (hm.out.then_below hb4)
              have hlen := Aside0.mk (len_calls R ok l _ _ w4 h4 hll hyl)
              rw [hlo.out] at hlen
              replace hB4 := Aside0.mk hB4
              clear hB3 hb3 hm4 hb4 h4 h2' hX2 hm hz2
              replace hw1 := Aside0.mk hw1
              replace hP := Aside0.mk hP
              replace hA1 := Aside0.mk hA1
              replace hc1 := Aside0.mk hc1
              go_wp2_with fail
              refine (must_yes _ _).mono ?_
              rintro e w2 ⟨rfl, rfl⟩
              go_wp2_with fail
              refine hlen.out.mono ?_
              rintro e w5 ⟨⟨he, A2, c3, h5⟩, hm5⟩
              replace he : e = .returned (.int .i64 (K : Int)) := he
              subst he
              dsimp only at h5
              rw [hl2.out] at h5
              have hlb5 := h5.lb
              have ht2 := Aside0.mk (take_yes R ok l2 _ _ K w5 h5 hl2l hKl)
              have hm5' := Aside0.mk (hm4'.out.trans hm5 (fun q hq => .inl hq))
              have hB5 := Aside0.mk (hB4.out.mod hm5 (by omega))
              have hX5 := Aside0.mk (hX4.out.mod hm5 (by omega))
              clear hlen h5 hm5 hB4 hX4 hm4'
              replace hw3 := Aside0.mk hw3
              replace hw4 := Aside0.mk hw4
              replace hV := Aside0.mk hV
              clear f0 f1 f2 f3 f4 g0 g1 g2 g3 g4
              go_wp2_with fail
              refine ht2.out.mono ?_
              rintro e w6 ⟨rfl, h6, hF6, hm6⟩
              rw [hrs.out] at h6
              rw [hbq.out] at hF6
              have hm6' := Aside0.mk (hm5'.out.trans hm6 (fun q hq => .inl hq))
              have hB6 := Aside0.mk (hB5.out.mod hm6 (by omega))
              have hX6 := Aside0.mk (hX5.out.mod hm6 (by omega))
              have h6' := Aside0.mk h6
              have hc3 : K ≤ c3 := by omega
              obtain ⟨Q, hQ⟩ : ∃ Q, w6.heap.size = Q := ⟨_, rfl⟩
              have hb7 := below_alloc (Below.refl w6.heap.size w6) (.cells #[.slice A2 K c3] 66)
              have hQ7 := heap_alloc_new w6 (.cells #[.slice A2 K c3] 66)
              obtain ⟨w7, hw7⟩ : ∃ w7, w6.alloc (.cells #[.slice A2 K c3] 66) = w7 := ⟨_, rfl⟩
              rw [hw7] at hb7 hQ7
              rw [hQ] at hQ7
              have hVQ : V < Q := by have := blk_lt hB6.out; omega
              have hQ7s : Q < w7.heap.size := blk_lt hQ7
              have hin7 := Aside0.mk (show Rd w7 Q ok b A2 c3 from ⟨by rw [hbl]; exact hQ7, by rw [hbl]; exact hc3, by rw [hbl]; exact Kd.F_below hF6 hb7, fun q hq => by have := hok.out q hq; omega⟩)
              have h7 := Aside0.mk (h6'.out.below hb7)
              have hB7 := Aside0.mk (hB6.out.below hb7)
              have hX7 := Aside0.mk (hX6.out.below hb7)
              have hm7 := Aside0.mk (hm6'.out.then_below hb7)
              obtain ⟨_, _, q2, _, _⟩ := hB6.out.cells
              clear ht2 h6 hF6 hm6 hB5 hX5 hm5' hb7 hQ7 hB6 hX6 h6' hm6' hlb5
              go_wp2_with fail
              replace hQ := Aside0.mk hQ
              clear hw7 q2
              go_loopw [] (fun wr => ∃ (k : Nat) (q : List Int) (xs : List T) (A8 : Option Addr) (c8 : Nat) (iv : Value), Aside0 (q.length ≤ k) ∧ Aside0 (∀ y ∈ q, 0 ≤ y ∧ y < 256) ∧ Aside0 (xs.length + q.length ≤ 1000000) ∧ Aside0 (itemsF (valF n) K b = pre xs (itemsF (valF n) k q)) ∧ Aside0 (Rd wr Q ok q A8 c8) ∧ Aside0 (∃ A' c', Rd wr R ok rs A' c') ∧ Aside0 (Box wr V (.int .u8 (t / 64)) (.int .u8 (t % 32)) (.bool true) (.slice none 0 0) iv) ∧ Aside0 (Box wr P (.int .u8 0) (.int .u8 0) (.bool false) (.slice none 0 0) (.slice none 0 0)) ∧ Aside0 (Kd.N kT 26 wr 0 (fun q => Q < q) iv xs) ∧ Aside0 (Mod (fun q => q = R) w wr)) (fun wr => leftAt Q wr)
              case atStart => exact ⟨K, b, [], A2, c3, _, ⟨by omega⟩, hbb, ⟨by simp; omega⟩, ⟨by cases itemsF (valF n) K b <;> simp [pre]⟩, hin7, ⟨_, _, h7.out⟩, hB7, hX7, ⟨Kd.N_nil _ _ _ _ _⟩, hm7⟩
              case round =>
                clear hin7 h7 hB7 hX7 hm7
                obtain ⟨k, q, xs, A8, c8, iv, hqk, hqb, hqx, heq, hin, hout, hB, hX, hN, hm⟩ := hrel
                obtain ⟨A9, c9, e⟩ := Kd.N_slice hN.out
                subst e
                have p0 := hin.out.c0
                have hms := Aside0.mk (leftAt_rd hin.out)
                by_cases hq0 : q = []
                · subst hq0
                  replace p0 : wr.cell? ⟨Q, 0, none⟩ = some (.slice A8 0 c8) := p0
                  have hres : Aside0 (valF (n + 1) (t :: l) = .ok (⟨t / 64, t % 32, true, [], xs⟩, rs)) := ⟨by rw [hvc.out, heq.out, items_nil]; simp [pre]⟩
                  obtain ⟨m0, m1, m2, m3, m4⟩ := hB.out.cells
                  obtain ⟨n0, n1, n2, n3, n4⟩ := hX.out.cells
                  obtain ⟨o0, o1, o2, o3, o4⟩ := hX.out.free
                  obtain ⟨w9, hw9, hX9, hm9⟩ := put5 hX.out (.int .u8 (t / 64)) (.int .u8 (t % 32)) (.bool true) (.slice none 0 0) (.slice A9 xs.length c9)
                  obtain ⟨r0, r1, r2, r3, r4⟩ := hX9.cells
                  have hN9 := Aside0.mk (Kd.N_step hN.out (fun j hj hlt => hm9.block j hlt (fun e => by omega)))
                  have hout9 : Aside0 (∃ A' c', Rd w9 R ok rs A' c') := ⟨by obtain ⟨A', c', h⟩ := hout.out; exact ⟨A', c', h.mod hm9 (fun q hq e => by have := hok.out q hq; omega) (by omega)⟩⟩
                  have hfm := Aside0.mk (hm.out.trans hm9 (fun q hq => .inr (by have := hP.out; omega)))
                  replace hX9 := Aside0.mk hX9
                  clear hm9 heq
                  go_wp2_with fail
                  refine bodyPost_ret (v := .agg #[.int .u8 (t / 64), .int .u8 (t % 32), .bool true, .slice none 0 0, .slice A9 xs.length c9]) (by simp [results, Try.results40, go_sem, r0, r1, r2, r3, r4]) rfl ?_
                  have hfin := hres.out
                  refine ⟨?_, hfm.out⟩
                  rw [hfin]
                  obtain ⟨A', c', h9⟩ := hout9.out
                  refine ⟨none, 0, A9, c9, _, _, rfl, ⟨Nat.le_refl _, Kd.F_nil _ _ _, ?_, ?_⟩, h9⟩
                  · exact (Kd.N_reads' hN9.out).2.1
                  · exact Kd.F_mono (Kd.N_F hN9.out) (fun q hq => by have := hP.out; omega)
                · have hq1 : 0 < q.length := List.length_pos_iff.2 hq0
                  have i1 : (0 : Int) < (q.length : Int) := by omega
                  obtain ⟨M, hM⟩ : ∃ M, q.length = M := ⟨_, rfl⟩
                  rw [hM] at hqk hqx hms i1 hq1
                  replace hq0 := Aside0.mk hq0
                  have hind : Rd wr.drew Q ok q A8 c8 := hin.out.below (below_drew (Below.refl _ _))
                  have hcl0 := (ih.out Q ok q A8 c8 wr.drew hind (fun j hj => Nat.lt_trans (hok.out j hj) (blk_lt hX.out)) (by rw [hM]; exact Nat.le_trans (Nat.le_add_left _ _) hqx.out) hqb.out)
                  rw [show ((d + 1 : Nat) : Int) = (d : Int) + 1 from by omega] at hcl0
                  have hcl := Aside0.mk hcl0
                  clear hcl0 hind
                  have i2 : wrap64 ((d : Int) + 1) = (d : Int) + 1 := wrap_nat (d + 1) (by omega)
                  have i3 := wrap_d d hd17
                  obtain ⟨_, _, _, _, q4⟩ := hB.out.cells
                  rw [hM] at p0
                  replace hM := Aside0.mk hM
                  go_wp2_with fail
                  refine start_ (n := 10) (S := fun w' => w'.cell? ⟨V, 4, none⟩ = some (.slice A9 xs.length c9)) (ds := [9]) #[false, false, false, false, false, false, false, false, false, false] (by kernel_rfl) rfl rfl (q4) (fun hHeld => ?_)
                  refine pure_ (i := 0) (N := some 50) (v := ?_) (a' := ?_) #[true, false, false, false, false, false, false, false, false, false] rfl rfl (by kernel_rfl) (fun _ _ _ h => h) (Or.inl ⟨by rfl, ?_⟩) ?_ ?_
                  rotate_left
                  · intro w'
                    go_simp
                    with_reducible rfl
                  rotate_left
                  · simp only [Act.put, List.setIfInBounds_toArray, List.set_cons_zero, List.set_cons_succ, i64_w, i32_w]
                    rfl
                  refine pure_ (i := 2) (N := some 52) (v := ?_) (a' := ?_) #[true, false, true, false, false, false, false, false, false, false] rfl rfl (by kernel_rfl) (fun _ _ _ h => h) (Or.inl ⟨by rfl, ?_⟩) ?_ ?_
                  rotate_left
                  · intro w'
                    go_simp
                    with_reducible rfl
                  rotate_left
                  · simp only [Act.put, List.setIfInBounds_toArray, List.set_cons_zero, List.set_cons_succ, i64_w, i32_w]
                    rfl
                  refine pure_ (i := 3) (N := some 53) (v := ?_) (a' := ?_) #[true, false, true, true, false, false, false, false, false, false] rfl rfl (by kernel_rfl) (fun _ _ _ h => h) (Or.inl ⟨by rfl, ?_⟩) ?_ ?_
                  rotate_left
                  · intro w'
                    go_simp
                    with_reducible rfl
                  rotate_left
                  · simp only [Act.put, List.setIfInBounds_toArray, List.set_cons_zero, List.set_cons_succ, i64_w, i32_w]
                    rfl
                  refine pure_ (i := 4) (N := some 54) (v := ?_) (a' := ?_) #[true, false, true, true, true, false, false, false, false, false] rfl rfl (by kernel_rfl) (fun _ _ _ h => h) (Or.inl ⟨by rfl, ?_⟩) ?_ ?_
                  rotate_left
                  · intro w'
                    go_simp
                    with_reducible rfl
                  rotate_left
                  · simp only [Act.put, List.setIfInBounds_toArray, List.set_cons_zero, List.set_cons_succ, i64_w, i32_w]
                    rfl
                  refine take_ (i := 1) (N := some 51) (v := ?_) (a' := ?_) #[true, true, true, true, true, false, false, false, false, false] rfl rfl (by kernel_rfl) (fun _ _ _ h => h) (Or.inl ⟨by rfl, ?_⟩) hHeld ?_ ?_
                  rotate_left
                  · intro w' s0
                    go_simp
                    with_reducible rfl
                  rotate_left
                  · simp only [Act.put, List.setIfInBounds_toArray, List.set_cons_zero, List.set_cons_succ, i64_w, i32_w]
                    rfl
                  refine one_ (i := 5) (N := some 55) #[true, true, true, true, true, true, false, false, false, false] rfl rfl (by kernel_rfl) (by decide) (fun K hK => ?_)
                  refine goesP_ (f := 40) #[.pointer (some ⟨Q, 0, none⟩), .int .i64 ((d : Int) + 1)] (by rfl) rfl (by go_simp) ?_
                  refine hcl.out.mono ?_
                  rintro e w9 ⟨he, hm9⟩
                  have hB9 := Aside0.mk ((show Box wr.drew V _ _ _ _ _ from hB.out).mod hm9 (by omega))
                  have hX9 := Aside0.mk ((show Box wr.drew P _ _ _ _ _ from hX.out).mod hm9 (by omega))
                  have hN9 := Aside0.mk (Kd.N_step (Kd.N_drew hN.out) (fun j hj hlt => hm9.block j hlt (fun e => by omega)))
                  have hNl := Aside0.mk (Kd.N_lt hN.out)
                  have hout9 : Aside0 (∃ A' c', Rd w9 R ok rs A' c') := ⟨by obtain ⟨A', c', h⟩ := hout.out; exact ⟨A', c', (h.below (below_drew (Below.refl _ _))).mod hm9 (fun q hq e => by have := hok.out q hq; omega) (by omega)⟩⟩
                  have hfm9 := Aside0.mk (hm.out.drew.trans hm9 (fun q hq => .inr (by have := hP.out; omega)))
                  have hz9 := Aside0.mk (show wr.heap.size ≤ w9.heap.size from hm9.size)
                  rcases hvq : valF n q with err | r
                  · (rw [hvq] at he; refine .inr ⟨_, he, ?_⟩; have hres : valF (n + 1) (t :: l) = .error err := (by rw [hvc.out, heq.out, items_err (by rw [hM.out]; exact hqk.out) (by rw [hM.out]; exact hq1) hvq]; rfl); exact ⟨rfl, by rw [hres], hfm9.out⟩)
                  rw [hvq] at he
                  obtain ⟨A6, c6, B6, d6, A7, c7, rfl, hv6, hin9⟩ := he
                  refine .inl ⟨.agg #[.int .u8 r.1.f0, .int .u8 r.1.f1, .bool r.1.f2, .slice A6 r.1.f3.length c6, .slice B6 r.1.f4.length d6], rfl, ?_⟩
                  have hrl := Aside0.mk (val_less n q r hvq)
                  have hrm := Aside0.mk (fun y hy => hqb.out y (val_mem n q r hvq y hy))
                  have hst := Aside0.mk (items_ok (by rw [hM.out]; exact hqk.out) (by rw [hM.out]; exact hq1) hvq hrl.out)
                  replace hv6 := Aside0.mk hv6
                  replace hin9 := Aside0.mk hin9
                  clear hm9 hvq
                  refine hK.out _ _ (hB9.out.cells.2.2.2.2) (fun hHeld => ?_)
                  clear hK K
                  refine norm_ (a' := ?_) ?_ ?_
                  rotate_left
                  · show Act.put _ (some 55) _ = _
                    simp only [Act.put, List.setIfInBounds_toArray, List.set_cons_zero, List.set_cons_succ, i64_w, i32_w]
                    rfl
                  refine one_ (i := 6) (N := some 56) #[true, true, true, true, true, true, true, false, false, false] rfl rfl (by kernel_rfl) (by decide) (fun K hK => ?_)
                  refine value_ (w1 := ?_) (v := ?_) (by rfl) rfl ?_ ?_
                  rotate_left 2
                  · go_simp
                    constructor
                    · rfl
                    · rfl
                  refine hK.out _ _ ((by have h := hHeld; first | exact h | (rw [show World.cell? _ _ = some (.slice A9 xs.length c9) from ((hB9.out.below (below_alloc (Below.refl _ w9) _)).cells.2.2.2.2)]))) (fun hHeld => ?_)
                  clear hK K
                  refine norm_ (a' := ?_) ?_ ?_
                  rotate_left
                  · show Act.put _ (some 56) _ = _
                    simp only [Act.put, List.setIfInBounds_toArray, List.set_cons_zero, List.set_cons_succ, i64_w, i32_w]
                    rfl
                  refine one_ (i := 7) (N := some 57) #[true, true, true, true, true, true, true, true, false, false] rfl rfl (by kernel_rfl) (by decide) (fun K hK => ?_)
                  refine Kd.N_append_step kT (w0 := w9) 0 (by rfl) (.tmp 51) (.tmp 56) 24 26 (.agg #[.int .u8 0, .int .u8 0, .bool false, .slice none 0 0, .slice none 0 0]) 56 rfl Try.underlying24 info26 rfl (by decide) (by decide) (.slice A9 xs.length c9) xs r.1 [.int .u8 r.1.f0, .int .u8 r.1.f1, .bool r.1.f2, .slice A6 r.1.f3.length c6, .slice B6 r.1.f4.length d6] (fun q => Q < q) (fun q => wr.drew.heap.size ≤ q) rfl rfl (hv6.out.FK) (fun j hj => ⟨by have := blk_lt hin.out.blk; have : wr.heap.size ≤ j := hj; omega, fun e => by have := hNl.out j e.symm; have : wr.heap.size ≤ j := hj; omega⟩) (fun j hj => by have := blk_lt hin.out.blk; have := hz9.out; omega) hN9.out (Below.refl _ _) (Nat.zero_le _) (by have := hqx.out; omega) ?_
                  intro v1 w10 hN10 _ hg _
                  have hm10 := Aside0.mk (Mod.of_grown (S := fun q => Q < q) hg (fun j hj => .inl (hN9.out.1 j hj)))
                  have hB10 := Aside0.mk (hB9.out.mod hm10.out (by omega))
                  obtain ⟨A5, c5, ev⟩ := Kd.N_slice hN10
                  subst ev
                  obtain ⟨_, _, _, _, q10⟩ := hB10.out.cells
                  obtain ⟨_, _, _, _, q11⟩ := hB10.out.free
                  obtain ⟨N9, hN9e⟩ : ∃ N9, (xs ++ [r.1]).length = N9 := ⟨_, rfl⟩
                  rw [hN9e] at hN10
                  rw [hN9e]
                  replace hN9e := Aside0.mk hN9e
                  replace hN10 := Aside0.mk hN10
                  clear hg
                  refine hK.out _ _ (q10) (fun hHeld => ?_)
                  clear hK K
                  refine norm_ (a' := ?_) ?_ ?_
                  rotate_left
                  · show Act.put _ (some 57) _ = _
                    simp only [Act.put, List.setIfInBounds_toArray, List.set_cons_zero, List.set_cons_succ, i64_w, i32_w]
                    rfl
                  refine pure_ (i := 8) (N := some 58) (v := ?_) (a' := ?_) #[true, true, true, true, true, true, true, true, true, false] rfl rfl (by kernel_rfl) (fun _ _ _ h => h) (Or.inl ⟨by rfl, ?_⟩) ?_ ?_
                  rotate_left
                  · intro w'
                    go_simp
                    with_reducible rfl
                  rotate_left
                  · simp only [Act.put, List.setIfInBounds_toArray, List.set_cons_zero, List.set_cons_succ, i64_w, i32_w]
                    rfl
                  refine last_ (i := 9) (N := none) #[true, true, true, true, true, true, true, true, true, true] rfl rfl (by kernel_rfl) (by decide) (fun K hK => ?_)
                  refine skip_ (w1 := ?_) (by rfl) rfl ?_ ?_
                  rotate_left
                  · go_simp
                    rfl
                  refine hK.out _ _ ?_
                  clear hK K
                  refine done_ (by kernel_rfl) ?_
                  have hB11 := Aside0.mk (show Box (w10.setCell ⟨V, 4, none⟩ (.slice A5 N9 c5)) V (.int .u8 (t / 64)) (.int .u8 (t % 32)) (.bool true) (.slice none 0 0) (.slice A5 N9 c5) from by simpa [Box] using blk_set hB10.out 4 (.slice A5 N9 c5))
                  have hm11 := Aside0.mk ((Mod.refl (fun q => q = V) w10).setCell (p := ⟨V, 4, none⟩) (.inl rfl) (.slice A5 N9 c5))
                  obtain ⟨w11, hw11⟩ : ∃ wn, w10.setCell ⟨V, 4, none⟩ (.slice A5 N9 c5) = wn := ⟨_, rfl⟩
                  rw [hw11] at hB11 hm11 ⊢
                  have hX11 := Aside0.mk ((hX9.out.mod hm10.out (by omega)).mod hm11.out (by omega))
                  have hin11 := Aside0.mk ((hin9.out.mod hm10.out (fun j hj e => by have := hok.out j hj; omega) (by omega)).mod hm11.out (fun j hj e => by have := hok.out j hj; omega) (by omega))
                  have hout11 : Aside0 (∃ A' c', Rd w11 R ok rs A' c') := ⟨by obtain ⟨A', c', h⟩ := hout9.out; exact ⟨A', c', (h.mod hm10.out (fun j hj e => by have := hok.out j hj; omega) (by omega)).mod hm11.out (fun j hj e => by have := hok.out j hj; omega) (by omega)⟩⟩
                  have hN11 := Aside0.mk (Kd.N_step hN10.out (fun j hj hlt => hm11.out.block j hlt (fun e => by omega)))
                  have hfm11 := Aside0.mk ((hfm9.out.trans hm10.out (fun q hq => .inr (by have := hP.out; omega))).trans hm11.out (fun q hq => .inr (by have := hP.out; omega)))
                  obtain ⟨k', hk', hst'⟩ := hst.out
                  have heq' := Aside0.mk (show itemsF (valF n) K b = pre (xs ++ [r.1]) (itemsF (valF n) k' r.2) from by rw [heq.out, hst', pre_pre])
                  have hms' := Aside0.mk (show leftAt Q w11 < leftAt Q wr from by rw [leftAt_rd hin11.out, hms.out]; have := hrl.out; have := hM.out; omega)
                  replace hk' := Aside0.mk hk'
                  have hqx' := Aside0.mk (show (xs ++ [r.1]).length + r.2.length ≤ 1000000 from by have := hrl.out; have := hM.out; have := hqx.out; simp; omega)
                  clear hw11 hm11 hm10 hN10 hB10 hB9 hX9 hN9 hout9 hfm9 hin9 hst hst' heq hms hin hout hB hX hN hm hcl hrl hqx q4 q10 q11 p0
                  go_wp2_with fail
                  go_roundw
                  case rel => exact ⟨k', r.2, xs ++ [r.1], _, _, _, hk', hrm, hqx', heq', hin11, hout11, hB11, hX11, hN11, hfm11⟩
                  case measure => exact hms'.out
end Go.Proofs.Ytlmelbnmfhpacaa
