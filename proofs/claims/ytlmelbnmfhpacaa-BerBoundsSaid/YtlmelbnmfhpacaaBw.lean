/- Values as deep as asked (plain); the reference's Decode of long texts. -/
import Derived.Test.YtlmelbnmfhpacaaBv
import Derived.Test.YtlmelbnmfhpacaaBt
set_option linter.unusedVariables false
set_option linter.unusedSimpArgs false
namespace Go.Proofs.Ytlmelbnmfhpacaa
open Go.RowKit Go.Shelf Go.Proofs.YtlmelbnmfhpacaaW.PrintWords Go.Proofs.YtlmelbnmfhpacaaW.PrintMore Go.Proofs.YtlmelbnmfhpacaaW.PrintLast

theorem BvF.within {w : World} {ok : Nat → Prop} {x : T} {A : Option Addr} {c : Nat} {B : Option Addr} {d : Nat} (h : BvF w ok x A c B d) : BvF w (fun q => ok q ∧ q < w.heap.size) x A c B d := ⟨h.lb, Kd.F_bound h.cb, h.li, Kd.F_bound h.ci⟩
theorem one_T {w : World} {g : Nat} {x : T} {A : Option Addr} {c : Nat} {B : Option Addr} {d : Nat} (h : w.heap[g]? = some (.cells #[.int .u8 x.f0, .int .u8 x.f1, .bool x.f2, .slice A x.f3.length c, .slice B x.f4.length d] 26 (0, 0))) (hx : Bv w x A c B d) : kT.C w (some ⟨g, 0, none⟩) 1 [x] := by
  refine ⟨rfl, by decide, fun _ => ⟨⟨g, 0, none⟩, rfl, fun j p hj => ?_⟩⟩
  match j, hj with
  | 0, hj =>
    obtain rfl := Option.some.inj hj
    refine ⟨_, rfl, hx.K, fun i u hu => ?_⟩
    rw [add_plain]
    show w.cell? ⟨g, 0 * 5 + i, none⟩ = _
    refine (cell_of_row _ _ _ _ _ _ h).trans ?_
    match i, hu with
    | 0, hu => exact hu
    | 1, hu => exact hu
    | 2, hu => exact hu
    | 3, hu => exact hu
    | 4, hu => exact hu
    | n + 5, hu => simp [bvs] at hu
  | n + 1, hj => simp at hj
/-- A text in so many lists. -/
def nest : Nat → T
  | 0 => ⟨0, 4, false, [120], []⟩
  | k + 1 => ⟨0, 16, true, [], [nest k]⟩
theorem nest_check : ∀ k : Fin 40, checkN (nest k.val) = if k.val < 16 then 0 else 150 := by decide +kernel
def codeOf : Except Int T → Int
  | .error k => k
  | .ok _ => 0
theorem nest_dec : ∀ k : Fin 40, codeOf (decF (layT (nest k.val))) = if k.val < 16 then 0 else 150 := by decide +kernel
theorem nest_arg : ∀ k : Fin 40, argT (nest k.val) = true := by decide +kernel
theorem nest_len : ∀ k : Fin 40, (layT (nest k.val)).length ≤ 1000 := by decide +kernel
theorem nest_byte : ∀ k, byteT (nest k)
  | 0 => by simp [nest, byteT, byteL]
  | k + 1 => ⟨by omega, by omega, by simp, nest_byte k, trivial⟩
theorem nest_w : ∀ k, wT (nest k) = 2 + k
  | 0 => by simp [nest, wT, wL]
  | k + 1 => by
    have := nest_w k
    simp only [nest, wT, wL, this]
    simp; omega
/-- What Decode ends in, its value aside. -/
theorem dec_code {l : List Int} {w : World} {e : Ending} {w' : World} (h : Decoded (decF l) w e w') : (∃ (y0 y1 : Int) (y2 : Bool) (A8 : Option Addr) (n8 c8 : Nat) (B8 : Option Addr) (k8 d8 : Nat), e = .returned (.tuple #[.agg #[.int .u8 y0, .int .u8 y1, .bool y2, .slice A8 n8 c8, .slice B8 k8 d8], .int .i64 (codeOf (decF l))])) ∧ Below w.heap.size w w' := by
  obtain ⟨h1, h2⟩ := h
  refine ⟨?_, h2⟩
  cases hd : decF l with
  | error k => rw [hd] at h1; exact ⟨_, _, _, _, _, _, _, _, _, h1⟩
  | ok x =>
    rw [hd] at h1
    obtain ⟨A, c, B, d, h1, _⟩ := h1
    exact ⟨_, _, _, _, _, _, _, _, _, h1⟩
theorem zT_dec (n : Nat) (h0 : 65500 ≤ n) (h1 : n ≤ 65560) : codeOf (decF (layT (zT n))) = if n + 4 > 65536 then 3 else 0 := by
  have hc := zT_check n (by omega)
  by_cases c : n + 4 > 65536
  · rw [if_pos c]
    unfold decF
    rw [if_pos (by rw [zT_lay, lenL_len]; (repeat' split) <;> omega)]
    rfl
  · rw [if_neg c] at hc ⊢
    rw [dec_lay hc (zT_byte n)]
    rfl
theorem zT_form (n : Nat) (h0 : 65500 ≤ n) (h1 : n ≤ 65532) : layT (zT n) = 4 :: 130 :: ((n / 256 : Nat) : Int) :: ((n % 256 : Nat) : Int) :: List.replicate n 0 := by
  have : layT (zT n) = (64 * 0 + 4 + (if false = true then 32 else 0)) :: (lenL (if false = true then layL [] else List.replicate n (0 : Int)).length ++ (if false = true then layL [] else List.replicate n (0 : Int))) := rfl
  rw [this]
  simp only [Bool.false_eq_true, if_false, List.length_replicate]
  unfold lenL
  rw [if_neg (by omega), if_neg (by omega), if_pos (by omega)]
  rfl
set_option maxHeartbeats 4000000 in
theorem rdec_no (A : Option Addr) (L c : Nat) (w : World) (h : 65536 < L) : Calls Try.prog 18 #[.slice A L c] w fun e w' => (∃ (y0 y1 : Int) (y2 : Bool) (A8 : Option Addr) (n8 c8 : Nat) (B8 : Option Addr) (k8 d8 : Nat), e = .returned (.tuple #[.agg #[.int .u8 y0, .int .u8 y1, .bool y2, .slice A8 n8 c8, .slice B8 k8 d8], .int .i64 3])) ∧ Below w.heap.size w w' := by
  have hX1 := box_new w (.int .u8 0) (.int .u8 0) (.bool false) (.slice none 0 0) (.slice none 0 0)
  have hb1 := below_alloc (Below.refl w.heap.size w) (.cells #[.int .u8 0, .int .u8 0, .bool false, .slice none 0 0, .slice none 0 0] 26)
  obtain ⟨w1, hw1⟩ : ∃ w1, w.alloc (.cells #[.int .u8 0, .int .u8 0, .bool false, .slice none 0 0, .slice none 0 0] 26) = w1 := ⟨_, rfl⟩
  rw [hw1] at hX1 hb1
  obtain ⟨w2, hw2, hX2, hm2⟩ := put5 hX1 (.int .u8 0) (.int .u8 0) (.bool false) (.slice none 0 0) (.slice none 0 0)
  obtain ⟨a0, a1, a2, a3, a4⟩ := hX1.cells
  obtain ⟨f0, f1, f2, f3, f4⟩ := hX1.free
  obtain ⟨r0, r1, r2, r3, r4⟩ := hX2.cells
  have hfin := Aside0.mk (put5_mod hm2 hb1 (Nat.le_refl _))
  have i1 : (65536 : Int) < (L : Int) := by omega
  replace hX1 := Aside0.mk hX1
  replace hX2 := Aside0.mk hX2
  clear hb1 hm2 h
  go_enter Try.func18, Try.ntmps18
  go_wp2_with fail
  refine bodyPost_ret (v := .tuple #[.agg #[.int .u8 0, .int .u8 0, .bool false, .slice none 0 0, .slice none 0 0], .int .i64 3]) (by simp [results, Try.results18, go_sem, r0, r1, r2, r3, r4]) rfl ⟨⟨_, _, _, _, _, _, _, _, _, rfl⟩, hfin.out⟩
set_option maxHeartbeats 4000000 in
theorem rdec_yes (n : Nat) (A : Option Addr) (c : Nat) (w : World) (h0 : 65500 ≤ n) (h1 : n ≤ 65532) (hC : kU.C w A (n + 4) (layT (zT n))) (hc : n + 4 ≤ c) : Calls Try.prog 18 #[.slice A (n + 4) c] w fun e w' => (∃ (y0 y1 : Int) (y2 : Bool) (A8 : Option Addr) (n8 c8 : Nat) (B8 : Option Addr) (k8 d8 : Nat), e = .returned (.tuple #[.agg #[.int .u8 y0, .int .u8 y1, .bool y2, .slice A8 n8 c8, .slice B8 k8 d8], .int .i64 0])) ∧ Below w.heap.size w w' := by
  rw [zT_form n h0 h1] at hC
  have hX1 := box_new w (.int .u8 0) (.int .u8 0) (.bool false) (.slice none 0 0) (.slice none 0 0)
  have hb1 := below_alloc (Below.refl w.heap.size w) (.cells #[.int .u8 0, .int .u8 0, .bool false, .slice none 0 0, .slice none 0 0] 26)
  obtain ⟨w1, hw1⟩ : ∃ w1, w.alloc (.cells #[.int .u8 0, .int .u8 0, .bool false, .slice none 0 0, .slice none 0 0] 26) = w1 := ⟨_, rfl⟩
  obtain ⟨P, hP⟩ : ∃ P, w.heap.size = P := ⟨_, rfl⟩
  rw [hw1] at hX1 hb1
  rw [hP] at hX1
  have hon := Aside0.mk (rone_calls _ _ (List.replicate n 0) n A c w1 (by omega) (by omega) (by omega) (List.length_replicate ..) h0 h1 (Kd.C_below hC hb1) hc)
  obtain ⟨N, hN⟩ : ∃ N, n + 4 = N := ⟨_, rfl⟩
  rw [hN] at hon hc ⊢
  have i1 : decide ((65536 : Int) < (N : Int)) = false := by simp; omega
  have i2 : (4 + (n : Int) != (N : Int)) = false := by simp; omega
  have i3 : 4 + (n : Int) = (N : Int) := by omega
  have hX1 := Aside0.mk hX1
  have hb1 := Aside0.mk hb1
  have hP9 := Aside0.mk hP
  clear hC hN h0 h1 hc
  go_enter Try.func18, Try.ntmps18
  go_wp2_with fail
  refine hon.out.mono ?_
  rintro e w2 ⟨⟨A2, c2, rfl⟩, hb2⟩
  have hX2 := hX1.out.below hb2
  obtain ⟨w3, w4, hw3, hw4, hV3, hV4, hb24⟩ := boxed w2 ⟨0, 4, false, List.replicate n 0, []⟩ A2 c2 none 0
  dsimp only at hw4 hV4
  rw [List.length_replicate] at hw4 hV4
  simp only [List.length_nil] at hw4 hV4
  obtain ⟨V, hV⟩ : ∃ V, w2.heap.size = V := ⟨_, rfl⟩
  rw [hV] at hV3 hV4 hw4
  have hX4 := hX2.below hb24
  have hPV : P < V := by have := hX2.lt; omega
  obtain ⟨w5, hw5, hX5, hm5⟩ := put5 hX4 (.int .u8 0) (.int .u8 4) (.bool false) (.slice A2 n c2) (.slice none 0 0)
  obtain ⟨a0, a1, a2, a3, a4⟩ := hV3.cells
  obtain ⟨f0, f1, f2, f3, f4⟩ := hV3.free
  obtain ⟨e0, e1, e2, e3, e4⟩ := hV4.cells
  obtain ⟨m0, m1, m2, m3, m4⟩ := hX4.cells
  obtain ⟨o0, o1, o2, o3, o4⟩ := hX4.free
  obtain ⟨r0, r1, r2, r3, r4⟩ := hX5.cells
  have hfin := Aside0.mk (put5_mod hm5 (below_then (below_then hb1.out hb1.out.size hb2) (below_then hb1.out hb1.out.size hb2).size hb24) (by have := hP9.out; omega))
  replace hX5 := Aside0.mk hX5
  replace hV3 := Aside0.mk hV3
  replace hV4 := Aside0.mk hV4
  clear hb2 hb24 hm5 hX4 hX2 hon
  go_wp2_with fail
  refine bodyPost_ret (v := .tuple #[.agg #[.int .u8 0, .int .u8 4, .bool false, .slice A2 n c2, .slice none 0 0], .int .i64 0]) (by simp [results, Try.results18, go_sem, r0, r1, r2, r3, r4]) rfl ⟨⟨_, _, _, _, _, _, _, _, _, rfl⟩, hfin.out⟩
end Go.Proofs.Ytlmelbnmfhpacaa
