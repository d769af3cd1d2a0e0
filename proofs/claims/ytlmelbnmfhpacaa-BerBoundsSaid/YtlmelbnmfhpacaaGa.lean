/- ber.whole. -/
import Derived.Test.YtlmelbnmfhpacaaAa
import Derived.Test.YtlmelbnmfhpacaaAb
set_option linter.unusedVariables false
set_option linter.unusedSimpArgs false
namespace Go.Proofs.Ytlmelbnmfhpacaa
open Go.RowKit Go.Shelf Go.Proofs.YtlmelbnmfhpacaaW.PrintWords Go.Proofs.YtlmelbnmfhpacaaW.PrintMore Go.Proofs.YtlmelbnmfhpacaaW.PrintLast

/-- Shifted by so many bytes. -/
def sh : Nat → Int → Int
  | 0, n => n
  | k + 1, n => sh k n / 256
theorem sh_range {n : Int} (h : -9223372036854775808 ≤ n ∧ n ≤ 9223372036854775807) : ∀ k, -9223372036854775808 ≤ sh k n ∧ sh k n ≤ 9223372036854775807 := by
  intro k
  induction k with
  | zero => exact h
  | succ k ih => unfold sh; omega
/-- The lowest k bytes, the lowest ahead. -/
def le (n : Int) (k : Nat) : List Int := (List.range k).map fun i => sh i n % 256
theorem le_next (n : Int) (k : Nat) : le n (k + 1) = le n k ++ [sh k n % 256] := by unfold le; rw [List.range_succ, List.map_append]; rfl
theorem le_length (n : Int) (k : Nat) : (le n k).length = k := by unfold le; simp
/-- May the first byte be left out? -/
def trims : List Int → Bool
  | a :: b :: _ => (a == 0 && decide (b < 128)) || (a == 255 && decide (128 ≤ b))
  | _ => false
def trim : List Int → List Int
  | [] => []
  | a :: l => if trims (a :: l) then trim l else a :: l
/-- A whole number's bytes. -/
def wholeL (n : Int) : List Int := trim (le n 8).reverse
theorem trim_yes {a : Int} {l : List Int} (h : trims (a :: l) = true) : trim (a :: l) = trim l := by rw [trim, if_pos h]
theorem trim_no {l : List Int} (h : trims l = false) : trim l = l := by
  cases l with
  | nil => rfl
  | cons a l => rw [trim, if_neg (by rw [h]; simp)]
theorem reverse8 (a b c d e f g h : Int) : PBerEncodes.slices_Reverse_byte_byte.f 6 [a, b, c, d, e, f, g, h] = some [h, g, f, e, d, c, b, a] := by
  simp [PBerEncodes.slices_Reverse_byte_byte.f, PBerEncodes.slices_Reverse_byte_byte.l0, wrap64, rd]
theorem le8 (n : Int) : le n 8 = [sh 0 n % 256, sh 1 n % 256, sh 2 n % 256, sh 3 n % 256, sh 4 n % 256, sh 5 n % 256, sh 6 n % 256, sh 7 n % 256] := by rfl
theorem reverse_le (n : Int) : PBerEncodes.slices_Reverse_byte_byte.f 6 (le n 8) = some (le n 8).reverse := by rw [le8]; exact reverse8 _ _ _ _ _ _ _ _
theorem le_bytes (n : Int) (k : Nat) : ∀ x ∈ le n k, 0 ≤ x ∧ x < 256 := by
  intro x hx
  unfold le at hx
  obtain ⟨i, _, rfl⟩ := List.mem_map.1 hx
  omega
theorem trim_mem : ∀ (l : List Int), ∀ x ∈ trim l, x ∈ l := by
  intro l
  induction l with
  | nil => intro x hx; exact hx
  | cons a l ih =>
    intro x hx
    cases h : trims (a :: l) with
    | true => rw [trim_yes h] at hx; exact List.mem_cons_of_mem _ (ih x hx)
    | false => rw [trim_no h] at hx; exact hx
theorem trim_pos : ∀ (l : List Int), l ≠ [] → 1 ≤ (trim l).length := by
  intro l
  induction l with
  | nil => intro h; exact absurd rfl h
  | cons a l ih =>
    intro _
    cases h : trims (a :: l) with
    | true =>
      rw [trim_yes h]
      refine ih ?_
      rintro rfl
      cases h
    | false => rw [trim_no h]; simp
theorem trim_le : ∀ (l : List Int), (trim l).length ≤ l.length := by
  intro l
  induction l with
  | nil => exact Nat.le_refl _
  | cons a l ih =>
    cases h : trims (a :: l) with
    | true => rw [trim_yes h]; simp; omega
    | false => rw [trim_no h]; exact Nat.le_refl _
theorem wholeL_bytes (n : Int) : ∀ x ∈ wholeL n, 0 ≤ x ∧ x < 256 := fun x hx => le_bytes n 8 x (by have := trim_mem _ x hx; simpa using this)
theorem wholeL_length (n : Int) : 1 ≤ (wholeL n).length ∧ (wholeL n).length ≤ 8 := by
  have h1 := trim_pos (le n 8).reverse (by rw [le8]; simp)
  have h2 := trim_le (le n 8).reverse
  rw [List.length_reverse, le_length] at h2
  exact ⟨h1, h2⟩
theorem slice_from (A : Option Addr) (M c m : Nat) (i : Int) (hi : i = (m : Int)) (hm : m ≤ M) : ∀ w', (Instr.slice 23 (.slice A M c) (some (.int .i64 i)) none none).run Try.prog w' = .ok (.slice (if c = m then A else A.map (·.add (m * kU.sz))) (M - m) (c - m)) w' := by
  intro w'
  subst hi
  rw [run_slice_l (P := Try.prog) (w := w') 23 A M c (by kernel_rfl) .i64 (m : Int) (by omega) (by omega)]
  rw [show (Go.sizeOf (Try.prog.elem 23)).run Try.prog w' = .ok 1 w' by kernel_rfl]
  show Result.ok (sliced A ((m : Int).toNat) M c 1) w' = _
  rw [show ((m : Int).toNat) = m from rfl]
  unfold sliced
  rfl
theorem u8_at {w : World} {A : Option Addr} {n : Nat} {xs : List Int} (h : kU.C w A n xs) (i : Nat) (hi : i < xs.length) : ∃ ad, A = some ad ∧ w.cell? (ad.add i) = some (.int .u8 xs[i]) := by
  have hn : xs.length = n := h.1
  obtain ⟨ad, e, hc⟩ := h.2.2 (by omega)
  obtain ⟨cs, _, hk, hcell⟩ := hc i xs[i] (List.getElem?_eq_getElem hi)
  have hk' : cs = [.int .u8 xs[i]] := hk
  subst hk'
  have := hcell 0 _ rfl
  rw [show i * kU.sz + 0 = i from Nat.mul_one i] at this
  exact ⟨ad, e, this⟩
theorem R_base {α : Type} {d : Kd α} {e : Nat} {w : World} {base n c : Nat} {ok : Nat → Prop} {A : Option Addr} {xs : List α} (h : d.R e w base ok (.slice A n c) xs) : ∀ ad, A = some ad → base ≤ ad.block := by
  obtain ⟨_, inner, ho, _⟩ := h
  intro ad e
  rcases ho.2 with ⟨h', _⟩ | ⟨g, cap, cur, h', hb, _⟩
  · injection h' with h1 _ _; rw [h1] at e; cases e
  · injection h' with h1 _ _; rw [h1] at e; injection e with e; subst e; exact hb
set_option maxHeartbeats 2000000 in
theorem whole_calls (n : Int) (w : World) (hn : -9223372036854775808 ≤ n ∧ n ≤ 9223372036854775807) :
    Calls Try.prog 44 #[.int .i64 n] w fun e w' => ∃ A c, e = .returned (.slice A (wholeL n).length c) ∧ (wholeL n).length ≤ c ∧ kU.F w' (fun q => w.heap.size ≤ q) A (wholeL n).length (wholeL n) ∧ Below w.heap.size w w' := by
  have HB := Aside0.mk (Below.refl w.heap.size w)
  go_enter Try.func44, Try.ntmps44
  go_wp2_with fail
  go_loopw [0, 3, 4] (fun s0 s3 s4 wr => ∃ k : Nat, k ≤ 8 ∧ s0 = .int .i64 (sh k n) ∧ s4 = .int .i64 k ∧ Aside0 (Below w.heap.size w wr) ∧ Aside0 (Kd.R kU 5 wr w.heap.size (fun _ => True) s3 (le n k))) (fun _ _ s4 _ => 8 - (intOf s4).toNat)
  case atStart => exact ⟨0, Nat.zero_le _, rfl, rfl, HB, ⟨Kd.R_nil _ _ _ _ _⟩⟩
  case round =>
    clear HB
    obtain ⟨k, hk, rfl, rfl, HB, HO⟩ := hrel
    obtain ⟨r1, r2⟩ := sh_range hn k
    by_cases hlt : k < 8
    · have hnx := Aside0.mk (le_next n k)
      have hsh : Aside0 (sh k n / 256 = sh (k + 1) n) := ⟨rfl⟩
      have hll := Aside0.mk (le_length n k)
      obtain ⟨x, hx⟩ : ∃ x, sh k n = x := ⟨_, rfl⟩
      rw [hx] at r1 r2 hnx hsh ⊢
      clear hx
      have i1 : (k : Int) < 8 := by omega
      go_wp2_with (first | ((with_reducible refine gate_builtin (b := .append) (xs := #[.tmp 6, .tmp 9]) rfl ?_); at_builtin; (refine Kd.R_append kU (w0 := w) w.heap.size rfl (.tmp 6) (.tmp 9) 23 5 (.int .u8 0) 1 rfl Try.underlying23 PBerEncodes.info5 rfl (by decide) (by omega) u3 (le n k) (x % 256) [.int .u8 (x % 256)] (fun _ => True) (fun _ => False) rfl rfl ?aP (fun _ hk => hk.elim) ?aF ?aO ?aB ?aS ?aL ?_); (case aP => exact rfl); (case aB => exact HB.out); (case aF => exact (fun _ _ => trivial)); (case aO => exact HO.out); (case aS => exact HB.out.size); (case aL => have := hll.out; omega); intro v1 w1 ho hb hg hat; replace ho := Aside0.mk ho; replace hb := Aside0.mk hb))
      go_roundw
      case rel => exact ⟨k + 1, by omega, by rw [← hsh.out], by go_num, hb, by rw [hnx.out]; exact ho⟩
      case measure => simp [intOf]; omega
    · obtain rfl : k = 8 := by omega
      have hrev := Aside0.mk (reverse_le n)
      have hle := Aside0.mk (le_length n 8)
      have hfin : wholeL n = trim (le n 8).reverse := rfl
      obtain ⟨L, hL⟩ : ∃ L, le n 8 = L := ⟨_, rfl⟩
      rw [hL] at HO hrev hle hfin
      obtain ⟨A0, c0, e0⟩ := Kd.R_slice HO.out
      rw [hle.out] at e0
      subst e0
      have hcall := Aside0.mk (PBerEncodes.slices_Reverse_byte_byte.calls 6 (fun k_ => some k_ = (.slice A0 8 c0 : Value).ownBlock) (.slice A0 8 c0) L L.reverse w wr HB.out (Kd.R_tight rfl HO.out) hrev.out)
      go_wp2_with fail
      refine hcall.out.mono ?_
      rintro e w1 ⟨rfl, hR, hb, hkp⟩
      obtain ⟨A1, c1, e1, hc1, hC1⟩ := Kd.R_reads hR
      rw [List.length_reverse, hle.out] at e1 hc1 hC1
      injection e1 with e1 _ e2
      subst e1; subst e2
      have hbase := Aside0.mk (R_base hR)
      clear hcall hR hkp HO HB hrev
      obtain ⟨xs, hxs⟩ : ∃ xs, L.reverse = xs := ⟨_, rfl⟩
      have hxl : xs.length = 8 := by rw [← hxs, List.length_reverse]; exact hle.out
      have hxb : ∀ x ∈ xs, 0 ≤ x ∧ x < 256 := fun x hx => le_bytes n 8 x (by rw [hL]; rw [← hxs] at hx; simpa using hx)
      rw [hxs] at hC1 hfin
      clear hxs hle hL
      replace hfin := Aside0.mk hfin
      replace hb := Aside0.mk hb
      replace hC1 := Aside0.mk (show kU.C w1 A0 xs.length xs from by rw [hxl]; exact hC1)
      replace hxb := Aside0.mk hxb
      replace hxl := Aside0.mk hxl
      go_wp2_with fail
      go_loopw [3] (fun s3 wr => ∃ (j : Nat) (A : Option Addr) (c : Nat), Aside0 (j ≤ 7) ∧ s3 = .slice A (xs.drop j).length c ∧ Aside0 ((xs.drop j).length ≤ c) ∧ Aside0 (kU.C wr A (xs.drop j).length (xs.drop j)) ∧ Aside0 (trim (xs.drop j) = wholeL n) ∧ Aside0 (∀ ad, A = some ad → w.heap.size ≤ ad.block) ∧ wr = w1) (fun s3 _ => match s3 with | .slice _ n _ => n | _ => 0)
      case atStart => exact ⟨0, A0, c0, ⟨by omega⟩, by rw [List.drop_zero, hxl.out], ⟨by rw [List.drop_zero, hxl.out]; exact hc1⟩, ⟨by rw [List.drop_zero]; exact hC1.out⟩, ⟨by rw [List.drop_zero]; exact hfin.out.symm⟩, hbase, rfl⟩
      case round =>
        clear hC1 hfin hc1 hbase
        obtain ⟨j, A, c, hj, rfl, hc, hC, hf, hbs, rfl⟩ := hrel
        obtain ⟨ys, hys⟩ : ∃ ys, xs.drop j = ys := ⟨_, rfl⟩
        have hyl : ys.length = 8 - j := by rw [← hys, List.length_drop, hxl.out]
        have hyb : ∀ x ∈ ys, 0 ≤ x ∧ x < 256 := fun x hx => hxb.out x (List.mem_of_mem_drop (by rw [hys]; exact hx))
        rw [hys] at hc hC hf ⊢
        match ys, hyl, hyb, hc, hC, hf, hys with
        | [], hyl, _, _, _, _, _ => exact absurd hj.out (by simp at hyl; omega)
        | [a], hyl, hyb, hc, hC, hf, hys =>
          have hlen : ([a] : List Int).length = 1 := rfl
          rw [trim_no rfl] at hf
          have hres := Aside0.mk (show ∃ A' c', Value.slice A 1 c = Value.slice A' (wholeL n).length c' ∧ (wholeL n).length ≤ c' ∧ kU.F wr (fun q => w.heap.size ≤ q) A' (wholeL n).length (wholeL n) from by rw [← hf.out]; exact ⟨A, c, rfl, hc.out, kU_F hC.out (fun ad e _ => hbs.out ad e)⟩)
          rw [hlen]
          clear hC hc hf hys hyl hyb hxb hxl
          go_wp2_with fail
          go_ret
          obtain ⟨A', c', h1, h2, h3⟩ := hres.out
          exact ⟨A', c', by rw [← h1]; rfl, h2, h3, hb.out⟩
        | a :: b :: zs, hyl, hyb, hc, hC, hf, hys =>
          obtain ⟨ad, e, p0⟩ := u8_at hC.out 0 (by simp)
          obtain ⟨ad', e', p1⟩ := u8_at hC.out 1 (by simp)
          subst e
          injection e' with e'
          subst e'
          have ha := hyb a (by simp)
          have hbb := hyb b (by simp)
          have p0' : wr.cell? (ad.add 0) = some (.int .u8 a) := p0
          have p0'' : wr.cell? ad = some (.int .u8 a) := by rw [show ad = ad.add 0 from by simp [Addr.add]]; exact p0
          have p1' : wr.cell? ⟨ad.block, ad.off + 1, none⟩ = some (.int .u8 b) := by rw [show (⟨ad.block, ad.off + 1, none⟩ : Addr) = ad.add 1 from by simp [Addr.add]]; exact p1
          clear p0 p1
          have hj6 : j ≤ 6 := by simp at hyl; omega
          obtain ⟨N, hN⟩ : ∃ N, (a :: b :: zs).length = N := ⟨_, rfl⟩
          have hN2 : 2 ≤ N := by rw [← hN]; simp
          have hN8 : N ≤ 8 := by omega
          have hnext : trims (a :: b :: zs) = true → Aside0 (∃ A' c', Value.slice (if c = 1 then some ad else (some ad).map (·.add (1 * kU.sz))) (N - 1) (c - 1) = .slice A' (xs.drop (j + 1)).length c' ∧ (xs.drop (j + 1)).length ≤ c' ∧ kU.C wr A' (xs.drop (j + 1)).length (xs.drop (j + 1)) ∧ trim (xs.drop (j + 1)) = wholeL n ∧ (∀ ad, A' = some ad → w.heap.size ≤ ad.block) ∧ (xs.drop (j + 1)).length < N) := by
            intro ht
            have hd : xs.drop (j + 1) = b :: zs := by rw [← List.drop_drop, hys]; rfl
            rw [hd]
            have hC2 := Kd.C_drop (m := 1) (c := c) hC.out (by simp) hc.out
            have hl1 : (b :: zs).length = N - 1 := by rw [← hN]; rfl
            refine ⟨_, _, by rw [hl1], ?_, hC2, ?_, ?_, by rw [hl1]; omega⟩
            · rw [hl1]; have := hc.out; rw [hN] at this; omega
            · rw [← trim_yes ht]; exact hf.out
            · intro ad2 e2
              have h1 := hbs.out ad rfl
              split at e2
              · injection e2 with e2; subst e2; exact h1
              · injection e2 with e2; subst e2; rw [add_block]; exact h1
          have hstop : trims (a :: b :: zs) = false → Aside0 (∃ A' c', Value.slice (some ad) N c = Value.slice A' (wholeL n).length c' ∧ (wholeL n).length ≤ c' ∧ kU.F wr (fun q => w.heap.size ≤ q) A' (wholeL n).length (wholeL n)) := by
            intro ht
            have hf' := hf.out
            rw [trim_no ht] at hf'
            refine ⟨some ad, c, ?_, ?_, ?_⟩
            · rw [← hf', hN]
            · rw [← hf']; exact hc.out
            · rw [← hf']; exact kU_F hC.out (fun ad e _ => hbs.out ad e)
          have hsl := slice_from (some ad) N c 1 1 rfl (by omega)
          rw [hN]
          obtain ⟨A2, hA2⟩ : ∃ A2, (if c = 1 then some ad else (some ad).map (·.add (1 * kU.sz))) = A2 := ⟨_, rfl⟩
          rw [hA2] at hsl hnext
          have i1 : (1 : Int) < (N : Int) := by omega
          clear hC hc hf hys hyl hyb hA2 hxb hxl hN
          obtain ⟨ha0, ha1⟩ := ha
          obtain ⟨hb0, hb1⟩ := hbb
          by_cases c0 : a = 0
          · subst c0
            by_cases c1 : b < 128
            · obtain ⟨A3, c3, h1, h2, h3, h4, h6, h5⟩ := (hnext (by unfold trims; simp [c1])).out
              rw [h1] at hsl
              replace h2 := Aside0.mk h2
              replace h3 := Aside0.mk h3
              replace h4 := Aside0.mk h4
              replace h5 := Aside0.mk h5
              replace h6 := Aside0.mk h6
              clear hnext hstop h1
              go_wp2_with fail
              go_roundw
              case rel => exact ⟨j + 1, A3, c3, ⟨by omega⟩, by rw [List.length_drop], h2, h3, h4, h6, trivial⟩
              case measure => exact (show xs.length - (j + 1) < N from by have := h5.out; rwa [List.length_drop] at this)
            · have c2 : 128 ≤ b := by omega
              have hres := hstop (by unfold trims; simp [c1])
              clear hnext hstop hsl
              go_wp2_with fail
              go_ret
              obtain ⟨A', c', h1, h2, h3⟩ := hres.out
              exact ⟨A', c', by rw [← h1]; rfl, h2, h3, hb.out⟩
          · by_cases c3 : a = 255
            · subst c3
              by_cases c1 : 128 ≤ b
              · obtain ⟨A3, c3, h1, h2, h3, h4, h6, h5⟩ := (hnext (by unfold trims; simp [c1])).out
                rw [h1] at hsl
                replace h2 := Aside0.mk h2
                replace h3 := Aside0.mk h3
                replace h4 := Aside0.mk h4
                replace h5 := Aside0.mk h5
                replace h6 := Aside0.mk h6
                clear hnext hstop h1
                go_wp2_with fail
                go_roundw
                case rel => exact ⟨j + 1, A3, c3, ⟨by omega⟩, by rw [List.length_drop], h2, h3, h4, h6, trivial⟩
                case measure => exact (show xs.length - (j + 1) < N from by have := h5.out; rwa [List.length_drop] at this)
              · have c2 : b < 128 := by omega
                have hres := hstop (by unfold trims; simp [c1])
                clear hnext hstop hsl
                go_wp2_with fail
                go_ret
                obtain ⟨A', c', h1, h2, h3⟩ := hres.out
                exact ⟨A', c', by rw [← h1]; rfl, h2, h3, hb.out⟩
            · have c4 : (a == 0) = false := by simpa using c0
              have c5 : (a == 255) = false := by simpa using c3
              have hres := hstop (by unfold trims; simp [c4, c5, c0, c3])
              clear hnext hstop hsl
              go_wp2_with fail
              go_ret
              obtain ⟨A', c', h1, h2, h3⟩ := hres.out
              exact ⟨A', c', by rw [← h1]; rfl, h2, h3, hb.out⟩
end Go.Proofs.Ytlmelbnmfhpacaa

/- ber.Int, ber.Enum, ber.Truth. -/
set_option linter.unusedVariables false
set_option linter.unusedSimpArgs false
namespace Go.Proofs.Ytlmelbnmfhpacaa
open Go.RowKit Go.Shelf Go.Proofs.YtlmelbnmfhpacaaW.PrintWords Go.Proofs.YtlmelbnmfhpacaaW.PrintMore Go.Proofs.YtlmelbnmfhpacaaW.PrintLast

set_option maxHeartbeats 1000000 in
theorem int_calls (n : Int) (w : World) (hn : -9223372036854775808 ≤ n ∧ n ≤ 9223372036854775807) : Calls Try.prog 22 #[.int .i64 n] w (Gives ⟨0, 2, false, wholeL n, []⟩ w) := by
  have hB := box_new w (.int .u8 0) (.int .u8 0) (.bool false) (.slice none 0 0) (.slice none 0 0)
  have hb1 := below_alloc (Below.refl w.heap.size w) (.cells #[.int .u8 0, .int .u8 0, .bool false, .slice none 0 0, .slice none 0 0] 26)
  obtain ⟨w1, hw1⟩ : ∃ w1, w.alloc (.cells #[.int .u8 0, .int .u8 0, .bool false, .slice none 0 0, .slice none 0 0] 26) = w1 := ⟨_, rfl⟩
  have hz := Aside0.mk (show w1.heap.size = w.heap.size + 1 from by rw [← hw1]; simp)
  rw [hw1] at hB hb1
  have hw := Aside0.mk (whole_calls n w1 hn)
  replace hB := Aside0.mk hB
  replace hb1 := Aside0.mk hb1
  have hwb := Aside0.mk (wholeL_length n)
  obtain ⟨L, hL⟩ : ∃ L, wholeL n = L := ⟨_, rfl⟩
  rw [hL] at hw hwb ⊢
  clear hL
  go_enter Try.func22, Try.ntmps22
  go_wp2_with fail
  refine hw.out.mono ?_
  rintro e w2 ⟨A, c, rfl, hc, hF, hb⟩
  have hB2 := hB.out.below hb
  obtain ⟨w3, hw3, hB3, hm3⟩ := put5 hB2 (.int .u8 0) (.int .u8 2) (.bool false) (.slice A L.length c) (.slice none 0 0)
  have hF3 := Aside0.mk (Kd.F_mono (ok' := fun q => w.heap.size ≤ q) (F_mod hF hm3 (fun q hq h => by have := hz.out; omega)) (fun q hq => by have := hz.out; omega))
  have hb3 := Aside0.mk (put5_mod hm3 (below_then hb1.out hb1.out.size hb) (Nat.le_refl _))
  obtain ⟨c0, c1, c2, c3, c4⟩ := hB2.cells
  obtain ⟨f0, f1, f2, f3, f4⟩ := hB2.free
  obtain ⟨d0, d1, d2, d3, d4⟩ := hB3.cells
  replace hc := Aside0.mk hc
  clear hw hb1 hB hB2 hB3 hm3 hF hb
  go_wp2_with fail
  refine bodyPost_ret (v := .agg #[.int .u8 0, .int .u8 2, .bool false, .slice A L.length c, .slice none 0 0]) (by simp [results, Try.results22, go_sem, d0, d1, d2, d3, d4]) rfl ⟨⟨A, c, none, 0, rfl, ⟨hc.out, hF3.out, Nat.le_refl _, Kd.F_nil _ _ _⟩⟩, hb3.out⟩
set_option maxHeartbeats 1000000 in
theorem enum_calls (n : Int) (w : World) (hn : -9223372036854775808 ≤ n ∧ n ≤ 9223372036854775807) : Calls Try.prog 23 #[.int .i64 n] w (Gives ⟨0, 10, false, wholeL n, []⟩ w) := by
  have hB := box_new w (.int .u8 0) (.int .u8 0) (.bool false) (.slice none 0 0) (.slice none 0 0)
  have hb1 := below_alloc (Below.refl w.heap.size w) (.cells #[.int .u8 0, .int .u8 0, .bool false, .slice none 0 0, .slice none 0 0] 26)
  obtain ⟨w1, hw1⟩ : ∃ w1, w.alloc (.cells #[.int .u8 0, .int .u8 0, .bool false, .slice none 0 0, .slice none 0 0] 26) = w1 := ⟨_, rfl⟩
  have hz := Aside0.mk (show w1.heap.size = w.heap.size + 1 from by rw [← hw1]; simp)
  rw [hw1] at hB hb1
  have hw := Aside0.mk (whole_calls n w1 hn)
  replace hB := Aside0.mk hB
  replace hb1 := Aside0.mk hb1
  have hwb := Aside0.mk (wholeL_length n)
  obtain ⟨L, hL⟩ : ∃ L, wholeL n = L := ⟨_, rfl⟩
  rw [hL] at hw hwb ⊢
  clear hL
  go_enter Try.func23, Try.ntmps23
  go_wp2_with fail
  refine hw.out.mono ?_
  rintro e w2 ⟨A, c, rfl, hc, hF, hb⟩
  have hB2 := hB.out.below hb
  obtain ⟨w3, hw3, hB3, hm3⟩ := put5 hB2 (.int .u8 0) (.int .u8 10) (.bool false) (.slice A L.length c) (.slice none 0 0)
  have hF3 := Aside0.mk (Kd.F_mono (ok' := fun q => w.heap.size ≤ q) (F_mod hF hm3 (fun q hq h => by have := hz.out; omega)) (fun q hq => by have := hz.out; omega))
  have hb3 := Aside0.mk (put5_mod hm3 (below_then hb1.out hb1.out.size hb) (Nat.le_refl _))
  obtain ⟨c0, c1, c2, c3, c4⟩ := hB2.cells
  obtain ⟨f0, f1, f2, f3, f4⟩ := hB2.free
  obtain ⟨d0, d1, d2, d3, d4⟩ := hB3.cells
  replace hc := Aside0.mk hc
  clear hw hb1 hB hB2 hB3 hm3 hF hb
  go_wp2_with fail
  refine bodyPost_ret (v := .agg #[.int .u8 0, .int .u8 10, .bool false, .slice A L.length c, .slice none 0 0]) (by simp [results, Try.results23, go_sem, d0, d1, d2, d3, d4]) rfl ⟨⟨A, c, none, 0, rfl, ⟨hc.out, hF3.out, Nat.le_refl _, Kd.F_nil _ _ _⟩⟩, hb3.out⟩
set_option maxHeartbeats 1000000 in
theorem truth_calls (b : Bool) (w : World) : Calls Try.prog 28 #[.bool b] w (Gives ⟨0, 1, false, [if b then 255 else 0], []⟩ w) := by
  have hB := box_new w (.int .u8 0) (.int .u8 0) (.bool false) (.slice none 0 0) (.slice none 0 0)
  have hb1 := below_alloc (Below.refl w.heap.size w) (.cells #[.int .u8 0, .int .u8 0, .bool false, .slice none 0 0, .slice none 0 0] 26)
  obtain ⟨w1, hw1⟩ : ∃ w1, w.alloc (.cells #[.int .u8 0, .int .u8 0, .bool false, .slice none 0 0, .slice none 0 0] 26) = w1 := ⟨_, rfl⟩
  have hz := Aside0.mk (show w1.heap.size = w.heap.size + 1 from by rw [← hw1]; simp)
  rw [hw1] at hB hb1
  obtain ⟨n, hn⟩ : ∃ n : Int, (if b then 255 else 0) = n := ⟨_, rfl⟩
  have hb2 := below_then hb1 hb1.size (below_alloc (Below.refl w1.heap.size w1) (.cells #[.int .u8 n] 5))
  have hB2 := hB.below (below_alloc (Below.refl w1.heap.size w1) (.cells #[.int .u8 n] 5))
  have hC : kU.C (w1.alloc (.cells #[.int .u8 n] 5)) (some ⟨w1.heap.size, 0, none⟩) 1 [n] := by
    refine ⟨rfl, by decide, fun _ => ⟨_, rfl, fun j p hj => ?_⟩⟩
    have hj0 : j = 0 := by have := (List.getElem?_eq_some_iff.1 hj).1; simp at this; omega
    subst hj0
    obtain rfl := Option.some.inj hj
    refine ⟨[.int .u8 n], rfl, rfl, fun i u hu => ?_⟩
    have hi : i = 0 := by have := (List.getElem?_eq_some_iff.1 hu).1; simp at this; omega
    subst hi
    obtain rfl := Option.some.inj hu
    exact (cell_of_row _ _ _ _ _ _ (heap_alloc_new w1 (.cells #[.int .u8 n] 5))).trans rfl
  have hF := kU_F (ok := fun q => w1.heap.size ≤ q) hC (fun ad e _ => by injection e with e; subst e; exact Nat.le_refl _)
  obtain ⟨w2, hw2⟩ : ∃ w2, w1.alloc (.cells #[.int .u8 n] 5) = w2 := ⟨_, rfl⟩
  rw [hw2] at hb2 hB2 hF
  clear hC
  obtain ⟨w3, hw3, hB3, hm3⟩ := put5 hB2 (.int .u8 0) (.int .u8 1) (.bool false) (.slice (some ⟨w1.heap.size, 0, none⟩) 1 1) (.slice none 0 0)
  have hF3 := Aside0.mk (Kd.F_mono (ok' := fun q => w.heap.size ≤ q) (F_mod hF hm3 (fun q hq h => by have := hz.out; omega)) (fun q hq => by have := hz.out; omega))
  have hb3 := Aside0.mk (put5_mod hm3 hb2 (Nat.le_refl _))
  obtain ⟨c0, c1, c2, c3, c4⟩ := hB2.cells
  obtain ⟨f0, f1, f2, f3, f4⟩ := hB2.free
  obtain ⟨d0, d1, d2, d3, d4⟩ := hB3.cells
  clear hb1 hB hB2 hB3 hm3 hF hb2
  rw [show (⟨0, 1, false, [if b then 255 else 0], []⟩ : T) = ⟨0, 1, false, [n], []⟩ from by rw [hn]]
  cases b with
  | true =>
    obtain rfl : n = 255 := hn.symm
    go_enter Try.func28, Try.ntmps28
    go_wp2_with fail
    refine bodyPost_ret (v := .agg #[.int .u8 0, .int .u8 1, .bool false, .slice (some ⟨w1.heap.size, 0, none⟩) 1 1, .slice none 0 0]) (by simp [results, Try.results28, go_sem, d0, d1, d2, d3, d4]) rfl ⟨⟨_, 1, none, 0, rfl, ⟨Nat.le_refl _, hF3.out, Nat.le_refl _, Kd.F_nil _ _ _⟩⟩, hb3.out⟩
  | false =>
    obtain rfl : n = 0 := hn.symm
    go_enter Try.func28, Try.ntmps28
    go_wp2_with fail
    refine bodyPost_ret (v := .agg #[.int .u8 0, .int .u8 1, .bool false, .slice (some ⟨w1.heap.size, 0, none⟩) 1 1, .slice none 0 0]) (by simp [results, Try.results28, go_sem, d0, d1, d2, d3, d4]) rfl ⟨⟨_, 1, none, 0, rfl, ⟨Nat.le_refl _, hF3.out, Nat.le_refl _, Kd.F_nil _ _ _⟩⟩, hb3.out⟩
end Go.Proofs.Ytlmelbnmfhpacaa

/- Cells as they are; slices.Clone of bytes and of values. -/
set_option linter.unusedVariables false
set_option linter.unusedSimpArgs false
namespace Go.Proofs.Ytlmelbnmfhpacaa
open Go.RowKit Go.Shelf Go.Proofs.YtlmelbnmfhpacaaW.PrintWords Go.Proofs.YtlmelbnmfhpacaaW.PrintMore Go.Proofs.YtlmelbnmfhpacaaW.PrintLast

/-- Five cells, as they are. -/
def raw : Kd (List Value) where
  sz := 5
  E := []
  K := fun _ x cs => cs = x ∧ x.length = 5 ∧ ∀ u ∈ x, u.oneCell' = true
  M := fun _ _ _ x cs => cs = x ∧ x.length = 5 ∧ ∀ u ∈ x, u.oneCell' = true
  K_len := fun h => by rw [h.1]; exact h.2.1
  K_one := fun h u hu => by rw [h.1] at hu; exact h.2.2 u hu
  K_below := fun _ h => h
  K_of_M := fun h => h
  M_mono := fun _ h => h
  M_bound := fun h => h
  M_move := fun _ h => h
  M_lower := fun _ h => h
/-- Each value is told by its cells, whatever becomes of the blocks that are not ok. -/
def Told (w : World) (ok : Nat → Prop) (xs : List T) (css : List (List Value)) : Prop := xs.length = css.length ∧ ∀ (j : Nat) (x : T) (cs : List Value), xs[j]? = some x → css[j]? = some cs → Kd.FK kT w ok x cs
theorem Told.below {w w' : World} {ok : Nat → Prop} {xs : List T} {css : List (List Value)} (h : Told w ok xs css) (hb : Below w.heap.size w w') : Told w' ok xs css := ⟨h.1, fun j x cs hx hc => Kd.FK_below (h.2 j x cs hx hc) hb⟩
theorem Told.mod {w w' : World} {ok S : Nat → Prop} {xs : List T} {css : List (List Value)} (h : Told w ok xs css) (hm : Mod S w w') (hn : ∀ q, ok q → ¬ S q) : Told w' ok xs css := ⟨h.1, fun j x cs hx hc => Kd.FK_step (h.2 j x cs hx hc) (fun k hk hlt => hm.block k hlt (hn k hk))⟩
theorem Told.mono {w : World} {ok ok' : Nat → Prop} {xs : List T} {css : List (List Value)} (h : Told w ok xs css) (hk : ∀ q, ok q → ok' q) : Told w ok' xs css := ⟨h.1, fun j x cs hx hc => Kd.FK_mono (h.2 j x cs hx hc) hk⟩
/-- A row of values that came in: its cells. -/
theorem raw_of_C {w : World} {A : Option Addr} {n : Nat} {xs : List T} (h : kT.C w A n xs) : ∃ css, raw.C w A n css ∧ Told w (fun k => k < w.heap.size) xs css := by
  have hl : xs.length = n := h.1
  by_cases hn : 0 < n
  · obtain ⟨ad, e, hc⟩ := h.2.2 hn
    have each : ∀ k, k ≤ n → ∃ css : List (List Value), css.length = k ∧ ∀ (j : Nat) (x : T) (cs : List Value), xs[j]? = some x → css[j]? = some cs → cs.length = 5 ∧ kT.K w x cs ∧ ∀ i u, cs[i]? = some u → w.cell? (ad.add (j * 5 + i)) = some u := by
      intro k
      induction k with
      | zero => intro _; exact ⟨[], rfl, fun j x cs _ h => by simp at h⟩
      | succ k ih =>
        intro hk
        obtain ⟨css, h1, h2⟩ := ih (by omega)
        have hkx : k < xs.length := by omega
        obtain ⟨cs, g1, g2, g3⟩ := hc k xs[k] (List.getElem?_eq_getElem hkx)
        refine ⟨css ++ [cs], by simp [h1], fun j x cs' hx hcs => ?_⟩
        by_cases hj : j < k
        · rw [List.getElem?_append_left (by omega)] at hcs
          exact h2 j x cs' hx hcs
        · rw [List.getElem?_append_right (by omega)] at hcs
          have hj' : j = k := by
            have := (List.getElem?_eq_some_iff.1 hcs).1
            simp at this; omega
          subst hj'
          rw [h1, Nat.sub_self] at hcs
          obtain rfl := Option.some.inj hcs
          rw [List.getElem?_eq_getElem hkx] at hx
          obtain rfl := Option.some.inj hx
          exact ⟨g1, g2, g3⟩
    obtain ⟨css, h1, h2⟩ := each n (Nat.le_refl _)
    refine ⟨css, ⟨h1, h.2.1, fun _ => ⟨ad, e, fun j cs hj => ?_⟩⟩, by rw [hl, h1], fun j x cs hx hcs => ?_⟩
    · have hjn := (List.getElem?_eq_some_iff.1 hj).1
      have hjx : j < xs.length := by omega
      obtain ⟨g1, g2, g3⟩ := h2 j xs[j] cs (List.getElem?_eq_getElem hjx) hj
      exact ⟨cs, g1, ⟨rfl, g1, fun u hu => kT.K_one g2 u hu⟩, g3⟩
    · obtain ⟨_, g2, _⟩ := h2 j x cs hx hcs
      exact fun W' hW => heapT.K (fun k hlt => hW k hlt hlt) g2
  · have h0 : n = 0 := by omega
    subst h0
    have hx : xs = [] := List.eq_nil_of_length_eq_zero hl
    subst hx
    exact ⟨[], ⟨rfl, by omega, fun h => absurd h (Nat.lt_irrefl _)⟩, rfl, fun j x cs hx _ => by simp at hx⟩
/-- And back: cells in a row of ok tell a row of values. -/
theorem F_of_raw {w : World} {ok : Nat → Prop} {A : Option Addr} {n : Nat} {xs : List T} {css : List (List Value)} (h : raw.C w A n css) (ht : Told w ok xs css) (hf : ∀ ad, A = some ad → 0 < n → ok ad.block) : kT.F w ok A n xs := by
  intro W' hW
  have hl : css.length = n := h.1
  refine ⟨ht.1.trans hl, h.2.1, fun hn => ?_⟩
  obtain ⟨ad, e, hc⟩ := h.2.2 hn
  refine ⟨ad, e, fun j x hx => ?_⟩
  have hj := (List.getElem?_eq_some_iff.1 hx).1
  have hj' : j < css.length := by rw [← ht.1]; exact hj
  obtain ⟨cs, h1, h2, h3⟩ := hc j css[j] (List.getElem?_eq_getElem hj')
  obtain ⟨rfl, _⟩ := h2
  refine ⟨_, h1, ht.2 j x _ hx (List.getElem?_eq_getElem hj') W' hW, fun i u hu => ?_⟩
  have h4 := h3 i u hu
  have hlt := World.block_lt_of_cell? w _ h4
  rw [add_block] at hlt
  have h5 : W'.heap[(ad.add (j * raw.sz + i)).block]? = w.heap[(ad.add (j * raw.sz + i)).block]? := by rw [add_block]; exact hW _ (hf ad e hn) hlt
  exact (cell_at h5).trans h4
theorem info26 : (Try.prog.info? 26).map (fun i => (i.zero, i.size, i.bytes)) = some (some (.agg #[.int .u8 0, .int .u8 0, .bool false, .slice none 0 0, .slice none 0 0]), 5, 56) := by kernel_rfl
/-- A literal of no elements. -/
theorem R_empty {α : Type} {d : Kd α} {e g : Nat} {w : World} {ok : Nat → Prop} (hg : w.heap[g]? = some (.cells #[] e (0, 0))) (hok : ok g) (base : Nat) (hb : base ≤ g) : d.R e w base ok (.slice (some ⟨g, 0, none⟩) 0 0) [] :=
  ⟨fun k hk => by simp [Value.ownBlock] at hk; rw [← hk]; exact hok, [], ⟨by simp, .inr ⟨g, 0, #[], rfl, hb, hg, Nat.le_refl _, Nat.zero_le _, by simp, by simp⟩⟩, Reps.none _ _⟩
set_option maxHeartbeats 1000000 in
theorem cloneb_calls (A : Option Addr) (c : Nat) (l : List Int) (w : World) (hC : kU.C w A l.length l) (hl : l.length ≤ 1000000) :
    Calls Try.prog 47 #[.slice A l.length c] w fun e w' => ∃ A' c', e = .returned (.slice A' l.length c') ∧ kU.R 5 w' w.heap.size (fun q => w.heap.size ≤ q) (.slice A' l.length c') l ∧ Below w.heap.size w w' := by
  have hC := Aside0.mk hC
  cases A with
  | none =>
    have h0 : l = [] := by
      rcases Nat.eq_zero_or_pos l.length with h | h
      · exact List.length_eq_zero_iff.1 h
      · obtain ⟨_, h, _⟩ := hC.out.2.2 h; cases h
    subst h0
    have hr := fun (w : World) => Lib.run_eql_slice_nil (P := Try.prog) w 23 5 none 0 c 0 0 Try.underlying23
    go_enter Try.func47, Try.ntmps47
    go_wp2
    go_ret
    exact ⟨_, _, rfl, Kd.R_nil _ _ _ _ _, Below.refl _ _⟩
  | some a =>
    obtain ⟨N, hN⟩ : ∃ N, l.length = N := ⟨_, rfl⟩
    rw [hN] at hC hl ⊢
    have hN := Aside0.mk hN
    have hr := fun (w : World) => Lib.run_eql_slice_nil (P := Try.prog) w 23 5 (some a) N c 0 0 Try.underlying23
    have hE : kU.R 5 (w.alloc (.cells #[] 5)) w.heap.size (fun q => w.heap.size ≤ q) (.slice (some ⟨w.heap.size, 0, none⟩) 0 0) [] := R_empty (Go.heap_alloc_new w _) (Nat.le_refl _) _ (Nat.le_refl _)
    have hE := Aside0.mk hE
    go_enter Try.func47, Try.ntmps47
    go_wp2_with ((with_reducible refine gate_builtin (b := .append) (xs := #[.tmp 5, .tmp 6]) rfl ?_); at_builtin; refine Kd.R_append_rows kU (w0 := w.alloc (.cells #[] 5)) w.heap.size rfl (.tmp 5) (.tmp 6) 23 5 (.int .u8 0) 1 rfl Try.underlying23 PBerEncodes.info5 rfl (by decide) (by omega) (.slice (some ⟨w.heap.size, 0, none⟩) 0 0) [] l _ _ _ (fun q => w.heap.size ≤ q) (fun _ => False) rfl rfl hE.out (Kd.C_alloc hC.out _) (fun _ _ h => h) (fun _ h => h.elim) (fun k hk => by simp at hk; omega) (Below.refl _ _) (by simp) (by simp; omega) ?_; intro v1 w1 ho _ hg _; replace ho := Aside0.mk ho; replace hg := Aside0.mk hg)
    go_ret
    obtain ⟨A', c', e⟩ := Kd.R_slice ho.out
    rw [List.nil_append, hN.out] at e
    refine ⟨A', c', congrArg _ e, ?_, ?_⟩
    · rw [← e]; exact ho.out
    · exact Mod.below (S := fun q => w.heap.size ≤ q) (Mod.trans (Mod.of_below (below_alloc (Below.refl _ _) _)) (Mod.of_grown (S := fun q => w.heap.size ≤ q) hg.out (fun q hq => by simp [Value.ownBlock] at hq; omega)) (fun q hq => .inl hq)) (fun q hq => hq) (Nat.le_refl _)
set_option maxHeartbeats 1000000 in
theorem clonei_calls (A : Option Addr) (c : Nat) (l : List (List Value)) (w : World) (hC : raw.C w A l.length l) (hl : l.length ≤ 1000000) :
    Calls Try.prog 48 #[.slice A l.length c] w fun e w' => ∃ A' c', e = .returned (.slice A' l.length c') ∧ raw.R 26 w' w.heap.size (fun q => w.heap.size ≤ q) (.slice A' l.length c') l ∧ Below w.heap.size w w' := by
  have hC := Aside0.mk hC
  cases A with
  | none =>
    have h0 : l = [] := by
      rcases Nat.eq_zero_or_pos l.length with h | h
      · exact List.length_eq_zero_iff.1 h
      · obtain ⟨_, h, _⟩ := hC.out.2.2 h; cases h
    subst h0
    have hr := fun (w : World) => Lib.run_eql_slice_nil (P := Try.prog) w 24 26 none 0 c 0 0 Try.underlying24
    go_enter Try.func48, Try.ntmps48
    go_wp2
    go_ret
    exact ⟨_, _, rfl, Kd.R_nil _ _ _ _ _, Below.refl _ _⟩
  | some a =>
    obtain ⟨N, hN⟩ : ∃ N, l.length = N := ⟨_, rfl⟩
    rw [hN] at hC hl ⊢
    have hN := Aside0.mk hN
    have hr := fun (w : World) => Lib.run_eql_slice_nil (P := Try.prog) w 24 26 (some a) N c 0 0 Try.underlying24
    have hE : raw.R 26 (w.alloc (.cells #[] 26)) w.heap.size (fun q => w.heap.size ≤ q) (.slice (some ⟨w.heap.size, 0, none⟩) 0 0) [] := R_empty (Go.heap_alloc_new w _) (Nat.le_refl _) _ (Nat.le_refl _)
    have hE := Aside0.mk hE
    go_enter Try.func48, Try.ntmps48
    go_wp2_with ((with_reducible refine gate_builtin (b := .append) (xs := #[.tmp 5, .tmp 6]) rfl ?_); at_builtin; refine Kd.R_append_rows raw (w0 := w.alloc (.cells #[] 26)) w.heap.size rfl (.tmp 5) (.tmp 6) 24 26 (.agg #[.int .u8 0, .int .u8 0, .bool false, .slice none 0 0, .slice none 0 0]) 56 rfl Try.underlying24 info26 rfl (by decide) (by omega) (.slice (some ⟨w.heap.size, 0, none⟩) 0 0) [] l _ _ _ (fun q => w.heap.size ≤ q) (fun _ => False) rfl rfl hE.out (Kd.C_alloc hC.out _) (fun _ _ h => h) (fun _ h => h.elim) (fun k hk => by simp at hk; omega) (Below.refl _ _) (by simp) (by simp; omega) ?_; intro v1 w1 ho _ hg _; replace ho := Aside0.mk ho; replace hg := Aside0.mk hg)
    go_ret
    obtain ⟨A', c', e⟩ := Kd.R_slice ho.out
    rw [List.nil_append, hN.out] at e
    refine ⟨A', c', congrArg _ e, ?_, ?_⟩
    · rw [← e]; exact ho.out
    · exact Mod.below (S := fun q => w.heap.size ≤ q) (Mod.trans (Mod.of_below (below_alloc (Below.refl _ _) _)) (Mod.of_grown (S := fun q => w.heap.size ≤ q) hg.out (fun q hq => by simp [Value.ownBlock] at hq; omega)) (fun q hq => .inl hq)) (fun q hq => hq) (Nat.le_refl _)
end Go.Proofs.Ytlmelbnmfhpacaa

/- A row of values in a block of one's own, that is written. -/
set_option linter.unusedVariables false
set_option linter.unusedSimpArgs false
namespace Go.Proofs.Ytlmelbnmfhpacaa
open Go.RowKit Go.Shelf Go.Proofs.YtlmelbnmfhpacaaW.PrintWords Go.Proofs.YtlmelbnmfhpacaaW.PrintMore Go.Proofs.YtlmelbnmfhpacaaW.PrintLast

/-- Block g begins with these values' cells. -/
def Row5 (w : World) (g : Nat) (css : List (List Value)) : Prop :=
  ∃ cur : Array Value, w.heap[g]? = some (.cells cur 26 (0, 0)) ∧ ∀ (j : Nat) (cs : List Value), css[j]? = some cs → cs.length = 5 ∧ (∀ u ∈ cs, u.oneCell' = true) ∧ ∀ (i : Nat) (u : Value), cs[i]? = some u → cur[j * 5 + i]? = some u
theorem Row5.lt {w : World} {g : Nat} {css : List (List Value)} (h : Row5 w g css) : g < w.heap.size := by obtain ⟨_, h, _⟩ := h; exact blk_lt h
theorem Row5.mod {w w' : World} {S : Nat → Prop} {g : Nat} {css : List (List Value)} (h : Row5 w g css) (hm : Mod S w w') (hn : ¬ S g) : Row5 w' g css := by
  obtain ⟨cur, h1, h2⟩ := h
  exact ⟨cur, hm.blk h1 hn, h2⟩
theorem Row5.cell {w : World} {g : Nat} {css : List (List Value)} (h : Row5 w g css) {j : Nat} {cs : List Value} (hj : css[j]? = some cs) {i : Nat} {u : Value} (hi : cs[i]? = some u) : w.cell? ⟨g, j * 5 + i, none⟩ = some u := by
  obtain ⟨cur, h1, h2⟩ := h
  rw [blk_cell h1]
  exact (h2 j cs hj).2.2 i u hi
theorem Row5.free {w : World} {g : Nat} {css : List (List Value)} (h : Row5 w g css) (i : Nat) : w.frozen? ⟨g, i, none⟩ = false := by
  obtain ⟨cur, h1, _⟩ := h
  exact blk_frozen h1 i
theorem Row5.C {w : World} {g : Nat} {css : List (List Value)} (h : Row5 w g css) (hl : css.length ≤ 9223372036854775807) : raw.C w (some ⟨g, 0, none⟩) css.length css := by
  refine ⟨rfl, hl, fun _ => ⟨_, rfl, fun j cs hj => ?_⟩⟩
  have h' := h
  obtain ⟨cur, h1, h2⟩ := h'
  obtain ⟨a1, a2, _⟩ := h2 j cs hj
  refine ⟨cs, a1, ⟨rfl, a1, a2⟩, fun i u hu => ?_⟩
  rw [show (⟨g, 0, none⟩ : Addr).add (j * raw.sz + i) = ⟨g, j * 5 + i, none⟩ from add_plain _ _]
  exact h.cell hj hu
theorem Row5.of_R {w : World} {base n c : Nat} {ok : Nat → Prop} {A : Option Addr} {css : List (List Value)} (h : raw.R 26 w base ok (.slice A n c) css) (hn : 0 < n) : ∃ g, A = some ⟨g, 0, none⟩ ∧ base ≤ g ∧ Row5 w g css := by
  obtain ⟨_, inner, ho, hr⟩ := h
  rcases ho.2 with ⟨e, _⟩ | ⟨g, cap, cur, e, hb, hg, _, _, _, htake⟩
  · injection e with _ e _; omega
  · injection e with e1 e2 e3
    refine ⟨g, e1, hb, cur, hg, fun j cs hj => ?_⟩
    have hjl := (List.getElem?_eq_some_iff.1 hj).1
    obtain ⟨a, b, c'⟩ := hr.2 j cs hj
    have a' : (inner.drop (j * 5)).take 5 = cs := a
    refine ⟨b, c', fun i u hu => ?_⟩
    have hi := (List.getElem?_eq_some_iff.1 hu).1
    have h1 : inner[j * 5 + i]? = some u := by
      rw [← a', List.getElem?_take] at hu
      split at hu
      · rw [List.getElem?_drop] at hu; exact hu
      · cases hu
    rw [← htake, List.getElem?_take] at h1
    split at h1
    · simpa using h1
    · cases h1
theorem Row5.set {w : World} {g : Nat} {css : List (List Value)} (h : Row5 w g css) {j : Nat} (hj : j < css.length) (v0 v1 v2 v3 v4 : Value) (h1 : ∀ u ∈ [v0, v1, v2, v3, v4], u.oneCell' = true) :
    ∃ w', (((((w.setCell ⟨g, j * 5, none⟩ v0).setCell ⟨g, j * 5 + 1, none⟩ v1).setCell ⟨g, j * 5 + 2, none⟩ v2).setCell ⟨g, j * 5 + 3, none⟩ v3).setCell ⟨g, j * 5 + 4, none⟩ v4) = w' ∧ Row5 w' g (css.set j [v0, v1, v2, v3, v4]) ∧ Mod (fun q => q = g) w w' := by
  have hfit : ∀ i, i < 5 → ∀ cur : Array Value, (∀ (j : Nat) (cs : List Value), css[j]? = some cs → cs.length = 5 ∧ (∀ u ∈ cs, u.oneCell' = true) ∧ ∀ (i : Nat) (u : Value), cs[i]? = some u → cur[j * 5 + i]? = some u) → j * 5 + i < cur.size := by
    intro i hi cur hc
    obtain ⟨a1, _, a3⟩ := hc j css[j] (List.getElem?_eq_getElem hj)
    have hi' : i < css[j].length := by omega
    have := a3 i css[j][i] (List.getElem?_eq_getElem hi')
    exact (Array.getElem?_eq_some_iff.1 this).1
  obtain ⟨cur, hg, hc⟩ := h
  refine ⟨_, rfl, ⟨((((cur.setIfInBounds (j * 5) v0).setIfInBounds (j * 5 + 1) v1).setIfInBounds (j * 5 + 2) v2).setIfInBounds (j * 5 + 3) v3).setIfInBounds (j * 5 + 4) v4, ?_, ?_⟩, ?_⟩
  · exact blk_set (blk_set (blk_set (blk_set (blk_set hg _ v0) _ v1) _ v2) _ v3) _ v4
  · intro j' cs hj'
    rw [List.getElem?_set] at hj'
    by_cases c : j = j'
    · subst c
      rw [if_pos rfl, if_pos hj] at hj'
      obtain rfl := Option.some.inj hj'
      refine ⟨rfl, h1, fun i u hu => ?_⟩
      have f0 := hfit 0 (by omega) cur hc
      have f1 := hfit 1 (by omega) cur hc
      have f2 := hfit 2 (by omega) cur hc
      have f3 := hfit 3 (by omega) cur hc
      have f4 := hfit 4 (by omega) cur hc
      have hi : i = 0 ∨ i = 1 ∨ i = 2 ∨ i = 3 ∨ i = 4 := by
        have := (List.getElem?_eq_some_iff.1 hu).1
        simp at this; omega
      rcases hi with rfl | rfl | rfl | rfl | rfl <;> (obtain rfl := Option.some.inj hu; simp [Array.getElem?_setIfInBounds] <;> omega)
    · rw [if_neg c] at hj'
      obtain ⟨a1, a2, a3⟩ := hc j' cs hj'
      refine ⟨a1, a2, fun i u hu => ?_⟩
      have hi := (List.getElem?_eq_some_iff.1 hu).1
      rw [Array.getElem?_setIfInBounds, if_neg (by omega), Array.getElem?_setIfInBounds, if_neg (by omega), Array.getElem?_setIfInBounds, if_neg (by omega), Array.getElem?_setIfInBounds, if_neg (by omega), Array.getElem?_setIfInBounds, if_neg (by omega)]
      exact a3 i u hu
  · exact ((((((Mod.refl (fun q => q = g) w).setCell (p := ⟨g, j * 5, none⟩) (.inl rfl) v0).setCell (p := ⟨g, j * 5 + 1, none⟩) (.inl rfl) v1).setCell (p := ⟨g, j * 5 + 2, none⟩) (.inl rfl) v2).setCell (p := ⟨g, j * 5 + 3, none⟩) (.inl rfl) v3).setCell (p := ⟨g, j * 5 + 4, none⟩) (.inl rfl) v4)
theorem BvF.FK {w : World} {ok : Nat → Prop} {x : T} {A : Option Addr} {c : Nat} {B : Option Addr} {d : Nat} (h : BvF w ok x A c B d) : Kd.FK kT w ok x (bvs x A c B d).toList := fun W' hW =>
  Bv.K ⟨h.lb, h.cb W' hW, h.li, h.ci W' hW⟩
end Go.Proofs.Ytlmelbnmfhpacaa
