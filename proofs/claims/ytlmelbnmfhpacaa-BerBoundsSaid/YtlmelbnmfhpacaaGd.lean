/- ber.Encode. -/
import Derived.Test.YtlmelbnmfhpacaaGc
import Derived.Laws.BitsAllLaws
set_option linter.unusedVariables false
set_option linter.unusedSimpArgs false
namespace Go.Proofs.Ytlmelbnmfhpacaa
open Go.RowKit Go.Shelf Go.Proofs.YtlmelbnmfhpacaaW.PrintWords Go.Proofs.YtlmelbnmfhpacaaW.PrintMore Go.Proofs.YtlmelbnmfhpacaaW.PrintLast

theorem check_zero {x : T} (h : checkN x = 0) : argT x = true ∧ deepT 1 x = true ∧ sizeT x ≤ 65536 := by
  unfold checkN rightN at h
  by_cases c1 : argT x = true
  · by_cases c2 : deepT 1 x = true
    · simp [c1, c2] at h; exact ⟨c1, c2, by omega⟩
    · simp [c1, c2] at h
  · simp [c1] at h
/-- What Encode ends in. -/
def Enc (x : T) (w : World) (e : Ending) (w' : World) : Prop :=
  (if checkN x = 0 then ∃ A' c', e = .returned (.tuple #[.slice A' (layT x).length c', .int .i64 0]) ∧ kU.R 5 w' w.heap.size (fun q => w.heap.size ≤ q) (.slice A' (layT x).length c') (layT x) else e = .returned (.tuple #[.slice none 0 0, .int .i64 (checkN x)])) ∧ Below w.heap.size w w'
set_option maxHeartbeats 1000000 in
theorem encode_calls (x : T) (A : Option Addr) (c : Nat) (B : Option Addr) (d : Nat) (w : World) (hv : Bv w x A c B d) (hy : byteT x) (hw : wT x ≤ 1000000) :
    Calls Try.prog 14 #[.agg #[.int .u8 x.f0, .int .u8 x.f1, .bool x.f2, .slice A x.f3.length c, .slice B x.f4.length d]] w (Enc x w) := by
  have hX := box_new w (.int .u8 x.f0) (.int .u8 x.f1) (.bool x.f2) (.slice A x.f3.length c) (.slice B x.f4.length d)
  have hb1 := below_alloc (Below.refl w.heap.size w) (.cells #[.int .u8 x.f0, .int .u8 x.f1, .bool x.f2, .slice A x.f3.length c, .slice B x.f4.length d] 26)
  obtain ⟨w1, hw1⟩ : ∃ w1, w.alloc (.cells #[.int .u8 x.f0, .int .u8 x.f1, .bool x.f2, .slice A x.f3.length c, .slice B x.f4.length d] 26) = w1 := ⟨_, rfl⟩
  rw [hw1] at hX hb1
  have h1 := Aside0.mk (check_ours x A c B d w1 (hv.below hb1) hw)
  obtain ⟨p0, p1, p2, p3, p4⟩ := hX.cells
  replace hb1 := Aside0.mk hb1
  have hv1 := Aside0.mk (fun W (hb : Below w1.heap.size w1 W) => (hv.below hb1.out).below hb)
  by_cases cz : checkN x = 0
  · obtain ⟨ha, _, hz⟩ := check_zero cz
    have hl := sizeT_lay x ha
    have h2 := Aside0.mk (fun W (hb : Below w1.heap.size w1 W) => (show Calls Try.prog 36 #[.agg #[.int .u8 x.f0, .int .u8 x.f1, .bool x.f2, .slice A x.f3.length c, .slice B x.f4.length d]] W (Laid (layT x) W) from laid_calls x A c B d W (hv1.out W hb) ha hy (by omega)))
    have hfin := Aside0.mk (fun (w' : World) (A' : Option Addr) (c' : Nat) (hR : kU.R 5 w' w.heap.size (fun q => w.heap.size ≤ q) (.slice A' (layT x).length c') (layT x)) (hb : Below w.heap.size w w') => (show Enc x w (.returned (.tuple #[.slice A' (layT x).length c', .int .i64 0])) w' from ⟨by rw [if_pos cz]; exact ⟨A', c', rfl, hR⟩, hb⟩))
    rw [cz] at h1
    clear cz ha hz hl hv hv1 hy hw
    go_enter Try.func14, Try.ntmps14
    go_wp2_with fail
    refine h1.out.mono ?_
    rintro e w2 ⟨rfl, hb2⟩
    have h3 := Aside0.mk (h2.out w2 hb2)
    have q0 := pw_cell_below hb2 p0
    have q1 := pw_cell_below hb2 p1
    have q2 := pw_cell_below hb2 p2
    have q3 := pw_cell_below hb2 p3
    have q4 := pw_cell_below hb2 p4
    have hb3 := Aside0.mk (below_then hb1.out hb1.out.size hb2)
    clear h1 h2 hb2 p0 p1 p2 p3 p4
    go_wp2_with fail
    refine h3.out.mono ?_
    rintro e w3 ⟨A', c', rfl, hR, hb4⟩
    have hR3 := Aside0.mk (Kd.R_lower (Kd.R_mono hR (fun q hq => Nat.le_trans hb3.out.size hq)) hb3.out.size)
    have hb5 := Aside0.mk (below_then hb3.out hb3.out.size hb4)
    clear h3 hb3 hR hb4
    go_wp2_with fail
    go_ret2
    exact hfin.out _ A' c' hR3.out hb5.out
  · have hfin := Aside0.mk (fun (w' : World) (hb : Below w.heap.size w w') => (show Enc x w (.returned (.tuple #[.slice none 0 0, .int .i64 (checkN x)])) w' from ⟨by rw [if_neg cz], hb⟩))
    obtain ⟨N, hN⟩ : ∃ N, checkN x = N := ⟨_, rfl⟩
    rw [hN] at h1 cz hfin
    have hcb : (N == 0) = false := by simpa using cz
    clear hv hv1 hy hw hN
    go_enter Try.func14, Try.ntmps14
    go_wp2_with fail
    refine h1.out.mono ?_
    rintro e w2 ⟨rfl, hb2⟩
    have hb3 := Aside0.mk (below_then hb1.out hb1.out.size hb2)
    clear h1 hb2
    go_wp2_with fail
    go_ret2
    exact hfin.out _ hb3.out
end Go.Proofs.Ytlmelbnmfhpacaa

/- The reader: take. -/
set_option linter.unusedVariables false
set_option linter.unusedSimpArgs false
namespace Go.Proofs.Ytlmelbnmfhpacaa
open Go.RowKit Go.Shelf Go.Proofs.YtlmelbnmfhpacaaW.PrintWords Go.Proofs.YtlmelbnmfhpacaaW.PrintMore Go.Proofs.YtlmelbnmfhpacaaW.PrintLast

/-- A reader in memory: what is left to it; ok: where those bytes lie. -/
structure Rd (w : World) (R : Nat) (ok : Nat → Prop) (l : List Int) (A : Option Addr) (c : Nat) : Prop where
  blk : w.heap[R]? = some (.cells #[.slice A l.length c] 66 (0, 0))
  lb : l.length ≤ c
  cb : kU.F w ok A l.length l
  ne : ∀ q, ok q → q ≠ R
namespace Rd
variable {w w' : World} {R : Nat} {ok : Nat → Prop} {l : List Int} {A : Option Addr} {c : Nat}
theorem c0 (h : Rd w R ok l A c) : w.cell? ⟨R, 0, none⟩ = some (.slice A l.length c) := (blk_cell h.blk 0).trans rfl
theorem f0 (h : Rd w R ok l A c) : w.frozen? ⟨R, 0, none⟩ = false := blk_frozen h.blk 0
theorem lt (h : Rd w R ok l A c) : R < w.heap.size := blk_lt h.blk
theorem below (h : Rd w R ok l A c) (hb : Below w.heap.size w w') : Rd w' R ok l A c := ⟨(hb.block _ h.lt).trans h.blk, h.lb, Kd.F_below h.cb hb, h.ne⟩
theorem mod {S : Nat → Prop} (h : Rd w R ok l A c) (hm : Mod S w w') (hn : ∀ q, ok q → ¬ S q) (hr : ¬ S R) : Rd w' R ok l A c := ⟨hm.blk h.blk hr, h.lb, F_mod h.cb hm hn, h.ne⟩
/-- Where the rest lies. -/
abbrev rest (A : Option Addr) (c m : Nat) : Option Addr := if c = m then A else A.map (·.add (m * kU.sz))
theorem set (h : Rd w R ok l A c) (m : Nat) (hm : m ≤ l.length) : Rd (w.setCell ⟨R, 0, none⟩ (.slice (rest A c m) (l.length - m) (c - m))) R ok (l.drop m) (rest A c m) (c - m) ∧ kU.F (w.setCell ⟨R, 0, none⟩ (.slice (rest A c m) (l.length - m) (c - m))) ok A m (l.take m) ∧ Mod (fun q => q = R) w (w.setCell ⟨R, 0, none⟩ (.slice (rest A c m) (l.length - m) (c - m))) := by
  have hM : Mod (fun q => q = R) w (w.setCell ⟨R, 0, none⟩ (.slice (rest A c m) (l.length - m) (c - m))) := (Mod.refl (fun q => q = R) w).setCell (p := ⟨R, 0, none⟩) (.inl rfl) _
  have hF := F_mod h.cb hM (fun q hq e => h.ne q hq e)
  refine ⟨⟨?_, ?_, ?_, h.ne⟩, ?_, hM⟩
  · rw [List.length_drop]
    have := blk_set h.blk 0 (.slice (rest A c m) (l.length - m) (c - m))
    simpa using this
  · rw [List.length_drop]; have := h.lb; omega
  · exact fun W hW => Kd.C_drop (hF W hW) hm h.lb
  · have h2 : kU.F _ ok A (l.take m).length (l.take m) := fun W hW => Kd.C_take (hF W hW) hm
    rw [List.length_take, Nat.min_eq_left hm] at h2
    exact h2
end Rd
set_option maxHeartbeats 1000000 in
theorem take_yes (R : Nat) (ok : Nat → Prop) (l : List Int) (A : Option Addr) (c m : Nat) (w : World) (h : Rd w R ok l A c) (hl : l.length ≤ 1000000) (hm : m ≤ l.length) :
    Calls Try.prog 52 #[.pointer (some ⟨R, 0, none⟩), .int .i64 (m : Int)] w fun e w' => e = .returned (.slice A m c) ∧ Rd w' R ok (l.drop m) (Rd.rest A c m) (c - m) ∧ kU.F w' ok A m (l.take m) ∧ Mod (fun q => q = R) w w' := by
  have p0 := h.c0
  have q0 := h.f0
  have hs := Aside0.mk (h.set m hm)
  have hlb := h.lb
  have hsl := slice_from A l.length c m _ rfl hm
  obtain ⟨A2, hA2⟩ : ∃ A2, Rd.rest A c m = A2 := ⟨_, rfl⟩
  have hA3 : (if c = m then A else A.map (·.add (m * kU.sz))) = A2 := hA2
  rw [hA3] at hsl
  rw [hA2] at hs ⊢
  obtain ⟨N, hN⟩ : ∃ N, l.length = N := ⟨_, rfl⟩
  rw [hN] at p0 hs hlb hsl hm hl
  have i1 : (m : Int) ≤ (N : Int) := by omega
  have i2 : (m : Int) ≤ (c : Int) := by omega
  have i3 : (0 : Int) ≤ (m : Int) := by omega
  clear hA2 hA3 hN
  go_enter Try.func52, Try.ntmps52
  go_wp2_with fail
  refine (must_yes _ _).mono ?_
  rintro e w' ⟨rfl, rfl⟩
  go_wp2_with fail
  go_ret
  exact ⟨by simp, hs.out⟩
set_option maxHeartbeats 1000000 in
theorem take_no (R : Nat) (ok : Nat → Prop) (l : List Int) (A : Option Addr) (c : Nat) (m : Int) (w : World) (h : Rd w R ok l A c) (hl : l.length ≤ 1000000) (hm : (l.length : Int) < m) :
    Calls Try.prog 52 #[.pointer (some ⟨R, 0, none⟩), .int .i64 m] w fun e w' => e = stopE 151 ∧ w' = w := by
  have p0 := h.c0
  have q0 := h.f0
  obtain ⟨N, hN⟩ : ∃ N, l.length = N := ⟨_, rfl⟩
  rw [hN] at p0 hl hm
  have i1 : decide (m ≤ (N : Int)) = false := by simp; omega
  go_enter Try.func52, Try.ntmps52
  go_wp2_with fail
  refine (must_no _ _).mono ?_
  rintro e w' ⟨rfl, rfl⟩
  go_wp2_with fail
  exact ⟨rfl, rfl, rfl⟩
end Go.Proofs.Ytlmelbnmfhpacaa

/- The reader's length, plain. -/
set_option linter.unusedVariables false
set_option linter.unusedSimpArgs false
namespace Go.Proofs.Ytlmelbnmfhpacaa
open Go.RowKit Go.Shelf Go.Proofs.YtlmelbnmfhpacaaW.PrintWords Go.Proofs.YtlmelbnmfhpacaaW.PrintMore Go.Proofs.YtlmelbnmfhpacaaW.PrintLast

theorem reverse4 (a b c d : Int) : PBerEncodes.slices_Reverse_byte_byte.f 4 [a, b, c, d] = some [d, c, b, a] := by
  simp [PBerEncodes.slices_Reverse_byte_byte.f, PBerEncodes.slices_Reverse_byte_byte.l0, wrap64, rd]
/-- A number's bytes, up to four. -/
def hiL (n : Nat) : List Int :=
  if n < 256 then [(n : Int)] else if n < 65536 then [(n / 256 : Int), (n % 256 : Int)] else if n < 16777216 then [(n / 65536 : Int), (n / 256 % 256 : Int), (n % 256 : Int)] else [(n / 16777216 : Int), (n / 65536 % 256 : Int), (n / 256 % 256 : Int), (n % 256 : Int)]
theorem high_end (k : Nat) (x : Int) (l : List Int) (h : ¬ x > 0) : PBerEncodes.ber_high_int.l0 (k + 1) x l = PBerEncodes.slices_Reverse_byte_byte.f k l := by
  rw [hl0 k, if_neg h]
  cases PBerEncodes.slices_Reverse_byte_byte.f k l <;> rfl
theorem high_next (k : Nat) (x : Int) (l : List Int) (h : x > 0) (hl : l.length < 140737488355328) : PBerEncodes.ber_high_int.l0 (k + 1) x l = PBerEncodes.ber_high_int.l0 k (x / 256) (l ++ [x % 256]) := by
  rw [hl0 k, if_pos h, if_pos hl]
theorem high_any (n : Nat) (h2 : n ≤ 4294967295) : PBerEncodes.ber_high_int.f 9 (n : Int) = some (hiL n) := by
  rw [PBerEncodes.ber_high_int.f]
  unfold hiL
  by_cases c1 : n < 256
  · rw [high_end 8 _ _ (by omega), up_le (PBerEncodes.slices_Reverse_byte_byte.mono _) (show 4 ≤ 8 by omega) (reverse1 _), if_pos c1]
    congr 2
    omega
  · rw [high_next 8 _ _ (by omega) (by simp), if_neg c1]
    by_cases c2 : n < 65536
    · rw [high_end 7 _ _ (by omega)]
      show PBerEncodes.slices_Reverse_byte_byte.f 7 [(n : Int) % 256, (n : Int) / 256 % 256] = _
      rw [up_le (PBerEncodes.slices_Reverse_byte_byte.mono _) (show 4 ≤ 7 by omega) (reverse2 _ _), if_pos c2]
      congr 2
      omega
    · rw [high_next 7 _ _ (by omega) (by simp), if_neg c2]
      by_cases c3 : n < 16777216
      · rw [high_end 6 _ _ (by omega)]
        show PBerEncodes.slices_Reverse_byte_byte.f 6 [(n : Int) % 256, (n : Int) / 256 % 256, (n : Int) / 256 / 256 % 256] = _
        rw [up_le (PBerEncodes.slices_Reverse_byte_byte.mono _) (show 4 ≤ 6 by omega) (reverse3 _ _ _), if_pos c3]
        congr 2
        omega
      · rw [high_next 6 _ _ (by omega) (by simp), high_end 5 _ _ (by omega), if_neg c3]
        show PBerEncodes.slices_Reverse_byte_byte.f 5 [(n : Int) % 256, (n : Int) / 256 % 256, (n : Int) / 256 / 256 % 256, (n : Int) / 256 / 256 / 256 % 256] = _
        rw [up_le (PBerEncodes.slices_Reverse_byte_byte.mono _) (show 4 ≤ 5 by omega) (reverse4 _ _ _ _)]
        congr 2
        · omega
        · congr 1
          omega
/-- The number of bytes, the highest ahead. -/
def beN (l : List Int) : Int := l.foldl (fun k x => 256 * k + x) 0
/-- What the reader's length takes off: the length, and of how many bytes. -/
def lenF : List Int → Option (Int × Nat)
  | [] => none
  | x :: l => if x < 128 then some (x, 1) else if 128 < x ∧ x ≤ 132 ∧ x - 128 ≤ l.length ∧ 128 ≤ beN (l.take (x - 128).toNat) ∧ (hiL (beN (l.take (x - 128).toNat)).toNat).length = (x - 128).toNat then some (beN (l.take (x - 128).toNat), 1 + (x - 128).toNat) else none
theorem be_next {l : List Int} {k : Nat} (hk : k < l.length) : beN (l.take (k + 1)) = 256 * beN (l.take k) + l[k] := by
  unfold beN
  rw [List.take_succ_eq_append_getElem hk, List.foldl_append]
  rfl
theorem be_range (l : List Int) (h : ∀ x ∈ l, 0 ≤ x ∧ x < 256) : 0 ≤ beN l ∧ beN l < (256 : Int) ^ l.length := by
  obtain ⟨r, hr⟩ : ∃ r, l.reverse = r := ⟨_, rfl⟩
  obtain rfl : l = r.reverse := by rw [← hr, List.reverse_reverse]
  clear hr
  induction r with
  | nil => simp [beN]
  | cons x r ih =>
    have h1 := ih (fun y hy => h y (by simp at hy ⊢; exact .inl hy))
    have h2 := h x (by simp)
    have e : beN (x :: r).reverse = 256 * beN r.reverse + x := by unfold beN; rw [List.reverse_cons, List.foldl_append]; rfl
    have p : (256 : Int) ^ (x :: r).reverse.length = 256 * (256 : Int) ^ r.reverse.length := by simp only [List.length_reverse, List.length_cons]; rw [Int.pow_succ, Int.mul_comm]
    rw [e, p]
    omega
theorem or_byte (k x : Int) (k0 : 0 ≤ k) (k1 : k < 16777216) (x0 : 0 ≤ x) (x1 : x < 256) : bits .or .i64 (256 * k) x = 256 * k + x := by
  obtain ⟨a, rfl⟩ := Int.eq_ofNat_of_zero_le k0
  obtain ⟨b, rfl⟩ := Int.eq_ofNat_of_zero_le x0
  have hor : 256 * a ||| b = 256 * a + b := by
    have := Nat.shiftLeft_add_eq_or_of_lt (i := 8) (b := b) (by omega) a
    rw [Nat.shiftLeft_eq] at this
    rw [Nat.mul_comm 256 a]
    exact this.symm
  show IntKind.i64.wrap ((BitVec.ofInt 64 (256 * (a : Int)) ||| BitVec.ofInt 64 (b : Int)).toNat : Int) = _
  rw [show (256 * (a : Int)) = ((256 * a : Nat) : Int) by omega, BitVec.toNat_or, ofInt_u64 (256 * a) (by omega), ofInt_u64 b (by omega), IntKind.wrap_i64, hor]
  omega
end Go.Proofs.Ytlmelbnmfhpacaa

/- The reader's length. -/
set_option linter.unusedVariables false
set_option linter.unusedSimpArgs false
namespace Go.Proofs.Ytlmelbnmfhpacaa
open Go.RowKit Go.Shelf Go.Proofs.YtlmelbnmfhpacaaW.PrintWords Go.Proofs.YtlmelbnmfhpacaaW.PrintMore Go.Proofs.YtlmelbnmfhpacaaW.PrintLast

theorem lenF_cons (x : Int) (l : List Int) : lenF (x :: l) = if x < 128 then some (x, 1) else if 128 < x ∧ x ≤ 132 ∧ x - 128 ≤ l.length ∧ 128 ≤ beN (l.take (x - 128).toNat) ∧ (hiL (beN (l.take (x - 128).toNat)).toNat).length = (x - 128).toNat then some (beN (l.take (x - 128).toNat), 1 + (x - 128).toNat) else none := rfl
theorem pow_small : ∀ j : Nat, j ≤ 4 → (256 : Int) ^ j ≤ 4294967296 ∧ (j ≤ 3 → (256 : Int) ^ j ≤ 16777216)
  | 0, _ => by decide
  | 1, _ => by decide
  | 2, _ => by decide
  | 3, _ => by decide
  | 4, _ => by decide
  | n + 5, h => by omega
/-- What the reader's length ends in. -/
def LenEnds (o : Option (Int × Nat)) (R : Nat) (ok : Nat → Prop) (l : List Int) (w : World) (e : Ending) (w' : World) : Prop :=
  (match o with
   | none => e = stopE 151
   | some r => e = .returned (.int .i64 r.1) ∧ ∃ A' c', Rd w' R ok (l.drop r.2) A' c') ∧ Mod (fun q => q = R) w w'
set_option maxHeartbeats 1000000 in
theorem len_calls (R : Nat) (ok : Nat → Prop) (l : List Int) (A : Option Addr) (c : Nat) (w : World) (h : Rd w R ok l A c) (hl : l.length ≤ 1000000) (hy : ∀ x ∈ l, 0 ≤ x ∧ x < 256) :
    Calls Try.prog 53 #[.pointer (some ⟨R, 0, none⟩)] w (LenEnds (lenF l) R ok l w) := by
  match l, h, hl, hy with
  | [], h, hl, hy =>
    have ht := Aside0.mk (take_no R ok [] A c 1 w h hl (by simp))
    clear h
    go_enter Try.func53, Try.ntmps53
    go_wp2_with fail
    refine ht.out.mono ?_
    rintro e w' ⟨rfl, rfl⟩
    go_wp2_with fail
    exact ⟨rfl, rfl, Mod.refl _ _⟩
  | x :: r, h, hl, hy =>
    have hx := hy x (by simp)
    obtain ⟨x0, x1⟩ := hx
    have hr : ∀ y ∈ r, 0 ≤ y ∧ y < 256 := fun y hm => hy y (by simp [hm])
    have hrl : r.length ≤ 1000000 := by simp at hl; omega
    have ht := Aside0.mk (take_yes R ok (x :: r) A c 1 w h hl (by simp))
    clear h hy hl
    by_cases c0 : x < 128
    · have hL : lenF (x :: r) = some (x, 1) := by rw [lenF_cons, if_pos c0]
      rw [hL]
      clear hL
      go_enter Try.func53, Try.ntmps53
      go_wp2_with fail
      refine ht.out.mono ?_
      rintro e w1 ⟨rfl, h1, hF, hm⟩
      obtain ⟨ad, e, p0⟩ := u8_at (Kd.F_now hF) 0 (by simp)
      subst e
      have p0' : w1.cell? ad = some (.int .u8 x) := by rw [show ad = ad.add 0 from by simp [Addr.add]]; exact p0
      have h1 := Aside0.mk h1
      have hm := Aside0.mk hm
      clear hF p0 ht
      go_wp2_with fail
      go_ret
      exact ⟨⟨rfl, _, _, h1.out⟩, hm.out⟩
    · by_cases c1 : 128 < x ∧ x ≤ 132
      · obtain ⟨c2, c3⟩ := c1
        obtain ⟨m, hm⟩ : ∃ m : Nat, x = 128 + m := ⟨(x - 128).toNat, by omega⟩
        have hsub : x - 128 = (m : Int) := by omega
        have hm4 : m ≤ 4 := by omega
        have hto : (m : Int).toNat = m := Int.toNat_natCast m
        have hL := lenF_cons x r
        rw [if_neg c0, hsub, hto] at hL
        clear hto hm
        replace hL := Aside0.mk hL
        by_cases c4 : m ≤ r.length
        · go_enter Try.func53, Try.ntmps53
          go_wp2_with fail
          refine ht.out.mono ?_
          rintro e w1 ⟨rfl, h1, hF, hm⟩
          obtain ⟨ad, e, p0⟩ := u8_at (Kd.F_now hF) 0 (by simp)
          subst e
          have p0' : w1.cell? ad = some (.int .u8 x) := by rw [show ad = ad.add 0 from by simp [Addr.add]]; exact p0
          have h1' : Rd w1 R ok r _ _ := h1
          have ht2 := Aside0.mk (take_yes R ok r _ _ m w1 h1' hrl c4)
          have hlb := h1'.lb
          have hm := Aside0.mk hm
          clear hF p0 ht h1 h1'
          obtain ⟨A1, hA1⟩ : ∃ A1, Rd.rest (some ad) c 1 = A1 := ⟨_, rfl⟩
          obtain ⟨cc1, hcc1⟩ : ∃ cc1, c - 1 = cc1 := ⟨_, rfl⟩
          rw [hA1, hcc1] at ht2
          rw [hcc1] at hlb
          clear hA1 hcc1
          go_wp2_with fail
          refine (must_yes _ _).mono ?_
          rintro e w' ⟨rfl, rfl⟩
          go_wp2_with fail
          refine ht2.out.mono ?_
          rintro e w2 ⟨rfl, h3, hF, hm2⟩
          obtain ⟨ys, hys⟩ : ∃ ys, r.take m = ys := ⟨_, rfl⟩
          have hyl : ys.length = m := by rw [← hys, List.length_take, Nat.min_eq_left c4]
          have hyb : ∀ y ∈ ys, 0 ≤ y ∧ y < 256 := fun y hm => hr y (by rw [← hys] at hm; exact List.mem_of_mem_take hm)
          rw [hys] at hF
          have hL2 := hL.out
          rw [hys] at hL2
          replace hL2 := Aside0.mk hL2
          have hC := Aside0.mk (Kd.F_now hF)
          have hM := Aside0.mk (hm.out.trans hm2 (fun q hq => .inl hq))
          have hd : (r.drop m) = (x :: r).drop (1 + m) := by rw [Nat.add_comm 1 m]; rfl
          rw [hd] at h3
          replace h3 := Aside0.mk h3
          have hyl' := Aside0.mk hyl
          have hyb' := Aside0.mk hyb
          have hbr := Aside0.mk (fun (j : Nat) (hj : j ≤ m) => (show 0 ≤ beN (ys.take j) ∧ beN (ys.take j) ≤ 4294967295 ∧ (j < m → beN (ys.take j) < 16777216) from by
            have h1 := be_range (ys.take j) (fun x hx => hyb x (List.mem_of_mem_take hx))
            have h2 : (ys.take j).length = j := by rw [List.length_take, Nat.min_eq_left (by omega)]
            rw [h2] at h1
            have h4 := pow_small j (by omega)
            refine ⟨h1.1, by omega, fun hlt => ?_⟩
            have := h4.2 (by omega)
            omega))
          clear hF hm2 hm ht2 hL hyl hyb hys hr hd
          go_wp2_with fail
          go_loopw [4, 7, 29] (fun s4 s7 s29 wr => ∃ (j : Nat) (v : Value), j ≤ m ∧ s29 = .int .i64 j ∧ s4 = .int .i64 (beN (ys.take j)) ∧ s7 = v ∧ wr = w2) (fun _ _ s29 _ => m - (intOf s29).toNat)
          case atStart => exact ⟨0, _, Nat.zero_le _, rfl, rfl, rfl, rfl⟩
          case round =>
            obtain ⟨j, v, hj, rfl, rfl, rfl, rfl⟩ := hrel
            obtain ⟨b0, b1, b2⟩ := hbr.out j hj
            by_cases hlt : j < m
            · have hjl : j < ys.length := by rw [hyl'.out]; exact hlt
              have hnx := be_next hjl
              obtain ⟨a2, e, p1⟩ := u8_at hC.out j hjl
              subst e
              obtain ⟨y0, y1⟩ := hyb'.out _ (List.getElem_mem hjl)
              obtain ⟨y, hy⟩ : ∃ y, ys[j] = y := ⟨_, rfl⟩
              rw [hy] at hnx p1 y0 y1
              obtain ⟨k, hk⟩ : ∃ k, beN (ys.take j) = k := ⟨_, rfl⟩
              rw [hk] at hnx b0 b1 b2 ⊢
              have b3 := b2 hlt
              have hor := or_byte k y b0 b3 y0 y1
              have hshl : k * 256 = 256 * k := by omega
              have i1 : (0 : Int) ≤ (j : Int) := by omega
              have i2 : (j : Int) < (m : Int) := by omega
              replace hnx := Aside0.mk hnx
              clear hjl hy hk b2
              go_wp2_with fail
              go_roundw
              case rel => exact ⟨j + 1, _, by omega, by go_num, by rw [hnx.out], rfl, trivial⟩
              case measure => simp [intOf]; omega
            · obtain rfl : j = m := by omega
              have hta : ys.take j = ys := List.take_of_length_le (by rw [hyl'.out]; exact Nat.le_refl _)
              rw [hta] at b0 b1 ⊢
              obtain ⟨k, hk⟩ : ∃ k, beN ys = k := ⟨_, rfl⟩
              have hL3 := hL2.out
              rw [hk] at b0 b1 hL3 ⊢
              clear b2 hta hk hL2
              obtain ⟨K, rfl⟩ := Int.eq_ofNat_of_zero_le b0
              have hcl := Aside0.mk (fun W => PBerEncodes.ber_high_int.calls 9 _ _ W (high_any K (by omega)))
              rw [Int.toNat_natCast] at hL3
              by_cases ck : (128 : Int) ≤ (K : Int)
              · obtain ⟨M, hM9⟩ : ∃ M, (hiL K).length = M := ⟨_, rfl⟩
                rw [hM9] at hL3
                replace hL3 := Aside0.mk hL3
                have i9 : (K : Int) ≤ 4294967295 := b1
                clear hlt hj
                go_wp2_with fail
                refine (hcl.out _).mono ?_
                rintro e w3 ⟨v, rfl, hR, hb3⟩
                obtain ⟨A2, cq, rfl⟩ := Kd.R_slice hR
                rw [hM9]
                have hb4 := Aside0.mk hb3
                clear hR hb3 hcl hM9 i9
                by_cases cl : M = j
                · have hL4 := hL3.out
                  rw [if_pos ⟨c2, c3, by omega, ck, cl⟩] at hL4
                  replace hL4 := Aside0.mk hL4
                  have d2 : ((M : Int) == (j : Int)) = true := by simp; omega
                  clear hL3 cl
                  go_wp2_with fail
                  refine (must_yes _ _).mono ?_
                  rintro e w' ⟨rfl, rfl⟩
                  go_wp2_with fail
                  go_ret
                  rw [hL4.out]
                  exact ⟨⟨rfl, _, _, h3.out.below hb4.out⟩, hM.out.then_below hb4.out⟩
                · have hL4 := hL3.out
                  rw [if_neg (by rintro ⟨_, _, _, _, h⟩; exact cl h)] at hL4
                  replace hL4 := Aside0.mk hL4
                  have d2 : ((M : Int) == (j : Int)) = false := by simp; omega
                  clear hL3 cl
                  go_wp2_with fail
                  refine (must_no _ _).mono ?_
                  rintro e w' ⟨rfl, rfl⟩
                  go_wp2_with fail
                  exact ⟨rfl, by rw [hL4.out]; exact ⟨rfl, hM.out.then_below hb4.out⟩⟩
              · rw [if_neg (by rintro ⟨_, _, _, h, _⟩; exact ck h)] at hL3
                replace hL3 := Aside0.mk hL3
                have d1 : decide ((128 : Int) ≤ (K : Int)) = false := by simp; omega
                clear hcl
                go_wp2_with fail
                refine (must_no _ _).mono ?_
                rintro e w' ⟨rfl, rfl⟩
                go_wp2_with fail
                exact ⟨rfl, by rw [hL3.out]; exact ⟨rfl, hM.out⟩⟩
        · have hL2 := hL.out
          rw [if_neg (by rintro ⟨_, _, h, _⟩; omega)] at hL2
          replace hL2 := Aside0.mk hL2
          clear hL
          have c5 : (r.length : Int) < (m : Int) := by omega
          go_enter Try.func53, Try.ntmps53
          go_wp2_with fail
          refine ht.out.mono ?_
          rintro e w1 ⟨rfl, h1, hF, hm⟩
          obtain ⟨ad, e, p0⟩ := u8_at (Kd.F_now hF) 0 (by simp)
          subst e
          have p0' : w1.cell? ad = some (.int .u8 x) := by rw [show ad = ad.add 0 from by simp [Addr.add]]; exact p0
          have h1' : Rd w1 R ok r _ _ := h1
          have ht2 := Aside0.mk (take_no R ok r _ _ (m : Int) w1 h1' hrl c5)
          have hm := Aside0.mk hm
          clear hF p0 ht h1 h1'
          go_wp2_with fail
          refine (must_yes _ _).mono ?_
          rintro e w' ⟨rfl, rfl⟩
          go_wp2_with fail
          refine ht2.out.mono ?_
          rintro e w' ⟨rfl, rfl⟩
          go_wp2_with fail
          exact ⟨rfl, by rw [hL2.out]; exact ⟨rfl, hm.out⟩⟩
      · have hL : lenF (x :: r) = none := by rw [lenF_cons, if_neg c0, if_neg (by rintro ⟨a, b, _⟩; exact c1 ⟨a, b⟩)]
        rw [hL]
        clear hL
        by_cases c2 : 128 < x
        · have c3 : ¬ x ≤ 132 := fun h => c1 ⟨c2, h⟩
          clear c1
          go_enter Try.func53, Try.ntmps53
          go_wp2_with fail
          refine ht.out.mono ?_
          rintro e w1 ⟨rfl, h1, hF, hm⟩
          obtain ⟨ad, e, p0⟩ := u8_at (Kd.F_now hF) 0 (by simp)
          subst e
          have p0' : w1.cell? ad = some (.int .u8 x) := by rw [show ad = ad.add 0 from by simp [Addr.add]]; exact p0
          have h1 := Aside0.mk h1
          have hm := Aside0.mk hm
          clear hF p0 ht
          have d1 : decide (x ≤ 132) = false := by simp; omega
          go_wp2_with fail
          refine (must_no _ _).mono ?_
          rintro e w' ⟨rfl, rfl⟩
          go_wp2_with fail
          exact ⟨rfl, rfl, hm.out⟩
        · clear c1
          go_enter Try.func53, Try.ntmps53
          go_wp2_with fail
          refine ht.out.mono ?_
          rintro e w1 ⟨rfl, h1, hF, hm⟩
          obtain ⟨ad, e, p0⟩ := u8_at (Kd.F_now hF) 0 (by simp)
          subst e
          have p0' : w1.cell? ad = some (.int .u8 x) := by rw [show ad = ad.add 0 from by simp [Addr.add]]; exact p0
          have h1 := Aside0.mk h1
          have hm := Aside0.mk hm
          clear hF p0 ht
          have d1 : decide (128 < x) = false := by simp; omega
          go_wp2_with fail
          refine (must_no _ _).mono ?_
          rintro e w' ⟨rfl, rfl⟩
          go_wp2_with fail
          exact ⟨rfl, rfl, hm.out⟩
end Go.Proofs.Ytlmelbnmfhpacaa
