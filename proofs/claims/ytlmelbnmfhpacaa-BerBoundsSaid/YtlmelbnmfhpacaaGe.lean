/- The reader's value, plain. -/
import Derived.Test.YtlmelbnmfhpacaaGd
import Derived.Lib.LazyBuf
set_option linter.unusedVariables false
set_option linter.unusedSimpArgs false
namespace Go.Proofs.Ytlmelbnmfhpacaa
open Go.RowKit Go.Shelf Go.Proofs.YtlmelbnmfhpacaaW.PrintWords Go.Proofs.YtlmelbnmfhpacaaW.PrintMore Go.Proofs.YtlmelbnmfhpacaaW.PrintLast

/-- Values one behind the other, to the end; n: no more than so many. -/
def itemsF (v : List Int → Except Int (T × List Int)) : Nat → List Int → Except Int (List T)
  | 0, _ => .ok []
  | _ + 1, [] => .ok []
  | n + 1, x :: l =>
    match v (x :: l) with
    | .error e => .error e
    | .ok r =>
      match itemsF v n r.2 with
      | .error e => .error e
      | .ok xs => .ok (r.1 :: xs)
/-- A value off bytes, with so many levels left; what is left of them. -/
def valF : Nat → List Int → Except Int (T × List Int)
  | 0, _ => .error 150
  | _ + 1, [] => .error 151
  | n + 1, t :: l =>
    if 30 < t % 32 then .error 151 else
    match lenF l with
    | none => .error 151
    | some r =>
      if ((l.drop r.2).length : Int) < r.1 then .error 151 else
      if t / 32 % 2 = 0 then .ok (⟨t / 64, t % 32, false, (l.drop r.2).take r.1.toNat, []⟩, (l.drop r.2).drop r.1.toNat) else
      match itemsF (valF n) r.1.toNat ((l.drop r.2).take r.1.toNat) with
      | .error e => .error e
      | .ok xs => .ok (⟨t / 64, t % 32, true, [], xs⟩, (l.drop r.2).drop r.1.toNat)
theorem val_less : ∀ (n : Nat) (l : List Int) (r : T × List Int), valF n l = .ok r → r.2.length < l.length
  | 0, l, r, h => by simp [valF] at h
  | n + 1, [], r, h => by simp [valF] at h
  | n + 1, t :: l, r, h => by
    rw [valF] at h
    split at h
    · cases h
    · split at h
      · cases h
      · split at h
        · cases h
        · split at h
          · cases h
            simp only [List.length_drop, List.length_cons]
            omega
          · split at h
            · cases h
            · cases h
              simp only [List.length_drop, List.length_cons]
              omega
/-- What is left is a part of the bytes. -/
theorem val_mem : ∀ (n : Nat) (l : List Int) (r : T × List Int), valF n l = .ok r → ∀ x ∈ r.2, x ∈ l
  | 0, l, r, h => by simp [valF] at h
  | n + 1, [], r, h => by simp [valF] at h
  | n + 1, t :: l, r, h => by
    rw [valF] at h
    split at h
    · cases h
    · split at h
      · cases h
      · split at h
        · cases h
        · split at h
          · cases h
            exact fun x hx => List.mem_cons_of_mem _ (List.mem_of_mem_drop (List.mem_of_mem_drop hx))
          · split at h
            · cases h
            · cases h
              exact fun x hx => List.mem_cons_of_mem _ (List.mem_of_mem_drop (List.mem_of_mem_drop hx))
end Go.Proofs.Ytlmelbnmfhpacaa

/- The reader gives back what was laid, plain. -/
set_option linter.unusedVariables false
set_option linter.unusedSimpArgs false
namespace Go.Proofs.Ytlmelbnmfhpacaa
open Go.RowKit Go.Shelf Go.Proofs.YtlmelbnmfhpacaaW.PrintWords Go.Proofs.YtlmelbnmfhpacaaW.PrintMore Go.Proofs.YtlmelbnmfhpacaaW.PrintLast

theorem lenF_long (m n : Nat) (ys r : List Int) (h1 : 1 ≤ m) (h4 : m ≤ 4) (hl : ys.length = m) (hb : beN ys = (n : Int)) (hn : 128 ≤ n) (hh : (hiL n).length = m) : lenF ((128 + (m : Int)) :: (ys ++ r)) = some ((n : Int), 1 + m) := by
  have e : ((128 + (m : Int)) - 128).toNat = m := by omega
  have t : (ys ++ r).take m = ys := by rw [List.take_append_of_le_length (by omega), List.take_of_length_le (by omega)]
  rw [lenF_cons, if_neg (by omega), e, t, hb, Int.toNat_natCast, if_pos ⟨by omega, by omega, by rw [List.length_append]; omega, by omega, hh⟩]
theorem lenF_lay (n : Nat) (h : n ≤ 10000000) (r : List Int) : lenF (lenL n ++ r) = some ((n : Int), (lenL n).length) := by
  unfold lenL
  by_cases c0 : n < 128
  · rw [if_pos c0]
    show lenF ((n : Int) :: r) = _
    rw [lenF_cons, if_pos (by omega)]
    rfl
  · rw [if_neg c0]
    by_cases c1 : n < 256
    · rw [if_pos c1]
      exact lenF_long 1 n [(n : Int)] r (by omega) (by omega) rfl (by simp [beN]) (by omega) (by unfold hiL; rw [if_pos c1]; rfl)
    · rw [if_neg c1]
      by_cases c2 : n < 65536
      · rw [if_pos c2]
        exact lenF_long 2 n [(n / 256 : Int), (n % 256 : Int)] r (by omega) (by omega) rfl (by simp only [beN, List.foldl]; omega) (by omega) (by unfold hiL; rw [if_neg c1, if_pos c2]; rfl)
      · rw [if_neg c2]
        exact lenF_long 3 n [(n / 65536 : Int), (n / 256 % 256 : Int), (n % 256 : Int)] r (by omega) (by omega) rfl (by simp only [beN, List.foldl]; omega) (by omega) (by unfold hiL; rw [if_neg c1, if_neg c2, if_pos (by omega)]; rfl)
theorem items_lay (v : List Int → Except Int (T × List Int)) : ∀ (xs : List T) (n : Nat), (∀ x ∈ xs, ∀ r, v (layT x ++ r) = .ok (x, r)) → (layL xs).length ≤ n → itemsF v n (layL xs) = .ok xs
  | [], n, _, _ => by cases n <;> simp [layL, itemsF]
  | x :: xs, n, hv, hn => by
    have h1 := hv x (by simp) (layL xs)
    have ih := fun k => items_lay v xs k (fun y hy => hv y (by simp [hy]))
    have e : layL (x :: xs) = layT x ++ layL xs := by rw [layL]
    have hp : ∃ t l, layT x = t :: l := by cases x; exact ⟨_, _, rfl⟩
    obtain ⟨t, l, ht⟩ := hp
    rw [e, ht] at hn ⊢
    rw [ht] at h1
    cases n with
    | zero => simp at hn
    | succ n =>
      rw [List.cons_append] at h1 hn ⊢
      rw [itemsF, h1]
      dsimp only
      rw [ih n (by simp at hn; omega)]
theorem layL_mem {xs : List T} {x : T} (h : x ∈ xs) : (layT x).length ≤ (layL xs).length := by
  induction xs with
  | nil => cases h
  | cons y ys ih =>
    rw [layL, List.length_append]
    rcases List.mem_cons.1 h with rfl | h
    · omega
    · have := ih h; omega
theorem val_lay (x : T) : ∀ (d n : Nat) (r : List Int), d + n = 16 → argT x = true → deepT d x = true → byteT x → (layT x).length ≤ 1000000 → valF (n + 1) (layT x ++ r) = .ok (x, r) := by
  refine treeInd (P := fun x => ∀ (d n : Nat) (r : List Int), d + n = 16 → argT x = true → deepT d x = true → byteT x → (layT x).length ≤ 1000000 → valF (n + 1) (layT x ++ r) = .ok (x, r)) (fun x0 x1 x2 xb xs ih => ?_) x
  intro d n r hdn ha hd hy hz
  have hy' : (0 ≤ x0 ∧ x0 < 256) ∧ (0 ≤ x1 ∧ x1 < 256) ∧ (∀ x ∈ xb, 0 ≤ x ∧ x < 256) ∧ byteL xs := hy
  obtain ⟨⟨y0, y1⟩, ⟨y2, y3⟩, y4, y5⟩ := hy'
  have ha' : ((decide (x0 ≤ 3) && decide (x1 ≤ 30) && (!x2 || xb.isEmpty) && (x2 || xs.isEmpty)) && argL xs) = true := ha
  simp only [Bool.and_eq_true, decide_eq_true_eq] at ha'
  obtain ⟨⟨⟨⟨a0, a1⟩, a2⟩, a3⟩, a4⟩ := ha'
  have hd' : (decide (d ≤ 16) && deepL (d + 1) xs) = true := hd
  simp only [Bool.and_eq_true, decide_eq_true_eq] at hd'
  have hlay : layT ⟨x0, x1, x2, xb, xs⟩ = (64 * x0 + x1 + (if x2 then 32 else 0)) :: (lenL (if x2 then layL xs else xb).length ++ (if x2 then layL xs else xb)) := rfl
  rw [hlay] at hz ⊢
  obtain ⟨B, hB⟩ : ∃ B, (if x2 then layL xs else xb) = B := ⟨_, rfl⟩
  rw [hB] at hz ⊢
  have hBl : B.length ≤ 1000000 := by simp at hz; omega
  have hdr : (lenL B.length ++ (B ++ r)).drop (lenL B.length).length = B ++ r := List.drop_left
  have hlen : ¬ (((B ++ r).length : Int) < (B.length : Int)) := by rw [List.length_append]; omega
  rw [List.cons_append, List.append_assoc, valF, lenF_lay B.length (by omega)]
  dsimp only
  rw [hdr, if_neg hlen, Int.toNat_natCast, List.take_left, List.drop_left]
  cases x2 with
  | false =>
    have hxs : xs = [] := by simpa using a3
    subst hxs
    have hB' : xb = B := by simpa using hB
    subst hB'
    rw [if_neg (by simp; omega), if_pos (by simp; omega)]
    have e1 : (64 * x0 + x1 + (if false = true then 32 else 0)) / 64 = x0 := by simp; omega
    have e2 : (64 * x0 + x1 + (if false = true then 32 else 0)) % 32 = x1 := by simp; omega
    rw [e1, e2]
  | true =>
    have hxb : xb = [] := by simpa using a2
    subst hxb
    have hB' : layL xs = B := by simpa using hB
    subst hB'
    rw [if_neg (by simp; omega), if_neg (by simp; omega)]
    have e1 : (64 * x0 + x1 + (if true = true then 32 else 0)) / 64 = x0 := by simp; omega
    have e2 : (64 * x0 + x1 + (if true = true then 32 else 0)) % 32 = x1 := by simp; omega
    rw [e1, e2]
    cases n with
    | zero =>
      have hnil : xs = [] := by
        cases xs with
        | nil => rfl
        | cons y ys =>
          have := (deepL_iff _ _).1 hd'.2 y (by simp)
          cases y
          simp [deepT] at this
          omega
      subst hnil
      rfl
    | succ n =>
      rw [items_lay (valF (n + 1)) xs _ (fun y hm r' => ih y hm (d + 1) n r' (by omega) ((argL_iff xs).1 a4 y hm) ((deepL_iff _ xs).1 hd'.2 y hm) ((byteL_iff xs).1 y5 y hm) (by
        have : (layT y).length ≤ (layL xs).length := by
          exact layL_mem hm
        omega)) (Nat.le_refl _)]
end Go.Proofs.Ytlmelbnmfhpacaa

/- Decode's first deferred closure. -/
set_option linter.unusedVariables false
set_option linter.unusedSimpArgs false
namespace Go.Proofs.Ytlmelbnmfhpacaa
open Go.RowKit Go.Shelf Go.Proofs.YtlmelbnmfhpacaaW.PrintWords Go.Proofs.YtlmelbnmfhpacaaW.PrintMore Go.Proofs.YtlmelbnmfhpacaaW.PrintLast

theorem wipe_no (E V : Nat) (w : World) (h : w.cell? ⟨E, 0, none⟩ = some (.int .i64 0)) : Calls Try.prog 38 #[.pointer (some ⟨E, 0, none⟩), .pointer (some ⟨V, 0, none⟩)] w fun e w' => e = .returned (.tuple #[]) ∧ w' = w := by
  go_enter Try.func38, Try.ntmps38
  go_wp2_with fail
  go_end0
  exact ⟨rfl, rfl⟩
theorem wipe_yes (E V : Nat) (n : Int) (w : World) (hn : n ≠ 0) (h : w.cell? ⟨E, 0, none⟩ = some (.int .i64 n)) {v0 v1 v2 v3 v4 : Value} (hb : Box w V v0 v1 v2 v3 v4) :
    Calls Try.prog 38 #[.pointer (some ⟨E, 0, none⟩), .pointer (some ⟨V, 0, none⟩)] w fun e w' => e = .returned (.tuple #[]) ∧ Box w' V (.int .u8 0) (.int .u8 0) (.bool false) (.slice none 0 0) (.slice none 0 0) ∧ Mod (fun q => q = V) w w' := by
  obtain ⟨w3, hw3, hB3, hm3⟩ := put5 hb (.int .u8 0) (.int .u8 0) (.bool false) (.slice none 0 0) (.slice none 0 0)
  obtain ⟨f0, f1, f2, f3, f4⟩ := hb.free
  obtain ⟨c0, c1, c2, c3, c4⟩ := hb.cells
  replace hB3 := Aside0.mk hB3
  replace hm3 := Aside0.mk hm3
  have d1 : (n == 0) = false := by simpa using hn
  clear hb hn
  go_enter Try.func38, Try.ntmps38
  go_wp2_with fail
  go_end0
  exact ⟨rfl, hB3.out, hm3.out⟩
end Go.Proofs.Ytlmelbnmfhpacaa

/- More bytes behind a value change nothing, plain. -/
set_option linter.unusedVariables false
set_option linter.unusedSimpArgs false
namespace Go.Proofs.Ytlmelbnmfhpacaa
open Go.RowKit Go.Shelf Go.Proofs.YtlmelbnmfhpacaaW.PrintWords Go.Proofs.YtlmelbnmfhpacaaW.PrintMore Go.Proofs.YtlmelbnmfhpacaaW.PrintLast

theorem lenF_ext (l t : List Int) (k : Int) (m : Nat) (hy : ∀ x ∈ l, 0 ≤ x) (h : lenF l = some (k, m)) : lenF (l ++ t) = some (k, m) ∧ m ≤ l.length ∧ 0 ≤ k := by
  cases l with
  | nil => simp [lenF] at h
  | cons x l =>
    have hx := hy x (by simp)
    rw [List.cons_append]
    rw [lenF_cons] at h ⊢
    by_cases c : x < 128
    · rw [if_pos c] at h ⊢
      cases h
      exact ⟨rfl, by simp, hx⟩
    · rw [if_neg c] at h ⊢
      by_cases d : 128 < x ∧ x ≤ 132 ∧ x - 128 ≤ l.length ∧ 128 ≤ beN (l.take (x - 128).toNat) ∧ (hiL (beN (l.take (x - 128).toNat)).toNat).length = (x - 128).toNat
      · rw [if_pos d] at h
        have e : (l ++ t).take (x - 128).toNat = l.take (x - 128).toNat := List.take_append_of_le_length (by omega)
        obtain ⟨d1, d2, d3, d4, d5⟩ := d
        rw [e, if_pos ⟨d1, d2, by rw [List.length_append]; omega, d4, d5⟩]
        cases h
        exact ⟨rfl, by simp; omega, by omega⟩
      · rw [if_neg d] at h
        cases h
theorem val_ext (n : Nat) (l t : List Int) (x : T) (r : List Int) (hy : ∀ x ∈ l, 0 ≤ x) (h : valF n l = .ok (x, r)) : valF n (l ++ t) = .ok (x, r ++ t) := by
  cases n with
  | zero => simp [valF] at h
  | succ n =>
    cases l with
    | nil => simp [valF] at h
    | cons g l =>
      rw [List.cons_append]
      rw [valF] at h ⊢
      by_cases c1 : 30 < g % 32
      · rw [if_pos c1] at h; cases h
      · rw [if_neg c1] at h ⊢
        cases hl : lenF l with
        | none => rw [hl] at h; cases h
        | some q =>
          obtain ⟨k, m⟩ := q
          obtain ⟨e1, e2, e3⟩ := lenF_ext l t k m (fun y hm => hy y (by simp [hm])) hl
          rw [hl] at h
          rw [e1]
          dsimp only at h ⊢
          have e4 : (l ++ t).drop m = l.drop m ++ t := List.drop_append_of_le_length e2
          rw [e4]
          by_cases c2 : ((l.drop m).length : Int) < k
          · rw [if_pos c2] at h; cases h
          · rw [if_neg c2] at h
            rw [if_neg (by rw [List.length_append]; omega), List.take_append_of_le_length (by omega), List.drop_append_of_le_length (by omega)]
            by_cases c3 : g / 32 % 2 = 0
            · rw [if_pos c3] at h ⊢
              cases h
              rfl
            · rw [if_neg c3] at h ⊢
              cases hi : itemsF (valF n) k.toNat ((l.drop m).take k.toNat) with
              | error e => rw [hi] at h; cases h
              | ok xs =>
                rw [hi] at h
                cases h
                rfl
/-- No proper part ahead of what was laid is a value. -/
theorem val_cut (x : T) (n : Nat) (q t : List Int) (y : T) (s : List Int) (hy : ∀ x ∈ q, 0 ≤ x) (h0 : valF n (q ++ t) = .ok (x, [])) (h : valF n q = .ok (y, s)) : t = [] := by
  have := val_ext n q t y s hy h
  rw [h0] at this
  injection this with e
  have e2 : ([] : List Int) = s ++ t := congrArg Prod.snd e
  exact (List.append_eq_nil_iff.1 e2.symm).2
end Go.Proofs.Ytlmelbnmfhpacaa

/- slices.EqualFunc of values. -/
set_option linter.unusedVariables false
set_option linter.unusedSimpArgs false
namespace Go.Proofs.Ytlmelbnmfhpacaa
open Go.RowKit Go.Shelf Go.Proofs.YtlmelbnmfhpacaaW.PrintWords Go.Proofs.YtlmelbnmfhpacaaW.PrintMore Go.Proofs.YtlmelbnmfhpacaaW.PrintLast

/-- A call tells whether a thing is so. -/
def Tells (p : Prop) (w : World) (e : Ending) (w' : World) : Prop := (∃ b, e = .returned (.bool b) ∧ (b = true ↔ p)) ∧ Below w.heap.size w w'
set_option maxHeartbeats 1000000 in
theorem eqs_calls (xs ys : List T) (A B : Option Addr) (c d : Nat) (w : World) (hx : kT.C w A xs.length xs) (hy : kT.C w B ys.length ys) (hl : xs.length ≤ 10000000) (hyb : ∀ y ∈ ys, byteT y)
    (ih : ∀ x ∈ xs, ∀ (y : T) (A : Option Addr) (c : Nat) (B : Option Addr) (d : Nat) (A' : Option Addr) (c' : Nat) (B' : Option Addr) (d' : Nat) (w : World), Bv w x A c B d → Bv w y A' c' B' d' → byteT y → Calls Try.prog 32 #[bv x A c B d, bv y A' c' B' d'] w (Tells (x = y) w)) :
    Calls Try.prog 46 #[.slice A xs.length c, .slice B ys.length d, .func (.func 32) #[] #[]] w (Tells (xs = ys) w) := by
  have he := enters_of (P := Try.prog) Try.func32 (by kernel_rfl) rfl
  by_cases hn : xs.length = ys.length
  · obtain ⟨N, hN⟩ : ∃ N, xs.length = N := ⟨_, rfl⟩
    have hM : ys.length = N := by omega
    rw [hN] at hx hl
    rw [hM] at hy
    rw [hN, hM]
    replace hx := Aside0.mk hx
    replace hy := Aside0.mk hy
    replace hN := Aside0.mk hN
    replace hM := Aside0.mk hM
    replace ih := Aside0.mk ih
    have hb0 := Aside0.mk (Below.refl w.heap.size w)
    replace hyb := Aside0.mk hyb
    clear hn
    go_enter Try.func46, Try.ntmps46
    go_wp2_with fail
    go_loopw [7, 17] (fun s7 s17 wr => ∃ (k : Nat) (v : Value), k ≤ N ∧ s17 = .int .i64 k ∧ s7 = v ∧ Aside0 (xs.take k = ys.take k) ∧ Aside0 (Below w.heap.size w wr)) (fun _ s17 _ => N - (intOf s17).toNat)
    case atStart => exact ⟨0, _, Nat.zero_le _, rfl, rfl, ⟨rfl⟩, hb0⟩
    case round =>
      clear hb0
      obtain ⟨k, v, hk, rfl, rfl, hq, hb⟩ := hrel
      by_cases hlt : k < N
      · have k1 : k < xs.length := by rw [hN.out]; exact hlt
        have k2 : k < ys.length := by rw [hM.out]; exact hlt
        obtain ⟨ad, A6, c6, B6, d6, e, s0, s1, s2, s3, s4, hv6⟩ := kT_at (Kd.C_below hx.out hb.out) k k1
        obtain ⟨ad', A7, c7, B7, d7, e', t0, t1, t2, t3, t4, hv7⟩ := kT_at (Kd.C_below hy.out hb.out) k k2
        subst e
        subst e'
        have hcl := ih.out xs[k] (List.getElem_mem k1) ys[k] A6 c6 B6 d6 A7 c7 B7 d7
        have hnx : xs[k] = ys[k] → xs.take (k + 1) = ys.take (k + 1) := fun h => by rw [List.take_succ_eq_append_getElem k1, List.take_succ_eq_append_getElem k2, hq.out, h]
        have hno : ¬ xs[k] = ys[k] → ¬ xs = ys := fun h e => h (by subst e; rfl)
        have hyk := hyb.out _ (List.getElem_mem k2)
        obtain ⟨x, hx9⟩ : ∃ x, xs[k] = x := ⟨_, rfl⟩
        obtain ⟨y, hy9⟩ : ∃ y, ys[k] = y := ⟨_, rfl⟩
        rw [hx9] at s0 s1 s2 s3 s4 hv6 hcl hnx hno
        rw [hy9] at t0 t1 t2 t3 t4 hv7 hcl hnx hno hyk
        have hb2 := below_alloc (Below.refl wr.heap.size wr) (.cells #[.int .u8 x.f0, .int .u8 x.f1, .bool x.f2, .slice A6 x.f3.length c6, .slice B6 x.f4.length d6] 26)
        have hX2 := box_new wr (.int .u8 x.f0) (.int .u8 x.f1) (.bool x.f2) (.slice A6 x.f3.length c6) (.slice B6 x.f4.length d6)
        obtain ⟨w2, hw2e⟩ : ∃ w2, wr.alloc (.cells #[.int .u8 x.f0, .int .u8 x.f1, .bool x.f2, .slice A6 x.f3.length c6, .slice B6 x.f4.length d6] 26) = w2 := ⟨_, rfl⟩
        rw [hw2e] at hb2 hX2
        have t0 := pw_cell_below hb2 t0
        have t1 := pw_cell_below hb2 t1
        have t2 := pw_cell_below hb2 t2
        have t3 := pw_cell_below hb2 t3
        have t4 := pw_cell_below hb2 t4
        have hb3 := below_alloc (Below.refl w2.heap.size w2) (.cells #[.int .u8 y.f0, .int .u8 y.f1, .bool y.f2, .slice A7 y.f3.length c7, .slice B7 y.f4.length d7] 26)
        have hX3 := box_new w2 (.int .u8 y.f0) (.int .u8 y.f1) (.bool y.f2) (.slice A7 y.f3.length c7) (.slice B7 y.f4.length d7)
        obtain ⟨w3, hw3e⟩ : ∃ w3, w2.alloc (.cells #[.int .u8 y.f0, .int .u8 y.f1, .bool y.f2, .slice A7 y.f3.length c7, .slice B7 y.f4.length d7] 26) = w3 := ⟨_, rfl⟩
        rw [hw3e] at hb3 hX3
        obtain ⟨p0, p1, p2, p3, p4⟩ := (hX2.below hb3).cells
        obtain ⟨q0, q1, q2, q3, q4⟩ := hX3.cells
        have hcall := Aside0.mk (show Calls Try.prog 32 #[.agg #[.int .u8 x.f0, .int .u8 x.f1, .bool x.f2, .slice A6 x.f3.length c6, .slice B6 x.f4.length d6], .agg #[.int .u8 y.f0, .int .u8 y.f1, .bool y.f2, .slice A7 y.f3.length c7, .slice B7 y.f4.length d7]] w3 (Tells (x = y) w3) from hcl w3 ((hv6.below hb2).below hb3) ((hv7.below hb2).below hb3) hyk)
        have hbw := Aside0.mk (below_then (below_then hb.out hb.out.size hb2) (Nat.le_trans hb.out.size hb2.size) hb3)
        replace hnx := Aside0.mk hnx
        replace hno := Aside0.mk hno
        have i1 : (0 : Int) ≤ (k : Int) := by omega
        have i2 : (k : Int) < (N : Int) := by omega
        clear hX2 hX3 hb2 hb3 hb hcl hv6 hv7 hyk k1 k2 hx9 hy9 hq
        go_wp2_with fail
        refine hcall.out.mono ?_
        rintro e w4 ⟨⟨b, rfl, hbb⟩, hb4⟩
        have hb5 := Aside0.mk (below_then hbw.out hbw.out.size hb4)
        replace hbb := Aside0.mk hbb
        clear hcall hbw hb4
        cases b with
        | true =>
          go_wp2_with fail
          go_roundw
          case rel => exact ⟨k + 1, _, by omega, by go_num, rfl, ⟨hnx.out (hbb.out.1 (by trivial))⟩, hb5⟩
          case measure => simp [intOf]; omega
        | false =>
          go_wp2_with fail
          go_ret
          exact ⟨⟨false, rfl, by simp; exact hno.out (fun h => by have := hbb.out.2 h; cases this)⟩, hb5.out⟩
      · obtain rfl : k = N := by omega
        have h1 : xs.take k = xs := List.take_of_length_le (by rw [hN.out]; exact Nat.le_refl _)
        have h2 : ys.take k = ys := List.take_of_length_le (by rw [hM.out]; exact Nat.le_refl _)
        rw [h1, h2] at hq
        clear h1 h2
        go_wp2_with fail
        go_ret
        exact ⟨⟨true, rfl, by simp; exact hq.out⟩, hb.out⟩
  · have hno := Aside0.mk (show ¬ xs = ys from fun h => hn (by rw [h]))
    obtain ⟨N, hN⟩ : ∃ N, xs.length = N := ⟨_, rfl⟩
    obtain ⟨M, hM⟩ : ∃ M, ys.length = M := ⟨_, rfl⟩
    rw [hN] at hn hl ⊢
    rw [hM] at hn ⊢
    have d1 : ((N : Int) == (M : Int)) = false := by simp; omega
    clear hx hy ih hN hM hn hyb
    go_enter Try.func46, Try.ntmps46
    go_wp2_with fail
    go_ret
    exact ⟨⟨false, rfl, by simp; exact hno.out⟩, Below.refl _ _⟩
end Go.Proofs.Ytlmelbnmfhpacaa

/- bytes.Equal, plain and as a contract. -/
set_option linter.unusedVariables false
set_option linter.unusedSimpArgs false
namespace Go.Proofs.Ytlmelbnmfhpacaa
open Go.RowKit Go.Shelf Go.Proofs.YtlmelbnmfhpacaaW.PrintWords Go.Proofs.YtlmelbnmfhpacaaW.PrintMore Go.Proofs.YtlmelbnmfhpacaaW.PrintLast

theorem str_data (l : List Int) : (strOfNums l).data.toList = l.map fun n => UInt8.ofNat n.toNat := by
  rw [← ByteArray.toList_eq]; exact Lib.strOfNums_toList l
theorem bytes_str (l : List Int) (h : ∀ x ∈ l, 0 ≤ x ∧ x < 256) : bytesOf (strOfNums l) = l := by
  unfold bytesOf
  rw [str_data, List.map_map]
  conv => rhs; rw [← List.map_id l]
  apply List.map_congr_left
  intro x hx
  have := h x hx
  simp only [Function.comp, id, UInt8.toNat_ofNat']
  omega
theorem str_eq (a b : List Int) (ha : ∀ x ∈ a, 0 ≤ x ∧ x < 256) (hb : ∀ x ∈ b, 0 ≤ x ∧ x < 256) : ((strOfNums a).toList == (strOfNums b).toList) = true ↔ a = b := by
  rw [beq_iff_eq]
  constructor
  · intro h
    rw [ByteArray.toList_eq, ByteArray.toList_eq] at h
    rw [← bytes_str a ha, ← bytes_str b hb]
    unfold bytesOf
    rw [h]
  · rintro rfl; rfl
theorem equal_calls (A : Option Addr) (c : Nat) (a : List Int) (B : Option Addr) (d : Nat) (b : List Int) (w : World) (h1 : kU.C w A a.length a) (h2 : a.length ≤ c) (h3 : kU.C w B b.length b) (h4 : b.length ≤ d) (ha : ∀ x ∈ a, 0 ≤ x ∧ x < 256) (hb : ∀ x ∈ b, 0 ≤ x ∧ x < 256) :
    Calls Try.prog 45 #[.slice A a.length c, .slice B b.length d] w fun e w' => (∃ r, e = .returned (.bool r) ∧ (r = true ↔ a = b)) ∧ Below w.heap.size w w' := by
  refine (PBerEncodes.bytes_Equal.calls A c a B d b _ w h1 h2 h3 h4 rfl).mono ?_
  rintro e w' ⟨rfl, hd⟩
  exact ⟨⟨_, rfl, str_eq a b ha hb⟩, hd.below⟩
end Go.Proofs.Ytlmelbnmfhpacaa

/- ber.Same. -/
set_option linter.unusedVariables false
set_option linter.unusedSimpArgs false
namespace Go.Proofs.Ytlmelbnmfhpacaa
open Go.RowKit Go.Shelf Go.Proofs.YtlmelbnmfhpacaaW.PrintWords Go.Proofs.YtlmelbnmfhpacaaW.PrintMore Go.Proofs.YtlmelbnmfhpacaaW.PrintLast

set_option maxHeartbeats 1000000 in
theorem same_calls (x : T) : byteT x → wT x ≤ 10000000 → ∀ (y : T) (A : Option Addr) (c : Nat) (B : Option Addr) (d : Nat) (A' : Option Addr) (c' : Nat) (B' : Option Addr) (d' : Nat) (w : World), Bv w x A c B d → Bv w y A' c' B' d' → byteT y → Calls Try.prog 32 #[bv x A c B d, bv y A' c' B' d'] w (Tells (x = y) w) := by
  refine treeInd (P := fun x => byteT x → wT x ≤ 10000000 → ∀ (y : T) (A : Option Addr) (c : Nat) (B : Option Addr) (d : Nat) (A' : Option Addr) (c' : Nat) (B' : Option Addr) (d' : Nat) (w : World), Bv w x A c B d → Bv w y A' c' B' d' → byteT y → Calls Try.prog 32 #[bv x A c B d, bv y A' c' B' d'] w (Tells (x = y) w)) (fun x0 x1 x2 xb xs ih => ?_) x
  intro hyx hwx y A c B d A' c' B' d' w hv hu hyy
  obtain ⟨z0, z1, z2, zb, zs⟩ := y
  have hx' : (0 ≤ x0 ∧ x0 < 256) ∧ (0 ≤ x1 ∧ x1 < 256) ∧ (∀ x ∈ xb, 0 ≤ x ∧ x < 256) ∧ byteL xs := hyx
  have hz' : (0 ≤ z0 ∧ z0 < 256) ∧ (0 ≤ z1 ∧ z1 < 256) ∧ (∀ x ∈ zb, 0 ≤ x ∧ x < 256) ∧ byteL zs := hyy
  have hw' : 1 + xb.length + wL xs ≤ 10000000 := hwx
  have hwn := wL_length xs
  have hX := box_new w (.int .u8 x0) (.int .u8 x1) (.bool x2) (.slice A xb.length c) (.slice B xs.length d)
  have hb1 := below_alloc (Below.refl w.heap.size w) (.cells #[.int .u8 x0, .int .u8 x1, .bool x2, .slice A xb.length c, .slice B xs.length d] 26)
  obtain ⟨w1, hw1⟩ : ∃ w1, w.alloc (.cells #[.int .u8 x0, .int .u8 x1, .bool x2, .slice A xb.length c, .slice B xs.length d] 26) = w1 := ⟨_, rfl⟩
  rw [hw1] at hX hb1
  have hY := box_new w1 (.int .u8 z0) (.int .u8 z1) (.bool z2) (.slice A' zb.length c') (.slice B' zs.length d')
  have hb2 := below_alloc (Below.refl w1.heap.size w1) (.cells #[.int .u8 z0, .int .u8 z1, .bool z2, .slice A' zb.length c', .slice B' zs.length d'] 26)
  obtain ⟨w2, hw2⟩ : ∃ w2, w1.alloc (.cells #[.int .u8 z0, .int .u8 z1, .bool z2, .slice A' zb.length c', .slice B' zs.length d'] 26) = w2 := ⟨_, rfl⟩
  rw [hw2] at hY hb2
  obtain ⟨p0, p1, p2, p3, p4⟩ := (hX.below hb2).cells
  obtain ⟨q0, q1, q2, q3, q4⟩ := hY.cells
  have hv2 := (hv.below hb1).below hb2
  have hu2 := (hu.below hb1).below hb2
  have heq := Aside0.mk (show Calls Try.prog 45 #[.slice A xb.length c, .slice A' zb.length c'] w2 _ from equal_calls A c xb A' c' zb w2 hv2.cb hv2.lb hu2.cb hu2.lb hx'.2.2.1 hz'.2.2.1)
  have heqs := Aside0.mk (fun W (hb : Below w2.heap.size w2 W) => (show Calls Try.prog 46 #[.slice B xs.length d, .slice B' zs.length d', .func (.func 32) #[] #[]] W (Tells (xs = zs) W) from eqs_calls xs zs B B' d d' W (Kd.C_below hv2.ci hb) (Kd.C_below hu2.ci hb) (by omega) ((byteL_iff zs).1 hz'.2.2.2) (fun x hx => ih x hx ((byteL_iff xs).1 hx'.2.2.2 x hx) (by have := wT_mem hx; omega))))
  have hbw := Aside0.mk (below_then hb1 hb1.size hb2)
  have hiff : (({ f0 := x0, f1 := x1, f2 := x2, f3 := xb, f4 := xs } : T) = { f0 := z0, f1 := z1, f2 := z2, f3 := zb, f4 := zs }) ↔ (x0 = z0 ∧ x1 = z1 ∧ x2 = z2 ∧ xb = zb ∧ xs = zs) := by simp
  have hfin : ∀ p : Prop, ((x0 = z0 ∧ x1 = z1 ∧ x2 = z2 ∧ xb = zb ∧ xs = zs) ↔ p) → True := fun _ _ => trivial
  rw [hiff]
  clear hX hY hb1 hb2 hv hu hv2 hu2 ih hyx hyy hx' hz' hiff hfin hw' hwx hwn
  unfold bv
  dsimp only
  obtain ⟨p, hp⟩ : ∃ p : Prop, (x0 = z0 ∧ x1 = z1 ∧ x2 = z2 ∧ xb = zb ∧ xs = zs) = p := ⟨_, rfl⟩
  rw [hp]
  have hp2 := Aside0.mk (show x0 = z0 → x1 = z1 → x2 = z2 → xb = zb → (xs = zs ↔ p) from fun a b c d => by rw [← hp]; exact ⟨fun h => ⟨a, b, c, d, h⟩, fun h => h.2.2.2.2⟩)
  have hno : ¬ (x0 = z0 ∧ x1 = z1 ∧ x2 = z2 ∧ xb = zb ∧ xs = zs) → Aside0 (∀ W, Below w.heap.size w W → Tells p w (.returned (.bool false)) W) := fun h => ⟨fun W hb => ⟨⟨false, rfl, by simp only [Bool.false_eq_true, false_iff]; rw [← hp]; exact h⟩, hb⟩⟩
  clear hp
  by_cases c0 : x0 = z0
  · by_cases c1 : x1 = z1
    · by_cases c2 : x2 = z2
      · subst c0 c1 c2
        have e0 : (x0 == x0) = true := by simp
        have e1 : (x1 == x1) = true := by simp
        have e2 : (x2 == x2) = true := by simp
        replace hno := Aside0.mk hno
        replace hp2 := Aside0.mk (hp2.out rfl rfl rfl)
        by_cases c3 : xb = zb
        · replace hp2 := Aside0.mk (hp2.out c3)
          have hq : Aside0 (Calls Try.prog 45 #[.slice A xb.length c, .slice A' zb.length c'] w2 fun e w' => e = .returned (.bool true) ∧ Below w2.heap.size w2 w') := ⟨heq.out.mono (fun e w' h => by obtain ⟨⟨r, h1, h2⟩, h3⟩ := h; rw [h2.2 c3] at h1; exact ⟨h1, h3⟩)⟩
          clear heq c3 hno
          go_enter Try.func32, Try.ntmps32
          go_wp2_with fail
          refine hq.out.mono ?_
          rintro e w3 ⟨rfl, hb3⟩
          have h46 := Aside0.mk (heqs.out w3 hb3)
          have r0 := pw_cell_below hb3 p4
          have r1 := pw_cell_below hb3 q4
          have hb4 := Aside0.mk (below_then hbw.out hbw.out.size hb3)
          clear hb3 heqs hbw p0 p1 p2 p3 p4 q0 q1 q2 q3 q4 hq
          go_wp2_with fail
          refine h46.out.mono ?_
          rintro e w4 ⟨⟨r2, rfl, hr2⟩, hb5⟩
          replace hr2 := Aside0.mk hr2
          have hb6 := Aside0.mk (below_then hb4.out hb4.out.size hb5)
          clear h46 hb5 hb4
          go_wp2_with fail
          go_ret
          exact ⟨⟨r2, rfl, hr2.out.trans hp2.out⟩, hb6.out⟩
        · have hn := hno.out (fun h => c3 h.2.2.2.1)
          have hq : Aside0 (Calls Try.prog 45 #[.slice A xb.length c, .slice A' zb.length c'] w2 fun e w' => e = .returned (.bool false) ∧ Below w2.heap.size w2 w') := ⟨heq.out.mono (fun e w' h => by obtain ⟨⟨r, h1, h2⟩, h3⟩ := h; rw [show r = false from by cases r with | false => rfl | true => exact absurd (h2.1 rfl) c3] at h1; exact ⟨h1, h3⟩)⟩
          clear heq c3 hno hp2 heqs
          go_enter Try.func32, Try.ntmps32
          go_wp2_with fail
          refine hq.out.mono ?_
          rintro e w3 ⟨rfl, hb3⟩
          have hb4 := Aside0.mk (below_then hbw.out hbw.out.size hb3)
          clear hb3 hbw p0 p1 p2 p3 p4 q0 q1 q2 q3 q4 hq
          go_wp2_with fail
          go_ret
          exact hn.out _ hb4.out
      · have hn := hno (fun h => c2 h.2.2.1)
        have e0 : (x0 == z0) = true := by simpa using c0
        have e1 : (x1 == z1) = true := by simpa using c1
        have e2 : (x2 == z2) = false := by simpa using c2
        clear hno heq heqs c0 c1 c2
        go_enter Try.func32, Try.ntmps32
        go_wp2_with fail
        go_ret
        exact hn.out _ hbw.out
    · have hn := hno (fun h => c1 h.2.1)
      have e0 : (x0 == z0) = true := by simpa using c0
      have e1 : (x1 == z1) = false := by simpa using c1
      clear hno heq heqs c0 c1
      go_enter Try.func32, Try.ntmps32
      go_wp2_with fail
      go_ret
      exact hn.out _ hbw.out
  · have hn := hno (fun h => c0 h.1)
    have e0 : (x0 == z0) = false := by simpa using c0
    clear hno heq heqs c0
    go_enter Try.func32, Try.ntmps32
    go_wp2_with fail
    go_ret
    exact hn.out _ hbw.out
end Go.Proofs.Ytlmelbnmfhpacaa
