/- ber.IntOf. -/
import Derived.Test.YtlmelbnmfhpacaaBa
import Derived.Test.YtlmelbnmfhpacaaPBerNumbersx2
set_option linter.unusedVariables false
set_option linter.unusedSimpArgs false
namespace Go.Proofs.Ytlmelbnmfhpacaa
open Go.RowKit Go.Shelf Go.Proofs.YtlmelbnmfhpacaaW.PrintWords Go.Proofs.YtlmelbnmfhpacaaW.PrintMore Go.Proofs.YtlmelbnmfhpacaaW.PrintLast

theorem or_int (k x : Int) (k0 : -36028797018963968 ≤ k) (k1 : k < 36028797018963968) (x0 : 0 ≤ x) (x1 : x < 256) : bits .or .i64 (256 * k) x = 256 * k + x := by
  obtain ⟨b, rfl⟩ := Int.eq_ofNat_of_zero_le x0
  obtain ⟨a, ha⟩ : ∃ a : Nat, k % 72057594037927936 = (a : Int) := ⟨(k % 72057594037927936).toNat, by omega⟩
  have hor : 256 * a ||| b = 256 * a + b := by
    have := Nat.shiftLeft_add_eq_or_of_lt (i := 8) (b := b) (by omega) a
    rw [Nat.shiftLeft_eq] at this
    rw [Nat.mul_comm 256 a]
    exact this.symm
  have hk : (BitVec.ofInt 64 (256 * k)).toNat = 256 * a := by
    rw [BitVec.toNat_ofInt]
    have : (256 * k) % ((2 ^ 64 : Nat) : Int) = 256 * (a : Int) := by
      rw [← ha]
      show (256 * k) % 18446744073709551616 = _
      omega
    rw [this]
    omega
  show IntKind.i64.wrap ((BitVec.ofInt 64 (256 * k) ||| BitVec.ofInt 64 (b : Int)).toNat : Int) = _
  rw [BitVec.toNat_or, hk, ofInt_u64 b (by omega), IntKind.wrap_i64, hor]
  omega
/-- The sign that a number's bytes begin with. -/
def sgn : List Int → Int
  | [] => 0
  | x :: _ => if 128 ≤ x then -1 else 0
/-- The number of some bytes, of two's complement. -/
def numN (l : List Int) : Int := l.foldl (fun k x => 256 * k + x) (sgn l)
/-- The number of the first bytes. -/
def numK (l : List Int) (j : Nat) : Int := (l.take j).foldl (fun k x => 256 * k + x) (sgn l)
theorem numK_all (l : List Int) : numK l l.length = numN l := by unfold numK numN; rw [List.take_length]
theorem numK_next {l : List Int} {j : Nat} (h : j < l.length) : numK l (j + 1) = 256 * numK l j + l[j] := by
  unfold numK
  rw [List.take_succ_eq_append_getElem h, List.foldl_append]
  rfl
theorem numK_range (l : List Int) (h : ∀ x ∈ l, 0 ≤ x ∧ x < 256) : ∀ j : Nat, j + 1 ≤ l.length → -(128 * 256 ^ j) ≤ numK l (j + 1) ∧ numK l (j + 1) < 128 * 256 ^ j := by
  intro j
  induction j with
  | zero =>
    intro hj
    rw [numK_next (by omega)]
    match l, hj, h with
    | x :: r, _, h =>
      have h1 := h x (by simp)
      simp only [List.getElem_cons_zero] at h1 ⊢
      unfold numK sgn
      simp only [List.take_zero, List.foldl_nil]
      split <;> omega
  | succ j ih =>
    intro hj
    have h1 := h _ (List.getElem_mem (show j + 1 < l.length by omega))
    have h2 := ih (by omega)
    rw [numK_next (by omega)]
    have hp : (256 : Int) ^ (j + 1) = 256 * 256 ^ j := by rw [Int.pow_succ, Int.mul_comm]
    rw [hp]
    omega
theorem pow_six : ∀ j : Nat, j ≤ 6 → (256 : Int) ^ j ≤ 281474976710656 ∧ 1 ≤ (256 : Int) ^ j
  | 0, _ => by decide
  | 1, _ => by decide
  | 2, _ => by decide
  | 3, _ => by decide
  | 4, _ => by decide
  | 5, _ => by decide
  | 6, _ => by decide
  | n + 7, h => by omega
theorem numK_small (l : List Int) (h : ∀ x ∈ l, 0 ≤ x ∧ x < 256) (j : Nat) (h0 : j + 1 ≤ 7) (hj : j + 1 ≤ l.length) : -36028797018963968 ≤ numK l (j + 1) ∧ numK l (j + 1) < 36028797018963968 := by
  have h1 := numK_range l h j hj
  have h2 := (pow_six j (by omega)).1
  constructor <;> omega
theorem i8_byte (y : Int) (y0 : 0 ≤ y) (y1 : y < 256) : IntKind.i8.wrap y = if 128 ≤ y then y - 256 else y := by
  simp [IntKind.wrap, IntKind.bits, IntKind.signed]
  split <;> omega
theorem wrap_in (n : Int) (h : -9223372036854775808 ≤ n ∧ n ≤ 9223372036854775807) : wrap64 n = n := by unfold wrap64; omega
theorem equal_yes (A : Option Addr) (c : Nat) (a : List Int) (B : Option Addr) (d : Nat) (b : List Int) (w : World) (h1 : kU.C w A a.length a) (h2 : a.length ≤ c) (h3 : kU.C w B b.length b) (h4 : b.length ≤ d) (ha : ∀ x ∈ a, 0 ≤ x ∧ x < 256) (hb : ∀ x ∈ b, 0 ≤ x ∧ x < 256) (h : a = b) :
    Calls Try.prog 45 #[.slice A a.length c, .slice B b.length d] w fun e w' => e = .returned (.bool true) ∧ Below w.heap.size w w' :=
  (equal_calls A c a B d b w h1 h2 h3 h4 ha hb).mono (fun e w' g => by obtain ⟨⟨r, g1, g2⟩, g3⟩ := g; rw [g2.2 h] at g1; exact ⟨g1, g3⟩)
theorem equal_no (A : Option Addr) (c : Nat) (a : List Int) (B : Option Addr) (d : Nat) (b : List Int) (w : World) (h1 : kU.C w A a.length a) (h2 : a.length ≤ c) (h3 : kU.C w B b.length b) (h4 : b.length ≤ d) (ha : ∀ x ∈ a, 0 ≤ x ∧ x < 256) (hb : ∀ x ∈ b, 0 ≤ x ∧ x < 256) (h : a ≠ b) :
    Calls Try.prog 45 #[.slice A a.length c, .slice B b.length d] w fun e w' => e = .returned (.bool false) ∧ Below w.heap.size w w' :=
  (equal_calls A c a B d b w h1 h2 h3 h4 ha hb).mono (fun e w' g => by obtain ⟨⟨r, g1, g2⟩, g3⟩ := g; rw [show r = false from by cases r with | false => rfl | true => exact absurd (g2.1 rfl) h] at g1; exact ⟨g1, g3⟩)
/-- The number that a value holds. -/
def intF (x : T) : Option Int := if x.f2 = false ∧ 1 ≤ x.f3.length ∧ x.f3.length ≤ 8 ∧ wholeL (numN x.f3) = x.f3 then some (numN x.f3) else none
def IntEnds (o : Option Int) (w : World) (e : Ending) (w' : World) : Prop :=
  (e = .returned (match o with | none => .tuple #[.int .i64 0, .bool false] | some n => .tuple #[.int .i64 n, .bool true])) ∧ Below w.heap.size w w'
set_option maxHeartbeats 1000000 in
theorem intof_calls (x : T) (A : Option Addr) (c : Nat) (B : Option Addr) (d : Nat) (w : World) (hv : Bv w x A c B d) (hb : ∀ y ∈ x.f3, 0 ≤ y ∧ y < 256) :
    Calls Try.prog 24 #[.agg #[.int .u8 x.f0, .int .u8 x.f1, .bool x.f2, .slice A x.f3.length c, .slice B x.f4.length d]] w (IntEnds (intF x) w) := by
  obtain ⟨x0, x1, x2, xb, xs⟩ := x
  have hX := box_new w (.int .u8 x0) (.int .u8 x1) (.bool x2) (.slice A xb.length c) (.slice B xs.length d)
  have hb1 := below_alloc (Below.refl w.heap.size w) (.cells #[.int .u8 x0, .int .u8 x1, .bool x2, .slice A xb.length c, .slice B xs.length d] 26)
  obtain ⟨w1, hw1⟩ : ∃ w1, w.alloc (.cells #[.int .u8 x0, .int .u8 x1, .bool x2, .slice A xb.length c, .slice B xs.length d] 26) = w1 := ⟨_, rfl⟩
  rw [hw1] at hX hb1
  have hC1 := Aside0.mk (show kU.C w1 A xb.length xb from (hv.below hb1).cb)
  have hlb : xb.length ≤ c := hv.lb
  have hb' : ∀ y ∈ xb, 0 ≤ y ∧ y < 256 := hb
  obtain ⟨p0, p1, p2, p3, p4⟩ := hX.cells
  have hX := Aside0.mk hX
  have hb1 := Aside0.mk hb1
  have hno : (¬ (x2 = false ∧ 1 ≤ xb.length ∧ xb.length ≤ 8)) → Aside0 (intF ⟨x0, x1, x2, xb, xs⟩ = none) := fun h => ⟨by unfold intF; rw [if_neg (fun g => h ⟨g.1, g.2.1, g.2.2.1⟩)]⟩
  clear hv hb
  dsimp only
  cases x2 with
  | true =>
    rw [(hno (by simp)).out]
    clear hno hC1 hlb hb'
    go_enter Try.func24, Try.ntmps24
    go_wp2_with fail
    go_ret2
    exact ⟨rfl, hb1.out⟩
  | false =>
    by_cases h1 : 1 ≤ xb.length ∧ xb.length ≤ 8
    · obtain ⟨h1, h8⟩ := h1
      clear hno
      have hint : intF ⟨x0, x1, false, xb, xs⟩ = if wholeL (numN xb) = xb then some (numN xb) else none := by unfold intF; simp [h1, h8]
      have hint' := Aside0.mk hint
      clear hint
      obtain ⟨ad, e, q0⟩ := u8_at hC1.out 0 h1
      subst e
      have q0' : w1.cell? ad = some (.int .u8 (xb[0]'h1)) := by rw [show ad = ad.add 0 from by simp [Addr.add]]; exact q0
      have y0 := hb' _ (List.getElem_mem h1)
      have hK1 : numK xb 1 = if 128 ≤ xb[0]'h1 then xb[0]'h1 - 256 else xb[0]'h1 := by
        rw [numK_next h1]
        unfold numK
        match xb, h1 with
        | y :: r, _ =>
          simp only [List.take_zero, List.foldl_nil, List.getElem_cons_zero, sgn]
          split <;> omega
      clear q0
      obtain ⟨y, hy⟩ : ∃ y, xb[0]'h1 = y := ⟨_, rfl⟩
      rw [hy] at q0' y0 hK1
      obtain ⟨N, hN⟩ : ∃ N, xb.length = N := ⟨_, rfl⟩
      have hsl := slice_from (some ad) N c 1 1 rfl (by omega)
      rw [hN] at p3 hlb h1 h8 hw1 ⊢
      have hCd := Kd.C_drop (m := 1) (c := c) (by have := hC1.out; exact this) (show 1 ≤ xb.length by omega) (by omega)
      have hrg := numK_small xb hb' 0 (by omega) (by omega)
      have hw8 : IntKind.i8.wrap y = numK xb 1 := by rw [i8_byte y y0.1 y0.2, hK1]; simp
      have hw64 : wrap64 (numK xb 1) = numK xb 1 := wrap_in _ (by omega)
      clear hK1
      have hq := Aside0.mk (fun j (hj : j + 1 < N) => (show -36028797018963968 ≤ numK xb (j + 1) ∧ numK xb (j + 1) < 36028797018963968 from numK_small xb hb' j (by omega) (by omega)))
      have hnx := Aside0.mk (fun j (hj : j + 1 < N) => numK_next (l := xb) (j := j + 1) (by omega))
      have hbb := Aside0.mk hb'
      have hN1 : numK xb N = numN xb := by rw [← hN]; exact numK_all xb
      replace hN1 := Aside0.mk hN1
      have hi8 : -9223372036854775808 ≤ numN xb ∧ numN xb ≤ 9223372036854775807 := by
        rw [← hN1.out]
        obtain ⟨M, rfl⟩ : ∃ M, N = M + 1 := ⟨N - 1, by omega⟩
        have h1 := numK_range xb hb' M (by omega)
        have h2 : (256 : Int) ^ M ≤ 72057594037927936 := by
          have : M ≤ 7 := by omega
          match M, this with
          | 0, _ => decide
          | 1, _ => decide
          | 2, _ => decide
          | 3, _ => decide
          | 4, _ => decide
          | 5, _ => decide
          | 6, _ => decide
          | 7, _ => decide
        constructor <;> omega
      have hwc := Aside0.mk (fun W => whole_calls (numN xb) W hi8)
      obtain ⟨k1, hk1⟩ : ∃ k1, numK xb 1 = k1 := ⟨_, rfl⟩
      rw [hk1] at hw8 hw64 hrg
      replace hk1 := Aside0.mk hk1
      replace hN := Aside0.mk hN
      obtain ⟨A2, hA2⟩ : ∃ A2, (if c = 1 then some ad else (some ad).map (·.add (1 * kU.sz))) = A2 := ⟨_, rfl⟩
      rw [hA2] at hsl hCd
      replace hCd := Aside0.mk hCd
      clear hA2 hi8
      replace hy := Aside0.mk hy
      have i1 : decide ((N : Int) < 1) = false := by simp; omega
      have i2 : decide ((8 : Int) < (N : Int)) = false := by simp; omega
      have i3 : (0 : Int) < (N : Int) := by omega
      replace hb' := Aside0.mk hb'
      go_enter Try.func24, Try.ntmps24
      go_wp2_with fail
      go_loopw [4, 6, 31] (fun s4 s6 s31 wr => ∃ (j : Nat) (v : Value), j ≤ N - 1 ∧ s31 = .int .i64 j ∧ s4 = .int .i64 (numK xb (j + 1)) ∧ s6 = v ∧ wr = w1) (fun _ _ s31 _ => N - 1 - (intOf s31).toNat)
      case atStart => exact ⟨0, _, Nat.zero_le _, rfl, by rw [hk1.out], rfl, rfl⟩
      case round =>
        obtain ⟨j, v, hj, rfl, rfl, rfl, rfl⟩ := hrel
        by_cases hlt : j < N - 1
        · have hjl : j < (xb.drop 1).length := by rw [List.length_drop, hN.out]; exact hlt
          have hnxj := hnx.out j (by omega)
          obtain ⟨a2, e, p1⟩ := u8_at hCd.out j hjl
          subst e
          have hx := List.getElem_mem hjl
          have hx2 : (xb.drop 1)[j] ∈ xb := List.mem_of_mem_drop hx
          obtain ⟨y0, y1⟩ := hbb.out _ hx2
          have he : (xb.drop 1)[j] = xb[j + 1]'(by have := hN.out; omega) := by rw [List.getElem_drop]; simp [Nat.add_comm]
          rw [← he] at hnxj
          obtain ⟨z, hz⟩ : ∃ z, (xb.drop 1)[j] = z := ⟨_, rfl⟩
          rw [hz] at hnxj p1 y0 y1
          obtain ⟨b0, b1⟩ := hq.out j (by omega)
          obtain ⟨k, hk⟩ : ∃ k, numK xb (j + 1) = k := ⟨_, rfl⟩
          rw [hk] at hnxj b0 b1 ⊢
          have hor := or_int k z b0 b1 y0 y1
          have hshl : k * 256 = 256 * k := by omega
          have i4 : (0 : Int) ≤ (j : Int) := by omega
          have i5 : (j : Int) < ((N - 1 : Nat) : Int) := by omega
          replace hnxj := Aside0.mk hnxj
          clear hjl hx hx2 he hz hk
          go_wp2_with fail
          go_roundw
          case rel => exact ⟨j + 1, _, by omega, by go_num, by rw [hnxj.out], rfl, trivial⟩
          case measure => simp [intOf]; omega
        · obtain rfl : j = N - 1 := by omega
          have e1 : N - 1 + 1 = N := by omega
          rw [e1, hN1.out]
          obtain ⟨n, hn⟩ : ∃ n, numN xb = n := ⟨_, rfl⟩
          rw [hn] at hwc hint' ⊢
          clear e1 hw8 hw64 hrg hlt hj
          replace hn := Aside0.mk hn
          by_cases he : wholeL n = xb
          · rw [if_pos he] at hint'
            replace he := Aside0.mk he
            go_wp2_with fail
            refine start_ (n := 6) (S := fun w' => w'.cell? ⟨w.heap.size, 3, none⟩ = some (.slice (some ad) N c)) (ds := []) #[false, false, false, false, false, false] (by kernel_rfl) rfl rfl (p3) (fun hHeld => ?_)
            refine pure_ (i := 0) (N := some 41) (v := ?_) (a' := ?_) #[true, false, false, false, false, false] rfl rfl (by kernel_rfl) (fun _ _ _ h => h) (Or.inl ⟨by rfl, ?_⟩) ?_ ?_
            rotate_left
            · intro w'
              go_simp
              with_reducible rfl
            rotate_left
            · simp only [Act.put, List.setIfInBounds_toArray, List.set_cons_zero, List.set_cons_succ, i64_w, i32_w]
              rfl
            refine pure_ (i := 2) (N := some 43) (v := ?_) (a' := ?_) #[true, false, true, false, false, false] rfl rfl (by kernel_rfl) (fun _ _ _ h => h) (Or.inl ⟨by rfl, ?_⟩) ?_ ?_
            rotate_left
            · intro w'
              go_simp
              with_reducible rfl
            rotate_left
            · simp only [Act.put, List.setIfInBounds_toArray, List.set_cons_zero, List.set_cons_succ, i64_w, i32_w]
              rfl
            refine take_ (i := 3) (N := some 44) (v := ?_) (a' := ?_) #[true, false, true, true, false, false] rfl rfl (by kernel_rfl) (fun _ _ _ h => h) (Or.inl ⟨by rfl, ?_⟩) hHeld ?_ ?_
            rotate_left
            · intro w' s0
              go_simp
              with_reducible rfl
            rotate_left
            · simp only [Act.put, List.setIfInBounds_toArray, List.set_cons_zero, List.set_cons_succ, i64_w, i32_w]
              rfl
            refine one_ (i := 1) (N := some 42) #[true, true, true, true, false, false] rfl rfl (by kernel_rfl) (by decide) (fun K hK => ?_)
            refine goes_ Try.func44 (by kernel_rfl) rfl #[.int .i64 n] (by rfl) rfl rfl (by simp only [List.map_toArray, List.map_cons, List.map_nil]; rfl) ?_
            with_reducible refine ((hwc.out wr.drew)).mono ?_
            rintro e w4 ⟨A4, c4, rfl, hl4, hF4, hb4⟩
            refine ⟨_, rfl, ?_⟩
            have hb4' := Aside0.mk (below_then hb1.out.drew hb1.out.size hb4)
            have heq := Aside0.mk (equal_yes A4 c4 (wholeL n) (some ad) c xb w4 (Kd.F_now hF4) hl4 (Kd.C_below (Kd.C_below hC1.out (below_drew (Below.refl _ _))) hb4) (by have := hN.out; omega) (wholeL_bytes n) hbb.out he.out)
            rw [hN.out] at heq
            have p4' := pw_cell_below hb4 (show wr.drew.cell? ⟨w.heap.size, 3, none⟩ = some (.slice (some ad) N c) from p3)
            obtain ⟨m4, hm4⟩ : ∃ m4, (wholeL n).length = m4 := ⟨_, rfl⟩
            rw [hm4] at heq
            rw [hm4]
            clear hF4 hl4 hm4 hb4
            refine hK.out _ _ (p4') (fun hHeld => ?_)
            clear hK K
            refine norm_ (a' := ?_) ?_ ?_
            rotate_left
            · show Act.put _ (some 42) _ = _
              simp only [Act.put, List.setIfInBounds_toArray, List.set_cons_zero, List.set_cons_succ, i64_w, i32_w]
              rfl
            refine one_ (i := 4) (N := some 45) #[true, true, true, true, true, false] rfl rfl (by kernel_rfl) (by decide) (fun K hK => ?_)
            refine goes_ Try.func45 (by kernel_rfl) rfl #[.slice A4 m4 c4, .slice (some ad) N c] (by rfl) rfl rfl (by simp only [List.map_toArray, List.map_cons, List.map_nil]; rfl) ?_
            with_reducible refine (heq.out).mono ?_
            rintro e w5 ⟨rfl, hb5⟩
            refine ⟨_, rfl, ?_⟩
            have hb5' := Aside0.mk (below_then hb4'.out hb4'.out.size hb5)
            have p5' := pw_cell_below hb5 p4'
            clear hb5
            refine hK.out _ _ (p5') (fun hHeld => ?_)
            clear hK K
            refine norm_ (a' := ?_) ?_ ?_
            rotate_left
            · show Act.put _ (some 45) _ = _
              simp only [Act.put, List.setIfInBounds_toArray, List.set_cons_zero, List.set_cons_succ, i64_w, i32_w]
              rfl
            refine pure_ (i := 5) (N := some 46) (v := ?_) (a' := ?_) #[true, true, true, true, true, true] rfl rfl (by kernel_rfl) (fun _ _ _ h => h) (Or.inl ⟨by rfl, ?_⟩) ?_ ?_
            rotate_left
            · intro w'
              go_simp
              with_reducible rfl
            rotate_left
            · simp only [Act.put, List.setIfInBounds_toArray, List.set_cons_zero, List.set_cons_succ, i64_w, i32_w]
              rfl
            refine done_ (by kernel_rfl) ?_
            clear p4' p5' heq p0 p1 p2 p3 p4 q0'
            go_wp2_with fail
            go_ret2
            exact ⟨by rw [hint'.out]; rfl, hb5'.out⟩
          · rw [if_neg he] at hint'
            replace he := Aside0.mk he
            go_wp2_with fail
            refine start_ (n := 6) (S := fun w' => w'.cell? ⟨w.heap.size, 3, none⟩ = some (.slice (some ad) N c)) (ds := []) #[false, false, false, false, false, false] (by kernel_rfl) rfl rfl (p3) (fun hHeld => ?_)
            refine pure_ (i := 0) (N := some 41) (v := ?_) (a' := ?_) #[true, false, false, false, false, false] rfl rfl (by kernel_rfl) (fun _ _ _ h => h) (Or.inl ⟨by rfl, ?_⟩) ?_ ?_
            rotate_left
            · intro w'
              go_simp
              with_reducible rfl
            rotate_left
            · simp only [Act.put, List.setIfInBounds_toArray, List.set_cons_zero, List.set_cons_succ, i64_w, i32_w]
              rfl
            refine pure_ (i := 2) (N := some 43) (v := ?_) (a' := ?_) #[true, false, true, false, false, false] rfl rfl (by kernel_rfl) (fun _ _ _ h => h) (Or.inl ⟨by rfl, ?_⟩) ?_ ?_
            rotate_left
            · intro w'
              go_simp
              with_reducible rfl
            rotate_left
            · simp only [Act.put, List.setIfInBounds_toArray, List.set_cons_zero, List.set_cons_succ, i64_w, i32_w]
              rfl
            refine take_ (i := 3) (N := some 44) (v := ?_) (a' := ?_) #[true, false, true, true, false, false] rfl rfl (by kernel_rfl) (fun _ _ _ h => h) (Or.inl ⟨by rfl, ?_⟩) hHeld ?_ ?_
            rotate_left
            · intro w' s0
              go_simp
              with_reducible rfl
            rotate_left
            · simp only [Act.put, List.setIfInBounds_toArray, List.set_cons_zero, List.set_cons_succ, i64_w, i32_w]
              rfl
            refine one_ (i := 1) (N := some 42) #[true, true, true, true, false, false] rfl rfl (by kernel_rfl) (by decide) (fun K hK => ?_)
            refine goes_ Try.func44 (by kernel_rfl) rfl #[.int .i64 n] (by rfl) rfl rfl (by simp only [List.map_toArray, List.map_cons, List.map_nil]; rfl) ?_
            with_reducible refine ((hwc.out wr.drew)).mono ?_
            rintro e w4 ⟨A4, c4, rfl, hl4, hF4, hb4⟩
            refine ⟨_, rfl, ?_⟩
            have hb4' := Aside0.mk (below_then hb1.out.drew hb1.out.size hb4)
            have heq := Aside0.mk (equal_no A4 c4 (wholeL n) (some ad) c xb w4 (Kd.F_now hF4) hl4 (Kd.C_below (Kd.C_below hC1.out (below_drew (Below.refl _ _))) hb4) (by have := hN.out; omega) (wholeL_bytes n) hbb.out he.out)
            rw [hN.out] at heq
            have p4' := pw_cell_below hb4 (show wr.drew.cell? ⟨w.heap.size, 3, none⟩ = some (.slice (some ad) N c) from p3)
            obtain ⟨m4, hm4⟩ : ∃ m4, (wholeL n).length = m4 := ⟨_, rfl⟩
            rw [hm4] at heq
            rw [hm4]
            clear hF4 hl4 hm4 hb4
            refine hK.out _ _ (p4') (fun hHeld => ?_)
            clear hK K
            refine norm_ (a' := ?_) ?_ ?_
            rotate_left
            · show Act.put _ (some 42) _ = _
              simp only [Act.put, List.setIfInBounds_toArray, List.set_cons_zero, List.set_cons_succ, i64_w, i32_w]
              rfl
            refine one_ (i := 4) (N := some 45) #[true, true, true, true, true, false] rfl rfl (by kernel_rfl) (by decide) (fun K hK => ?_)
            refine goes_ Try.func45 (by kernel_rfl) rfl #[.slice A4 m4 c4, .slice (some ad) N c] (by rfl) rfl rfl (by simp only [List.map_toArray, List.map_cons, List.map_nil]; rfl) ?_
            with_reducible refine (heq.out).mono ?_
            rintro e w5 ⟨rfl, hb5⟩
            refine ⟨_, rfl, ?_⟩
            have hb5' := Aside0.mk (below_then hb4'.out hb4'.out.size hb5)
            have p5' := pw_cell_below hb5 p4'
            clear hb5
            refine hK.out _ _ (p5') (fun hHeld => ?_)
            clear hK K
            refine norm_ (a' := ?_) ?_ ?_
            rotate_left
            · show Act.put _ (some 45) _ = _
              simp only [Act.put, List.setIfInBounds_toArray, List.set_cons_zero, List.set_cons_succ, i64_w, i32_w]
              rfl
            refine pure_ (i := 5) (N := some 46) (v := ?_) (a' := ?_) #[true, true, true, true, true, true] rfl rfl (by kernel_rfl) (fun _ _ _ h => h) (Or.inl ⟨by rfl, ?_⟩) ?_ ?_
            rotate_left
            · intro w'
              go_simp
              with_reducible rfl
            rotate_left
            · simp only [Act.put, List.setIfInBounds_toArray, List.set_cons_zero, List.set_cons_succ, i64_w, i32_w]
              rfl
            refine done_ (by kernel_rfl) ?_
            clear p4' p5' heq p0 p1 p2 p3 p4 q0'
            go_wp2_with fail
            go_ret2
            exact ⟨by rw [hint'.out]; rfl, hb5'.out⟩
    · rw [(hno (fun h => h1 h.2)).out]
      clear hno hC1 hb'
      obtain ⟨N, hN⟩ : ∃ N, xb.length = N := ⟨_, rfl⟩
      rw [hN] at p3 hlb h1 hw1 ⊢
      by_cases h0 : N = 0
      · subst h0
        clear h1
        go_enter Try.func24, Try.ntmps24
        go_wp2_with fail
        go_ret2
        exact ⟨rfl, hb1.out⟩
      · have i1 : decide ((N : Int) < 1) = false := by simp; omega
        have i2 : decide ((8 : Int) < (N : Int)) = true := by simp; omega
        clear h1 h0 hN
        go_enter Try.func24, Try.ntmps24
        go_wp2_with fail
        go_ret2
        exact ⟨rfl, hb1.out⟩
end Go.Proofs.Ytlmelbnmfhpacaa

/- The law's known: a list of a number and a text. -/
set_option linter.unusedVariables false
set_option linter.unusedSimpArgs false
namespace Go.Proofs.Ytlmelbnmfhpacaa
open Go.RowKit Go.Shelf Go.Proofs.YtlmelbnmfhpacaaW.PrintWords Go.Proofs.YtlmelbnmfhpacaaW.PrintMore Go.Proofs.YtlmelbnmfhpacaaW.PrintLast

theorem dec_lay {x : T} (h : checkN x = 0) (hb : byteT x) : decF (layT x) = .ok x := by
  obtain ⟨ha, hd, hz⟩ := check_zero h
  have hl := sizeT_lay x ha
  have hv := val_lay x 1 15 [] rfl ha hd hb (by omega)
  rw [List.append_nil] at hv
  unfold decF
  rw [if_neg (by omega), hv]
  rfl
def kX : T := ⟨0, 16, true, [], [⟨0, 2, false, [5], []⟩, ⟨0, 4, false, [97, 98], []⟩]⟩
theorem kX_five : wholeL 5 = [5] := by decide +kernel
theorem kX_many : wholeL (-129) = [255, 127] := by decide +kernel
theorem kX_ab : bytesOf { data := #[97, 98] } = [97, 98] := by decide +kernel
theorem kX_check : checkN kX = 0 := by decide +kernel
theorem kX_lay : layT kX = [48, 7, 2, 1, 5, 4, 2, 97, 98] := by decide +kernel
theorem kX_int : intF ⟨0, 2, false, [255, 127], []⟩ = some (-129) := by decide +kernel
theorem kX_str : ((strOfNums [48, 7, 2, 1, 5, 4, 2, 97, 98]).toList == [48, 7, 2, 1, 5, 4, 2, 97, 98]) = true := by decide +kernel
theorem kX_byte : byteT kX := by simp [byteT, byteL, kX]
/-- Two values one behind the other. -/
theorem two_C {w : World} {g : Nat} {x y : T} {A : Option Addr} {c : Nat} {B : Option Addr} {d : Nat} {A' : Option Addr} {c' : Nat} {B' : Option Addr} {d' : Nat} (h : w.heap[g]? = some (.cells #[.int .u8 x.f0, .int .u8 x.f1, .bool x.f2, .slice A x.f3.length c, .slice B x.f4.length d, .int .u8 y.f0, .int .u8 y.f1, .bool y.f2, .slice A' y.f3.length c', .slice B' y.f4.length d'] 26 (0, 0)))
    (hx : Bv w x A c B d) (hy : Bv w y A' c' B' d') : kT.C w (some ⟨g, 0, none⟩) 2 [x, y] := by
  refine ⟨rfl, by decide, fun _ => ⟨⟨g, 0, none⟩, rfl, fun j p hj => ?_⟩⟩
  match j, hj with
  | 0, hj =>
    obtain rfl := Option.some.inj hj
    refine ⟨_, rfl, hx.K, fun i u hu => ?_⟩
    rw [add_plain]
    show w.cell? ⟨g, 0 * 5 + i, none⟩ = _
    refine (cell_of_row _ _ _ _ _ _ h).trans ?_
    match i, hu with
    | 0, hu => exact hu
    | 1, hu => exact hu
    | 2, hu => exact hu
    | 3, hu => exact hu
    | 4, hu => exact hu
    | n + 5, hu => simp [bvs] at hu
  | 1, hj =>
    obtain rfl := Option.some.inj hj
    refine ⟨_, rfl, hy.K, fun i u hu => ?_⟩
    rw [add_plain]
    show w.cell? ⟨g, 1 * 5 + i, none⟩ = _
    refine (cell_of_row _ _ _ _ _ _ h).trans ?_
    match i, hu with
    | 0, hu => exact hu
    | 1, hu => exact hu
    | 2, hu => exact hu
    | 3, hu => exact hu
    | 4, hu => exact hu
    | n + 5, hu => simp [bvs] at hu
  | n + 2, hj => simp at hj
set_option maxHeartbeats 2000000 in
theorem known_calls (w : World) : Calls Try.prog 10 #[] w fun e w' => e = .returned (.bool true) ∧ Below w.heap.size w w' := by
  go_enter Try.func10, Try.ntmps10
  go_wp2_with fail
  refine (int_calls 5 w (by omega)).mono ?_
  rintro e w1 ⟨⟨A1, c1, B1, d1, rfl, hv1⟩, hb1⟩
  rw [kX_five] at hv1 ⊢
  unfold bv
  dsimp only
  go_wp2_with fail
  refine (text_calls _ w1 (by decide +kernel)).mono ?_
  rintro e w2 ⟨⟨A2, c2, B2, d2, rfl, hv2⟩, hb2⟩
  rw [kX_ab] at hv2 ⊢
  unfold bv
  dsimp only
  have hb12 := hb1.trans (hb2.mono hb1.size)
  have hN := heap_alloc_new w2 (.cells #[.int .u8 0, .int .u8 2, .bool false, .slice A1 1 c1, .slice B1 0 d1, .int .u8 0, .int .u8 4, .bool false, .slice A2 2 c2, .slice B2 0 d2] 26)
  have hb3 := below_alloc (Below.refl w2.heap.size w2) (.cells #[.int .u8 0, .int .u8 2, .bool false, .slice A1 1 c1, .slice B1 0 d1, .int .u8 0, .int .u8 4, .bool false, .slice A2 2 c2, .slice B2 0 d2] 26)
  obtain ⟨w3, hw3⟩ : ∃ w3, w2.alloc (.cells #[.int .u8 0, .int .u8 2, .bool false, .slice A1 1 c1, .slice B1 0 d1, .int .u8 0, .int .u8 4, .bool false, .slice A2 2 c2, .slice B2 0 d2] 26) = w3 := ⟨_, rfl⟩
  rw [hw3] at hN hb3
  have hC := two_C (x := ⟨0, 2, false, [5], []⟩) (y := ⟨0, 4, false, [97, 98], []⟩) hN ((hv1.now.below hb2).below hb3) (hv2.now.below hb3)
  have hli := Aside0.mk (list_calls (some ⟨w2.heap.size, 0, none⟩) 2 [⟨0, 2, false, [5], []⟩, ⟨0, 4, false, [97, 98], []⟩] w3 hC (by decide) (by decide +kernel))
  have hb13 := Aside0.mk (hb12.trans (hb3.mono hb12.size))
  clear hv1 hv2 hb1 hb2 hN hb3 hC hb12
  go_wp2_with fail
  refine hli.out.mono ?_
  rintro e w4 ⟨⟨A4, c4, B4, d4, rfl, hv4⟩, hb4⟩
  unfold bv
  dsimp only
  have hen := Aside0.mk (encode_calls kX A4 c4 B4 d4 w4 hv4.now kX_byte (by decide +kernel))
  have hb14 := Aside0.mk (hb13.out.trans (hb4.mono hb13.out.size))
  clear hli hv4 hb4 hw3 hb13
  go_wp2_with fail
  refine hen.out.mono ?_
  rintro e w5 ⟨he, hb5⟩
  rw [if_pos kX_check, kX_lay] at he
  obtain ⟨A5, c5, rfl, hR5⟩ := he
  obtain ⟨_, hl5, hC5⟩ := Kd.R_reads' hR5
  have hde := Aside0.mk (fun W hb => decode_calls A5 c5 [48, 7, 2, 1, 5, 4, 2, 97, 98] W (Kd.C_below hC5 hb) hl5 (by decide) (by decide))
  have hst := Aside0.mk (fun W hb => Kd.C_string (P := Try.prog) (dst := 9) (c := c5) Try.underlying23 Try.underlying5 Try.underlying9 (Kd.C_below hC5 (w1 := W) hb))
  have hdv := dec_lay kX_check kX_byte
  rw [kX_lay] at hdv
  rw [hdv] at hde
  have hb15 := Aside0.mk (hb14.out.trans (hb5.mono hb14.out.size))
  clear hen hb5 hb14 hR5 hC5 hdv
  go_wp2_with fail
  refine (hde.out w5 (Below.refl _ _)).mono ?_
  rintro e w6 ⟨⟨A6, c6, B6, d6, rfl, hv6⟩, hb6⟩
  unfold bv
  dsimp only [kX]
  have hB7 := box_new w6 (.int .u8 0) (.int .u8 0) (.bool false) (.slice none 0 0) (.slice none 0 0)
  have hb7 := below_alloc (Below.refl w6.heap.size w6) (.cells #[.int .u8 0, .int .u8 0, .bool false, .slice none 0 0, .slice none 0 0] 26)
  obtain ⟨w7, hw7⟩ : ∃ w7, w6.alloc (.cells #[.int .u8 0, .int .u8 0, .bool false, .slice none 0 0, .slice none 0 0] 26) = w7 := ⟨_, rfl⟩
  rw [hw7] at hB7 hb7
  obtain ⟨w8, hw8, hB8, hm8⟩ := put5 hB7 (.int .u8 0) (.int .u8 16) (.bool true) (.slice A6 0 c6) (.slice B6 2 d6)
  have hb8 : Below w6.heap.size w6 w8 := put5_mod hm8 hb7 (Nat.le_refl _)
  obtain ⟨g0, g1, g2, g3, g4⟩ := hB7.cells
  obtain ⟨f0, f1, f2, f3, f4⟩ := hB7.free
  have hb58 := Aside0.mk (hb6.trans (hb8.mono hb6.size))
  have hb18 := Aside0.mk (hb15.out.trans (hb58.out.mono hb15.out.size))
  have hin := Aside0.mk (int_calls (-129) w8 (by omega))
  replace hB8 := Aside0.mk hB8
  clear hB7 hb7 hm8 hb8 hb6 hv6 hb15
  go_wp2_with fail
  refine hin.out.mono ?_
  rintro e w9 ⟨⟨A9, c9, B9, d9, rfl, hv9⟩, hb9⟩
  rw [kX_many] at hv9 ⊢
  unfold bv
  dsimp only
  have hio := Aside0.mk (intof_calls ⟨0, 2, false, [255, 127], []⟩ A9 c9 B9 d9 w9 hv9.now (by decide))
  rw [kX_int] at hio
  clear hv9 hin g0 g1 g2 g3 g4 f0 f1 f2 f3 f4
  go_wp2_with fail
  refine hio.out.mono ?_
  rintro e w10 ⟨rfl, hb10⟩
  dsimp only
  have hb89 := hb9.trans (hb10.mono hb9.size)
  have hst' : (convert 23 9 (.slice A5 9 c5)).run Try.prog w10 = .ok (.string (strOfNums [48, 7, 2, 1, 5, 4, 2, 97, 98])) w10 := hst.out w10 (hb58.out.trans (hb89.mono hb58.out.size))
  have hks := kX_str
  obtain ⟨_, _, _, _, q4⟩ := (hB8.out.below hb89).cells
  have hfin := Aside0.mk (hb18.out.trans (hb89.mono hb18.out.size))
  clear hb9 hb10 hb89 hio hst hb18 hde hw7 hw8
  go_wp2_with fail
  go_ret
  exact ⟨rfl, hfin.out⟩
end Go.Proofs.Ytlmelbnmfhpacaa

/- Whole numbers' bytes: the reference's are ours (plain). -/
set_option linter.unusedVariables false
set_option linter.unusedSimpArgs false
namespace Go.Proofs.Ytlmelbnmfhpacaa
open Go.RowKit Go.Shelf Go.Proofs.YtlmelbnmfhpacaaW.PrintWords Go.Proofs.YtlmelbnmfhpacaaW.PrintMore Go.Proofs.YtlmelbnmfhpacaaW.PrintLast

/-- n fits into j + 1 bytes. -/
def fit (j : Nat) (n : Int) : Prop := -128 ≤ sh j n ∧ sh j n ≤ 127
instance (j : Nat) (n : Int) : Decidable (fit j n) := by unfold fit; exact inferInstance
theorem sh_succ (j : Nat) (n : Int) : sh (j + 1) n = sh j n / 256 := rfl
theorem fit_up {j : Nat} {n : Int} (h : fit j n) : fit (j + 1) n := by
  unfold fit at *
  rw [sh_succ]
  omega
theorem fit_le {j m : Nat} {n : Int} (h : fit j n) (hm : j ≤ m) : fit m n := by
  induction hm with
  | refl => exact h
  | step _ ih => exact fit_up ih
theorem le_two (n : Int) (j : Nat) : (le n (j + 2)).reverse = (sh (j + 1) n % 256) :: (sh j n % 256) :: (le n j).reverse := by
  rw [le_next, le_next]; simp
theorem trims_le {j : Nat} {n : Int} (h : fit (j + 1) n) : trims (le n (j + 2)).reverse = true ↔ fit j n := by
  rw [le_two]
  unfold fit at *
  rw [sh_succ] at *
  simp only [trims, Bool.or_eq_true, Bool.and_eq_true, decide_eq_true_eq, beq_iff_eq]
  omega
/-- k + 1 is the least number of bytes. -/
def Least (k : Nat) (n : Int) : Prop := fit k n ∧ ∀ i, i < k → ¬ fit i n
theorem trim_le_bytes {k : Nat} {n : Int} (h : Least k n) : ∀ m, k ≤ m → trim (le n (m + 1)).reverse = (le n (k + 1)).reverse := by
  intro m hm
  induction hm with
  | refl =>
    match k, h with
    | 0, _ => exact trim_no rfl
    | k + 1, h =>
      refine trim_no ?_
      rw [Bool.eq_false_iff]
      intro hc
      exact h.2 k (by omega) ((trims_le h.1).1 hc)
  | step hm ih =>
    rename_i m
    have hf : fit m n := fit_le h.1 hm
    rw [← ih]
    have ht := (trims_le (fit_up hf)).2 hf
    rw [le_two] at ht ⊢
    rw [trim_yes ht, le_next]
    simp
theorem fit_seven {n : Int} (hn : -9223372036854775808 ≤ n ∧ n ≤ 9223372036854775807) : fit 7 n := by
  unfold fit
  simp only [sh]
  omega
theorem least_ex {n : Int} : ∀ (m j : Nat), (∀ i, i < j → ¬ fit i n) → fit (j + m) n → ∃ k, j ≤ k ∧ k ≤ j + m ∧ Least k n
  | 0, j, h, hf => ⟨j, Nat.le_refl _, Nat.le_refl _, hf, h⟩
  | m + 1, j, h, hf => by
    by_cases c : fit j n
    · exact ⟨j, Nat.le_refl _, by omega, c, h⟩
    · obtain ⟨k, h1, h2, h3⟩ := least_ex m (j + 1) (fun i hi => by rcases Nat.lt_succ_iff_lt_or_eq.1 hi with h' | rfl; exact h i h'; exact c) (by rw [show j + 1 + m = j + (m + 1) by omega]; exact hf)
      exact ⟨k, by omega, by omega, h3⟩
theorem whole_least {n : Int} (hn : -9223372036854775808 ≤ n ∧ n ≤ 9223372036854775807) : ∃ k, k ≤ 7 ∧ Least k n ∧ wholeL n = (le n (k + 1)).reverse := by
  obtain ⟨k, h1, h2, h3⟩ := least_ex (n := n) 7 0 (fun i hi => absurd hi (Nat.not_lt_zero _)) (fit_seven hn)
  exact ⟨k, by omega, h3, trim_le_bytes h3 7 (by omega)⟩
theorem sh_ge : ∀ (j : Nat) (a n : Int), a ≤ sh j n ↔ a * 256 ^ j ≤ n
  | 0, a, n => by simp [sh]
  | j + 1, a, n => by
    rw [sh_succ, show (256 : Int) ^ (j + 1) = 256 * 256 ^ j by rw [Int.pow_succ, Int.mul_comm], ← Int.mul_assoc, ← sh_ge j (a * 256) n]
    omega
theorem fit_iff (j : Nat) (n : Int) : fit j n ↔ -(128 * 256 ^ j) ≤ n ∧ n ≤ 128 * 256 ^ j - 1 := by
  unfold fit
  have h1 := sh_ge j (-128) n
  have h2 := sh_ge j 128 n
  rw [Int.neg_mul] at h1
  constructor
  · intro h
    exact ⟨h1.1 h.1, by have := mt h2.2 (by omega); omega⟩
  · intro h
    exact ⟨h1.2 h.1, by have := mt h2.1 (by omega); omega⟩
open PBerNumbers in
theorem ref_bytes_step (K : Nat) (x k i : Int) (acc : List Int) (hx : -9223372036854775808 ≤ x ∧ x ≤ 9223372036854775807) (hi : 0 ≤ i ∧ i ≤ 100) (ha : acc.length ≤ 100) :
    cardcaseref05_Whole.l1 (K + 1) x k acc i = if i < k then cardcaseref05_Whole.l1 K (x / 256) k ([x % 256] ++ acc) (i + 1) else some acc := by
  have e0 : Int.tmod x 256 = x % 256 ∨ (Int.tmod x 256 < 0 ∧ Int.tmod x 256 + 256 = x % 256) := by
    by_cases c : 0 ≤ x
    · exact .inl (Int.tmod_eq_emod_of_nonneg c)
    · have e1 : Int.tmod x 256 = -((-x) % 256) := by
        have := Int.tmod_eq_emod_of_nonneg (a := -x) (b := 256) (by omega)
        rw [Int.neg_tmod] at this
        omega
      omega
  have e1 : wrap64 (i + 1) = i + 1 := wrap_in _ (by omega)
  have e2 : wrap64 (x - x % 256) = x - x % 256 := wrap_in _ (by omega)
  have e3 : Int.tdiv (x - x % 256) 256 = x / 256 := by
    rw [show x - x % 256 = 256 * (x / 256) by omega, Int.mul_tdiv_cancel_left _ (by decide)]
  have e4 : wrap64 (x / 256) = x / 256 := wrap_in _ (by omega)
  have e5 : x % 256 % 256 = x % 256 := by omega
  have e6 : [x % 256].length + acc.length < 140737488355328 := by simp; omega
  rw [cardcaseref05_Whole.l1]
  rcases e0 with e0 | ⟨e7, e0⟩
  · rw [e0, if_neg (by omega : ¬ x % 256 < 0), e2, e3, e4, e1]
    simp only [Option.bind_some]
    rw [e5, if_pos e6]
  · rw [if_pos e7, wrap_in _ (by omega : -9223372036854775808 ≤ Int.tmod x 256 + 256 ∧ Int.tmod x 256 + 256 ≤ 9223372036854775807), e0, e2, e3, e4, e1]
    simp only [Option.bind_some]
    rw [e5, if_pos e6]
theorem sh_in {n : Int} (hn : -9223372036854775808 ≤ n ∧ n ≤ 9223372036854775807) : ∀ j, -9223372036854775808 ≤ sh j n ∧ sh j n ≤ 9223372036854775807
  | 0 => hn
  | j + 1 => by have := sh_in hn j; rw [sh_succ]; omega
open PBerNumbers in
theorem ref_bytes {n : Int} (hn : -9223372036854775808 ≤ n ∧ n ≤ 9223372036854775807) (k : Nat) (hk : k ≤ 8) : ∀ m i, i + m = k → cardcaseref05_Whole.l1 (m + 1) (sh i n) (k : Int) (le n i).reverse (i : Int) = some (le n k).reverse
  | 0, i, h => by
    rw [ref_bytes_step _ _ _ _ _ (sh_in hn i) (by omega) (by rw [List.length_reverse, le_length]; omega), if_neg (by omega)]
    rw [show i = k by omega]
  | m + 1, i, h => by
    rw [ref_bytes_step _ _ _ _ _ (sh_in hn i) (by omega) (by rw [List.length_reverse, le_length]; omega), if_pos (by omega)]
    have := ref_bytes hn k hk m (i + 1) (by omega)
    rw [sh_succ, le_next, List.reverse_append] at this
    exact this
theorem pow_seven (j : Nat) (h : j ≤ 6) : (256 : Int) ^ j ≤ 281474976710656 ∧ 1 ≤ (256 : Int) ^ j := pow_six j h
open PBerNumbers in
theorem ref_least {n : Int} (hn : -9223372036854775808 ≤ n ∧ n ≤ 9223372036854775807) (K : Nat) : ∀ m j, j + m = 7 → (∀ i, i < j → ¬ fit i n) → ∃ k K', k ≤ 7 ∧ Least k n ∧ cardcaseref05_Whole.l0 K' n ((j : Int) + 1) (-(128 * 256 ^ j)) (128 * 256 ^ j - 1) = cardcaseref05_Whole.j1 K n ((k : Int) + 1)
  | 0, j, h, hl => by
    obtain rfl : j = 7 := by omega
    refine ⟨7, K + 1, Nat.le_refl _, ⟨fit_seven hn, hl⟩, ?_⟩
    rw [cardcaseref05_Whole.l0, if_neg (by decide)]
  | m + 1, j, h, hl => by
    have hf := fit_iff j n
    obtain ⟨p1, p2⟩ := pow_seven j (by omega)
    have hp : (256 : Int) ^ (j + 1) = 256 * 256 ^ j := by rw [Int.pow_succ, Int.mul_comm]
    obtain ⟨p, hpe⟩ : ∃ p, (256 : Int) ^ j = p := ⟨_, rfl⟩
    by_cases c : fit j n
    · obtain ⟨h1, h2⟩ := hf.1 c
      refine ⟨j, K + 1, by omega, ⟨c, hl⟩, ?_⟩
      rw [hpe] at h1 h2 ⊢
      rw [cardcaseref05_Whole.l0, if_pos (by omega), if_neg (by omega), if_neg (by omega)]
    · obtain ⟨k, K', h1, h2, h4⟩ := ref_least hn K m (j + 1) (by omega) (fun i hi => by rcases Nat.lt_succ_iff_lt_or_eq.1 hi with h' | rfl; exact hl i h'; exact c)
      refine ⟨k, K' + 1, h1, h2, ?_⟩
      rw [hp] at h4
      rw [hpe] at h4 p1 p2 hf ⊢
      have e1 : wrap64 ((j : Int) + 1 + 1) = ((j + 1 : Nat) : Int) + 1 := by rw [wrap_in _ (by omega)]; omega
      have e2 : wrap64 (256 * -(128 * p)) = -(128 * (256 * p)) := by rw [wrap_in _ (by omega)]; omega
      have e3 : wrap64 (wrap64 (256 * (128 * p - 1)) + 255) = 128 * (256 * p) - 1 := by rw [wrap_in (256 * (128 * p - 1)) (by omega), wrap_in _ (by omega)]; omega
      rw [cardcaseref05_Whole.l0, if_pos (by omega), e1, e2, e3, h4]
      by_cases d : n < -(128 * p)
      · rw [if_pos d]
      · rw [if_neg d, if_pos (by have := mt hf.2 c; omega)]
/-- The reference's bytes of a number are ours. -/
theorem ref_whole {n : Int} (hn : -9223372036854775808 ≤ n ∧ n ≤ 9223372036854775807) : ∃ K, PBerNumbers.cardcaseref05_Whole.f K n = some (wholeL n) := by
  obtain ⟨k, K', h1, h2, h3⟩ := ref_least hn 20 7 0 rfl (fun i hi => absurd hi (Nat.not_lt_zero _))
  refine ⟨K', ?_⟩
  have h4 : wholeL n = (le n (k + 1)).reverse := trim_le_bytes h2 7 (by omega)
  have h5 := ref_bytes hn (k + 1) (by omega) (k + 1) 0 (by omega)
  rw [h4]
  have h6 : PBerNumbers.cardcaseref05_Whole.f K' n = PBerNumbers.cardcaseref05_Whole.l0 K' n (((0 : Nat) : Int) + 1) (-(128 * 256 ^ 0)) (128 * 256 ^ 0 - 1) := rfl
  rw [h6, h3, PBerNumbers.cardcaseref05_Whole.j1]
  have h7 : PBerNumbers.cardcaseref05_Whole.l1 (k + 1 + 1) n ((k + 1 : Nat) : Int) [] 0 = some (le n (k + 1)).reverse := h5
  exact up_le (f := fun K => PBerNumbers.cardcaseref05_Whole.l1 K n ((k : Int) + 1) [] 0) (fun K => (PBerNumbers.cardcaseref05_Whole.mono_l K).2.1 _ _ _ _) (by omega) h7
theorem fold_whole (n : Int) : ∀ k, (le n k).reverse.foldl (fun k x => 256 * k + x) (sh k n) = n
  | 0 => rfl
  | k + 1 => by
    rw [le_next, List.reverse_append]
    simp only [List.reverse_cons, List.reverse_nil, List.nil_append, List.cons_append, List.foldl_cons]
    rw [sh_succ, show 256 * (sh k n / 256) + sh k n % 256 = sh k n by omega]
    exact fold_whole n k
/-- A number's bytes tell it again. -/
theorem num_whole {n : Int} (hn : -9223372036854775808 ≤ n ∧ n ≤ 9223372036854775807) : numN (wholeL n) = n := by
  obtain ⟨k, h1, h2, h3⟩ := whole_least hn
  rw [h3]
  have hs : sgn (le n (k + 1)).reverse = sh (k + 1) n := by
    rw [le_next, List.reverse_append]
    simp only [List.reverse_cons, List.reverse_nil, List.nil_append, List.cons_append, sgn]
    have := h2.1
    unfold fit at this
    rw [sh_succ]
    split <;> omega
  unfold numN
  rw [hs]
  exact fold_whole n (k + 1)
theorem int_whole {n : Int} (hn : -9223372036854775808 ≤ n ∧ n ≤ 9223372036854775807) (c m : Int) (l : List T) : intF ⟨c, m, false, wholeL n, l⟩ = some n := by
  obtain ⟨h1, h2⟩ := wholeL_length n
  unfold intF
  rw [num_whole hn, if_pos ⟨rfl, h1, h2, rfl⟩]
open PBerNumbers in
theorem ref_number_step (K : Nat) (l : List Int) (hb : ∀ x ∈ l, 0 ≤ x ∧ x < 256) (j : Nat) (hj : j < l.length) (h8 : j < 8) : cardcaselaw05_number.l0 (K + 2) l (if j = 0 then 0 else numK l j) (j : Int) = cardcaselaw05_number.l0 K l (numK l (j + 1)) ((j + 1 : Nat) : Int) := by
  have hx := hb _ (List.getElem_mem hj)
  have hrd : rd l (j : Int) = l[j] := by unfold rd; simp [List.getD_eq_getElem?_getD, hj]
  have e1 : wrap64 ((j : Int) + 1) = ((j + 1 : Nat) : Int) := by rw [wrap_in _ (by omega)]; omega
  have hn := numK_next hj
  rw [cardcaselaw05_number.l0, if_pos (by omega), cardcaselaw05_number.j1, if_pos (by simp; omega)]
  rw [hrd, e1, wrap_in l[j] (by omega)]
  by_cases c : j = 0
  · subst c
    rw [if_pos rfl]
    simp only [Int.natCast_zero, if_true]
    rw [if_pos (by omega)]
    have hrd0 : rd l 0 = l[0] := hrd
    have hs : numK l 0 = if l[0] ≥ (128 : Int) then -1 else 0 := by
      unfold numK
      match l, hj with
      | x :: r, _ => simp [sgn]
    rw [hrd0, hn, hs]
    by_cases d : l[0] ≥ (128 : Int)
    · rw [if_pos d, if_pos (by decide), if_pos (by omega), if_pos d, show (-1 : Int) * 256 = 256 * (-1) by rfl, or_int (-1) l[0] (by omega) (by omega) hx.1 hx.2]
    · rw [if_neg d, if_pos (by decide), if_pos (by omega), if_neg d, show wrap64 ((0 : Int) * 256) = 256 * 0 by rw [wrap_in _ (by omega)]; rfl, or_int 0 l[0] (by omega) (by omega) hx.1 hx.2]
  · rw [if_neg (by omega), if_neg c, if_pos (by omega), if_pos (by omega)]
    obtain ⟨b0, b1⟩ := numK_small l hb (j - 1) (by omega) (by omega)
    rw [show j - 1 + 1 = j by omega] at b0 b1
    rw [show wrap64 (numK l j * 256) = 256 * numK l j by rw [wrap_in _ (by omega)]; omega, or_int _ _ b0 b1 hx.1 hx.2, hn]
open PBerNumbers in
theorem ref_number (l : List Int) (hb : ∀ x ∈ l, 0 ≤ x ∧ x < 256) (h8 : l.length ≤ 8) : ∃ K, cardcaselaw05_number.f K l = some (numN l) := by
  have h : ∀ m j, j + m = l.length → ∃ K, cardcaselaw05_number.l0 K l (if j = 0 then 0 else numK l j) (j : Int) = some (numN l) := by
    intro m
    induction m with
    | zero =>
      intro j hj
      refine ⟨2, ?_⟩
      rw [cardcaselaw05_number.l0, if_neg (by omega), cardcaselaw05_number.j1, if_neg (by simp)]
      obtain rfl : j = l.length := by omega
      by_cases c : l.length = 0
      · have : l = [] := List.length_eq_zero_iff.1 c
        subst this
        rfl
      · rw [if_neg c, numK_all]
    | succ m ih =>
      intro j hj
      obtain ⟨K, hK⟩ := ih (j + 1) (by omega)
      rw [if_neg (by omega)] at hK
      exact ⟨K + 2, by rw [ref_number_step K l hb j (by omega) (by omega), hK]⟩
  exact h l.length 0 (by omega)
end Go.Proofs.Ytlmelbnmfhpacaa

/- ber.TruthOf. -/
set_option linter.unusedVariables false
set_option linter.unusedSimpArgs false
namespace Go.Proofs.Ytlmelbnmfhpacaa
open Go.RowKit Go.Shelf Go.Proofs.YtlmelbnmfhpacaaW.PrintWords Go.Proofs.YtlmelbnmfhpacaaW.PrintMore Go.Proofs.YtlmelbnmfhpacaaW.PrintLast

/-- The truth that a value holds. -/
def truthF (x : T) : Option Bool := if x.f2 = false ∧ x.f3 = [0] then some false else if x.f2 = false ∧ x.f3 = [255] then some true else none
def TruthEnds (o : Option Bool) (w : World) (e : Ending) (w' : World) : Prop :=
  (e = .returned (match o with | none => .tuple #[.bool false, .bool false] | some b => .tuple #[.bool b, .bool true])) ∧ Below w.heap.size w w'
set_option maxHeartbeats 1000000 in
theorem truthof_calls (x : T) (A : Option Addr) (c : Nat) (B : Option Addr) (d : Nat) (w : World) (hv : Bv w x A c B d) :
    Calls Try.prog 26 #[.agg #[.int .u8 x.f0, .int .u8 x.f1, .bool x.f2, .slice A x.f3.length c, .slice B x.f4.length d]] w (TruthEnds (truthF x) w) := by
  obtain ⟨x0, x1, x2, xb, xs⟩ := x
  have hX := box_new w (.int .u8 x0) (.int .u8 x1) (.bool x2) (.slice A xb.length c) (.slice B xs.length d)
  have hb1 := below_alloc (Below.refl w.heap.size w) (.cells #[.int .u8 x0, .int .u8 x1, .bool x2, .slice A xb.length c, .slice B xs.length d] 26)
  obtain ⟨w1, hw1⟩ : ∃ w1, w.alloc (.cells #[.int .u8 x0, .int .u8 x1, .bool x2, .slice A xb.length c, .slice B xs.length d] 26) = w1 := ⟨_, rfl⟩
  rw [hw1] at hX hb1
  have hC1 := Aside0.mk (show kU.C w1 A xb.length xb from (hv.below hb1).cb)
  obtain ⟨p0, p1, p2, p3, p4⟩ := hX.cells
  have hX := Aside0.mk hX
  have hb1 := Aside0.mk hb1
  clear hv
  dsimp only
  cases x2 with
  | true =>
    have ht : Aside0 (truthF ⟨x0, x1, true, xb, xs⟩ = none) := ⟨by simp [truthF]⟩
    rw [ht.out]
    clear hC1
    go_enter Try.func26, Try.ntmps26
    go_wp2_with fail
    go_ret2
    exact ⟨rfl, hb1.out⟩
  | false =>
    rcases xb with _ | ⟨y, _ | ⟨z, l⟩⟩
    · skip
      have ht : Aside0 (truthF ⟨x0, x1, false, [], xs⟩ = none) := ⟨by simp [truthF]⟩
      rw [ht.out]
      replace p3 : w1.cell? ⟨w.heap.size, 3, none⟩ = some (.slice A 0 c) := p3
      replace hw1 : w.alloc (.cells #[.int .u8 x0, .int .u8 x1, .bool false, .slice A 0 c, .slice B xs.length d] 26) = w1 := hw1
      clear hC1
      show Calls Try.prog 26 #[.agg #[.int .u8 x0, .int .u8 x1, .bool false, .slice A 0 c, .slice B xs.length d]] w _
      go_enter Try.func26, Try.ntmps26
      go_wp2_with fail
      go_ret2
      exact ⟨rfl, hb1.out⟩
    · skip
      obtain ⟨ad, e, q0⟩ := u8_at hC1.out 0 (by simp)
      subst e
      have q0' : w1.cell? ad = some (.int .u8 y) := by rw [show ad = ad.add 0 from by simp [Addr.add]]; exact q0
      replace p3 : w1.cell? ⟨w.heap.size, 3, none⟩ = some (.slice (some ad) 1 c) := p3
      replace hw1 : w.alloc (.cells #[.int .u8 x0, .int .u8 x1, .bool false, .slice (some ad) 1 c, .slice B xs.length d] 26) = w1 := hw1
      clear hC1 q0
      show Calls Try.prog 26 #[.agg #[.int .u8 x0, .int .u8 x1, .bool false, .slice (some ad) 1 c, .slice B xs.length d]] w _
      by_cases c0 : y = 0
      · subst c0
        have ht : Aside0 (truthF ⟨x0, x1, false, [0], xs⟩ = some false) := ⟨by simp [truthF]⟩
        rw [ht.out]
        go_enter Try.func26, Try.ntmps26
        go_wp2_with fail
        go_ret2
        exact ⟨rfl, hb1.out⟩
      · by_cases c1 : y = 255
        · subst c1
          have ht : Aside0 (truthF ⟨x0, x1, false, [255], xs⟩ = some true) := ⟨by simp [truthF]⟩
          rw [ht.out]
          clear c0
          go_enter Try.func26, Try.ntmps26
          go_wp2_with fail
          go_ret2
          exact ⟨rfl, hb1.out⟩
        · have ht : Aside0 (truthF ⟨x0, x1, false, [y], xs⟩ = none) := ⟨by simp [truthF, c0, c1]⟩
          rw [ht.out]
          have d0 : (y == 0) = false := by simpa using c0
          have d1 : (y == 255) = false := by simpa using c1
          have d2 : (y != 0) = true := by simpa using c0
          have d3 : (y != 255) = true := by simpa using c1
          clear c0 c1
          go_enter Try.func26, Try.ntmps26
          go_wp2_with fail
          go_ret2
          exact ⟨rfl, hb1.out⟩
    · skip
      have ht : Aside0 (truthF ⟨x0, x1, false, y :: z :: l, xs⟩ = none) := ⟨by simp [truthF]⟩
      rw [ht.out]
      obtain ⟨N, hN⟩ : ∃ N, (y :: z :: l).length = N := ⟨_, rfl⟩
      have hN2 : 2 ≤ N := by rw [← hN]; simp
      have d1 : ((N : Int) == 1) = false := by simp; omega
      have d2 : ((N : Int) != 1) = true := by simp; omega
      rw [hN] at p3 hw1 ⊢
      clear hC1 hN hN2
      go_enter Try.func26, Try.ntmps26
      go_wp2_with fail
      go_ret2
      exact ⟨rfl, hb1.out⟩
end Go.Proofs.Ytlmelbnmfhpacaa
