/- The walk of BerSame. -/
import Derived.Test.YtlmelbnmfhpacaaBj
set_option linter.unusedVariables false
set_option linter.unusedSimpArgs false
namespace Go.Proofs.Ytlmelbnmfhpacaa
open Go.RowKit Go.Shelf Go.Proofs.YtlmelbnmfhpacaaW.PrintWords Go.Proofs.YtlmelbnmfhpacaaW.PrintMore Go.Proofs.YtlmelbnmfhpacaaW.PrintLast

theorem lenL_bytes (n : Nat) (h : n < 16777216) : ∀ x ∈ lenL n, 0 ≤ x ∧ x < 256 := by
  intro x hx
  unfold lenL at hx
  split at hx
  · simp at hx; omega
  · split at hx
    · simp at hx; omega
    · split at hx
      · simp at hx; omega
      · simp at hx; omega
theorem lay_bytes (x : T) : argT x = true → byteT x → (layT x).length ≤ 1000000 → ∀ b ∈ layT x, 0 ≤ b ∧ b < 256 := by
  refine treeInd (P := fun x => argT x = true → byteT x → (layT x).length ≤ 1000000 → ∀ b ∈ layT x, 0 ≤ b ∧ b < 256) (fun x0 x1 x2 xb xs ih => ?_) x
  intro ha hy hl b hb
  have ha' : ((decide (x0 ≤ 3) && decide (x1 ≤ 30) && (!x2 || xb.isEmpty) && (x2 || xs.isEmpty)) && argL xs) = true := ha
  simp only [Bool.and_eq_true, decide_eq_true_eq] at ha'
  obtain ⟨⟨⟨⟨h0, h1⟩, _⟩, _⟩, h4⟩ := ha'
  obtain ⟨hy0, hy1, hyb, hys⟩ := hy
  have hlay : layT ⟨x0, x1, x2, xb, xs⟩ = (64 * x0 + x1 + (if x2 then 32 else 0)) :: (lenL (if x2 then layL xs else xb).length ++ (if x2 then layL xs else xb)) := rfl
  rw [hlay] at hb hl
  simp only [List.length_cons, List.length_append] at hl
  rcases List.mem_cons.1 hb with h | h
  · subst h
    split <;> omega
  · rcases List.mem_append.1 h with h | h
    · exact lenL_bytes _ (by omega) b h
    · cases x2 with
      | true =>
        simp only [if_true] at h hl
        rw [layL_flat] at h
        obtain ⟨y, hym, hyb2⟩ := List.mem_flatMap.1 h
        exact ih y hym ((argL_iff xs).1 h4 y hym) ((byteL_iff xs).1 hys y hym) (by have := layL_mem hym; omega) b hyb2
      | false => exact hyb b h
/-- What Encode lays tells the value. -/
theorem lay_inj {x y : T} (hx : checkN x = 0) (hy : checkN y = 0) (bx : byteT x) (by_ : byteT y) (h : layT x = layT y) : x = y := by
  have h1 := dec_lay hx bx
  have h2 := dec_lay hy by_
  rw [h, h2] at h1
  injection h1 with h1
  exact h1.symm
theorem lay_str {x y : T} (hx : checkN x = 0) (hy : checkN y = 0) (bx : byteT x) (by_ : byteT y) : ((strOfNums (layT x)).toList == (strOfNums (layT y)).toList) = true ↔ x = y := by
  obtain ⟨a1, _, z1⟩ := check_zero hx
  obtain ⟨a2, _, z2⟩ := check_zero hy
  have l1 := sizeT_lay x a1
  have l2 := sizeT_lay y a2
  rw [str_eq _ _ (lay_bytes x a1 bx (by omega)) (lay_bytes y a2 by_ (by omega))]
  exact ⟨fun h => lay_inj hx hy bx by_ h, fun h => by rw [h]⟩
theorem tells_bool {P : Program} {f : FuncId} {args : Array Value} {p : Prop} {w : World} {b : Bool} (h : Calls P f args w (Tells p w)) (hb : b = true ↔ p) : Calls P f args w fun e w' => e = .returned (.bool b) ∧ Below w.heap.size w w' :=
  h.mono (fun e w' g => by
    obtain ⟨⟨r, g1, g2⟩, g3⟩ := g
    have : r = b := by
      cases r with
      | true => cases b with
        | true => rfl
        | false => exact absurd (hb.2 (g2.1 rfl)) (by simp)
      | false => cases b with
        | true => exact absurd (g2.2 (hb.1 rfl)) (by simp)
        | false => rfl
    rw [this] at g1
    exact ⟨g1, g3⟩)
/-- What Encode ends in, by its two ways. -/
theorem enc_yes (x : T) (A : Option Addr) (c : Nat) (B : Option Addr) (d : Nat) (w : World) (hv : Bv w x A c B d) (hy : byteT x) (hw : wT x ≤ 1000000) (cz : checkN x = 0) :
    Calls Try.prog 14 #[.agg #[.int .u8 x.f0, .int .u8 x.f1, .bool x.f2, .slice A x.f3.length c, .slice B x.f4.length d]] w fun e w' => ∃ A' c', e = .returned (.tuple #[.slice A' (layT x).length c', .int .i64 0]) ∧ (layT x).length ≤ c' ∧ kU.F w' (fun q => w.heap.size ≤ q) A' (layT x).length (layT x) ∧ Below w.heap.size w w' :=
  (encode_calls x A c B d w hv hy hw).mono (fun e w' h => by
    obtain ⟨h1, h2⟩ := h
    rw [if_pos cz] at h1
    obtain ⟨A', c', e1, hR⟩ := h1
    exact ⟨A', c', e1, (Kd.R_reads' hR).2.1, Kd.R_F hR, h2⟩)
theorem enc_no (x : T) (A : Option Addr) (c : Nat) (B : Option Addr) (d : Nat) (w : World) (hv : Bv w x A c B d) (hy : byteT x) (hw : wT x ≤ 1000000) (cz : checkN x ≠ 0) :
    Calls Try.prog 14 #[.agg #[.int .u8 x.f0, .int .u8 x.f1, .bool x.f2, .slice A x.f3.length c, .slice B x.f4.length d]] w fun e w' => e = .returned (.tuple #[.slice none 0 0, .int .i64 (checkN x)]) ∧ Below w.heap.size w w' :=
  (encode_calls x A c B d w hv hy hw).mono (fun e w' h => by
    obtain ⟨h1, h2⟩ := h
    rw [if_neg cz] at h1
    exact ⟨h1, h2⟩)
set_option maxHeartbeats 16000000 in
theorem bersame_walk (x y : T) (A : Option Addr) (c : Nat) (B : Option Addr) (d : Nat) (A' : Option Addr) (c' : Nat) (B' : Option Addr) (d' : Nat) (w : World) (hv : Bv w x A c B d) (hu : Bv w y A' c' B' d') (hx : byteT x) (hy : byteT y) :
    Calls Try.prog 9 #[.agg #[.int .u8 x.f0, .int .u8 x.f1, .bool x.f2, .slice A x.f3.length c, .slice B x.f4.length d], .agg #[.int .u8 y.f0, .int .u8 y.f1, .bool y.f2, .slice A' y.f3.length c', .slice B' y.f4.length d']] w fun e w' => e = .returned (.bool true) ∧ Below w.heap.size w w' := by
  have hX1 := box_new w (.int .u8 x.f0) (.int .u8 x.f1) (.bool x.f2) (.slice A x.f3.length c) (.slice B x.f4.length d)
  have hb1 := below_alloc (Below.refl w.heap.size w) (.cells #[.int .u8 x.f0, .int .u8 x.f1, .bool x.f2, .slice A x.f3.length c, .slice B x.f4.length d] 26)
  obtain ⟨w1, hw1⟩ : ∃ w1, w.alloc (.cells #[.int .u8 x.f0, .int .u8 x.f1, .bool x.f2, .slice A x.f3.length c, .slice B x.f4.length d] 26) = w1 := ⟨_, rfl⟩
  obtain ⟨V, hV⟩ : ∃ V, w.heap.size = V := ⟨_, rfl⟩
  rw [hw1] at hX1 hb1
  rw [hV] at hX1
  have hY2 := box_new w1 (.int .u8 y.f0) (.int .u8 y.f1) (.bool y.f2) (.slice A' y.f3.length c') (.slice B' y.f4.length d')
  have hb2 := below_alloc (Below.refl w1.heap.size w1) (.cells #[.int .u8 y.f0, .int .u8 y.f1, .bool y.f2, .slice A' y.f3.length c', .slice B' y.f4.length d'] 26)
  obtain ⟨w2, hw2⟩ : ∃ w2, w1.alloc (.cells #[.int .u8 y.f0, .int .u8 y.f1, .bool y.f2, .slice A' y.f3.length c', .slice B' y.f4.length d'] 26) = w2 := ⟨_, rfl⟩
  obtain ⟨U, hU⟩ : ∃ U, w1.heap.size = U := ⟨_, rfl⟩
  rw [hw2] at hY2 hb2
  rw [hU] at hY2
  have hX2 := hX1.below hb2
  have hK := Aside0.mk (show ∀ W, Below w2.heap.size w2 W → (W.cell? ⟨V, 0, none⟩ = some (.int .u8 x.f0) ∧ W.cell? ⟨V, 1, none⟩ = some (.int .u8 x.f1) ∧ W.cell? ⟨V, 2, none⟩ = some (.bool x.f2) ∧ W.cell? ⟨V, 3, none⟩ = some (.slice A x.f3.length c) ∧ W.cell? ⟨V, 4, none⟩ = some (.slice B x.f4.length d)) ∧
      W.cell? ⟨U, 0, none⟩ = some (.int .u8 y.f0) ∧ W.cell? ⟨U, 1, none⟩ = some (.int .u8 y.f1) ∧ W.cell? ⟨U, 2, none⟩ = some (.bool y.f2) ∧ W.cell? ⟨U, 3, none⟩ = some (.slice A' y.f3.length c') ∧ W.cell? ⟨U, 4, none⟩ = some (.slice B' y.f4.length d') from fun W hW => ⟨(hX2.below hW).cells, (hY2.below hW).cells⟩)
  have hb12 := below_then hb1 hb1.size hb2
  have hv2 := Aside0.mk (fun W (hW : Below w2.heap.size w2 W) => (hv.below hb12).below hW)
  have hu2 := Aside0.mk (fun W (hW : Below w2.heap.size w2 W) => (hu.below hb12).below hW)
  have hb12' := Aside0.mk hb12
  have hw20 := Aside0.mk (Below.refl w2.heap.size w2)
  obtain ⟨r1, hr1, hl1⟩ := left_calls x A c B d 1000 w2 (hv2.out _ hw20.out) (by omega)
  have hl1 := Aside0.mk (show Calls Try.prog 20 #[.agg #[.int .u8 x.f0, .int .u8 x.f1, .bool x.f2, .slice A x.f3.length c, .slice B x.f4.length d], .int .i64 1000, .int .i64 1] w2 (fun e w' => e = .returned (.int .i64 r1) ∧ Below w2.heap.size w2 w') from hl1)
  obtain ⟨⟨p0, p1, p2, p3, p4⟩, q0, q1, q2, q3, q4⟩ := hK.out _ hw20.out
  replace hx := Aside0.mk hx
  replace hy := Aside0.mk hy
  clear hX1 hb1 hY2 hb2 hX2 hb12 hv hu
  by_cases c1 : r1 < 0
  · clear hr1
    go_enter Try.func9, Try.ntmps9
    go_wp2_with fail
    refine hl1.out.mono ?_
    rintro e w3 ⟨rfl, hb3⟩
    have hw3 := Aside0.mk hb3
    clear hb3
    go_wp2_with fail
    refine (known_calls _).mono ?_
    rintro e w4 ⟨rfl, hb4⟩
    have hbf := Aside0.mk (below_then hb12'.out hb12'.out.size (below_then hw3.out hw3.out.size hb4))
    clear hb4
    go_wp2_with fail
    go_ret
    exact ⟨rfl, hbf.out⟩
  · have hwx := Aside0.mk (show wT x ≤ 1000 from by have := hr1.2.2 (by omega); omega)
    have i1 : decide (r1 < 0) = false := by simp; omega
    clear hr1 c1
    obtain ⟨r2, hr2, hl2⟩ : ∃ r : Int, LeftOk r 1000 (wT y) ∧ Aside0 (∀ W, Below w2.heap.size w2 W → Calls Try.prog 20 #[.agg #[.int .u8 y.f0, .int .u8 y.f1, .bool y.f2, .slice A' y.f3.length c', .slice B' y.f4.length d'], .int .i64 1000, .int .i64 1] W fun e w' => e = .returned (.int .i64 r) ∧ Below W.heap.size W w') := by
      obtain ⟨K, r, e, h⟩ := left_ours y 1 1000 (by omega) (by omega) (by omega) (by omega)
      exact ⟨r, h, ⟨fun W hW => (PBerEncodes.cardcaselaw05_left.calls K y.f0 y.f1 y.f2 A' c' y.f3 B' d' y.f4 1000 1 r W (hu2.out W hW).cb (hu2.out W hW).lb (hu2.out W hW).ci (hu2.out W hW).li e).mono (by rintro e w' ⟨rfl, hd⟩; exact ⟨rfl, hd⟩)⟩⟩
    by_cases c2 : r2 < 0
    · clear hr2
      go_enter Try.func9, Try.ntmps9
      go_wp2_with fail
      refine hl1.out.mono ?_
      rintro e w3 ⟨rfl, hb⟩
      have hw3 := Aside0.mk (below_then hw20.out hw20.out.size hb)
      clear hb p0 p1 p2 p3 p4 q0 q1 q2 q3 q4
      obtain ⟨⟨p0, p1, p2, p3, p4⟩, q0, q1, q2, q3, q4⟩ := hK.out _ hw3.out
      go_wp2_with fail
      refine (hl2.out _ hw3.out).mono ?_
      rintro e w4 ⟨rfl, hb4⟩
      have hw4 := Aside0.mk (below_then hw3.out hw3.out.size hb4)
      clear hb4
      go_wp2_with fail
      refine (known_calls _).mono ?_
      rintro e w5 ⟨rfl, hb5⟩
      have hbf := Aside0.mk (below_then hb12'.out hb12'.out.size (below_then hw4.out hw4.out.size hb5))
      clear hb5
      go_wp2_with fail
      go_ret
      exact ⟨rfl, hbf.out⟩
    · have hwy := Aside0.mk (show wT y ≤ 1000 from by have := hr2.2.2 (by omega); omega)
      have i2 : decide (r2 < 0) = false := by simp; omega
      clear hr2 c2
      obtain ⟨b, hb⟩ : ∃ b : Bool, (b = true ↔ x = y) := by
        by_cases h : x = y
        · exact ⟨true, by simp [h]⟩
        · exact ⟨false, by simp [h]⟩
      have hs30 := Aside0.mk (fun W (hW : Below w2.heap.size w2 W) => tells_bool (rsame_calls x y A c B d A' c' B' d' W (hv2.out W hW) (hu2.out W hW) hx.out hy.out (by have := hwx.out; omega)) hb)
      have hsxy := Aside0.mk (fun W (hW : Below w2.heap.size w2 W) => tells_bool (show Calls Try.prog 32 #[.agg #[.int .u8 x.f0, .int .u8 x.f1, .bool x.f2, .slice A x.f3.length c, .slice B x.f4.length d], .agg #[.int .u8 y.f0, .int .u8 y.f1, .bool y.f2, .slice A' y.f3.length c', .slice B' y.f4.length d']] W (Tells (x = y) W) from same_calls x hx.out (by have := hwx.out; omega) y A c B d A' c' B' d' W (hv2.out W hW) (hu2.out W hW) hy.out) hb)
      have hsyx := Aside0.mk (fun W (hW : Below w2.heap.size w2 W) => tells_bool (show Calls Try.prog 32 #[.agg #[.int .u8 y.f0, .int .u8 y.f1, .bool y.f2, .slice A' y.f3.length c', .slice B' y.f4.length d'], .agg #[.int .u8 x.f0, .int .u8 x.f1, .bool x.f2, .slice A x.f3.length c, .slice B x.f4.length d]] W (Tells (y = x) W) from same_calls y hy.out (by have := hwy.out; omega) x A' c' B' d' A c B d W (hu2.out W hW) (hv2.out W hW) hx.out) (hb.trans eq_comm))
      have hsxx := Aside0.mk (fun W (hW : Below w2.heap.size w2 W) => tells_bool (b := true) (show Calls Try.prog 32 #[.agg #[.int .u8 x.f0, .int .u8 x.f1, .bool x.f2, .slice A x.f3.length c, .slice B x.f4.length d], .agg #[.int .u8 x.f0, .int .u8 x.f1, .bool x.f2, .slice A x.f3.length c, .slice B x.f4.length d]] W (Tells (x = x) W) from same_calls x hx.out (by have := hwx.out; omega) x A c B d A c B d W (hv2.out W hW) (hv2.out W hW) hx.out) (by simp))
      have hbb : (b != b) = false := by cases b <;> rfl
      have hbt : (b == b) = true := by cases b <;> rfl
      by_cases cx : checkN x = 0
      · have hex := Aside0.mk (fun W (hW : Below w2.heap.size w2 W) => enc_yes x A c B d W (hv2.out W hW) hx.out (by have := hwx.out; omega) cx)
        by_cases cy : checkN y = 0
        · have hey := Aside0.mk (fun W (hW : Below w2.heap.size w2 W) => enc_yes y A' c' B' d' W (hu2.out W hW) hy.out (by have := hwy.out; omega) cy)
          have hst : ((strOfNums (layT x)).toList == (strOfNums (layT y)).toList) = b := by
            have := lay_str cx cy hx.out hy.out
            rw [Bool.eq_iff_iff, this, hb]
          obtain ⟨lx, hlx⟩ : ∃ lx, layT x = lx := ⟨_, rfl⟩
          obtain ⟨ly, hly⟩ : ∃ ly, layT y = ly := ⟨_, rfl⟩
          rw [hlx] at hex hst
          rw [hly] at hey hst
          obtain ⟨m, hm⟩ : ∃ m, lx.length = m := ⟨_, rfl⟩
          obtain ⟨k, hk⟩ : ∃ k, ly.length = k := ⟨_, rfl⟩
          have hcx : Aside0 (∀ A c W, kU.C W A m lx → (convert 23 9 (.slice A m c)).run Try.prog W = .ok (.string (strOfNums lx)) W) := ⟨fun A c W h => Kd.C_string (P := Try.prog) (dst := 9) (c := c) Try.underlying23 Try.underlying5 Try.underlying9 h⟩
          have hcy : Aside0 (∀ A c W, kU.C W A k ly → (convert 23 9 (.slice A k c)).run Try.prog W = .ok (.string (strOfNums ly)) W) := ⟨fun A c W h => Kd.C_string (P := Try.prog) (dst := 9) (c := c) Try.underlying23 Try.underlying5 Try.underlying9 h⟩
          rw [hm] at hex
          rw [hk] at hey
          obtain ⟨sx, hsx⟩ : ∃ sx, strOfNums lx = sx := ⟨_, rfl⟩
          obtain ⟨sy, hsy⟩ : ∃ sy, strOfNums ly = sy := ⟨_, rfl⟩
          rw [hsx] at hcx hst
          rw [hsy] at hcy hst
          clear hlx hly hm hk hsx hsy cx cy hb
          cases b with
          | false =>
            go_enter Try.func9, Try.ntmps9
            go_wp2_with fail
            refine hl1.out.mono ?_
            rintro e w3 ⟨rfl, hb⟩
            have hw3 := Aside0.mk (below_then hw20.out hw20.out.size hb)
            clear hb p0 p1 p2 p3 p4 q0 q1 q2 q3 q4
            obtain ⟨⟨p0, p1, p2, p3, p4⟩, q0, q1, q2, q3, q4⟩ := hK.out _ hw3.out
            go_wp2_with fail
            refine (hl2.out _ hw3.out).mono ?_
            rintro e w4 ⟨rfl, hb⟩
            have hw4 := Aside0.mk (below_then hw3.out hw3.out.size hb)
            clear hb p0 p1 p2 p3 p4 q0 q1 q2 q3 q4
            obtain ⟨⟨p0, p1, p2, p3, p4⟩, q0, q1, q2, q3, q4⟩ := hK.out _ hw4.out
            go_wp2_with fail
            refine (hs30.out _ hw4.out).mono ?_
            rintro e w5 ⟨rfl, hb⟩
            have hw5 := Aside0.mk (below_then hw4.out hw4.out.size hb)
            clear hb p0 p1 p2 p3 p4 q0 q1 q2 q3 q4
            obtain ⟨⟨p0, p1, p2, p3, p4⟩, q0, q1, q2, q3, q4⟩ := hK.out _ hw5.out
            go_wp2_with fail
            refine (hsxy.out _ hw5.out).mono ?_
            rintro e w6 ⟨rfl, hb⟩
            have hw6 := Aside0.mk (below_then hw5.out hw5.out.size hb)
            clear hb p0 p1 p2 p3 p4 q0 q1 q2 q3 q4
            obtain ⟨⟨p0, p1, p2, p3, p4⟩, q0, q1, q2, q3, q4⟩ := hK.out _ hw6.out
            go_wp2_with fail
            refine (hsyx.out _ hw6.out).mono ?_
            rintro e w7 ⟨rfl, hb⟩
            have hw7 := Aside0.mk (below_then hw6.out hw6.out.size hb)
            clear hb p0 p1 p2 p3 p4 q0 q1 q2 q3 q4
            obtain ⟨⟨p0, p1, p2, p3, p4⟩, q0, q1, q2, q3, q4⟩ := hK.out _ hw7.out
            go_wp2_with fail
            refine (hsxx.out _ hw7.out).mono ?_
            rintro e w8 ⟨rfl, hb⟩
            have hw8 := Aside0.mk (below_then hw7.out hw7.out.size hb)
            clear hb p0 p1 p2 p3 p4 q0 q1 q2 q3 q4
            obtain ⟨⟨p0, p1, p2, p3, p4⟩, q0, q1, q2, q3, q4⟩ := hK.out _ hw8.out
            go_wp2_with fail
            refine (hex.out _ hw8.out).mono ?_
            rintro e w9 ⟨A9, c9, rfl, hc9, hF9, hb⟩
            have hw9 := Aside0.mk (below_then hw8.out hw8.out.size hb)
            have hF9 := Aside0.mk hF9
            clear hb hc9 p0 p1 p2 p3 p4 q0 q1 q2 q3 q4
            obtain ⟨⟨p0, p1, p2, p3, p4⟩, q0, q1, q2, q3, q4⟩ := hK.out _ hw9.out
            go_wp2_with fail
            refine (hey.out _ hw9.out).mono ?_
            rintro e w10 ⟨A10, c10, rfl, hc10, hF10, hb⟩
            have hw10 := Aside0.mk (below_then hw9.out hw9.out.size hb)
            have hcv1 := hcx.out A9 c9 w10 (Kd.F_now (Kd.F_below hF9.out hb))
            have hcv2 := hcy.out A10 c10 w10 (Kd.F_now hF10)
            clear hb hc10 hF10 p0 p1 p2 p3 p4 q0 q1 q2 q3 q4
            go_wp2_with fail
            refine (known_calls _).mono ?_
            rintro e w11 ⟨rfl, hb11⟩
            have hbf := Aside0.mk (below_then hb12'.out hb12'.out.size (below_then hw10.out hw10.out.size hb11))
            clear hb11
            go_wp2_with fail
            go_ret
            exact ⟨rfl, hbf.out⟩
          | true =>
            go_enter Try.func9, Try.ntmps9
            go_wp2_with fail
            refine hl1.out.mono ?_
            rintro e w3 ⟨rfl, hb⟩
            have hw3 := Aside0.mk (below_then hw20.out hw20.out.size hb)
            clear hb p0 p1 p2 p3 p4 q0 q1 q2 q3 q4
            obtain ⟨⟨p0, p1, p2, p3, p4⟩, q0, q1, q2, q3, q4⟩ := hK.out _ hw3.out
            go_wp2_with fail
            refine (hl2.out _ hw3.out).mono ?_
            rintro e w4 ⟨rfl, hb⟩
            have hw4 := Aside0.mk (below_then hw3.out hw3.out.size hb)
            clear hb p0 p1 p2 p3 p4 q0 q1 q2 q3 q4
            obtain ⟨⟨p0, p1, p2, p3, p4⟩, q0, q1, q2, q3, q4⟩ := hK.out _ hw4.out
            go_wp2_with fail
            refine (hs30.out _ hw4.out).mono ?_
            rintro e w5 ⟨rfl, hb⟩
            have hw5 := Aside0.mk (below_then hw4.out hw4.out.size hb)
            clear hb p0 p1 p2 p3 p4 q0 q1 q2 q3 q4
            obtain ⟨⟨p0, p1, p2, p3, p4⟩, q0, q1, q2, q3, q4⟩ := hK.out _ hw5.out
            go_wp2_with fail
            refine (hsxy.out _ hw5.out).mono ?_
            rintro e w6 ⟨rfl, hb⟩
            have hw6 := Aside0.mk (below_then hw5.out hw5.out.size hb)
            clear hb p0 p1 p2 p3 p4 q0 q1 q2 q3 q4
            obtain ⟨⟨p0, p1, p2, p3, p4⟩, q0, q1, q2, q3, q4⟩ := hK.out _ hw6.out
            go_wp2_with fail
            refine (hsyx.out _ hw6.out).mono ?_
            rintro e w7 ⟨rfl, hb⟩
            have hw7 := Aside0.mk (below_then hw6.out hw6.out.size hb)
            clear hb p0 p1 p2 p3 p4 q0 q1 q2 q3 q4
            obtain ⟨⟨p0, p1, p2, p3, p4⟩, q0, q1, q2, q3, q4⟩ := hK.out _ hw7.out
            go_wp2_with fail
            refine (hsxx.out _ hw7.out).mono ?_
            rintro e w8 ⟨rfl, hb⟩
            have hw8 := Aside0.mk (below_then hw7.out hw7.out.size hb)
            clear hb p0 p1 p2 p3 p4 q0 q1 q2 q3 q4
            obtain ⟨⟨p0, p1, p2, p3, p4⟩, q0, q1, q2, q3, q4⟩ := hK.out _ hw8.out
            go_wp2_with fail
            refine (hex.out _ hw8.out).mono ?_
            rintro e w9 ⟨A9, c9, rfl, hc9, hF9, hb⟩
            have hw9 := Aside0.mk (below_then hw8.out hw8.out.size hb)
            have hF9 := Aside0.mk hF9
            clear hb hc9 p0 p1 p2 p3 p4 q0 q1 q2 q3 q4
            obtain ⟨⟨p0, p1, p2, p3, p4⟩, q0, q1, q2, q3, q4⟩ := hK.out _ hw9.out
            go_wp2_with fail
            refine (hey.out _ hw9.out).mono ?_
            rintro e w10 ⟨A10, c10, rfl, hc10, hF10, hb⟩
            have hw10 := Aside0.mk (below_then hw9.out hw9.out.size hb)
            have hcv1 := hcx.out A9 c9 w10 (Kd.F_now (Kd.F_below hF9.out hb))
            have hcv2 := hcy.out A10 c10 w10 (Kd.F_now hF10)
            clear hb hc10 hF10 p0 p1 p2 p3 p4 q0 q1 q2 q3 q4
            go_wp2_with fail
            refine (known_calls _).mono ?_
            rintro e w11 ⟨rfl, hb11⟩
            have hbf := Aside0.mk (below_then hb12'.out hb12'.out.size (below_then hw10.out hw10.out.size hb11))
            clear hb11
            go_wp2_with fail
            go_ret
            exact ⟨rfl, hbf.out⟩
        · have hey := Aside0.mk (fun W (hW : Below w2.heap.size w2 W) => enc_no y A' c' B' d' W (hu2.out W hW) hy.out (by have := hwy.out; omega) cy)
          obtain ⟨N, hN⟩ : ∃ N, checkN y = N := ⟨_, rfl⟩
          rw [hN] at hey cy
          have hN0 : (N != 0) = true := by simpa using cy
          have hN1 : (N == 0) = false := by simpa using cy
          clear cx cy hN hb
          go_enter Try.func9, Try.ntmps9
          go_wp2_with fail
          refine hl1.out.mono ?_
          rintro e w3 ⟨rfl, hb⟩
          have hw3 := Aside0.mk (below_then hw20.out hw20.out.size hb)
          clear hb p0 p1 p2 p3 p4 q0 q1 q2 q3 q4
          obtain ⟨⟨p0, p1, p2, p3, p4⟩, q0, q1, q2, q3, q4⟩ := hK.out _ hw3.out
          go_wp2_with fail
          refine (hl2.out _ hw3.out).mono ?_
          rintro e w4 ⟨rfl, hb⟩
          have hw4 := Aside0.mk (below_then hw3.out hw3.out.size hb)
          clear hb p0 p1 p2 p3 p4 q0 q1 q2 q3 q4
          obtain ⟨⟨p0, p1, p2, p3, p4⟩, q0, q1, q2, q3, q4⟩ := hK.out _ hw4.out
          go_wp2_with fail
          refine (hs30.out _ hw4.out).mono ?_
          rintro e w5 ⟨rfl, hb⟩
          have hw5 := Aside0.mk (below_then hw4.out hw4.out.size hb)
          clear hb p0 p1 p2 p3 p4 q0 q1 q2 q3 q4
          obtain ⟨⟨p0, p1, p2, p3, p4⟩, q0, q1, q2, q3, q4⟩ := hK.out _ hw5.out
          go_wp2_with fail
          refine (hsxy.out _ hw5.out).mono ?_
          rintro e w6 ⟨rfl, hb⟩
          have hw6 := Aside0.mk (below_then hw5.out hw5.out.size hb)
          clear hb p0 p1 p2 p3 p4 q0 q1 q2 q3 q4
          obtain ⟨⟨p0, p1, p2, p3, p4⟩, q0, q1, q2, q3, q4⟩ := hK.out _ hw6.out
          go_wp2_with fail
          refine (hsyx.out _ hw6.out).mono ?_
          rintro e w7 ⟨rfl, hb⟩
          have hw7 := Aside0.mk (below_then hw6.out hw6.out.size hb)
          clear hb p0 p1 p2 p3 p4 q0 q1 q2 q3 q4
          obtain ⟨⟨p0, p1, p2, p3, p4⟩, q0, q1, q2, q3, q4⟩ := hK.out _ hw7.out
          go_wp2_with fail
          refine (hsxx.out _ hw7.out).mono ?_
          rintro e w8 ⟨rfl, hb⟩
          have hw8 := Aside0.mk (below_then hw7.out hw7.out.size hb)
          clear hb p0 p1 p2 p3 p4 q0 q1 q2 q3 q4
          obtain ⟨⟨p0, p1, p2, p3, p4⟩, q0, q1, q2, q3, q4⟩ := hK.out _ hw8.out
          go_wp2_with fail
          refine (hex.out _ hw8.out).mono ?_
          rintro e w9 ⟨A9, c9, rfl, hc9, hF9, hb⟩
          have hw9 := Aside0.mk (below_then hw8.out hw8.out.size hb)
          clear hb hc9 hF9 p0 p1 p2 p3 p4 q0 q1 q2 q3 q4
          obtain ⟨⟨p0, p1, p2, p3, p4⟩, q0, q1, q2, q3, q4⟩ := hK.out _ hw9.out
          go_wp2_with fail
          refine (hey.out _ hw9.out).mono ?_
          rintro e w10 ⟨rfl, hb⟩
          have hw10 := Aside0.mk (below_then hw9.out hw9.out.size hb)
          clear hb p0 p1 p2 p3 p4 q0 q1 q2 q3 q4
          obtain ⟨⟨p0, p1, p2, p3, p4⟩, q0, q1, q2, q3, q4⟩ := hK.out _ hw10.out
          go_wp2_with fail
          refine (known_calls _).mono ?_
          rintro e w11 ⟨rfl, hb11⟩
          have hbf := Aside0.mk (below_then hb12'.out hb12'.out.size (below_then hw10.out hw10.out.size hb11))
          clear hb11
          go_wp2_with fail
          go_ret
          exact ⟨rfl, hbf.out⟩
      · have hex := Aside0.mk (fun W (hW : Below w2.heap.size w2 W) => enc_no x A c B d W (hv2.out W hW) hx.out (by have := hwx.out; omega) cx)
        have hey : Aside0 (∃ P : Ending → World → Prop, True) := ⟨⟨fun _ _ => True, trivial⟩⟩
        obtain ⟨N, hN⟩ : ∃ N, checkN x = N := ⟨_, rfl⟩
        rw [hN] at hex cx
        have hN0 : (N != 0) = true := by simpa using cx
        have hN1 : (N == 0) = false := by simpa using cx
        clear cx hN
        have hey0 : Aside0 (∀ W, Below w2.heap.size w2 W → Calls Try.prog 14 #[.agg #[.int .u8 y.f0, .int .u8 y.f1, .bool y.f2, .slice A' y.f3.length c', .slice B' y.f4.length d']] W fun e w' => (∃ v k, e = .returned (.tuple #[v, .int .i64 k])) ∧ Below W.heap.size W w') := ⟨fun W hW => (encode_calls y A' c' B' d' W (hu2.out W hW) hy.out (by have := hwy.out; omega)).mono (fun e w' h => by
          obtain ⟨h1, h2⟩ := h
          refine ⟨?_, h2⟩
          split at h1
          · obtain ⟨A9, c9, h1, _⟩ := h1; exact ⟨_, _, h1⟩
          · exact ⟨_, _, h1⟩)⟩
        go_enter Try.func9, Try.ntmps9
        go_wp2_with fail
        refine hl1.out.mono ?_
        rintro e w3 ⟨rfl, hb⟩
        have hw3 := Aside0.mk (below_then hw20.out hw20.out.size hb)
        clear hb p0 p1 p2 p3 p4 q0 q1 q2 q3 q4
        obtain ⟨⟨p0, p1, p2, p3, p4⟩, q0, q1, q2, q3, q4⟩ := hK.out _ hw3.out
        go_wp2_with fail
        refine (hl2.out _ hw3.out).mono ?_
        rintro e w4 ⟨rfl, hb⟩
        have hw4 := Aside0.mk (below_then hw3.out hw3.out.size hb)
        clear hb p0 p1 p2 p3 p4 q0 q1 q2 q3 q4
        obtain ⟨⟨p0, p1, p2, p3, p4⟩, q0, q1, q2, q3, q4⟩ := hK.out _ hw4.out
        go_wp2_with fail
        refine (hs30.out _ hw4.out).mono ?_
        rintro e w5 ⟨rfl, hb⟩
        have hw5 := Aside0.mk (below_then hw4.out hw4.out.size hb)
        clear hb p0 p1 p2 p3 p4 q0 q1 q2 q3 q4
        obtain ⟨⟨p0, p1, p2, p3, p4⟩, q0, q1, q2, q3, q4⟩ := hK.out _ hw5.out
        go_wp2_with fail
        refine (hsxy.out _ hw5.out).mono ?_
        rintro e w6 ⟨rfl, hb⟩
        have hw6 := Aside0.mk (below_then hw5.out hw5.out.size hb)
        clear hb p0 p1 p2 p3 p4 q0 q1 q2 q3 q4
        obtain ⟨⟨p0, p1, p2, p3, p4⟩, q0, q1, q2, q3, q4⟩ := hK.out _ hw6.out
        go_wp2_with fail
        refine (hsyx.out _ hw6.out).mono ?_
        rintro e w7 ⟨rfl, hb⟩
        have hw7 := Aside0.mk (below_then hw6.out hw6.out.size hb)
        clear hb p0 p1 p2 p3 p4 q0 q1 q2 q3 q4
        obtain ⟨⟨p0, p1, p2, p3, p4⟩, q0, q1, q2, q3, q4⟩ := hK.out _ hw7.out
        go_wp2_with fail
        refine (hsxx.out _ hw7.out).mono ?_
        rintro e w8 ⟨rfl, hb⟩
        have hw8 := Aside0.mk (below_then hw7.out hw7.out.size hb)
        clear hb p0 p1 p2 p3 p4 q0 q1 q2 q3 q4
        obtain ⟨⟨p0, p1, p2, p3, p4⟩, q0, q1, q2, q3, q4⟩ := hK.out _ hw8.out
        go_wp2_with fail
        refine (hex.out _ hw8.out).mono ?_
        rintro e w9 ⟨rfl, hb⟩
        have hw9 := Aside0.mk (below_then hw8.out hw8.out.size hb)
        clear hb p0 p1 p2 p3 p4 q0 q1 q2 q3 q4
        obtain ⟨⟨p0, p1, p2, p3, p4⟩, q0, q1, q2, q3, q4⟩ := hK.out _ hw9.out
        go_wp2_with fail
        refine (hey0.out _ hw9.out).mono ?_
        rintro e w10 ⟨⟨v10, k10, rfl⟩, hb⟩
        have hw10 := Aside0.mk (below_then hw9.out hw9.out.size hb)
        clear hb p0 p1 p2 p3 p4 q0 q1 q2 q3 q4
        go_wp2_with fail
        refine (known_calls _).mono ?_
        rintro e w11 ⟨rfl, hb11⟩
        have hbf := Aside0.mk (below_then hb12'.out hb12'.out.size (below_then hw10.out hw10.out.size hb11))
        clear hb11
        go_wp2_with fail
        go_ret
        exact ⟨rfl, hbf.out⟩
end Go.Proofs.Ytlmelbnmfhpacaa
