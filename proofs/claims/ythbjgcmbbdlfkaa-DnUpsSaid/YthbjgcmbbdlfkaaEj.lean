/- The walk of DnBytes. -/
import Derived.Test.YthbjgcmbbdlfkaaEa
import Derived.Outline
set_option linter.unusedVariables false
set_option linter.unusedSimpArgs false
namespace Go.Proofs.Ythbjgcmbbdlfkaa
open Go.RowKit Go.Shelf Go.Proofs.YthbjgcmbbdlfkaaW.PrintWords Go.Proofs.YthbjgcmbbdlfkaaW.PrintMore Go.Proofs.YthbjgcmbbdlfkaaW.PrintLast

def cnS : ByteArray := ⟨#[99, 110]⟩
theorem cn_ok {V : ByteArray} (h1 : 1 ≤ V.size) (h2 : V.size ≤ 200) : dnOk [⟨cnS, V⟩] = true := by
  have hp : partOk ⟨cnS, V⟩ = true := by
    unfold partOk
    rw [show nameOk (Rdn.t ⟨cnS, V⟩) = true from by kernel_rfl, show ((small (Rdn.t ⟨cnS, V⟩)).toList == (Rdn.t ⟨cnS, V⟩).toList) = true from by kernel_rfl, decide_eq_true (show (1 : Int) ≤ ((Rdn.v ⟨cnS, V⟩).size : Int) from by show (1 : Int) ≤ (V.size : Int); omega), decide_eq_true (show ((Rdn.v ⟨cnS, V⟩).size : Int) ≤ 200 from by show (V.size : Int) ≤ 200; omega)]
    rfl
  unfold dnOk
  simp [hp]
theorem one_C (w : World) (t v : ByteArray) : kr.C (w.alloc (.cells #[.string t, .string v] 40)) (some ⟨w.heap.size, 0, none⟩) 1 [⟨t, v⟩] := by
  have h0 := heap_alloc_new w (.cells #[.string t, .string v] 40)
  refine ⟨rfl, by decide, fun _ => ⟨_, rfl, fun j p hj => ?_⟩⟩
  have hj0 : j = 0 := by
    have := (List.getElem?_eq_some_iff.1 hj).1
    simp at this; omega
  subst hj0
  obtain rfl := Option.some.inj hj
  refine ⟨[.string t, .string v], rfl, ⟨[_], [_], rfl, rfl, rfl⟩, fun i u hu => ?_⟩
  have hi : i = 0 ∨ i = 1 := by
    have := (List.getElem?_eq_some_iff.1 hu).1
    simp at this; omega
  rcases hi with rfl | rfl
  · obtain rfl := Option.some.inj hu
    exact (cell_of_row _ _ _ _ _ _ h0).trans rfl
  · obtain rfl := Option.some.inj hu
    exact (cell_of_row _ _ _ _ _ _ h0).trans rfl
set_option maxHeartbeats 1000000 in
set_option maxRecDepth 20000 in
theorem dnBytes_row (W : World) (x : Int) (wx : (Lit.int .u8 x).wf = true) (a : ByteArray) (wa : a.size ≤ 140737488351232) (b : ByteArray) (wb : b.size ≤ 140737488351232) :
    Calls Try.prog 6 #[.int .u8 x, .string a, .string b] W fun e w' => e = .returned (.bool true) ∧ Below W.heap.size W w' := by
  by_cases ha : a.size ≤ 20 ∧ b.size ≤ 20
  · obtain ⟨ha, hb⟩ := ha
    have i1 : ¬ (20 : Int) < (a.size : Int) := by omega
    have i2 : ¬ (20 : Int) < (b.size : Int) := by omega
    have h256 : 0 ≤ x ∧ x ≤ 255 := by simpa [Lit.wf, IntKind.min, IntKind.max, IntKind.signed, IntKind.bits] using wx
    have hcv := Aside0.mk (fun w => run_convert_bytes_arg (P := Try.prog) (w := World.alloc w (.cells #[.int .u8 x] 5)) 38 5 Try.underlying38 Try.underlying5 w.heap.size 0 1 1 [x] rfl (fun i hi => by
      obtain rfl : i = 0 := by omega
      exact (cell_of_row _ _ _ _ _ _ (heap_alloc_new w (.cells #[.int .u8 x] 5))).trans rfl) 9 Try.underlying9)
    have kcv := hcv.out W
    obtain ⟨V, hV⟩ : ∃ V, a ++ strOfNums [x] ++ b = V := ⟨_, rfl⟩
    have hVz : V.size = a.size + 1 + b.size := by rw [← hV, ByteArray.size_append, ByteArray.size_append, strOfNums_size]; rfl
    have hxz : (strOfNums [x]).size = 1 := by rw [strOfNums_size]; rfl
    obtain ⟨X, hX⟩ : ∃ X, strOfNums [x] = X := ⟨_, rfl⟩
    rw [hX] at hV hxz kcv
    clear hcv hX
    replace hV := Aside0.mk hV
    go_enter Try.func6, Try.ntmps6
    go_wp2_with fail
    rw [hV.out]
    have hok := cn_ok (V := V) (by omega) (by omega)
    have hm : Mild [⟨cnS, V⟩] := ⟨Nat.succ_le_of_lt (by decide : 0 < 1000), by
      intro r hr
      obtain rfl := List.mem_singleton.1 hr
      exact ⟨(by decide : cnS.size ≤ 12000), by show V.size ≤ 12000; omega⟩⟩
    obtain ⟨w1, hw1⟩ : ∃ w1, World.alloc W (.cells #[.int .u8 x] 5) = w1 := ⟨_, rfl⟩
    have hb1 := hw1 ▸ below_alloc (Below.refl W.heap.size W) (.cells #[.int .u8 x] 5)
    have ht := text_calls (some ⟨w1.heap.size, 0, none⟩) 1 [⟨cnS, V⟩] (w1.alloc (.cells #[.string cnS, .string V] 40)) hm (one_C w1 cnS V)
    have hb2 := below_then hb1 hb1.size (below_alloc (Below.refl w1.heap.size w1) (.cells #[.string cnS, .string V] 40))
    have hp := parse_text _ hok
    have hz := textF_size hok
    have hr := fun k => textF_range hok k
    unfold Texted at ht
    rw [hok, if_pos rfl] at ht
    obtain ⟨T, hT⟩ : ∃ T, textF [⟨cnS, V⟩] = T := ⟨_, rfl⟩
    rw [hT] at ht hp hz hr
    have h5 := Aside0.mk (fun W' => parse_calls T W' hz)
    unfold Parsed at h5
    rw [hp] at h5
    have hwz : w1.heap.size = W.heap.size + 1 := by rw [← hw1]; simp
    rw [hwz, show [(⟨cnS, V⟩ : Rdn)].length = 1 from rfl] at ht
    clear hwz
    unfold cnS at ht hb2
    replace ht := Aside0.mk ht
    replace hr := Aside0.mk hr
    replace hb2 := Aside0.mk hb2
    have hb1' := Aside0.mk hb1
    clear hb1 kcv hp hT hm hok
    rw [hw1]
    clear hw1
    go_wp2_with fail
    refine ht.out.mono ?_
    rintro e w2 ⟨rfl, hb3⟩
    replace hb3 := Aside0.mk (below_then hb2.out hb2.out.size hb3)
    clear hb2 hb1' ht
    go_wp2_with fail
    go_loopw [10] (fun s10 wr => ∃ k : Nat, k ≤ T.size ∧ s10 = .int .i64 k ∧ wr = w2) (fun s10 _ => T.size - (intOf s10).toNat)
    case atStart => exact ⟨0, Nat.zero_le _, rfl, rfl⟩
    case round =>
      obtain ⟨k, hk, rfl, rfl⟩ := hrel
      by_cases hlt : k < T.size
      · obtain ⟨r1, r2⟩ := hr.out k hlt
        have hbn := bt_nat hlt
        obtain ⟨y, hy⟩ : ∃ y, bt T (k : Int) = y := ⟨_, rfl⟩
        rw [hy] at r1 r2 hbn
        clear hy
        have j1 : (0 : Int) ≤ (k : Int) := by omega
        have j2 : (k : Int) < (T.size : Int) := by omega
        go_wp2_with fail
        go_roundw
        case rel => exact ⟨k + 1, by omega, by go_num, trivial⟩
        case measure => simp [intOf]; omega
      · obtain rfl : k = T.size := by omega
        have j1 : ¬ ((T.size : Nat) : Int) < (T.size : Int) := by omega
        go_wp2_with fail
        refine (h5.out _).mono ?_
        rintro e w4 ⟨⟨v, rfl, hR⟩, hb4⟩
        obtain ⟨A2, c2, rfl, hc2, hC2⟩ := Kd.R_reads hR
        obtain ⟨ad, e0, p0, p1⟩ := rdn_at hC2 0 (Nat.zero_lt_one)
        subst e0
        replace hb4 := Aside0.mk (below_then hb3.out hb3.out.size hb4)
        have p1' : w4.cell? ⟨ad.block, ad.off + 1, none⟩ = some (.string V) := by have := p1; simpa [Addr.add] using this
        clear hR hC2 p0 p1
        go_wp2_with fail
        refine (known_calls _).mono ?_
        rintro e w8 ⟨rfl, hb8⟩
        replace hb8 := Aside0.mk (below_then hb4.out hb4.out.size hb8)
        go_wp2_with fail
        go_ret
        exact ⟨rfl, hb8.out⟩
  · have hd : (20 : Int) < (a.size : Int) ∨ ((a.size : Int) ≤ 20 ∧ (20 : Int) < (b.size : Int)) := by omega
    rcases hd with i1 | ⟨i1, i2⟩
    all_goals
      go_enter Try.func6, Try.ntmps6
      go_wp2_with fail
      refine (known_calls _).mono ?_
      rintro e w4 ⟨rfl, hb4⟩
      replace hb4 := Aside0.mk hb4
      go_wp2_with fail
      go_ret
      exact ⟨rfl, hb4.out⟩
end Go.Proofs.Ythbjgcmbbdlfkaa
