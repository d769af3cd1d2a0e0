/- known. -/
import Derived.Test.YthbjgcmbbdlfkaaCo
set_option linter.unusedVariables false
set_option linter.unusedSimpArgs false
namespace Go.Proofs.Ythbjgcmbbdlfkaa
open Go.RowKit Go.Shelf Go.Proofs.YthbjgcmbbdlfkaaW.PrintWords Go.Proofs.YthbjgcmbbdlfkaaW.PrintMore Go.Proofs.YthbjgcmbbdlfkaaW.PrintLast

def knownS : ByteArray := ⟨#[67, 78, 61, 65, 110, 110, 92, 44, 32, 66, 44, 111, 117, 61, 112, 101, 111, 112, 108, 101]⟩
def knownD : List Rdn := [⟨⟨#[99, 110]⟩, ⟨#[65, 110, 110, 44, 32, 66]⟩⟩, ⟨⟨#[111, 117]⟩, ⟨#[112, 101, 111, 112, 108, 101]⟩⟩]
def knownT : ByteArray := ⟨#[99, 110, 61, 65, 110, 110, 92, 44, 32, 66, 44, 111, 117, 61, 112, 101, 111, 112, 108, 101]⟩
theorem known_parse : parseAll knownS = some knownD := by kernel_rfl
theorem known_ok : dnOk knownD = true := by kernel_rfl
theorem known_text : textF knownD = knownT := by kernel_rfl
theorem known_mild : Mild knownD := ⟨by decide, by decide⟩
set_option maxRecDepth 20000 in
set_option maxHeartbeats 1000000 in
theorem known_calls (w : World) : Calls Try.prog 11 #[] w fun e w' => e = .returned (.bool true) ∧ Below w.heap.size w w' := by
  have hp := Aside0.mk (parse_calls knownS w (by decide))
  go_enter Try.func11, Try.ntmps11
  go_wp2_with fail
  refine hp.out.mono ?_
  rintro e w1 he
  unfold Parsed at he
  rw [known_parse] at he
  obtain ⟨⟨v, rfl, hR⟩, hb⟩ := he
  obtain ⟨A, c, rfl, _, hC⟩ := Kd.R_reads hR
  have ht := Aside0.mk (text_calls A c knownD w1 known_mild hC)
  obtain ⟨ad, e0, p0, p1⟩ := rdn_at hC 0 (by decide)
  have ht' : Texted knownD w1 = fun e w' => e = .returned (.tuple #[.string knownT, .int .i64 0]) ∧ Below w1.heap.size w1 w' := by
    funext e w'
    unfold Texted
    rw [known_ok, if_pos rfl, known_text]
  rw [ht'] at ht
  unfold knownT at ht
  subst e0
  clear hp hR hC ht'
  replace hb := Aside0.mk hb
  go_wp2_with fail
  refine ht.out.mono ?_
  rintro e w2 ⟨rfl, hb2⟩
  replace p0 := pw_cell_below hb2 p0
  replace p1 := pw_cell_below hb2 p1
  replace hb2 := Aside0.mk (below_then hb.out hb.out.size hb2)
  clear ht hb
  have l2 : knownD.length = 2 := rfl
  have p0' : w2.cell? ad = some (.string ⟨#[99, 110]⟩) := by have := p0; simpa [Addr.add, knownD] using this
  have p1' : w2.cell? ⟨ad.block, ad.off + 1, none⟩ = some (.string ⟨#[65, 110, 110, 44, 32, 66]⟩) := by have := p1; simpa [Addr.add, knownD] using this
  clear p0 p1
  go_wp2_with fail
  go_ret
  exact ⟨rfl, hb2.out⟩
end Go.Proofs.Ythbjgcmbbdlfkaa
