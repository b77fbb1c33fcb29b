/- The contracts of bits.Word, Parts, Thirty: what they give. -/
import Derived.Test.YtoljlbfjjemldaaDoorGlob
namespace Go.Proofs.YtoljlbfjjemldaaDoor
open Go.RowKit Go.Proofs.YtoljlbfjjemldaaDoorW.PrintWords Go.Proofs.YtoljlbfjjemldaaDoorW.PrintLast Go.Proofs.YtoljlbfjjemldaaDoorW.PrintMore
open Go.Proofs.YtoljlbfjjemldaaDoor.PBitsFields

set_option maxHeartbeats 4000000 in
theorem word_calls (c p q r1 r2 r3 r4 : Int) (w : World) (hG : Glob w)
    (h1 : bits_field_put.f 26 6 0 (c % 4294967296) = some r1)
    (h2 : bits_field_put.f 0 14 r1 p = some r2)
    (h3 : bits_field_put.f 16 10 r2 (p / 16384) = some r3)
    (h4 : bits_field_put.f 14 2 r3 (q % 4294967296) = some r4) :
    Calls Tryd.prog 10 #[.int .u8 c, .int .u32 p, .int .u8 q] w fun e w' => e = .returned (.int .u32 r4) ∧ Below w.heap.size w w' := by
  have hu39 := Tryd.underlying39
  have e0 := hG.e0
  have e1 := hG.e1
  have e2 := hG.e2
  have e3 := hG.e3
  have c0 := hG.c0
  have c1 := hG.c1
  have H1 := Lib.hid h1
  have H2 := Lib.hid h2
  have H3 := Lib.hid h3
  have H4 := Lib.hid h4
  clear h1 h2 h3 h4
  go_enter Tryd.func10, Tryd.ntmps10
  go_wp2_with (fail)
  go_at_call 25
  refine (bits_field_put.calls 26 6 0 (c % 4294967296) r1 _ H1.out).mono ?_
  rintro e w1 ⟨rfl, hb1⟩
  have hG1 := hG.later hb1
  have e0 := hG1.e0
  have e1 := hG1.e1
  go_wp2_with (fail)
  go_at_call 25
  refine (bits_field_put.calls 0 14 r1 p r2 _ H2.out).mono ?_
  rintro e w2 ⟨rfl, hb2⟩
  have hG2 := hG1.later hb2
  have e1 := hG2.e1
  have e2 := hG2.e2
  have e3 := hG2.e3
  go_wp2_with (fail)
  go_region_held3 (fun W => W.cell? ⟨0, 1, none⟩ = some (.int .i64 14) ∧ W.cell? ⟨0, 2, none⟩ = some (.int .i64 16) ∧ W.cell? ⟨0, 3, none⟩ = some (.int .i64 10) ∧ Glob W ∧ Below w.heap.size w W) (first | exact ⟨e1, e2, e3, hG2.drew, (hb1.trans (hb2.mono hb1.size)).drew⟩ | exact ⟨hG3.e1, hG3.e2, hG3.e3, hG3, hbS⟩) (first | (go_at_call 25; refine (bits_field_put.calls 16 10 r2 (p / 16384) r3 _ H3.out).mono ?_; rintro e w3 ⟨rfl, hb3⟩; obtain ⟨_, _, _, hGs, hBs⟩ : _ ∧ _ ∧ _ ∧ Glob _ ∧ Below w.heap.size w _ := (by assumption); have hG3 := hGs.later hb3; have hbS := hBs.trans (hb3.mono hBs.size)))
  have hG3' : Glob _ := hG3
  have p0 := hG3'.p0
  have p1 := hG3'.p1
  go_wp2_with (fail)
  go_at_call 25
  refine (bits_field_put.calls 14 2 r3 (q % 4294967296) r4 _ H4.out).mono ?_
  rintro e w4 ⟨rfl, hb4⟩
  go_wp2
  go_ret
  exact ⟨rfl, hbS.trans (hb4.mono hbS.size)⟩
end Go.Proofs.YtoljlbfjjemldaaDoor
