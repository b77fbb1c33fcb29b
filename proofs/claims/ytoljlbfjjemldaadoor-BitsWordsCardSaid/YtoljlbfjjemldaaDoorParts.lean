/- The contracts of bits.Parts, Thirty and FromThirty: what they give. -/
import Derived.Test.YtoljlbfjjemldaaDoorGlob
namespace Go.Proofs.YtoljlbfjjemldaaDoor
open Go.RowKit Go.Proofs.YtoljlbfjjemldaaDoorW.PrintWords Go.Proofs.YtoljlbfjjemldaaDoorW.PrintLast Go.Proofs.YtoljlbfjjemldaaDoorW.PrintMore
open Go.Proofs.YtoljlbfjjemldaaDoor.PBitsFields

set_option maxHeartbeats 4000000 in
theorem thirty_calls (x r1 r2 : Int) (w : World) (hG : Glob w)
    (h1 : bits_field_get.f 0 14 x = some r1)
    (h2 : bits_field_get.f 16 16 x = some r2) :
    Calls Tryd.prog 12 #[.int .u32 x] w fun e w' => e = .returned (.int .u32 (bits .or .u32 r1 (IntKind.u32.wrap (r2 * 16384)))) ∧ Below w.heap.size w w' := by
  have hu39 := Tryd.underlying39
  have H1 := Lib.hid h1
  have H2 := Lib.hid h2
  clear h1 h2
  go_enter Tryd.func12, Tryd.ntmps12
  go_wp2_with (fail)
  go_region_held3 (fun W => W.cell? ⟨0, 0, none⟩ = some (.int .i64 0) ∧ W.cell? ⟨0, 1, none⟩ = some (.int .i64 14) ∧ W.cell? ⟨3, 0, none⟩ = some (.int .i64 16) ∧ W.cell? ⟨3, 1, none⟩ = some (.int .i64 16) ∧ Glob W ∧ Below w.heap.size w W) (first | exact ⟨hG.drew.e0, hG.drew.e1, hG.drew.u0, hG.drew.u1, hG.drew, (Below.refl _ _).drew⟩ | exact ⟨hGn.e0, hGn.e1, hGn.u0, hGn.u1, hGn, hbn⟩) (first | (go_at_call 24; obtain ⟨_, _, _, _, hGs, hBs⟩ : _ ∧ _ ∧ _ ∧ _ ∧ Glob _ ∧ Below w.heap.size w _ := (by assumption); (with_reducible refine (bits_field_get.calls 0 14 x r1 _ H1.out).mono ?_); rintro e wn ⟨rfl, hn⟩; have hGn := hGs.later hn; have hbn := hBs.trans (hn.mono hBs.size); clear hn hGs hBs) | (go_at_call 24; obtain ⟨_, _, _, _, hGs, hBs⟩ : _ ∧ _ ∧ _ ∧ _ ∧ Glob _ ∧ Below w.heap.size w _ := (by assumption); (with_reducible refine (bits_field_get.calls 16 16 x r2 _ H2.out).mono ?_); rintro e wn ⟨rfl, hn⟩; have hGn := hGs.later hn; have hbn := hBs.trans (hn.mono hBs.size); clear hn hGs hBs))
  go_wp2
  go_ret
  exact ⟨rfl, hbn⟩

set_option maxHeartbeats 4000000 in
theorem parts_calls (x r1 r2 r3 r4 : Int) (w : World) (hG : Glob w)
    (h1 : bits_field_get.f 0 14 x = some r1)
    (h2 : bits_field_get.f 16 10 x = some r2)
    (h3 : bits_field_get.f 26 6 x = some r3)
    (h4 : bits_field_get.f 14 2 x = some r4) :
    Calls Tryd.prog 9 #[.int .u32 x] w fun e w' => e = .returned (.tuple #[.int .u8 (r3 % 256), .int .u32 (bits .or .u32 r1 (IntKind.u32.wrap (r2 * 16384))), .int .u8 (r4 % 256)]) ∧ Below w.heap.size w w' := by
  have hu39 := Tryd.underlying39
  have H1 := Lib.hid h1
  have H2 := Lib.hid h2
  have H3 := Lib.hid h3
  have H4 := Lib.hid h4
  clear h1 h2 h3 h4
  go_enter Tryd.func9, Tryd.ntmps9
  go_wp2_with (fail)
  go_region_held3 (fun W => W.cell? ⟨0, 0, none⟩ = some (.int .i64 0) ∧ W.cell? ⟨0, 1, none⟩ = some (.int .i64 14) ∧ W.cell? ⟨0, 2, none⟩ = some (.int .i64 16) ∧ W.cell? ⟨0, 3, none⟩ = some (.int .i64 10) ∧ Glob W ∧ Below w.heap.size w W) (first | exact ⟨hG.drew.e0, hG.drew.e1, hG.drew.e2, hG.drew.e3, hG.drew, (Below.refl _ _).drew⟩ | exact ⟨hGn.e0, hGn.e1, hGn.e2, hGn.e3, hGn, hbn⟩) (first | (go_at_call 24; obtain ⟨_, _, _, _, hGs, hBs⟩ : _ ∧ _ ∧ _ ∧ _ ∧ Glob _ ∧ Below w.heap.size w _ := (by assumption); (with_reducible refine (bits_field_get.calls 0 14 x r1 _ H1.out).mono ?_); rintro e wn ⟨rfl, hn⟩; have hGn := hGs.later hn; have hbn := hBs.trans (hn.mono hBs.size); clear hn hGs hBs) | (go_at_call 24; obtain ⟨_, _, _, _, hGs, hBs⟩ : _ ∧ _ ∧ _ ∧ _ ∧ Glob _ ∧ Below w.heap.size w _ := (by assumption); (with_reducible refine (bits_field_get.calls 16 10 x r2 _ H2.out).mono ?_); rintro e wn ⟨rfl, hn⟩; have hGn := hGs.later hn; have hbn := hBs.trans (hn.mono hBs.size); clear hn hGs hBs))
  obtain ⟨hGm, hbm⟩ : Glob _ ∧ Below w.heap.size w _ := ⟨hGn, hbn⟩
  clear hGn hbn
  go_wp2_with (fail)
  go_region_held3 (fun W => W.cell? ⟨1, 0, none⟩ = some (.int .i64 26) ∧ W.cell? ⟨1, 1, none⟩ = some (.int .i64 6) ∧ W.cell? ⟨2, 0, none⟩ = some (.int .i64 14) ∧ W.cell? ⟨2, 1, none⟩ = some (.int .i64 2) ∧ Glob W ∧ Below w.heap.size w W) (first | exact ⟨hGm.drew.c0, hGm.drew.c1, hGm.drew.p0, hGm.drew.p1, hGm.drew, hbm.drew⟩ | exact ⟨hGn.c0, hGn.c1, hGn.p0, hGn.p1, hGn, hbn⟩) (first | (go_at_call 24; obtain ⟨_, _, _, _, hGs, hBs⟩ : _ ∧ _ ∧ _ ∧ _ ∧ Glob _ ∧ Below w.heap.size w _ := (by assumption); (with_reducible refine (bits_field_get.calls 26 6 x r3 _ H3.out).mono ?_); rintro e wn ⟨rfl, hn⟩; have hGn := hGs.later hn; have hbn := hBs.trans (hn.mono hBs.size); clear hn hGs hBs) | (go_at_call 24; obtain ⟨_, _, _, _, hGs, hBs⟩ : _ ∧ _ ∧ _ ∧ _ ∧ Glob _ ∧ Below w.heap.size w _ := (by assumption); (with_reducible refine (bits_field_get.calls 14 2 x r4 _ H4.out).mono ?_); rintro e wn ⟨rfl, hn⟩; have hGn := hGs.later hn; have hbn := hBs.trans (hn.mono hBs.size); clear hn hGs hBs))
  go_wp2
  go_ret3
  exact ⟨rfl, hbn⟩

set_option maxHeartbeats 4000000 in
theorem fromThirty_calls (v q r1 r2 r3 : Int) (w : World) (hG : Glob w)
    (h1 : bits_field_put.f 0 14 0 v = some r1)
    (h2 : bits_field_put.f 16 16 r1 (v / 16384) = some r2)
    (h3 : bits_field_put.f 14 2 r2 (q % 4294967296) = some r3) :
    Calls Tryd.prog 19 #[.int .u32 v, .int .u8 q] w fun e w' => e = .returned (.int .u32 r3) ∧ Below w.heap.size w w' := by
  have hu39 := Tryd.underlying39
  have e0 := hG.e0
  have e1 := hG.e1
  have H1 := Lib.hid h1
  have H2 := Lib.hid h2
  have H3 := Lib.hid h3
  clear h1 h2 h3
  go_enter Tryd.func19, Tryd.ntmps19
  go_wp2_with (fail)
  go_at_call 25
  refine (bits_field_put.calls 0 14 0 v r1 _ H1.out).mono ?_
  rintro e w1 ⟨rfl, hb1⟩
  have hG1 := hG.later hb1
  go_wp2_with (fail)
  go_region_held3 (fun W => W.cell? ⟨0, 0, none⟩ = some (.int .i64 0) ∧ W.cell? ⟨0, 1, none⟩ = some (.int .i64 14) ∧ W.cell? ⟨3, 0, none⟩ = some (.int .i64 16) ∧ W.cell? ⟨3, 1, none⟩ = some (.int .i64 16) ∧ Glob W ∧ Below w.heap.size w W) (first | exact ⟨hG1.drew.e0, hG1.drew.e1, hG1.drew.u0, hG1.drew.u1, hG1.drew, hb1.drew⟩ | exact ⟨hGn.e0, hGn.e1, hGn.u0, hGn.u1, hGn, hbn⟩) (first | (go_at_call 25; obtain ⟨_, _, _, _, hGs, hBs⟩ : _ ∧ _ ∧ _ ∧ _ ∧ Glob _ ∧ Below w.heap.size w _ := (by assumption); (with_reducible refine (bits_field_put.calls 16 16 r1 (v / 16384) r2 _ H2.out).mono ?_); rintro e wn ⟨rfl, hn⟩; have hGn := hGs.later hn; have hbn := hBs.trans (hn.mono hBs.size); clear hn hGs hBs))
  have p0 := hGn.p0
  have p1 := hGn.p1
  go_wp2_with (fail)
  go_at_call 25
  refine (bits_field_put.calls 14 2 r2 (q % 4294967296) r3 _ H3.out).mono ?_
  rintro e w4 ⟨rfl, hb4⟩
  go_wp2
  go_ret
  exact ⟨rfl, hbn.trans (hb4.mono hbn.size)⟩
end Go.Proofs.YtoljlbfjjemldaaDoor
