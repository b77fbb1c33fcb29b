/- BitsFields, walked: each pair of calls answers alike, so the law answers true. -/
import Derived.Test.YtoljlbfjjemldaaDoorAwake
import Derived.Test.YtoljlbfjjemldaaDoorFitsN
namespace Go.Proofs.YtoljlbfjjemldaaDoor
open Go.RowKit Go.Proofs.YtoljlbfjjemldaaDoorW.PrintWords Go.Proofs.YtoljlbfjjemldaaDoorW.PrintLast Go.Proofs.YtoljlbfjjemldaaDoorW.PrintMore
open Go.Proofs.YtoljlbfjjemldaaDoor.PBitsFields

set_option maxHeartbeats 8000000 in
set_option maxRecDepth 100000 in
theorem fields_walk0 (x v p n z s : Int) (sg : Bool) (g1 g2 g3 : Int) (g4 : Bool) (w : World) (hG : Glob w)
    (h18 : ∀ W, Calls Tryd.prog 18 #[.int .u32 x, .int .i64 p, .int .i64 n] W fun e w' => e = .returned (.int .u32 g1) ∧ Below W.heap.size W w')
    (h14 : ∀ W, Calls Tryd.prog 14 #[.int .u32 x, .int .i64 p, .int .i64 n] W fun e w' => e = .returned (.int .u32 g1) ∧ Below W.heap.size W w')
    (h20 : ∀ W, Calls Tryd.prog 20 #[.int .u32 x, .int .i64 p, .int .i64 n, .int .u32 v] W fun e w' => e = .returned (.int .u32 g2) ∧ Below W.heap.size W w')
    (h21 : ∀ W, Calls Tryd.prog 21 #[.int .u32 x, .int .i64 p, .int .i64 n, .int .u32 v] W fun e w' => e = .returned (.int .u32 g2) ∧ Below W.heap.size W w')
    (h17 : ∀ W, Calls Tryd.prog 17 #[.int .u32 v, .int .i64 n] W fun e w' => e = .returned (.int .i64 g3) ∧ Below W.heap.size W w')
    (h22 : ∀ W, Calls Tryd.prog 22 #[.int .u32 v, .int .i64 n] W fun e w' => e = .returned (.int .i64 g3) ∧ Below W.heap.size W w')
    (h16 : ∀ W, Calls Tryd.prog 16 #[.int .i64 z, .int .i64 n, .int .i64 s, .bool sg] W fun e w' => e = .returned (.bool g4) ∧ Below W.heap.size W w')
    (h23 : ∀ W, Calls Tryd.prog 23 #[.int .i64 z, .int .i64 n, .int .i64 s, .bool sg] W fun e w' => e = .returned (.bool g4) ∧ Below W.heap.size W w')
    : Calls Tryd.prog 6 #[.int .u32 x, .int .u32 v, .int .i64 p, .int .i64 n, .int .i64 z, .int .i64 s, .bool sg] w fun e w' => e = .returned (.bool true) ∧ Below w.heap.size w w' := by
  have h18' := Lib.hid h18
  clear h18
  have h14' := Lib.hid h14
  clear h14
  have h20' := Lib.hid h20
  clear h20
  have h21' := Lib.hid h21
  clear h21
  have h17' := Lib.hid h17
  clear h17
  have h22' := Lib.hid h22
  clear h22
  have h16' := Lib.hid h16
  clear h16
  have h23' := Lib.hid h23
  clear h23
  go_enter Tryd.func6, Tryd.ntmps6
  have hB0 := Below.refl w.heap.size w
  have hG0 := hG
  go_wp2_with (fail)
  go_at_call 18
  refine (h18'.out _).mono ?_
  rintro e w1 ⟨rfl, hd⟩
  have hb := hd
  have hG1 := hG0.later hb
  have hB1 := hB0.trans (hb.mono hB0.size)
  clear hd hb
  go_wp2_with (fail)
  go_at_call 14
  refine (h14'.out _).mono ?_
  rintro e w2 ⟨rfl, hd⟩
  have hb := hd
  have hG2 := hG1.later hb
  have hB2 := hB1.trans (hb.mono hB1.size)
  clear hd hb
  go_wp2_with (fail)
  go_at_call 20
  refine (h20'.out _).mono ?_
  rintro e w3 ⟨rfl, hd⟩
  have hb := hd
  have hG3 := hG2.later hb
  have hB3 := hB2.trans (hb.mono hB2.size)
  clear hd hb
  go_wp2_with (fail)
  go_at_call 21
  refine (h21'.out _).mono ?_
  rintro e w4 ⟨rfl, hd⟩
  have hb := hd
  have hG4 := hG3.later hb
  have hB4 := hB3.trans (hb.mono hB3.size)
  clear hd hb
  go_wp2_with (fail)
  go_at_call 17
  refine (h17'.out _).mono ?_
  rintro e w5 ⟨rfl, hd⟩
  have hb := hd
  have hG5 := hG4.later hb
  have hB5 := hB4.trans (hb.mono hB4.size)
  clear hd hb
  go_wp2_with (fail)
  go_at_call 22
  refine (h22'.out _).mono ?_
  rintro e w6 ⟨rfl, hd⟩
  have hb := hd
  have hG6 := hG5.later hb
  have hB6 := hB5.trans (hb.mono hB5.size)
  clear hd hb
  go_wp2_with (fail)
  go_at_call 16
  refine (h16'.out _).mono ?_
  rintro e w7 ⟨rfl, hd⟩
  have hb := hd
  have hG7 := hG6.later hb
  have hB7 := hB6.trans (hb.mono hB6.size)
  clear hd hb
  go_wp2_with (fail)
  go_at_call 23
  refine (h23'.out _).mono ?_
  rintro e w8 ⟨rfl, hd⟩
  have hb := hd
  have hG8 := hG7.later hb
  have hB8 := hB7.trans (hb.mono hB7.size)
  clear hd hb
  go_wp2_with (fail)
  go_at_call 15
  refine (awake_calls _ hG8).mono ?_
  rintro e w9 ⟨rfl, hd⟩
  have hb := hd
  have hG9 := hG8.later hb
  have hB9 := hB8.trans (hb.mono hB8.size)
  clear hd hb
  go_wp2
  go_ret
  exact ⟨rfl, hB9⟩

theorem bitsFields_walk (x v p n z s : Int) (sg : Bool) (hx : (Lit.int .u32 x).wf = true) (hv : (Lit.int .u32 v).wf = true) (_hp : (Lit.int .i64 p).wf = true) (_hn : (Lit.int .i64 n).wf = true) (hz : (Lit.int .i64 z).wf = true) (_hs : (Lit.int .i64 s).wf = true) (w : World) (hG : Glob w) :
    Calls Tryd.prog 6 #[.int .u32 x, .int .u32 v, .int .i64 p, .int .i64 n, .int .i64 z, .int .i64 s, .bool sg] w fun e w' => e = .returned (.bool true) ∧ Below w.heap.size w w' := by
  obtain ⟨x0, x1⟩ := bounds_u32 hx
  obtain ⟨v0, v1⟩ := bounds_u32 hv
  obtain ⟨z0, z1⟩ := bounds_i64 hz
  obtain ⟨x, rfl⟩ := Int.eq_ofNat_of_zero_le x0
  obtain ⟨v, rfl⟩ := Int.eq_ofNat_of_zero_le v0
  have hx' : x < 4294967296 := by omega
  have hv' : v < 4294967296 := by omega
  obtain ⟨k1, e1⟩ := rSext_ok v n hv'
  obtain ⟨k2, e2⟩ := rFits_ok z n s sg (by omega) (by omega)
  exact fields_walk0 x v p n z s sg (getV x p n) (putV x p n v) (sextV v n) (fitsV z n s sg) w hG
    (fun W => bits_Get.calls _ _ _ _ W (Get_ok x p n hx'))
    (fun W => (coxlessref01_Get.calls 100 _ _ _ _ W (rGet_ok x p n hx')).mono fun _ _ h => ⟨h.1, h.2.below⟩)
    (fun W => bits_Put.calls _ _ _ _ _ W (Put_ok x v p n hx' hv'))
    (fun W => (coxlessref01_Put.calls 100 _ _ _ _ _ W (rPut_ok x v p n hx' hv')).mono fun _ _ h => ⟨h.1, h.2.below⟩)
    (fun W => bits_Sext.calls 1 _ _ _ W (Sext_ok 1 v n (by omega) hv'))
    (fun W => (coxlessref01_Sext.calls k1 _ _ _ W e1).mono fun _ _ h => ⟨h.1, h.2.below⟩)
    (fun W => (bits_Fits.calls 1 _ _ _ _ _ W (Fits_ok 1 z n s sg (by omega) (by omega) (by omega))).mono fun _ _ h => ⟨h.1, h.2.below⟩)
    (fun W => (coxlessref01_Fits.calls k2 _ _ _ _ _ W e2).mono fun _ _ h => ⟨h.1, h.2.below⟩)
end Go.Proofs.YtoljlbfjjemldaaDoor
