/- BitsKnown, walked: the chapter's examples come out as they stand, one call after the other. -/
import Derived.Test.YtoljlbfjjemldaaDoorAwake
namespace Go.Proofs.YtoljlbfjjemldaaDoor
open Go.RowKit Go.Proofs.YtoljlbfjjemldaaDoorW.PrintWords Go.Proofs.YtoljlbfjjemldaaDoorW.PrintLast Go.Proofs.YtoljlbfjjemldaaDoorW.PrintMore
open Go.Proofs.YtoljlbfjjemldaaDoor.PBitsFields

set_option maxHeartbeats 8000000 in
set_option maxRecDepth 100000 in
theorem bitsKnown_walk (w : World) (hG : Glob w) : Calls Tryd.prog 8 #[] w fun e w' => e = .returned (.bool true) ∧ Below w.heap.size w w' := by
  have hB0 := Below.refl w.heap.size w
  have hG0 := hG
  go_enter Tryd.func8, Tryd.ntmps8
  go_wp2_with (fail)
  go_at_call 20
  refine (bits_Put.calls (0) (4) (4) (31) (240) _ (by kernel_rfl)).mono ?_
  rintro e w1 ⟨rfl, hd⟩
  have hb := hd
  have hG1 := hG0.later hb
  have hB1 := hB0.trans (hb.mono hB0.size)
  clear hd hb
  go_wp2_with (fail)
  go_at_call 18
  refine (bits_Get.calls (1) (31) (2) (0) _ (by kernel_rfl)).mono ?_
  rintro e w2 ⟨rfl, hd⟩
  have hb := hd
  have hG2 := hG1.later hb
  have hB2 := hB1.trans (hb.mono hB1.size)
  clear hd hb
  go_wp2_with (fail)
  go_at_call 18
  refine (bits_Get.calls (2147483648) (31) (1) (1) _ (by kernel_rfl)).mono ?_
  rintro e w3 ⟨rfl, hd⟩
  have hb := hd
  have hG3 := hG2.later hb
  have hB3 := hB2.trans (hb.mono hB2.size)
  clear hd hb
  go_wp2_with (fail)
  go_at_call 18
  refine (bits_Get.calls (4294967295) (0) (32) (4294967295) _ (by kernel_rfl)).mono ?_
  rintro e w4 ⟨rfl, hd⟩
  have hb := hd
  have hG4 := hG3.later hb
  have hB4 := hB3.trans (hb.mono hB3.size)
  clear hd hb
  go_wp2_with (fail)
  go_at_call 20
  refine (bits_Put.calls (5) (32) (0) (9) (5) _ (by kernel_rfl)).mono ?_
  rintro e w5 ⟨rfl, hd⟩
  have hb := hd
  have hG5 := hG4.later hb
  have hB5 := hB4.trans (hb.mono hB4.size)
  clear hd hb
  go_wp2_with (fail)
  go_at_call 20
  refine (bits_Put.calls (0) (0) (32) (9) (9) _ (by kernel_rfl)).mono ?_
  rintro e w6 ⟨rfl, hd⟩
  have hb := hd
  have hG6 := hG5.later hb
  have hB6 := hB5.trans (hb.mono hB5.size)
  clear hd hb
  go_wp2_with (fail)
  go_at_call 20
  refine (bits_Put.calls (7) (-1) (2) (0) (7) _ (by kernel_rfl)).mono ?_
  rintro e w7 ⟨rfl, hd⟩
  have hb := hd
  have hG7 := hG6.later hb
  have hB7 := hB6.trans (hb.mono hB6.size)
  clear hd hb
  go_wp2_with (fail)
  go_at_call 18
  refine (bits_Get.calls (7) (0) (-1) (0) _ (by kernel_rfl)).mono ?_
  rintro e w8 ⟨rfl, hd⟩
  have hb := hd
  have hG8 := hG7.later hb
  have hB8 := hB7.trans (hb.mono hB7.size)
  clear hd hb
  go_wp2_with (fail)
  go_at_call 17
  refine (bits_Sext.calls 3 (127) (8) (127) _ (by kernel_rfl)).mono ?_
  rintro e w9 ⟨rfl, hd⟩
  have hb := hd
  have hG9 := hG8.later hb
  have hB9 := hB8.trans (hb.mono hB8.size)
  clear hd hb
  go_wp2_with (fail)
  go_at_call 17
  refine (bits_Sext.calls 3 (5) (0) (0) _ (by kernel_rfl)).mono ?_
  rintro e w10 ⟨rfl, hd⟩
  have hb := hd
  have hG10 := hG9.later hb
  have hB10 := hB9.trans (hb.mono hB9.size)
  clear hd hb
  go_wp2_with (fail)
  go_at_call 17
  refine (bits_Sext.calls 3 (2147483648) (32) (-2147483648) _ (by kernel_rfl)).mono ?_
  rintro e w11 ⟨rfl, hd⟩
  have hb := hd
  have hG11 := hG10.later hb
  have hB11 := hB10.trans (hb.mono hB10.size)
  clear hd hb
  go_wp2_with (fail)
  go_at_call 17
  refine (bits_Sext.calls 3 (1) (1) (-1) _ (by kernel_rfl)).mono ?_
  rintro e w12 ⟨rfl, hd⟩
  have hb := hd
  have hG12 := hG11.later hb
  have hB12 := hB11.trans (hb.mono hB11.size)
  clear hd hb
  go_wp2_with (fail)
  go_at_call 17
  refine (bits_Sext.calls 3 (1) (33) (0) _ (by kernel_rfl)).mono ?_
  rintro e w13 ⟨rfl, hd⟩
  have hb := hd
  have hG13 := hG12.later hb
  have hB13 := hB12.trans (hb.mono hB12.size)
  clear hd hb
  go_wp2_with (fail)
  go_at_call 16
  refine (bits_Fits.calls 3 (128) (8) (0) true false _ (by kernel_rfl)).mono ?_
  rintro e w14 ⟨rfl, hd⟩
  have hb := hd.below
  have hG14 := hG13.later hb
  have hB14 := hB13.trans (hb.mono hB13.size)
  clear hd hb
  go_wp2_with (fail)
  go_at_call 16
  refine (bits_Fits.calls 3 (6) (8) (2) false false _ (by kernel_rfl)).mono ?_
  rintro e w15 ⟨rfl, hd⟩
  have hb := hd.below
  have hG15 := hG14.later hb
  have hB15 := hB14.trans (hb.mono hB14.size)
  clear hd hb
  go_wp2_with (fail)
  go_at_call 16
  refine (bits_Fits.calls 3 (1020) (8) (2) false true _ (by kernel_rfl)).mono ?_
  rintro e w16 ⟨rfl, hd⟩
  have hb := hd.below
  have hG16 := hG15.later hb
  have hB16 := hB15.trans (hb.mono hB15.size)
  clear hd hb
  go_wp2_with (fail)
  go_at_call 16
  refine (bits_Fits.calls 3 (1024) (8) (2) false false _ (by kernel_rfl)).mono ?_
  rintro e w17 ⟨rfl, hd⟩
  have hb := hd.below
  have hG17 := hG16.later hb
  have hB17 := hB16.trans (hb.mono hB16.size)
  clear hd hb
  go_wp2_with (fail)
  go_at_call 16
  refine (bits_Fits.calls 3 (4294967295) (32) (0) false true _ (by kernel_rfl)).mono ?_
  rintro e w18 ⟨rfl, hd⟩
  have hb := hd.below
  have hG18 := hG17.later hb
  have hB18 := hB17.trans (hb.mono hB17.size)
  clear hd hb
  go_wp2_with (fail)
  go_at_call 16
  refine (bits_Fits.calls 3 (0) (0) (0) false false _ (by kernel_rfl)).mono ?_
  rintro e w19 ⟨rfl, hd⟩
  have hb := hd.below
  have hG19 := hG18.later hb
  have hB19 := hB18.trans (hb.mono hB18.size)
  clear hd hb
  go_wp2_with (fail)
  go_at_call 16
  refine (bits_Fits.calls 3 (0) (8) (9) false false _ (by kernel_rfl)).mono ?_
  rintro e w20 ⟨rfl, hd⟩
  have hb := hd.below
  have hG20 := hG19.later hb
  have hB20 := hB19.trans (hb.mono hB19.size)
  clear hd hb
  go_wp2_with (fail)
  go_at_call 19
  refine (fromThirty_calls 1 3 1 1 49153 _ hG20 (by kernel_rfl) (by kernel_rfl) (by kernel_rfl)).mono ?_
  rintro e w21 ⟨rfl, hb⟩
  have hG21 := hG20.later hb
  have hB21 := hB20.trans (hb.mono hB20.size)
  clear hb
  go_wp2_with (fail)
  go_at_call 15
  refine (awake_calls _ hG21).mono ?_
  rintro e w' ⟨rfl, hb⟩
  go_wp2
  go_ret
  exact ⟨rfl, hB21.trans (hb.mono hB21.size)⟩
end Go.Proofs.YtoljlbfjjemldaaDoor
