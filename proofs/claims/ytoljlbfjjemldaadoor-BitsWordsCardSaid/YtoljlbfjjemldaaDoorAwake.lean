/- The awake of the bits statements answers true. -/
import Derived.Test.YtoljlbfjjemldaaDoorWord
import Derived.Test.YtoljlbfjjemldaaDoorParts
import Derived.KernelRfl
namespace Go.Proofs.YtoljlbfjjemldaaDoor
open Go.RowKit Go.Proofs.YtoljlbfjjemldaaDoorW.PrintWords Go.Proofs.YtoljlbfjjemldaaDoorW.PrintLast Go.Proofs.YtoljlbfjjemldaaDoorW.PrintMore
open Go.Proofs.YtoljlbfjjemldaaDoor.PBitsFields

theorem aw_parts (w : World) (hG : Glob w) : Calls Tryd.prog 9 #[.int .u32 134201343] w fun e w' => e = .returned (.tuple #[.int .u8 1, .int .u32 16777215, .int .u8 2]) ∧ Below w.heap.size w w' :=
  parts_calls 134201343 16383 1023 1 2 w hG (by kernel_rfl) (by kernel_rfl) (by kernel_rfl) (by kernel_rfl)
theorem aw_get (w : World) : Calls Tryd.prog 18 #[.int .u32 240, .int .i64 4, .int .i64 8] w fun e w' => e = .returned (.int .u32 15) ∧ Below w.heap.size w w' :=
  bits_Get.calls 240 4 8 15 w (by kernel_rfl)
theorem aw_sext (w : World) : Calls Tryd.prog 17 #[.int .u32 255, .int .i64 8] w fun e w' => e = .returned (.int .i64 (-1)) ∧ Below w.heap.size w w' :=
  bits_Sext.calls 3 255 8 (-1) w (by kernel_rfl)
theorem aw_fits (w : World) : Calls Tryd.prog 16 #[.int .i64 (-128), .int .i64 8, .int .i64 0, .bool true] w fun e w' => e = .returned (.bool true) ∧ Drawn0 w w' :=
  bits_Fits.calls 3 (-128) 8 0 true true w (by kernel_rfl)
theorem aw_word (w : World) (hG : Glob w) : Calls Tryd.prog 10 #[.int .u8 1, .int .u32 16777215, .int .u8 2] w fun e w' => e = .returned (.int .u32 134201343) ∧ Below w.heap.size w w' :=
  word_calls 1 16777215 2 67108864 67125247 134168575 134201343 w hG (by kernel_rfl) (by kernel_rfl) (by kernel_rfl) (by kernel_rfl)
theorem aw_thirty (w : World) (hG : Glob w) : Calls Tryd.prog 12 #[.int .u32 4294918143] w fun e w' => e = .returned (.int .u32 1073741823) ∧ Below w.heap.size w w' :=
  thirty_calls 4294918143 16383 65535 w hG (by kernel_rfl) (by kernel_rfl)

set_option maxHeartbeats 4000000 in
theorem awake_calls (w : World) (hG : Glob w) : Calls Tryd.prog 15 #[] w fun e w' => e = .returned (.bool true) ∧ Below w.heap.size w w' := by
  go_enter Tryd.func15, Tryd.ntmps15
  go_wp2_with (fail)
  go_at_call 9
  refine (aw_parts _ hG).mono ?_
  rintro e w1 ⟨rfl, hb1⟩
  have hG1 := hG.later hb1
  go_wp2_with (fail)
  go_at_call 18
  refine (aw_get _).mono ?_
  rintro e w2 ⟨rfl, hb2⟩
  have hG2 := hG1.later hb2
  have hB2 := hb1.trans (hb2.mono hb1.size)
  go_wp2_with (fail)
  go_at_call 17
  refine (aw_sext _).mono ?_
  rintro e w3 ⟨rfl, hb3⟩
  have hG3 := hG2.later hb3
  have hB3 := hB2.trans (hb3.mono hB2.size)
  go_wp2_with (fail)
  go_at_call 16
  refine (aw_fits _).mono ?_
  rintro e w4 ⟨rfl, hd4⟩
  have hb4 := hd4.below
  have hG4 := hG3.later hb4
  have hB4 := hB3.trans (hb4.mono hB3.size)
  go_wp2_with (fail)
  go_at_call 10
  refine (aw_word _ hG4).mono ?_
  rintro e w5 ⟨rfl, hb5⟩
  have hG5 := hG4.later hb5
  have hB5 := hB4.trans (hb5.mono hB4.size)
  go_wp2_with (fail)
  go_at_call 12
  refine (aw_thirty _ hG5).mono ?_
  rintro e w6 ⟨rfl, hb6⟩
  go_wp2
  go_ret
  exact ⟨rfl, hB5.trans (hb6.mono hB5.size)⟩
end Go.Proofs.YtoljlbfjjemldaaDoor
