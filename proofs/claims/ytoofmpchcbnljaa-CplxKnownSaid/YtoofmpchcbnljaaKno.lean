/- The law CplxKnown, walked: NaN, the infinities, 32768.5 beside the whole numbers. -/
import Derived.Test.YtoofmpchcbnljaaAwk
namespace Go.Proofs.Ytoofmpchcbnljaa
open Go.RowKit Go.Proofs.YtoofmpchcbnljaaW.PrintWords Go.Proofs.YtoofmpchcbnljaaW.PrintLast Go.Proofs.YtoofmpchcbnljaaW.PrintMore
set_option linter.unusedVariables false
set_option linter.unusedSimpArgs false

theorem call22 (n : Int) (w : World) : (callFunc 22 #[.int .u64 n]).run Try.prog w = .ok (.value (.float .f64 n.toNat)) w := by
  rw [run_callFunc_extern (e := Extern.MathFloatBits.float64frombits) Try.func22 (by kernel_rfl) (by kernel_rfl) (by kernel_rfl) (by kernel_rfl)]
  rfl

set_option maxHeartbeats 4000000 in
set_option maxRecDepth 100000 in
theorem part_of (x q f m g : Nat) (r : Int) (ho : Ieee.double.order x x = some Ordering.eq) (hq0 : floatBits .quo .f64 x 4674736413210574848 = some q)
    (hf : ∀ w : World, (callFunc 27 #[.float .f64 q]).run Try.prog w = .ok (.value (.float .f64 f)) w)
    (hm : ∀ w : World, (callFunc 31 #[.float .f64 4674736138332667904, .float .f64 f]).run Try.prog w = .ok (.value (.float .f64 m)) w)
    (hg : ∀ w : World, (callFunc 29 #[.float .f64 13898108450065350656, .float .f64 m]).run Try.prog w = .ok (.value (.float .f64 g)) w)
    (hi : floatToIntVal .f64 g .i16 = some r) (w : World) : Calls Try.prog 21 #[.float .f64 x] w fun e w' => e = .returned (.int .u16 (r % 65536)) ∧ w' = w := by
  have hq : ∀ w : World, (binOp .quo 25 (.float .f64 x) (.float .f64 4674736413210574848)).run Try.prog w = .ok (.float .f64 q) w := fun w => run_float_arith w .quo 25 .f64 _ _ _ hq0
  have hci : ∀ w : World, (convert 25 38 (.float .f64 g)).run Try.prog w = .ok (.int .i16 r) w := fun w => run_convert_float_int w 25 38 .f64 .i16 _ _ (by rw [Try.underlying25]; rfl) Try.underlying38 hi
  have C1 := Lib.hid (nan23 _ ho)
  have C2 := Lib.hid (floor24 _ _ hf)
  have C3 := Lib.hid (min26 _ _ _ hm)
  have C4 := Lib.hid (max25 _ _ _ hg)
  clear ho hf hm hg hi hq0
  go_enter Try.func21, Try.ntmps21
  go_wp2_with (fail)
  go_at_call 23
  refine (C1.out _).mono ?_
  rintro e w1 ⟨rfl, rfl⟩
  go_wp2_with (fail)
  go_at_call 24
  refine (C2.out _).mono ?_
  rintro e w1 ⟨rfl, rfl⟩
  go_wp2_with (fail)
  go_at_call 26
  refine (C3.out _).mono ?_
  rintro e w1 ⟨rfl, rfl⟩
  go_wp2_with (fail)
  go_at_call 25
  refine (C4.out _).mono ?_
  rintro e w1 ⟨rfl, rfl⟩
  go_wp2
  go_ret
  exact ⟨rfl, rfl⟩

set_option maxHeartbeats 4000000 in
set_option maxRecDepth 100000 in
theorem nan23t (x : Nat) (ho : Ieee.double.order x x = none) (w : World) : Calls Try.prog 23 #[.float .f64 x] w fun e w' => e = .returned (.bool true) ∧ w' = w := by
  have ho' : ((FloatKind.f64.format.order x x) != some Ordering.eq) = true := by
    show (Ieee.double.order x x != some Ordering.eq) = true
    rw [ho]; rfl
  go_enter Try.func23, Try.ntmps23
  go_wp2
  go_ret
  exact ⟨rfl, rfl⟩
set_option maxHeartbeats 4000000 in
set_option maxRecDepth 100000 in
theorem part_nan (x : Nat) (ho : Ieee.double.order x x = none) (w : World) : Calls Try.prog 21 #[.float .f64 x] w fun e w' => e = .returned (.int .u16 0) ∧ w' = w := by
  have C1 := Lib.hid (nan23t _ ho)
  clear ho
  go_enter Try.func21, Try.ntmps21
  go_wp2_with (fail)
  go_at_call 23
  refine (C1.out _).mono ?_
  rintro e w1 ⟨rfl, rfl⟩
  go_wp2
  go_ret
  exact ⟨rfl, rfl⟩

set_option maxHeartbeats 4000000 in
set_option maxRecDepth 100000 in
theorem pack_of (x y : Nat) (p q : Int) (hp0 : 0 ≤ p) (hp1 : p < 65536) (hq0 : 0 ≤ q) (hq1 : q < 65536)
    (c1 : ∀ w : World, Calls Try.prog 21 #[.float .f64 x] w fun e w' => e = .returned (.int .u16 p) ∧ w' = w) (c2 : ∀ w : World, Calls Try.prog 21 #[.float .f64 y] w fun e w' => e = .returned (.int .u16 q) ∧ w' = w) (w : World) :
    Calls Try.prog 14 #[.complex .f64 x y] w fun e w' => e = .returned (.int .u32 (p + q * 65536)) ∧ w' = w := by
  have C1 := Lib.hid c1
  have C2 := Lib.hid c2
  have hj := or_join p q hp0 hp1 hq0 hq1
  have hm : q * 65536 % 4294967296 = q * 65536 := by omega
  clear c1 c2
  go_enter Try.func14, Try.ntmps14
  go_wp2_with (fail)
  go_at_call 21
  refine (C1.out _).mono ?_
  rintro e w1 ⟨rfl, rfl⟩
  go_wp2_with (fail)
  go_at_call 21
  refine (C2.out _).mono ?_
  rintro e w1 ⟨rfl, rfl⟩
  go_wp2
  go_ret
  refine ⟨?_, rfl⟩
  first
    | rfl
    | (show Ending.returned (Value.int .u32 (bits .or .u32 p (q * 65536))) = _; rw [hj])
    | (show Ending.returned (Value.int .u32 (bits .or .u32 p (q * 65536 % 4294967296))) = _; rw [hm, hj])

/-! The special parts -/
theorem part_inf (w : World) : Calls Try.prog 21 #[.float .f64 9218868437227405312] w fun e w' => e = .returned (.int .u16 32767) ∧ w' = w :=
  part_of 9218868437227405312 9218868437227405312 9218868437227405312 4674736138332667904 4674736138332667904 32767 (by kernel_rfl) (by kernel_rfl)
    (fun w => by rw [call27]; rfl) (fun w => by rw [call31]; rfl) (fun w => by rw [call29]; rfl) (by kernel_rfl) w
theorem part_ninf (w : World) : Calls Try.prog 21 #[.float .f64 18442240474082181120] w fun e w' => e = .returned (.int .u16 32768) ∧ w' = w := by
  have e : (-32768 : Int) % 65536 = 32768 := by decide
  rw [← e]
  exact part_of 18442240474082181120 18442240474082181120 18442240474082181120 18442240474082181120 13898108450065350656 (-32768) (by kernel_rfl) (by kernel_rfl)
    (fun w => by rw [call27]; rfl) (fun w => by rw [call31]; rfl) (fun w => by rw [call29]; rfl) (by kernel_rfl) w
theorem part_half (w : World) : Calls Try.prog 21 #[.float .f64 4674736481930051584] w fun e w' => e = .returned (.int .u16 1) ∧ w' = w :=
  part_of 4674736481930051584 (E false 65537 (-16)) 4607182418800017408 4607182418800017408 4607182418800017408 1 (by kernel_rfl) (by kernel_rfl)
    (fun w => by rw [call27]; rfl) (fun w => by rw [call31]; rfl) (fun w => by rw [call29]; rfl) (by kernel_rfl) w

theorem mul_known (a b r : Int) (ha0 : 0 ≤ a) (ha1 : a < 4294967296) (hb0 : 0 ≤ b) (hb1 : b < 4294967296)
    (h : pk (s16 a * s16 b - s16 (a / 65536) * s16 (b / 65536)) (s16 a * s16 (b / 65536) + s16 (a / 65536) * s16 b) = r) (w : World) :
    Calls Try.prog 10 #[.int .u32 a, .int .u32 b] w fun e w' => e = .returned (.int .u32 r) ∧ w' = w := by
  have := mul10 a b ha0 ha1 hb0 hb1 w
  rw [h] at this
  exact this
set_option maxHeartbeats 4000000 in
set_option maxRecDepth 100000 in
theorem inf16 (w : World) : Calls Try.prog 16 #[.int .i64 1] w fun e w' => e = .returned (.float .f64 9218868437227405312) ∧ w' = w := by
  have h : ∀ w : World, (callFunc 22 #[.int .u64 9218868437227405312]).run Try.prog w = .ok (.value (.float .f64 9218868437227405312)) w := fun w => call22 _ w
  go_enter Try.func16, Try.ntmps16
  go_wp2
  go_ret
  exact ⟨rfl, rfl⟩
set_option maxHeartbeats 4000000 in
set_option maxRecDepth 100000 in
theorem nan17 (w : World) : Calls Try.prog 17 #[] w fun e w' => e = .returned (.float .f64 9221120237041090561) ∧ w' = w := by
  have h : ∀ w : World, (callFunc 22 #[.int .u64 9221120237041090561]).run Try.prog w = .ok (.value (.float .f64 9221120237041090561)) w := fun w => call22 _ w
  go_enter Try.func17, Try.ntmps17
  go_wp2
  go_ret
  exact ⟨rfl, rfl⟩
theorem part_nan1 (w : World) : Calls Try.prog 21 #[.float .f64 9221120237041090561] w fun e w' => e = .returned (.int .u16 0) ∧ w' = w := part_nan _ (by kernel_rfl) w
theorem part_val (x : Nat) (s : Bool) (c : Nat) (r : Int) (hx : E s c 0 = x) (h : c < 9007199254740992) (hr : dn (sv s c) % 65536 = r) (w : World) : Calls Try.prog 21 #[.float .f64 x] w fun e w' => e = .returned (.int .u16 r) ∧ w' = w := by
  have := part_calls s c h w
  rw [hx, hr] at this
  exact this

set_option maxHeartbeats 8000000 in
set_option maxRecDepth 100000 in
theorem cplxKnown_walk (w : World) : Calls Try.prog 5 #[] w fun e w' => e = .returned (.bool true) ∧ Below w.heap.size w w' := by
  have I := Lib.hid inf16
  have NN := Lib.hid nan17
  have A1 := Lib.hid (mul_known 16384 16384 8192 (by decide) (by decide) (by decide) (by decide) (by kernel_rfl))
  have A2 := Lib.hid (mul_known 2147516416 2147516416 2147418112 (by decide) (by decide) (by decide) (by decide) (by kernel_rfl))
  have A3 := Lib.hid (mul_known 0 305419896 0 (by decide) (by decide) (by decide) (by decide) (by kernel_rfl))
  have A4 := Lib.hid (mul_known 65535 65535 0 (by decide) (by decide) (by decide) (by decide) (by kernel_rfl))
  have A5 := Lib.hid (mul_known 65535 1 65535 (by decide) (by decide) (by decide) (by decide) (by kernel_rfl))
  have B1 := Lib.hid (show ∀ w : World, Calls Try.prog 14 #[.complex .f64 9221120237041090561 9218868437227405312] w fun e w' => e = .returned (.int .u32 2147418112) ∧ w' = w from pack_of _ _ 0 32767 (by decide) (by decide) (by decide) (by decide) part_nan1 part_inf)
  have B2 := Lib.hid (show ∀ w : World, Calls Try.prog 14 #[.complex .f64 18442240474082181120 9221120237041090561] w fun e w' => e = .returned (.int .u32 32768) ∧ w' = w from pack_of _ _ 32768 0 (by decide) (by decide) (by decide) (by decide) part_ninf part_nan1)
  have B3 := Lib.hid (show ∀ w : World, Calls Try.prog 14 #[.complex .f64 13830554455654793216 4674736138332667904] w fun e w' => e = .returned (.int .u32 65535) ∧ w' = w from
    pack_of _ _ 65535 0 (by decide) (by decide) (by decide) (by decide) (part_val _ true 1 _ (by kernel_rfl) (by decide) (by kernel_rfl)) (part_val _ false 32767 _ (by kernel_rfl) (by decide) (by kernel_rfl)))
  have B4 := Lib.hid (show ∀ w : World, Calls Try.prog 14 #[.complex .f64 4674736481930051584 13898108450065350656] w fun e w' => e = .returned (.int .u32 4294901761) ∧ w' = w from
    pack_of _ _ 1 65535 (by decide) (by decide) (by decide) (by decide) part_half (part_val _ true 32768 _ (by kernel_rfl) (by decide) (by kernel_rfl)))
  have AW := Lib.hid awake13
  have hng : ∀ w : World, (Op.unary .neg (.float .f64 9218868437227405312)).run Try.prog w = .ok (.float .f64 18442240474082181120) w := fun _ => rfl
  go_enter Try.func5, Try.ntmps5
  go_wp2_with (fail)
  go_at_call 16
  refine (I.out _).mono ?_
  rintro e w1 ⟨rfl, rfl⟩
  go_wp2_with (fail)
  go_at_call 17
  refine (NN.out _).mono ?_
  rintro e w1 ⟨rfl, rfl⟩
  go_wp2_with (fail)
  go_at_call 10
  refine (A1.out _).mono ?_
  rintro e w1 ⟨rfl, rfl⟩
  go_wp2_with (fail)
  go_at_call 10
  refine (A2.out _).mono ?_
  rintro e w1 ⟨rfl, rfl⟩
  go_wp2_with (fail)
  go_at_call 14
  refine (B1.out _).mono ?_
  rintro e w1 ⟨rfl, rfl⟩
  go_wp2_with (fail)
  go_at_call 14
  refine (B2.out _).mono ?_
  rintro e w1 ⟨rfl, rfl⟩
  go_wp2_with (fail)
  go_at_call 14
  refine (B3.out _).mono ?_
  rintro e w1 ⟨rfl, rfl⟩
  go_wp2_with (fail)
  go_at_call 14
  refine (B4.out _).mono ?_
  rintro e w1 ⟨rfl, rfl⟩
  go_wp2_with (fail)
  go_at_call 10
  refine (A3.out _).mono ?_
  rintro e w1 ⟨rfl, rfl⟩
  go_wp2_with (fail)
  go_at_call 10
  refine (A4.out _).mono ?_
  rintro e w1 ⟨rfl, rfl⟩
  go_wp2_with (fail)
  go_at_call 10
  refine (A5.out _).mono ?_
  rintro e w1 ⟨rfl, rfl⟩
  go_wp2_with (fail)
  go_at_call 13
  refine (AW.out _).mono ?_
  rintro e w1 ⟨rfl, rfl⟩
  go_wp2
  go_ret
  exact ⟨rfl, Below.refl _ _⟩
end Go.Proofs.Ytoofmpchcbnljaa
