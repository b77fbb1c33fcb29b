/- cplx.part, walked, at floats that stand for whole numbers. -/
import Derived.Test.YtoofmpchcbnljaaFlt2
import Derived.Test.YtoofmpchcbnljaaProg
import Derived.Below
import Derived.Tactics
import Derived.WalkKit
import Derived.KernelRfl
import Derived.RowKit3
import Derived.WideLaws
import Derived.Laws.BitsLemmas
import Derived.RowKit
import Derived.Deep.QuietTactic
import Derived.Test.YtoofmpchcbnljaaWWords
import Derived.Test.YtoofmpchcbnljaaWLast
import Derived.Test.YtoofmpchcbnljaaWMore
import Derived.Laws.Externs
import Derived.WalkLawsBesides
import Derived.KernelRfl
import Derived.Lib.Hide
namespace Go.Proofs.Ytoofmpchcbnljaa
open Go.RowKit Go.Proofs.YtoofmpchcbnljaaW.PrintWords Go.Proofs.YtoofmpchcbnljaaW.PrintLast Go.Proofs.YtoofmpchcbnljaaW.PrintMore
set_option linter.unusedVariables false
set_option linter.unusedSimpArgs false

theorem c15 : E false 32768 0 = 4674736413210574848 := by kernel_rfl
theorem cTop : E false 32767 0 = 4674736138332667904 := by kernel_rfl
theorem cLow : E true 32768 0 = 13898108450065350656 := by kernel_rfl

theorem call27 (args : Array Value) (w : World) : (callFunc 27 args).run Try.prog w = ((Extern.MathFloor.toIntegral "math.archFloor" .down args).run Try.prog w).andThen fun v w' => .ok (.value v) w' :=
  run_callFunc_extern Try.func27 (by kernel_rfl) (by kernel_rfl) (by kernel_rfl) (by kernel_rfl) args w
theorem call31 (args : Array Value) (w : World) : (callFunc 31 args).run Try.prog w = ((Extern.MathDim.pick "math.archMin" true .lt args).run Try.prog w).andThen fun v w' => .ok (.value v) w' :=
  run_callFunc_extern Try.func31 (by kernel_rfl) (by kernel_rfl) (by kernel_rfl) (by kernel_rfl) args w
theorem call29 (args : Array Value) (w : World) : (callFunc 29 args).run Try.prog w = ((Extern.MathDim.pick "math.archMax" false .gt args).run Try.prog w).andThen fun v w' => .ok (.value v) w' :=
  run_callFunc_extern Try.func29 (by kernel_rfl) (by kernel_rfl) (by kernel_rfl) (by kernel_rfl) args w

theorem integral_run (name : String) (way : Ieee.Toward) (x : Nat) (s : Bool) (m : Nat) (i : Int) (hd : FloatKind.f64.decode x = .number s m i) :
    Extern.MathFloor.toIntegral name way #[.float .f64 x] = pure (.float .f64 (FloatKind.f64.encode ((Ieee.Datum.number s m i).integral way))) := by
  conv => lhs; whnf
  rw [hd]
theorem floor_call (s : Bool) (c : Nat) (h : c < 9007199254740992) (w : World) : (callFunc 27 #[.float .f64 (E s c (-15))]).run Try.prog w = .ok (.value (.float .f64 (E s (flo s c) 0))) w := by
  rw [call27]
  obtain ⟨k, i, h1, -, -⟩ := read_any s c (-15) h (by omega)
  have hd : FloatKind.f64.decode (E s c (-15)) = .number s (c * 2 ^ k) i := h1
  have hf := floor_E s c h
  rw [h1] at hf
  have hf' : FloatKind.f64.encode ((Ieee.Datum.number s (c * 2 ^ k) i).integral .down) = E s (flo s c) 0 := hf
  rw [integral_run _ _ _ _ _ _ hd, hf']
  rfl

theorem pick_eq (name : String) (neg : Bool) (win : Ordering) (x y : Nat) (s t : Bool) (m n : Nat) (i j : Int) (hx : FloatKind.f64.decode x = .number s m i) (hy : FloatKind.f64.decode y = .number t n j) (hm : m ≠ 0) :
    Extern.MathDim.pick name neg win #[.float .f64 x, .float .f64 y] = pure (.float .f64 (if (Ieee.Datum.number s m i).order (Ieee.Datum.number t n j) = some win then x else y)) := by
  have hz : (Ieee.Datum.number s m i).isZero = false := by
    unfold Ieee.Datum.isZero
    split
    · rename_i h; injection h with _ h _; exact absurd h hm
    · rfl
  have n1 : ((Ieee.Datum.number s m i) == .infinity neg) = false := by rw [beq_eq_false_iff_ne]; simp
  have n2 : ((Ieee.Datum.number t n j) == .infinity neg) = false := by rw [beq_eq_false_iff_ne]; simp
  have n3 : (Ieee.Datum.number s m i).isNaN = false := rfl
  have n4 : (Ieee.Datum.number t n j).isNaN = false := rfl
  have key : ∀ a b : Ieee.Datum, FloatKind.f64.decode x = a → FloatKind.f64.decode y = b → Extern.MathDim.pick name neg win #[.float .f64 x, .float .f64 y] = pure (.float .f64 (if (a == .infinity neg || b == .infinity neg) = true then FloatKind.f64.encode (.infinity neg) else if (a.isNaN || b.isNaN) = true then 0x7FF8000000000001 else if (a.isZero && b.isZero) = true then (if (a.neg == neg) = true then x else y) else if (a.order b == some win) = true then x else y)) := by
    rintro a b rfl rfl
    rfl
  rw [key _ _ hx hy, n1, n2, n3, n4, hz]
  by_cases hc : (Ieee.Datum.number s m i).order (Ieee.Datum.number t n j) = some win
  · rw [if_pos hc, hc]; simp
  · rw [if_neg hc]
    have : ((Ieee.Datum.number s m i).order (Ieee.Datum.number t n j) == some win) = false := by rw [beq_eq_false_iff_ne]; exact hc
    rw [this]
    simp
theorem pick_run (name : String) (neg : Bool) (win : Ordering) (s t : Bool) (a b : Nat) (ha0 : 0 < a) (ha : a < 9007199254740992) (hb : b < 9007199254740992) (w : World) :
    (Extern.MathDim.pick name neg win #[.float .f64 (E s a 0), .float .f64 (E t b 0)]).run Try.prog w = .ok (.float .f64 (if compare (sv s a) (sv t b) = win then E s a 0 else E t b 0)) w := by
  obtain ⟨k, i, h1, -, -⟩ := read_any s a 0 ha (by omega)
  obtain ⟨l, j, g1, -, -⟩ := read_any t b 0 hb (by omega)
  have ho := order_E s t a b ha hb
  rw [h1, g1] at ho
  have hm : a * 2 ^ k ≠ 0 := Nat.mul_ne_zero (by omega) (by have := Nat.two_pow_pos k; omega)
  rw [pick_eq name neg win _ _ s t _ _ i j h1 g1 hm, ho]
  simp only [Option.some.injEq]
  rfl

theorem min_call (s : Bool) (q : Nat) (h : q < 9007199254740992) : ∃ (s' : Bool) (q' : Nat), q' < 9007199254740992 ∧ sv s' q' = min 32767 (sv s q) ∧ ∀ w, (callFunc 31 #[.float .f64 4674736138332667904, .float .f64 (E s q 0)]).run Try.prog w = .ok (.value (.float .f64 (E s' q' 0))) w := by
  have hp := fun w => pick_run "math.archMin" true .lt false s 32767 q (by decide) (by decide) h w
  rw [cTop] at hp
  have e : sv false 32767 = 32767 := rfl
  rw [e] at hp
  by_cases hc : (32767 : Int) < sv s q
  · refine ⟨false, 32767, by decide, by rw [e]; omega, fun w => ?_⟩
    rw [call31, hp, if_pos (by simp only [compare, compareOfLessAndEq]; rw [if_pos hc]), cTop]
    rfl
  · refine ⟨s, q, h, by omega, fun w => ?_⟩
    rw [call31, hp, if_neg (by simp only [compare, compareOfLessAndEq]; rw [if_neg hc]; split <;> simp)]
    rfl
theorem max_call (s : Bool) (q : Nat) (h : q < 9007199254740992) : ∃ (s' : Bool) (q' : Nat), q' < 9007199254740992 ∧ sv s' q' = max (-32768) (sv s q) ∧ ∀ w, (callFunc 29 #[.float .f64 13898108450065350656, .float .f64 (E s q 0)]).run Try.prog w = .ok (.value (.float .f64 (E s' q' 0))) w := by
  have hp := fun w => pick_run "math.archMax" false .gt true s 32768 q (by decide) (by decide) h w
  rw [cLow] at hp
  have e : sv true 32768 = -32768 := rfl
  rw [e] at hp
  by_cases hc : sv s q < (-32768 : Int)
  · refine ⟨true, 32768, by decide, by rw [e]; omega, fun w => ?_⟩
    rw [call29, hp, if_pos (by simp only [compare, compareOfLessAndEq]; rw [if_neg (by omega), if_neg (by omega)]), cLow]
    rfl
  · refine ⟨s, q, h, by omega, fun w => ?_⟩
    rw [call29, hp, if_neg (by simp only [compare, compareOfLessAndEq]; split <;> (try split) <;> simp <;> omega)]
    rfl

/-- Divided by 2^15, rounded down, within an int16. -/
def dn (v : Int) : Int := max (-32768) (min 32767 (v / 32768))
theorem flo_lt (s : Bool) (c : Nat) (h : c < 9007199254740992) : flo s c < 9007199254740992 := by
  unfold flo
  have : (s && c % 32768 != 0).toNat ≤ 1 := by cases (s && c % 32768 != 0) <;> decide
  omega

set_option maxHeartbeats 4000000 in
set_option maxRecDepth 100000 in
theorem nan23 (x : Nat) (ho : Ieee.double.order x x = some Ordering.eq) (w : World) : Calls Try.prog 23 #[.float .f64 x] w fun e w' => e = .returned (.bool false) ∧ w' = w := by
  have ho' : ((FloatKind.f64.format.order x x) != some Ordering.eq) = false := by
    show (Ieee.double.order x x != some Ordering.eq) = false
    rw [ho]; rfl
  go_enter Try.func23, Try.ntmps23
  go_wp2
  go_ret
  exact ⟨rfl, rfl⟩
set_option maxHeartbeats 4000000 in
set_option maxRecDepth 100000 in
theorem floor24 (x y : Nat) (hf : ∀ w : World, (callFunc 27 #[.float .f64 x]).run Try.prog w = .ok (.value (.float .f64 y)) w) (w : World) : Calls Try.prog 24 #[.float .f64 x] w fun e w' => e = .returned (.float .f64 y) ∧ w' = w := by
  go_enter Try.func24, Try.ntmps24
  go_wp2
  go_ret
  exact ⟨rfl, rfl⟩
set_option maxHeartbeats 4000000 in
set_option maxRecDepth 100000 in
theorem max25 (a x y : Nat) (hf : ∀ w : World, (callFunc 29 #[.float .f64 a, .float .f64 x]).run Try.prog w = .ok (.value (.float .f64 y)) w) (w : World) : Calls Try.prog 25 #[.float .f64 a, .float .f64 x] w fun e w' => e = .returned (.float .f64 y) ∧ w' = w := by
  go_enter Try.func25, Try.ntmps25
  go_wp2
  go_ret
  exact ⟨rfl, rfl⟩
set_option maxHeartbeats 4000000 in
set_option maxRecDepth 100000 in
theorem min26 (a x y : Nat) (hf : ∀ w : World, (callFunc 31 #[.float .f64 a, .float .f64 x]).run Try.prog w = .ok (.value (.float .f64 y)) w) (w : World) : Calls Try.prog 26 #[.float .f64 a, .float .f64 x] w fun e w' => e = .returned (.float .f64 y) ∧ w' = w := by
  go_enter Try.func26, Try.ntmps26
  go_wp2
  go_ret
  exact ⟨rfl, rfl⟩

set_option maxHeartbeats 4000000 in
set_option maxRecDepth 100000 in
theorem part_calls (s : Bool) (c : Nat) (h : c < 9007199254740992) (w : World) : Calls Try.prog 21 #[.float .f64 (E s c 0)] w fun e w' => e = .returned (.int .u16 (dn (sv s c) % 65536)) ∧ w' = w := by
  have ho : Ieee.double.order (E s c 0) (E s c 0) = some Ordering.eq := by
    have := order_E s s c c h h
    unfold Ieee.Format.order
    rw [this]
    simp [compare, compareOfLessAndEq]
  obtain ⟨s1, q1, h1, e1, m1⟩ := min_call s (flo s c) (flo_lt s c h)
  obtain ⟨s2, q2, h2, e2, m2⟩ := max_call s1 q1 h1
  have hv : sv s2 q2 = dn (sv s c) := by rw [e2, e1, flo_sv]; rfl
  have hq : ∀ w : World, (binOp .quo 25 (.float .f64 (E s c 0)) (.float .f64 4674736413210574848)).run Try.prog w = .ok (.float .f64 (E s c (-15))) w := fun w => run_float_arith w .quo 25 .f64 _ _ _ (quo_E s c h)
  have hf : ∀ w : World, (callFunc 27 #[.float .f64 (E s c (-15))]).run Try.prog w = .ok (.value (.float .f64 (E s (flo s c) 0))) w := fun w => floor_call s c h w
  have hci : ∀ w : World, (convert 25 38 (.float .f64 (E s2 q2 0))).run Try.prog w = .ok (.int .i16 (dn (sv s c))) w := fun w => by
    refine run_convert_float_int w 25 38 .f64 .i16 _ _ (by rw [Try.underlying25]; rfl) Try.underlying38 ?_
    unfold floatToIntVal
    have ht := toInt_E s2 q2 h2
    have ht' : (FloatKind.f64.decode (E s2 q2 0)).toInt .zero = some (sv s2 q2) := ht
    rw [ht', hv]
    have l1 : IntKind.i16.min = -32768 := by decide
    have l2 : IntKind.i16.max = 32767 := by decide
    simp only [l1, l2]
    rw [if_pos (by unfold dn; omega)]
  have C1 := Lib.hid (nan23 _ ho)
  have C2 := Lib.hid (floor24 _ _ hf)
  have C3 := Lib.hid (min26 _ _ _ m1)
  have C4 := Lib.hid (max25 _ _ _ m2)
  clear h1 e1 h2 e2 hv h ho hf m1 m2
  go_enter Try.func21, Try.ntmps21
  go_wp2_with (fail)
  go_at_call 23
  refine (C1.out _).mono ?_
  rintro e w1 ⟨rfl, rfl⟩
  go_wp2_with (fail)
  go_at_call 24
  refine (C2.out _).mono ?_
  rintro e w1 ⟨rfl, rfl⟩
  go_wp2_with (fail)
  go_at_call 26
  refine (C3.out _).mono ?_
  rintro e w1 ⟨rfl, rfl⟩
  go_wp2_with (fail)
  go_at_call 25
  refine (C4.out _).mono ?_
  rintro e w1 ⟨rfl, rfl⟩
  go_wp2
  go_ret
  exact ⟨rfl, rfl⟩
end Go.Proofs.Ytoofmpchcbnljaa
