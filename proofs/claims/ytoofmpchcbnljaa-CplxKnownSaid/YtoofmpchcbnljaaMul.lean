/- Products of complex numbers of whole parts; Of, Pack, Mul, MulConj walked. -/
import Derived.Test.YtoofmpchcbnljaaPart
namespace Go.Proofs.Ytoofmpchcbnljaa
open Go.RowKit Go.Proofs.YtoofmpchcbnljaaW.PrintWords Go.Proofs.YtoofmpchcbnljaaW.PrintLast Go.Proofs.YtoofmpchcbnljaaW.PrintMore
set_option linter.unusedVariables false
set_option linter.unusedSimpArgs false

theorem sv_natAbs (z : Bool) (R : Int) (h : R ≠ 0 → z = decide (R < 0)) : sv z R.natAbs = R := by
  by_cases h0 : R = 0
  · subst h0; cases z <;> rfl
  · rw [h h0]
    unfold sv
    by_cases hn : R < 0
    · rw [if_pos (decide_eq_true hn)]; omega
    · rw [if_neg (by simpa using hn)]; omega
theorem sv_xor (s t : Bool) (a b : Nat) : sv (s ^^ t) (a * b) = sv s a * sv t b := by
  unfold sv
  cases s <;> cases t <;> simp [Int.neg_mul, Int.mul_neg]
theorem sv_abs (s : Bool) (a : Nat) : (sv s a).natAbs = a := by unfold sv; cases s <;> simp

theorem mul_le15 {a b : Nat} (ha : a ≤ 32768) (hb : b ≤ 32768) : a * b ≤ 1073741824 := by
  have := Nat.mul_le_mul ha hb
  omega

/-- A product of complex numbers whose parts are whole. -/
theorem cmul_E (s t p q : Bool) (a b c d : Nat) (ha : a ≤ 32768) (hb : b ≤ 32768) (hc : c ≤ 32768) (hd : d ≤ 32768) :
    ∃ (z1 z2 : Bool) (m n : Nat), cMulBits (E s a 0) (E t b 0) (E p c 0) (E q d 0) = some (E z1 m 0, E z2 n 0) ∧ m < 9007199254740992 ∧ n < 9007199254740992 ∧
      sv z1 m = sv s a * sv p c - sv t b * sv q d ∧ sv z2 n = sv s a * sv q d + sv t b * sv p c := by
  have h1 := mul_le15 ha hc
  have h2 := mul_le15 hb hd
  have h3 := mul_le15 ha hd
  have h4 := mul_le15 hb hc
  have e1 := mul_E s p a c (by omega) (by omega) (by omega)
  have e2 := mul_E t q b d (by omega) (by omega) (by omega)
  have e3 := mul_E s q a d (by omega) (by omega) (by omega)
  have e4 := mul_E t p b c (by omega) (by omega) (by omega)
  have A : ∀ (x : Bool) (n : Nat), sv x n = n ∨ sv x n = -(n : Int) := by intro x n; unfold sv; cases x <;> simp
  obtain ⟨z1, f1, g1⟩ := sub_E (s ^^ p) (t ^^ q) (a * c) (b * d) (by omega) (by omega) (by rcases A (s ^^ p) (a * c) with h | h <;> rcases A (t ^^ q) (b * d) with h' | h' <;> rw [h, h'] <;> omega)
  obtain ⟨z2, f2, g2⟩ := add_E (s ^^ q) (t ^^ p) (a * d) (b * c) (by omega) (by omega) (by rcases A (s ^^ q) (a * d) with h | h <;> rcases A (t ^^ p) (b * c) with h' | h' <;> rw [h, h'] <;> omega)
  have k1 := sv_natAbs z1 _ g1
  have k2 := sv_natAbs z2 _ g2
  refine ⟨z1, z2, _, _, ?_, ?_, ?_, k1.trans (by rw [sv_xor, sv_xor]), k2.trans (by rw [sv_xor, sv_xor])⟩
  · have b1 : floatBits .mul .f64 (E s a 0) (E p c 0) = some (E (s ^^ p) (a * c) 0) := e1
    have b2 : floatBits .mul .f64 (E t b 0) (E q d 0) = some (E (t ^^ q) (b * d) 0) := e2
    have b3 : floatBits .mul .f64 (E s a 0) (E q d 0) = some (E (s ^^ q) (a * d) 0) := e3
    have b4 : floatBits .mul .f64 (E t b 0) (E p c 0) = some (E (t ^^ p) (b * c) 0) := e4
    have b5 : floatBits .sub .f64 (E (s ^^ p) (a * c) 0) (E (t ^^ q) (b * d) 0) = _ := f1
    have b6 : floatBits .add .f64 (E (s ^^ q) (a * d) 0) (E (t ^^ p) (b * c) 0) = _ := f2
    unfold cMulBits
    rw [b1, Option.bind_some, b2, Option.bind_some, b5, Option.bind_some, b3, Option.bind_some, b4, Option.bind_some, b6, Option.bind_some]
  · rcases A (s ^^ p) (a * c) with h | h <;> rcases A (t ^^ q) (b * d) with h' | h' <;> rw [h, h'] <;> omega
  · rcases A (s ^^ q) (a * d) with h | h <;> rcases A (t ^^ p) (b * c) with h' | h' <;> rw [h, h'] <;> omega

/-- A whole number as a float. -/
def F (v : Int) : Nat := E (decide (v < 0)) v.natAbs 0
theorem F_of (v : Int) : floatOfInt .f64 v = F v := rfl
theorem sv_F (v : Int) : sv (decide (v < 0)) v.natAbs = v := sv_natAbs _ _ fun _ => rfl

set_option maxHeartbeats 4000000 in
set_option maxRecDepth 100000 in
theorem product19 (a b c d re im : Nat) (h : cMulBits a b c d = some (re, im)) (w : World) : Calls Try.prog 19 #[.complex .f64 a b, .complex .f64 c d] w fun e w' => e = .returned (.complex .f64 re im) ∧ w' = w := by
  have hm : ∀ w : World, (binOp .mul 23 (.complex .f64 a b) (.complex .f64 c d)).run Try.prog w = .ok (.complex .f64 re im) w := fun w => run_complex_mul w 23 a b c d re im h
  clear h
  go_enter Try.func19, Try.ntmps19
  go_wp2
  go_ret
  exact ⟨rfl, rfl⟩

theorem or_join (x y : Int) (h0 : 0 ≤ x) (h1 : x < 65536) (h2 : 0 ≤ y) (h3 : y < 65536) : bits .or .u32 x (y * 65536) = x + y * 65536 := by
  have hc : bits .or .u32 x (y * 65536) = bits .or .u32 (y * 65536) x := by simp only [bits, BitVec.or_comm]
  rw [hc, bits_join .u32 32 (by decide) (fun n h0 h1 => by rw [IntKind.wrap_u32]; omega) 16 (y * 65536) x (by omega) (by omega) (by omega) (by omega) (by omega) (by omega)]
  omega
def s16 (n : Int) : Int := (n + 32768) % 65536 - 32768
theorem wrap_i16 (n : Int) : IntKind.i16.wrap n = s16 n := by unfold s16; have h := IntKind.wrap_i32 n; simp [IntKind.wrap, IntKind.bits, IntKind.signed]; split <;> omega
set_option maxHeartbeats 4000000 in
set_option maxRecDepth 100000 in
theorem of8 (n : Int) (h0 : 0 ≤ n) (h1 : n < 4294967296) (w : World) : Calls Try.prog 8 #[.int .u32 n] w fun e w' => e = .returned (.complex .f64 (F (s16 n)) (F (s16 (n / 65536)))) ∧ w' = w := by
  go_enter Try.func8, Try.ntmps8
  go_wp2
  go_ret
  refine ⟨?_, rfl⟩
  show Ending.returned (Value.complex .f64 (floatOfInt .f64 (IntKind.i16.wrap n)) (floatOfInt .f64 (IntKind.i16.wrap (n / 65536)))) = _
  rw [wrap_i16, wrap_i16]
  rfl

set_option maxHeartbeats 4000000 in
set_option maxRecDepth 100000 in
theorem pack14 (s t : Bool) (a b : Nat) (ha : a < 9007199254740992) (hb : b < 9007199254740992) (w : World) : Calls Try.prog 14 #[.complex .f64 (E s a 0) (E t b 0)] w fun e w' => e = .returned (.int .u32 (dn (sv s a) % 65536 + dn (sv t b) % 65536 * 65536)) ∧ w' = w := by
  have C1 := Lib.hid (part_calls s a ha)
  have C2 := Lib.hid (part_calls t b hb)
  go_enter Try.func14, Try.ntmps14
  go_wp2_with (fail)
  go_at_call 21
  refine (C1.out _).mono ?_
  rintro e w1 ⟨rfl, rfl⟩
  go_wp2_with (fail)
  go_at_call 21
  refine (C2.out _).mono ?_
  rintro e w1 ⟨rfl, rfl⟩
  go_wp2
  go_ret
  refine ⟨?_, rfl⟩
  show Ending.returned (Value.int .u32 (bits .or .u32 (dn (sv s a) % 65536) (dn (sv t b) % 65536 * 65536))) = _
  rw [or_join _ _ (by omega) (by omega) (by omega) (by omega)]

theorem xor_top (r : Nat) (h : r < 2 ^ 63) : r ^^^ 2 ^ 63 = 2 ^ 63 + r := by
  apply Nat.eq_of_testBit_eq
  intro i
  rw [Nat.testBit_xor, Nat.testBit_two_pow]
  rcases Nat.lt_trichotomy i 63 with hi | hi | hi
  · rw [Nat.testBit_two_pow_add_gt hi, decide_eq_false (by omega), Bool.xor_false]
  · subst hi
    rw [Nat.testBit_two_pow_add_eq, Nat.testBit_lt_two_pow h]
    rfl
  · have h1 : r < 2 ^ i := Nat.lt_of_lt_of_le h (Nat.pow_le_pow_right (by decide) (by omega))
    have h2 : 2 ^ 63 + r < 2 ^ i := by
      have : 2 ^ 64 ≤ 2 ^ i := Nat.pow_le_pow_right (by decide) (by omega)
      omega
    rw [Nat.testBit_lt_two_pow h1, Nat.testBit_lt_two_pow h2, decide_eq_false (by omega)]
    rfl
theorem E_word (c : Nat) (h : c < 9007199254740992) : ∃ r, r < 2 ^ 63 ∧ ∀ s, E s c 0 = Ieee.double.word s r := by
  rcases Nat.eq_zero_or_pos c with rfl | h0
  · exact ⟨0, by decide, fun s => rfl⟩
  · obtain ⟨hl, hm1, hm2⟩ := top_of c h0 h
    exact ⟨_, by omega, fun s => E_eq s c 0 h0 h (by omega)⟩
theorem neg_E (s : Bool) (c : Nat) (h : c < 9007199254740992) : Op.negFloat .f64 (E s c 0) = E (!s) c 0 := by
  obtain ⟨r, hr, he⟩ := E_word c h
  rw [he, he]
  have e : FloatKind.f64.format.exponentBits + FloatKind.f64.format.fractionBits = 63 := rfl
  unfold Op.negFloat
  rw [e]
  unfold Ieee.Format.word
  rw [dw]
  have hx := xor_top r hr
  cases s
  · rw [if_neg (by decide), hx]
    rfl
  · have h2 : 9223372036854775808 + r = r ^^^ 2 ^ 63 := by rw [hx]
    rw [if_pos rfl, h2, Nat.xor_assoc, Nat.xor_self, Nat.xor_zero]
    rfl

def pk (p q : Int) : Int := dn p % 65536 + dn q % 65536 * 65536
theorem s16_le (n : Int) : (s16 n).natAbs ≤ 32768 := by unfold s16; omega

set_option maxHeartbeats 4000000 in
set_option maxRecDepth 100000 in
theorem mul10 (a b : Int) (ha0 : 0 ≤ a) (ha1 : a < 4294967296) (hb0 : 0 ≤ b) (hb1 : b < 4294967296) (w : World) : Calls Try.prog 10 #[.int .u32 a, .int .u32 b] w fun e w' =>
    e = .returned (.int .u32 (pk (s16 a * s16 b - s16 (a / 65536) * s16 (b / 65536)) (s16 a * s16 (b / 65536) + s16 (a / 65536) * s16 b))) ∧ w' = w := by
  have O1 := Lib.hid (of8 a ha0 ha1)
  have O2 := Lib.hid (of8 b hb0 hb1)
  obtain ⟨z1, z2, m, n, hc, hm, hn, e1, e2⟩ := cmul_E (decide (s16 a < 0)) (decide (s16 (a / 65536) < 0)) (decide (s16 b < 0)) (decide (s16 (b / 65536) < 0)) _ _ _ _ (s16_le a) (s16_le (a / 65536)) (s16_le b) (s16_le (b / 65536))
  rw [sv_F, sv_F, sv_F, sv_F] at e1 e2
  have P := Lib.hid (product19 (F (s16 a)) (F (s16 (a / 65536))) (F (s16 b)) (F (s16 (b / 65536))) _ _ hc)
  have K := pack14 z1 z2 m n hm hn
  rw [e1, e2] at K
  have K' := Lib.hid K
  clear hc hm hn e1 e2 K ha0 ha1 hb0 hb1
  go_enter Try.func10, Try.ntmps10
  go_wp2_with (fail)
  go_at_call 8
  refine (O1.out _).mono ?_
  rintro e w1 ⟨rfl, rfl⟩
  go_wp2_with (fail)
  go_at_call 8
  refine (O2.out _).mono ?_
  rintro e w1 ⟨rfl, rfl⟩
  go_wp2_with (fail)
  go_at_call 19
  refine (P.out _).mono ?_
  rintro e w1 ⟨rfl, rfl⟩
  go_wp2_with (fail)
  go_at_call 14
  refine (K'.out _).mono ?_
  rintro e w1 ⟨rfl, rfl⟩
  go_wp2
  go_ret
  exact ⟨rfl, rfl⟩

set_option maxHeartbeats 4000000 in
set_option maxRecDepth 100000 in
theorem mulconj12 (a b : Int) (ha0 : 0 ≤ a) (ha1 : a < 4294967296) (hb0 : 0 ≤ b) (hb1 : b < 4294967296) (w : World) : Calls Try.prog 12 #[.int .u32 a, .int .u32 b] w fun e w' =>
    e = .returned (.int .u32 (pk (s16 a * s16 b + s16 (a / 65536) * s16 (b / 65536)) (s16 (a / 65536) * s16 b - s16 a * s16 (b / 65536)))) ∧ w' = w := by
  have O1 := Lib.hid (of8 a ha0 ha1)
  have O2 := Lib.hid (of8 b hb0 hb1)
  obtain ⟨z1, z2, m, n, hc, hm, hn, e1, e2⟩ := cmul_E (decide (s16 a < 0)) (decide (s16 (a / 65536) < 0)) (decide (s16 b < 0)) (!decide (s16 (b / 65536) < 0)) _ _ _ _ (s16_le a) (s16_le (a / 65536)) (s16_le b) (s16_le (b / 65536))
  rw [sv_F, sv_F, sv_F, sv_not, sv_F] at e1 e2
  have hneg := neg_E (decide (s16 (b / 65536) < 0)) (s16 (b / 65536)).natAbs (by have := s16_le (b / 65536); omega)
  rw [← hneg] at hc
  have P := Lib.hid (product19 (F (s16 a)) (F (s16 (a / 65536))) (F (s16 b)) (Op.negFloat .f64 (F (s16 (b / 65536)))) _ _ hc)
  have K := pack14 z1 z2 m n hm hn
  have f1 : sv z1 m = s16 a * s16 b + s16 (a / 65536) * s16 (b / 65536) := by rw [e1, Int.mul_neg]; omega
  have f2 : sv z2 n = s16 (a / 65536) * s16 b - s16 a * s16 (b / 65536) := by rw [e2, Int.mul_neg]; omega
  rw [f1, f2] at K
  have K' := Lib.hid K
  clear hc hm hn e1 e2 f1 f2 K hneg ha0 ha1 hb0 hb1
  have hng : ∀ w : World, (Op.unary .neg (.float .f64 (F (s16 (b / 65536))))).run Try.prog w = .ok (.float .f64 (Op.negFloat .f64 (F (s16 (b / 65536))))) w := fun _ => rfl
  go_enter Try.func12, Try.ntmps12
  go_wp2_with (fail)
  go_at_call 8
  refine (O2.out _).mono ?_
  rintro e w1 ⟨rfl, rfl⟩
  go_wp2_with (fail)
  go_at_call 8
  refine (O1.out _).mono ?_
  rintro e w1 ⟨rfl, rfl⟩
  go_wp2_with (fail)
  go_at_call 19
  refine (P.out _).mono ?_
  rintro e w1 ⟨rfl, rfl⟩
  go_wp2_with (fail)
  go_at_call 14
  refine (K'.out _).mono ?_
  rintro e w1 ⟨rfl, rfl⟩
  go_wp2
  go_ret
  exact ⟨rfl, rfl⟩
end Go.Proofs.Ytoofmpchcbnljaa
