/- awake, part, and the laws CplxConj and CplxTurns, walked. -/
import Derived.Test.YtoofmpchcbnljaaMul
import Derived.DataShut
namespace Go.Proofs.Ytoofmpchcbnljaa
open Go.RowKit Go.Proofs.YtoofmpchcbnljaaW.PrintWords Go.Proofs.YtoofmpchcbnljaaW.PrintLast Go.Proofs.YtoofmpchcbnljaaW.PrintMore
set_option linter.unusedVariables false
set_option linter.unusedSimpArgs false

set_option maxHeartbeats 4000000 in
set_option maxRecDepth 100000 in
theorem awake13 (w : World) : Calls Try.prog 13 #[] w fun e w' => e = .returned (.bool true) ∧ w' = w := by
  have C1 := of8 4294901763 (by decide) (by decide)
  rw [show F (s16 4294901763) = 4613937818241073152 by kernel_rfl, show F (s16 (4294901763 / 65536)) = 13830554455654793216 by kernel_rfl] at C1
  have C2 := mul10 1073741824 1073741824 (by decide) (by decide) (by decide) (by decide)
  rw [show pk (s16 1073741824 * s16 1073741824 - s16 (1073741824 / 65536) * s16 (1073741824 / 65536)) (s16 1073741824 * s16 (1073741824 / 65536) + s16 (1073741824 / 65536) * s16 1073741824) = 57344 by kernel_rfl] at C2
  have C3 := mulconj12 2147516416 2147516416 (by decide) (by decide) (by decide) (by decide)
  rw [show pk (s16 2147516416 * s16 2147516416 + s16 (2147516416 / 65536) * s16 (2147516416 / 65536)) (s16 (2147516416 / 65536) * s16 2147516416 - s16 2147516416 * s16 (2147516416 / 65536)) = 32767 by kernel_rfl] at C3
  have K1 := Lib.hid C1
  have K2 := Lib.hid C2
  have K3 := Lib.hid C3
  have heq : ∀ w : World, (binOp .eql 23 (.complex .f64 4613937818241073152 13830554455654793216) (.complex .f64 4613937818241073152 13830554455654793216)).run Try.prog w = .ok (.bool true) w := fun w => by
    rw [run_eql_complex]
    have h1 : (FloatKind.f64.format.order 4613937818241073152 4613937818241073152 == some Ordering.eq) = true := by kernel_rfl
    have h2 : (FloatKind.f64.format.order 13830554455654793216 13830554455654793216 == some Ordering.eq) = true := by kernel_rfl
    rw [h1, h2]
    rfl
  clear C1 C2 C3
  go_enter Try.func13, Try.ntmps13
  go_wp2_with (fail)
  go_at_call 8
  refine (K1.out _).mono ?_
  rintro e w1 ⟨rfl, rfl⟩
  go_wp2_with (fail)
  go_at_call 10
  refine (K2.out _).mono ?_
  rintro e w1 ⟨rfl, rfl⟩
  go_wp2_with (fail)
  go_at_call 12
  refine (K3.out _).mono ?_
  rintro e w1 ⟨rfl, rfl⟩
  go_wp2
  go_ret
  exact ⟨rfl, rfl⟩

theorem s16_mod (n : Int) : s16 (n % 65536) = s16 n := by unfold s16; omega
theorem wrap_s16 (n : Int) : wrap64 (s16 n) = s16 n := by unfold s16 wrap64; omega
theorem wrap_u16' (n : Int) : IntKind.u16.wrap n = n % 65536 := by simp [IntKind.wrap, IntKind.bits, IntKind.signed]
theorem dn_in (v : Int) : -32768 ≤ dn v ∧ dn v ≤ 32767 := by unfold dn; omega
theorem pk_in (p q : Int) : 0 ≤ pk p q ∧ pk p q < 4294967296 := by unfold pk; omega
theorem pk_lo (p q : Int) : s16 (pk p q) = dn p := by have := dn_in p; unfold s16 pk; omega
theorem pk_hi (p q : Int) : s16 (pk p q / 65536) = dn q := by have := dn_in q; unfold s16 pk; omega

set_option maxHeartbeats 4000000 in
set_option maxRecDepth 100000 in
theorem part18t (n : Int) (h0 : 0 ≤ n) (h1 : n < 4294967296) (w : World) : Calls Try.prog 18 #[.int .u32 n, .bool true] w fun e w' => e = .returned (.int .i64 (s16 (n / 65536))) ∧ w' = w := by
  go_enter Try.func18, Try.ntmps18
  go_wp2
  go_ret
  refine ⟨?_, rfl⟩
  show Ending.returned (Value.int .i64 (wrap64 (IntKind.i16.wrap (n / 65536)))) = _
  rw [wrap_i16, wrap_s16]
set_option maxHeartbeats 4000000 in
set_option maxRecDepth 100000 in
theorem part18f (n : Int) (h0 : 0 ≤ n) (h1 : n < 4294967296) (w : World) : Calls Try.prog 18 #[.int .u32 n, .bool false] w fun e w' => e = .returned (.int .i64 (s16 n)) ∧ w' = w := by
  go_enter Try.func18, Try.ntmps18
  go_wp2
  go_ret
  refine ⟨?_, rfl⟩
  show Ending.returned (Value.int .i64 (wrap64 (IntKind.i16.wrap (IntKind.u16.wrap n)))) = _
  rw [wrap_i16, wrap_u16', s16_mod, wrap_s16]

set_option maxHeartbeats 4000000 in
set_option maxRecDepth 100000 in
theorem conj_at (a b : Int) (ha0 : 0 ≤ a) (ha1 : a < 4294967296) (hb0 : 0 ≤ b) (hb1 : b < 4294967296) (w : World) : Calls Try.prog 7 #[.int .u32 a, .int .u32 b] w fun e w' => e = .returned (.bool true) ∧ w' = w := by
  have AW := Lib.hid awake13
  have HA := Lib.hid (And.intro ha0 ha1)
  have HB := Lib.hid (And.intro hb0 hb1)
  by_cases h8 : b / 65536 = 32768
  · have t1 : (b / 65536 == 32768) = true := beq_iff_eq.mpr h8
    clear h8
    go_enter Try.func7, Try.ntmps7
    go_wp2_with (fail)
    go_at_call 13
    refine (AW.out _).mono ?_
    rintro e w1 ⟨rfl, rfl⟩
    go_wp2
    go_ret
    exact ⟨rfl, rfl⟩
  · have t1 : (b / 65536 == 32768) = false := beq_eq_false_iff_ne.mpr h8
    obtain ⟨X, hX⟩ : ∃ X, X = pk (s16 a * s16 b + s16 (a / 65536) * s16 (b / 65536)) (s16 (a / 65536) * s16 b - s16 a * s16 (b / 65536)) := ⟨_, rfl⟩
    have cj := mulconj12 a b ha0 ha1 hb0 hb1
    rw [← hX] at cj
    have he : bits .or .u32 (-(b / 65536) % 65536 * 65536) (b.tmod 65536) = b % 65536 + -(b / 65536) % 65536 * 65536 := by
      rw [Int.tmod_eq_emod_of_nonneg hb0]
      have hc : bits .or .u32 (-(b / 65536) % 65536 * 65536) (b % 65536) = bits .or .u32 (b % 65536) (-(b / 65536) % 65536 * 65536) := by simp only [bits, BitVec.or_comm]
      rw [hc, or_join _ _ (by omega) (by omega) (by omega) (by omega)]
    have cm := mul10 a (b % 65536 + -(b / 65536) % 65536 * 65536) ha0 ha1 (by omega) (by omega)
    have g1 : s16 (b % 65536 + -(b / 65536) % 65536 * 65536) = s16 b := by unfold s16; omega
    have g2 : s16 ((b % 65536 + -(b / 65536) % 65536 * 65536) / 65536) = -s16 (b / 65536) := by unfold s16; omega
    rw [g1, g2, show s16 a * s16 b - s16 (a / 65536) * -s16 (b / 65536) = s16 a * s16 b + s16 (a / 65536) * s16 (b / 65536) by rw [Int.mul_neg]; omega,
      show s16 a * -s16 (b / 65536) + s16 (a / 65536) * s16 b = s16 (a / 65536) * s16 b - s16 a * s16 (b / 65536) by rw [Int.mul_neg]; omega, ← hX, ← he] at cm
    have CJ := Lib.hid cj
    have CM := Lib.hid cm
    have hbeq : (X == X) = true := beq_self_eq_true X
    clear h8 ha0 ha1 hb0 hb1 hX cj cm g1 g2 he
    go_enter Try.func7, Try.ntmps7
    go_wp2_with (fail)
    go_at_call 12
    refine (CJ.out _).mono ?_
    rintro e w1 ⟨rfl, rfl⟩
    go_wp2_with (fail)
    go_at_call 10
    refine (CM.out _).mono ?_
    rintro e w1 ⟨rfl, rfl⟩
    go_wp2_with (fail)
    go_at_call 13
    refine (AW.out _).mono ?_
    rintro e w1 ⟨rfl, rfl⟩
    go_wp2
    go_ret
    exact ⟨rfl, rfl⟩

theorem cplxConj_walk (W : World) (a : Int) (wa : (Lit.int .u32 a).wf = true) (b : Int) (wb : (Lit.int .u32 b).wf = true) : Calls Try.prog 7 #[.int .u32 a, .int .u32 b] W fun e w' => e = .returned (.bool true) ∧ Below W.heap.size W w' := by
  have e1 : IntKind.u32.min = 0 := by decide
  have e2 : IntKind.u32.max = 4294967295 := by decide
  have ha := (Lit.wf_int_iff .u32 _).mp wa
  have hb := (Lit.wf_int_iff .u32 _).mp wb
  rw [e1, e2] at ha hb
  refine (conj_at a b ha.1 (by omega) hb.1 (by omega) W).mono ?_
  rintro e w' ⟨rfl, rfl⟩
  exact ⟨rfl, Below.refl _ _⟩

set_option maxHeartbeats 8000000 in
set_option maxRecDepth 100000 in
theorem turns_at (a b : Int) (ha0 : 0 ≤ a) (ha1 : a < 4294967296) (hb0 : 0 ≤ b) (hb1 : b < 4294967296) (w : World) : Calls Try.prog 6 #[.int .u32 a, .int .u32 b] w fun e w' => e = .returned (.bool true) ∧ w' = w := by
  have AW := Lib.hid awake13
  have c1 := mulconj12 a b ha0 ha1 hb0 hb1
  have c2 := mulconj12 b a hb0 hb1 ha0 ha1
  have c3 := mulconj12 a a ha0 ha1 ha0 ha1
  have m1 := mul10 a b ha0 ha1 hb0 hb1
  have m2 := mul10 b a hb0 hb1 ha0 ha1
  generalize hx : s16 a = x at c1 c2 c3 m1 m2
  generalize hy : s16 (a / 65536) = y at c1 c2 c3 m1 m2
  generalize hu : s16 b = u at c1 c2 c3 m1 m2
  generalize hv : s16 (b / 65536) = v at c1 c2 c3 m1 m2
  rw [show u * x - v * y = x * u - y * v by rw [Int.mul_comm u x, Int.mul_comm v y], show u * y + v * x = x * v + y * u by rw [Int.mul_comm u y, Int.mul_comm v x]; omega] at m2
  rw [show u * x + v * y = x * u + y * v by rw [Int.mul_comm u x, Int.mul_comm v y], show v * x - u * y = -(y * u - x * v) by rw [Int.mul_comm u y, Int.mul_comm v x]; omega] at c2
  rw [show y * x - x * y = 0 by rw [Int.mul_comm y x]; omega] at c3
  have hpos : 0 ≤ dn (x * x + y * y) := by
    have p1 : 0 ≤ x * x := by rw [← Int.natAbs_mul_self (a := x)]; exact Int.natCast_nonneg _
    have p2 : 0 ≤ y * y := by rw [← Int.natAbs_mul_self (a := y)]; exact Int.natCast_nonneg _
    unfold dn; omega
  generalize x * u + y * v = re at c1 c2
  generalize y * u - x * v = im at c1 c2
  generalize x * x + y * y = q at c3 hpos
  generalize pk (x * u - y * v) (x * v + y * u) = M at m1 m2
  have hsum : -1 ≤ dn im + dn (-im) ∧ dn im + dn (-im) ≤ 0 := by unfold dn; omega
  have pXt := part18t _ (pk_in re im).1 (pk_in re im).2
  have pXf := part18f _ (pk_in re im).1 (pk_in re im).2
  have pYt := part18t _ (pk_in re (-im)).1 (pk_in re (-im)).2
  have pYf := part18f _ (pk_in re (-im)).1 (pk_in re (-im)).2
  have pOt := part18t _ (pk_in q 0).1 (pk_in q 0).2
  have pOf := part18f _ (pk_in q 0).1 (pk_in q 0).2
  rw [pk_hi] at pXt pYt pOt
  rw [pk_lo] at pXf pYf pOf
  rw [show dn 0 = 0 from rfl] at pOt
  have d1 := dn_in im
  have d2 := dn_in (-im)
  generalize pk re im = X at c1 pXt pXf
  generalize pk re (-im) = Y at c2 pYt pYf
  generalize pk q 0 = O at c3 pOt pOf
  generalize dn re = R at pXf pYf
  generalize dn im = I at pXt hsum d1
  generalize dn (-im) = J at pYt hsum d2
  generalize dn q = G at pOf hpos
  have hw : wrap64 (I + J) = I + J := by unfold wrap64; omega
  have t1 : decide (wrap64 (I + J) < -1) = false := decide_eq_false (by rw [hw]; omega)
  have t2 : decide (0 < wrap64 (I + J)) = false := decide_eq_false (by rw [hw]; omega)
  have t3 : (M != M) = false := bne_self_eq_false M
  have t4 : (R != R) = false := bne_self_eq_false R
  have t5 : decide (0 ≤ G) = true := decide_eq_true hpos
  have C1 := Lib.hid c1
  have C2 := Lib.hid c2
  have C3 := Lib.hid c3
  have M1 := Lib.hid m1
  have M2 := Lib.hid m2
  have PXt := Lib.hid pXt
  have PXf := Lib.hid pXf
  have PYt := Lib.hid pYt
  have PYf := Lib.hid pYf
  have POt := Lib.hid pOt
  have POf := Lib.hid pOf
  clear c1 c2 c3 m1 m2 pXt pXf pYt pYf pOt pOf hsum hpos d1 d2 hw ha0 ha1 hb0 hb1 hx hy hu hv
  go_enter Try.func6, Try.ntmps6
  go_wp2_with (fail)
  go_at_call 12
  refine (C1.out _).mono ?_
  rintro e w1 ⟨rfl, rfl⟩
  go_wp2_with (fail)
  go_at_call 12
  refine (C2.out _).mono ?_
  rintro e w1 ⟨rfl, rfl⟩
  go_wp2_with (fail)
  go_at_call 12
  refine (C3.out _).mono ?_
  rintro e w1 ⟨rfl, rfl⟩
  go_wp2_with (fail)
  go_at_call 18
  refine (PXt.out _).mono ?_
  rintro e w1 ⟨rfl, rfl⟩
  go_wp2_with (fail)
  go_at_call 18
  refine (PYt.out _).mono ?_
  rintro e w1 ⟨rfl, rfl⟩
  go_wp2_with (fail)
  go_at_call 10
  refine (M1.out _).mono ?_
  rintro e w1 ⟨rfl, rfl⟩
  go_wp2_with (fail)
  go_at_call 10
  refine (M2.out _).mono ?_
  rintro e w1 ⟨rfl, rfl⟩
  go_wp2_with (fail)
  go_at_call 18
  refine (PXf.out _).mono ?_
  rintro e w1 ⟨rfl, rfl⟩
  go_wp2_with (fail)
  go_at_call 18
  refine (PYf.out _).mono ?_
  rintro e w1 ⟨rfl, rfl⟩
  go_wp2_with (fail)
  go_at_call 18
  refine (POt.out _).mono ?_
  rintro e w1 ⟨rfl, rfl⟩
  go_wp2_with (fail)
  go_at_call 18
  refine (POf.out _).mono ?_
  rintro e w1 ⟨rfl, rfl⟩
  go_wp2_with (fail)
  go_at_call 13
  refine (AW.out _).mono ?_
  rintro e w1 ⟨rfl, rfl⟩
  go_wp2
  go_ret
  exact ⟨rfl, rfl⟩

theorem cplxTurns_walk (W : World) (a : Int) (wa : (Lit.int .u32 a).wf = true) (b : Int) (wb : (Lit.int .u32 b).wf = true) : Calls Try.prog 6 #[.int .u32 a, .int .u32 b] W fun e w' => e = .returned (.bool true) ∧ Below W.heap.size W w' := by
  have e1 : IntKind.u32.min = 0 := by decide
  have e2 : IntKind.u32.max = 4294967295 := by decide
  have ha := (Lit.wf_int_iff .u32 _).mp wa
  have hb := (Lit.wf_int_iff .u32 _).mp wb
  rw [e1, e2] at ha hb
  refine (turns_at a b ha.1 (by omega) hb.1 (by omega) W).mono ?_
  rintro e w' ⟨rfl, rfl⟩
  exact ⟨rfl, Below.refl _ _⟩
end Go.Proofs.Ytoofmpchcbnljaa
