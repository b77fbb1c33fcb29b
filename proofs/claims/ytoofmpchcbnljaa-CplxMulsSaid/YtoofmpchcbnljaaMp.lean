/- The laws CplxMuls and CplxPacks, walked. -/
import Derived.Test.YtoofmpchcbnljaaHlf
namespace Go.Proofs.Ytoofmpchcbnljaa
open Go.RowKit Go.Proofs.YtoofmpchcbnljaaW.PrintWords Go.Proofs.YtoofmpchcbnljaaW.PrintLast Go.Proofs.YtoofmpchcbnljaaW.PrintMore
set_option linter.unusedVariables false
set_option linter.unusedSimpArgs false

theorem order_self (v : Int) (h : v.natAbs < 9007199254740992) : ((FloatKind.f64.format.order (floatOfInt .f64 v) (floatOfInt .f64 v)) != some Ordering.eq) = false := by
  have := order_E (decide (v < 0)) (decide (v < 0)) v.natAbs v.natAbs h h
  have h2 : FloatKind.f64.format.order (floatOfInt .f64 v) (floatOfInt .f64 v) = some (compare (sv (decide (v < 0)) v.natAbs) (sv (decide (v < 0)) v.natAbs)) := this
  rw [h2]
  simp [compare, compareOfLessAndEq]

set_option maxHeartbeats 8000000 in
set_option maxRecDepth 100000 in
theorem muls_at (a b : Int) (ha0 : 0 ≤ a) (ha1 : a < 4294967296) (hb0 : 0 ≤ b) (hb1 : b < 4294967296) (w : World) : Calls Try.prog 3 #[.int .u32 a, .int .u32 b] w fun e w' => e = .returned (.bool true) ∧ w' = w := by
  have AW := Lib.hid awake13
  have o1 := of8 a ha0 ha1
  rw [← F_of, ← F_of] at o1
  have a1 := half9f a ha0 ha1
  have a2 := half9t a ha0 ha1
  have m1 := mul10 a b ha0 ha1 hb0 hb1
  have m2 := mulconj12 a b ha0 ha1 hb0 hb1
  have r1 := ref11p a b ha0 ha1 hb0 hb1
  have r2 := ref11m a b ha0 ha1 hb0 hb1
  have q1 := order_self (s16 a) (by have := s16_le a; omega)
  have q2 := order_self (s16 (a / 65536)) (by have := s16_le (a / 65536); omega)
  generalize pk (s16 a * s16 b - s16 (a / 65536) * s16 (b / 65536)) (s16 a * s16 (b / 65536) + s16 (a / 65536) * s16 b) = M at m1 r1
  generalize pk (s16 a * s16 b + s16 (a / 65536) * s16 (b / 65536)) (s16 (a / 65536) * s16 b - s16 a * s16 (b / 65536)) = N at m2 r2
  generalize s16 a = x at *
  generalize s16 (a / 65536) = y at *
  have t1 : (M == M) = true := beq_self_eq_true M
  have t2 : (N == N) = true := beq_self_eq_true N
  have O1 := Lib.hid o1
  have A1 := Lib.hid a1
  have A2 := Lib.hid a2
  have M1 := Lib.hid m1
  have M2 := Lib.hid m2
  have R1 := Lib.hid r1
  have R2 := Lib.hid r2
  clear o1 a1 a2 m1 m2 r1 r2 ha0 ha1 hb0 hb1
  go_enter Try.func3, Try.ntmps3
  go_wp2_with (fail)
  go_at_call 8
  refine (O1.out _).mono ?_
  rintro e w1 ⟨rfl, rfl⟩
  go_wp2_with (fail)
  go_at_call 9
  refine (A1.out _).mono ?_
  rintro e w1 ⟨rfl, rfl⟩
  go_wp2_with (fail)
  go_at_call 9
  refine (A2.out _).mono ?_
  rintro e w1 ⟨rfl, rfl⟩
  go_wp2_with (fail)
  go_at_call 10
  refine (M1.out _).mono ?_
  rintro e w1 ⟨rfl, rfl⟩
  go_wp2_with (fail)
  go_at_call 11
  refine (R1.out _).mono ?_
  rintro e w1 ⟨rfl, rfl⟩
  go_wp2_with (fail)
  go_at_call 12
  refine (M2.out _).mono ?_
  rintro e w1 ⟨rfl, rfl⟩
  go_wp2_with (fail)
  go_at_call 11
  refine (R2.out _).mono ?_
  rintro e w1 ⟨rfl, rfl⟩
  go_wp2_with (fail)
  go_at_call 13
  refine (AW.out _).mono ?_
  rintro e w1 ⟨rfl, rfl⟩
  go_wp2
  go_ret
  exact ⟨rfl, rfl⟩

theorem cplxMuls_walk (W : World) (a : Int) (wa : (Lit.int .u32 a).wf = true) (b : Int) (wb : (Lit.int .u32 b).wf = true) : Calls Try.prog 3 #[.int .u32 a, .int .u32 b] W fun e w' => e = .returned (.bool true) ∧ Below W.heap.size W w' := by
  have e1 : IntKind.u32.min = 0 := by decide
  have e2 : IntKind.u32.max = 4294967295 := by decide
  have ha := (Lit.wf_int_iff .u32 _).mp wa
  have hb := (Lit.wf_int_iff .u32 _).mp wb
  rw [e1, e2] at ha hb
  refine (muls_at a b ha.1 (by omega) hb.1 (by omega) W).mono ?_
  rintro e w' ⟨rfl, rfl⟩
  exact ⟨rfl, Below.refl _ _⟩

theorem tmod_lt (a : Int) : -1125899906842624 < a.tmod 1125899906842624 ∧ a.tmod 1125899906842624 < 1125899906842624 := by
  constructor
  · have := Int.lt_tmod_of_pos a (show (0 : Int) < 1125899906842624 by decide)
    omega
  · exact Int.tmod_lt_of_pos a (by decide)

set_option maxHeartbeats 8000000 in
set_option maxRecDepth 100000 in
theorem cplxPacks_walk (W : World) (a : Int) (wa : (Lit.int .i64 a).wf = true) (b : Int) (wb : (Lit.int .i64 b).wf = true) : Calls Try.prog 4 #[.int .i64 a, .int .i64 b] W fun e w' => e = .returned (.bool true) ∧ Below W.heap.size W w' := by
  have AW := Lib.hid awake13
  have hX := tmod_lt a
  have hY := tmod_lt b
  have p := pack14 (decide (a.tmod 1125899906842624 < 0)) (decide (b.tmod 1125899906842624 < 0)) (a.tmod 1125899906842624).natAbs (b.tmod 1125899906842624).natAbs (by omega) (by omega)
  rw [sv_F, sv_F] at p
  have d1 := down15 (a.tmod 1125899906842624) (by omega) (by omega)
  have d2 := down15 (b.tmod 1125899906842624) (by omega) (by omega)
  have p' : ∀ w : World, Calls Try.prog 14 #[.complex .f64 (floatOfInt .f64 (a.tmod 1125899906842624)) (floatOfInt .f64 (b.tmod 1125899906842624))] w fun e w' => e = .returned (.int .u32 (pk (a.tmod 1125899906842624) (b.tmod 1125899906842624))) ∧ w' = w := p
  have h1 := half9f _ (pk_in (a.tmod 1125899906842624) (b.tmod 1125899906842624)).1 (pk_in _ _).2
  have h2 := half9t _ (pk_in (a.tmod 1125899906842624) (b.tmod 1125899906842624)).1 (pk_in _ _).2
  rw [pk_lo] at h1
  rw [pk_hi] at h2
  generalize pk (a.tmod 1125899906842624) (b.tmod 1125899906842624) = M at p' h1 h2
  generalize dn (a.tmod 1125899906842624) = I at h1 d1
  generalize dn (b.tmod 1125899906842624) = J at h2 d2
  have t1 : (I == I) = true := beq_self_eq_true I
  have t2 : (J == J) = true := beq_self_eq_true J
  have P := Lib.hid p'
  have H1 := Lib.hid h1
  have H2 := Lib.hid h2
  have D1 := Lib.hid d1
  have D2 := Lib.hid d2
  clear p p' h1 h2 d1 d2 hX hY wa wb
  go_enter Try.func4, Try.ntmps4
  go_wp2_with (fail)
  go_at_call 14
  refine (P.out _).mono ?_
  rintro e w1 ⟨rfl, rfl⟩
  go_wp2_with (fail)
  go_at_call 9
  refine (H1.out _).mono ?_
  rintro e w1 ⟨rfl, rfl⟩
  go_wp2_with (fail)
  go_at_call 15
  refine (D1.out _).mono ?_
  rintro e w1 ⟨rfl, rfl⟩
  go_wp2_with (fail)
  go_at_call 9
  refine (H2.out _).mono ?_
  rintro e w1 ⟨rfl, rfl⟩
  go_wp2_with (fail)
  go_at_call 15
  refine (D2.out _).mono ?_
  rintro e w1 ⟨rfl, rfl⟩
  go_wp2_with (fail)
  go_at_call 13
  refine (AW.out _).mono ?_
  rintro e w1 ⟨rfl, rfl⟩
  go_wp2
  go_ret
  exact ⟨rfl, Below.refl _ _⟩
end Go.Proofs.Ytoofmpchcbnljaa
