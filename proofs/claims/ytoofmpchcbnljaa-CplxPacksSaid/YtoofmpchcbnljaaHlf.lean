/- The reference's Half, Down, join and Mul, walked. -/
import Derived.Test.YtoofmpchcbnljaaAwk
namespace Go.Proofs.Ytoofmpchcbnljaa
open Go.RowKit Go.Proofs.YtoofmpchcbnljaaW.PrintWords Go.Proofs.YtoofmpchcbnljaaW.PrintLast Go.Proofs.YtoofmpchcbnljaaW.PrintMore
set_option linter.unusedVariables false
set_option linter.unusedSimpArgs false

theorem tdiv_neg (v : Int) (h : v < 0) : v.tdiv 32768 = -((-v) / 32768) := by
  have : v = -(-v) := by omega
  rw [this, Int.neg_tdiv, Int.tdiv_eq_ediv_of_nonneg (by omega)]
  omega
theorem tdiv_pos (v : Int) (h : 0 ≤ v) : v.tdiv 32768 = v / 32768 := Int.tdiv_eq_ediv_of_nonneg h
theorem tmod_neg (v : Int) (h : v < 0) : v.tmod 32768 = -((-v) % 32768) := by
  have : v = -(-v) := by omega
  rw [this, Int.neg_tmod, Int.tmod_eq_emod_of_nonneg (by omega)]
  omega
set_option maxHeartbeats 4000000 in
set_option maxRecDepth 100000 in
theorem half9f (n : Int) (h0 : 0 ≤ n) (h1 : n < 4294967296) (w : World) : Calls Try.prog 9 #[.int .u32 n, .bool false] w fun e w' => e = .returned (.int .i64 (s16 n)) ∧ w' = w := by
  go_enter Try.func9, Try.ntmps9
  go_wp2_with (fail)
  all_goals
    go_ret
    refine ⟨?_, rfl⟩
    show Ending.returned (Value.int .i64 _) = Ending.returned (Value.int .i64 _)
    congr 2
    unfold s16
    try unfold wrap64 at *
    omega
set_option maxHeartbeats 4000000 in
set_option maxRecDepth 100000 in
theorem half9t (n : Int) (h0 : 0 ≤ n) (h1 : n < 4294967296) (w : World) : Calls Try.prog 9 #[.int .u32 n, .bool true] w fun e w' => e = .returned (.int .i64 (s16 (n / 65536))) ∧ w' = w := by
  go_enter Try.func9, Try.ntmps9
  go_wp2_with (fail)
  all_goals
    go_ret
    refine ⟨?_, rfl⟩
    show Ending.returned (Value.int .i64 _) = Ending.returned (Value.int .i64 _)
    congr 2
    unfold s16
    try unfold wrap64 at *
    omega
set_option maxHeartbeats 4000000 in
set_option maxRecDepth 100000 in
theorem down15 (v : Int) (h0 : -4503599627370496 ≤ v) (h1 : v ≤ 4503599627370496) (w : World) : Calls Try.prog 15 #[.int .i64 v] w fun e w' => e = .returned (.int .i64 (dn v)) ∧ w' = w := by
  go_enter Try.func15, Try.ntmps15
  go_wp2_with (fail)
  all_goals
    go_ret
    refine ⟨?_, rfl⟩
    have T1 := tdiv_neg v
    have T2 := tdiv_pos v
    have T3 := tmod_neg v
    try simp only [bne_iff_ne, ne_eq, bne_eq_false_iff_eq, beq_iff_eq] at *
    show Ending.returned (Value.int .i64 _) = Ending.returned (Value.int .i64 _)
    congr 2
    try unfold wrap64 at *
    unfold dn
    omega
set_option maxHeartbeats 4000000 in
set_option maxRecDepth 100000 in
theorem join20 (p q : Int) (hp0 : -32768 ≤ p) (hp1 : p ≤ 32767) (hq0 : -32768 ≤ q) (hq1 : q ≤ 32767) (w : World) : Calls Try.prog 20 #[.int .i64 p, .int .i64 q] w fun e w' => e = .returned (.int .u32 (p % 65536 + q % 65536 * 65536)) ∧ w' = w := by
  go_enter Try.func20, Try.ntmps20
  go_wp2_with (fail)
  all_goals
    go_ret
    refine ⟨?_, rfl⟩
    show Ending.returned (Value.int .u32 _) = Ending.returned (Value.int .u32 _)
    congr 2
    try unfold wrap64 at *
    omega

theorem mul_in (x y : Int) (hx : x.natAbs ≤ 32768) (hy : y.natAbs ≤ 32768) : -1073741824 ≤ x * y ∧ x * y ≤ 1073741824 := by
  have h := mul_le15 hx hy
  rw [← Int.natAbs_mul] at h
  omega
set_option maxHeartbeats 8000000 in
set_option maxRecDepth 100000 in
theorem ref11p (a b : Int) (ha0 : 0 ≤ a) (ha1 : a < 4294967296) (hb0 : 0 ≤ b) (hb1 : b < 4294967296) (w : World) : Calls Try.prog 11 #[.int .u32 a, .int .u32 b, .int .i64 (1)] w fun e w' =>
    e = .returned (.int .u32 (pk (s16 a * s16 b - s16 (a / 65536) * s16 (b / 65536)) (s16 a * s16 (b / 65536) + s16 (a / 65536) * s16 b))) ∧ w' = w := by
  have a1 := half9f a ha0 ha1
  have a2 := half9t a ha0 ha1
  have a3 := half9f b hb0 hb1
  have a4 := half9t b hb0 hb1
  have bx := s16_le a
  have bY := s16_le (a / 65536)
  have bu := s16_le b
  have bv := s16_le (b / 65536)
  generalize s16 a = x at *
  generalize s16 (a / 65536) = y at *
  generalize s16 b = u at *
  generalize s16 (b / 65536) = v at *
  have p1 := mul_in x u bx bu
  have p2 := mul_in y v bY bv
  have p3 := mul_in x v bx bv
  have p4 := mul_in y u bY bu
  have r1 : wrap64 (x * u) = x * u := by unfold wrap64; omega
  have r2 : wrap64 (y * v) = y * v := by unfold wrap64; omega
  have r3 : wrap64 (x * v) = x * v := by unfold wrap64; omega
  have r4 : wrap64 (y * u) = y * u := by unfold wrap64; omega
  have r5 : wrap64 (v) = v := by unfold wrap64; omega
  have r6 : wrap64 (x * u - y * v) = x * u - y * v := by unfold wrap64; omega
  have r7 : wrap64 (x * v + y * u) = x * v + y * u := by unfold wrap64; omega
  have d1 := down15 (x * u - y * v) (by omega) (by omega)
  have d2 := down15 (x * v + y * u) (by omega) (by omega)
  have j := join20 (dn (x * u - y * v)) (dn (x * v + y * u)) (dn_in _).1 (dn_in _).2 (dn_in _).1 (dn_in _).2
  have A1 := Lib.hid a1
  have A2 := Lib.hid a2
  have A3 := Lib.hid a3
  have A4 := Lib.hid a4
  have D1 := Lib.hid d1
  have D2 := Lib.hid d2
  have J := Lib.hid j
  clear a1 a2 a3 a4 d1 d2 j bx bY bu bv p1 p2 p3 p4 ha0 ha1 hb0 hb1
  go_enter Try.func11, Try.ntmps11
  go_wp2_with (fail)
  go_at_call 9
  refine (A1.out _).mono ?_
  rintro e w1 ⟨rfl, rfl⟩
  go_wp2_with (fail)
  go_at_call 9
  refine (A2.out _).mono ?_
  rintro e w1 ⟨rfl, rfl⟩
  go_wp2_with (fail)
  go_at_call 9
  refine (A3.out _).mono ?_
  rintro e w1 ⟨rfl, rfl⟩
  go_wp2_with (fail)
  go_at_call 9
  refine (A4.out _).mono ?_
  rintro e w1 ⟨rfl, rfl⟩
  go_wp2_with (fail)
  go_at_call 15
  refine (D1.out _).mono ?_
  rintro e w1 ⟨rfl, rfl⟩
  go_wp2_with (fail)
  go_at_call 15
  refine (D2.out _).mono ?_
  rintro e w1 ⟨rfl, rfl⟩
  go_wp2_with (fail)
  go_at_call 20
  refine (J.out _).mono ?_
  rintro e w1 ⟨rfl, rfl⟩
  go_wp2
  go_ret
  exact ⟨rfl, rfl⟩
set_option maxHeartbeats 8000000 in
set_option maxRecDepth 100000 in
theorem ref11m (a b : Int) (ha0 : 0 ≤ a) (ha1 : a < 4294967296) (hb0 : 0 ≤ b) (hb1 : b < 4294967296) (w : World) : Calls Try.prog 11 #[.int .u32 a, .int .u32 b, .int .i64 (-1)] w fun e w' =>
    e = .returned (.int .u32 (pk (s16 a * s16 b + s16 (a / 65536) * s16 (b / 65536)) (s16 (a / 65536) * s16 b - s16 a * s16 (b / 65536)))) ∧ w' = w := by
  have a1 := half9f a ha0 ha1
  have a2 := half9t a ha0 ha1
  have a3 := half9f b hb0 hb1
  have a4 := half9t b hb0 hb1
  have bx := s16_le a
  have bY := s16_le (a / 65536)
  have bu := s16_le b
  have bv := s16_le (b / 65536)
  generalize s16 a = x at *
  generalize s16 (a / 65536) = y at *
  generalize s16 b = u at *
  generalize s16 (b / 65536) = v at *
  have p1 := mul_in x u bx bu
  have p2 := mul_in y v bY bv
  have p3 := mul_in x v bx bv
  have p4 := mul_in y u bY bu
  have r1 : wrap64 (x * u) = x * u := by unfold wrap64; omega
  have r2 : wrap64 (y * (-v)) = y * (-v) := by rw [Int.mul_neg]; unfold wrap64; omega
  have r3 : wrap64 (x * (-v)) = x * (-v) := by rw [Int.mul_neg]; unfold wrap64; omega
  have r4 : wrap64 (y * u) = y * u := by unfold wrap64; omega
  have r5 : wrap64 (-v) = -v := by unfold wrap64; omega
  have r6 : wrap64 (x * u - y * (-v)) = x * u + y * v := by rw [Int.mul_neg]; unfold wrap64; omega
  have r7 : wrap64 (x * (-v) + y * u) = y * u - x * v := by rw [Int.mul_neg]; unfold wrap64; omega
  have d1 := down15 (x * u + y * v) (by omega) (by omega)
  have d2 := down15 (y * u - x * v) (by omega) (by omega)
  have j := join20 (dn (x * u + y * v)) (dn (y * u - x * v)) (dn_in _).1 (dn_in _).2 (dn_in _).1 (dn_in _).2
  have A1 := Lib.hid a1
  have A2 := Lib.hid a2
  have A3 := Lib.hid a3
  have A4 := Lib.hid a4
  have D1 := Lib.hid d1
  have D2 := Lib.hid d2
  have J := Lib.hid j
  clear a1 a2 a3 a4 d1 d2 j bx bY bu bv p1 p2 p3 p4 ha0 ha1 hb0 hb1
  go_enter Try.func11, Try.ntmps11
  go_wp2_with (fail)
  go_at_call 9
  refine (A1.out _).mono ?_
  rintro e w1 ⟨rfl, rfl⟩
  go_wp2_with (fail)
  go_at_call 9
  refine (A2.out _).mono ?_
  rintro e w1 ⟨rfl, rfl⟩
  go_wp2_with (fail)
  go_at_call 9
  refine (A3.out _).mono ?_
  rintro e w1 ⟨rfl, rfl⟩
  go_wp2_with (fail)
  go_at_call 9
  refine (A4.out _).mono ?_
  rintro e w1 ⟨rfl, rfl⟩
  go_wp2_with (fail)
  go_at_call 15
  refine (D1.out _).mono ?_
  rintro e w1 ⟨rfl, rfl⟩
  go_wp2_with (fail)
  go_at_call 15
  refine (D2.out _).mono ?_
  rintro e w1 ⟨rfl, rfl⟩
  go_wp2_with (fail)
  go_at_call 20
  refine (J.out _).mono ?_
  rintro e w1 ⟨rfl, rfl⟩
  go_wp2
  go_ret
  exact ⟨rfl, rfl⟩
end Go.Proofs.Ytoofmpchcbnljaa
