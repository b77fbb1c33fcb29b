/- BitsPuts, walked: whether the two fields meet or not, the law answers true. -/
import Derived.Test.YtoljlbfjjemldaaDoorAwake
import Derived.Test.YtoljlbfjjemldaaDoorRef
namespace Go.Proofs.YtoljlbfjjemldaaDoor
open Go.RowKit Go.Proofs.YtoljlbfjjemldaaDoorW.PrintWords Go.Proofs.YtoljlbfjjemldaaDoorW.PrintLast Go.Proofs.YtoljlbfjjemldaaDoorW.PrintMore
open Go.Proofs.YtoljlbfjjemldaaDoor.PBitsFields

set_option maxHeartbeats 8000000 in
set_option maxRecDepth 100000 in
theorem puts_walk_meet (x v p n q m y g1 g2 : Int) (a k b l : Nat) (w : World) (hG : Glob w) (p0 : 0 ≤ p) (p1 : p ≤ 255) (n0 : 0 ≤ n) (n1 : n ≤ 255) (q0 : 0 ≤ q) (q1 : q ≤ 255) (m0 : 0 ≤ m) (m1 : m ≤ 255)
    (ha : p % 33 = (a : Int)) (hk : n % (33 - (a : Int)) = (k : Int)) (hb : q % 33 = (b : Int)) (hl : m % (33 - (b : Int)) = (l : Int))
    (Hp1 : ∀ W, Calls Tryd.prog 20 #[.int .u32 x, .int .i64 a, .int .i64 k, .int .u32 v] W fun e w' => e = .returned (.int .u32 y) ∧ Below W.heap.size W w')
    (Hq1 : ∀ W, Calls Tryd.prog 18 #[.int .u32 y, .int .i64 a, .int .i64 k] W fun e w' => e = .returned (.int .u32 g1) ∧ Below W.heap.size W w')
    (Hq2 : ∀ W, Calls Tryd.prog 18 #[.int .u32 v, .int .i64 0, .int .i64 k] W fun e w' => e = .returned (.int .u32 g1) ∧ Below W.heap.size W w')
    (Hp2 : ∀ W, Calls Tryd.prog 20 #[.int .u32 y, .int .i64 a, .int .i64 k, .int .u32 v] W fun e w' => e = .returned (.int .u32 y) ∧ Below W.heap.size W w')
    (Hq3 : ∀ W, Calls Tryd.prog 18 #[.int .u32 x, .int .i64 a, .int .i64 k] W fun e w' => e = .returned (.int .u32 g2) ∧ Below W.heap.size W w')
    (Hp3 : ∀ W, Calls Tryd.prog 20 #[.int .u32 x, .int .i64 a, .int .i64 k, .int .u32 g2] W fun e w' => e = .returned (.int .u32 x) ∧ Below W.heap.size W w')
    (t1 : decide ((b : Int) < a + k) = true)
    (t2 : decide ((a : Int) < b + l) = true)
    : Calls Tryd.prog 7 #[.int .u32 x, .int .u32 v, .int .u8 p, .int .u8 n, .int .u8 q, .int .u8 m] w fun e w' => e = .returned (.bool true) ∧ Below w.heap.size w w' := by
  have Hp1' := Lib.hid Hp1
  clear Hp1
  have Hq1' := Lib.hid Hq1
  clear Hq1
  have Hq2' := Lib.hid Hq2
  clear Hq2
  have Hp2' := Lib.hid Hp2
  clear Hp2
  have Hq3' := Lib.hid Hq3
  clear Hq3
  have Hp3' := Lib.hid Hp3
  clear Hp3
  have t1' := Lib.hid t1
  have t2' := Lib.hid t2
  clear t1
  clear t2
  have ka : (k : Int) < 33 - (a : Int) := by rw [← hk]; exact Int.emod_lt_of_pos _ (by omega)
  have lb : (l : Int) < 33 - (b : Int) := by rw [← hl]; exact Int.emod_lt_of_pos _ (by omega)
  have a33 : (a : Int) < 33 := by omega
  have b33 : (b : Int) < 33 := by omega
  have ha' := Lib.hid ha
  have hk' := Lib.hid hk
  have hb' := Lib.hid hb
  have hl' := Lib.hid hl
  clear ha hk hb hl
  have hB0 := Below.refl w.heap.size w
  have hG0 := hG
  go_enter Tryd.func7, Tryd.ntmps7
  go_wp2_with (fail)
  go_at_call 20
  simp only [ha'.out, hk'.out, hb'.out, hl'.out]
  refine (Hp1'.out _).mono ?_
  rintro e w1 ⟨rfl, hd⟩
  have hb := hd
  have hG1 := hG0.later hb
  have hB1 := hB0.trans (hb.mono hB0.size)
  clear hd hb
  go_wp2_with (fail)
  go_at_call 18
  refine (Hq1'.out _).mono ?_
  rintro e w2 ⟨rfl, hd⟩
  have hb := hd
  have hG2 := hG1.later hb
  have hB2 := hB1.trans (hb.mono hB1.size)
  clear hd hb
  go_wp2_with (fail)
  go_at_call 18
  refine (Hq2'.out _).mono ?_
  rintro e w3 ⟨rfl, hd⟩
  have hb := hd
  have hG3 := hG2.later hb
  have hB3 := hB2.trans (hb.mono hB2.size)
  clear hd hb
  go_wp2_with (fail)
  go_at_call 20
  refine (Hp2'.out _).mono ?_
  rintro e w4 ⟨rfl, hd⟩
  have hb := hd
  have hG4 := hG3.later hb
  have hB4 := hB3.trans (hb.mono hB3.size)
  clear hd hb
  go_wp2_with (fail)
  go_at_call 18
  refine (Hq3'.out _).mono ?_
  rintro e w5 ⟨rfl, hd⟩
  have hb := hd
  have hG5 := hG4.later hb
  have hB5 := hB4.trans (hb.mono hB4.size)
  clear hd hb
  go_wp2_with (fail)
  go_at_call 20
  refine (Hp3'.out _).mono ?_
  rintro e w6 ⟨rfl, hd⟩
  have hb := hd
  have hG6 := hG5.later hb
  have hB6 := hB5.trans (hb.mono hB5.size)
  clear hd hb
  have t1 := t1'.out
  have t2 := t2'.out
  go_wp2_with (fail)
  go_at_call 15
  refine (awake_calls _ hG6).mono ?_
  rintro e w7 ⟨rfl, hd⟩
  have hb := hd
  have hG7 := hG6.later hb
  have hB7 := hB6.trans (hb.mono hB6.size)
  clear hd hb
  go_wp2
  go_ret
  exact ⟨rfl, hB7⟩

set_option maxHeartbeats 8000000 in
set_option maxRecDepth 100000 in
theorem puts_walk_low (x v p n q m y g1 g2 g3 : Int) (a k b l : Nat) (w : World) (hG : Glob w) (p0 : 0 ≤ p) (p1 : p ≤ 255) (n0 : 0 ≤ n) (n1 : n ≤ 255) (q0 : 0 ≤ q) (q1 : q ≤ 255) (m0 : 0 ≤ m) (m1 : m ≤ 255)
    (ha : p % 33 = (a : Int)) (hk : n % (33 - (a : Int)) = (k : Int)) (hb : q % 33 = (b : Int)) (hl : m % (33 - (b : Int)) = (l : Int))
    (Hp1 : ∀ W, Calls Tryd.prog 20 #[.int .u32 x, .int .i64 a, .int .i64 k, .int .u32 v] W fun e w' => e = .returned (.int .u32 y) ∧ Below W.heap.size W w')
    (Hq1 : ∀ W, Calls Tryd.prog 18 #[.int .u32 y, .int .i64 a, .int .i64 k] W fun e w' => e = .returned (.int .u32 g1) ∧ Below W.heap.size W w')
    (Hq2 : ∀ W, Calls Tryd.prog 18 #[.int .u32 v, .int .i64 0, .int .i64 k] W fun e w' => e = .returned (.int .u32 g1) ∧ Below W.heap.size W w')
    (Hp2 : ∀ W, Calls Tryd.prog 20 #[.int .u32 y, .int .i64 a, .int .i64 k, .int .u32 v] W fun e w' => e = .returned (.int .u32 y) ∧ Below W.heap.size W w')
    (Hq3 : ∀ W, Calls Tryd.prog 18 #[.int .u32 x, .int .i64 a, .int .i64 k] W fun e w' => e = .returned (.int .u32 g2) ∧ Below W.heap.size W w')
    (Hp3 : ∀ W, Calls Tryd.prog 20 #[.int .u32 x, .int .i64 a, .int .i64 k, .int .u32 g2] W fun e w' => e = .returned (.int .u32 x) ∧ Below W.heap.size W w')
    (Hq4 : ∀ W, Calls Tryd.prog 18 #[.int .u32 y, .int .i64 b, .int .i64 l] W fun e w' => e = .returned (.int .u32 g3) ∧ Below W.heap.size W w')
    (Hq5 : ∀ W, Calls Tryd.prog 18 #[.int .u32 x, .int .i64 b, .int .i64 l] W fun e w' => e = .returned (.int .u32 g3) ∧ Below W.heap.size W w')
    (t1 : decide ((b : Int) < a + k) = false)
    : Calls Tryd.prog 7 #[.int .u32 x, .int .u32 v, .int .u8 p, .int .u8 n, .int .u8 q, .int .u8 m] w fun e w' => e = .returned (.bool true) ∧ Below w.heap.size w w' := by
  have Hp1' := Lib.hid Hp1
  clear Hp1
  have Hq1' := Lib.hid Hq1
  clear Hq1
  have Hq2' := Lib.hid Hq2
  clear Hq2
  have Hp2' := Lib.hid Hp2
  clear Hp2
  have Hq3' := Lib.hid Hq3
  clear Hq3
  have Hp3' := Lib.hid Hp3
  clear Hp3
  have Hq4' := Lib.hid Hq4
  clear Hq4
  have Hq5' := Lib.hid Hq5
  clear Hq5
  have t1' := Lib.hid t1
  clear t1
  have ka : (k : Int) < 33 - (a : Int) := by rw [← hk]; exact Int.emod_lt_of_pos _ (by omega)
  have lb : (l : Int) < 33 - (b : Int) := by rw [← hl]; exact Int.emod_lt_of_pos _ (by omega)
  have a33 : (a : Int) < 33 := by omega
  have b33 : (b : Int) < 33 := by omega
  have ha' := Lib.hid ha
  have hk' := Lib.hid hk
  have hb' := Lib.hid hb
  have hl' := Lib.hid hl
  clear ha hk hb hl
  have hB0 := Below.refl w.heap.size w
  have hG0 := hG
  go_enter Tryd.func7, Tryd.ntmps7
  go_wp2_with (fail)
  go_at_call 20
  simp only [ha'.out, hk'.out, hb'.out, hl'.out]
  refine (Hp1'.out _).mono ?_
  rintro e w1 ⟨rfl, hd⟩
  have hb := hd
  have hG1 := hG0.later hb
  have hB1 := hB0.trans (hb.mono hB0.size)
  clear hd hb
  go_wp2_with (fail)
  go_at_call 18
  refine (Hq1'.out _).mono ?_
  rintro e w2 ⟨rfl, hd⟩
  have hb := hd
  have hG2 := hG1.later hb
  have hB2 := hB1.trans (hb.mono hB1.size)
  clear hd hb
  go_wp2_with (fail)
  go_at_call 18
  refine (Hq2'.out _).mono ?_
  rintro e w3 ⟨rfl, hd⟩
  have hb := hd
  have hG3 := hG2.later hb
  have hB3 := hB2.trans (hb.mono hB2.size)
  clear hd hb
  go_wp2_with (fail)
  go_at_call 20
  refine (Hp2'.out _).mono ?_
  rintro e w4 ⟨rfl, hd⟩
  have hb := hd
  have hG4 := hG3.later hb
  have hB4 := hB3.trans (hb.mono hB3.size)
  clear hd hb
  go_wp2_with (fail)
  go_at_call 18
  refine (Hq3'.out _).mono ?_
  rintro e w5 ⟨rfl, hd⟩
  have hb := hd
  have hG5 := hG4.later hb
  have hB5 := hB4.trans (hb.mono hB4.size)
  clear hd hb
  go_wp2_with (fail)
  go_at_call 20
  refine (Hp3'.out _).mono ?_
  rintro e w6 ⟨rfl, hd⟩
  have hb := hd
  have hG6 := hG5.later hb
  have hB6 := hB5.trans (hb.mono hB5.size)
  clear hd hb
  have t1 := t1'.out
  go_wp2_with (fail)
  go_at_call 18
  refine (Hq4'.out _).mono ?_
  rintro e w7 ⟨rfl, hd⟩
  have hb := hd
  have hG7 := hG6.later hb
  have hB7 := hB6.trans (hb.mono hB6.size)
  clear hd hb
  go_wp2_with (fail)
  go_at_call 18
  refine (Hq5'.out _).mono ?_
  rintro e w8 ⟨rfl, hd⟩
  have hb := hd
  have hG8 := hG7.later hb
  have hB8 := hB7.trans (hb.mono hB7.size)
  clear hd hb
  go_wp2_with (fail)
  go_at_call 15
  refine (awake_calls _ hG8).mono ?_
  rintro e w9 ⟨rfl, hd⟩
  have hb := hd
  have hG9 := hG8.later hb
  have hB9 := hB8.trans (hb.mono hB8.size)
  clear hd hb
  go_wp2
  go_ret
  exact ⟨rfl, hB9⟩

set_option maxHeartbeats 8000000 in
set_option maxRecDepth 100000 in
theorem puts_walk_high (x v p n q m y g1 g2 g3 : Int) (a k b l : Nat) (w : World) (hG : Glob w) (p0 : 0 ≤ p) (p1 : p ≤ 255) (n0 : 0 ≤ n) (n1 : n ≤ 255) (q0 : 0 ≤ q) (q1 : q ≤ 255) (m0 : 0 ≤ m) (m1 : m ≤ 255)
    (ha : p % 33 = (a : Int)) (hk : n % (33 - (a : Int)) = (k : Int)) (hb : q % 33 = (b : Int)) (hl : m % (33 - (b : Int)) = (l : Int))
    (Hp1 : ∀ W, Calls Tryd.prog 20 #[.int .u32 x, .int .i64 a, .int .i64 k, .int .u32 v] W fun e w' => e = .returned (.int .u32 y) ∧ Below W.heap.size W w')
    (Hq1 : ∀ W, Calls Tryd.prog 18 #[.int .u32 y, .int .i64 a, .int .i64 k] W fun e w' => e = .returned (.int .u32 g1) ∧ Below W.heap.size W w')
    (Hq2 : ∀ W, Calls Tryd.prog 18 #[.int .u32 v, .int .i64 0, .int .i64 k] W fun e w' => e = .returned (.int .u32 g1) ∧ Below W.heap.size W w')
    (Hp2 : ∀ W, Calls Tryd.prog 20 #[.int .u32 y, .int .i64 a, .int .i64 k, .int .u32 v] W fun e w' => e = .returned (.int .u32 y) ∧ Below W.heap.size W w')
    (Hq3 : ∀ W, Calls Tryd.prog 18 #[.int .u32 x, .int .i64 a, .int .i64 k] W fun e w' => e = .returned (.int .u32 g2) ∧ Below W.heap.size W w')
    (Hp3 : ∀ W, Calls Tryd.prog 20 #[.int .u32 x, .int .i64 a, .int .i64 k, .int .u32 g2] W fun e w' => e = .returned (.int .u32 x) ∧ Below W.heap.size W w')
    (Hq4 : ∀ W, Calls Tryd.prog 18 #[.int .u32 y, .int .i64 b, .int .i64 l] W fun e w' => e = .returned (.int .u32 g3) ∧ Below W.heap.size W w')
    (Hq5 : ∀ W, Calls Tryd.prog 18 #[.int .u32 x, .int .i64 b, .int .i64 l] W fun e w' => e = .returned (.int .u32 g3) ∧ Below W.heap.size W w')
    (t1 : decide ((b : Int) < a + k) = true)
    (t2 : decide ((a : Int) < b + l) = false)
    : Calls Tryd.prog 7 #[.int .u32 x, .int .u32 v, .int .u8 p, .int .u8 n, .int .u8 q, .int .u8 m] w fun e w' => e = .returned (.bool true) ∧ Below w.heap.size w w' := by
  have Hp1' := Lib.hid Hp1
  clear Hp1
  have Hq1' := Lib.hid Hq1
  clear Hq1
  have Hq2' := Lib.hid Hq2
  clear Hq2
  have Hp2' := Lib.hid Hp2
  clear Hp2
  have Hq3' := Lib.hid Hq3
  clear Hq3
  have Hp3' := Lib.hid Hp3
  clear Hp3
  have Hq4' := Lib.hid Hq4
  clear Hq4
  have Hq5' := Lib.hid Hq5
  clear Hq5
  have t1' := Lib.hid t1
  have t2' := Lib.hid t2
  clear t1
  clear t2
  have ka : (k : Int) < 33 - (a : Int) := by rw [← hk]; exact Int.emod_lt_of_pos _ (by omega)
  have lb : (l : Int) < 33 - (b : Int) := by rw [← hl]; exact Int.emod_lt_of_pos _ (by omega)
  have a33 : (a : Int) < 33 := by omega
  have b33 : (b : Int) < 33 := by omega
  have ha' := Lib.hid ha
  have hk' := Lib.hid hk
  have hb' := Lib.hid hb
  have hl' := Lib.hid hl
  clear ha hk hb hl
  have hB0 := Below.refl w.heap.size w
  have hG0 := hG
  go_enter Tryd.func7, Tryd.ntmps7
  go_wp2_with (fail)
  go_at_call 20
  simp only [ha'.out, hk'.out, hb'.out, hl'.out]
  refine (Hp1'.out _).mono ?_
  rintro e w1 ⟨rfl, hd⟩
  have hb := hd
  have hG1 := hG0.later hb
  have hB1 := hB0.trans (hb.mono hB0.size)
  clear hd hb
  go_wp2_with (fail)
  go_at_call 18
  refine (Hq1'.out _).mono ?_
  rintro e w2 ⟨rfl, hd⟩
  have hb := hd
  have hG2 := hG1.later hb
  have hB2 := hB1.trans (hb.mono hB1.size)
  clear hd hb
  go_wp2_with (fail)
  go_at_call 18
  refine (Hq2'.out _).mono ?_
  rintro e w3 ⟨rfl, hd⟩
  have hb := hd
  have hG3 := hG2.later hb
  have hB3 := hB2.trans (hb.mono hB2.size)
  clear hd hb
  go_wp2_with (fail)
  go_at_call 20
  refine (Hp2'.out _).mono ?_
  rintro e w4 ⟨rfl, hd⟩
  have hb := hd
  have hG4 := hG3.later hb
  have hB4 := hB3.trans (hb.mono hB3.size)
  clear hd hb
  go_wp2_with (fail)
  go_at_call 18
  refine (Hq3'.out _).mono ?_
  rintro e w5 ⟨rfl, hd⟩
  have hb := hd
  have hG5 := hG4.later hb
  have hB5 := hB4.trans (hb.mono hB4.size)
  clear hd hb
  go_wp2_with (fail)
  go_at_call 20
  refine (Hp3'.out _).mono ?_
  rintro e w6 ⟨rfl, hd⟩
  have hb := hd
  have hG6 := hG5.later hb
  have hB6 := hB5.trans (hb.mono hB5.size)
  clear hd hb
  have t1 := t1'.out
  have t2 := t2'.out
  go_wp2_with (fail)
  go_at_call 18
  refine (Hq4'.out _).mono ?_
  rintro e w7 ⟨rfl, hd⟩
  have hb := hd
  have hG7 := hG6.later hb
  have hB7 := hB6.trans (hb.mono hB6.size)
  clear hd hb
  go_wp2_with (fail)
  go_at_call 18
  refine (Hq5'.out _).mono ?_
  rintro e w8 ⟨rfl, hd⟩
  have hb := hd
  have hG8 := hG7.later hb
  have hB8 := hB7.trans (hb.mono hB7.size)
  clear hd hb
  go_wp2_with (fail)
  go_at_call 15
  refine (awake_calls _ hG8).mono ?_
  rintro e w9 ⟨rfl, hd⟩
  have hb := hd
  have hG9 := hG8.later hb
  have hB9 := hB8.trans (hb.mono hB8.size)
  clear hd hb
  go_wp2
  go_ret
  exact ⟨rfl, hB9⟩
end Go.Proofs.YtoljlbfjjemldaaDoor
