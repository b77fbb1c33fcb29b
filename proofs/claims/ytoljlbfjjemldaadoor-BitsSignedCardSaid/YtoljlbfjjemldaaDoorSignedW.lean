/- BitsSigned, walked: in each of the four cases (what fits, signed and not) the law answers true. -/
import Derived.Test.YtoljlbfjjemldaaDoorAwake
import Derived.Test.YtoljlbfjjemldaaDoorFitsN
namespace Go.Proofs.YtoljlbfjjemldaaDoor
open Go.RowKit Go.Proofs.YtoljlbfjjemldaaDoorW.PrintWords Go.Proofs.YtoljlbfjjemldaaDoorW.PrintLast Go.Proofs.YtoljlbfjjemldaaDoorW.PrintMore
open Go.Proofs.YtoljlbfjjemldaaDoor.PBitsFields

set_option maxHeartbeats 8000000 in
set_option maxRecDepth 100000 in
theorem signed_walk_true_true (z x n s g1 g2 g3 g4 : Int) (k c : Nat) (w : World) (hG : Glob w) (hn0 : 0 ≤ n) (hn1 : n ≤ 255) (hs0 : 0 ≤ s) (hs1 : s ≤ 255) (g2b : 0 ≤ g2 ∧ g2 < 4294967296) (g4b : 0 ≤ g4 ∧ g4 < 4294967296)
    (hk : n % 32 + 1 = (k : Int)) (hc : s % 9 = (c : Int))
    (Hf1 : ∀ W, Calls Tryd.prog 16 #[.int .i64 z, .int .i64 k, .int .i64 c, .bool true] W fun e w' => e = .returned (.bool true) ∧ Below W.heap.size W w')
    (Hs1 : ∀ W, Calls Tryd.prog 17 #[.int .u32 (z / 2 ^ c % 4294967296), .int .i64 k] W fun e w' => e = .returned (.int .i64 g1) ∧ Below W.heap.size W w')
    (Hf2 : ∀ W, Calls Tryd.prog 16 #[.int .i64 z, .int .i64 k, .int .i64 c, .bool false] W fun e w' => e = .returned (.bool true) ∧ Below W.heap.size W w')
    (Hg2 : ∀ W, Calls Tryd.prog 18 #[.int .u32 (z / 2 ^ c % 4294967296), .int .i64 0, .int .i64 k] W fun e w' => e = .returned (.int .u32 g2) ∧ Below W.heap.size W w')
    (Hs3 : ∀ W, Calls Tryd.prog 17 #[.int .u32 x, .int .i64 k] W fun e w' => e = .returned (.int .i64 g3) ∧ Below W.heap.size W w')
    (Hf3 : ∀ W, Calls Tryd.prog 16 #[.int .i64 (wrap64 (g3 * 2 ^ c)), .int .i64 k, .int .i64 c, .bool true] W fun e w' => e = .returned (.bool true) ∧ Below W.heap.size W w')
    (Hg4 : ∀ W, Calls Tryd.prog 18 #[.int .u32 x, .int .i64 0, .int .i64 k] W fun e w' => e = .returned (.int .u32 g4) ∧ Below W.heap.size W w')
    (Hf4 : ∀ W, Calls Tryd.prog 16 #[.int .i64 (wrap64 (g4 * 2 ^ c)), .int .i64 k, .int .i64 c, .bool false] W fun e w' => e = .returned (.bool true) ∧ Below W.heap.size W w')
    (t1 : (wrap64 (g1 * 2 ^ c) != z) = false)
    (t2 : (wrap64 (g2 * 2 ^ c) != z) = false)
    : Calls Tryd.prog 4 #[.int .i64 z, .int .u32 x, .int .u8 n, .int .u8 s] w fun e w' => e = .returned (.bool true) ∧ Below w.heap.size w w' := by
  have Hf1' := Lib.hid Hf1
  clear Hf1
  have Hs1' := Lib.hid Hs1
  clear Hs1
  have Hf2' := Lib.hid Hf2
  clear Hf2
  have Hg2' := Lib.hid Hg2
  clear Hg2
  have Hs3' := Lib.hid Hs3
  clear Hs3
  have Hf3' := Lib.hid Hf3
  clear Hf3
  have Hg4' := Lib.hid Hg4
  clear Hg4
  have Hf4' := Lib.hid Hf4
  clear Hf4
  have hk' := Lib.hid hk
  have hc' := Lib.hid hc
  have c9 : (c : Int) < 9 := by omega
  have k33 : (k : Int) < 33 := by omega
  obtain ⟨g20, g21⟩ := g2b
  obtain ⟨g40, g41⟩ := g4b
  clear hk hc
  have hB0 := Below.refl w.heap.size w
  have hG0 := hG
  go_enter Tryd.func4, Tryd.ntmps4
  go_wp2_with (fail)
  go_at_call 16
  simp only [hk'.out, hc'.out]
  refine (Hf1'.out _).mono ?_
  rintro e w1 ⟨rfl, hd⟩
  have hb := hd
  have hG1 := hG0.later hb
  have hB1 := hB0.trans (hb.mono hB0.size)
  clear hd hb
  go_wp2_with (fail)
  go_at_call 17
  refine (Hs1'.out _).mono ?_
  rintro e w2 ⟨rfl, hd⟩
  have hb := hd
  have hG2 := hG1.later hb
  have hB2 := hB1.trans (hb.mono hB1.size)
  clear hd hb
  go_wp2_with (fail)
  go_at_call 16
  refine (Hf2'.out _).mono ?_
  rintro e w3 ⟨rfl, hd⟩
  have hb := hd
  have hG3 := hG2.later hb
  have hB3 := hB2.trans (hb.mono hB2.size)
  clear hd hb
  go_wp2_with (fail)
  go_at_call 18
  refine (Hg2'.out _).mono ?_
  rintro e w4 ⟨rfl, hd⟩
  have hb := hd
  have hG4 := hG3.later hb
  have hB4 := hB3.trans (hb.mono hB3.size)
  clear hd hb
  go_wp2_with (fail)
  go_at_call 17
  refine (Hs3'.out _).mono ?_
  rintro e w5 ⟨rfl, hd⟩
  have hb := hd
  have hG5 := hG4.later hb
  have hB5 := hB4.trans (hb.mono hB4.size)
  clear hd hb
  go_wp2_with (fail)
  go_at_call 16
  refine (Hf3'.out _).mono ?_
  rintro e w6 ⟨rfl, hd⟩
  have hb := hd
  have hG6 := hG5.later hb
  have hB6 := hB5.trans (hb.mono hB5.size)
  clear hd hb
  go_wp2_with (fail)
  go_at_call 18
  refine (Hg4'.out _).mono ?_
  rintro e w7 ⟨rfl, hd⟩
  have hb := hd
  have hG7 := hG6.later hb
  have hB7 := hB6.trans (hb.mono hB6.size)
  clear hd hb
  go_wp2_with (fail)
  go_at_call 16
  refine (Hf4'.out _).mono ?_
  rintro e w8 ⟨rfl, hd⟩
  have hb := hd
  have hG8 := hG7.later hb
  have hB8 := hB7.trans (hb.mono hB7.size)
  clear hd hb
  go_wp2_with (fail)
  go_at_call 15
  refine (awake_calls _ hG8).mono ?_
  rintro e w9 ⟨rfl, hd⟩
  have hb := hd
  have hG9 := hG8.later hb
  have hB9 := hB8.trans (hb.mono hB8.size)
  clear hd hb
  go_wp2
  go_ret
  exact ⟨rfl, hB9⟩

set_option maxHeartbeats 8000000 in
set_option maxRecDepth 100000 in
theorem signed_walk_true_false (z x n s g1 g3 g4 : Int) (k c : Nat) (w : World) (hG : Glob w) (hn0 : 0 ≤ n) (hn1 : n ≤ 255) (hs0 : 0 ≤ s) (hs1 : s ≤ 255) (g4b : 0 ≤ g4 ∧ g4 < 4294967296)
    (hk : n % 32 + 1 = (k : Int)) (hc : s % 9 = (c : Int))
    (Hf1 : ∀ W, Calls Tryd.prog 16 #[.int .i64 z, .int .i64 k, .int .i64 c, .bool true] W fun e w' => e = .returned (.bool true) ∧ Below W.heap.size W w')
    (Hs1 : ∀ W, Calls Tryd.prog 17 #[.int .u32 (z / 2 ^ c % 4294967296), .int .i64 k] W fun e w' => e = .returned (.int .i64 g1) ∧ Below W.heap.size W w')
    (Hf2 : ∀ W, Calls Tryd.prog 16 #[.int .i64 z, .int .i64 k, .int .i64 c, .bool false] W fun e w' => e = .returned (.bool false) ∧ Below W.heap.size W w')
    (Hs3 : ∀ W, Calls Tryd.prog 17 #[.int .u32 x, .int .i64 k] W fun e w' => e = .returned (.int .i64 g3) ∧ Below W.heap.size W w')
    (Hf3 : ∀ W, Calls Tryd.prog 16 #[.int .i64 (wrap64 (g3 * 2 ^ c)), .int .i64 k, .int .i64 c, .bool true] W fun e w' => e = .returned (.bool true) ∧ Below W.heap.size W w')
    (Hg4 : ∀ W, Calls Tryd.prog 18 #[.int .u32 x, .int .i64 0, .int .i64 k] W fun e w' => e = .returned (.int .u32 g4) ∧ Below W.heap.size W w')
    (Hf4 : ∀ W, Calls Tryd.prog 16 #[.int .i64 (wrap64 (g4 * 2 ^ c)), .int .i64 k, .int .i64 c, .bool false] W fun e w' => e = .returned (.bool true) ∧ Below W.heap.size W w')
    (t1 : (wrap64 (g1 * 2 ^ c) != z) = false)
    : Calls Tryd.prog 4 #[.int .i64 z, .int .u32 x, .int .u8 n, .int .u8 s] w fun e w' => e = .returned (.bool true) ∧ Below w.heap.size w w' := by
  have Hf1' := Lib.hid Hf1
  clear Hf1
  have Hs1' := Lib.hid Hs1
  clear Hs1
  have Hf2' := Lib.hid Hf2
  clear Hf2
  have Hs3' := Lib.hid Hs3
  clear Hs3
  have Hf3' := Lib.hid Hf3
  clear Hf3
  have Hg4' := Lib.hid Hg4
  clear Hg4
  have Hf4' := Lib.hid Hf4
  clear Hf4
  have hk' := Lib.hid hk
  have hc' := Lib.hid hc
  have c9 : (c : Int) < 9 := by omega
  have k33 : (k : Int) < 33 := by omega
  obtain ⟨g40, g41⟩ := g4b
  clear hk hc
  have hB0 := Below.refl w.heap.size w
  have hG0 := hG
  go_enter Tryd.func4, Tryd.ntmps4
  go_wp2_with (fail)
  go_at_call 16
  simp only [hk'.out, hc'.out]
  refine (Hf1'.out _).mono ?_
  rintro e w1 ⟨rfl, hd⟩
  have hb := hd
  have hG1 := hG0.later hb
  have hB1 := hB0.trans (hb.mono hB0.size)
  clear hd hb
  go_wp2_with (fail)
  go_at_call 17
  refine (Hs1'.out _).mono ?_
  rintro e w2 ⟨rfl, hd⟩
  have hb := hd
  have hG2 := hG1.later hb
  have hB2 := hB1.trans (hb.mono hB1.size)
  clear hd hb
  go_wp2_with (fail)
  go_at_call 16
  refine (Hf2'.out _).mono ?_
  rintro e w3 ⟨rfl, hd⟩
  have hb := hd
  have hG3 := hG2.later hb
  have hB3 := hB2.trans (hb.mono hB2.size)
  clear hd hb
  go_wp2_with (fail)
  go_at_call 17
  refine (Hs3'.out _).mono ?_
  rintro e w4 ⟨rfl, hd⟩
  have hb := hd
  have hG4 := hG3.later hb
  have hB4 := hB3.trans (hb.mono hB3.size)
  clear hd hb
  go_wp2_with (fail)
  go_at_call 16
  refine (Hf3'.out _).mono ?_
  rintro e w5 ⟨rfl, hd⟩
  have hb := hd
  have hG5 := hG4.later hb
  have hB5 := hB4.trans (hb.mono hB4.size)
  clear hd hb
  go_wp2_with (fail)
  go_at_call 18
  refine (Hg4'.out _).mono ?_
  rintro e w6 ⟨rfl, hd⟩
  have hb := hd
  have hG6 := hG5.later hb
  have hB6 := hB5.trans (hb.mono hB5.size)
  clear hd hb
  go_wp2_with (fail)
  go_at_call 16
  refine (Hf4'.out _).mono ?_
  rintro e w7 ⟨rfl, hd⟩
  have hb := hd
  have hG7 := hG6.later hb
  have hB7 := hB6.trans (hb.mono hB6.size)
  clear hd hb
  go_wp2_with (fail)
  go_at_call 15
  refine (awake_calls _ hG7).mono ?_
  rintro e w8 ⟨rfl, hd⟩
  have hb := hd
  have hG8 := hG7.later hb
  have hB8 := hB7.trans (hb.mono hB7.size)
  clear hd hb
  go_wp2
  go_ret
  exact ⟨rfl, hB8⟩

set_option maxHeartbeats 8000000 in
set_option maxRecDepth 100000 in
theorem signed_walk_false_true (z x n s g2 g3 g4 : Int) (k c : Nat) (w : World) (hG : Glob w) (hn0 : 0 ≤ n) (hn1 : n ≤ 255) (hs0 : 0 ≤ s) (hs1 : s ≤ 255) (g2b : 0 ≤ g2 ∧ g2 < 4294967296) (g4b : 0 ≤ g4 ∧ g4 < 4294967296)
    (hk : n % 32 + 1 = (k : Int)) (hc : s % 9 = (c : Int))
    (Hf1 : ∀ W, Calls Tryd.prog 16 #[.int .i64 z, .int .i64 k, .int .i64 c, .bool true] W fun e w' => e = .returned (.bool false) ∧ Below W.heap.size W w')
    (Hf2 : ∀ W, Calls Tryd.prog 16 #[.int .i64 z, .int .i64 k, .int .i64 c, .bool false] W fun e w' => e = .returned (.bool true) ∧ Below W.heap.size W w')
    (Hg2 : ∀ W, Calls Tryd.prog 18 #[.int .u32 (z / 2 ^ c % 4294967296), .int .i64 0, .int .i64 k] W fun e w' => e = .returned (.int .u32 g2) ∧ Below W.heap.size W w')
    (Hs3 : ∀ W, Calls Tryd.prog 17 #[.int .u32 x, .int .i64 k] W fun e w' => e = .returned (.int .i64 g3) ∧ Below W.heap.size W w')
    (Hf3 : ∀ W, Calls Tryd.prog 16 #[.int .i64 (wrap64 (g3 * 2 ^ c)), .int .i64 k, .int .i64 c, .bool true] W fun e w' => e = .returned (.bool true) ∧ Below W.heap.size W w')
    (Hg4 : ∀ W, Calls Tryd.prog 18 #[.int .u32 x, .int .i64 0, .int .i64 k] W fun e w' => e = .returned (.int .u32 g4) ∧ Below W.heap.size W w')
    (Hf4 : ∀ W, Calls Tryd.prog 16 #[.int .i64 (wrap64 (g4 * 2 ^ c)), .int .i64 k, .int .i64 c, .bool false] W fun e w' => e = .returned (.bool true) ∧ Below W.heap.size W w')
    (t2 : (wrap64 (g2 * 2 ^ c) != z) = false)
    : Calls Tryd.prog 4 #[.int .i64 z, .int .u32 x, .int .u8 n, .int .u8 s] w fun e w' => e = .returned (.bool true) ∧ Below w.heap.size w w' := by
  have Hf1' := Lib.hid Hf1
  clear Hf1
  have Hf2' := Lib.hid Hf2
  clear Hf2
  have Hg2' := Lib.hid Hg2
  clear Hg2
  have Hs3' := Lib.hid Hs3
  clear Hs3
  have Hf3' := Lib.hid Hf3
  clear Hf3
  have Hg4' := Lib.hid Hg4
  clear Hg4
  have Hf4' := Lib.hid Hf4
  clear Hf4
  have hk' := Lib.hid hk
  have hc' := Lib.hid hc
  have c9 : (c : Int) < 9 := by omega
  have k33 : (k : Int) < 33 := by omega
  obtain ⟨g20, g21⟩ := g2b
  obtain ⟨g40, g41⟩ := g4b
  clear hk hc
  have hB0 := Below.refl w.heap.size w
  have hG0 := hG
  go_enter Tryd.func4, Tryd.ntmps4
  go_wp2_with (fail)
  go_at_call 16
  simp only [hk'.out, hc'.out]
  refine (Hf1'.out _).mono ?_
  rintro e w1 ⟨rfl, hd⟩
  have hb := hd
  have hG1 := hG0.later hb
  have hB1 := hB0.trans (hb.mono hB0.size)
  clear hd hb
  go_wp2_with (fail)
  go_at_call 16
  refine (Hf2'.out _).mono ?_
  rintro e w2 ⟨rfl, hd⟩
  have hb := hd
  have hG2 := hG1.later hb
  have hB2 := hB1.trans (hb.mono hB1.size)
  clear hd hb
  go_wp2_with (fail)
  go_at_call 18
  refine (Hg2'.out _).mono ?_
  rintro e w3 ⟨rfl, hd⟩
  have hb := hd
  have hG3 := hG2.later hb
  have hB3 := hB2.trans (hb.mono hB2.size)
  clear hd hb
  go_wp2_with (fail)
  go_at_call 17
  refine (Hs3'.out _).mono ?_
  rintro e w4 ⟨rfl, hd⟩
  have hb := hd
  have hG4 := hG3.later hb
  have hB4 := hB3.trans (hb.mono hB3.size)
  clear hd hb
  go_wp2_with (fail)
  go_at_call 16
  refine (Hf3'.out _).mono ?_
  rintro e w5 ⟨rfl, hd⟩
  have hb := hd
  have hG5 := hG4.later hb
  have hB5 := hB4.trans (hb.mono hB4.size)
  clear hd hb
  go_wp2_with (fail)
  go_at_call 18
  refine (Hg4'.out _).mono ?_
  rintro e w6 ⟨rfl, hd⟩
  have hb := hd
  have hG6 := hG5.later hb
  have hB6 := hB5.trans (hb.mono hB5.size)
  clear hd hb
  go_wp2_with (fail)
  go_at_call 16
  refine (Hf4'.out _).mono ?_
  rintro e w7 ⟨rfl, hd⟩
  have hb := hd
  have hG7 := hG6.later hb
  have hB7 := hB6.trans (hb.mono hB6.size)
  clear hd hb
  go_wp2_with (fail)
  go_at_call 15
  refine (awake_calls _ hG7).mono ?_
  rintro e w8 ⟨rfl, hd⟩
  have hb := hd
  have hG8 := hG7.later hb
  have hB8 := hB7.trans (hb.mono hB7.size)
  clear hd hb
  go_wp2
  go_ret
  exact ⟨rfl, hB8⟩

set_option maxHeartbeats 8000000 in
set_option maxRecDepth 100000 in
theorem signed_walk_false_false (z x n s g3 g4 : Int) (k c : Nat) (w : World) (hG : Glob w) (hn0 : 0 ≤ n) (hn1 : n ≤ 255) (hs0 : 0 ≤ s) (hs1 : s ≤ 255) (g4b : 0 ≤ g4 ∧ g4 < 4294967296)
    (hk : n % 32 + 1 = (k : Int)) (hc : s % 9 = (c : Int))
    (Hf1 : ∀ W, Calls Tryd.prog 16 #[.int .i64 z, .int .i64 k, .int .i64 c, .bool true] W fun e w' => e = .returned (.bool false) ∧ Below W.heap.size W w')
    (Hf2 : ∀ W, Calls Tryd.prog 16 #[.int .i64 z, .int .i64 k, .int .i64 c, .bool false] W fun e w' => e = .returned (.bool false) ∧ Below W.heap.size W w')
    (Hs3 : ∀ W, Calls Tryd.prog 17 #[.int .u32 x, .int .i64 k] W fun e w' => e = .returned (.int .i64 g3) ∧ Below W.heap.size W w')
    (Hf3 : ∀ W, Calls Tryd.prog 16 #[.int .i64 (wrap64 (g3 * 2 ^ c)), .int .i64 k, .int .i64 c, .bool true] W fun e w' => e = .returned (.bool true) ∧ Below W.heap.size W w')
    (Hg4 : ∀ W, Calls Tryd.prog 18 #[.int .u32 x, .int .i64 0, .int .i64 k] W fun e w' => e = .returned (.int .u32 g4) ∧ Below W.heap.size W w')
    (Hf4 : ∀ W, Calls Tryd.prog 16 #[.int .i64 (wrap64 (g4 * 2 ^ c)), .int .i64 k, .int .i64 c, .bool false] W fun e w' => e = .returned (.bool true) ∧ Below W.heap.size W w')
    : Calls Tryd.prog 4 #[.int .i64 z, .int .u32 x, .int .u8 n, .int .u8 s] w fun e w' => e = .returned (.bool true) ∧ Below w.heap.size w w' := by
  have Hf1' := Lib.hid Hf1
  clear Hf1
  have Hf2' := Lib.hid Hf2
  clear Hf2
  have Hs3' := Lib.hid Hs3
  clear Hs3
  have Hf3' := Lib.hid Hf3
  clear Hf3
  have Hg4' := Lib.hid Hg4
  clear Hg4
  have Hf4' := Lib.hid Hf4
  clear Hf4
  have hk' := Lib.hid hk
  have hc' := Lib.hid hc
  have c9 : (c : Int) < 9 := by omega
  have k33 : (k : Int) < 33 := by omega
  obtain ⟨g40, g41⟩ := g4b
  clear hk hc
  have hB0 := Below.refl w.heap.size w
  have hG0 := hG
  go_enter Tryd.func4, Tryd.ntmps4
  go_wp2_with (fail)
  go_at_call 16
  simp only [hk'.out, hc'.out]
  refine (Hf1'.out _).mono ?_
  rintro e w1 ⟨rfl, hd⟩
  have hb := hd
  have hG1 := hG0.later hb
  have hB1 := hB0.trans (hb.mono hB0.size)
  clear hd hb
  go_wp2_with (fail)
  go_at_call 16
  refine (Hf2'.out _).mono ?_
  rintro e w2 ⟨rfl, hd⟩
  have hb := hd
  have hG2 := hG1.later hb
  have hB2 := hB1.trans (hb.mono hB1.size)
  clear hd hb
  go_wp2_with (fail)
  go_at_call 17
  refine (Hs3'.out _).mono ?_
  rintro e w3 ⟨rfl, hd⟩
  have hb := hd
  have hG3 := hG2.later hb
  have hB3 := hB2.trans (hb.mono hB2.size)
  clear hd hb
  go_wp2_with (fail)
  go_at_call 16
  refine (Hf3'.out _).mono ?_
  rintro e w4 ⟨rfl, hd⟩
  have hb := hd
  have hG4 := hG3.later hb
  have hB4 := hB3.trans (hb.mono hB3.size)
  clear hd hb
  go_wp2_with (fail)
  go_at_call 18
  refine (Hg4'.out _).mono ?_
  rintro e w5 ⟨rfl, hd⟩
  have hb := hd
  have hG5 := hG4.later hb
  have hB5 := hB4.trans (hb.mono hB4.size)
  clear hd hb
  go_wp2_with (fail)
  go_at_call 16
  refine (Hf4'.out _).mono ?_
  rintro e w6 ⟨rfl, hd⟩
  have hb := hd
  have hG6 := hG5.later hb
  have hB6 := hB5.trans (hb.mono hB5.size)
  clear hd hb
  go_wp2_with (fail)
  go_at_call 15
  refine (awake_calls _ hG6).mono ?_
  rintro e w7 ⟨rfl, hd⟩
  have hb := hd
  have hG7 := hG6.later hb
  have hB7 := hB6.trans (hb.mono hB6.size)
  clear hd hb
  go_wp2
  go_ret
  exact ⟨rfl, hB7⟩
end Go.Proofs.YtoljlbfjjemldaaDoor
