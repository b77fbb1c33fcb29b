/- BitsBack, walked: parts and thirty put together again, and told again. -/
import Derived.Test.YtoljlbfjjemldaaDoorWordC
namespace Go.Proofs.YtoljlbfjjemldaaDoor
open Go.RowKit Go.Proofs.YtoljlbfjjemldaaDoorW.PrintWords Go.Proofs.YtoljlbfjjemldaaDoorW.PrintLast Go.Proofs.YtoljlbfjjemldaaDoorW.PrintMore
open Go.Proofs.YtoljlbfjjemldaaDoor.PBitsFields
set_option linter.unusedVariables false

set_option maxHeartbeats 8000000 in
set_option maxRecDepth 100000 in
theorem back_walk0 (x k p q a b c t y z : Int) (w : World) (hG : Glob w) (k0 : 0 ≤ k) (k1 : k ≤ 255) (p0 : 0 ≤ p) (p1 : p ≤ 4294967295) (q0 : 0 ≤ q) (q1 : q ≤ 255)
    (a0 : 0 ≤ a) (a1 : a < 64) (b0 : 0 ≤ b) (b1 : b < 16777216) (c0 : 0 ≤ c) (c1 : c < 4) (t0 : 0 ≤ t) (t1 : t < 1073741824)
    (ta : (a / 64 != 0) = false) (tb : (b / 16777216 != 0) = false) (tc : (c / 4 != 0) = false) (tt : (t / 1073741824 != 0) = false)
    (Ha : ∀ W, Glob W → Calls Tryd.prog 9 #[.int .u32 x] W fun e w' => e = .returned (.tuple #[.int .u8 a, .int .u32 b, .int .u8 c]) ∧ Below W.heap.size W w')
    (Hb : ∀ W, Glob W → Calls Tryd.prog 10 #[.int .u8 a, .int .u32 b, .int .u8 c] W fun e w' => e = .returned (.int .u32 x) ∧ Below W.heap.size W w')
    (Hc : ∀ W, Glob W → Calls Tryd.prog 12 #[.int .u32 x] W fun e w' => e = .returned (.int .u32 t) ∧ Below W.heap.size W w')
    (Hd : ∀ W, Glob W → Calls Tryd.prog 19 #[.int .u32 t, .int .u8 c] W fun e w' => e = .returned (.int .u32 x) ∧ Below W.heap.size W w')
    (He : ∀ W, Glob W → Calls Tryd.prog 12 #[.int .u32 x] W fun e w' => e = .returned (.int .u32 t) ∧ Below W.heap.size W w')
    (Hf : ∀ W, Glob W → Calls Tryd.prog 10 #[.int .u8 k, .int .u32 p, .int .u8 q] W fun e w' => e = .returned (.int .u32 y) ∧ Below W.heap.size W w')
    (Hg : ∀ W, Glob W → Calls Tryd.prog 9 #[.int .u32 y] W fun e w' => e = .returned (.tuple #[.int .u8 (k % 64), .int .u32 (p % 16777216), .int .u8 (q % 4)]) ∧ Below W.heap.size W w')
    (Hh : ∀ W, Glob W → Calls Tryd.prog 19 #[.int .u32 p, .int .u8 q] W fun e w' => e = .returned (.int .u32 z) ∧ Below W.heap.size W w')
    (Hi : ∀ W, Glob W → Calls Tryd.prog 12 #[.int .u32 z] W fun e w' => e = .returned (.int .u32 (p % 1073741824)) ∧ Below W.heap.size W w')
    : Calls Tryd.prog 5 #[.int .u32 x, .int .u8 k, .int .u32 p, .int .u8 q] w fun e w' => e = .returned (.bool true) ∧ Below w.heap.size w w' := by
  have Ha' := Lib.hid Ha
  clear Ha
  have Hb' := Lib.hid Hb
  clear Hb
  have Hc' := Lib.hid Hc
  clear Hc
  have Hd' := Lib.hid Hd
  clear Hd
  have He' := Lib.hid He
  clear He
  have Hf' := Lib.hid Hf
  clear Hf
  have Hg' := Lib.hid Hg
  clear Hg
  have Hh' := Lib.hid Hh
  clear Hh
  have Hi' := Lib.hid Hi
  clear Hi
  have hB0 := Below.refl w.heap.size w
  have hG0 := hG
  go_enter Tryd.func5, Tryd.ntmps5
  go_wp2_with (fail)
  go_at_call 9
  refine (Ha'.out _ hG0).mono ?_
  rintro e w1 ⟨rfl, hd⟩
  have hb := hd
  have hG1 := hG0.later hb
  have hB1 := hB0.trans (hb.mono hB0.size)
  clear hd hb
  go_wp2_with (fail)
  go_at_call 10
  refine (Hb'.out _ hG1).mono ?_
  rintro e w2 ⟨rfl, hd⟩
  have hb := hd
  have hG2 := hG1.later hb
  have hB2 := hB1.trans (hb.mono hB1.size)
  clear hd hb
  go_wp2_with (fail)
  go_at_call 12
  refine (Hc'.out _ hG2).mono ?_
  rintro e w3 ⟨rfl, hd⟩
  have hb := hd
  have hG3 := hG2.later hb
  have hB3 := hB2.trans (hb.mono hB2.size)
  clear hd hb
  go_wp2_with (fail)
  go_at_call 19
  refine (Hd'.out _ hG3).mono ?_
  rintro e w4 ⟨rfl, hd⟩
  have hb := hd
  have hG4 := hG3.later hb
  have hB4 := hB3.trans (hb.mono hB3.size)
  clear hd hb
  go_wp2_with (fail)
  go_at_call 12
  refine (He'.out _ hG4).mono ?_
  rintro e w5 ⟨rfl, hd⟩
  have hb := hd
  have hG5 := hG4.later hb
  have hB5 := hB4.trans (hb.mono hB4.size)
  clear hd hb
  go_wp2_with (fail)
  go_at_call 10
  refine (Hf'.out _ hG5).mono ?_
  rintro e w6 ⟨rfl, hd⟩
  have hb := hd
  have hG6 := hG5.later hb
  have hB6 := hB5.trans (hb.mono hB5.size)
  clear hd hb
  go_wp2_with (fail)
  go_at_call 9
  refine (Hg'.out _ hG6).mono ?_
  rintro e w7 ⟨rfl, hd⟩
  have hb := hd
  have hG7 := hG6.later hb
  have hB7 := hB6.trans (hb.mono hB6.size)
  clear hd hb
  go_wp2_with (fail)
  go_at_call 19
  refine (Hh'.out _ hG7).mono ?_
  rintro e w8 ⟨rfl, hd⟩
  have hb := hd
  have hG8 := hG7.later hb
  have hB8 := hB7.trans (hb.mono hB7.size)
  clear hd hb
  go_wp2_with (fail)
  go_at_call 12
  refine (Hi'.out _ hG8).mono ?_
  rintro e w9 ⟨rfl, hd⟩
  have hb := hd
  have hG9 := hG8.later hb
  have hB9 := hB8.trans (hb.mono hB8.size)
  clear hd hb
  go_wp2_with (fail)
  go_at_call 15
  refine (awake_calls _ hG9).mono ?_
  rintro e w10 ⟨rfl, hd⟩
  have hb := hd
  have hG10 := hG9.later hb
  have hB10 := hB9.trans (hb.mono hB9.size)
  clear hd hb
  go_wp2
  go_ret
  exact ⟨rfl, hB10⟩

theorem bitsBack_walk (x k p q : Int) (hx : (Lit.int .u32 x).wf = true) (hk : (Lit.int .u8 k).wf = true) (hp : (Lit.int .u32 p).wf = true) (hq : (Lit.int .u8 q).wf = true) (w : World) (hG : Glob w) :
    Calls Tryd.prog 5 #[.int .u32 x, .int .u8 k, .int .u32 p, .int .u8 q] w fun e w' => e = .returned (.bool true) ∧ Below w.heap.size w w' := by
  obtain ⟨x0, x1⟩ := bounds_u32 hx
  obtain ⟨k0, k1⟩ := bounds_u8 hk
  obtain ⟨p0, p1⟩ := bounds_u32 hp
  obtain ⟨q0, q1⟩ := bounds_u8 hq
  obtain ⟨x, rfl⟩ := Int.eq_ofNat_of_zero_le x0
  obtain ⟨k, rfl⟩ := Int.eq_ofNat_of_zero_le k0
  obtain ⟨p, rfl⟩ := Int.eq_ofNat_of_zero_le p0
  obtain ⟨q, rfl⟩ := Int.eq_ofNat_of_zero_le q0
  have hx' : x < 4294967296 := by omega
  have hp' : p < 4294967296 := by omega
  have e1 : wordN (x / 67108864) (payloadN x) (x / 16384 % 4) = x := by unfold wordN payloadN; omega
  have e2 : fromThirtyN (thirtyN x) (x / 16384 % 4) = x := by unfold fromThirtyN thirtyN; omega
  have e3 : ((wordN k p q / 67108864 : Nat) : Int) = (k : Int) % 64 := by unfold wordN; omega
  have e4 : (payloadN (wordN k p q) : Int) = (p : Int) % 16777216 := by unfold payloadN wordN; omega
  have e5 : ((wordN k p q / 16384 % 4 : Nat) : Int) = (q : Int) % 4 := by unfold wordN; omega
  have e6 : (thirtyN (fromThirtyN p q) : Int) = (p : Int) % 1073741824 := by unfold thirtyN fromThirtyN; omega
  have hw := wordN_lt k p q
  have ht := thirtyN_lt x
  have hf := fromThirtyN_lt p q
  have hl := payloadN_lt x
  have n1 : ((x / 67108864 : Nat) : Int) / 64 = 0 := by omega
  have n2 : (payloadN x : Int) / 16777216 = 0 := by omega
  have n3 : ((x / 16384 % 4 : Nat) : Int) / 4 = 0 := by omega
  have n4 : (thirtyN x : Int) / 1073741824 = 0 := by omega
  refine back_walk0 x k p q ((x / 67108864 : Nat) : Int) (payloadN x) ((x / 16384 % 4 : Nat) : Int) (thirtyN x) (wordN k p q) (fromThirtyN p q) w hG k0 k1 p0 p1 q0 q1
    (by omega) (by omega) (by omega) (by omega) (by omega) (by omega) (by omega) (by omega) (by rw [n1]; rfl) (by rw [n2]; rfl) (by rw [n3]; rfl) (by rw [n4]; rfl)
    (fun W g => Parts_any x hx' W g) (fun W g => ?_) (fun W g => Thirty_any x hx' W g) (fun W g => ?_) (fun W g => Thirty_any x hx' W g)
    (fun W g => Word_any k p q (by omega) hp' (by omega) W g) (fun W g => ?_) (fun W g => FromThirty_any p q hp' (by omega) W g) (fun W g => ?_)
  · have h := Word_any (x / 67108864) (payloadN x) (x / 16384 % 4) (by omega) (by omega) (by omega) W g
    rw [e1] at h; exact h
  · have h := FromThirty_any (thirtyN x) (x / 16384 % 4) (by omega) (by omega) W g
    rw [e2] at h; exact h
  · have h := Parts_any (wordN k p q) hw W g
    rw [e3, e4, e5] at h; exact h
  · have h := Thirty_any (fromThirtyN p q) hf W g
    rw [e6] at h; exact h
end Go.Proofs.YtoljlbfjjemldaaDoor
