/- BitsWords, walked: a word of its parts, its parts, its thirty, beside the reference. -/
import Derived.Test.YtoljlbfjjemldaaDoorWordC
import Derived.Test.YtoljlbfjjemldaaDoorRefWord
namespace Go.Proofs.YtoljlbfjjemldaaDoor
open Go.RowKit Go.Proofs.YtoljlbfjjemldaaDoorW.PrintWords Go.Proofs.YtoljlbfjjemldaaDoorW.PrintLast Go.Proofs.YtoljlbfjjemldaaDoorW.PrintMore
set_option linter.unusedVariables false

set_option maxHeartbeats 8000000 in
set_option maxRecDepth 100000 in
theorem words_walk0 (x k p q a b c t y l u : Int) (w : World) (hG : Glob w) (a0 : 0 ≤ a) (a1 : a < 64) (c0 : 0 ≤ c) (c1 : c < 4)
    (l0 : 0 ≤ l) (l1 : l < 16384) (u0 : 0 ≤ u) (u1 : u < 1024) (tb : (b == l + u * 16384) = true)
    (Ha : ∀ W, Glob W → Calls Tryd.prog 9 #[.int .u32 x] W fun e w' => e = .returned (.tuple #[.int .u8 a, .int .u32 b, .int .u8 c]) ∧ Below W.heap.size W w')
    (Hb : ∀ W, Glob W → Calls Tryd.prog 10 #[.int .u8 k, .int .u32 p, .int .u8 q] W fun e w' => e = .returned (.int .u32 y) ∧ Below W.heap.size W w')
    (Hc : ∀ W, Glob W → Calls Tryd.prog 11 #[.int .u8 k, .int .u32 p, .int .u8 q] W fun e w' => e = .returned (.int .u32 y) ∧ Below W.heap.size W w')
    (Hd : ∀ W, Glob W → Calls Tryd.prog 12 #[.int .u32 x] W fun e w' => e = .returned (.int .u32 t) ∧ Below W.heap.size W w')
    (He : ∀ W, Glob W → Calls Tryd.prog 13 #[.int .u32 x] W fun e w' => e = .returned (.int .u32 t) ∧ Below W.heap.size W w')
    (Hf : ∀ W, Glob W → Calls Tryd.prog 14 #[.int .u32 x, .int .i64 26, .int .i64 6] W fun e w' => e = .returned (.int .u32 a) ∧ Below W.heap.size W w')
    (Hg : ∀ W, Glob W → Calls Tryd.prog 14 #[.int .u32 x, .int .i64 14, .int .i64 2] W fun e w' => e = .returned (.int .u32 c) ∧ Below W.heap.size W w')
    (Hh : ∀ W, Glob W → Calls Tryd.prog 14 #[.int .u32 x, .int .i64 0, .int .i64 14] W fun e w' => e = .returned (.int .u32 l) ∧ Below W.heap.size W w')
    (Hi : ∀ W, Glob W → Calls Tryd.prog 14 #[.int .u32 x, .int .i64 16, .int .i64 10] W fun e w' => e = .returned (.int .u32 u) ∧ Below W.heap.size W w')
    : Calls Tryd.prog 3 #[.int .u32 x, .int .u8 k, .int .u32 p, .int .u8 q] w fun e w' => e = .returned (.bool true) ∧ Below w.heap.size w w' := by
  have Ha' := Lib.hid Ha
  clear Ha
  have Hb' := Lib.hid Hb
  clear Hb
  have Hc' := Lib.hid Hc
  clear Hc
  have Hd' := Lib.hid Hd
  clear Hd
  have He' := Lib.hid He
  clear He
  have Hf' := Lib.hid Hf
  clear Hf
  have Hg' := Lib.hid Hg
  clear Hg
  have Hh' := Lib.hid Hh
  clear Hh
  have Hi' := Lib.hid Hi
  clear Hi
  have ea : a % 4294967296 = a := by omega
  have ec : c % 4294967296 = c := by omega
  have hB0 := Below.refl w.heap.size w
  have hG0 := hG
  go_enter Tryd.func3, Tryd.ntmps3
  go_wp2_with (fail)
  go_at_call 9
  refine (Ha'.out _ hG0).mono ?_
  rintro e w1 ⟨rfl, hd⟩
  have hb := hd
  have hG1 := hG0.later hb
  have hB1 := hB0.trans (hb.mono hB0.size)
  clear hd hb
  go_wp2_with (fail)
  go_at_call 10
  refine (Hb'.out _ hG1).mono ?_
  rintro e w2 ⟨rfl, hd⟩
  have hb := hd
  have hG2 := hG1.later hb
  have hB2 := hB1.trans (hb.mono hB1.size)
  clear hd hb
  go_wp2_with (fail)
  go_at_call 11
  refine (Hc'.out _ hG2).mono ?_
  rintro e w3 ⟨rfl, hd⟩
  have hb := hd
  have hG3 := hG2.later hb
  have hB3 := hB2.trans (hb.mono hB2.size)
  clear hd hb
  go_wp2_with (fail)
  go_at_call 12
  refine (Hd'.out _ hG3).mono ?_
  rintro e w4 ⟨rfl, hd⟩
  have hb := hd
  have hG4 := hG3.later hb
  have hB4 := hB3.trans (hb.mono hB3.size)
  clear hd hb
  go_wp2_with (fail)
  go_at_call 13
  refine (He'.out _ hG4).mono ?_
  rintro e w5 ⟨rfl, hd⟩
  have hb := hd
  have hG5 := hG4.later hb
  have hB5 := hB4.trans (hb.mono hB4.size)
  clear hd hb
  go_wp2_with (fail)
  go_at_call 14
  refine (Hf'.out _ hG5).mono ?_
  rintro e w6 ⟨rfl, hd⟩
  have hb := hd
  have hG6 := hG5.later hb
  have hB6 := hB5.trans (hb.mono hB5.size)
  clear hd hb
  go_wp2_with (fail)
  go_at_call 14
  refine (Hg'.out _ hG6).mono ?_
  rintro e w7 ⟨rfl, hd⟩
  have hb := hd
  have hG7 := hG6.later hb
  have hB7 := hB6.trans (hb.mono hB6.size)
  clear hd hb
  go_wp2_with (fail)
  go_at_call 14
  refine (Hh'.out _ hG7).mono ?_
  rintro e w8 ⟨rfl, hd⟩
  have hb := hd
  have hG8 := hG7.later hb
  have hB8 := hB7.trans (hb.mono hB7.size)
  clear hd hb
  go_wp2_with (fail)
  go_at_call 14
  refine (Hi'.out _ hG8).mono ?_
  rintro e w9 ⟨rfl, hd⟩
  have hb := hd
  have hG9 := hG8.later hb
  have hB9 := hB8.trans (hb.mono hB8.size)
  clear hd hb
  go_wp2_with (fail)
  go_at_call 15
  refine (awake_calls _ hG9).mono ?_
  rintro e w10 ⟨rfl, hd⟩
  have hb := hd
  have hG10 := hG9.later hb
  have hB10 := hB9.trans (hb.mono hB9.size)
  clear hd hb
  go_wp2
  go_ret
  exact ⟨rfl, hB10⟩

theorem bitsWords_walk (x k p q : Int) (hx : (Lit.int .u32 x).wf = true) (hk : (Lit.int .u8 k).wf = true) (hp : (Lit.int .u32 p).wf = true) (hq : (Lit.int .u8 q).wf = true) (w : World) (hG : Glob w) :
    Calls Tryd.prog 3 #[.int .u32 x, .int .u8 k, .int .u32 p, .int .u8 q] w fun e w' => e = .returned (.bool true) ∧ Below w.heap.size w w' := by
  obtain ⟨x0, x1⟩ := bounds_u32 hx
  obtain ⟨k0, k1⟩ := bounds_u8 hk
  obtain ⟨p0, p1⟩ := bounds_u32 hp
  obtain ⟨q0, q1⟩ := bounds_u8 hq
  obtain ⟨x, rfl⟩ := Int.eq_ofNat_of_zero_le x0
  obtain ⟨k, rfl⟩ := Int.eq_ofNat_of_zero_le k0
  obtain ⟨p, rfl⟩ := Int.eq_ofNat_of_zero_le p0
  obtain ⟨q, rfl⟩ := Int.eq_ofNat_of_zero_le q0
  have hx' : x < 4294967296 := by omega
  have hp' : p < 4294967296 := by omega
  obtain ⟨n1, -, n3, n4, n5⟩ := gN_num x
  have G : ∀ (c d : Nat), c + d ≤ 32 → ∀ W, Glob W → Calls Tryd.prog 14 #[.int .u32 (x : Int), .int .i64 (c : Int), .int .i64 (d : Int)] W fun e w' => e = .returned (.int .u32 (gN x c d)) ∧ Below W.heap.size W w' := fun c d hcd W _ => by
    have h := rGet_ok x (c : Int) (d : Int) hx'
    unfold getV at h
    rw [if_pos (by unfold isN; omega), Int.toNat_natCast, Int.toNat_natCast] at h
    exact (PBitsFields.coxlessref01_Get.calls 100 _ _ _ _ W h).mono fun _ _ h => ⟨h.1, h.2.below⟩
  have g1 := G 26 6 (by omega)
  have g2 := G 14 2 (by omega)
  have g3 := G 0 14 (by omega)
  have g4 := G 16 10 (by omega)
  have e64 : x / 67108864 % 64 = x / 67108864 := by omega
  rw [n4, e64] at g1
  rw [n5] at g2
  rw [n1] at g3
  rw [n3] at g4
  have hb : (payloadN x : Int) = ((x % 16384 : Nat) : Int) + ((x / 65536 % 1024 : Nat) : Int) * 16384 := by unfold payloadN; omega
  exact words_walk0 x k p q ((x / 67108864 : Nat) : Int) (payloadN x) ((x / 16384 % 4 : Nat) : Int) (thirtyN x) (wordN k p q) ((x % 16384 : Nat) : Int) ((x / 65536 % 1024 : Nat) : Int) w hG
    (by omega) (by omega) (by omega) (by omega) (by omega) (by omega) (by omega) (by omega) (by rw [hb]; exact beq_self_eq_true _)
    (fun W g => Parts_any x hx' W g) (fun W g => Word_any k p q (by omega) hp' (by omega) W g)
    (fun W _ => (PBitsWords.coxlessref01_Word.calls 71 _ _ _ _ W (rWord_ok k p q (by omega) hp' (by omega))).mono fun _ _ h => ⟨h.1, h.2.below⟩)
    (fun W g => Thirty_any x hx' W g)
    (fun W _ => (PBitsWords.coxlessref01_Thirty.calls 70 _ _ W (rThirty_ok x hx')).mono fun _ _ h => ⟨h.1, h.2.below⟩)
    g1 g2 g3 g4
end Go.Proofs.YtoljlbfjjemldaaDoor
