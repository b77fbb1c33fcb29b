/- BitsSigned: the plain law, and the walk's four cases joined. -/
import Derived.Test.YtoljlbfjjemldaaDoorSignedW
namespace Go.Proofs.YtoljlbfjjemldaaDoor
open Go.RowKit Go.Proofs.YtoljlbfjjemldaaDoorW.PrintWords Go.Proofs.YtoljlbfjjemldaaDoorW.PrintMore
open Go.Proofs.YtoljlbfjjemldaaDoor.PBitsFields

/-- A signed number of n bits: its range, and what it is modulo 2 ^ n. -/
theorem sN_range (v m : Nat) : -((2 ^ m : Nat) : Int) ≤ sN v (m + 1) ∧ sN v (m + 1) < ((2 ^ m : Nat) : Int) ∧ ∃ t : Int, (v : Int) = sN v (m + 1) + 2 * ((2 ^ m : Nat) : Int) * t := by
  have hsn : sN v (m + 1) = (v % 2 ^ m : Nat) - (2 ^ m * bN v m : Nat) := by unfold sN; rw [Nat.add_sub_cancel]
  have hb := bN_lt v m
  have hl : v % 2 ^ m < 2 ^ m := Nat.mod_lt _ (Nat.two_pow_pos m)
  have hd := Nat.div_add_mod v (2 ^ m)
  have hd2 : v / 2 ^ m = 2 * (v / 2 ^ m / 2) + bN v m := by unfold bN; omega
  rw [hsn]
  generalize v / 2 ^ m / 2 = q at hd2
  generalize v % 2 ^ m = r at hl hd ⊢
  generalize 2 ^ m = y at hl hd hd2 ⊢
  rw [hd2] at hd
  rcases (show bN v m = 0 ∨ bN v m = 1 by omega) with h | h
  · rw [h] at hd ⊢
    refine ⟨by omega, by omega, (q : Int), ?_⟩
    have e : ((y * (2 * q + 0) : Nat) : Int) = 2 * (y : Int) * (q : Int) := by simp [Int.mul_comm, Int.mul_left_comm]
    omega
  · rw [h] at hd ⊢
    refine ⟨by omega, by omega, (q : Int) + 1, ?_⟩
    have e : ((y * (2 * q + 1) : Nat) : Int) = 2 * (y : Int) * (q : Int) + y := by simp [Int.mul_comm, Int.mul_left_comm, Int.mul_add]
    have e2 : 2 * (y : Int) * ((q : Int) + 1) = 2 * (y : Int) * (q : Int) + 2 * y := by rw [Int.mul_add, Int.mul_one]
    omega

/-- A number in range is the signed number of its word's lowest bits. -/
theorem sN_of {q : Int} {m : Nat} (hm : m ≤ 31) (h0 : -((2 ^ m : Nat) : Int) ≤ q) (h1 : q < ((2 ^ m : Nat) : Int)) : sN (q % 4294967296).toNat (m + 1) = q := by
  obtain ⟨r0, r1, t, ht⟩ := sN_range (q % 4294967296).toNat m
  have hv : (((q % 4294967296).toNat : Nat) : Int) = q % 4294967296 := Int.toNat_of_nonneg (Int.emod_nonneg _ (by decide))
  rw [hv] at ht
  have hd := Int.mul_ediv_add_emod q 4294967296
  generalize q / 4294967296 = u at hd
  have hpz := Nat.two_pow_pos m
  obtain ⟨c, hc⟩ : ∃ c : Int, (4294967296 : Int) = 2 * ((2 ^ m : Nat) : Int) * c := by
    refine ⟨((2 ^ (31 - m) : Nat) : Int), ?_⟩
    have e : 2 ^ m * 2 ^ (31 - m) = 2147483648 := by rw [← Nat.pow_add, show m + (31 - m) = 31 by omega]
    have e' : ((2 ^ m : Nat) : Int) * ((2 ^ (31 - m) : Nat) : Int) = 2147483648 := by rw [← Int.natCast_mul, e]; rfl
    rw [Int.mul_assoc, e']; rfl
  have key : q - sN (q % 4294967296).toNat (m + 1) = 2 * ((2 ^ m : Nat) : Int) * (c * u + t) := by
    rw [Int.mul_add, ← Int.mul_assoc, ← hc]
    omega
  generalize sN (q % 4294967296).toNat (m + 1) = g at r0 r1 key
  generalize c * u + t = a at key
  generalize ((2 ^ m : Nat) : Int) = y at *
  by_cases ha : a = 0
  · subst ha
    simp at key
    omega
  · exfalso
    rcases (show 1 ≤ a ∨ a ≤ -1 by omega) with h | h
    · have : 2 * y * 1 ≤ 2 * y * a := Int.mul_le_mul_of_nonneg_left h (by omega)
      omega
    · have : 2 * y * a ≤ 2 * y * (-1) := Int.mul_le_mul_of_nonneg_left h (by omega)
      omega

theorem pow_cast (c : Nat) : ((2 : Int) ^ c) = ((2 ^ c : Nat) : Int) := by simp
theorem pow8 {c : Nat} (h : c ≤ 8) : 2 ^ c ≤ 256 := Nat.pow_le_pow_right (n := 2) (j := 8) (by decide) h

/-- A small number times a small power does not wrap, and is told again. -/
theorem shl_small64 (g : Int) (c : Nat) (hc : c ≤ 8) (h0 : -4294967296 ≤ g) (h1 : g ≤ 4294967296) :
    wrap64 (g * 2 ^ c) = g * ((2 ^ c : Nat) : Int) ∧ -1099511627776 ≤ g * ((2 ^ c : Nat) : Int) ∧ g * ((2 ^ c : Nat) : Int) ≤ 1099511627776 := by
  rw [pow_cast]
  have hp := pow8 hc
  generalize 2 ^ c = y at hp ⊢
  have a : g * (y : Int) ≤ 4294967296 * (y : Int) := Int.mul_le_mul_of_nonneg_right h1 (by omega)
  have b : -4294967296 * (y : Int) ≤ g * (y : Int) := Int.mul_le_mul_of_nonneg_right h0 (by omega)
  exact ⟨w64 (by omega) (by omega), by omega, by omega⟩

theorem fits_of (g : Int) (m c : Nat) (sg : Bool) (hm : m ≤ 31) (hc : c ≤ 8) (h0 : -4294967296 ≤ g) (h1 : g ≤ 4294967296) (hf : fin g (m + 1) sg = true) : fitsV (wrap64 (g * 2 ^ c)) ((m + 1 : Nat) : Int) (c : Int) sg = true := by
  unfold fitsV
  rw [if_pos (by omega), Int.toNat_natCast, Int.toNat_natCast, (shl_small64 g c hc h0 h1).1]
  unfold fitsN
  have hz : ((2 ^ c : Nat) : Int) ≠ 0 := by have := Nat.two_pow_pos c; omega
  rw [Int.mul_emod_left, Int.mul_ediv_cancel _ hz, hf]
  rfl

/-- What fits is the number of its lowest bits, put up again. -/
theorem back_signed {z : Int} {m c : Nat} (hm : m ≤ 31) (hc : c ≤ 8) (h0 : -9223372036854775808 ≤ z) (h1 : z < 9223372036854775808) (hf : fitsV z ((m + 1 : Nat) : Int) (c : Int) true = true) :
    wrap64 (sN (z / 2 ^ c % 4294967296).toNat (m + 1) * 2 ^ c) = z := by
  unfold fitsV at hf
  rw [if_pos (by omega), Int.toNat_natCast, Int.toNat_natCast] at hf
  unfold fitsN at hf
  simp only [Bool.and_eq_true, decide_eq_true_eq, fin, if_true, Nat.add_sub_cancel] at hf
  obtain ⟨hz, q0, q1⟩ := hf
  rw [pow_cast, sN_of hm q0 q1, Int.ediv_mul_cancel (Int.dvd_of_emod_eq_zero hz)]
  exact w64 h0 h1
theorem back_unsigned {z : Int} {m c : Nat} (hm : m ≤ 31) (hc : c ≤ 8) (h0 : -9223372036854775808 ≤ z) (h1 : z < 9223372036854775808) (hf : fitsV z ((m + 1 : Nat) : Int) (c : Int) false = true) :
    wrap64 ((gN (z / 2 ^ c % 4294967296).toNat 0 (m + 1) : Int) * 2 ^ c) = z := by
  unfold fitsV at hf
  rw [if_pos (by omega), Int.toNat_natCast, Int.toNat_natCast] at hf
  unfold fitsN at hf
  simp only [Bool.and_eq_true, decide_eq_true_eq, fin, Bool.false_eq_true, if_false] at hf
  obtain ⟨hz, q0, q1⟩ := hf
  have hp := pow32 (n := m + 1) (by omega)
  rw [pow_cast]
  have e : (gN (z / ((2 ^ c : Nat) : Int) % 4294967296).toNat 0 (m + 1) : Int) = z / ((2 ^ c : Nat) : Int) := by
    generalize z / ((2 ^ c : Nat) : Int) = q at q0 q1 ⊢
    have e1 : q % 4294967296 = q := Int.emod_eq_of_lt q0 (by omega)
    rw [e1]
    unfold gN
    rw [Nat.pow_zero, Nat.div_one, Nat.mod_eq_of_lt (by omega)]
    omega
  rw [e, Int.ediv_mul_cancel (Int.dvd_of_emod_eq_zero hz)]
  exact w64 h0 h1

theorem bitsSigned_walk (z x n s : Int) (hz : (Lit.int .i64 z).wf = true) (hx : (Lit.int .u32 x).wf = true) (hn : (Lit.int .u8 n).wf = true) (hs : (Lit.int .u8 s).wf = true) (w : World) (hG : Glob w) :
    Calls Tryd.prog 4 #[.int .i64 z, .int .u32 x, .int .u8 n, .int .u8 s] w fun e w' => e = .returned (.bool true) ∧ Below w.heap.size w w' := by
  obtain ⟨z0, z1⟩ := bounds_i64 hz
  obtain ⟨x0, x1⟩ := bounds_u32 hx
  obtain ⟨n0, n1⟩ := bounds_u8 hn
  obtain ⟨s0, s1⟩ := bounds_u8 hs
  obtain ⟨x, rfl⟩ := Int.eq_ofNat_of_zero_le x0
  have hx' : x < 4294967296 := by omega
  obtain ⟨m, hm⟩ : ∃ m : Nat, n % 32 = (m : Int) := ⟨(n % 32).toNat, by omega⟩
  obtain ⟨c, hc⟩ : ∃ c : Nat, s % 9 = (c : Int) := ⟨(s % 9).toNat, by omega⟩
  have hm31 : m ≤ 31 := by omega
  have hc8 : c ≤ 8 := by omega
  have hk : n % 32 + 1 = ((m + 1 : Nat) : Int) := by omega
  obtain ⟨u, hu⟩ : ∃ u : Nat, z / 2 ^ c % 4294967296 = (u : Int) := ⟨(z / 2 ^ c % 4294967296).toNat, by have : 0 ≤ z / 2 ^ c % 4294967296 := Int.emod_nonneg _ (by decide); omega⟩
  have hu' : u < 4294967296 := by have := Int.emod_lt_of_pos (z / 2 ^ c) (show (0 : Int) < 4294967296 by decide); omega
  have hut : (z / 2 ^ c % 4294967296).toNat = u := by omega
  -- what the calls answer
  have F : ∀ (v : Int) (sg : Bool), -9223372036854775808 ≤ v → v < 9223372036854775808 → ∀ W, Calls Tryd.prog 16 #[.int .i64 v, .int .i64 ((m + 1 : Nat) : Int), .int .i64 (c : Int), .bool sg] W fun e w' => e = .returned (.bool (fitsV v ((m + 1 : Nat) : Int) c sg)) ∧ Below W.heap.size W w' :=
    fun v sg h0 h1 W => (bits_Fits.calls 1 _ _ _ _ _ W (Fits_ok 1 v _ _ sg (by omega) h0 h1)).mono fun _ _ h => ⟨h.1, h.2.below⟩
  have S : ∀ (v : Nat), v < 4294967296 → ∀ W, Calls Tryd.prog 17 #[.int .u32 (v : Int), .int .i64 ((m + 1 : Nat) : Int)] W fun e w' => e = .returned (.int .i64 (sN v (m + 1))) ∧ Below W.heap.size W w' := fun v hv W => by
    have h := Sext_ok 1 v ((m + 1 : Nat) : Int) (by omega) hv
    unfold sextV at h
    rw [if_pos (by omega), Int.toNat_natCast] at h
    exact bits_Sext.calls 1 _ _ _ W h
  have G : ∀ (v : Nat), v < 4294967296 → ∀ W, Calls Tryd.prog 18 #[.int .u32 (v : Int), .int .i64 0, .int .i64 ((m + 1 : Nat) : Int)] W fun e w' => e = .returned (.int .u32 (gN v 0 (m + 1))) ∧ Below W.heap.size W w' := fun v hv W => by
    have h := Get_ok v 0 ((m + 1 : Nat) : Int) hv
    unfold getV at h
    rw [if_pos (by unfold isN; omega), Int.toNat_natCast] at h
    exact bits_Get.calls _ _ _ _ W h
  have hp32 := pow32 (n := m + 1) (by omega)
  have hpm := Nat.pow_succ (n := 2) (m := m)
  obtain ⟨r0, r1, -⟩ := sN_range x m
  have gl := gN_lt x 0 (m + 1)
  have a3 := shl_small64 (sN x (m + 1)) c hc8 (by omega) (by omega)
  have a4 := shl_small64 (gN x 0 (m + 1)) c hc8 (by omega) (by omega)
  have e3 : fitsV (wrap64 (sN x (m + 1) * 2 ^ c)) ((m + 1 : Nat) : Int) (c : Int) true = true :=
    fits_of _ m c true hm31 hc8 (by omega) (by omega) (by simp only [fin, if_true, Nat.add_sub_cancel]; exact decide_eq_true ⟨r0, r1⟩)
  have e4 : fitsV (wrap64 ((gN x 0 (m + 1) : Int) * 2 ^ c)) ((m + 1 : Nat) : Int) (c : Int) false = true :=
    fits_of _ m c false hm31 hc8 (by omega) (by omega) (by simp only [fin, Bool.false_eq_true, if_false]; exact decide_eq_true ⟨by omega, by omega⟩)
  have f3 := F (wrap64 (sN x (m + 1) * 2 ^ c)) true (by rw [a3.1]; omega) (by rw [a3.1]; omega)
  rw [e3] at f3
  have f4 := F (wrap64 ((gN x 0 (m + 1) : Int) * 2 ^ c)) false (by rw [a4.1]; omega) (by rw [a4.1]; omega)
  rw [e4] at f4
  have f1 := F z true (by omega) (by omega)
  have f2 := F z false (by omega) (by omega)
  have su := S u hu'
  have gu := G u hu'
  rw [← hu] at su gu
  cases b1 : fitsV z ((m + 1 : Nat) : Int) c true <;> cases b2 : fitsV z ((m + 1 : Nat) : Int) c false <;> rw [b1] at f1 <;> rw [b2] at f2
  · exact signed_walk_false_false z x n s (sN x (m + 1)) (gN x 0 (m + 1)) (m + 1) c w hG n0 n1 s0 s1 ⟨by omega, by omega⟩ hk hc f1 f2 (S x hx') f3 (G x hx') f4
  · have t2 := back_unsigned hm31 hc8 (by omega) (by omega) b2
    rw [hut] at t2
    exact signed_walk_false_true z x n s (gN u 0 (m + 1)) (sN x (m + 1)) (gN x 0 (m + 1)) (m + 1) c w hG n0 n1 s0 s1 ⟨by omega, by have := gN_lt u 0 (m + 1); omega⟩ ⟨by omega, by omega⟩ hk hc f1 f2 gu (S x hx') f3 (G x hx') f4 (by rw [t2]; simp)
  · have t1 := back_signed hm31 hc8 (by omega) (by omega) b1
    rw [hut] at t1
    exact signed_walk_true_false z x n s (sN u (m + 1)) (sN x (m + 1)) (gN x 0 (m + 1)) (m + 1) c w hG n0 n1 s0 s1 ⟨by omega, by omega⟩ hk hc f1 su f2 (S x hx') f3 (G x hx') f4 (by rw [t1]; simp)
  · have t1 := back_signed hm31 hc8 (by omega) (by omega) b1
    have t2 := back_unsigned hm31 hc8 (by omega) (by omega) b2
    rw [hut] at t1 t2
    exact signed_walk_true_true z x n s (sN u (m + 1)) (gN u 0 (m + 1)) (sN x (m + 1)) (gN x 0 (m + 1)) (m + 1) c w hG n0 n1 s0 s1 ⟨by omega, by have := gN_lt u 0 (m + 1); omega⟩ ⟨by omega, by omega⟩ hk hc f1 su f2 gu (S x hx') f3 (G x hx') f4 (by rw [t1]; simp) (by rw [t2]; simp)

end Go.Proofs.YtoljlbfjjemldaaDoor
