/- Signed numbers of some bits, and whether a value fits: what the code and the reference compute. Plain; no world. -/
import Derived.Test.YtoljlbfjjemldaaDoorRef
namespace Go.Proofs.YtoljlbfjjemldaaDoor
open Go.RowKit Go.Proofs.YtoljlbfjjemldaaDoorW.PrintWords Go.Proofs.YtoljlbfjjemldaaDoorW.PrintMore
open Go.Proofs.YtoljlbfjjemldaaDoor.PBitsFields

/-- A signed number of n bits, n not 0. -/
def sN (v n : Nat) : Int := (v % 2 ^ (n - 1) : Nat) - (2 ^ (n - 1) * bN v (n - 1) : Nat)
def sextV (v : Nat) (n : Int) : Int := if 1 ≤ n ∧ n ≤ 32 then sN v n.toNat else 0

theorem pow31 {n : Nat} (h : n ≤ 31) : 2 ^ n ≤ 2147483648 := Nat.pow_le_pow_right (n := 2) (j := 31) (by decide) h

theorem shl_i64 (m : Nat) (hm : m ≤ 32) : shl .i64 1 (m : Int) = ((2 ^ m : Nat) : Int) := by
  unfold shl
  rw [Int.toNat_natCast, Nat.min_eq_left (by show m ≤ 64; omega), IntKind.wrap_i64]
  have := pow32 hm
  have e : ((1 : Int) * 2 ^ m) = ((2 ^ m : Nat) : Int) := by simp
  rw [e]
  generalize 2 ^ m = y at this ⊢
  omega
theorem shr_i64 (x : Int) (m : Nat) (hm : m ≤ 64) : shr .i64 x (m : Int) = x / ((2 ^ m : Nat) : Int) := by
  unfold shr
  rw [Int.toNat_natCast, Nat.min_eq_left (show m ≤ IntKind.i64.bits from hm)]
  simp

theorem Sext_ok (k v : Nat) (n : Int) (hk : 1 ≤ k) (hv : v < 4294967296) : bits_Sext.f k v n = some (sextV v n) := by
  obtain ⟨k, rfl⟩ : ∃ m, k = m + 1 := ⟨k - 1, by omega⟩
  unfold bits_Sext.f sextV
  by_cases h1 : n < 1
  · rw [if_pos h1, if_neg (by omega)]; rfl
  · rw [if_neg h1]
    by_cases h2 : n > 32
    · rw [decide_eq_true h2, if_neg (by omega)]; rfl
    · rw [decide_eq_false h2, if_pos (by omega)]
      simp only [bits_Sext.j0]
      rw [if_neg (by decide)]
      obtain ⟨m, rfl⟩ : ∃ m : Nat, n = ((m + 1 : Nat) : Int) := ⟨(n - 1).toNat, by omega⟩
      have hg := get_ok 0 (m + 1) v (by omega) hv
      have hg0 : ((0 : Nat) : Int) = 0 := rfl
      rw [hg0] at hg
      rw [hg]
      simp only [Option.bind_some]
      have hl := gN_lt v 0 (m + 1)
      have hp := pow32 (n := m + 1) (by omega)
      have e1 : ((m + 1 : Nat) : Int) - 1 = (m : Int) := by omega
      rw [e1, w64 (n := (m : Int)) (by omega) (by omega), w64 (n := (gN v 0 (m + 1) : Int)) (by omega) (by omega), if_pos (by omega), shr_i64 _ m (by omega), shl_i64 (m + 1) (by omega)]
      have hdiv : (gN v 0 (m + 1) : Int) / ((2 ^ m : Nat) : Int) = (bN v m : Int) := by
        have : gN v 0 (m + 1) / 2 ^ m = bN v m := by
          unfold gN bN
          rw [Nat.pow_zero, Nat.div_one, Nat.pow_succ, Nat.mod_mul_right_div_self]
        rw [← this]; simp
      have hsum : gN v 0 (m + 1) = v % 2 ^ m + 2 ^ m * bN v m := by
        unfold gN bN
        rw [Nat.pow_zero, Nat.div_one]
        exact Nat.mod_pow_succ
      have hb := bN_lt v m
      have hpm := Nat.pow_succ (n := 2) (m := m)
      have hpz := Nat.two_pow_pos m
      have hlow : v % 2 ^ m < 2 ^ m := Nat.mod_lt _ hpz
      have e2 : (((m + 1 : Nat) : Int)).toNat = m + 1 := by omega
      have hsn : sN v (m + 1) = (v % 2 ^ m : Nat) - (2 ^ m * bN v m : Nat) := rfl
      rw [hdiv, e2, hsn]
      rw [hpm] at hp hl ⊢
      by_cases hb1 : bN v m = 1
      · rw [if_pos (by omega), if_pos (by omega)]
        rw [hb1] at hsum ⊢
        generalize 2 ^ m = y at hsum hp hl hlow ⊢
        rw [w64 (by omega) (by omega)]
        congr 1
        omega
      · have hb0 : bN v m = 0 := by omega
        rw [if_neg (by omega)]
        rw [hb0] at hsum ⊢
        congr 1
        omega

theorem sx_last (a y b : Nat) (ha : a < y) (hy : y ≤ 2147483648) (hb : b < 2) : wrap64 ((a : Int) + wrap64 (wrap64 (-(y : Int)) * wrap64 (b : Int))) = (a : Int) - ((y * b : Nat) : Int) := by
  rw [w64 (n := (b : Int)) (by omega) (by omega), w64 (n := -(y : Int)) (by omega) (by omega)]
  rcases (show b = 0 ∨ b = 1 by omega) with rfl | rfl
  · have e3 : -(y : Int) * ((0 : Nat) : Int) = 0 := by simp
    rw [e3, w64 (n := 0) (by omega) (by omega), w64 (by omega) (by omega)]
    simp
  · have e3 : -(y : Int) * ((1 : Nat) : Int) = -(y : Int) := by simp
    rw [e3, w64 (n := -(y : Int)) (by omega) (by omega), w64 (by omega) (by omega)]
    omega
theorem sx_step (a y b : Nat) (ha : a < y) (hy : y ≤ 1073741824) (hb : b < 2) : wrap64 ((a : Int) + wrap64 ((y : Int) * wrap64 (b : Int))) = ((a + y * b : Nat) : Int) ∧ wrap64 (2 * (y : Int)) = ((y * 2 : Nat) : Int) := by
  rw [w64 (n := (b : Int)) (by omega) (by omega)]
  rcases (show b = 0 ∨ b = 1 by omega) with rfl | rfl
  · have e3 : (y : Int) * ((0 : Nat) : Int) = 0 := by simp
    rw [e3, w64 (n := 0) (by omega) (by omega), w64 (by omega) (by omega), w64 (by omega) (by omega)]
    omega
  · have e3 : (y : Int) * ((1 : Nat) : Int) = (y : Int) := by simp
    rw [e3, w64 (n := (y : Int)) (by omega) (by omega), w64 (by omega) (by omega), w64 (by omega) (by omega)]
    omega

theorem rsext_end (k v i : Nat) (hi : i ≤ 31) (hv : v < 4294967296) :
    coxlessref01_Sext.l0 (k + i + 4) v ((i + 1 : Nat) : Int) ((v % 2 ^ i : Nat) : Int) ((2 ^ i : Nat) : Int) i = some (sN v (i + 1)) := by
  have hb := bN_lt v i
  have hp := pow31 hi
  have hl : v % 2 ^ i < 2 ^ i := Nat.mod_lt _ (Nat.two_pow_pos i)
  have e1 : ((i + 1 : Nat) : Int) - 1 = i := by omega
  have e2 : (i : Int) + 1 = ((i + 1 : Nat) : Int) := by omega
  have hlast := sx_last (v % 2 ^ i) (2 ^ i) (bN v i) hl hp hb
  show coxlessref01_Sext.l0 ((k + i + 3) + 1) _ _ _ _ _ = _
  unfold coxlessref01_Sext.l0
  rw [if_pos (by omega), e1, w64 (n := (i : Int)) (by omega) (by omega), if_pos rfl, bit_f _ v i (by omega) hv (by omega), Option.bind_some, e2, w64 (n := ((i + 1 : Nat) : Int)) (by omega) (by omega), hlast]
  show coxlessref01_Sext.l0 ((k + i + 2) + 1) _ _ _ _ _ = _
  unfold coxlessref01_Sext.l0
  rw [if_neg (by omega)]
  rfl

theorem rsext_l (d : Nat) : ∀ (k v i m : Nat), i + d = m → m ≤ 31 → v < 4294967296 →
    coxlessref01_Sext.l0 (k + m + d + 4) v ((m + 1 : Nat) : Int) ((v % 2 ^ i : Nat) : Int) ((2 ^ i : Nat) : Int) i = some (sN v (m + 1)) := by
  induction d with
  | zero =>
    intro k v i m hi hm hv
    obtain rfl : i = m := by omega
    exact rsext_end k v i hm hv
  | succ d ih =>
    intro k v i m hi hm hv
    have hp := pow31 (n := i + 1) (by omega)
    have hb := bN_lt v i
    have hl : v % 2 ^ i < 2 ^ i := Nat.mod_lt _ (Nat.two_pow_pos i)
    have hs : v % 2 ^ (i + 1) = v % 2 ^ i + 2 ^ i * bN v i := Nat.mod_pow_succ
    rw [Nat.pow_succ] at hp
    have hst := sx_step (v % 2 ^ i) (2 ^ i) (bN v i) hl (by omega) hb
    have e1 : ((m + 1 : Nat) : Int) - 1 = m := by omega
    have e2 : (i : Int) + 1 = ((i + 1 : Nat) : Int) := by omega
    have IH := ih k v (i + 1) m (by omega) hm hv
    rw [hs, Nat.pow_succ] at IH
    show coxlessref01_Sext.l0 ((k + m + d + 4) + 1) _ _ _ _ _ = _
    unfold coxlessref01_Sext.l0
    rw [if_pos (by omega), e1, w64 (n := (m : Int)) (by omega) (by omega), if_neg (by omega), bit_f _ v i (by omega) hv (by omega), Option.bind_some, e2, w64 (n := ((i + 1 : Nat) : Int)) (by omega) (by omega), hst.1, hst.2]
    exact IH
theorem rSext_ok (v : Nat) (n : Int) (hv : v < 4294967296) : ∃ k, coxlessref01_Sext.f k v n = some (sextV v n) := by
  unfold coxlessref01_Sext.f sextV
  by_cases h1 : n < 1
  · refine ⟨1, ?_⟩
    rw [if_pos h1, if_neg (by omega)]; rfl
  · by_cases h2 : n > 32
    · refine ⟨1, ?_⟩
      rw [if_neg h1, decide_eq_true h2, if_neg (by omega)]; rfl
    · obtain ⟨m, rfl⟩ : ∃ m : Nat, n = ((m + 1 : Nat) : Int) := ⟨(n - 1).toNat, by omega⟩
      have e2 : (((m + 1 : Nat) : Int)).toNat = m + 1 := by omega
      have := rsext_l m 0 v 0 m (by omega) (by omega) hv
      refine ⟨0 + m + m + 4 + 1, ?_⟩
      rw [if_neg h1, decide_eq_false h2, if_pos (by omega), e2]
      show (if false = true then some 0 else coxlessref01_Sext.l0 (0 + m + m + 4) _ _ 0 1 0) = _
      rw [if_neg (by decide)]
      simpa [Nat.mod_one] using this

end Go.Proofs.YtoljlbfjjemldaaDoor
