/- Whether a value fits: what the code and the reference compute. Plain; no world. -/
import Derived.Test.YtoljlbfjjemldaaDoorSigned
namespace Go.Proofs.YtoljlbfjjemldaaDoor
open Go.RowKit Go.Proofs.YtoljlbfjjemldaaDoorW.PrintWords Go.Proofs.YtoljlbfjjemldaaDoorW.PrintMore
open Go.Proofs.YtoljlbfjjemldaaDoor.PBitsFields

/-- Does what is left, q, fit n bits? -/
def fin (q : Int) (n : Nat) (sg : Bool) : Bool := if sg then decide (-((2 ^ (n - 1) : Nat) : Int) ≤ q ∧ q < ((2 ^ (n - 1) : Nat) : Int)) else decide (0 ≤ q ∧ q < ((2 ^ n : Nat) : Int))
def fitsN (v : Int) (n s : Nat) (sg : Bool) : Bool := decide (v % ((2 ^ s : Nat) : Int) = 0) && fin (v / ((2 ^ s : Nat) : Int)) n sg
def fitsV (v n s : Int) (sg : Bool) : Bool := if 1 ≤ n ∧ n ≤ 32 ∧ 0 ≤ s ∧ s ≤ 8 then fitsN v n.toNat s.toNat sg else false

theorem and_i64 (v : Int) (s : Nat) (hs : s ≤ 8) : bits .and .i64 v ((2 ^ s - 1 : Nat) : Int) = v % ((2 ^ s : Nat) : Int) := by
  simp only [bits]
  show IntKind.i64.wrap ((BitVec.ofInt 64 v &&& BitVec.ofInt 64 ((2 ^ s - 1 : Nat) : Int)).toNat : Int) = _
  rw [BitVec.ofInt_natCast, BitVec.toNat_and, BitVec.toNat_ofNat, BitVec.toNat_ofInt]
  have hp : 2 ^ s ≤ 256 := Nat.pow_le_pow_right (n := 2) (j := 8) (by decide) hs
  have hz := Nat.two_pow_pos s
  rw [Nat.mod_eq_of_lt (a := 2 ^ s - 1) (by omega), Nat.and_two_pow_sub_one_eq_mod]
  have hm := Nat.mod_lt (v % ((2 ^ 64 : Nat) : Int)).toNat hz
  rw [IntKind.wrap_i64]
  have hd : ((2 ^ s : Nat) : Int) ∣ ((2 ^ 64 : Nat) : Int) := Int.natCast_dvd_natCast.2 (Nat.pow_dvd_pow 2 (by omega))
  have hnn : 0 ≤ v % ((2 ^ 64 : Nat) : Int) := Int.emod_nonneg _ (by decide)
  have e : (((v % ((2 ^ 64 : Nat) : Int)).toNat % 2 ^ s : Nat) : Int) = v % ((2 ^ s : Nat) : Int) := by
    rw [Int.natCast_emod, Int.toNat_of_nonneg hnn, Int.emod_emod_of_dvd _ hd]
  rw [← e]
  generalize (v % ((2 ^ 64 : Nat) : Int)).toNat % 2 ^ s = y at hm ⊢
  omega

theorem div_bounds {v : Int} (h0 : -9223372036854775808 ≤ v) (h1 : v < 9223372036854775808) (s : Nat) : -9223372036854775808 ≤ v / ((2 ^ s : Nat) : Int) ∧ v / ((2 ^ s : Nat) : Int) < 9223372036854775808 := by
  have hz : (0 : Int) < ((2 ^ s : Nat) : Int) := by exact_mod_cast Nat.two_pow_pos s
  generalize ((2 ^ s : Nat) : Int) = y at hz ⊢
  constructor
  · apply Int.le_ediv_of_mul_le hz
    have : -9223372036854775808 * y ≤ -9223372036854775808 * 1 := Int.mul_le_mul_of_nonpos_left (by omega) (by omega)
    omega
  · apply Int.ediv_lt_of_lt_mul hz
    have : 9223372036854775808 * 1 ≤ 9223372036854775808 * y := Int.mul_le_mul_of_nonneg_left (by omega) (by omega)
    omega

theorem Fits_ok (k : Nat) (v n s : Int) (sg : Bool) (hk : 1 ≤ k) (h0 : -9223372036854775808 ≤ v) (h1 : v < 9223372036854775808) : bits_Fits.f k v n s sg = some (fitsV v n s sg) := by
  obtain ⟨k, rfl⟩ : ∃ m, k = m + 1 := ⟨k - 1, by omega⟩
  unfold bits_Fits.f fitsV
  by_cases a1 : n < 1
  · rw [if_pos a1, if_neg (by omega)]; rfl
  · by_cases a2 : n > 32
    · rw [if_neg a1, if_pos a2, if_neg (by omega)]; rfl
    · by_cases a3 : s < 0
      · rw [if_neg a1, if_neg a2, if_pos a3, if_neg (by omega)]; rfl
      · by_cases a4 : s > 8
        · rw [if_neg a1, if_neg a2, if_neg a3, if_pos a4, if_neg (by omega)]; rfl
        · rw [if_neg a1, if_neg a2, if_neg a3, if_neg a4, if_pos (by omega), if_pos (by omega)]
          obtain ⟨m, rfl⟩ : ∃ m : Nat, n = ((m + 1 : Nat) : Int) := ⟨(n - 1).toNat, by omega⟩
          obtain ⟨c, rfl⟩ : ∃ c : Nat, s = (c : Int) := ⟨s.toNat, by omega⟩
          have e2 : (((m + 1 : Nat) : Int)).toNat = m + 1 := by omega
          have e1 : ((m + 1 : Nat) : Int) - 1 = (m : Int) := by omega
          have hp := pow32 (n := m + 1) (by omega)
          have hq := pow31 (n := m) (by omega)
          have hpm := Nat.pow_succ (n := 2) (m := m)
          have hc : 2 ^ c ≤ 256 := Nat.pow_le_pow_right (n := 2) (j := 8) (by decide) (by omega)
          have hcz := Nat.two_pow_pos c
          have e3 : ((2 ^ c : Nat) : Int) - 1 = ((2 ^ c - 1 : Nat) : Int) := by omega
          rw [e2, Int.toNat_natCast, shl_i64 c (by omega), e3, w64 (by omega) (by omega), and_i64 v c (by omega)]
          simp only [bits_Fits.j0, fitsN, fin]
          have hb := div_bounds h0 h1 c
          rw [shr_i64 v c (by omega), e1, w64 (n := (m : Int)) (by omega) (by omega), shl_i64 m (by omega), shl_i64 (m + 1) (by omega), Nat.add_sub_cancel]
          generalize v / ((2 ^ c : Nat) : Int) = q at hb ⊢
          by_cases hv : v % ((2 ^ c : Nat) : Int) = 0
          · simp only [hv, bne_self_eq_false, Bool.false_eq_true, if_false]
            rw [if_pos (by omega)]
            rw [hpm] at hp ⊢
            generalize 2 ^ m = y at hp hq ⊢
            cases sg
            · simp only [Bool.false_eq_true, if_false]
              by_cases b1 : q ≥ 0
              · rw [if_pos b1, if_pos (by omega)]; simp [b1]
              · rw [if_neg b1]; simp [b1]
            · simp only [if_true]
              rw [if_pos (by omega)]
              by_cases b1 : wrap64 (q + (y : Int)) ≥ 0
              · rw [if_pos b1, if_pos (by omega)]
                simp only [decide_true, Bool.true_and]
                congr 2
                apply propext
                unfold wrap64 at b1 ⊢
                omega
              · rw [if_neg b1]
                simp only [decide_true, Bool.true_and]
                rw [decide_eq_false]
                unfold wrap64 at b1
                omega
          · have hne : (v % ((2 ^ c : Nat) : Int) != 0) = true := by simpa using hv
            rw [hne, if_pos rfl, decide_eq_false hv, Bool.false_and]

theorem rfits_l1 (d : Nat) : ∀ (k i : Nat) (q : Int) (n : Nat) (sg : Bool), i + d = n → 1 ≤ n → n ≤ 32 → coxlessref01_Fits.l1 (k + d + 1) q n sg ((2 ^ i : Nat) : Int) i = some (fin q n sg) := by
  induction d with
  | zero =>
    intro k i q n sg hi h1 hn
    obtain rfl : i = n := by omega
    obtain ⟨m, rfl⟩ : ∃ m, i = m + 1 := ⟨i - 1, by omega⟩
    have hq := pow31 (n := m) (by omega)
    have hpm := Nat.pow_succ (n := 2) (m := m)
    unfold coxlessref01_Fits.l1 fin
    rw [if_neg (by omega), Nat.add_sub_cancel, hpm]
    generalize 2 ^ m = y at hq ⊢
    have e : Int.tdiv ((y * 2 : Nat) : Int) 2 = (y : Int) := by rw [Int.tdiv_eq_ediv_of_nonneg (by omega)]; omega
    rw [e, w64 (n := (y : Int)) (by omega) (by omega), w64 (n := -(y : Int)) (by omega) (by omega)]
    cases sg
    · simp only [Bool.false_eq_true, if_false]
      by_cases b1 : q ≥ 0
      · rw [if_pos b1]; simp [b1]
      · rw [if_neg b1]; simp [b1]
    · simp only [if_true]
      by_cases b1 : q ≥ -(y : Int)
      · rw [if_pos b1]; simp [b1]
      · rw [if_neg b1]; simp [b1]
  | succ d ih =>
    intro k i q n sg hi h1 hn
    have hp := pow32 (n := i + 1) (by omega)
    have hpm := Nat.pow_succ (n := 2) (m := i)
    have e4 : 2 * ((2 ^ i : Nat) : Int) = ((2 ^ (i + 1) : Nat) : Int) := by omega
    have e2 : (i : Int) + 1 = ((i + 1 : Nat) : Int) := by omega
    show coxlessref01_Fits.l1 ((k + d + 1) + 1) _ _ _ _ _ = _
    unfold coxlessref01_Fits.l1
    rw [if_pos (by omega), e4, e2, w64 (by omega) (by omega), w64 (by omega) (by omega)]
    exact ih k (i + 1) q n sg (by omega) h1 hn

theorem rfits_l0 (d : Nat) : ∀ (k i : Nat) (v : Int) (n s : Nat) (sg : Bool), i + d = s → s ≤ 8 → 1 ≤ n → n ≤ 32 → -9223372036854775808 ≤ v → v < 9223372036854775808 →
    coxlessref01_Fits.l0 (k + n + 1 + d + 1) v n s sg i = some (fitsN v n d sg) := by
  induction d with
  | zero =>
    intro k i v n s sg hi hs h1 hn hv0 hv1
    unfold coxlessref01_Fits.l0 fitsN
    rw [if_neg (by omega)]
    have := rfits_l1 n k 0 v n sg (by omega) h1 hn
    simpa using this
  | succ d ih =>
    intro k i v n s sg hi hs h1 hn hv0 hv1
    show coxlessref01_Fits.l0 ((k + n + 1 + d + 1) + 1) _ _ _ _ _ = _
    unfold coxlessref01_Fits.l0
    have e2 : (i : Int) + 1 = ((i + 1 : Nat) : Int) := by omega
    have hpm : ((2 ^ (d + 1) : Nat) : Int) = 2 * ((2 ^ d : Nat) : Int) := by have := Nat.pow_succ (n := 2) (m := d); omega
    rw [if_pos (by omega), e2, w64 (n := ((i + 1 : Nat) : Int)) (by omega) (by omega)]
    by_cases hev : v % 2 = 0
    · obtain ⟨u, rfl⟩ : ∃ u, v = 2 * u := ⟨v / 2, by omega⟩
      have et : Int.tmod (2 * u) 2 = 0 := Int.mul_tmod_right 2 u
      have ed : Int.tdiv (2 * u) 2 = u := Int.mul_tdiv_cancel_left u (by decide)
      rw [if_pos et, ed, w64 (by omega) (by omega), ih k (i + 1) u n s sg (by omega) hs h1 hn (by omega) (by omega)]
      unfold fitsN
      rw [hpm, Int.mul_emod_mul_of_pos _ _ (by decide), Int.mul_ediv_mul_of_pos _ _ (by decide)]
      have hdd : decide (2 * (u % ((2 ^ d : Nat) : Int)) = 0) = decide (u % ((2 ^ d : Nat) : Int) = 0) := decide_eq_decide.2 (by omega)
      rw [hdd]
    · have hodd : ¬ Int.tmod v 2 = 0 := by
        intro h
        have := Int.dvd_of_tmod_eq_zero h
        omega
      rw [if_neg hodd]
      unfold fitsN
      have : ¬ v % ((2 ^ (d + 1) : Nat) : Int) = 0 := by
        rw [hpm]
        intro h
        have hd : (2 : Int) ∣ v := Int.dvd_trans (Int.dvd_mul_right 2 _) (Int.dvd_of_emod_eq_zero h)
        omega
      rw [decide_eq_false this, Bool.false_and]

theorem rFits_ok (v n s : Int) (sg : Bool) (h0 : -9223372036854775808 ≤ v) (h1 : v < 9223372036854775808) : ∃ k, coxlessref01_Fits.f k v n s sg = some (fitsV v n s sg) := by
  unfold coxlessref01_Fits.f fitsV
  by_cases a1 : n < 1
  · refine ⟨1, ?_⟩; rw [if_pos a1, if_neg (by omega)]; rfl
  · by_cases a2 : n > 32
    · refine ⟨1, ?_⟩; rw [if_neg a1, if_pos a2, if_neg (by omega)]; rfl
    · by_cases a3 : s < 0
      · refine ⟨1, ?_⟩; rw [if_neg a1, if_neg a2, if_pos a3, if_neg (by omega)]; rfl
      · by_cases a4 : s > 8
        · refine ⟨1, ?_⟩; rw [if_neg a1, if_neg a2, if_neg a3, decide_eq_true a4, if_neg (by omega)]; rfl
        · obtain ⟨m, rfl⟩ : ∃ m : Nat, n = (m : Int) := ⟨n.toNat, by omega⟩
          obtain ⟨c, rfl⟩ : ∃ c : Nat, s = (c : Int) := ⟨s.toNat, by omega⟩
          refine ⟨(0 + m + 1 + c + 1) + 1, ?_⟩
          rw [if_neg a1, if_neg a2, if_neg a3, decide_eq_false a4, if_pos (by omega), Int.toNat_natCast, Int.toNat_natCast]
          show (if false = true then some false else coxlessref01_Fits.l0 (0 + m + 1 + c + 1) v m c sg 0) = _
          rw [if_neg (by decide)]
          exact rfits_l0 c 0 0 v m c sg (by omega) (by omega) (by omega) (by omega) h0 h1

end Go.Proofs.YtoljlbfjjemldaaDoor
