/- Sums, quotient by 2^15, floor, order, conversion. Plain. -/
import Derived.Test.YtoofmpchcbnljaaFlt
namespace Go.Proofs.Ytoofmpchcbnljaa
open Ieee
set_option linter.unusedVariables false
set_option linter.unusedSimpArgs false

/-- What a sign and a magnitude stand for. -/
def sv (s : Bool) (a : Nat) : Int := if s then -(a : Int) else a
theorem signed_sv (s : Bool) (m n : Nat) : signed s m n = sv s (m * 2 ^ n) := by
  unfold signed sv
  rw [Nat.shiftLeft_eq]
theorem sv_mul (s : Bool) (a n : Nat) : sv s (a * n) = sv s a * (n : Int) := by
  unfold sv
  cases s <;> simp [Int.neg_mul]

/-- What a word stands for, at a scale below all. -/
theorem read_base (s : Bool) (c : Nat) (e : Int) (h : c < 9007199254740992) (hq : -60 ≤ e ∧ e ≤ 100) :
    ∃ (m : Nat) (i : Int), double.read (E s c e) = .number s m i ∧ i ≤ e ∧ ∀ base : Int, base ≤ i → signed s m (i - base).toNat = sv s c * ((2 ^ (e - base).toNat : Nat) : Int) := by
  obtain ⟨k, i, h1, h2, h3⟩ := read_any s c e h hq
  rcases Nat.eq_zero_or_pos c with rfl | h0
  · refine ⟨_, i, h1, by have := h3 rfl; omega, fun base hb => ?_⟩
    rw [signed_sv, Nat.zero_mul, Nat.zero_mul]
    cases s <;> simp [sv]
  · obtain ⟨e1, hk⟩ := h2 h0
    refine ⟨_, i, h1, by omega, fun base hb => ?_⟩
    rw [signed_sv, Nat.mul_assoc, ← Nat.pow_add, sv_mul]
    congr 4
    omega

theorem sum_E (s t : Bool) (a b : Nat) (x : Datum) (ha : a < 9007199254740992) (hb : b < 9007199254740992) (hx : ∃ t' : Bool, ∃ (n : Nat) (j : Int), x = .number t' n j ∧ j ≤ 0 ∧ ∀ base : Int, base ≤ j → signed t' n (j - base).toNat = sv t b * ((2 ^ (0 - base).toNat : Nat) : Int)) (hs : (sv s a + sv t b).natAbs < 9007199254740992) :
    ∃ z : Bool, ((double.read (E s a 0)).sum x).map double.write = some (E z (sv s a + sv t b).natAbs 0) ∧ (sv s a + sv t b ≠ 0 → z = decide (sv s a + sv t b < 0)) := by
  obtain ⟨m, i, h1, h2, h3⟩ := read_base s a 0 ha (by omega)
  obtain ⟨t', n, j, rfl, g2, g3⟩ := hx
  rw [h1]
  simp only [Datum.sum, Option.map_some]
  have hm := h3 (min i j) (Int.min_le_left _ _)
  have hn := g3 (min i j) (Int.min_le_right _ _)
  rw [hm, hn, ← Int.add_mul]
  generalize hS : sv s a + sv t b = S at hs
  have hbz : min i j ≤ 0 := by omega
  have hp : 0 < 2 ^ (0 - min i j).toNat := Nat.two_pow_pos _
  have eabs : (S * ((2 ^ (0 - min i j).toNat : Nat) : Int)).natAbs = S.natAbs * 2 ^ (0 - min i j).toNat := by rw [Int.natAbs_mul, Int.natAbs_natCast]
  refine ⟨if S * ((2 ^ (0 - min i j).toNat : Nat) : Int) = 0 then s && t' else decide (S * ((2 ^ (0 - min i j).toNat : Nat) : Int) < 0), ?_, fun hne => ?_⟩
  · congr 1
    show double.nearest _ _ _ = _
    rw [eabs, near_E _ _ _ _ hs (by omega)]
    congr 1
    omega
  · have h0 : ((2 ^ (0 - min i j).toNat : Nat) : Int) ≠ 0 := by omega
    rw [if_neg (Int.mul_ne_zero hne h0)]
    congr 1
    rw [eq_iff_iff]
    constructor
    · intro h
      by_cases hh : S < 0
      · exact hh
      · have := Int.mul_nonneg (show 0 ≤ S by omega) (show (0 : Int) ≤ ((2 ^ (0 - min i j).toNat : Nat) : Int) by omega)
        omega
    · intro h
      exact Int.mul_neg_of_neg_of_pos h (by omega)

theorem add_E (s t : Bool) (a b : Nat) (ha : a < 9007199254740992) (hb : b < 9007199254740992) (hs : (sv s a + sv t b).natAbs < 9007199254740992) :
    ∃ z : Bool, double.add (E s a 0) (E t b 0) = some (E z (sv s a + sv t b).natAbs 0) ∧ (sv s a + sv t b ≠ 0 → z = decide (sv s a + sv t b < 0)) := by
  obtain ⟨m, i, h1, h2, h3⟩ := read_base t b 0 hb (by omega)
  exact sum_E s t a b _ ha hb ⟨t, m, i, h1, h2, h3⟩ hs
theorem sv_not (t : Bool) (b : Nat) : sv (!t) b = -sv t b := by cases t <;> simp [sv]
theorem sub_E (s t : Bool) (a b : Nat) (ha : a < 9007199254740992) (hb : b < 9007199254740992) (hs : (sv s a - sv t b).natAbs < 9007199254740992) :
    ∃ z : Bool, double.sub (E s a 0) (E t b 0) = some (E z (sv s a - sv t b).natAbs 0) ∧ (sv s a - sv t b ≠ 0 → z = decide (sv s a - sv t b < 0)) := by
  obtain ⟨m, i, h1, h2, h3⟩ := read_base t b 0 hb (by omega)
  have e : sv s a - sv t b = sv s a + sv (!t) b := by rw [sv_not]; omega
  rw [e] at hs ⊢
  refine sum_E s (!t) a b _ ha hb ⟨!t, m, i, by rw [h1]; rfl, h2, fun base hbase => ?_⟩ hs
  have := h3 base hbase
  rw [signed_sv] at this ⊢
  rw [sv_not, sv_not, this, Int.neg_mul]

/-- Divided by 32768. -/
theorem quo_E (s : Bool) (c : Nat) (h : c < 9007199254740992) : double.div (E s c 0) 4674736413210574848 = some (E s c (-15)) := by
  have hr : double.read 4674736413210574848 = .number false 4503599627370496 (-37) := by rfl
  unfold Format.div
  rw [hr]
  rcases Nat.eq_zero_or_pos c with rfl | h0
  · rw [read_Z]
    cases s <;> rfl
  · obtain ⟨hl, hm1, hm2⟩ := top_of c h0 h
    rw [read_E s c 0 h0 h (by omega)]
    simp only [Datum.quotient, dfb]
    rw [if_neg (by decide)]
    have l1 : (4503599627370496 : Nat).log2 = 52 := by rw [Nat.log2_eq_iff (by decide)]; decide
    have l2 : (c * 2 ^ (52 - c.log2)).log2 = 52 := by rw [log2_sh c _ h0]; omega
    rw [l1, l2]
    rw [Option.map_some]
    refine congrArg some ?_
    have e1 : ∀ q : Nat, q <<< (52 + 2 + 52 - 52) = q * 4 * 4503599627370496 := by
      intro q
      rw [Nat.shiftLeft_eq]
      omega
    rw [e1, Nat.mul_div_cancel _ (by decide), Nat.mul_mod_left]
    show double.nearest (s ^^ false) (2 * (c * 2 ^ (52 - c.log2) * 4) + (0 != 0 : Bool).toNat) _ = _
    have e2 : 2 * (c * 2 ^ (52 - c.log2) * 4) + (0 != 0 : Bool).toNat = c * 2 ^ (52 - c.log2 + 3) := by
      rw [Nat.pow_add]
      have : (0 != 0 : Bool).toNat = 0 := rfl
      rw [this]
      generalize 2 ^ (52 - c.log2) = q
      rw [show (2 : Nat) ^ 3 = 8 from rfl, (Nat.mul_assoc c q 8).symm]
      generalize c * q = z
      omega
    rw [e2, Bool.xor_false, near_E _ _ _ _ h (by omega)]
    congr 1
    omega

/-- Rounded down. -/
def flo (s : Bool) (c : Nat) : Nat := c / 32768 + (s && c % 32768 != 0).toNat
theorem flo_sv (s : Bool) (c : Nat) : sv s (flo s c) = sv s c / 32768 := by
  unfold flo sv
  cases s
  · simp
  · simp only [Bool.true_and, if_true]
    by_cases hz : c % 32768 = 0
    · rw [hz]
      have : ((0 : Nat) != 0 : Bool).toNat = 0 := rfl
      rw [this]; omega
    · have : ((c % 32768 : Nat) != 0 : Bool) = true := by rw [bne_iff_ne]; exact hz
      rw [this]
      show -((c / 32768 + 1 : Nat) : Int) = _
      omega
theorem cut_down (s : Bool) (c k : Nat) (hk : k ≤ 52) (hm : c = 0 ∨ (c * 2 ^ k).log2 = 52) : Toward.down.cut s (c * 2 ^ k) (15 + k) = flo s c := by
  rcases Nat.eq_zero_or_pos c with rfl | h0
  · rw [Nat.zero_mul]
    unfold Toward.cut flo
    simp
  · have hlog : (c * 2 ^ k).log2 = 52 := by rcases hm with h | h <;> omega
    unfold Toward.cut flo
    dsimp only
    rw [hlog, Nat.one_shiftLeft]
    by_cases hd : 15 + k ≤ 54
    · have e : min (15 + k) (52 + 2) = 15 + k := by omega
      have hp : 0 < 2 ^ k := Nat.two_pow_pos k
      have ep : 2 ^ (15 + k) = 32768 * 2 ^ k := by rw [Nat.pow_add]
      rw [e, ep, Nat.mul_div_mul_right _ _ hp, Nat.mul_mod_mul_right]
      congr 2
      have : (c % 32768 * 2 ^ k != 0) = (c % 32768 != 0) := by
        by_cases hz : c % 32768 = 0
        · rw [hz, Nat.zero_mul]
        · have h1 : (c % 32768 != 0) = true := by rw [bne_iff_ne]; exact hz
          have h2 : (c % 32768 * 2 ^ k != 0) = true := by rw [bne_iff_ne]; exact Nat.mul_ne_zero hz (by omega)
          rw [h1, h2]
      rw [this]
    · have e : min (15 + k) (52 + 2) = 54 := by omega
      have hlt : c * 2 ^ k < 2 ^ 53 := by
        have := (Nat.log2_eq_iff (Nat.mul_ne_zero (show c ≠ 0 by omega) (by have := Nat.two_pow_pos k; omega))).mp hlog
        exact this.2
      have hc : c < 32768 := by
        have h1 : c * 2 ^ 40 ≤ c * 2 ^ k := Nat.mul_le_mul_left _ (Nat.pow_le_pow_right (by decide) (by omega))
        omega
      have hpos : 0 < c * 2 ^ k := Nat.mul_pos h0 (Nat.two_pow_pos k)
      rw [e, Nat.div_eq_of_lt (by omega), Nat.mod_eq_of_lt (by omega), Nat.div_eq_of_lt hc, Nat.mod_eq_of_lt hc]
      have h1 : (c != 0) = true := by rw [bne_iff_ne]; omega
      have h2 : (c * 2 ^ k != 0) = true := by rw [bne_iff_ne]; omega
      rw [h1, h2]
theorem floor_E (s : Bool) (c : Nat) (h : c < 9007199254740992) : double.write ((double.read (E s c (-15))).integral .down) = E s (flo s c) 0 := by
  rcases Nat.eq_zero_or_pos c with rfl | h0
  · rw [read_Z]
    cases s <;> rfl
  · obtain ⟨hl, hm1, hm2⟩ := top_of c h0 h
    rw [read_E s c _ h0 h (by omega)]
    simp only [Datum.integral]
    have e1 : (-15 - ((52 - c.log2 : Nat) : Int)).toNat = 0 := by omega
    have e2 : (-(-15 - ((52 - c.log2 : Nat) : Int))).toNat = 15 + (52 - c.log2) := by omega
    rw [e1, e2, Nat.shiftLeft_zero, cut_down s c _ (by omega) (.inr (by rw [log2_sh c _ h0]; omega))]
    rfl

/-- Order. -/
theorem order_E (s t : Bool) (a b : Nat) (ha : a < 9007199254740992) (hb : b < 9007199254740992) : (double.read (E s a 0)).order (double.read (E t b 0)) = some (compare (sv s a) (sv t b)) := by
  obtain ⟨m, i, h1, h2, h3⟩ := read_base s a 0 ha (by omega)
  obtain ⟨n, j, g1, g2, g3⟩ := read_base t b 0 hb (by omega)
  rw [h1, g1]
  simp only [Datum.order]
  rw [h3 (min i j) (Int.min_le_left _ _), g3 (min i j) (Int.min_le_right _ _)]
  have hp : (0 : Int) < ((2 ^ (0 - min i j).toNat : Nat) : Int) := by have := Nat.two_pow_pos (0 - min i j).toNat; omega
  congr 1
  generalize ((2 ^ (0 - min i j).toNat : Nat) : Int) = q at hp
  rcases Int.lt_trichotomy (sv s a) (sv t b) with hh | hh | hh
  · have h5 := Int.mul_lt_mul_of_pos_right hh hp
    simp only [compare, compareOfLessAndEq]
    rw [if_pos h5, if_pos hh]
  · rw [hh]
    simp [compare, compareOfLessAndEq]
  · have h5 := Int.mul_lt_mul_of_pos_right hh hp
    simp only [compare, compareOfLessAndEq]
    rw [if_neg (by omega), if_neg (by omega), if_neg (by omega), if_neg (by omega)]

/-- Cut to a whole number. -/
theorem toInt_E (s : Bool) (c : Nat) (h : c < 9007199254740992) : (double.read (E s c 0)).toInt .zero = some (sv s c) := by
  rcases Nat.eq_zero_or_pos c with rfl | h0
  · rw [read_Z]
    cases s <;> rfl
  · obtain ⟨hl, hm1, hm2⟩ := top_of c h0 h
    rw [read_E s c _ h0 h (by omega)]
    simp only [Datum.toInt, Datum.integral]
    have e1 : (0 - ((52 - c.log2 : Nat) : Int)).toNat = 0 := by omega
    have e2 : (-(0 - ((52 - c.log2 : Nat) : Int))).toNat = 52 - c.log2 := by omega
    rw [e1, e2, Nat.shiftLeft_zero]
    have e3 : Toward.zero.cut s (c * 2 ^ (52 - c.log2)) (52 - c.log2) = c := by
      unfold Toward.cut
      have hlg : (c * 2 ^ (52 - c.log2)).log2 = 52 := by rw [log2_sh c _ h0]; omega
      have e : min (52 - c.log2) ((c * 2 ^ (52 - c.log2)).log2 + 2) = 52 - c.log2 := by rw [hlg]; omega
      dsimp only
      rw [e, Nat.one_shiftLeft, Nat.mul_div_cancel _ (Nat.two_pow_pos _)]
      rfl
    rw [e3, signed_sv, Nat.pow_zero, Nat.mul_one]
end Go.Proofs.Ytoofmpchcbnljaa
