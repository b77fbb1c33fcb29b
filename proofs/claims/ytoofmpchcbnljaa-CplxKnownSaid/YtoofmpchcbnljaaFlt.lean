/- Floats that stand for whole numbers (and 32768ths of them): what the operations give. Plain; no world. -/
import Derived.Laws.ComplexArith
namespace Go.Proofs.Ytoofmpchcbnljaa
open Ieee
set_option linter.unusedVariables false
set_option linter.unusedSimpArgs false

/-- The word of c * 2 ^ e, with a sign. -/
def E (s : Bool) (c : Nat) (e : Int) : Nat := double.nearest s c e

theorem dw : double.signWeight = 9223372036854775808 := by decide
theorem db : double.binade = 4503599627370496 := by decide
theorem di : double.infRung = 9218868437227405312 := by decide
theorem dl : double.leastPlace = -1074 := by decide
theorem dfb : double.fractionBits = 52 := rfl

theorem read_W (s : Bool) (m r : Nat) (h1 : 4503599627370496 ≤ m) (h2 : m < 9007199254740992) (hr : r ≤ 2045) : double.read (double.word s (r * 4503599627370496 + m)) = .number s m (-1074 + (r : Nat)) := by
  unfold Format.read Format.word
  rw [dw, db, di, dl]
  have e1 : ((if s = true then 9223372036854775808 + (r * 4503599627370496 + m) else r * 4503599627370496 + m) / 9223372036854775808 % 2 == 1) = s := by
    cases s
    · simp only [Bool.false_eq_true, if_false]
      rw [beq_eq_false_iff_ne]; omega
    · simp only [if_true]
      rw [beq_iff_eq]; omega
  have e2 : (if s = true then 9223372036854775808 + (r * 4503599627370496 + m) else r * 4503599627370496 + m) % 9223372036854775808 = r * 4503599627370496 + m := by
    cases s
    · simp only [Bool.false_eq_true, if_false]; omega
    · simp only [if_true]; omega
  dsimp only
  rw [e1, e2, if_neg (by omega), if_pos (by omega)]
  have e3 : 4503599627370496 + (r * 4503599627370496 + m) % 4503599627370496 = m := by omega
  have e4 : (r * 4503599627370496 + m) / 4503599627370496 - 1 = r := by omega
  rw [e3, e4]

theorem read_Z (s : Bool) (e : Int) : double.read (E s 0 e) = .number s 0 (-1074) := by
  unfold E Format.nearest
  rw [if_pos rfl]
  unfold Format.read Format.word
  rw [dw, db, di, dl]
  cases s <;> rfl

theorem log2_sh (c t : Nat) (hc : 0 < c) : (c * 2 ^ t).log2 = c.log2 + t := by
  have h0 : c ≠ 0 := by omega
  have h := (Nat.log2_eq_iff h0).mp rfl
  have hp : 0 < 2 ^ t := Nat.two_pow_pos t
  rw [Nat.log2_eq_iff (Nat.mul_ne_zero h0 (by omega))]
  constructor
  · rw [Nat.pow_add]; exact Nat.mul_le_mul_right _ h.1
  · rw [show c.log2 + t + 1 = (c.log2 + 1) + t by omega, Nat.pow_add]; exact Nat.mul_lt_mul_of_pos_right h.2 hp

theorem cut_zero (way : Toward) (hw : way = .even ∨ way = .zero ∨ way = .down) (s : Bool) (n : Nat) : way.cut s n 0 = n := by
  unfold Toward.cut
  have e : 1 <<< min 0 (n.log2 + 2) = 1 := by rw [Nat.zero_min]; rfl
  dsimp only
  rw [e, Nat.div_one, Nat.mod_one]
  rcases hw with rfl | rfl | rfl <;> simp

theorem cut_even (s : Bool) (a d : Nat) (ha : 0 < a) : Toward.even.cut s (a * 2 ^ d) d = a := by
  unfold Toward.cut
  have hl : (a * 2 ^ d).log2 = a.log2 + d := log2_sh a d ha
  have e : min d ((a * 2 ^ d).log2 + 2) = d := by rw [hl]; omega
  have hp : 0 < 2 ^ d := Nat.two_pow_pos d
  dsimp only
  rw [e, Nat.one_shiftLeft, Nat.mul_div_cancel _ hp, Nat.mul_mod_left]
  have h1 : (decide (2 ^ d < 2 * 0)) = false := decide_eq_false (by omega)
  have h2 : (2 ^ d == 2 * 0) = false := by rw [beq_eq_false_iff_ne]; omega
  rw [h1, h2]
  rfl

theorem top_of (c : Nat) (h0 : 0 < c) (h : c < 9007199254740992) : c.log2 ≤ 52 ∧ 4503599627370496 ≤ c * 2 ^ (52 - c.log2) ∧ c * 2 ^ (52 - c.log2) < 9007199254740992 := by
  have hne : c ≠ 0 := by omega
  have hl : c.log2 ≤ 52 := by
    have := (Nat.log2_lt hne (k := 53)).mpr h
    omega
  have h2 := (Nat.log2_eq_iff hne).mp rfl
  refine ⟨hl, ?_, ?_⟩
  · have h3 := Nat.mul_le_mul_right (2 ^ (52 - c.log2)) h2.1
    rw [← Nat.pow_add, show c.log2 + (52 - c.log2) = 52 by omega] at h3
    exact h3
  · have h3 := Nat.mul_lt_mul_of_pos_right h2.2 (Nat.two_pow_pos (52 - c.log2))
    rw [← Nat.pow_add, show c.log2 + 1 + (52 - c.log2) = 53 by omega] at h3
    exact h3

theorem near (s : Bool) (c t : Nat) (p : Int) (h0 : 0 < c) (h : c < 9007199254740992) (hq : -60 ≤ p + (t : Int) ∧ p + (t : Int) ≤ 100) :
    double.nearest s (c * 2 ^ t) p = double.word s ((p + (t : Int) + (c.log2 : Int) + 1022).toNat * 4503599627370496 + c * 2 ^ (52 - c.log2)) := by
  obtain ⟨hl, hm1, hm2⟩ := top_of c h0 h
  have hp : 0 < 2 ^ t := Nat.two_pow_pos t
  have hne : c * 2 ^ t ≠ 0 := Nat.mul_ne_zero (by omega) (by omega)
  unfold Format.nearest
  rw [if_neg hne, dl, db, di, dfb, log2_sh c t h0]
  have elast : max (p + ((c.log2 + t : Nat) : Int) - ((52 : Nat) : Int)) (-1074) = p + (c.log2 : Int) + (t : Int) - 52 := by omega
  dsimp only
  rw [elast]
  have ekept : Toward.even.cut s ((c * 2 ^ t) <<< (p - (p + (c.log2 : Int) + (t : Int) - 52)).toNat) ((p + (c.log2 : Int) + (t : Int) - 52) - p).toNat = c * 2 ^ (52 - c.log2) := by
    rw [Nat.shiftLeft_eq]
    by_cases hd : c.log2 + t ≤ 52
    · have e1 : (p - (p + (c.log2 : Int) + (t : Int) - 52)).toNat = 52 - c.log2 - t := by omega
      have e2 : ((p + (c.log2 : Int) + (t : Int) - 52) - p).toNat = 0 := by omega
      rw [e1, e2, cut_zero _ (.inl rfl), Nat.mul_assoc, ← Nat.pow_add]
      congr 2
      omega
    · have e1 : (p - (p + (c.log2 : Int) + (t : Int) - 52)).toNat = 0 := by omega
      have e2 : ((p + (c.log2 : Int) + (t : Int) - 52) - p).toNat = c.log2 + t - 52 := by omega
      rw [e1, e2, Nat.pow_zero, Nat.mul_one]
      have e3 : c * 2 ^ t = (c * 2 ^ (52 - c.log2)) * 2 ^ (c.log2 + t - 52) := by
        rw [Nat.mul_assoc, ← Nat.pow_add]
        congr 2
        omega
      rw [e3, cut_even _ _ _ (by omega)]
  rw [ekept]
  have er : (p + (c.log2 : Int) + (t : Int) - 52 - (-1074)).toNat = (p + (t : Int) + (c.log2 : Int) + 1022).toNat := by omega
  rw [er, Nat.min_eq_left (by omega)]

theorem E_eq (s : Bool) (c : Nat) (e : Int) (h0 : 0 < c) (h : c < 9007199254740992) (hq : -60 ≤ e ∧ e ≤ 100) :
    E s c e = double.word s ((e + (c.log2 : Int) + 1022).toNat * 4503599627370496 + c * 2 ^ (52 - c.log2)) := by
  have := near s c 0 e h0 h (by omega)
  rw [Nat.pow_zero, Nat.mul_one, Int.natCast_zero, Int.add_zero] at this
  exact this
/-- Written at another scale: the same word. -/
theorem near_E (s : Bool) (c t : Nat) (p : Int) (h : c < 9007199254740992) (hq : -60 ≤ p + (t : Int) ∧ p + (t : Int) ≤ 100) : double.nearest s (c * 2 ^ t) p = E s c (p + t) := by
  rcases Nat.eq_zero_or_pos c with rfl | h0
  · unfold E Format.nearest
    rw [Nat.zero_mul, if_pos rfl, if_pos rfl]
  · rw [near s c t p h0 h hq, E_eq s c _ h0 h hq]
theorem read_E (s : Bool) (c : Nat) (e : Int) (h0 : 0 < c) (h : c < 9007199254740992) (hq : -60 ≤ e ∧ e ≤ 100) :
    double.read (E s c e) = .number s (c * 2 ^ (52 - c.log2)) (e - ((52 - c.log2 : Nat) : Int)) := by
  obtain ⟨hl, hm1, hm2⟩ := top_of c h0 h
  rw [E_eq s c e h0 h hq, read_W _ _ _ hm1 hm2 (by omega)]
  congr 1
  omega
/-- What a word stands for, told at some scale. -/
theorem read_any (s : Bool) (c : Nat) (e : Int) (h : c < 9007199254740992) (hq : -60 ≤ e ∧ e ≤ 100) :
    ∃ (k : Nat) (i : Int), double.read (E s c e) = .number s (c * 2 ^ k) i ∧ (0 < c → i = e - (k : Int) ∧ k ≤ 52) ∧ (c = 0 → i = -1074) := by
  rcases Nat.eq_zero_or_pos c with rfl | h0
  · exact ⟨0, -1074, by rw [read_Z, Nat.zero_mul], fun h => by omega, fun _ => rfl⟩
  · exact ⟨52 - c.log2, _, read_E s c e h0 h hq, fun _ => ⟨rfl, by omega⟩, fun h => by omega⟩

/-- A product of whole numbers. -/
theorem mul_E (s t : Bool) (a b : Nat) (ha : a < 9007199254740992) (hb : b < 9007199254740992) (hab : a * b < 9007199254740992) : double.mul (E s a 0) (E t b 0) = some (E (s ^^ t) (a * b) 0) := by
  obtain ⟨k, i, h1, h2, h3⟩ := read_any s a 0 ha (by omega)
  obtain ⟨l, j, g1, g2, g3⟩ := read_any t b 0 hb (by omega)
  unfold Format.mul
  rw [h1, g1]
  show some (double.nearest (s ^^ t) (a * 2 ^ k * (b * 2 ^ l)) (i + j)) = _
  congr 1
  have e : a * 2 ^ k * (b * 2 ^ l) = a * b * 2 ^ (k + l) := by rw [Nat.pow_add]; ac_rfl
  rw [e]
  rcases Nat.eq_zero_or_pos (a * b) with h0 | h0
  · rw [h0]
    unfold E Format.nearest
    rw [Nat.zero_mul, if_pos rfl, if_pos rfl]
  · have a0 : 0 < a := Nat.pos_of_mul_pos_right h0
    have b0 : 0 < b := Nat.pos_of_mul_pos_left h0
    rw [near_E _ _ _ _ hab (by have := h2 a0; have := g2 b0; omega)]
    congr 1
    have := h2 a0; have := g2 b0; omega
end Go.Proofs.Ytoofmpchcbnljaa
