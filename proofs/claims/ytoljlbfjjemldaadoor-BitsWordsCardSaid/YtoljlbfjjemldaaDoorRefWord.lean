/- The reference's Word and Thirty, as numbers. Plain; no world. -/
import Derived.Test.YtoljlbfjjemldaaDoorWordN
import Derived.Test.YtoljlbfjjemldaaDoorPBitsWordsx
namespace Go.Proofs.YtoljlbfjjemldaaDoor
open Go.RowKit Go.Proofs.YtoljlbfjjemldaaDoorW.PrintWords Go.Proofs.YtoljlbfjjemldaaDoorW.PrintMore
set_option linter.unusedVariables false

theorem bit_lw (d : Nat) : ∀ (k x : Nat) (i j : Int), d < k → x < 4294967296 → 0 ≤ i → i + d = j → j ≤ 1000 → PBitsWords.coxlessref01_Bit.l0 k x j i = some (bN x d : Int) := by
  induction d with
  | zero =>
    intro k x i j hk hx h0 hij hj
    obtain ⟨k, rfl⟩ : ∃ m, k = m + 1 := ⟨k - 1, by omega⟩
    simp only [PBitsWords.coxlessref01_Bit.l0]
    rw [if_neg (by omega)]
    unfold bN
    congr 1
    rw [Int.tmod_eq_emod_of_nonneg (by omega)]
    simp
  | succ d ih =>
    intro k x i j hk hx h0 hij hj
    obtain ⟨k, rfl⟩ : ∃ m, k = m + 1 := ⟨k - 1, by omega⟩
    simp only [PBitsWords.coxlessref01_Bit.l0]
    rw [if_pos (by omega), w64 (by omega) (by omega), Int.tdiv_eq_ediv_of_nonneg (by omega)]
    have e : (x : Int) / 2 % 4294967296 = ((x / 2 : Nat) : Int) := by omega
    rw [e, ih k (x / 2) (i + 1) j (by omega) (by omega) (by omega) (by omega) hj]
    unfold bN
    rw [Nat.div_div_eq_div_mul, Nat.pow_succ, Nat.mul_comm]
theorem bit_fw (k x d : Nat) (hk : d < k) (hx : x < 4294967296) (hd : d ≤ 1000) : PBitsWords.coxlessref01_Bit.f k x d = some (bN x d : Int) :=
  bit_lw d k x 0 d hk hx (by omega) (by omega) (by omega)

theorem one_lw (d : Nat) : ∀ (k c : Nat) (i j : Int), d < k → i + d = j → 0 ≤ i → j ≤ 31 → i = (c : Int) → PBitsWords.coxlessref01_one.l0 k j ((2 ^ c : Nat) : Int) i = some ((2 ^ j.toNat : Nat) : Int) := by
  induction d with
  | zero =>
    intro k c i j hk hij h0 hj hc
    obtain ⟨k, rfl⟩ : ∃ m, k = m + 1 := ⟨k - 1, by omega⟩
    simp only [PBitsWords.coxlessref01_one.l0]
    rw [if_neg (by omega)]
    have : c = j.toNat := by omega
    rw [this]
  | succ d ih =>
    intro k c i j hk hij h0 hj hc
    obtain ⟨k, rfl⟩ : ∃ m, k = m + 1 := ⟨k - 1, by omega⟩
    simp only [PBitsWords.coxlessref01_one.l0]
    rw [if_pos (by omega), w64 (by omega) (by omega)]
    have hp : 2 ^ (c + 1) ≤ 2147483648 := Nat.pow_le_pow_right (n := 2) (j := 31) (by decide) (by omega)
    have e : ((2 ^ c : Nat) : Int) * 2 % 4294967296 = ((2 ^ (c + 1) : Nat) : Int) := by
      rw [Nat.pow_succ] at hp ⊢
      generalize 2 ^ c = y at hp ⊢
      omega
    rw [e, ih k (c + 1) (i + 1) j (by omega) (by omega) (by omega) hj (by omega)]
theorem one_fw (k d : Nat) (hk : d < k) (hd : d ≤ 31) : PBitsWords.coxlessref01_one.f k d = some ((2 ^ d : Nat) : Int) := by
  have := one_lw d k 0 0 d hk (by omega) (by omega) (by omega) (by omega)
  unfold PBitsWords.coxlessref01_one.f
  simpa using this


/-- One bit more of a number, put at its place. -/
theorem more_bit (acc u i e : Nat) (he : e ≤ 31) (hacc : acc + bN u i * 2 ^ e < 4294967296) :
    ((acc : Int) + ((bN u i : Int) * ((2 ^ e : Nat) : Int)) % 4294967296) % 4294967296 = ((acc + bN u i * 2 ^ e : Nat) : Int) := by
  have h : (bN u i : Int) * ((2 ^ e : Nat) : Int) = ((bN u i * 2 ^ e : Nat) : Int) := by simp
  rw [h]
  omega

theorem low_step (u i e : Nat) : u % 2 ^ (i + 1) * 2 ^ e = u % 2 ^ i * 2 ^ e + bN u i * 2 ^ (e + i) := by
  have h : u % 2 ^ (i + 1) = u % 2 ^ i + 2 ^ i * bN u i := Nat.mod_pow_succ
  rw [h, Nat.add_mul, Nat.pow_add]
  congr 1
  rw [Nat.mul_comm (2 ^ i), Nat.mul_assoc, Nat.mul_comm (2 ^ i)]
theorem low_lt (u i e m : Nat) (h : e + i ≤ m) : u % 2 ^ i * 2 ^ e < 2 ^ m := by
  have h1 : u % 2 ^ i < 2 ^ i := Nat.mod_lt _ (Nat.two_pow_pos i)
  have h2 : 2 ^ (e + i) ≤ 2 ^ m := Nat.pow_le_pow_right (by decide) h
  rw [Nat.add_comm, Nat.pow_add] at h2
  exact Nat.lt_of_lt_of_le (Nat.mul_lt_mul_of_pos_right h1 (Nat.two_pow_pos e)) h2
/-- Bits from 14 on. -/
theorem bN_from (u i : Nat) : bN u (14 + i) = bN (u / 16384) i := by
  unfold bN
  rw [Nat.pow_add, ← Nat.div_div_eq_div_mul]

open PBitsWords in
theorem rthirty_hi (d : Nat) : ∀ (k x i : Nat), x < 4294967296 → i + d = 16 →
    coxlessref01_Thirty.l0 (k + 40 + d) x ((x % 16384 + x / 65536 % 2 ^ i * 2 ^ 14 : Nat) : Int) ((14 + i : Nat) : Int) = some (thirtyN x : Int) := by
  induction d with
  | zero =>
    intro k x i hx hi
    obtain rfl : i = 16 := by omega
    show coxlessref01_Thirty.l0 ((k + 39) + 1) _ _ _ = _
    unfold coxlessref01_Thirty.l0
    rw [if_neg (by omega)]
    rfl
  | succ d ih =>
    intro k x i hx hi
    show coxlessref01_Thirty.l0 ((k + 40 + d) + 1) _ _ _ = _
    unfold coxlessref01_Thirty.l0
    have e2 : ((14 + i : Nat) : Int) + 2 = ((16 + i : Nat) : Int) := by omega
    have e1 : ((14 + i : Nat) : Int) + 1 = ((14 + (i + 1) : Nat) : Int) := by omega
    have hb : bN x (16 + i) = bN (x / 65536) i := by
      unfold bN
      rw [Nat.pow_add, ← Nat.div_div_eq_div_mul]
    have hs := low_step (x / 65536) i 14
    have hl := low_lt (x / 65536) (i + 1) 14 30 (by omega)
    have hacc : x % 16384 + x / 65536 % 2 ^ i * 2 ^ 14 + bN (x / 65536) i * 2 ^ (14 + i) < 4294967296 := by omega
    rw [if_pos (by omega), if_pos (by omega), e2, e1, w64 (by omega) (by omega), w64 (by omega) (by omega), bit_fw _ x (16 + i) (by omega) hx (by omega), Option.bind_some, one_fw _ (14 + i) (by omega) (by omega), Option.bind_some, hb, more_bit _ _ _ _ (by omega) hacc]
    have IH := ih k x (i + 1) hx (by omega)
    rw [hs, ← Nat.add_assoc] at IH
    exact IH
open PBitsWords in
theorem rthirty_lo (d : Nat) : ∀ (k x i : Nat), x < 4294967296 → i + d = 14 →
    coxlessref01_Thirty.l0 (k + 40 + 16 + d) x ((x % 2 ^ i : Nat) : Int) (i : Int) = some (thirtyN x : Int) := by
  induction d with
  | zero =>
    intro k x i hx hi
    obtain rfl : i = 14 := by omega
    have h := rthirty_hi 16 k x 0 hx (by omega)
    simpa [Nat.mod_one] using h
  | succ d ih =>
    intro k x i hx hi
    show coxlessref01_Thirty.l0 ((k + 40 + 16 + d) + 1) _ _ _ = _
    unfold coxlessref01_Thirty.l0
    have e1 : (i : Int) + 1 = ((i + 1 : Nat) : Int) := by omega
    have hs := low_step x i 0
    have hl := low_lt x (i + 1) 0 14 (by omega)
    simp only [Nat.pow_zero, Nat.mul_one, Nat.zero_add] at hs hl
    have hacc : x % 2 ^ i + bN x i * 2 ^ i < 4294967296 := by omega
    rw [if_pos (by omega), if_neg (by omega), e1, w64 (by omega) (by omega), bit_fw _ x i (by omega) hx (by omega), Option.bind_some, one_fw _ i (by omega) (by omega), Option.bind_some, more_bit _ _ _ _ (by omega) hacc]
    have IH := ih k x (i + 1) hx (by omega)
    rw [hs] at IH
    exact IH
open PBitsWords in
theorem rThirty_ok (x : Nat) (hx : x < 4294967296) : coxlessref01_Thirty.f 70 x = some (thirtyN x : Int) := by
  have h := rthirty_lo 14 0 x 0 hx (by omega)
  simpa [Nat.mod_one, coxlessref01_Thirty.f] using h

open PBitsWords in
theorem rword_end (k : Nat) (p q A : Nat) (hq : q < 256) (hA : A + q % 4 * 16384 < 4294967296) :
    coxlessref01_Word.l1 (k + 40) (p : Int) (q : Int) (A : Int) 24 = some ((A + q % 4 * 16384 : Nat) : Int) := by
  show coxlessref01_Word.l1 ((k + 39) + 1) _ _ _ _ = _
  unfold coxlessref01_Word.l1
  have hb0 := bN_lt q 0
  have hb1 := bN_lt q 1
  have hq4 : q % 4 = bN q 0 + 2 * bN q 1 := by unfold bN; omega
  have hm : A + bN q 0 * 16384 + bN q 1 * 32768 = A + q % 4 * 16384 := by
    rw [hq4, Nat.add_mul, Nat.mul_comm 2, Nat.mul_assoc, Nat.add_assoc]
  have s2 : A + bN q 0 * 2 ^ 14 + bN q 1 * 2 ^ 15 < 4294967296 := by
    show A + bN q 0 * 16384 + bN q 1 * 32768 < 4294967296
    rw [hm]; exact hA
  have s1 : A + bN q 0 * 2 ^ 14 < 4294967296 := Nat.lt_of_le_of_lt (Nat.le_add_right _ _) s2
  have e : (q : Int) % 4294967296 = (q : Int) := by omega
  have z0 : (0 : Int) = ((0 : Nat) : Int) := rfl
  have z1 : (1 : Int) = ((1 : Nat) : Int) := rfl
  have z14 : (14 : Int) = ((14 : Nat) : Int) := rfl
  have z15 : (15 : Int) = ((15 : Nat) : Int) := rfl
  rw [if_neg (by omega), e, z0, z1, z14, z15, bit_fw _ q 0 (by omega) (by omega) (by omega), Option.bind_some, one_fw _ 14 (by omega) (by omega), Option.bind_some, bit_fw _ q 1 (by omega) (by omega) (by omega), Option.bind_some, one_fw _ 15 (by omega) (by omega), Option.bind_some, more_bit A q 0 14 (by omega) s1, more_bit _ q 1 15 (by omega) s2]
  rw [← hm]
open PBitsWords in
theorem rword_hi (d : Nat) : ∀ (k p q A i : Nat), p < 4294967296 → q < 256 → A % 67108864 = 0 → A < 4294967296 → i + d = 10 →
    coxlessref01_Word.l1 (k + 40 + d) (p : Int) (q : Int) ((A + p % 16384 + p / 16384 % 2 ^ i * 2 ^ 16 : Nat) : Int) ((14 + i : Nat) : Int) = some ((A + p / 16384 % 1024 * 65536 + q % 4 * 16384 + p % 16384 : Nat) : Int) := by
  induction d with
  | zero =>
    intro k p q A i hp hq hA hA' hi
    obtain rfl : i = 10 := by omega
    have h := rword_end k p q (A + p % 16384 + p / 16384 % 2 ^ 10 * 2 ^ 16) hq (by omega)
    have e : A + p / 16384 % 1024 * 65536 + q % 4 * 16384 + p % 16384 = A + p % 16384 + p / 16384 % 2 ^ 10 * 2 ^ 16 + q % 4 * 16384 := by omega
    rw [e]
    exact h
  | succ d ih =>
    intro k p q A i hp hq hA hA' hi
    show coxlessref01_Word.l1 ((k + 40 + d) + 1) _ _ _ _ = _
    unfold coxlessref01_Word.l1
    have e2 : ((14 + i : Nat) : Int) + 2 = ((16 + i : Nat) : Int) := by omega
    have e1 : ((14 + i : Nat) : Int) + 1 = ((14 + (i + 1) : Nat) : Int) := by omega
    have hs := low_step (p / 16384) i 16
    have hl := low_lt (p / 16384) (i + 1) 16 26 (by omega)
    have hacc : A + p % 16384 + p / 16384 % 2 ^ i * 2 ^ 16 + bN (p / 16384) i * 2 ^ (16 + i) < 4294967296 := by omega
    rw [if_pos (by omega), if_pos (by omega), e2, e1, w64 (by omega) (by omega), w64 (by omega) (by omega), bit_fw _ p (14 + i) (by omega) hp (by omega), Option.bind_some, one_fw _ (16 + i) (by omega) (by omega), Option.bind_some, bN_from, more_bit _ _ _ _ (by omega) hacc]
    have IH := ih k p q A (i + 1) hp hq hA hA' (by omega)
    rw [hs, ← Nat.add_assoc] at IH
    exact IH
open PBitsWords in
theorem rword_lo (d : Nat) : ∀ (k p q A i : Nat), p < 4294967296 → q < 256 → A % 67108864 = 0 → A < 4294967296 → i + d = 14 →
    coxlessref01_Word.l1 (k + 40 + 10 + d) (p : Int) (q : Int) ((A + p % 2 ^ i : Nat) : Int) (i : Int) = some ((A + p / 16384 % 1024 * 65536 + q % 4 * 16384 + p % 16384 : Nat) : Int) := by
  induction d with
  | zero =>
    intro k p q A i hp hq hA hA' hi
    obtain rfl : i = 14 := by omega
    have h := rword_hi 10 k p q A 0 hp hq hA hA' (by omega)
    simpa [Nat.mod_one] using h
  | succ d ih =>
    intro k p q A i hp hq hA hA' hi
    show coxlessref01_Word.l1 ((k + 40 + 10 + d) + 1) _ _ _ _ = _
    unfold coxlessref01_Word.l1
    have e1 : (i : Int) + 1 = ((i + 1 : Nat) : Int) := by omega
    have hs := low_step p i 0
    have hl := low_lt p (i + 1) 0 14 (by omega)
    simp only [Nat.pow_zero, Nat.mul_one, Nat.zero_add] at hs hl
    have hacc : A + p % 2 ^ i + bN p i * 2 ^ i < 4294967296 := by omega
    rw [if_pos (by omega), if_neg (by omega), e1, w64 (by omega) (by omega), bit_fw _ p i (by omega) hp (by omega), Option.bind_some, one_fw _ i (by omega) (by omega), Option.bind_some, more_bit _ _ _ _ (by omega) hacc]
    have IH := ih k p q A (i + 1) hp hq hA hA' (by omega)
    rw [hs, ← Nat.add_assoc] at IH
    exact IH
open PBitsWords in
theorem rword_code (d : Nat) : ∀ (k c p q i : Nat), c < 256 → p < 4294967296 → q < 256 → i + d = 6 →
    coxlessref01_Word.l0 (k + 40 + 10 + 14 + 1 + d) (c : Int) (p : Int) (q : Int) ((c % 2 ^ i * 2 ^ 26 : Nat) : Int) (i : Int) = some (wordN c p q : Int) := by
  induction d with
  | zero =>
    intro k c p q i hc hp hq hi
    obtain rfl : i = 6 := by omega
    show coxlessref01_Word.l0 ((k + 40 + 10 + 14) + 1) _ _ _ _ _ = _
    unfold coxlessref01_Word.l0
    have h := rword_lo 14 k p q (c % 64 * 67108864) 0 hp hq (by omega) (by omega) (by omega)
    rw [if_neg (by omega)]
    simp only [Nat.pow_zero, Nat.mod_one, Nat.add_zero] at h
    exact h
  | succ d ih =>
    intro k c p q i hc hp hq hi
    show coxlessref01_Word.l0 ((k + 40 + 10 + 14 + 1 + d) + 1) _ _ _ _ _ = _
    unfold coxlessref01_Word.l0
    have e : (c : Int) % 4294967296 = (c : Int) := by omega
    have e1 : (i : Int) + 1 = ((i + 1 : Nat) : Int) := by omega
    have e2 : (26 : Int) + (i : Int) = ((26 + i : Nat) : Int) := by omega
    have hs := low_step c i 26
    have hl := low_lt c (i + 1) 26 32 (by omega)
    have hacc : c % 2 ^ i * 2 ^ 26 + bN c i * 2 ^ (26 + i) < 4294967296 := by rw [← hs]; exact hl
    rw [if_pos (by omega), e, e1, e2, w64 (by omega) (by omega), w64 (by omega) (by omega), bit_fw _ c i (by omega) (by omega) (by omega), Option.bind_some, one_fw _ (26 + i) (by omega) (by omega), Option.bind_some, more_bit _ _ _ _ (by omega) hacc]
    have IH := ih k c p q (i + 1) hc hp hq (by omega)
    rw [hs] at IH
    exact IH
open PBitsWords in
theorem rWord_ok (c p q : Nat) (hc : c < 256) (hp : p < 4294967296) (hq : q < 256) : coxlessref01_Word.f 71 c p q = some (wordN c p q : Int) := by
  have h := rword_code 6 0 c p q 0 hc hp hq (by omega)
  simpa [Nat.mod_one, coxlessref01_Word.f] using h

end Go.Proofs.YtoljlbfjjemldaaDoor
