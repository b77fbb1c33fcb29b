/- The reference's loops of layer 1, as natural numbers. Plain; no world. -/
import Derived.Test.YtoljlbfjjemldaaDoorNum
namespace Go.Proofs.YtoljlbfjjemldaaDoor
open Go.RowKit Go.Proofs.YtoljlbfjjemldaaDoorW.PrintWords Go.Proofs.YtoljlbfjjemldaaDoorW.PrintMore
open Go.Proofs.YtoljlbfjjemldaaDoor.PBitsFields

/-- A word's bit. -/
def bN (x k : Nat) : Nat := x / 2 ^ k % 2
theorem bN_lt (x k : Nat) : bN x k < 2 := Nat.mod_lt _ (by decide)

theorem bit_l (d : Nat) : ∀ (k x : Nat) (i j : Int), d < k → x < 4294967296 → 0 ≤ i → i + d = j → j ≤ 1000 → coxlessref01_Bit.l0 k x j i = some (bN x d : Int) := by
  induction d with
  | zero =>
    intro k x i j hk hx h0 hij hj
    obtain ⟨k, rfl⟩ : ∃ m, k = m + 1 := ⟨k - 1, by omega⟩
    simp only [coxlessref01_Bit.l0]
    rw [if_neg (by omega)]
    unfold bN
    congr 1
    rw [Int.tmod_eq_emod_of_nonneg (by omega)]
    simp
  | succ d ih =>
    intro k x i j hk hx h0 hij hj
    obtain ⟨k, rfl⟩ : ∃ m, k = m + 1 := ⟨k - 1, by omega⟩
    simp only [coxlessref01_Bit.l0]
    rw [if_pos (by omega), w64 (by omega) (by omega), Int.tdiv_eq_ediv_of_nonneg (by omega)]
    have e : (x : Int) / 2 % 4294967296 = ((x / 2 : Nat) : Int) := by omega
    rw [e, ih k (x / 2) (i + 1) j (by omega) (by omega) (by omega) (by omega) hj]
    unfold bN
    rw [Nat.div_div_eq_div_mul, Nat.pow_succ, Nat.mul_comm]
theorem bit_f (k x d : Nat) (hk : d < k) (hx : x < 4294967296) (hd : d ≤ 1000) : coxlessref01_Bit.f k x d = some (bN x d : Int) :=
  bit_l d k x 0 d hk hx (by omega) (by omega) (by omega)

theorem one_l (d : Nat) : ∀ (k c : Nat) (i j : Int), d < k → i + d = j → 0 ≤ i → j ≤ 31 → i = (c : Int) → coxlessref01_one.l0 k j ((2 ^ c : Nat) : Int) i = some ((2 ^ j.toNat : Nat) : Int) := by
  induction d with
  | zero =>
    intro k c i j hk hij h0 hj hc
    obtain ⟨k, rfl⟩ : ∃ m, k = m + 1 := ⟨k - 1, by omega⟩
    simp only [coxlessref01_one.l0]
    rw [if_neg (by omega)]
    have : c = j.toNat := by omega
    rw [this]
  | succ d ih =>
    intro k c i j hk hij h0 hj hc
    obtain ⟨k, rfl⟩ : ∃ m, k = m + 1 := ⟨k - 1, by omega⟩
    simp only [coxlessref01_one.l0]
    rw [if_pos (by omega), w64 (by omega) (by omega)]
    have hp : 2 ^ (c + 1) ≤ 2147483648 := Nat.pow_le_pow_right (n := 2) (j := 31) (by decide) (by omega)
    have e : ((2 ^ c : Nat) : Int) * 2 % 4294967296 = ((2 ^ (c + 1) : Nat) : Int) := by
      rw [Nat.pow_succ] at hp ⊢
      generalize 2 ^ c = y at hp ⊢
      omega
    rw [e, ih k (c + 1) (i + 1) j (by omega) (by omega) (by omega) hj (by omega)]
theorem one_f (k d : Nat) (hk : d < k) (hd : d ≤ 31) : coxlessref01_one.f k d = some ((2 ^ d : Nat) : Int) := by
  have := one_l d k 0 0 d hk (by omega) (by omega) (by omega) (by omega)
  unfold coxlessref01_one.f
  simpa using this

/-- A field with one bit more at its lower end. -/
theorem gN_step (x p n : Nat) : gN x p (n + 1) = 2 * gN x (p + 1) n + bN x p := by
  unfold gN bN
  rw [Nat.pow_succ, Nat.pow_succ, ← Nat.div_div_eq_div_mul, Nat.mul_comm (2 ^ n) 2, Nat.mod_mul]
  omega
theorem get_l (d : Nat) : ∀ (k x p m : Nat), p + d + 1 < k → x < 4294967296 → p + d + m ≤ 32 → coxlessref01_Get.l0 k x p (gN x (p + d) m : Int) ((d : Int) - 1) = some (gN x p (d + m) : Int) := by
  induction d with
  | zero =>
    intro k x p m hk hx hm
    obtain ⟨k, rfl⟩ : ∃ m, k = m + 1 := ⟨k - 1, by omega⟩
    simp only [coxlessref01_Get.l0]
    rw [if_neg (by omega)]
    simp
  | succ d ih =>
    intro k x p m hk hx hm
    obtain ⟨k, rfl⟩ : ∃ m, k = m + 1 := ⟨k - 1, by omega⟩
    simp only [coxlessref01_Get.l0]
    have e0 : ((d + 1 : Nat) : Int) - 1 = d := by omega
    rw [e0, if_pos (by omega), w64 (by omega) (by omega), w64 (by omega) (by omega)]
    have e1 : (p : Int) + (d : Int) = ((p + d : Nat) : Int) := by omega
    rw [e1, bit_f k x (p + d) (by omega) hx (by omega)]
    simp only [Option.bind_some]
    have hl := gN_lt x (p + d) (m + 1)
    have hp : 2 ^ (m + 1) ≤ 4294967296 := pow32 (by omega)
    have hs := gN_step x (p + d) m
    have e2 : ((2 * ((gN x (p + (d + 1)) m : Nat) : Int)) % 4294967296 + (bN x (p + d) : Int)) % 4294967296 = (gN x (p + d) (m + 1) : Int) := by
      have e3 : p + (d + 1) = p + d + 1 := by omega
      rw [e3]
      omega
    rw [e2, ih k x p (m + 1) (by omega) hx (by omega)]
    congr 2
    congr 1
    omega
theorem rGet_ok (x : Nat) (p n : Int) (hx : x < 4294967296) : coxlessref01_Get.f 100 x p n = some (getV x p n : Int) := by
  unfold coxlessref01_Get.f getV
  rw [none_ok p n]
  simp only [Option.bind_some]
  by_cases h : isN p n
  · rw [if_neg (by simp [h]), if_pos h]
    obtain ⟨h1, h2, h3, h4, h5⟩ := h
    rw [w64 (by omega) (by omega)]
    have := get_l n.toNat 100 x p.toNat 0 (by omega) hx (by omega)
    have e0 : gN x (p.toNat + n.toNat) 0 = 0 := by unfold gN; simp [Nat.mod_one]
    rw [e0, Int.toNat_of_nonneg h1, Int.toNat_of_nonneg h2] at this
    simpa using this
  · rw [if_pos (by simp [h]), if_neg h]; rfl

theorem pN_step (x p n v : Nat) : pN x p (n + 1) v + 2 ^ (p + n) * bN x (p + n) = pN x p n v + 2 ^ (p + n) * bN v n := by
  unfold pN bN
  have h1 : v % 2 ^ (n + 1) = v % 2 ^ n + 2 ^ n * (v / 2 ^ n % 2) := Nat.mod_pow_succ
  have h2 : x / 2 ^ (p + n) = 2 * (x / 2 ^ (p + (n + 1))) + x / 2 ^ (p + n) % 2 := by
    have : x / 2 ^ (p + (n + 1)) = x / 2 ^ (p + n) / 2 := by rw [Nat.div_div_eq_div_mul, ← Nat.pow_succ]; rfl
    omega
  have h3 : 2 ^ (p + (n + 1)) = 2 * 2 ^ (p + n) := by rw [← Nat.add_assoc, Nat.pow_succ, Nat.mul_comm]
  have h4 : 2 ^ n * (v / 2 ^ n % 2) * 2 ^ p = 2 ^ (p + n) * (v / 2 ^ n % 2) := by rw [Nat.pow_add, Nat.mul_comm (2 ^ n * _), ← Nat.mul_assoc]
  obtain ⟨q, hq⟩ : ∃ q, x / 2 ^ (p + (n + 1)) = q := ⟨_, rfl⟩
  rw [hq] at h2 ⊢
  rw [h1, Nat.add_mul, h4, h3]
  generalize v % 2 ^ n * 2 ^ p = a
  generalize 2 ^ (p + n) * (v / 2 ^ n % 2) = b
  have h5 : x / 2 ^ (p + n) * 2 ^ (p + n) = q * (2 * 2 ^ (p + n)) + 2 ^ (p + n) * (x / 2 ^ (p + n) % 2) := by
    generalize x / 2 ^ (p + n) % 2 = c at h2 ⊢
    rw [h2, Nat.add_mul]
    congr 1
    · rw [Nat.mul_comm 2 q, Nat.mul_assoc]
    · rw [Nat.mul_comm]
  omega
theorem bN_pN (x p n v : Nat) : bN (pN x p n v) (p + n) = bN x (p + n) := by
  have h := testBit_pN x p n v (p + n)
  rw [if_neg (by omega), if_neg (by omega)] at h
  unfold bN
  rw [Nat.testBit_eq_decide_div_mod_eq, Nat.testBit_eq_decide_div_mod_eq] at h
  have a := Nat.mod_lt (pN x p n v / 2 ^ (p + n)) (show 2 > 0 by decide)
  have b := Nat.mod_lt (x / 2 ^ (p + n)) (show 2 > 0 by decide)
  have h' : (pN x p n v / 2 ^ (p + n) % 2 = 1) ↔ (x / 2 ^ (p + n) % 2 = 1) := by simpa using h
  omega
theorem put_l (d : Nat) : ∀ (k x p i n v : Nat), p + n + d + 1 < k → x < 4294967296 → v < 4294967296 → i + d = n → p + n ≤ 32 → coxlessref01_Put.l0 k (pN x p i v : Int) p n v i = some (pN x p n v : Int) := by
  induction d with
  | zero =>
    intro k x p i n v hk hx hv hin hn
    obtain ⟨k, rfl⟩ : ∃ m, k = m + 1 := ⟨k - 1, by omega⟩
    obtain rfl : i = n := by omega
    simp only [coxlessref01_Put.l0]
    rw [if_neg (by omega)]
  | succ d ih =>
    intro k x p i n v hk hx hv hin hn
    obtain ⟨k, rfl⟩ : ∃ m, k = m + 1 := ⟨k - 1, by omega⟩
    simp only [coxlessref01_Put.l0]
    have hP : pN x p i v < 4294967296 := pN_lt (by omega) hx
    have hP' : pN x p (i + 1) v < 4294967296 := pN_lt (by omega) hx
    have hs := pN_step x p i v
    have ha := bN_lt x (p + i)
    have hb := bN_lt v i
    have e1 : (p : Int) + (i : Int) = ((p + i : Nat) : Int) := by omega
    have e2 : (i : Int) + 1 = ((i + 1 : Nat) : Int) := by omega
    rw [if_pos (by omega), w64 (by omega) (by omega), w64 (by omega) (by omega), e1, e2, bit_f k (pN x p i v) (p + i) (by omega) hP (by omega), bit_f k v i (by omega) hv (by omega), bN_pN, one_f k (p + i) (by omega) (by omega)]
    simp only [Option.bind_some]
    have IH := ih k x p (i + 1) n v (by omega) hx hv (by omega) hn
    by_cases hab : bN x (p + i) = bN v i
    · rw [if_pos (by rw [hab])]
      rw [hab] at hs
      have e : pN x p i v = pN x p (i + 1) v := by omega
      rw [e]; exact IH
    · rw [if_neg (by omega)]
      by_cases hv1 : bN v i = 1
      · have hx0 : bN x (p + i) = 0 := by omega
        rw [hv1, hx0] at hs
        have e : ((pN x p i v : Nat) : Int) + ((2 ^ (p + i) : Nat) : Int) = (pN x p (i + 1) v : Int) := by omega
        rw [if_pos (by omega), e, Int.emod_eq_of_lt (by omega) (by omega)]
        exact IH
      · have hx0 : bN x (p + i) = 1 := by omega
        have hv0 : bN v i = 0 := by omega
        rw [hv0, hx0] at hs
        have e : ((pN x p i v : Nat) : Int) - ((2 ^ (p + i) : Nat) : Int) = (pN x p (i + 1) v : Int) := by omega
        rw [if_neg (by omega), e, Int.emod_eq_of_lt (by omega) (by omega)]
        exact IH
theorem pN_zero (x p v : Nat) : pN x p 0 v = x := by
  unfold pN
  have := Nat.div_add_mod x (2 ^ p)
  simp [Nat.mod_one]
  rw [Nat.mul_comm (x / 2 ^ p)]; omega
theorem rPut_ok (x v : Nat) (p n : Int) (hx : x < 4294967296) (hv : v < 4294967296) : coxlessref01_Put.f 100 x p n v = some (putV x p n v : Int) := by
  unfold coxlessref01_Put.f putV
  rw [none_ok p n]
  simp only [Option.bind_some]
  by_cases h : isN p n
  · rw [if_neg (by simp [h]), if_pos h]
    obtain ⟨h1, h2, h3, h4, h5⟩ := h
    have := put_l n.toNat 100 x p.toNat 0 n.toNat v (by omega) hx hv (by omega) (by omega)
    rw [pN_zero, Int.toNat_of_nonneg h1, Int.toNat_of_nonneg h2] at this
    exact this
  · rw [if_pos (by simp [h]), if_neg h]

end Go.Proofs.YtoljlbfjjemldaaDoor
