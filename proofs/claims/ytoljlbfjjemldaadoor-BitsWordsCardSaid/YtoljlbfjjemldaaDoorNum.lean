/- Fields of words, as natural numbers: what the printed functions of package bits compute. Plain; no world. -/
import Derived.Test.YtoljlbfjjemldaaDoorPBitsFieldsx
import Derived.OpenShut
import Derived.Laws.BitsLemmas
namespace Go.Proofs.YtoljlbfjjemldaaDoor
open Go.RowKit Go.Proofs.YtoljlbfjjemldaaDoorW.PrintWords Go.Proofs.YtoljlbfjjemldaaDoorW.PrintMore
open Go.Proofs.YtoljlbfjjemldaaDoor.PBitsFields

/-- A field's value. -/
def gN (x p n : Nat) : Nat := x / 2 ^ p % 2 ^ n
/-- A word with another value in a field. -/
def pN (x p n v : Nat) : Nat := x % 2 ^ p + v % 2 ^ n * 2 ^ p + x / 2 ^ (p + n) * 2 ^ (p + n)

theorem w64 {n : Int} (h0 : -9223372036854775808 ≤ n) (h1 : n < 9223372036854775808) : wrap64 n = n := by unfold wrap64; omega
theorem u32w {n : Int} (h0 : 0 ≤ n) (h1 : n < 4294967296) : IntKind.u32.wrap n = n := by rw [IntKind.wrap_u32]; omega
theorem wraps_u32 (n : Int) (h₀ : 0 ≤ n) (h₁ : n < 2 ^ 32) : IntKind.u32.wrap n = n := by rw [IntKind.wrap_u32]; omega
theorem u64w {n : Int} (h0 : 0 ≤ n) (h1 : n < 18446744073709551616) : IntKind.u64.wrap n = n := by
  simp [IntKind.wrap, IntKind.bits, IntKind.signed]; omega
theorem pow32 {n : Nat} (h : n ≤ 32) : 2 ^ n ≤ 4294967296 := Nat.pow_le_pow_right (n := 2) (by decide) h

theorem gN_lt (x p n : Nat) : gN x p n < 2 ^ n := Nat.mod_lt _ (Nat.two_pow_pos n)
theorem testBit_gN (x p n i : Nat) : (gN x p n).testBit i = (decide (i < n) && x.testBit (p + i)) := by
  unfold gN
  rw [Nat.testBit_mod_two_pow, ← Nat.shiftRight_eq_div_pow, Nat.testBit_shiftRight]
theorem pN_or (x p n v : Nat) : pN x p n v = (x / 2 ^ (p + n)) <<< (p + n) ||| ((v % 2 ^ n) <<< p ||| x % 2 ^ p) := by
  have h1 : x % 2 ^ p < 2 ^ p := Nat.mod_lt _ (Nat.two_pow_pos p)
  have h2 : v % 2 ^ n < 2 ^ n := Nat.mod_lt _ (Nat.two_pow_pos n)
  rw [← Nat.shiftLeft_add_eq_or_of_lt h1]
  have h3 : (v % 2 ^ n) <<< p + x % 2 ^ p < 2 ^ (p + n) := by
    rw [Nat.shiftLeft_eq, Nat.pow_add]
    calc v % 2 ^ n * 2 ^ p + x % 2 ^ p < v % 2 ^ n * 2 ^ p + 2 ^ p := by omega
      _ = (v % 2 ^ n + 1) * 2 ^ p := by rw [Nat.add_mul, Nat.one_mul]
      _ ≤ 2 ^ n * 2 ^ p := Nat.mul_le_mul_right _ h2
      _ = 2 ^ p * 2 ^ n := Nat.mul_comm _ _
  rw [← Nat.shiftLeft_add_eq_or_of_lt h3]
  unfold pN
  rw [Nat.shiftLeft_eq, Nat.shiftLeft_eq]
  omega
theorem testBit_pN (x p n v i : Nat) : (pN x p n v).testBit i = if i < p then x.testBit i else if i < p + n then v.testBit (i - p) else x.testBit i := by
  rw [pN_or]
  simp only [Nat.testBit_or, Nat.testBit_shiftLeft, Nat.testBit_mod_two_pow, ← Nat.shiftRight_eq_div_pow, Nat.testBit_shiftRight]
  by_cases h1 : i < p
  · simp [h1, show ¬ p ≤ i by omega, show ¬ p + n ≤ i by omega]
  · by_cases h2 : i < p + n
    · simp [h1, h2, show p ≤ i by omega, show ¬ p + n ≤ i by omega, show i - p < n by omega]
    · simp [h1, h2, show p ≤ i by omega, show p + n ≤ i by omega, show ¬ i - p < n by omega]
theorem pN_lt {x p n v : Nat} (hp : p + n ≤ 32) (hx : x < 2 ^ 32) : pN x p n v < 2 ^ 32 := by
  apply Nat.lt_pow_two_of_testBit
  intro i hi
  rw [testBit_pN, if_neg (by omega), if_neg (by omega)]
  exact Nat.testBit_lt_two_pow (Nat.lt_of_lt_of_le hx (Nat.pow_le_pow_right (by decide) hi))

theorem mask_ok (a : Int) (n : Nat) (hn : n ≤ 32) : bits_field_mask.f a n = some ((2 ^ n - 1 : Nat) : Int) := by
  have key : ∀ n, n < 33 → bits_field_mask.f 0 (n : Nat) = some ((2 ^ n - 1 : Nat) : Int) := by decide +kernel
  exact key n (by omega)
theorem get_ok (p n x : Nat) (hp : p + n ≤ 32) (hx : x < 2 ^ 32) : bits_field_get.f p n x = some (gN x p n : Int) := by
  unfold bits_field_get.f
  have hd : x / 2 ^ p < 2 ^ 32 := Nat.lt_of_le_of_lt (Nat.div_le_self _ _) hx
  have hs : shr .u64 (IntKind.u64.wrap (x : Int)) (p : Int) % 4294967296 = ((x / 2 ^ p : Nat) : Int) := by
    unfold shr
    rw [u64w (by omega) (by omega), Int.toNat_natCast, Nat.min_eq_left (by show p ≤ 64; omega)]
    have e : ((x : Int) / 2 ^ p) = ((x / 2 ^ p : Nat) : Int) := by simp
    rw [e]
    have hd' : x / 2 ^ p < 4294967296 := hd
    generalize x / 2 ^ p = y at hd' ⊢
    omega
  rw [if_pos (by omega), mask_ok _ n (by omega)]
  simp only [Option.bind_some]
  have hm : 2 ^ n - 1 < 2 ^ 32 := by have := pow32 (n := n) (by omega); have := Nat.two_pow_pos n; omega
  rw [hs, (bits_nat .u32 32 (by decide) wraps_u32 _ _ hd hm).1, Nat.and_two_pow_sub_one_eq_mod]
  rfl


theorem andNot_nat (a b : Nat) (ha : a < 2 ^ 32) (_hb : b < 2 ^ 32) : ∃ c : Nat, bits .andNot .u32 a b = (c : Int) ∧ c < 2 ^ 32 ∧ ∀ i, c.testBit i = (a.testBit i && !b.testBit i) := by
  refine ⟨(BitVec.ofNat 32 a &&& ~~~ BitVec.ofNat 32 b).toNat, ?_, BitVec.isLt _, fun i => ?_⟩
  · simp only [bits, BitVec.ofInt_natCast]
    exact wraps_u32 _ (Int.natCast_nonneg _) (by exact_mod_cast BitVec.isLt _)
  · by_cases hi : i < 32
    · rw [BitVec.testBit_toNat, BitVec.getLsbD_and, BitVec.getLsbD_not, BitVec.getLsbD_ofNat, BitVec.getLsbD_ofNat]
      simp [hi]
    · have h1 : (BitVec.ofNat 32 a &&& ~~~ BitVec.ofNat 32 b).toNat.testBit i = false := Nat.testBit_lt_two_pow (Nat.lt_of_lt_of_le (BitVec.isLt _) (Nat.pow_le_pow_right (by decide) (by omega)))
      have h2 : a.testBit i = false := Nat.testBit_lt_two_pow (Nat.lt_of_lt_of_le ha (Nat.pow_le_pow_right (by decide) (by omega)))
      rw [h1, h2]; rfl

theorem put_ok (p n x v : Nat) (hp : p + n ≤ 32) (hx : x < 2 ^ 32) (hv : v < 2 ^ 32) : bits_field_put.f p n x v = some (pN x p n v : Int) := by
  unfold bits_field_put.f
  by_cases h0 : n = 0
  · subst h0
    rw [if_pos (by rfl)]
    have e : pN x p 0 v = x := by
      unfold pN
      have := Nat.div_add_mod x (2 ^ p)
      simp [Nat.mod_one]
      rw [Nat.mul_comm (x / 2 ^ p)]; omega
    rw [e]
  · rw [if_neg (by omega), mask_ok _ n (by omega)]
    simp only [Option.bind_some]
    rw [if_pos (by omega)]
    have hm : 2 ^ n - 1 < 2 ^ 32 := by have := pow32 (n := n) (by omega); have := Nat.two_pow_pos n; omega
    rw [(bits_nat .u32 32 (by decide) wraps_u32 _ _ hv hm).1, Nat.and_two_pow_sub_one_eq_mod]
    have hle : 2 ^ (p + n) ≤ 2 ^ 32 := Nat.pow_le_pow_right (by decide) hp
    have hsh : ∀ m : Nat, m < 2 ^ n → shl .u32 (m : Int) (p : Int) = ((m * 2 ^ p : Nat) : Int) ∧ m * 2 ^ p < 2 ^ 32 := by
      intro m hm
      have hlt : m * 2 ^ p < 2 ^ 32 := by
        refine Nat.lt_of_lt_of_le ?_ hle
        rw [Nat.add_comm, Nat.pow_add]
        exact Nat.mul_lt_mul_of_pos_right hm (Nat.two_pow_pos p)
      refine ⟨?_, hlt⟩
      unfold shl
      rw [Int.toNat_natCast, Nat.min_eq_left (by show p ≤ 32; omega)]
      have e : ((m : Int) * 2 ^ p) = ((m * 2 ^ p : Nat) : Int) := by simp
      rw [e]
      exact wraps_u32 _ (Int.natCast_nonneg _) (by exact_mod_cast hlt)
    have hmask := hsh (2 ^ n - 1) (by have := Nat.two_pow_pos n; omega)
    have hval := hsh (v % 2 ^ n) (Nat.mod_lt _ (Nat.two_pow_pos n))
    rw [hmask.1, hval.1]
    obtain ⟨c, hc, hcl, hcb⟩ := andNot_nat x ((2 ^ n - 1) * 2 ^ p) hx hmask.2
    rw [hc, (bits_nat .u32 32 (by decide) wraps_u32 _ _ hcl hval.2).2]
    congr 2
    apply Nat.eq_of_testBit_eq
    intro i
    rw [Nat.testBit_or, hcb, testBit_pN, ← Nat.shiftLeft_eq, ← Nat.shiftLeft_eq]
    simp only [Nat.testBit_shiftLeft, Nat.testBit_mod_two_pow, Nat.testBit_two_pow_sub_one]
    by_cases h1 : i < p
    · simp [h1, show ¬ p ≤ i by omega]
    · by_cases h2 : i < p + n
      · simp [h1, h2, show p ≤ i by omega, show i - p < n by omega]
      · simp [h1, h2, show p ≤ i by omega, show ¬ i - p < n by omega]

/-- Is it a field? -/
def isN (p n : Int) : Prop := 0 ≤ p ∧ 0 ≤ n ∧ p ≤ 32 ∧ n ≤ 32 ∧ p + n ≤ 32
instance (p n : Int) : Decidable (isN p n) := by unfold isN; exact inferInstance
theorem is_ok (p n : Int) : bits_field_is.f p n = some (decide (isN p n)) := by
  by_cases h : isN p n
  · rw [decide_eq_true h]
    obtain ⟨h1, h2, h3, h4, h5⟩ := h
    unfold bits_field_is.f
    rw [if_pos h1, if_pos h2, if_pos h3, w64 (by omega) (by omega), decide_eq_true (by omega)]
  · rw [decide_eq_false h]
    have h' : ¬ (0 ≤ p ∧ 0 ≤ n ∧ p ≤ 32 ∧ n ≤ 32 ∧ p + n ≤ 32) := h
    unfold bits_field_is.f
    by_cases h1 : 0 ≤ p
    · by_cases h2 : 0 ≤ n
      · by_cases h3 : p ≤ 32
        · rw [if_pos h1, if_pos h2, if_pos h3, w64 (by omega) (by omega), decide_eq_false (by omega)]
        · rw [if_pos h1, if_pos h2, if_neg h3]
      · rw [if_pos h1, if_neg h2]
    · rw [if_neg h1]
theorem none_ok (p n : Int) : coxlessref01_none.f p n = some (!decide (isN p n)) := by
  by_cases h : isN p n
  · rw [decide_eq_true h]
    obtain ⟨h1, h2, h3, h4, h5⟩ := h
    unfold coxlessref01_none.f
    rw [if_neg (by omega), if_neg (by omega), if_neg (by omega), if_neg (by omega), w64 (by omega) (by omega), decide_eq_false (by omega)]
    rfl
  · rw [decide_eq_false h]
    have h' : ¬ (0 ≤ p ∧ 0 ≤ n ∧ p ≤ 32 ∧ n ≤ 32 ∧ p + n ≤ 32) := h
    unfold coxlessref01_none.f
    by_cases h1 : p < 0
    · rw [if_pos h1]; rfl
    · by_cases h2 : n < 0
      · rw [if_neg h1, if_pos h2]; rfl
      · by_cases h3 : p > 32
        · rw [if_neg h1, if_neg h2, if_pos h3]; rfl
        · by_cases h4 : n > 32
          · rw [if_neg h1, if_neg h2, if_neg h3, if_pos h4]; rfl
          · rw [if_neg h1, if_neg h2, if_neg h3, if_neg h4, w64 (by omega) (by omega), decide_eq_true (by omega)]
            rfl

/-- What Get gives. -/
def getV (x : Nat) (p n : Int) : Nat := if isN p n then gN x p.toNat n.toNat else 0
/-- What Put gives. -/
def putV (x : Nat) (p n : Int) (v : Nat) : Nat := if isN p n then pN x p.toNat n.toNat v else x

theorem Get_ok (x : Nat) (p n : Int) (hx : x < 2 ^ 32) : bits_Get.f x p n = some (getV x p n : Int) := by
  unfold bits_Get.f getV
  rw [is_ok p n]
  simp only [Option.bind_some]
  by_cases h : isN p n
  · rw [if_pos (by simpa using h), if_pos h]
    obtain ⟨h1, h2, h3, h4, h5⟩ := h
    have := get_ok p.toNat n.toNat x (by omega) hx
    rw [Int.toNat_of_nonneg h1, Int.toNat_of_nonneg h2] at this
    rw [this]; rfl
  · rw [if_neg (by simpa using h), if_neg h]; rfl
theorem Put_ok (x v : Nat) (p n : Int) (hx : x < 2 ^ 32) (hv : v < 2 ^ 32) : bits_Put.f x p n v = some (putV x p n v : Int) := by
  unfold bits_Put.f putV
  rw [is_ok p n]
  simp only [Option.bind_some]
  by_cases h : isN p n
  · rw [if_pos (by simpa using h), if_pos h]
    obtain ⟨h1, h2, h3, h4, h5⟩ := h
    have := put_ok p.toNat n.toNat x v (by omega) hx hv
    rw [Int.toNat_of_nonneg h1, Int.toNat_of_nonneg h2] at this
    rw [this]; rfl
  · rw [if_neg (by simpa using h), if_neg h]

end Go.Proofs.YtoljlbfjjemldaaDoor
