/- A word of its parts, its thirty: what the code gives, as numbers. Plain; no world. -/
import Derived.Test.YtoljlbfjjemldaaDoorRef
namespace Go.Proofs.YtoljlbfjjemldaaDoor
open Go.RowKit Go.Proofs.YtoljlbfjjemldaaDoorW.PrintWords Go.Proofs.YtoljlbfjjemldaaDoorW.PrintMore
open Go.Proofs.YtoljlbfjjemldaaDoor.PBitsFields
set_option linter.unusedVariables false
set_option linter.unusedSimpArgs false

/-- The word of a code, a payload, parse bits. -/
def wordN (c p q : Nat) : Nat := c % 64 * 67108864 + p / 16384 % 1024 * 65536 + q % 4 * 16384 + p % 16384
/-- All but the parse bits. -/
def thirtyN (x : Nat) : Nat := x % 16384 + x / 65536 % 65536 * 16384
/-- A word of thirty bits and parse bits. -/
def fromThirtyN (v q : Nat) : Nat := v % 16384 + v / 16384 % 65536 * 65536 + q % 4 * 16384
def payloadN (x : Nat) : Nat := x % 16384 + x / 65536 % 1024 * 16384

theorem or_join (a b : Nat) (ha : a < 16384) (hb : b < 262144) : bits .or .u32 (a : Int) (IntKind.u32.wrap ((b : Int) * 16384)) = ((a + b * 16384 : Nat) : Int) := by
  have e : IntKind.u32.wrap ((b : Int) * 16384) = ((b * 16384 : Nat) : Int) := by rw [u32w (by omega) (by omega)]; omega
  rw [e, (bits_nat .u32 32 (by decide) wraps_u32 a (b * 16384) (by omega) (by omega)).2]
  congr 1
  have h := Nat.shiftLeft_add_eq_or_of_lt (i := 14) (b := a) (by omega) b
  rw [Nat.shiftLeft_eq, show (2 : Nat) ^ 14 = 16384 from rfl] at h
  rw [Nat.or_comm]
  omega

theorem gN_num (x : Nat) : gN x 0 14 = x % 16384 ∧ gN x 16 16 = x / 65536 % 65536 ∧ gN x 16 10 = x / 65536 % 1024 ∧ gN x 26 6 = x / 67108864 % 64 ∧ gN x 14 2 = x / 16384 % 4 := by
  unfold gN
  refine ⟨?_, ?_, ?_, ?_, ?_⟩ <;> simp

theorem pN_num (c p q : Nat) (hp : p < 4294967296) : pN (pN (pN (pN 0 26 6 c) 0 14 p) 16 10 (p / 16384)) 14 2 q = wordN c p q := by
  unfold pN wordN
  simp only [Nat.reducePow, Nat.reduceAdd, Nat.zero_mod, Nat.zero_div, Nat.zero_mul, Nat.div_one, Nat.mul_one, Nat.mod_one]
  omega
theorem pN_num30 (v q : Nat) (hv : v < 4294967296) : pN (pN (pN 0 0 14 v) 16 16 (v / 16384)) 14 2 q = fromThirtyN v q := by
  unfold pN fromThirtyN
  simp only [Nat.reducePow, Nat.reduceAdd, Nat.zero_mod, Nat.zero_div, Nat.zero_mul, Nat.div_one, Nat.mul_one, Nat.mod_one]
  omega
theorem wordN_lt (c p q : Nat) : wordN c p q < 4294967296 := by unfold wordN; omega
theorem thirtyN_lt (x : Nat) : thirtyN x < 1073741824 := by unfold thirtyN; omega
theorem fromThirtyN_lt (v q : Nat) : fromThirtyN v q < 4294967296 := by unfold fromThirtyN; omega
theorem payloadN_lt (x : Nat) : payloadN x < 16777216 := by unfold payloadN; omega

end Go.Proofs.YtoljlbfjjemldaaDoor
