/- BitsPuts: the plain law, and the walk's three cases joined. -/
import Derived.Test.YtoljlbfjjemldaaDoorPutsW
namespace Go.Proofs.YtoljlbfjjemldaaDoor
open Go.RowKit Go.Proofs.YtoljlbfjjemldaaDoorW.PrintWords Go.Proofs.YtoljlbfjjemldaaDoorW.PrintMore
open Go.Proofs.YtoljlbfjjemldaaDoor.PBitsFields

theorem put_got (x a k v : Nat) : gN (pN x a k v) a k = gN v 0 k := by
  apply Nat.eq_of_testBit_eq
  intro i
  rw [testBit_gN, testBit_gN, testBit_pN]
  by_cases h : i < k
  · simp [h, show ¬ a + i < a by omega]
  · simp [h]
theorem put_twice (x a k v : Nat) : pN (pN x a k v) a k v = pN x a k v := by
  apply Nat.eq_of_testBit_eq
  intro i
  rw [testBit_pN, testBit_pN]
  by_cases h : i < a
  · simp [h]
  · by_cases h2 : i < a + k <;> simp [h, h2]
theorem put_own (x a k : Nat) : pN x a k (gN x a k) = x := by
  apply Nat.eq_of_testBit_eq
  intro i
  rw [testBit_pN, testBit_gN]
  by_cases h : i < a
  · simp [h]
  · by_cases h2 : i < a + k
    · simp [h, h2, show i - a < k by omega, show a + (i - a) = i by omega]
    · simp [h, h2]
theorem put_else (x a k v b l : Nat) (h : a + k ≤ b ∨ b + l ≤ a) : gN (pN x a k v) b l = gN x b l := by
  apply Nat.eq_of_testBit_eq
  intro i
  rw [testBit_gN, testBit_gN, testBit_pN]
  by_cases hi : i < l
  · rcases h with h | h
    · simp [show ¬ b + i < a by omega, show ¬ b + i < a + k by omega]
    · simp [show b + i < a by omega]
  · simp [hi]

theorem bitsPuts_walk (x v p n q m : Int) (hx : (Lit.int .u32 x).wf = true) (hv : (Lit.int .u32 v).wf = true) (hp : (Lit.int .u8 p).wf = true) (hn : (Lit.int .u8 n).wf = true) (hq : (Lit.int .u8 q).wf = true) (hm : (Lit.int .u8 m).wf = true) (w : World) (hG : Glob w) :
    Calls Tryd.prog 7 #[.int .u32 x, .int .u32 v, .int .u8 p, .int .u8 n, .int .u8 q, .int .u8 m] w fun e w' => e = .returned (.bool true) ∧ Below w.heap.size w w' := by
  obtain ⟨x0, x1⟩ := bounds_u32 hx
  obtain ⟨v0, v1⟩ := bounds_u32 hv
  obtain ⟨p0, p1⟩ := bounds_u8 hp
  obtain ⟨n0, n1⟩ := bounds_u8 hn
  obtain ⟨q0, q1⟩ := bounds_u8 hq
  obtain ⟨m0, m1⟩ := bounds_u8 hm
  obtain ⟨x, rfl⟩ := Int.eq_ofNat_of_zero_le x0
  obtain ⟨v, rfl⟩ := Int.eq_ofNat_of_zero_le v0
  have hx' : x < 4294967296 := by omega
  have hv' : v < 4294967296 := by omega
  obtain ⟨a, ha⟩ : ∃ a : Nat, p % 33 = (a : Int) := ⟨(p % 33).toNat, by omega⟩
  obtain ⟨b, hb⟩ : ∃ b : Nat, q % 33 = (b : Int) := ⟨(q % 33).toNat, by omega⟩
  have ka0 := Int.emod_nonneg n (show 33 - (a : Int) ≠ 0 by omega)
  have ka1 := Int.emod_lt_of_pos n (show 0 < 33 - (a : Int) by omega)
  have lb0 := Int.emod_nonneg m (show 33 - (b : Int) ≠ 0 by omega)
  have lb1 := Int.emod_lt_of_pos m (show 0 < 33 - (b : Int) by omega)
  obtain ⟨k, hk⟩ : ∃ k : Nat, n % (33 - (a : Int)) = (k : Int) := ⟨(n % (33 - (a : Int))).toNat, by omega⟩
  obtain ⟨l, hl⟩ : ∃ l : Nat, m % (33 - (b : Int)) = (l : Int) := ⟨(m % (33 - (b : Int))).toNat, by omega⟩
  have hak : a + k ≤ 32 := by omega
  have hbl : b + l ≤ 32 := by omega
  have P : ∀ (u t : Nat), u < 4294967296 → t < 4294967296 → ∀ W, Calls Tryd.prog 20 #[.int .u32 (u : Int), .int .i64 (a : Int), .int .i64 (k : Int), .int .u32 (t : Int)] W fun e w' => e = .returned (.int .u32 (pN u a k t)) ∧ Below W.heap.size W w' := fun u t hu ht W => by
    have h := Put_ok u t (a : Int) (k : Int) hu ht
    unfold putV at h
    rw [if_pos (by unfold isN; omega), Int.toNat_natCast, Int.toNat_natCast] at h
    exact bits_Put.calls _ _ _ _ _ W h
  have G : ∀ (u c d : Nat), u < 4294967296 → c + d ≤ 32 → ∀ W, Calls Tryd.prog 18 #[.int .u32 (u : Int), .int .i64 (c : Int), .int .i64 (d : Int)] W fun e w' => e = .returned (.int .u32 (gN u c d)) ∧ Below W.heap.size W w' := fun u c d hu hcd W => by
    have h := Get_ok u (c : Int) (d : Int) hu
    unfold getV at h
    rw [if_pos (by unfold isN; omega), Int.toNat_natCast, Int.toNat_natCast] at h
    exact bits_Get.calls _ _ _ _ W h
  have hy : pN x a k v < 4294967296 := pN_lt hak hx'
  have hg : gN x a k < 4294967296 := by have := gN_lt x a k; have := pow32 (n := k) (by omega); omega
  have g1 := G (pN x a k v) a k hy hak
  rw [put_got] at g1
  have g2 := G v 0 k hv' (by omega)
  have s2 := P (pN x a k v) v hy hv'
  rw [put_twice] at s2
  have s3 := P x (gN x a k) hx' hg
  rw [put_own] at s3
  by_cases c1 : (b : Int) < a + k
  · by_cases c2 : (a : Int) < b + l
    · exact puts_walk_meet x v p n q m (pN x a k v) (gN v 0 k) (gN x a k) a k b l w hG p0 p1 n0 n1 q0 q1 m0 m1 ha hk hb hl (P x v hx' hv') g1 g2 s2 (G x a k hx' hak) s3 (decide_eq_true c1) (decide_eq_true c2)
    · have g4 := G (pN x a k v) b l hy hbl
      rw [put_else x a k v b l (by omega)] at g4
      exact puts_walk_high x v p n q m (pN x a k v) (gN v 0 k) (gN x a k) (gN x b l) a k b l w hG p0 p1 n0 n1 q0 q1 m0 m1 ha hk hb hl (P x v hx' hv') g1 g2 s2 (G x a k hx' hak) s3 g4 (G x b l hx' hbl) (decide_eq_true c1) (decide_eq_false c2)
  · have g4 := G (pN x a k v) b l hy hbl
    rw [put_else x a k v b l (by omega)] at g4
    exact puts_walk_low x v p n q m (pN x a k v) (gN v 0 k) (gN x a k) (gN x b l) a k b l w hG p0 p1 n0 n1 q0 q1 m0 m1 ha hk hb hl (P x v hx' hv') g1 g2 s2 (G x a k hx' hak) s3 g4 (G x b l hx' hbl) (decide_eq_false c1)

end Go.Proofs.YtoljlbfjjemldaaDoor
