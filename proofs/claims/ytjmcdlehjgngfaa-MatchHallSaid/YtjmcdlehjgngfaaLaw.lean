/- Fits, Slots and the reference's search on codes: they agree. Plain; no world. -/
import Derived.Test.YtjmcdlehjgngfaaChkA
import Derived.Test.YtjmcdlehjgngfaaChkB
import Derived.Test.YtjmcdlehjgngfaaChkC
import Derived.Test.YtjmcdlehjgngfaaChkD
import Derived.Test.YtjmcdlehjgngfaaChkE
namespace Go.Proofs.Ytjmcdlehjgngfaa
set_option linter.unusedVariables false

theorem takes_congr (mc mc' f : Nat) (hh : ∀ i, f ≤ i → ∀ k, k < 4 → has mc i k = has mc' i k) : ∀ (g i k oc sc : Nat), f ≤ i → takesC mc f g i k oc sc = takesC mc' f g i k oc sc := by
  intro g
  induction g with
  | zero => intro i k oc sc hi; rfl
  | succ g ih =>
    intro i k oc sc hi
    simp only [takesC]
    cases hk : Nat.blt k 4 with
    | false => rfl
    | true =>
      simp only [cond_true]
      rw [hh i hi k (Nat.blt_eq.mp hk), ih i (k + 1) oc sc hi, ih i (k + 1) oc (sc + 2 ^ k) hi]
      cases hf : Nat.ble (dig oc k) f with
      | true => rfl
      | false =>
        have hnl : ¬ dig oc k ≤ f := fun h => by rw [Nat.ble_eq_true_of_le h] at hf; cases hf
        simp only [cond_false]
        rw [ih (dig oc k - 1) 0 oc (sc + 2 ^ k) (by omega)]
        cases takesC mc' f g (dig oc k - 1) 0 oc (sc + 2 ^ k) with
        | none => rfl
        | some x =>
          obtain ⟨rb, o2, s2⟩ := x
          cases rb with
          | true => rfl
          | false => simp only []; rw [ih i (k + 1) o2 s2 hi]
theorem all_congr (mc mc' f n : Nat) (hh : ∀ i, f ≤ i → ∀ k, k < 4 → has mc i k = has mc' i k) : ∀ (g i oc : Nat), f ≤ i → allC mc f n g i oc = allC mc' f n g i oc := by
  intro g
  induction g with
  | zero => intro i oc hi; rfl
  | succ g ih =>
    intro i oc hi
    simp only [allC]
    rw [takes_congr mc mc' f hh 40 i 0 oc 0 hi]
    cases takesC mc' f 40 i 0 oc 0 with
    | none => rfl
    | some x =>
      obtain ⟨rb, o2, s2⟩ := x
      cases rb with
      | false => rfl
      | true => simp only []; rw [ih (i + 1) o2 (by omega)]

/-- One step of extK, in has and sawn. -/
theorem extK_succ (mc d i u : Nat) : extK mc (d + 1) i u =
    ((has mc i 0 && !sawn u 0 && extK mc d (i + 1) (u + 2 ^ 0)) || ((has mc i 1 && !sawn u 1 && extK mc d (i + 1) (u + 2 ^ 1)) || ((has mc i 2 && !sawn u 2 && extK mc d (i + 1) (u + 2 ^ 2)) || (has mc i 3 && !sawn u 3 && extK mc d (i + 1) (u + 2 ^ 3))))) := by
  have h : extK mc (d + 1) i u = cond (cond (Nat.beq (Nat.land (Nat.shiftRight mc (Nat.add (Nat.mul 4 i) 0)) 1) 1) (cond (Nat.beq (Nat.land (Nat.shiftRight u 0) 1) 1) false (extK mc d (i + 1) (u + 1))) false) true
       (cond (cond (Nat.beq (Nat.land (Nat.shiftRight mc (Nat.add (Nat.mul 4 i) 1)) 1) 1) (cond (Nat.beq (Nat.land (Nat.shiftRight u 1) 1) 1) false (extK mc d (i + 1) (u + 2))) false) true
        (cond (cond (Nat.beq (Nat.land (Nat.shiftRight mc (Nat.add (Nat.mul 4 i) 2)) 1) 1) (cond (Nat.beq (Nat.land (Nat.shiftRight u 2) 1) 1) false (extK mc d (i + 1) (u + 4))) false) true
         (cond (Nat.beq (Nat.land (Nat.shiftRight mc (Nat.add (Nat.mul 4 i) 3)) 1) 1) (cond (Nat.beq (Nat.land (Nat.shiftRight u 3) 1) 1) false (extK mc d (i + 1) (u + 8))) false))) := rfl
  rw [h]
  rw [← has_raw, ← has_raw, ← has_raw, ← has_raw, ← sawn_raw, ← sawn_raw, ← sawn_raw, ← sawn_raw]
  show _ = ((has mc i 0 && !sawn u 0 && extK mc d (i + 1) (u + 1)) || ((has mc i 1 && !sawn u 1 && extK mc d (i + 1) (u + 2)) || ((has mc i 2 && !sawn u 2 && extK mc d (i + 1) (u + 4)) || (has mc i 3 && !sawn u 3 && extK mc d (i + 1) (u + 8)))))
  cases has mc i 0 <;> cases has mc i 1 <;> cases has mc i 2 <;> cases has mc i 3 <;> cases sawn u 0 <;> cases sawn u 1 <;> cases sawn u 2 <;> cases sawn u 3 <;> cases extK mc d (i + 1) (u + 1) <;> cases extK mc d (i + 1) (u + 2) <;> cases extK mc d (i + 1) (u + 4) <;> rfl

theorem ext_congr (mc mc' f : Nat) (hh : ∀ i, f ≤ i → ∀ k, k < 4 → has mc i k = has mc' i k) : ∀ (d i u : Nat), f ≤ i → extK mc d i u = extK mc' d i u := by
  intro d
  induction d with
  | zero => intro i u hi; rfl
  | succ d ih =>
    intro i u hi
    rw [extK_succ, extK_succ, hh i hi 0 (by omega), hh i hi 1 (by omega), hh i hi 2 (by omega), hh i hi 3 (by omega)]
    simp only [ih (i + 1) _ (by omega : f ≤ i + 1)]

theorem has_high (mc f i k : Nat) (h : f ≤ i) : has mc i k = has (mc / 16 ^ f * 16 ^ f) i k := by
  unfold has
  have e : 2 ^ (4 * i + k) = 16 ^ f * 2 ^ (4 * (i - f) + k) := by
    rw [← pow_four, ← Nat.pow_add]
    congr 1
    omega
  rw [e, ← Nat.div_div_eq_div_mul, ← Nat.div_div_eq_div_mul, Nat.mul_div_cancel _ (Nat.pow_pos (by decide))]

theorem ok_all (n : Nat) (hn : n ≤ 4) (fs : List Nat) (hg : Good fs) (hl : fs.length ≤ n) (c : Nat) (hc : c < 16 ^ (n - fs.length)) :
    okF (c * 16 ^ fs.length) n fs.length (n - fs.length) (begC fs 0 0) (umC fs 0) = true := by
  have P : ∀ m, m ≤ 3 → preK m m 0 0 0 = true := fun m hm => by
    rcases (show m = 0 ∨ m = 1 ∨ m = 2 ∨ m = 3 by omega) with rfl | rfl | rfl | rfl
    · exact pre0
    · exact pre1
    · exact pre2
    · exact pre3
  by_cases h4 : n = 4
  · subst h4
    cases fs with
    | nil =>
      simp only [List.length_nil, Nat.sub_zero, Nat.pow_zero, Nat.mul_one] at hc ⊢
      have h16 : (16 : Nat) ^ 4 = 65536 := rfl
      rw [h16] at hc
      have go : ∀ m, rangeK 4 0 4 0 0 1 13 m = true → m ≤ c → c < m + 8192 → okF c 4 0 4 (begC [] 0 0) (umC [] 0) = true := fun m hm h0 h1 => by
        have := rangeK_all hm c h0 (by simpa using h1)
        rw [Nat.mul_one] at this
        exact this
      rcases (show c < 8192 ∨ (8192 ≤ c ∧ c < 16384) ∨ (16384 ≤ c ∧ c < 24576) ∨ (24576 ≤ c ∧ c < 32768) ∨ (32768 ≤ c ∧ c < 40960) ∨ (40960 ≤ c ∧ c < 49152) ∨ (49152 ≤ c ∧ c < 57344) ∨ (57344 ≤ c ∧ c < 65536) by omega) with h | h | h | h | h | h | h | h
      · exact go 0 chk4_0 (by omega) (by omega)
      · exact go 8192 chk4_1 (by omega) (by omega)
      · exact go 16384 chk4_2 (by omega) (by omega)
      · exact go 24576 chk4_3 (by omega) (by omega)
      · exact go 32768 chk4_4 (by omega) (by omega)
      · exact go 40960 chk4_5 (by omega) (by omega)
      · exact go 49152 chk4_6 (by omega) (by omega)
      · exact go 57344 chk4_7 (by omega) (by omega)
    | cons s r =>
      have hg' : Good ([s] ++ r) := hg
      have hs := (Good.last (fs := []) (Good.front r hg')).2.1
      have Q : preK 4 3 1 (setd 0 s 1) (2 ^ s) = true := by
        rcases (show s = 0 ∨ s = 1 ∨ s = 2 ∨ s = 3 by omega) with rfl | rfl | rfl | rfl
        · exact pre4_0
        · exact pre4_1
        · exact pre4_2
        · exact pre4_3
      have e : umC [s] 0 = 2 ^ s := by show 0 + 2 ^ s = 2 ^ s; omega
      have Q' : preK 4 3 [s].length (begC [s] 0 0) (umC [s] 0) = true := by rw [e]; exact Q
      have hl' : r.length ≤ 3 := by simp at hl; omega
      have e2 : 4 - (s :: r).length = 3 - r.length := by simp
      rw [e2] at hc ⊢
      exact preK_all r 3 [s] Q' rfl hg' hl' c hc
  · have := preK_all fs n [] (P n (by omega)) (by simp) (by simpa using hg) hl c hc
    simpa using this

/-- 'all', behind a prefix of slots, tells whether an assignment goes on. -/
theorem all_tells (mc n : Nat) (hn : n ≤ 4) (hmc : mc < 16 ^ n) (fs : List Nat) (hg : Good fs) (hl : fs.length ≤ n) :
    allC mc fs.length n 10 fs.length (begC fs 0 0) = some (extK mc (n - fs.length) fs.length (umC fs 0)) := by
  have hc : mc / 16 ^ fs.length < 16 ^ (n - fs.length) := by
    apply Nat.div_lt_of_lt_mul
    rw [← Nat.pow_add, show fs.length + (n - fs.length) = n by omega]
    exact hmc
  have h := okF_all (ok_all n hn fs hg hl _ hc)
  rw [all_congr mc _ fs.length n (fun i hi k hk => has_high mc fs.length i k hi) 10 fs.length _ (Nat.le_refl _), h,
    ext_congr mc _ fs.length (fun i hi k hk => has_high mc fs.length i k hi) (n - fs.length) fs.length _ (Nat.le_refl _)]

end Go.Proofs.Ytjmcdlehjgngfaa
