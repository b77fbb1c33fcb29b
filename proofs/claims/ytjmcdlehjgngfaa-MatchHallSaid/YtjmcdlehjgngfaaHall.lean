/- The marriage condition on codes: plain, for a check by the kernel. -/
import Derived.Test.YtjmcdlehjgngfaaFit
namespace Go.Proofs.Ytjmcdlehjgngfaa
open Go.RowKit Go.Proofs.YtjmcdlehjgngfaaW.PrintWords Go.Proofs.YtjmcdlehjgngfaaW.PrintLast Go.Proofs.YtjmcdlehjgngfaaW.PrintMore
set_option linter.unusedVariables false
set_option linter.unusedSimpArgs false

/-- How many masks a choice picks, and the slots that they have: d masks being left, from some count and slots on. -/
def fin : Nat → Nat → Nat → Nat → Nat → Nat × Nat
  | 0, _, _, c, a => (c, a)
  | d + 1, mc, p, c, a => fin d (mc / 16) (p / 2) (c + p % 2) (if p % 2 = 1 then a ||| (mc % 16) else a)
/-- Does a choice keep the condition? -/
def hv (n mc p : Nat) : Bool := Nat.ble (fin n mc p 0 0).1 (popc (fin n mc p 0 0).2)
def hallTo (n mc : Nat) : Nat → Bool
  | 0 => true
  | P + 1 => hallTo n mc P && hv n mc P
theorem hallTo_true {n mc : Nat} : ∀ {P : Nat}, hallTo n mc P = true ↔ ∀ p, p < P → hv n mc p = true
  | 0 => ⟨fun _ p hp => by omega, fun _ => rfl⟩
  | P + 1 => by
    rw [hallTo, Bool.and_eq_true, hallTo_true]
    constructor
    · rintro ⟨h1, h2⟩ p hp
      by_cases e : p = P
      · rw [e]; exact h2
      · exact h1 p (by omega)
    · intro h
      exact ⟨fun p hp => h p (by omega), h P (by omega)⟩

noncomputable def popT (a : Nat) : Nat := Nat.land (Nat.shiftRight 4841987667533046032 (Nat.mul 4 a)) 15
theorem popT_eq : ∀ a, a < 16 → popT a = popc a := by decide +kernel
/-- All choices of d masks. -/
noncomputable def hallT : Nat → Nat → Nat → Nat → Bool := fun d =>
  Nat.rec (motive := fun _ => Nat → Nat → Nat → Bool) (fun _ c a => Nat.ble c (popT a))
    (fun _ ih mc c a => cond (ih (Nat.shiftRight mc 4) c a) (ih (Nat.shiftRight mc 4) (Nat.succ c) (Nat.lor a (Nat.land mc 15))) false) d

theorem lor_lt {a b : Nat} (ha : a < 16) (hb : b < 16) : a ||| b < 16 := Nat.or_lt_two_pow (n := 4) ha hb
theorem fin_lt : ∀ (d mc p c a : Nat), a < 16 → (fin d mc p c a).2 < 16
  | 0, _, _, _, _, h => h
  | d + 1, mc, p, c, a, h => by
    unfold fin
    apply fin_lt
    split
    · exact lor_lt h (by omega)
    · exact h
theorem hallT_all : ∀ (d mc c a : Nat), a < 16 → (hallT d mc c a = true ↔ ∀ p, p < 2 ^ d → Nat.ble (fin d mc p c a).1 (popc (fin d mc p c a).2) = true) := by
  intro d
  induction d with
  | zero =>
    intro mc c a ha
    constructor
    · intro h p hp
      have h' : Nat.ble c (popT a) = true := h
      rw [popT_eq a ha] at h'
      exact h'
    · intro h
      show Nat.ble c (popT a) = true
      rw [popT_eq a ha]
      exact h 0 (by simp)
  | succ d ih =>
    intro mc c a ha
    have e1 : Nat.shiftRight mc 4 = mc / 16 := Nat.shiftRight_eq_div_pow mc 4
    have e2 : Nat.land mc 15 = mc % 16 := Nat.and_two_pow_sub_one_eq_mod mc 4
    have e3 : hallT (d + 1) mc c a = cond (hallT d (Nat.shiftRight mc 4) c a) (hallT d (Nat.shiftRight mc 4) (Nat.succ c) (Nat.lor a (Nat.land mc 15))) false := rfl
    rw [e3, e1, e2]
    have i1 := ih (mc / 16) c a ha
    have i2 := ih (mc / 16) (c + 1) (a ||| (mc % 16)) (lor_lt ha (by omega))
    have C : ∀ x y : Bool, (cond x y false = true) ↔ (x = true ∧ y = true) := by decide
    rw [C]
    have i2' : hallT d (mc / 16) (Nat.succ c) (Nat.lor a (mc % 16)) = true ↔ _ := i2
    rw [i1, i2']
    constructor
    · rintro ⟨h1, h2⟩ p hp
      rw [Nat.pow_succ] at hp
      unfold fin
      by_cases hb : p % 2 = 1
      · rw [if_pos hb, hb]
        exact h2 (p / 2) (by omega)
      · have hb0 : p % 2 = 0 := by omega
        rw [if_neg hb, hb0]
        exact h1 (p / 2) (by omega)
    · intro h
      constructor
      · intro q hq
        have := h (2 * q) (by rw [Nat.pow_succ]; omega)
        unfold fin at this
        rw [show 2 * q % 2 = 0 by omega, show 2 * q / 2 = q by omega, if_neg (by decide)] at this
        exact this
      · intro q hq
        have := h (2 * q + 1) (by rw [Nat.pow_succ]; omega)
        unfold fin at this
        rw [show (2 * q + 1) % 2 = 1 by omega, show (2 * q + 1) / 2 = q by omega, if_pos rfl] at this
        exact this
theorem hall_tree (n mc : Nat) : hallTo n mc (2 ^ n) = hallT n mc 0 0 := by
  rw [Bool.eq_iff_iff, hallTo_true, hallT_all n mc 0 0 (by decide)]
  exact Iff.rfl

noncomputable def okH (n mc : Nat) : Bool := cond (extK mc n 0 0) (hallT n mc 0 0) (cond (hallT n mc 0 0) false true)
theorem okH_eq {n mc : Nat} (h : okH n mc = true) : hallT n mc 0 0 = extK mc n 0 0 := by
  unfold okH at h
  cases he : extK mc n 0 0 <;> rw [he] at h
  · cases hh : hallT n mc 0 0 with
    | false => rfl
    | true => rw [hh] at h; cases h
  · exact h
noncomputable def rangeH (n : Nat) : Nat → Nat → Bool := fun b =>
  Nat.rec (motive := fun _ => Nat → Bool) (fun m => okH n m) (fun b ih m => cond (ih m) (ih (Nat.add m (Nat.pow 2 b))) false) b
theorem rangeH_all {n : Nat} : ∀ {b m : Nat}, rangeH n b m = true → ∀ c, m ≤ c → c < m + 2 ^ b → okH n c = true := by
  intro b
  induction b with
  | zero =>
    intro m h c h0 h1
    obtain rfl : c = m := by simp at h1; omega
    exact h
  | succ b ih =>
    intro m h c h0 h1
    have h' : cond (rangeH n b m) (rangeH n b (m + 2 ^ b)) false = true := h
    cases ha : rangeH n b m with
    | false => rw [ha] at h'; cases h'
    | true =>
      rw [ha, cond_true] at h'
      rw [Nat.pow_succ] at h1
      by_cases hc : c < m + 2 ^ b
      · exact ih ha c h0 hc
      · exact ih h' c (by omega) (by omega)
end Go.Proofs.Ytjmcdlehjgngfaa
