/- The same by raw numbers and continuations: for a check of all masks by the kernel. Plain; no world. -/
import Derived.Test.YtjmcdlehjgngfaaSlotsC
namespace Go.Proofs.Ytjmcdlehjgngfaa
set_option linter.unusedVariables false

noncomputable def takesK (mc f : Nat) : Nat → Nat → Nat → Nat → Nat → (Nat → Nat → Bool) → (Nat → Nat → Bool) → Bool := fun g =>
  Nat.rec (motive := fun _ => Nat → Nat → Nat → Nat → (Nat → Nat → Bool) → (Nat → Nat → Bool) → Bool) (fun _ _ _ _ _ _ => false)
    (fun _ ih i k oc sc yes no =>
      cond (Nat.ble 4 k) (no oc sc)
        (cond (Nat.beq (Nat.land (Nat.shiftRight mc (Nat.add (Nat.mul 4 i) k)) 1) 0) (ih i (Nat.succ k) oc sc yes no)
          (cond (Nat.beq (Nat.land (Nat.shiftRight sc k) 1) 1) (ih i (Nat.succ k) oc sc yes no)
            (Nat.rec (motive := fun _ => Bool) (yes (Nat.add oc (Nat.mul (Nat.succ i) (Nat.pow 8 k))) (Nat.add sc (Nat.pow 2 k)))
              (fun j _ => cond (Nat.ble (Nat.succ j) f) (ih i (Nat.succ k) oc (Nat.add sc (Nat.pow 2 k)) yes no)
                (ih j 0 oc (Nat.add sc (Nat.pow 2 k)) (fun oc2 sc2 => yes (Nat.add (Nat.sub oc2 (Nat.mul (Nat.land (Nat.shiftRight oc2 (Nat.mul 3 k)) 7) (Nat.pow 8 k))) (Nat.mul (Nat.succ i) (Nat.pow 8 k))) sc2)
                  (fun oc2 sc2 => ih i (Nat.succ k) oc2 sc2 yes no)))
              (Nat.land (Nat.shiftRight oc (Nat.mul 3 k)) 7))))) g
noncomputable def allK (mc f n : Nat) : Nat → Nat → Nat → Bool → Bool → Bool := fun g =>
  Nat.rec (motive := fun _ => Nat → Nat → Bool → Bool → Bool) (fun _ _ _ _ => false)
    (fun _ ih i oc yes no => cond (Nat.ble n i) yes (takesK mc f 40 i 0 oc 0 (fun oc2 _ => ih (Nat.succ i) oc2 yes no) (fun _ _ => no))) g

/-- Does an assignment of d masks, from i on, go on, where the slots of u are used? -/
noncomputable def extK (mc : Nat) : Nat → Nat → Nat → Bool := fun d =>
  Nat.rec (motive := fun _ => Nat → Nat → Bool) (fun _ _ => true)
    (fun _ ih i u =>
      cond (cond (Nat.beq (Nat.land (Nat.shiftRight mc (Nat.mul 4 i)) 1) 1) (cond (Nat.beq (Nat.land u 1) 1) false (ih (Nat.succ i) (Nat.add u 1))) false) true
       (cond (cond (Nat.beq (Nat.land (Nat.shiftRight mc (Nat.add (Nat.mul 4 i) 1)) 1) 1) (cond (Nat.beq (Nat.land (Nat.shiftRight u 1) 1) 1) false (ih (Nat.succ i) (Nat.add u 2))) false) true
        (cond (cond (Nat.beq (Nat.land (Nat.shiftRight mc (Nat.add (Nat.mul 4 i) 2)) 1) 1) (cond (Nat.beq (Nat.land (Nat.shiftRight u 2) 1) 1) false (ih (Nat.succ i) (Nat.add u 4))) false) true
         (cond (Nat.beq (Nat.land (Nat.shiftRight mc (Nat.add (Nat.mul 4 i) 3)) 1) 1) (cond (Nat.beq (Nat.land (Nat.shiftRight u 3) 1) 1) false (ih (Nat.succ i) (Nat.add u 8))) false)))) d

theorem has_raw (mc i k : Nat) : has mc i k = Nat.beq (Nat.land (Nat.shiftRight mc (Nat.add (Nat.mul 4 i) k)) 1) 1 := by
  unfold has
  have h : Nat.land (Nat.shiftRight mc (Nat.add (Nat.mul 4 i) k)) 1 = mc / 2 ^ (4 * i + k) % 2 := by
    show (mc >>> (4 * i + k)) &&& 1 = _
    rw [Nat.and_one_is_mod, Nat.shiftRight_eq_div_pow]
  rw [h]
theorem has_raw0 (mc i k : Nat) : Nat.beq (Nat.land (Nat.shiftRight mc (Nat.add (Nat.mul 4 i) k)) 1) 0 = !has mc i k := by
  rw [has_raw]
  have h : Nat.land (Nat.shiftRight mc (Nat.add (Nat.mul 4 i) k)) 1 < 2 := by
    show (mc >>> (4 * i + k)) &&& 1 < 2
    rw [Nat.and_one_is_mod]
    omega
  generalize Nat.land (Nat.shiftRight mc (Nat.add (Nat.mul 4 i) k)) 1 = x at h
  rcases (show x = 0 ∨ x = 1 by omega) with rfl | rfl <;> rfl
theorem sawn_raw (sc k : Nat) : sawn sc k = Nat.beq (Nat.land (Nat.shiftRight sc k) 1) 1 := by
  unfold sawn
  have h : Nat.land (Nat.shiftRight sc k) 1 = sc / 2 ^ k % 2 := by
    show (sc >>> k) &&& 1 = _
    rw [Nat.and_one_is_mod, Nat.shiftRight_eq_div_pow]
  rw [h]
theorem dig_raw (oc k : Nat) : Nat.land (Nat.shiftRight oc (Nat.mul 3 k)) 7 = dig oc k := by
  show (oc >>> (3 * k)) &&& 7 = _
  unfold dig
  have h7 : (7 : Nat) = 2 ^ 3 - 1 := rfl
  rw [h7, Nat.and_two_pow_sub_one_eq_mod, Nat.shiftRight_eq_div_pow, Nat.pow_mul]

/-- What a continuation makes of an answer. -/
def conts (yes no : Nat → Nat → Bool) : Option (Bool × Nat × Nat) → Bool
  | none => false
  | some (true, o, s) => yes o s
  | some (false, o, s) => no o s

theorem takesK_eq (mc f : Nat) : ∀ (g i k oc sc : Nat) (yes no : Nat → Nat → Bool), takesK mc f g i k oc sc yes no = conts yes no (takesC mc f g i k oc sc) := by
  intro g
  induction g with
  | zero => intro i k oc sc yes no; rfl
  | succ g ih =>
    intro i k oc sc yes no
    show cond (Nat.ble 4 k) (no oc sc)
        (cond (Nat.beq (Nat.land (Nat.shiftRight mc (Nat.add (Nat.mul 4 i) k)) 1) 0) (takesK mc f g i (Nat.succ k) oc sc yes no)
          (cond (Nat.beq (Nat.land (Nat.shiftRight sc k) 1) 1) (takesK mc f g i (Nat.succ k) oc sc yes no)
            (Nat.rec (motive := fun _ => Bool) (yes (Nat.add oc (Nat.mul (Nat.succ i) (Nat.pow 8 k))) (Nat.add sc (Nat.pow 2 k)))
              (fun j _ => cond (Nat.ble (Nat.succ j) f) (takesK mc f g i (Nat.succ k) oc (Nat.add sc (Nat.pow 2 k)) yes no)
                (takesK mc f g j 0 oc (Nat.add sc (Nat.pow 2 k)) (fun oc2 sc2 => yes (Nat.add (Nat.sub oc2 (Nat.mul (Nat.land (Nat.shiftRight oc2 (Nat.mul 3 k)) 7) (Nat.pow 8 k))) (Nat.mul (Nat.succ i) (Nat.pow 8 k))) sc2)
                  (fun oc2 sc2 => takesK mc f g i (Nat.succ k) oc2 sc2 yes no)))
              (Nat.land (Nat.shiftRight oc (Nat.mul 3 k)) 7)))) = _
    rw [has_raw0, ← sawn_raw, dig_raw]
    simp only [takesC]
    have hb : Nat.ble 4 k = !Nat.blt k 4 := by
      cases h : Nat.blt k 4 with
      | true => have := Nat.blt_eq.mp h; cases h2 : Nat.ble 4 k with
        | true => have := Nat.le_of_ble_eq_true h2; omega
        | false => rfl
      | false => cases h2 : Nat.ble 4 k with
        | true => rfl
        | false =>
          have h3 : ¬ k < 4 := fun hh => by rw [Nat.blt_eq.symm.mp hh] at h; cases h
          have h4 : ¬ 4 ≤ k := fun hh => by rw [Nat.ble_eq_true_of_le hh] at h2; cases h2
          omega
    rw [hb]
    cases Nat.blt k 4 with
    | false => rfl
    | true =>
      simp only [Bool.not_true, cond_false, cond_true]
      cases has mc i k with
      | false => simp only [Bool.not_false, cond_true, Bool.true_or]; exact ih _ _ _ _ _ _
      | true =>
        simp only [Bool.not_true, cond_false, Bool.false_or]
        cases sawn sc k with
        | true => simp only [cond_true]; exact ih _ _ _ _ _ _
        | false =>
          simp only [cond_false]
          cases hd : dig oc k with
          | zero => rfl
          | succ j =>
            simp only [Nat.beq, cond_false]
            cases hf : Nat.ble (j + 1) f with
            | true => simp only [cond_true]; exact ih _ _ _ _ _ _
            | false =>
              simp only [cond_false, Nat.add_sub_cancel]
              rw [ih]
              show conts _ _ (takesC mc f g j 0 oc (sc + 2 ^ k)) = _
              cases takesC mc f g j 0 oc (sc + 2 ^ k) with
              | none => rfl
              | some x =>
                obtain ⟨rb, o2, s2⟩ := x
                cases rb with
                | false => exact ih _ _ _ _ _ _
                | true =>
                  show yes _ s2 = yes _ s2
                  rw [dig_raw]
                  rfl
end Go.Proofs.Ytjmcdlehjgngfaa
