/- The marriage condition beside Fits; what Slots tells. Plain; no world. -/
import Derived.Test.YtjmcdlehjgngfaaHallKA
import Derived.Test.YtjmcdlehjgngfaaHallKB
namespace Go.Proofs.Ytjmcdlehjgngfaa
open Go.RowKit Go.Proofs.YtjmcdlehjgngfaaW.PrintWords Go.Proofs.YtjmcdlehjgngfaaW.PrintLast Go.Proofs.YtjmcdlehjgngfaaW.PrintMore
set_option linter.unusedVariables false
set_option linter.unusedSimpArgs false

theorem hall_ok (n mc : Nat) (hn : n ≤ 4) (hm : mc < 16 ^ n) : okH n mc = true := by
  rcases (show n = 0 ∨ n = 1 ∨ n = 2 ∨ n = 3 ∨ n = 4 by omega) with rfl | rfl | rfl | rfl | rfl
  · exact rangeH_all hall0 mc (Nat.zero_le _) (by simpa using hm)
  · exact rangeH_all hall1 mc (Nat.zero_le _) (by simpa using hm)
  · exact rangeH_all hall2 mc (Nat.zero_le _) (by simpa using hm)
  · exact rangeH_all hall3 mc (Nat.zero_le _) (by simpa using hm)
  · have hm' : mc < 65536 := hm
    by_cases h1 : mc < 16384
    · exact rangeH_all hall4_0 mc (Nat.zero_le _) (by simpa using h1)
    · by_cases h2 : mc < 32768
      · exact rangeH_all hall4_1 mc (by omega) (by simpa using h2)
      · by_cases h3 : mc < 49152
        · exact rangeH_all hall4_2 mc (by omega) (by simpa using h3)
        · exact rangeH_all hall4_3 mc (by omega) (by simpa using hm')

theorem fin_count : ∀ (d mc c a : Nat), (fin d mc 31 c a).1 = c + (if d < 5 then d else 5) := by
  intro d mc c a
  have Z : ∀ (d mc c a : Nat), (fin d mc 0 c a).1 = c := by
    intro d
    induction d with
    | zero => intro mc c a; rfl
    | succ d ih => intro mc c a; show (fin d (mc / 16) (0 / 2) (c + 0 % 2) _).1 = c; rw [Nat.zero_div, Nat.zero_mod, ih]; rfl
  rcases (show d = 0 ∨ d = 1 ∨ d = 2 ∨ d = 3 ∨ d = 4 ∨ 5 ≤ d by omega) with rfl | rfl | rfl | rfl | rfl | h
  · rfl
  · rfl
  · rfl
  · rfl
  · rfl
  · obtain ⟨e, rfl⟩ : ∃ e, d = e + 5 := ⟨d - 5, by omega⟩
    rw [if_neg (by omega)]
    show (fin e _ (31 / 2 / 2 / 2 / 2 / 2) (c + 31 % 2 + 31 / 2 % 2 + 31 / 2 / 2 % 2 + 31 / 2 / 2 / 2 % 2 + 31 / 2 / 2 / 2 / 2 % 2) _).1 = _
    exact Z e _ _ _

/-- THE STAGE'S THEOREM: there is an assignment just if the condition holds. -/
theorem hall_ans (ms : List Int) : hallTo ms.length (codeOf ms) (2 ^ ms.length) = (ansC ms).1 := by
  rw [ans_isSome]
  by_cases h : ms.length ≤ 4
  · rw [hall_tree, okH_eq (hall_ok _ _ h (codeOf_lt ms))]
    have hx := ref_ext (codeOf ms) ms.length ms.length [] .nil (Nat.le_refl _)
    rw [Nat.sub_self] at hx
    exact hx
  · have h2 : (refC (codeOf ms) ms.length ms.length []).isSome = false := by
      rw [← ans_isSome, ansC_many h]
    rw [h2]
    cases hh : hallTo ms.length (codeOf ms) (2 ^ ms.length) with
    | false => rfl
    | true =>
      have hp : 2 ^ 5 ≤ 2 ^ ms.length := Nat.pow_le_pow_right (by decide) (by omega)
      have h3 := hallTo_true.mp hh 31 (by omega)
      unfold hv at h3
      rw [fin_count, if_neg (by omega)] at h3
      have h4 := popc_le _ (fin_lt ms.length (codeOf ms) 31 0 0 (by decide))
      have h5 := Nat.le_of_ble_eq_true h3
      omega

theorem rd_tail' (m : Int) (r : List Int) (i : Nat) : rd (m :: r) ((i + 1 : Nat) : Int) = rd r (i : Int) := by
  unfold rd
  have : (((i + 1 : Nat) : Int)).toNat = i + 1 := by omega
  rw [this, Int.toNat_natCast]
  rfl
/-- A mask, by the code. -/
theorem code_at : ∀ (ms : List Int) (i : Nat), i < ms.length → codeOf ms / 16 ^ i % 16 = (rd ms i % 16).toNat
  | [], i, hi => by simp at hi
  | m :: r, 0, hi => by
    show ((m % 16).toNat + 16 * codeOf r) / 16 ^ 0 % 16 = (m % 16).toNat
    have h : (m % 16).toNat < 16 := by omega
    simp only [Nat.pow_zero, Nat.div_one]
    omega
  | m :: r, i + 1, hi => by
    have ih := code_at r i (by simpa using hi)
    rw [rd_tail', ← ih]
    show ((m % 16).toNat + 16 * codeOf r) / 16 ^ (i + 1) % 16 = _
    have h : (m % 16).toNat < 16 := by omega
    have e2 : 16 ^ (i + 1) = 16 * 16 ^ i := by rw [Nat.pow_succ, Nat.mul_comm]
    rw [e2, ← Nat.div_div_eq_div_mul]
    have e3 : ((m % 16).toNat + 16 * codeOf r) / 16 = codeOf r := by omega
    rw [e3]

/-- What Slots tells: each mask has its slot, no two the same. -/
theorem ref_has (mc n : Nat) : ∀ (d : Nat) (fs r : List Nat), fs.length + d = n → refC mc n d fs = some r → ∃ t, r = fs ++ t ∧ ∀ j, ∀ h : j < t.length, has mc (fs.length + j) t[j] = true := by
  intro d
  induction d with
  | zero =>
    intro fs r hl h
    cases h
    exact ⟨[], by simp, fun j h => by simp at h⟩
  | succ d ih =>
    intro fs r hl h
    have S : ∀ k els, tryC mc (n - (d + 1)) fs (refC mc n d) k els = some r → (els = some r → ∃ t, r = fs ++ t ∧ ∀ j, ∀ h : j < t.length, has mc (fs.length + j) t[j] = true) → ∃ t, r = fs ++ t ∧ ∀ j, ∀ h : j < t.length, has mc (fs.length + j) t[j] = true := by
      intro k els ht hels
      unfold tryC at ht
      cases hc : has mc (n - (d + 1)) k && !memC fs k with
      | false => rw [hc, cond_false] at ht; exact hels ht
      | true =>
        rw [hc, cond_true] at ht
        have hh : has mc fs.length k = true := by
          have : n - (d + 1) = fs.length := by omega
          rw [this, Bool.and_eq_true] at hc
          exact hc.1
        cases hr : refC mc n d (fs ++ [k]) with
        | none => rw [hr] at ht; exact hels ht
        | some q =>
          rw [hr] at ht
          cases ht
          obtain ⟨t, e, ht⟩ := ih (fs ++ [k]) r (by simp; omega) hr
          refine ⟨k :: t, by rw [e]; simp, fun j hj => ?_⟩
          cases j with
          | zero => exact hh
          | succ j =>
            have := ht j (by simpa using hj)
            rw [List.length_append, List.length_singleton] at this
            rw [show fs.length + (j + 1) = fs.length + 1 + j by omega]
            exact this
    exact S 0 _ h fun h1 => S 1 _ h1 fun h2 => S 2 _ h2 fun h3 => S 3 _ h3 fun h4 => by cases h4

theorem Good.take {fs : List Nat} (h : Good fs) : ∀ i, ∀ hi : i < fs.length, fs[i] < 4 ∧ sawn (umC (fs.take i) 0) fs[i] = false ∧ umC (fs.take i) 0 < 16 := by
  induction h with
  | nil => intro i hi; simp at hi
  | @snoc fs s hg hs hn ih =>
    intro i hi
    rw [List.length_append, List.length_singleton] at hi
    by_cases e : i = fs.length
    · subst e
      rw [List.take_left', List.getElem_concat_length] <;> first | exact ⟨hs, hn, hg.count.1⟩ | rfl
    · have hi' : i < fs.length := by omega
      rw [List.take_append_of_le_length (by omega), List.getElem_append_left hi']
      exact ih i hi'
theorem told_good (ms : List Int) (h : (ansC ms).1 = true) : (ansC ms).2.length = ms.length ∧ ∀ i, ∀ hi : i < (ansC ms).2.length,
    (ansC ms).2[i] < 4 ∧ sawn (umC ((ansC ms).2.take i) 0) (ansC ms).2[i] = false ∧ umC ((ansC ms).2.take i) 0 < 16 ∧ has (codeOf ms) i (ansC ms).2[i] = true := by
  rw [ansC_ref] at h ⊢
  cases hr : refC (codeOf ms) ms.length ms.length [] with
  | none => rw [hr] at h; cases h
  | some r =>
    obtain ⟨hg, hl⟩ := ref_good _ _ _ _ _ .nil (by simp) hr
    obtain ⟨t, e, ht⟩ := ref_has _ _ _ _ _ (by simp) hr
    rw [List.nil_append] at e
    subst e
    refine ⟨hl, fun i hi => ?_⟩
    obtain ⟨a, b, c⟩ := hg.take i hi
    have d := ht i hi
    simp only [List.length_nil, Nat.zero_add] at d
    exact ⟨a, b, c, d⟩
theorem told_none (ms : List Int) (h : (ansC ms).1 = false) : (ansC ms).2 = [] := by
  rw [ansC_ref] at h ⊢
  cases hr : refC (codeOf ms) ms.length ms.length [] with
  | none => rfl
  | some r => rw [hr] at h; cases h
theorem umC_take (fs : List Nat) (i : Nat) (hi : i < fs.length) : umC (fs.take (i + 1)) 0 = umC (fs.take i) 0 + 2 ^ fs[i] := by
  rw [List.take_succ_eq_append_getElem hi, umC_snoc]
end Go.Proofs.Ytjmcdlehjgngfaa
