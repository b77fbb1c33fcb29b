/- The reference's Slots: what it computes is refC. -/
import Derived.Test.YtjmcdlehjgngfaaAns
import Derived.KernelRfl
namespace Go.Proofs.Ytjmcdlehjgngfaa
open Go.RowKit Go.Proofs.YtjmcdlehjgngfaaW.PrintWords Go.Proofs.YtjmcdlehjgngfaaW.PrintLast Go.Proofs.YtjmcdlehjgngfaaW.PrintMore
set_option linter.unusedVariables false
set_option linter.unusedSimpArgs false

/-- How many of four bits are set. -/
def popc (u : Nat) : Nat := u % 2 + u / 2 % 2 + u / 4 % 2 + u / 8 % 2
theorem popc_add : ∀ u, u < 16 → ∀ s, s < 4 → sawn u s = false → popc (u + 2 ^ s) = popc u + 1 ∧ u + 2 ^ s < 16 := by decide +kernel
theorem popc_le : ∀ u, u < 16 → popc u ≤ 4 := by decide
theorem Good.count {fs : List Nat} (h : Good fs) : umC fs 0 < 16 ∧ popc (umC fs 0) = fs.length := by
  induction h with
  | nil => exact ⟨by decide, rfl⟩
  | @snoc fs s hg hs hn ih =>
    obtain ⟨h1, h2⟩ := ih
    obtain ⟨p1, p2⟩ := popc_add _ h1 s hs hn
    rw [umC_snoc]
    exact ⟨p2, by rw [p1, h2]; simp⟩
theorem Good.few {fs : List Nat} (h : Good fs) : fs.length ≤ 4 := by
  obtain ⟨h1, h2⟩ := h.count
  rw [← h2]
  exact popc_le _ h1

/-- What the search finds. -/
theorem ref_good (mc n : Nat) : ∀ (d : Nat) (fs r : List Nat), Good fs → fs.length + d = n → refC mc n d fs = some r → Good r ∧ r.length = n := by
  intro d
  induction d with
  | zero =>
    intro fs r hg hl h
    cases h
    exact ⟨hg, hl⟩
  | succ d ih =>
    intro fs r hg hl h
    have S : ∀ k, k < 4 → ∀ els, tryC mc (n - (d + 1)) fs (refC mc n d) k els = some r → (els = some r → Good r ∧ r.length = n) → Good r ∧ r.length = n := by
      intro k hk els ht hels
      unfold tryC at ht
      cases hc : has mc (n - (d + 1)) k && !memC fs k with
      | false => rw [hc, cond_false] at ht; exact hels ht
      | true =>
        rw [hc, cond_true] at ht
        have hm : memC fs k = false := by
          cases hm : memC fs k with
          | false => rfl
          | true => rw [hm] at hc; simp at hc
        have hg2 := hg.add hk hm
        cases hr : refC mc n d (fs ++ [k]) with
        | none => rw [hr] at ht; exact hels ht
        | some q =>
          rw [hr] at ht
          cases ht
          exact ih (fs ++ [k]) r hg2 (by simp; omega) hr
    exact S 0 (by omega) _ h fun h1 => S 1 (by omega) _ h1 fun h2 => S 2 (by omega) _ h2 fun h3 => S 3 (by omega) _ h3 fun h4 => by cases h4

/-- What Slots answers, in one form. -/
theorem ansC_ref (ms : List Int) : ansC ms = match refC (codeOf ms) ms.length ms.length [] with | some r => (true, r) | none => (false, []) := by
  by_cases h : ms.length ≤ 4
  · exact ansC_few h
  · rw [ansC_many h]
    cases hr : refC (codeOf ms) ms.length ms.length [] with
    | none => rfl
    | some r =>
      have hg := ref_good _ _ _ _ _ .nil (by simp) hr
      have := hg.1.few
      omega

/-! has and used of the reference -/
theorem rhas6 : ∀ m, m < 256 → ∀ s, s < 4 → PMatchSlots.coxlessref09_has.f 6 (m : Nat) (s : Nat) = some (Nat.beq (m / 2 ^ s % 2) 1) := by decide +kernel
theorem leO_add {α : Type} (f : Nat → Option α) (h : ∀ k, LeO (f k) (f (k + 1))) (k d : Nat) : LeO (f k) (f (k + d)) := by
  induction d with
  | zero => exact LeO.refl _
  | succ d ih => exact ih.trans (h _)
theorem rhas_ok (k : Nat) (hk : 6 ≤ k) (m s : Nat) (hm : m < 256) (hs : s < 4) : PMatchSlots.coxlessref09_has.f k (m : Nat) (s : Nat) = some (Nat.beq (m / 2 ^ s % 2) 1) := by
  obtain ⟨d, rfl⟩ : ∃ d, k = 6 + d := ⟨k - 6, by omega⟩
  exact leO_add (fun k => PMatchSlots.coxlessref09_has.f k (m : Nat) (s : Nat)) (PMatchSlots.coxlessref09_has.mono _ _) 6 d _ (rhas6 m hm s hs)

theorem used_l (fs : List Nat) (k : Nat) (d : Nat) : ∀ (g j : Nat), j + d = fs.length → d < g → fs.length ≤ 4 → PMatchSlots.coxlessref09_used.l0 g (ints fs) k j = some (memC (fs.drop j) k) := by
  induction d with
  | zero =>
    intro g j hj hg hl
    obtain ⟨g, rfl⟩ : ∃ m, g = m + 1 := ⟨g - 1, by omega⟩
    unfold PMatchSlots.coxlessref09_used.l0
    rw [ints_length, if_neg (by omega), show j = fs.length by omega, List.drop_length]
    rfl
  | succ d ih =>
    intro g j hj hg hl
    obtain ⟨g, rfl⟩ : ∃ m, g = m + 1 := ⟨g - 1, by omega⟩
    unfold PMatchSlots.coxlessref09_used.l0
    have hjl : j < fs.length := by omega
    have e1 : (j : Int) + 1 = ((j + 1 : Nat) : Int) := by omega
    rw [ints_length, if_pos (by omega), if_pos (by omega), rd_ints fs j hjl, e1, List.drop_eq_getElem_cons hjl]
    have hw : wrap64 ((j + 1 : Nat) : Int) = ((j + 1 : Nat) : Int) := by unfold wrap64; omega
    rw [hw, ih g (j + 1) (by omega) (by omega) hl]
    show _ = some (Nat.beq fs[j] k || memC (fs.drop (j + 1)) k)
    by_cases he : fs[j] = k
    · rw [if_pos (by rw [he]), he, Nat.beq_refl]; rfl
    · have hb : Nat.beq fs[j] k = false := by
        cases hb : Nat.beq fs[j] k with
        | false => rfl
        | true => exact absurd (Nat.eq_of_beq_eq_true hb) he
      rw [if_neg (by omega), hb, Bool.false_or]
theorem used_ok (g : Nat) (hg : 6 ≤ g) (fs : List Nat) (k : Nat) (hl : fs.length ≤ 4) : PMatchSlots.coxlessref09_used.f g (ints fs) k = some (memC fs k) := by
  have h := used_l fs k fs.length g 0 (by omega) (by omega) hl
  unfold PMatchSlots.coxlessref09_used.f
  exact h

def told : Option (List Nat) → Option (List Int × Bool)
  | some r => some (ints r, true)
  | none => some ([], false)

theorem ints_snoc (fs : List Nat) (k : Nat) : ints fs ++ [(k : Int)] = ints (fs ++ [k]) := by simp [ints]

/-- One slot's trial. -/
theorem ref_round (ms : List Int) (hr : ∀ i, i < ms.length → 0 ≤ rd ms i ∧ rd ms i < 256) (fs : List Nat) (hg : Good fs) (hl : fs.length < ms.length) (d : Nat) (hd : fs.length + (d + 1) = ms.length)
    (k s : Nat) (hk : 40 ≤ k) (hs : s < 4) (next : List Nat → Option (List Nat)) (els : Option (List Nat))
    (hn : ∀ fs', Good fs' → fs'.length = fs.length + 1 → PMatchSlots.coxlessref09_Slots.f k ms (ints fs') = told (next fs'))
    (he1 : PMatchSlots.coxlessref09_Slots.l0 (k + 0) ms (ints fs) ((s + 1 : Nat) : Int) = told els) :
    PMatchSlots.coxlessref09_Slots.l0 (k + 2) ms (ints fs) (s : Int) = told (tryC (codeOf ms) fs.length fs next s els) := by
  have hl4 := hg.few
  have e1 : (s : Int) + 1 = ((s + 1 : Nat) : Int) := by omega
  have hw : wrap64 ((s + 1 : Nat) : Int) = ((s + 1 : Nat) : Int) := by unfold wrap64; omega
  obtain ⟨h0, h1⟩ := hr fs.length hl
  have hc := has_code ms fs.length s hl hs
  unfold PMatchSlots.coxlessref09_Slots.l0
  rw [ints_length, if_pos (by omega), if_pos (by omega), if_pos (by omega)]
  generalize rd ms (fs.length : Int) = m at h0 h1 hc
  obtain ⟨m, rfl⟩ := Int.eq_ofNat_of_zero_le h0
  have hm : m < 256 := by omega
  have em : (((m : Int) % 16).toNat) = m % 16 := by omega
  have hb : m % 16 / 2 ^ s % 2 = m / 2 ^ s % 2 := by
    rcases (show s = 0 ∨ s = 1 ∨ s = 2 ∨ s = 3 by omega) with rfl | rfl | rfl | rfl <;> simp only [Nat.reducePow] <;> omega
  rw [em, hb] at hc
  rw [rhas_ok (k + 1) (by omega) m s hm hs, Option.bind_some, ← hc]
  unfold tryC
  cases hh : has (codeOf ms) fs.length s with
  | false =>
    rw [if_neg (by decide), Bool.false_and, cond_false]
    unfold PMatchSlots.coxlessref09_Slots.j1
    rw [if_pos rfl, e1, hw]
    exact he1
  | true =>
    rw [if_pos rfl, used_ok (k + 1) (by omega) fs s hl4, Option.bind_some]
    cases hme : memC fs s with
    | true =>
      unfold PMatchSlots.coxlessref09_Slots.j1
      rw [if_pos rfl, e1, hw]
      exact he1
    | false =>
      unfold PMatchSlots.coxlessref09_Slots.j1
      rw [if_neg (by decide), Option.bind_some, if_pos (by simp [ints_length]; omega), Option.bind_some, if_pos (by simp [ints_length]; omega)]
      rw [List.nil_append, ints_snoc, hn (fs ++ [s]) (hg.add hs hme) (by simp)]
      simp only [Bool.not_false, Bool.and_self, cond_true]
      cases next (fs ++ [s]) with
      | some r => show (Option.bind (some (ints r, true)) _) = _; rw [Option.bind_some, if_pos rfl]; rfl
      | none => show (Option.bind (some ([], false)) _) = _; rw [Option.bind_some, if_neg (by decide), e1, hw]; exact he1

theorem ref_f (ms : List Int) (hr : ∀ i, i < ms.length → 0 ≤ rd ms i ∧ rd ms i < 256) : ∀ (d : Nat) (fs : List Nat) (k : Nat), Good fs → fs.length + d = ms.length → 60 + 20 * d ≤ k →
    PMatchSlots.coxlessref09_Slots.f k ms (ints fs) = told (refC (codeOf ms) ms.length d fs) := by
  intro d
  induction d with
  | zero =>
    intro fs k hg hl hk
    obtain ⟨k, rfl⟩ : ∃ m, k = m + 1 := ⟨k - 1, by omega⟩
    unfold PMatchSlots.coxlessref09_Slots.f
    rw [ints_length, if_pos (by omega)]
    rfl
  | succ d ih =>
    intro fs k hg hl hk
    obtain ⟨k, rfl⟩ : ∃ m, k = m + 10 := ⟨k - 10, by omega⟩
    unfold PMatchSlots.coxlessref09_Slots.f
    rw [ints_length, if_neg (by omega)]
    have hi : ms.length - (d + 1) = fs.length := by omega
    have last : PMatchSlots.coxlessref09_Slots.l0 (k + 1) ms (ints fs) ((3 + 1 : Nat) : Int) = told none := by
      unfold PMatchSlots.coxlessref09_Slots.l0
      rw [if_neg (by omega)]
      rfl
    have N : ∀ k', 60 + 20 * d ≤ k' → ∀ fs', Good fs' → fs'.length = fs.length + 1 → PMatchSlots.coxlessref09_Slots.f k' ms (ints fs') = told (refC (codeOf ms) ms.length d fs') :=
      fun k' hk' fs' hg' hl' => ih fs' k' hg' (by omega) hk'
    have r3 := ref_round ms hr fs hg (by omega) d hl (k + 1) 3 (by omega) (by omega) _ _ (N (k + 1) (by omega)) last
    have r2 := ref_round ms hr fs hg (by omega) d hl (k + 3) 2 (by omega) (by omega) _ _ (N (k + 3) (by omega)) r3
    have r1 := ref_round ms hr fs hg (by omega) d hl (k + 5) 1 (by omega) (by omega) _ _ (N (k + 5) (by omega)) r2
    have r0 := ref_round ms hr fs hg (by omega) d hl (k + 7) 0 (by omega) (by omega) _ _ (N (k + 7) (by omega)) r1
    have e : refC (codeOf ms) ms.length (d + 1) fs = tryC (codeOf ms) fs.length fs (refC (codeOf ms) ms.length d) 0 (tryC (codeOf ms) fs.length fs (refC (codeOf ms) ms.length d) 1 (tryC (codeOf ms) fs.length fs (refC (codeOf ms) ms.length d) 2 (tryC (codeOf ms) fs.length fs (refC (codeOf ms) ms.length d) 3 none))) := by
      simp only [refC]
      rw [hi]
    rw [e]
    exact r0

theorem ref_told (ms : List Int) (hr : ∀ i, i < ms.length → 0 ≤ rd ms i ∧ rd ms i < 256) (k : Nat) (hk : 60 + 20 * ms.length ≤ k) :
    PMatchSlots.coxlessref09_Slots.f k ms [] = some (ints (ansC ms).2, (ansC ms).1) := by
  have h := ref_f ms hr ms.length [] k .nil (by simp) hk
  rw [show ints [] = [] from rfl] at h
  rw [h, ansC_ref]
  cases refC (codeOf ms) ms.length ms.length [] <;> rfl

end Go.Proofs.Ytjmcdlehjgngfaa
