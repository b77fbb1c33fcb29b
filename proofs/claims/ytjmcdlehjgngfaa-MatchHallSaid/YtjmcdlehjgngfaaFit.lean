/- Whether there is an assignment: said of functions; it does not hang on the row. -/
import Derived.Test.YtjmcdlehjgngfaaRefW
namespace Go.Proofs.Ytjmcdlehjgngfaa
open Go.RowKit Go.Proofs.YtjmcdlehjgngfaaW.PrintWords Go.Proofs.YtjmcdlehjgngfaaW.PrintLast Go.Proofs.YtjmcdlehjgngfaaW.PrintMore
set_option linter.unusedVariables false
set_option linter.unusedSimpArgs false

theorem memC_app (a : List Nat) (s k : Nat) : memC (a ++ [s]) k = (memC a k || Nat.beq s k) := by
  induction a with
  | nil => show (Nat.beq s k || false) = _; rw [Bool.or_false]; rfl
  | cons x r ih => show (Nat.beq x k || memC (r ++ [s]) k) = _; rw [ih, ← Bool.or_assoc]; rfl
theorem beq_ne {a b : Nat} (h : a ≠ b) : Nat.beq a b = false := by
  cases hb : Nat.beq a b with
  | false => rfl
  | true => exact absurd (Nat.eq_of_beq_eq_true hb) h

theorem tryC_some (mc i : Nat) (fs : List Nat) (next : List Nat → Option (List Nat)) (k : Nat) (els : Option (List Nat)) :
    (tryC mc i fs next k els).isSome = true ↔ (has mc i k = true ∧ memC fs k = false ∧ (next (fs ++ [k])).isSome = true) ∨ els.isSome = true := by
  unfold tryC
  cases has mc i k <;> cases memC fs k <;> simp
  cases next (fs ++ [k]) <;> simp

theorem refC_some (mc n d : Nat) (fs : List Nat) :
    (refC mc n (d + 1) fs).isSome = true ↔ ∃ k, k < 4 ∧ has mc (n - (d + 1)) k = true ∧ memC fs k = false ∧ (refC mc n d (fs ++ [k])).isSome = true := by
  simp only [refC, tryC_some]
  constructor
  · rintro (h | h | h | h | h)
    · exact ⟨0, by omega, h⟩
    · exact ⟨1, by omega, h⟩
    · exact ⟨2, by omega, h⟩
    · exact ⟨3, by omega, h⟩
    · cases h
  · rintro ⟨k, hk, h⟩
    rcases (show k = 0 ∨ k = 1 ∨ k = 2 ∨ k = 3 by omega) with rfl | rfl | rfl | rfl
    · exact .inl h
    · exact .inr (.inl h)
    · exact .inr (.inr (.inl h))
    · exact .inr (.inr (.inr (.inl h)))

theorem refC_fun (mc n : Nat) : ∀ (d : Nat) (fs : List Nat), d ≤ n → ((refC mc n d fs).isSome = true ↔
    ∃ f : Nat → Nat, (∀ i, n - d ≤ i → i < n → f i < 4 ∧ has mc i (f i) = true ∧ memC fs (f i) = false) ∧ ∀ i j, n - d ≤ i → i < j → j < n → f i ≠ f j) := by
  intro d
  induction d with
  | zero =>
    intro fs hd
    exact ⟨fun _ => ⟨fun _ => 0, fun i h1 h2 => by omega, fun i j h1 h2 h3 => by omega⟩, fun _ => rfl⟩
  | succ d ih =>
    intro fs hd
    rw [refC_some]
    constructor
    · rintro ⟨k, hk, hh, hm, hr⟩
      obtain ⟨f, h1, h2⟩ := (ih (fs ++ [k]) (by omega)).mp hr
      have key : ∀ i, n - d ≤ i → i < n → f i ≠ k ∧ memC fs (f i) = false := by
        intro i a b
        have h := (h1 i a b).2.2
        rw [memC_app, Bool.or_eq_false_iff] at h
        refine ⟨fun e => ?_, h.1⟩
        rw [e] at h
        rw [Nat.beq_refl] at h
        cases h.2
      refine ⟨fun i => if i = n - (d + 1) then k else f i, fun i a b => ?_, fun i j a b c => ?_⟩
      · by_cases e : i = n - (d + 1)
        · simp only [if_pos e]
          rw [e]
          exact ⟨hk, hh, hm⟩
        · simp only [if_neg e]
          exact ⟨(h1 i (by omega) b).1, (h1 i (by omega) b).2.1, (key i (by omega) b).2⟩
      · have ej : ¬ j = n - (d + 1) := by omega
        by_cases e : i = n - (d + 1)
        · simp only [if_pos e, if_neg ej]
          exact fun h => (key j (by omega) c).1 h.symm
        · simp only [if_neg e, if_neg ej]
          exact h2 i j (by omega) b c
    · rintro ⟨f, h1, h2⟩
      obtain ⟨a, b, c⟩ := h1 (n - (d + 1)) (by omega) (by omega)
      refine ⟨f (n - (d + 1)), a, b, c, (ih _ (by omega)).mpr ⟨f, fun i x y => ?_, fun i j x y z => h2 i j (by omega) y z⟩⟩
      obtain ⟨p, q, r⟩ := h1 i (by omega) y
      refine ⟨p, q, ?_⟩
      rw [memC_app, r, Bool.false_or]
      exact beq_ne (h2 _ i (by omega) (by omega) y)

/-- There is an assignment. -/
def Fit (ms : List Int) : Prop := ∃ f : Nat → Nat, (∀ i, i < ms.length → f i < 4 ∧ ((rd ms i % 16).toNat / 2 ^ f i % 2 = 1)) ∧ ∀ i j, i < ms.length → j < ms.length → f i = f j → i = j

theorem ans_isSome (ms : List Int) : (ansC ms).1 = (refC (codeOf ms) ms.length ms.length []).isSome := by
  rw [ansC_ref]
  cases refC (codeOf ms) ms.length ms.length [] <;> rfl
theorem ans_fit (ms : List Int) : (ansC ms).1 = true ↔ Fit ms := by
  rw [ans_isSome, refC_fun _ _ _ _ (Nat.le_refl _)]
  constructor
  · rintro ⟨f, h1, h2⟩
    refine ⟨f, fun i hi => ?_, fun i j hi hj e => ?_⟩
    · obtain ⟨a, b, -⟩ := h1 i (by omega) hi
      rw [has_code ms i _ hi a] at b
      exact ⟨a, Nat.eq_of_beq_eq_true b⟩
    · rcases Nat.lt_trichotomy i j with h | h | h
      · exact absurd e (h2 i j (by omega) h hj)
      · exact h
      · exact absurd e.symm (h2 j i (by omega) h hi)
  · rintro ⟨f, h1, h2⟩
    refine ⟨f, fun i _ hi => ?_, fun i j _ hij hj e => ?_⟩
    · obtain ⟨a, b⟩ := h1 i hi
      refine ⟨a, ?_, rfl⟩
      rw [has_code ms i _ hi a, b]
      rfl
    · have := h2 i j (by omega) hj e
      omega

theorem Fit.turn {ms ns : List Int} (s : Nat → Nat) (hl : ns.length = ms.length) (h1 : ∀ i, i < ns.length → s i < ms.length ∧ rd ns i % 16 = rd ms (s i : Nat) % 16) (h2 : ∀ i j, i < ns.length → j < ns.length → s i = s j → i = j) (h : Fit ms) : Fit ns := by
  obtain ⟨f, a, b⟩ := h
  refine ⟨fun i => f (s i), fun i hi => ?_, fun i j hi hj e => ?_⟩
  · obtain ⟨p, q⟩ := h1 i hi
    rw [q]
    exact a (s i) p
  · exact h2 i j hi hj (b _ _ (h1 i hi).1 (h1 j hj).1 e)
/-- The row, turned about and moved on: there and back. -/
theorem turn_back (n t i : Nat) (hn : n ≤ 8) (hi : i < n) : (n - 1 - i + t) % n < n ∧ (n - 1 - (n - 1 - i + t) % n + t) % n = i := by
  refine ⟨Nat.mod_lt _ (by omega), ?_⟩
  rcases (show n = 1 ∨ n = 2 ∨ n = 3 ∨ n = 4 ∨ n = 5 ∨ n = 6 ∨ n = 7 ∨ n = 8 by omega) with rfl | rfl | rfl | rfl | rfl | rfl | rfl | rfl <;> omega
theorem ans_turn (ms ns : List Int) (t : Nat) (hl : ns.length = ms.length) (hn : ms.length ≤ 8) (h : ∀ i, i < ms.length → rd ns i % 16 = rd ms ((ms.length - 1 - i + t) % ms.length : Nat) % 16) : (ansC ns).1 = (ansC ms).1 := by
  have T := fun i hi => turn_back ms.length t i hn hi
  have inj : ∀ i j, i < ms.length → j < ms.length → (ms.length - 1 - i + t) % ms.length = (ms.length - 1 - j + t) % ms.length → i = j := by
    intro i j hi hj e
    have a := (T i hi).2
    have b := (T j hj).2
    rw [e] at a
    exact a.symm.trans b
  rw [Bool.eq_iff_iff, ans_fit, ans_fit]
  constructor
  · refine Fit.turn (fun i => (ms.length - 1 - i + t) % ms.length) hl.symm (fun i hi => ?_) inj
    refine ⟨by rw [hl]; exact (T i hi).1, ?_⟩
    rw [h _ (T i hi).1, (T i hi).2]
  · refine Fit.turn (fun i => (ms.length - 1 - i + t) % ms.length) hl (fun i hi => ?_) (by rw [hl]; exact inj)
    rw [hl] at hi
    exact ⟨(T i hi).1, h i hi⟩
theorem ans_tail (m : Int) (r : List Int) (h : (ansC (m :: r)).1 = true) : (ansC r).1 = true := by
  rw [ans_fit] at h ⊢
  obtain ⟨f, a, b⟩ := h
  refine ⟨fun i => f (i + 1), fun i hi => ?_, fun i j hi hj e => ?_⟩
  · have := a (i + 1) (by simpa using hi)
    have e1 : rd (m :: r) ((i + 1 : Nat) : Int) = rd r (i : Int) := by
      unfold rd
      have : (((i + 1 : Nat) : Int)).toNat = i + 1 := by omega
      rw [this, Int.toNat_natCast]
      rfl
    rw [e1] at this
    exact this
  · have := b (i + 1) (j + 1) (by simpa using hi) (by simpa using hj) e
    omega
end Go.Proofs.Ytjmcdlehjgngfaa
