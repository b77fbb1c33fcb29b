/- The reference's search on codes: the least assignment; Slots finds it. Plain; no world. -/
import Derived.Test.YtjmcdlehjgngfaaLaw
namespace Go.Proofs.Ytjmcdlehjgngfaa
set_option linter.unusedVariables false

def tryC (mc i : Nat) (fs : List Nat) (next : List Nat → Option (List Nat)) (k : Nat) (els : Option (List Nat)) : Option (List Nat) :=
  bif has mc i k && !memC fs k then (match next (fs ++ [k]) with | some r => some r | none => els) else els
/-- The first assignment that goes on from some slots, d masks being left of n. -/
def refC (mc n : Nat) : Nat → List Nat → Option (List Nat)
  | 0, fs => some fs
  | d + 1, fs => tryC mc (n - (d + 1)) fs (refC mc n d) 0 (tryC mc (n - (d + 1)) fs (refC mc n d) 1 (tryC mc (n - (d + 1)) fs (refC mc n d) 2 (tryC mc (n - (d + 1)) fs (refC mc n d) 3 none)))

theorem Good.add {fs : List Nat} (h : Good fs) {k : Nat} (hk : k < 4) (hm : memC fs k = false) : Good (fs ++ [k]) := by
  refine .snoc h hk ?_
  rw [← h.mem.2 k hk]
  exact hm

/-- The reference finds one just if one goes on. -/
theorem ref_ext (mc n : Nat) : ∀ (d : Nat) (fs : List Nat), Good fs → d ≤ n → extK mc d (n - d) (umC fs 0) = (refC mc n d fs).isSome := by
  intro d
  induction d with
  | zero => intro fs hg hd; rfl
  | succ d ih =>
    intro fs hg hd
    rw [extK_succ]
    have e : n - (d + 1) + 1 = n - d := by omega
    rw [e]
    have S : ∀ k, k < 4 → ∀ (els : Option (List Nat)), (has mc (n - (d + 1)) k && !sawn (umC fs 0) k && extK mc d (n - d) (umC fs 0 + 2 ^ k) || els.isSome) = (tryC mc (n - (d + 1)) fs (refC mc n d) k els).isSome := by
      intro k hk els
      unfold tryC
      rw [← hg.mem.2 k hk]
      cases hh : has mc (n - (d + 1)) k with
      | false => simp
      | true =>
        cases hm : memC fs k with
        | true => simp
        | false =>
          have IH := ih (fs ++ [k]) (hg.add hk hm) (by omega)
          rw [umC_snoc] at IH
          rw [IH]
          simp only [Bool.not_false, Bool.and_self, Bool.true_and, cond_true]
          cases refC mc n d (fs ++ [k]) <;> rfl
    show _ = (tryC mc (n - (d + 1)) fs (refC mc n d) 0 _).isSome
    rw [← S 0 (by omega), ← S 1 (by omega), ← S 2 (by omega), ← S 3 (by omega)]
    simp

/-- What is found begins with what was there. -/
theorem inner_finds (mc n i : Nat) (hn : n ≤ 4) (hmc : mc < 16 ^ n) (hi : i < n) (fs : List Nat) (hg : Good fs) (hf : fs.length = i) (r : List Nat) (h : refC mc n (n - i) fs = some r) :
    ∃ k, innerC mc n i fs 5 0 = some (fs ++ [k]) ∧ Good (fs ++ [k]) ∧ refC mc n (n - (i + 1)) (fs ++ [k]) = some r := by
  obtain ⟨d, hd⟩ : ∃ d, n - i = d + 1 := ⟨n - i - 1, by omega⟩
  have hd' : n - (i + 1) = d := by omega
  have hi' : n - (d + 1) = i := by omega
  rw [hd] at h
  rw [hd']
  have S : ∀ (k : Nat), k < 4 → ∀ (els : Option (List Nat)) (g : Nat), tryC mc i fs (refC mc n d) k els = some r →
      (els = some r → ∃ k', innerC mc n i fs g (k + 1) = some (fs ++ [k']) ∧ Good (fs ++ [k']) ∧ refC mc n d (fs ++ [k']) = some r) →
      ∃ k', innerC mc n i fs (g + 1) k = some (fs ++ [k']) ∧ Good (fs ++ [k']) ∧ refC mc n d (fs ++ [k']) = some r := by
    intro k hk els g ht hels
    unfold tryC at ht
    simp only [innerC]
    rw [Nat.blt_eq.symm.mp hk]
    simp only [cond_true]
    cases hc : has mc i k && !memC fs k with
    | false =>
      rw [hc, cond_false] at ht
      exact hels ht
    | true =>
      rw [hc, cond_true] at ht
      simp only [cond_true]
      have hm : memC fs k = false := by
        cases hm : memC fs k with
        | false => rfl
        | true => rw [hm] at hc; simp at hc
      have hg2 := hg.add hk hm
      have hl2 : (fs ++ [k]).length = i + 1 := by simp [hf]
      have ha := all_tells mc n hn hmc (fs ++ [k]) hg2 (by omega)
      rw [hl2] at ha
      rw [ha]
      have hx := ref_ext mc n d (fs ++ [k]) hg2 (by omega)
      have hnd : n - d = i + 1 := by omega
      rw [hnd] at hx
      have hnd2 : n - (i + 1) = d := hd'
      rw [hnd2, hx]
      cases hr : refC mc n d (fs ++ [k]) with
      | none =>
        rw [hr] at ht
        simp only [Option.isSome_none]
        exact hels ht
      | some q =>
        rw [hr] at ht
        simp only [Option.isSome_some]
        exact ⟨k, rfl, hg2, by rw [hr]; exact ht⟩
  have h' : tryC mc i fs (refC mc n d) 0 (tryC mc i fs (refC mc n d) 1 (tryC mc i fs (refC mc n d) 2 (tryC mc i fs (refC mc n d) 3 none))) = some r := by
    have : refC mc n (d + 1) fs = _ := rfl
    simp only [refC] at h
    rw [hi'] at h
    exact h
  exact S 0 (by omega) _ 4 h' fun h1 => S 1 (by omega) _ 3 h1 fun h2 => S 2 (by omega) _ 2 h2 fun h3 => S 3 (by omega) _ 1 h3 fun h4 => by cases h4

theorem slots_finds (mc n : Nat) (hn : n ≤ 4) (hmc : mc < 16 ^ n) : ∀ (d g i : Nat) (fs r : List Nat), i + d = n → d < g → Good fs → fs.length = i → refC mc n d fs = some r → slotsC mc n g i fs = some r := by
  intro d
  induction d with
  | zero =>
    intro g i fs r hi hg hG hf h
    obtain ⟨g, rfl⟩ : ∃ m, g = m + 1 := ⟨g - 1, by omega⟩
    have hb : Nat.blt i n = false := by
      cases hb : Nat.blt i n with
      | false => rfl
      | true => have := Nat.blt_eq.mp hb; omega
    simp only [slotsC, hb, cond_false]
    exact h
  | succ d ih =>
    intro g i fs r hi hg hG hf h
    obtain ⟨g, rfl⟩ : ∃ m, g = m + 1 := ⟨g - 1, by omega⟩
    have hb : Nat.blt i n = true := Nat.blt_eq.symm.mp (by omega)
    have hd : n - i = d + 1 := by omega
    obtain ⟨k, h1, h2, h3⟩ := inner_finds mc n i hn hmc (by omega) fs hG hf r (by rw [hd]; exact h)
    have hd' : n - (i + 1) = d := by omega
    rw [hd'] at h3
    simp only [slotsC, hb, cond_true]
    rw [h1]
    exact ih g (i + 1) (fs ++ [k]) r (by omega) (by omega) h2 (by simp [hf]) h3

/-- FITS AND SLOTS BESIDE THE SEARCH. -/
theorem fits_tells (mc n : Nat) (hn : n ≤ 4) (hmc : mc < 16 ^ n) : fitsC mc n = some (refC mc n n []).isSome := by
  unfold fitsC
  rw [Nat.ble_eq_true_of_le hn, cond_true]
  have h := all_tells mc n hn hmc [] .nil (Nat.zero_le _)
  have hx := ref_ext mc n n [] .nil (Nat.le_refl _)
  simp only [List.length_nil, Nat.sub_zero, Nat.sub_self] at h hx
  rw [← hx]
  exact h
theorem slots_tells (mc n : Nat) (hn : n ≤ 4) (hmc : mc < 16 ^ n) (r : List Nat) (h : refC mc n n [] = some r) : slotsC mc n 6 0 [] = some r :=
  slots_finds mc n hn hmc n 6 0 [] r (by omega) (by omega) .nil rfl h

end Go.Proofs.Ytjmcdlehjgngfaa
