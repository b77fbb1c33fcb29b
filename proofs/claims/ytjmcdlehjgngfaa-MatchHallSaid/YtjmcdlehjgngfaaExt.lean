/- Whether an assignment goes on; the checks of all masks, as Bools, and what they give. Plain; no world. -/
import Derived.Test.YtjmcdlehjgngfaaRaw
namespace Go.Proofs.Ytjmcdlehjgngfaa
set_option linter.unusedVariables false

def contB (yes no : Bool) : Option Bool → Bool
  | none => false
  | some true => yes
  | some false => no

theorem allK_eq (mc f n : Nat) : ∀ (g i oc : Nat) (yes no : Bool), allK mc f n g i oc yes no = contB yes no (allC mc f n g i oc) := by
  intro g
  induction g with
  | zero => intro i oc yes no; rfl
  | succ g ih =>
    intro i oc yes no
    show cond (Nat.ble n i) yes (takesK mc f 40 i 0 oc 0 (fun oc2 _ => allK mc f n g (Nat.succ i) oc2 yes no) (fun _ _ => no)) = _
    simp only [allC]
    have hb : Nat.ble n i = !Nat.blt i n := by
      cases h : Nat.blt i n with
      | true => have := Nat.blt_eq.mp h; cases h2 : Nat.ble n i with
        | true => have := Nat.le_of_ble_eq_true h2; omega
        | false => rfl
      | false => cases h2 : Nat.ble n i with
        | true => rfl
        | false =>
          have h3 : ¬ i < n := fun hh => by rw [Nat.blt_eq.symm.mp hh] at h; cases h
          have h4 : ¬ n ≤ i := fun hh => by rw [Nat.ble_eq_true_of_le hh] at h2; cases h2
          omega
    rw [hb]
    cases Nat.blt i n with
    | false => rfl
    | true =>
      simp only [Bool.not_true, cond_false, cond_true]
      rw [takesK_eq]
      cases takesC mc f 40 i 0 oc 0 with
      | none => rfl
      | some x =>
        obtain ⟨rb, o2, s2⟩ := x
        cases rb with
        | false => rfl
        | true => exact ih _ _ _ _

/-- For these masks 'all' tells whether an assignment goes on. -/
noncomputable def okF (mc n f d oc u : Nat) : Bool := cond (extK mc d f u) (allK mc f n 10 f oc true false) (allK mc f n 10 f oc false true)
theorem okF_all {mc n f d oc u : Nat} (h : okF mc n f d oc u = true) : allC mc f n 10 f oc = some (extK mc d f u) := by
  unfold okF at h
  rw [allK_eq, allK_eq] at h
  cases hx : extK mc d f u <;> rw [hx] at h <;> simp only [cond_true, cond_false] at h <;> cases ha : allC mc f n 10 f oc with
  | none => rw [ha] at h; cases h
  | some b => cases b <;> rw [ha] at h <;> first | rfl | cases h

/-- All codes from m on, 2 ^ b of them, shifted. -/
noncomputable def rangeK (n f d oc u sh : Nat) : Nat → Nat → Bool := fun b =>
  Nat.rec (motive := fun _ => Nat → Bool) (fun m => okF (Nat.mul m sh) n f d oc u) (fun b ih m => cond (ih m) (ih (Nat.add m (Nat.pow 2 b))) false) b
theorem rangeK_all {n f d oc u sh : Nat} : ∀ {b m : Nat}, rangeK n f d oc u sh b m = true → ∀ c, m ≤ c → c < m + 2 ^ b → okF (c * sh) n f d oc u = true := by
  intro b
  induction b with
  | zero =>
    intro m h c h0 h1
    obtain rfl : c = m := by simp at h1; omega
    exact h
  | succ b ih =>
    intro m h c h0 h1
    have h' : cond (rangeK n f d oc u sh b m) (rangeK n f d oc u sh b (m + 2 ^ b)) false = true := h
    cases ha : rangeK n f d oc u sh b m with
    | false => rw [ha] at h'; cases h'
    | true =>
      rw [ha, cond_true] at h'
      rw [Nat.pow_succ] at h1
      by_cases hc : c < m + 2 ^ b
      · exact ih ha c h0 hc
      · exact ih h' c (by omega) (by omega)

/-- All prefixes of slots from this one on, and all masks behind each. (d masks are left.) -/
noncomputable def preK (n : Nat) : Nat → Nat → Nat → Nat → Bool := fun d =>
  Nat.rec (motive := fun _ => Nat → Nat → Nat → Bool) (fun f oc u => rangeK n f 0 oc u (Nat.pow 16 f) 0 0)
    (fun d ih f oc u =>
      cond (rangeK n f (Nat.succ d) oc u (Nat.pow 16 f) (Nat.mul 4 (Nat.succ d)) 0)
        (cond (cond (Nat.beq (Nat.land u 1) 1) true (ih (Nat.succ f) (setd oc 0 (Nat.succ f)) (Nat.add u 1)))
          (cond (cond (Nat.beq (Nat.land (Nat.shiftRight u 1) 1) 1) true (ih (Nat.succ f) (setd oc 1 (Nat.succ f)) (Nat.add u 2)))
            (cond (cond (Nat.beq (Nat.land (Nat.shiftRight u 2) 1) 1) true (ih (Nat.succ f) (setd oc 2 (Nat.succ f)) (Nat.add u 4)))
              (cond (Nat.beq (Nat.land (Nat.shiftRight u 3) 1) 1) true (ih (Nat.succ f) (setd oc 3 (Nat.succ f)) (Nat.add u 8))) false) false) false) false) d

/-- The mask of some slots. -/
def umC : List Nat → Nat → Nat
  | [], u => u
  | s :: r, u => umC r (u + 2 ^ s)
theorem umC_snoc (fs : List Nat) (s u : Nat) : umC (fs ++ [s]) u = umC fs u + 2 ^ s := by
  induction fs generalizing u with
  | nil => rfl
  | cons a r ih => exact ih _
theorem begC_snoc (fs : List Nat) (s j oc : Nat) : begC (fs ++ [s]) j oc = setd (begC fs j oc) s (j + fs.length + 1) := by
  induction fs generalizing j oc with
  | nil => rfl
  | cons a r ih =>
    show begC (r ++ [s]) (j + 1) _ = setd (begC r (j + 1) _) s _
    rw [ih]
    congr 1
    simp
    omega

/-- Slots that are slots, no two the same. -/
inductive Good : List Nat → Prop
  | nil : Good []
  | snoc {fs : List Nat} {s : Nat} : Good fs → s < 4 → sawn (umC fs 0) s = false → Good (fs ++ [s])

theorem Good.mem {fs : List Nat} (h : Good fs) : (∀ s ∈ fs, s < 4) ∧ ∀ k, k < 4 → memC fs k = sawn (umC fs 0) k := by
  induction h with
  | nil =>
    refine ⟨fun s hs => (by cases hs), fun k hk => ?_⟩
    show false = sawn 0 k
    unfold sawn
    simp
    rfl
  | @snoc fs s hg hs hn ih =>
    obtain ⟨h4, hm⟩ := ih
    refine ⟨fun t ht => ?_, fun k hk => ?_⟩
    · rcases List.mem_append.1 ht with ht | ht
      · exact h4 t ht
      · rw [List.mem_singleton.1 ht]; exact hs
    · have happ : ∀ (a : List Nat), memC (a ++ [s]) k = (memC a k || Nat.beq s k) := by
        intro a
        induction a with
        | nil => show (Nat.beq s k || false) = (false || Nat.beq s k); simp
        | cons x r ih2 => show (Nat.beq x k || memC (r ++ [s]) k) = _; rw [ih2, ← Bool.or_assoc]; rfl
      rw [happ, hm k hk, umC_snoc]
      obtain ⟨s0, s1, s2, s3⟩ := sawn_step (umC fs 0) s hs hn
      rcases (show k = 0 ∨ k = 1 ∨ k = 2 ∨ k = 3 by omega) with rfl | rfl | rfl | rfl
      · rw [s0]; rcases (show s = 0 ∨ s = 1 ∨ s = 2 ∨ s = 3 by omega) with rfl | rfl | rfl | rfl <;> simp [Nat.beq]
      · rw [s1]; rcases (show s = 0 ∨ s = 1 ∨ s = 2 ∨ s = 3 by omega) with rfl | rfl | rfl | rfl <;> simp [Nat.beq]
      · rw [s2]; rcases (show s = 0 ∨ s = 1 ∨ s = 2 ∨ s = 3 by omega) with rfl | rfl | rfl | rfl <;> simp [Nat.beq]
      · rw [s3]; rcases (show s = 0 ∨ s = 1 ∨ s = 2 ∨ s = 3 by omega) with rfl | rfl | rfl | rfl <;> simp [Nat.beq]

theorem Good.last {fs : List Nat} {s : Nat} (h : Good (fs ++ [s])) : Good fs ∧ s < 4 ∧ sawn (umC fs 0) s = false := by
  generalize hq : fs ++ [s] = q at h
  cases h with
  | nil => simp at hq
  | @snoc fs' s' h1 h2 h3 =>
    obtain ⟨rfl, h⟩ := List.append_inj' hq rfl
    injection h with h _
    subst h
    exact ⟨h1, h2, h3⟩
theorem Good.front {fs : List Nat} : ∀ (more : List Nat), Good (fs ++ more) → Good fs := by
  intro more
  induction more generalizing fs with
  | nil => intro h; simpa using h
  | cons s r ih =>
    intro h
    have h' : Good ((fs ++ [s]) ++ r) := by simpa using h
    exact (Good.last (ih h')).1

theorem preK_succ {n d f oc u : Nat} (h : preK n (d + 1) f oc u = true) :
    rangeK n f (d + 1) oc u (16 ^ f) (4 * (d + 1)) 0 = true ∧ ∀ s, s < 4 → sawn u s = false → preK n d (f + 1) (setd oc s (f + 1)) (u + 2 ^ s) = true := by
  have h' : cond (rangeK n f (Nat.succ d) oc u (Nat.pow 16 f) (Nat.mul 4 (Nat.succ d)) 0)
        (cond (cond (Nat.beq (Nat.land (Nat.shiftRight u 0) 1) 1) true (preK n d (Nat.succ f) (setd oc 0 (Nat.succ f)) (Nat.add u 1)))
          (cond (cond (Nat.beq (Nat.land (Nat.shiftRight u 1) 1) 1) true (preK n d (Nat.succ f) (setd oc 1 (Nat.succ f)) (Nat.add u 2)))
            (cond (cond (Nat.beq (Nat.land (Nat.shiftRight u 2) 1) 1) true (preK n d (Nat.succ f) (setd oc 2 (Nat.succ f)) (Nat.add u 4)))
              (cond (Nat.beq (Nat.land (Nat.shiftRight u 3) 1) 1) true (preK n d (Nat.succ f) (setd oc 3 (Nat.succ f)) (Nat.add u 8))) false) false) false) false = true := h
  rw [← sawn_raw, ← sawn_raw, ← sawn_raw, ← sawn_raw] at h'
  have C : ∀ a b : Bool, cond a b false = true → a = true ∧ b = true := fun a b hh => by cases a <;> cases b <;> first | exact ⟨rfl, rfl⟩ | cases hh
  have D : ∀ a b : Bool, cond a true b = true → a = false → b = true := fun a b hh ha => by subst ha; exact hh
  obtain ⟨h0, h'⟩ := C _ _ h'
  obtain ⟨a0, h'⟩ := C _ _ h'
  obtain ⟨a1, h'⟩ := C _ _ h'
  obtain ⟨a2, a3⟩ := C _ _ h'
  refine ⟨h0, fun s hs hn => ?_⟩
  rcases (show s = 0 ∨ s = 1 ∨ s = 2 ∨ s = 3 by omega) with rfl | rfl | rfl | rfl
  · exact D _ _ a0 hn
  · exact D _ _ a1 hn
  · exact D _ _ a2 hn
  · exact D _ _ a3 hn

theorem pow_four (d : Nat) : 2 ^ (4 * d) = 16 ^ d := by rw [Nat.pow_mul]

theorem preK_all {n : Nat} : ∀ (more : List Nat) (d : Nat) (fs : List Nat), preK n d fs.length (begC fs 0 0) (umC fs 0) = true → d + fs.length = n → Good (fs ++ more) → more.length ≤ d →
    ∀ c, c < 16 ^ (d - more.length) → okF (c * 16 ^ (fs ++ more).length) n (fs ++ more).length (d - more.length) (begC (fs ++ more) 0 0) (umC (fs ++ more) 0) = true := by
  intro more
  induction more with
  | nil =>
    intro d fs h hd hg hl c hc
    simp only [List.append_nil, List.length_nil, Nat.sub_zero] at hc ⊢
    cases d with
    | zero =>
      have h' : rangeK n fs.length 0 (begC fs 0 0) (umC fs 0) (16 ^ fs.length) 0 0 = true := h
      exact rangeK_all h' c (Nat.zero_le _) (by simpa using hc)
    | succ d =>
      refine rangeK_all (preK_succ h).1 c (Nat.zero_le _) ?_
      rw [pow_four, Nat.zero_add]
      exact hc
  | cons s r ih =>
    intro d fs h hd hg hl c hc
    cases d with
    | zero => simp at hl
    | succ d =>
      have hg' : Good ((fs ++ [s]) ++ r) := by simpa using hg
      obtain ⟨_, hs, hn⟩ := Good.last (Good.front r hg')
      have hp := (preK_succ h).2 s hs hn
      have e1 : setd (begC fs 0 0) s (fs.length + 1) = begC (fs ++ [s]) 0 0 := by rw [begC_snoc, Nat.zero_add]
      have e2 : umC fs 0 + 2 ^ s = umC (fs ++ [s]) 0 := (umC_snoc fs s 0).symm
      have e3 : fs.length + 1 = (fs ++ [s]).length := by simp
      rw [e1, e2, e3] at hp
      have hlen : d + 1 - (s :: r).length = d - r.length := by simp
      have happ : fs ++ s :: r = (fs ++ [s]) ++ r := by simp
      rw [hlen] at hc ⊢
      rw [happ]
      exact ih d (fs ++ [s]) hp (by simp at hd ⊢; omega) hg' (by simpa using hl) c hc

end Go.Proofs.Ytjmcdlehjgngfaa
