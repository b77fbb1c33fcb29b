/- The contracts of Fits and Slots, for all masks. -/
import Derived.Test.YtjmcdlehjgngfaaSlotsW
import Derived.Test.YtjmcdlehjgngfaaRefC
namespace Go.Proofs.Ytjmcdlehjgngfaa
open Go.RowKit Go.Proofs.YtjmcdlehjgngfaaW.PrintWords Go.Proofs.YtjmcdlehjgngfaaW.PrintLast Go.Proofs.YtjmcdlehjgngfaaW.PrintMore
set_option linter.unusedVariables false
set_option linter.unusedSimpArgs false

/-- The masks' code. -/
def codeOf : List Int → Nat
  | [] => 0
  | m :: r => (m % 16).toNat + 16 * codeOf r
theorem codeOf_lt : ∀ ms : List Int, codeOf ms < 16 ^ ms.length
  | [] => by decide
  | m :: r => by
    have ih := codeOf_lt r
    have h : (m % 16).toNat < 16 := by omega
    show (m % 16).toNat + 16 * codeOf r < 16 ^ (r.length + 1)
    rw [Nat.pow_succ]
    omega
theorem has_code : ∀ (ms : List Int) (i k : Nat), i < ms.length → k < 4 → has (codeOf ms) i k = Nat.beq ((rd ms i % 16).toNat / 2 ^ k % 2) 1
  | [], i, k, hi, hk => by simp at hi
  | m :: r, 0, k, hi, hk => by
    unfold has
    show Nat.beq (((m % 16).toNat + 16 * codeOf r) / 2 ^ (4 * 0 + k) % 2) 1 = Nat.beq ((m % 16).toNat / 2 ^ k % 2) 1
    congr 1
    have h : (m % 16).toNat < 16 := by omega
    generalize (m % 16).toNat = a at h
    generalize codeOf r = c
    rcases (show k = 0 ∨ k = 1 ∨ k = 2 ∨ k = 3 by omega) with rfl | rfl | rfl | rfl <;> simp only [Nat.mul_zero, Nat.zero_add, Nat.reducePow] <;> omega
  | m :: r, i + 1, k, hi, hk => by
    have ih := has_code r i k (by simpa using hi) hk
    have e1 : rd (m :: r) ((i + 1 : Nat) : Int) = rd r (i : Int) := by
      unfold rd
      have : (((i + 1 : Nat) : Int)).toNat = i + 1 := by omega
      rw [this, Int.toNat_natCast]
      rfl
    rw [e1, ← ih]
    unfold has
    show Nat.beq (((m % 16).toNat + 16 * codeOf r) / 2 ^ (4 * (i + 1) + k) % 2) 1 = _
    have e2 : 2 ^ (4 * (i + 1) + k) = 16 * 2 ^ (4 * i + k) := by
      rw [show 4 * (i + 1) + k = 4 + (4 * i + k) by omega, Nat.pow_add]
    have h : (m % 16).toNat < 16 := by omega
    rw [e2, ← Nat.div_div_eq_div_mul]
    have e3 : ((m % 16).toNat + 16 * codeOf r) / 16 = codeOf r := by omega
    rw [e3]

theorem and_one (x : Int) (h0 : 0 ≤ x) (h1 : x < 256) : bits .and .u8 x 1 = x % 2 := bits_mask .u8 8 (by decide) wraps_u8 1 (by decide) x h0 h1
theorem bits_code (ms : List Int) (hr : ∀ i, i < ms.length → 0 ≤ rd ms i ∧ rd ms i < 256) : Bits (codeOf ms) ms := by
  intro i hi k hk
  obtain ⟨h0, h1⟩ := hr i hi
  rw [has_code ms i k hi hk]
  generalize rd ms i = m at h0 h1
  obtain ⟨m, rfl⟩ := Int.eq_ofNat_of_zero_le h0
  have e : (((m : Int) % 16).toNat) = m % 16 := by omega
  rw [e]
  have hm : m < 256 := by omega
  have hd : ((m : Int) / 2 ^ k) = ((m / 2 ^ k : Nat) : Int) := by simp
  have hlt : m / 2 ^ k < 256 := Nat.lt_of_le_of_lt (Nat.div_le_self _ _) hm
  rw [hd, and_one _ (Int.natCast_nonneg _) (by generalize m / 2 ^ k = y at hlt; omega)]
  have hb : m % 16 / 2 ^ k % 2 = m / 2 ^ k % 2 := by
    rcases (show k = 0 ∨ k = 1 ∨ k = 2 ∨ k = 3 by omega) with rfl | rfl | rfl | rfl <;> simp only [Nat.reducePow] <;> omega
  rw [hb]
  generalize m / 2 ^ k = y
  by_cases hy : y % 2 = 1
  · rw [hy, show Nat.beq 1 1 = true from rfl, if_pos rfl]; omega
  · have : y % 2 = 0 := by omega
    rw [this, show Nat.beq 0 1 = false from rfl, if_neg (by decide)]; omega

/-- What Slots answers. -/
def ansC (ms : List Int) : Bool × List Nat :=
  bif Nat.ble ms.length 4 then (match refC (codeOf ms) ms.length ms.length [] with | some r => (true, r) | none => (false, [])) else (false, [])
theorem ansC_few {ms : List Int} (h : ms.length ≤ 4) : ansC ms = match refC (codeOf ms) ms.length ms.length [] with | some r => (true, r) | none => (false, []) := by
  unfold ansC
  rw [Nat.ble_eq_true_of_le h, cond_true]
theorem ansC_many {ms : List Int} (h : ¬ ms.length ≤ 4) : ansC ms = (false, []) := by
  unfold ansC
  have : Nat.ble ms.length 4 = false := by
    cases hb : Nat.ble ms.length 4 with
    | false => rfl
    | true => exact absurd (Nat.le_of_ble_eq_true hb) h
  rw [this, cond_false]

/-- A slice of masks that is read. -/
structure MasksAt (w : World) (A : Option Addr) (ms : List Int) : Prop where
  reads : ReadsInt w .u8 A ms.length ms
  old : ∀ ad, A = some ad → ad.block < w.heap.size
  wide : ∀ i, i < ms.length → 0 ≤ rd ms i ∧ rd ms i < 256
theorem MasksAt.later {w w1 : World} {A : Option Addr} {ms : List Int} (h : MasksAt w A ms) (hb : Below w.heap.size w w1) : MasksAt w1 A ms :=
  ⟨h.reads.below hb, fun ad e => Nat.lt_of_lt_of_le (h.old ad e) hb.size, h.wide⟩

theorem fits_of_ans (ms : List Int) : fitsC (codeOf ms) ms.length = some (ansC ms).1 := by
  by_cases h : ms.length ≤ 4
  · rw [fits_tells _ _ h (codeOf_lt ms), ansC_few h]
    cases refC (codeOf ms) ms.length ms.length [] <;> rfl
  · rw [ansC_many h]
    unfold fitsC
    have : Nat.ble ms.length 4 = false := by
      cases hb : Nat.ble ms.length 4 with
      | false => rfl
      | true => exact absurd (Nat.le_of_ble_eq_true hb) h
    rw [this, cond_false]

theorem Fits_any (A : Option Addr) (cap : Nat) (ms : List Int) (w : World) (hm : MasksAt w A ms) :
    Calls Try.prog 11 #[.slice A ms.length cap] w fun e w' => e = .returned (.bool (ansC ms).1) ∧ Below w.heap.size w w' :=
  fits_any (codeOf ms) A cap ms (ansC ms).1 w (fun _ => bits_code ms hm.wide) hm.reads hm.old (fits_of_ans ms)

def SlotsAns (b : Bool) (fs : List Nat) (w0 : World) (e : Ending) (w' : World) : Prop :=
  ∃ A c, e = .returned (.tuple #[.slice A fs.length c, .bool b]) ∧ fs.length ≤ c ∧ ReadsInt w' .i64 A fs.length (ints fs) ∧ Below w0.heap.size w0 w'

set_option maxHeartbeats 4000000 in
set_option maxRecDepth 100000 in
theorem slots_no (A : Option Addr) (cap : Nat) (ms : List Int) (w : World) (hm : MasksAt w A ms) (h : (ansC ms).1 = false) :
    Calls Try.prog 8 #[.slice A ms.length cap] w (SlotsAns false [] w) := by
  have hf := Fits_any A cap ms w hm
  rw [h] at hf
  have HF := Lib.hid hf
  clear hf h hm
  go_enter Try.func8, Try.ntmps8
  go_wp2_with (fail)
  go_at_call 11
  refine HF.out.mono ?_
  rintro e w1 ⟨rfl, hB⟩
  have hB1 := Aside0.mk hB
  clear hB
  go_wp2
  go_ret2
  exact ⟨none, 0, rfl, Nat.le_refl _, reads_nil _ _, hB1.out⟩

theorem Slots_any (A : Option Addr) (cap : Nat) (ms : List Int) (w : World) (hm : MasksAt w A ms) :
    Calls Try.prog 8 #[.slice A ms.length cap] w (SlotsAns (ansC ms).1 (ansC ms).2 w) := by
  cases ha : (ansC ms).1 with
  | false =>
    have h2 : (ansC ms).2 = [] := by
      by_cases h : ms.length ≤ 4
      · rw [ansC_few h] at ha ⊢
        cases hr : refC (codeOf ms) ms.length ms.length [] with
        | none => rfl
        | some r => rw [hr] at ha; cases ha
      · rw [ansC_many h]
    rw [h2]
    exact slots_no A cap ms w hm ha
  | true =>
    have few : ms.length ≤ 4 := by
      by_cases h : ms.length ≤ 4
      · exact h
      · rw [ansC_many h] at ha; cases ha
    rw [ansC_few few] at ha ⊢
    cases hr : refC (codeOf ms) ms.length ms.length [] with
    | none => rw [hr] at ha; cases ha
    | some r =>
      have hft := fits_tells (codeOf ms) ms.length few (codeOf_lt ms)
      rw [hr] at hft
      refine (slots_yes (codeOf ms) A cap ms r w (bits_code ms hm.wide) hm.reads hm.old few hft (slots_tells _ _ few (codeOf_lt ms) r hr)).mono ?_
      rintro e w' ⟨v, rfl, hown, hb⟩
      obtain ⟨A', c', rfl, hc, hrd, -⟩ := own_shape hown
      exact ⟨A', c', rfl, hc, hrd, hb⟩

end Go.Proofs.Ytjmcdlehjgngfaa
