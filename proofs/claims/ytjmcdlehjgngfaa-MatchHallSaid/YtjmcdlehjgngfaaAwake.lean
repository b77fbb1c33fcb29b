/- The awake of the match statements answers true. -/
import Derived.Test.YtjmcdlehjgngfaaAns
import Derived.KernelRfl
namespace Go.Proofs.Ytjmcdlehjgngfaa
open Go.RowKit Go.Proofs.YtjmcdlehjgngfaaW.PrintWords Go.Proofs.YtjmcdlehjgngfaaW.PrintLast Go.Proofs.YtjmcdlehjgngfaaW.PrintMore
set_option linter.unusedVariables false
set_option linter.unusedSimpArgs false

theorem same_l (l : List Int) (d : Nat) : ∀ (g j : Nat), j + d = l.length → d < g → l.length ≤ 1000 → PMatchSlots.coxlesslaw09_same.l0 g l l j = some true := by
  induction d with
  | zero =>
    intro g j hj hg hl
    obtain ⟨g, rfl⟩ : ∃ m, g = m + 1 := ⟨g - 1, by omega⟩
    unfold PMatchSlots.coxlesslaw09_same.l0
    rw [if_neg (by omega)]
  | succ d ih =>
    intro g j hj hg hl
    obtain ⟨g, rfl⟩ : ∃ m, g = m + 1 := ⟨g - 1, by omega⟩
    unfold PMatchSlots.coxlesslaw09_same.l0
    have e1 : (j : Int) + 1 = ((j + 1 : Nat) : Int) := by omega
    have hw : wrap64 ((j + 1 : Nat) : Int) = ((j + 1 : Nat) : Int) := by unfold wrap64; omega
    rw [if_pos (by omega), if_pos (by omega), if_pos (by omega)]
    rw [if_pos rfl, e1, hw]
    exact ih g (j + 1) (by omega) (by omega) hl
theorem same_ok (l : List Int) (hl : l.length ≤ 1000) : PMatchSlots.coxlesslaw09_same.f 1002 l l = some true := by
  unfold PMatchSlots.coxlesslaw09_same.f
  rw [if_pos rfl]
  exact same_l l l.length 1002 0 (by omega) (by omega) hl
/-- 'same' of two slices that read alike: true. -/
theorem same_any (fs : List Nat) (A B : Option Addr) (c d : Nat) (w : World) (hl : fs.length ≤ 1000) (hc : fs.length ≤ c) (hd : fs.length ≤ d) (ha : ReadsInt w .i64 A fs.length (ints fs)) (hb : ReadsInt w .i64 B fs.length (ints fs)) :
    Calls Try.prog 10 #[.slice A fs.length c, .slice B fs.length d] w fun e w' => e = .returned (.bool true) ∧ Below w.heap.size w w' := by
  rw [← ints_length] at ha hb hl hc hd ⊢
  exact (PMatchSlots.coxlesslaw09_same.calls 1002 A c (ints fs) B d (ints fs) true w (Kd.C_of_reads (enc := Value.int .i64) (d := (0 : Int)) (h1 := fun _ => rfl) ha) hc (Kd.C_of_reads (enc := Value.int .i64) (d := (0 : Int)) (h1 := fun _ => rfl) hb) hd (same_ok _ hl)).mono fun _ _ h => ⟨h.1, h.2.below⟩

/-- A row that was just laid reads as it was laid. -/
theorem lit_reads (w : World) (k : IntKind) (xs : List Int) (t : TypeId) (hl : xs.length ≤ 1000) : ReadsInt (w.alloc (.cells (nums k xs).toArray t (0, 0))) k (some ⟨w.heap.size, 0, none⟩) xs.length xs := by
  refine ⟨rfl, by omega, fun _ => ⟨_, rfl, fun j hj => ?_⟩⟩
  rw [add_plain, blk_cell (blk_new _ _)]
  simp [nums, hj]
theorem lit_masks (w : World) (ms : List Int) (hl : ms.length ≤ 1000) (hw : ∀ i, i < ms.length → 0 ≤ rd ms i ∧ rd ms i < 256) : MasksAt (w.alloc (.cells (nums .u8 ms).toArray 5 (0, 0))) (some ⟨w.heap.size, 0, none⟩) ms :=
  ⟨lit_reads w .u8 ms 5 hl, fun ad e => by injection e with e; subst e; simp, hw⟩
theorem Slots_lit (w : World) (ms : List Int) (b : Bool) (fs : List Nat) (hl : ms.length ≤ 1000) (hw : ∀ i, i < ms.length → 0 ≤ rd ms i ∧ rd ms i < 256) (ha : ansC ms = (b, fs)) :
    Calls Try.prog 8 #[.slice (some ⟨w.heap.size, 0, none⟩) ms.length ms.length] (w.alloc (.cells (nums .u8 ms).toArray 5 (0, 0))) (SlotsAns b fs w) := by
  have h := Slots_any (some ⟨w.heap.size, 0, none⟩) ms.length ms _ (lit_masks w ms hl hw)
  rw [ha] at h
  refine h.mono ?_
  rintro e w' ⟨A, c, rfl, hc, hr, hb⟩
  exact ⟨A, c, rfl, hc, hr, (Below.alloc (Below.refl _ _) (Nat.le_refl _) _).trans (hb.mono (by simp))⟩
theorem Fits_lit (w : World) (ms : List Int) (b : Bool) (hl : ms.length ≤ 1000) (hw : ∀ i, i < ms.length → 0 ≤ rd ms i ∧ rd ms i < 256) (ha : (ansC ms).1 = b) :
    Calls Try.prog 11 #[.slice (some ⟨w.heap.size, 0, none⟩) ms.length ms.length] (w.alloc (.cells (nums .u8 ms).toArray 5 (0, 0))) fun e w' => e = .returned (.bool b) ∧ Below w.heap.size w w' := by
  have h := Fits_any (some ⟨w.heap.size, 0, none⟩) ms.length ms _ (lit_masks w ms hl hw)
  rw [ha] at h
  exact h.mono fun e w' ⟨he, hb⟩ => ⟨he, (Below.alloc (Below.refl _ _) (Nat.le_refl _) _).trans (hb.mono (by simp))⟩
/-- 'same' of what Slots told and of a row that was just laid. -/
theorem same_lit (w : World) (fs : List Nat) (A : Option Addr) (c : Nat) (hl : fs.length ≤ 1000) (hc : fs.length ≤ c) (hr : ReadsInt w .i64 A fs.length (ints fs)) :
    Calls Try.prog 10 #[.slice A fs.length c, .slice (some ⟨w.heap.size, 0, none⟩) fs.length fs.length] (w.alloc (.cells (nums .i64 (ints fs)).toArray 3 (0, 0))) fun e w' => e = .returned (.bool true) ∧ Below w.heap.size w w' := by
  have hb := Below.alloc (Below.refl w.heap.size w) (Nat.le_refl _) (.cells (nums .i64 (ints fs)).toArray 3 (0, 0))
  have h2 := lit_reads w .i64 (ints fs) 3 (by rw [ints_length]; exact hl)
  rw [ints_length] at h2
  exact (same_any fs A _ c fs.length _ hl hc (Nat.le_refl _) (hr.below hb) h2).mono fun e w' ⟨he, hb'⟩ => ⟨he, hb.trans (hb'.mono (by simp))⟩

set_option maxHeartbeats 8000000 in
set_option maxRecDepth 100000 in
theorem awake_calls (w : World) : Calls Try.prog 7 #[] w fun e w' => e = .returned (.bool true) ∧ Below w.heap.size w w' := by
  go_enter Try.func7, Try.ntmps7
  go_wp2_with (fail)
  go_at_call 8
  refine (Slots_lit w [15, 15, 1] true [1, 2, 0] (by decide) (by decide) (by kernel_rfl)).mono ?_
  rintro e w1 ⟨A1, c1, rfl, hc1, hr1, hb1⟩
  have HR1 := Aside0.mk hr1
  have HC1 := Aside0.mk hc1
  have HB1 := Aside0.mk hb1
  clear hr1 hc1 hb1
  go_wp2_with (fail)
  go_at_call 8
  refine (Slots_lit w1 [1, 1] false [] (by decide) (by decide) (by kernel_rfl)).mono ?_
  rintro e w2 ⟨A2, c2, rfl, -, -, hb2⟩
  have HR2 := Aside0.mk (HR1.out.below hb2)
  have HB2 := Aside0.mk (HB1.out.trans (hb2.mono HB1.out.size))
  clear hb2 HR1 HB1
  go_wp2_with (fail)
  go_at_call 10
  refine (same_lit w2 [1, 2, 0] A1 c1 (by decide) HC1.out HR2.out).mono ?_
  rintro e w3 ⟨rfl, hb3⟩
  have HB3 := Aside0.mk (HB2.out.trans (hb3.mono HB2.out.size))
  clear hb3 HB2 HR2
  go_wp2_with (fail)
  go_at_call 11
  refine (Fits_lit w3 [12, 8, 3] true (by decide) (by decide) (by kernel_rfl)).mono ?_
  rintro e w4 ⟨rfl, hb4⟩
  have HB4 := Aside0.mk (HB3.out.trans (hb4.mono HB3.out.size))
  clear hb4 HB3
  go_wp2_with (fail)
  go_at_call 11
  refine (Fits_lit w4 [8, 8] false (by decide) (by decide) (by kernel_rfl)).mono ?_
  rintro e w5 ⟨rfl, hb5⟩
  have HB5 := Aside0.mk (HB4.out.trans (hb5.mono HB4.out.size))
  clear hb5 HB4
  go_wp2
  go_ret
  exact ⟨rfl, HB5.out⟩
end Go.Proofs.Ytjmcdlehjgngfaa
