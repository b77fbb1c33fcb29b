/- MatchSlots, walked. -/
import Derived.Test.YtjmcdlehjgngfaaRefW
import Derived.Test.YtjmcdlehjgngfaaAwake
import Derived.Test.YtjmcdlehjgngfaaOld
namespace Go.Proofs.Ytjmcdlehjgngfaa
open Go.RowKit Go.Proofs.YtjmcdlehjgngfaaW.PrintWords Go.Proofs.YtjmcdlehjgngfaaW.PrintLast Go.Proofs.YtjmcdlehjgngfaaW.PrintMore
set_option linter.unusedVariables false
set_option linter.unusedSimpArgs false

theorem reads_kept {w W : World} {k : IntKind} {A : Option Addr} {n : Nat} {xs : List Int} (h : ReadsInt w k A n xs) (hk : Kept w W (fun _ => False)) : ReadsInt W k A n xs :=
  ⟨h.1, h.2.1, fun hn => by
    obtain ⟨ad, e, hc⟩ := h.2.2 hn
    exact ⟨ad, e, fun j hj => cell_kept (hc j hj) hk (fun h => h)⟩⟩

/-- The reference's Slots, called with nothing yet. -/
theorem ref_any (A : Option Addr) (cap : Nat) (ms : List Int) (w : World) (hm : MasksAt w A ms) (hc : ms.length ≤ cap) :
    Calls Try.prog 9 #[.slice A ms.length cap, .slice none 0 0] w (SlotsAns (ansC ms).1 (ansC ms).2 w) := by
  refine (PMatchSlots.coxlessref09_Slots.calls (60 + 20 * ms.length) A cap ms (fun _ => False) (.slice none 0 0) [] (ints (ansC ms).2) (ansC ms).1 w w (Below.refl _ _)
    (fun W hk => Kd.C_of_reads (enc := Value.int .u8) (d := (0 : Int)) (h1 := fun _ => rfl) (reads_kept hm.reads hk)) hc (Kd.R_nil _ _ _ _ _) (ref_told ms hm.wide _ (Nat.le_refl _))).mono ?_
  rintro e w' ⟨v, rfl, hR, hB, -⟩
  obtain ⟨A', c, rfl, hc', hC⟩ := Kd.R_reads hR
  rw [ints_length] at hc' hC ⊢
  exact ⟨A', c, rfl, hc', Kd.reads_of_C (d := (0 : Int)) hC, hB⟩

set_option maxHeartbeats 8000000 in
set_option maxRecDepth 100000 in
theorem matchSlots_at (A : Option Addr) (cap : Nat) (ms : List Int) (w : World) (hm : MasksAt w A ms) (hc : ms.length ≤ cap) :
    Calls Try.prog 3 #[.slice A ms.length cap] w fun e w' => e = .returned (.bool true) ∧ Below w.heap.size w w' := by
  have HS := Lib.hid (Slots_any A cap ms w hm)
  have HR := Lib.hid (fun (w1 : World) (hb : Below w.heap.size w w1) => ref_any A cap ms w1 (hm.later hb) hc)
  have HF := Lib.hid (fun (w1 : World) (hb : Below w.heap.size w w1) => Fits_any A cap ms w1 (hm.later hb))
  have hl : (ansC ms).2.length ≤ 1000 := by
    rw [ansC_ref]
    cases hr : refC (codeOf ms) ms.length ms.length [] with
    | none => simp
    | some r =>
      have := (ref_good _ _ _ _ _ .nil (by simp) hr).1.few
      show r.length ≤ 1000
      omega
  generalize (ansC ms).2 = fs at HS HR hl
  generalize (ansC ms).1 = b at HS HR HF
  clear hm
  by_cases h12 : (12 : Int) < (ms.length : Int)
  · have h12b : decide ((12 : Int) < (ms.length : Int)) = true := decide_eq_true h12
    go_enter Try.func3, Try.ntmps3
    go_wp2_with (fail)
    go_at_call 7
    refine (awake_calls w).mono ?_
    rintro e w1 ⟨rfl, hB⟩
    have HB := Aside0.mk hB
    clear hB
    go_wp2
    go_ret
    exact ⟨rfl, HB.out⟩
  · have h12b : decide ((12 : Int) < (ms.length : Int)) = false := decide_eq_false h12
    go_enter Try.func3, Try.ntmps3
    go_wp2_with (fail)
    go_at_call 8
    refine HS.out.mono ?_
    rintro e w1 ⟨A1, c1, rfl, hc1, hr1, hb1⟩
    have HR1 := Aside0.mk hr1
    have HC1 := Aside0.mk hc1
    have HB1 := Aside0.mk hb1
    clear hr1 hc1 hb1
    go_wp2_with (fail)
    go_at_call 9
    refine (HR.out w1 HB1.out).mono ?_
    rintro e w2 ⟨A2, c2, rfl, hc2, hr2, hb2⟩
    have HR2 := Aside0.mk hr2
    have HC2 := Aside0.mk hc2
    have HQ2 := Aside0.mk (HR1.out.below hb2)
    have HB2 := Aside0.mk (HB1.out.trans (hb2.mono HB1.out.size))
    clear hr2 hc2 hb2
    go_wp2_with (fail)
    go_at_call 10
    refine (same_any fs A1 A2 c1 c2 w2 hl HC1.out HC2.out HQ2.out HR2.out).mono ?_
    rintro e w3 ⟨rfl, hb3⟩
    have HB3 := Aside0.mk (HB2.out.trans (hb3.mono HB2.out.size))
    clear hb3
    have hbb : (b == b) = true := beq_self_eq_true b
    go_wp2_with (fail)
    go_at_call 11
    refine (HF.out w3 HB3.out).mono ?_
    rintro e w4 ⟨rfl, hb4⟩
    have HB4 := Aside0.mk (HB3.out.trans (hb4.mono HB3.out.size))
    clear hb4
    go_wp2_with (fail)
    go_at_call 7
    refine (awake_calls w4).mono ?_
    rintro e w5 ⟨rfl, hb5⟩
    have HB5 := Aside0.mk (HB4.out.trans (hb5.mono HB4.out.size))
    clear hb5
    go_wp2
    go_ret
    exact ⟨rfl, HB5.out⟩

theorem matchSlots_walk (W : World) (a : Option Addr) (len cap : Nat) (zs : List Int) (h : IsRow .u8 W a len cap zs) (y : len * 1 ≤ 140737488351232) (ho : ∀ ad, a = some ad → ad.block < W.heap.size) :
    Calls Try.prog 3 #[.slice a len cap] W fun e w' => e = .returned (.bool true) ∧ Below W.heap.size W w' := by
  obtain ⟨ms, rfl, hc, hm, -⟩ := masks_of_row h ho
  exact matchSlots_at a cap ms W hm hc
end Go.Proofs.Ytjmcdlehjgngfaa
