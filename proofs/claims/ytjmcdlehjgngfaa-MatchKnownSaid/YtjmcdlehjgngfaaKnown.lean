/- MatchKnown, walked: the chapter's examples come out as they stand. -/
import Derived.Test.YtjmcdlehjgngfaaAwake
namespace Go.Proofs.Ytjmcdlehjgngfaa
open Go.RowKit Go.Proofs.YtjmcdlehjgngfaaW.PrintWords Go.Proofs.YtjmcdlehjgngfaaW.PrintLast Go.Proofs.YtjmcdlehjgngfaaW.PrintMore
set_option linter.unusedVariables false
set_option linter.unusedSimpArgs false

theorem Slots_none (w : World) : Calls Try.prog 8 #[.slice none 0 0] w (SlotsAns true [] w) := by
  have h := Slots_any none 0 [] w ⟨reads_nil _ _, fun ad e => (by cases e), fun i hi => absurd hi (by simp)⟩
  have e : ansC [] = (true, []) := by kernel_rfl
  rw [e] at h
  exact h

set_option maxHeartbeats 8000000 in
set_option maxRecDepth 100000 in
theorem matchKnown_walk (w : World) : Calls Try.prog 4 #[] w fun e w' => e = .returned (.bool true) ∧ Below w.heap.size w w' := by
  go_enter Try.func4, Try.ntmps4
  go_wp2_with (fail)
  go_at_call 8
  refine (Slots_lit w [12, 8, 3] true [2, 3, 0] (by decide) (by decide) (by kernel_rfl)).mono ?_
  rintro e w1 ⟨A1, c1, rfl, hc1, hr1, hb1⟩
  have HR1 := Aside0.mk hr1
  have HC1 := Aside0.mk hc1
  have HB1 := Aside0.mk hb1
  clear hr1 hc1 hb1
  go_wp2_with (fail)
  go_at_call 8
  refine (Slots_none w1).mono ?_
  rintro e w2 ⟨A2, c2, rfl, -, -, hb2⟩
  have HR2 := Aside0.mk (HR1.out.below hb2)
  have HB2 := Aside0.mk (HB1.out.trans (hb2.mono HB1.out.size))
  clear hb2 HR1 HB1
  go_wp2_with (fail)
  go_at_call 8
  refine (Slots_lit w2 [0] false [] (by decide) (by decide) (by kernel_rfl)).mono ?_
  rintro e w3 ⟨A3, c3, rfl, -, -, hb3⟩
  have HR3 := Aside0.mk (HR2.out.below hb3)
  have HB3 := Aside0.mk (HB2.out.trans (hb3.mono HB2.out.size))
  clear hb3 HR2 HB2
  go_wp2_with (fail)
  go_at_call 8
  refine (Slots_lit w3 [15, 15, 15, 15, 15] false [] (by decide) (by decide) (by kernel_rfl)).mono ?_
  rintro e w4 ⟨A4, c4, rfl, -, -, hb4⟩
  have HR4 := Aside0.mk (HR3.out.below hb4)
  have HB4 := Aside0.mk (HB3.out.trans (hb4.mono HB3.out.size))
  clear hb4 HR3 HB3
  go_wp2_with (fail)
  go_at_call 8
  refine (Slots_lit w4 [243, 241, 12, 15] true [1, 0, 2, 3] (by decide) (by decide) (by kernel_rfl)).mono ?_
  rintro e w5 ⟨A5, c5, rfl, hc5, hr5, hb5⟩
  have HR5 := Aside0.mk (HR4.out.below hb5)
  have HS5 := Aside0.mk hr5
  have HC5 := Aside0.mk hc5
  have HB5 := Aside0.mk (HB4.out.trans (hb5.mono HB4.out.size))
  clear hb5 HR4 HB4 hr5 hc5
  go_wp2_with (fail)
  go_at_call 10
  refine (same_lit w5 [2, 3, 0] A1 c1 (by decide) HC1.out HR5.out).mono ?_
  rintro e w6 ⟨rfl, hb6⟩
  have HS6 := Aside0.mk (HS5.out.below hb6)
  have HB6 := Aside0.mk (HB5.out.trans (hb6.mono HB5.out.size))
  clear hb6 HB5 HR5 HS5
  go_wp2_with (fail)
  go_at_call 10
  refine (same_lit w6 [1, 0, 2, 3] A5 c5 (by decide) HC5.out HS6.out).mono ?_
  rintro e w7 ⟨rfl, hb7⟩
  have HB7 := Aside0.mk (HB6.out.trans (hb7.mono HB6.out.size))
  clear hb7 HB6 HS6
  go_wp2_with (fail)
  go_at_call 7
  refine (awake_calls w7).mono ?_
  rintro e w8 ⟨rfl, hb8⟩
  have HB8 := Aside0.mk (HB7.out.trans (hb8.mono HB7.out.size))
  clear hb8 HB7
  go_wp2
  go_ret
  exact ⟨rfl, HB8.out⟩
end Go.Proofs.Ytjmcdlehjgngfaa
