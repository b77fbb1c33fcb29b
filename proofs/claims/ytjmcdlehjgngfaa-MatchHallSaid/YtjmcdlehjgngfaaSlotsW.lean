/- match.Slots, walked: it computes slotsC. -/
import Derived.Test.YtjmcdlehjgngfaaSlotsC
import Derived.Deep.DeepMust
namespace Go.Proofs.Ytjmcdlehjgngfaa
open Go.RowKit Go.Proofs.YtjmcdlehjgngfaaW.PrintWords Go.Proofs.YtjmcdlehjgngfaaW.PrintLast Go.Proofs.YtjmcdlehjgngfaaW.PrintMore
set_option linter.unusedVariables false
set_option linter.unusedSimpArgs false

theorem info3 : (Try.prog.info? 3).map (fun i => (i.zero, i.size, i.bytes)) = some (some (.int .i64 0), 1, 8) := by kernel_rfl

set_option maxHeartbeats 16000000 in
set_option maxRecDepth 100000 in
theorem slots_yes (mc : Nat) (A : Option Addr) (cap : Nat) (ms : List Int) (res : List Nat) (w : World) (hm : Bits mc ms)
    (hr : ReadsInt w .u8 A ms.length ms) (ha : ∀ ad, A = some ad → ad.block < w.heap.size) (few : ms.length ≤ 4) (h : fitsC mc ms.length = some true) (hsl : slotsC mc ms.length 6 0 [] = some res) :
    Calls Try.prog 8 #[.slice A ms.length cap] w (SlotsPost w.heap.size res w) := by
  have HM := Aside0.mk hm
  have HR := Lib.hid hr
  have HA := Lib.hid ha
  have HH := Aside0.mk h
  have FW := Aside0.mk few
  have H' := Aside0.mk hsl
  obtain ⟨i0, hi0, hz0, hz1, hz2⟩ := info_parts info3
  clear hm hr ha h few hsl
  go_enter Try.func8, Try.ntmps8
  go_wp2_with (fail)
  go_at_call 11
  refine (fits_any mc A cap ms true w (fun _ => HM.out) HR.out HA.out HH.out).mono ?_
  rintro e w1 ⟨rfl, hB⟩
  have hB1 := Aside0.mk hB
  clear hB
  go_wp2_with (fail)
  go_loopg [4, 5, 6, 7, 13, 18] 6 (fun gq v4 v5 v6 v7 v13 v18 w' => ∃ (i : Nat) (fs : List Nat), v13 = .int .i64 i ∧ Aside0 (i = fs.length) ∧ Aside0 (slotsC mc ms.length gq i fs = some res) ∧ Aside0 (∀ s ∈ fs, s < 4) ∧ Aside0 (w'.ownsRow w.heap.size 3 1 v4 fs.length (nums .i64 (ints fs))) ∧ Aside0 (Below w.heap.size w w') ∧ Aside0 (gq ≤ 6))
  case atStart => exact ⟨0, [], rfl, ⟨rfl⟩, H', ⟨fun s hs => by cases hs⟩, ⟨World.ownsRow_nil _ _ _ _⟩, hB1, ⟨Nat.le_refl _⟩⟩
  case round =>
    clear H' hB1
    obtain ⟨i, fs, rfl, hif, HA1, H4, hown, hbel, HK⟩ := hrel
    cases gk with
    | zero => exact absurd HA1.out (by simp [slotsC])
    | succ g1 =>
      have H := HA1.out
      clear HA1
      simp only [slotsC] at H
      cases hlt : Nat.blt i ms.length with
      | false =>
        rw [hlt, cond_false] at H
        simp only [Option.some.injEq] at H
        have hge : ¬ i < ms.length := fun hh => by rw [Nat.blt_eq.symm.mp hh] at hlt; cases hlt
        have t1 : decide (i < ms.length) = false := decide_eq_false hge
        have hown2 := Aside0.mk (H ▸ hown.out)
        clear hlt hge H hown
        go_wp2
        go_ret2
        exact ⟨_, rfl, hown2.out, hbel.out⟩
      | true =>
        rw [hlt, cond_true] at H
        have hl : i < ms.length := Nat.blt_eq.mp hlt
        have hl' : (i : Int) < ms.length := by omega
        have hi4 : (i : Int) < 4 := by have := FW.out; omega
        have t1 : decide (i < ms.length) = true := decide_eq_true hl
        cases hinn : innerC mc ms.length i fs 5 0 with
        | none => rw [hinn] at H; cases H
        | some fs2 =>
          rw [hinn] at H
          have Hn := Aside0.mk (show slotsC mc ms.length g1 (i + 1) fs2 = some res from H)
          have HI := Aside0.mk hinn
          clear H hinn hlt
          obtain ⟨ad, rfl, hcell⟩ := (HR.out.below hbel.out).at_ i (by omega) (by omega)
          simp only [Int.toNat_natCast] at hcell
          have hlen := hif.out
          have hown' := hown.out
          rw [← hlen] at hown'
          obtain ⟨Ao, co, rfl, hco, hrd, hno⟩ := own_shape hown'
          have hown1 := Aside0.mk hown'
          have hco' := Aside0.mk hco
          have hno' := Aside0.mk hno
          clear hown hown' hrd hco hno hlen
          go_wp2_with (fail)
          obtain ⟨wo, hwo⟩ : ∃ wo : World, wo = wr := ⟨_, rfl⟩
          rw [← hwo] at hown1 hbel ⊢
          clear hcell hwo
          go_loopg [4, 7, 18] 5 (fun gq v4 v7 v18 w' => ∃ (k : Nat), v4 = .slice Ao i co ∧ v18 = .int .i64 k ∧ Aside0 (k ≤ 4) ∧ Aside0 (innerC mc ms.length i fs gq k = some fs2) ∧ Aside0 (w'.ownsRow w.heap.size 3 1 (.slice Ao i co) i (nums .i64 (ints fs))) ∧ Aside0 (Below w.heap.size w w') ∧ Aside0 (gq ≤ 5))
          case atStart => exact ⟨0, rfl, rfl, ⟨by omega⟩, HI, hown1, hbel, ⟨Nat.le_refl _⟩⟩
          case round =>
            clear HI hown1 hbel
            obtain ⟨k, rfl, rfl, hk4, HI, hown1, hbel, HK2⟩ := hrel
            cases gk with
            | zero => exact absurd HI.out (by simp [innerC])
            | succ g2 =>
              have H := HI.out
              clear HI
              simp only [innerC] at H
              cases hk : Nat.blt k 4 with
              | false => rw [hk, cond_false] at H; cases H
              | true =>
                rw [hk, cond_true] at H
                have hk4' : k < 4 := Nat.blt_eq.mp hk
                have hk4i : (k : Int) < 4 := by omega
                have hbit := HM.out i hl k hk4'
                cases hh : has mc i k with
                | false =>
                  rw [hh] at H hbit
                  simp only [Bool.false_and, cond_false, Bool.false_eq_true, if_false] at H hbit
                  have t2 : (bits BinOp.and IntKind.u8 (rd ms ↑i / 2 ^ k) 1 == 1) = false := by rw [hbit]; rfl
                  have HN := Aside0.mk H
                  clear H hbit hh hk
                  go_wp2_with (fail)
                  go_roundg g2
                  case measure => have := HK2.out; omega
                  case rel => exact ⟨k + 1, rfl, by go_num, ⟨by omega⟩, HN, hown1, hbel, ⟨by have := HK2.out; omega⟩⟩
                | true =>
                  rw [hh] at H hbit
                  simp only [Bool.true_and, if_true] at H hbit
                  have t2 : (bits BinOp.and IntKind.u8 (rd ms ↑i / 2 ^ k) 1 == 1) = true := by rw [hbit]; rfl
                  cases hme : memC fs k with
                  | true =>
                    rw [hme] at H
                    simp only [Bool.not_true, cond_false] at H
                    have HN := Aside0.mk H
                    clear H hbit hh hk
                    go_wp2_with (fail)
                    go_at_call 12
                    refine (free_any fs k i co Ao _ (by have := FW.out; have := hif.out; omega) hif.out hco'.out (reads_own hown1.out)).mono ?_
                    rw [hme]
                    rintro e w2 ⟨rfl, hb⟩
                    have hown2 := Aside0.mk (pw_own_below hown1.out hb)
                    have hbel2 := Aside0.mk (hbel.out.trans (hb.mono hbel.out.size))
                    clear hb hown1 hbel hme
                    go_wp2_with (fail)
                    go_roundg g2
                    case measure => have := HK2.out; omega
                    case rel => exact ⟨k + 1, rfl, by go_num, ⟨by omega⟩, HN, hown2, hbel2, ⟨by have := HK2.out; omega⟩⟩
                  | false =>
                    rw [hme] at H
                    simp only [Bool.not_false, cond_true] at H
                    cases hall : allC mc (i + 1) ms.length 10 (i + 1) (begC (fs ++ [k]) 0 0) with
                    | none => rw [hall] at H; cases H
                    | some rb =>
                      rw [hall] at H
                      have HAL := Aside0.mk hall
                      clear hbit hh hk hall
                      go_wp2_with (fail)
                      go_at_call 12
                      refine (free_any fs k i co Ao _ (by have := FW.out; have := hif.out; omega) hif.out hco'.out (reads_own hown1.out)).mono ?_
                      rw [hme]
                      rintro e w2 ⟨rfl, hb⟩
                      have hown2 := Aside0.mk (pw_own_below hown1.out hb)
                      have hbel2 := Aside0.mk (hbel.out.trans (hb.mono hbel.out.size))
                      clear hb hown1 hbel hme
                      have hco2 : (i : Int) ≤ co := by have := hco'.out; omega
                      have hal := Below.alloc (Below.refl w2.heap.size w2) (Nat.le_refl _) (.cells #[.int .i64 k] 3 (0, 0))
                      have F1 := Aside0.mk (show Ao = none → i = 0 ∧ i = 0 from fun hh => ⟨(hno'.out hh).1, (hno'.out hh).1⟩)
                      have F2 := Aside0.mk (nums_len fs i hif.out)
                      have F3 := Aside0.mk (nums_cells ((reads_own hown2.out).below hal))
                      have F4 := Aside0.mk (one_cell_new w2 (.int .i64 k) 3)
                      have F5 := Aside0.mk (show i + 1 ≤ maxLen by simp only [maxLen]; omega)
                      have F6 := Aside0.mk (show (i + 1) * 8 ≤ 140737488355328 by omega)
                      have hal' := Aside0.mk hal
                      clear hal
                      go_wp2_with (first | ((with_reducible refine gate_builtin (b := .append) rfl ?_); go_must (refine wpList_grows_g _ (by rfl) (.tmp 36) (.tmp 38) 24 rfl 3 i0 (.int .i64 0) 1 8 Try.underlying24 hi0 hz0 hz1 hz2 rfl (by decide) Ao i i (nums .i64 (ints fs)) rfl F1.out F2.out F3.out ⟨w2.heap.size, 0, none⟩ 1 1 [.int .i64 k] rfl rfl F4.out (by simp [Value.oneCell']) (Nat.lt_succ_self i) F5.out F6.out ?_); intro v3 w3 hown3 hg3))
                      rw [nums_snoc] at hown3
                      have hbel3 := Aside0.mk (pw_below_grown (hbel2.out.alloc hbel2.out.size (.cells #[.int .i64 k] 3 (0, 0))) none (Nat.le_trans hbel2.out.size (by simp)) hg3 (fun _ hh => by cases hh))
                      have hown2' := Aside0.mk (own_apart (pw_own_below hown2.out hal'.out) hg3)
                      obtain ⟨A3, c3, rfl, hc3, hr3, -⟩ := own_shape hown3
                      have hr3' := Aside0.mk hr3
                      clear hown3 hg3 hal' F1 F2 F3 F4 hown2 hbel2 hc3 hr3
                      have hl3 : i + 1 = (fs ++ [k]).length := by rw [List.length_append, ← hif.out]; rfl
                      have hrm := Aside0.mk (HR.out.below hbel3.out)
                      have ham := Aside0.mk (show ∀ a', some ad = some a' → a'.block < w3.heap.size from fun a' ha' => Nat.lt_of_lt_of_le (HA.out a' ha') hbel3.out.size)
                      have h4m := Aside0.mk (show ∀ s ∈ fs ++ [k], s < 4 from fun s hs => by
                        rcases List.mem_append.1 hs with hs | hs
                        · exact H4.out s hs
                        · rw [List.mem_singleton.1 hs]; exact hk4')
                      go_at_call 13
                      have hbg := begun_any (some ad) cap ms A3 c3 (fs ++ [k]) w3 hrm.out ham.out FW.out (by rw [← hl3]; exact hr3'.out) (by rw [← hl3]; omega) h4m.out
                      rw [← hl3] at hbg
                      refine hbg.mono ?_
                      clear hbg
                      rintro e w4 ⟨b, rfl, hb, hp, hB⟩
                      have hp4 := Aside0.mk hp
                      have hbel4 := Aside0.mk (hbel3.out.trans (hB.mono hbel3.out.size))
                      have hown4 := Aside0.mk (pw_own_below hown2'.out hB)
                      have hbw := Aside0.mk (Nat.le_trans hbel3.out.size hb)
                      have hbb := Aside0.mk (show ∀ x, Ao = some x → x.block < b from fun x hx => Nat.lt_of_lt_of_le (own_under hown2'.out x hx) hb)
                      clear hp hB hb hown2' hrm ham h4m hl3
                      go_wp2_with (fail)
                      go_at_call 14
                      have hcall := all_any mc (i + 1) 10 b (some ad) cap ms (begC (fs ++ [k]) 0 0) rb w4 HM.out hp4.out HAL.out
                      have ec : ((i + 1 : Nat) : Int) = (i : Int) + 1 := by omega
                      rw [ec] at hcall
                      refine hcall.mono ?_
                      clear hcall ec
                      rintro e w5 ⟨rfl, h5⟩
                      have hown5 := Aside0.mk (own_far hown4.out h5.grown hbb.out)
                      have hbel5 := Aside0.mk (But1.below hbel4.out h5 hbw.out)
                      clear h5 hown4 hbel4 hp4 hbw hbb
                      cases rb with
                      | false =>
                        simp only at H
                        have HN := Aside0.mk H
                        clear H
                        go_wp2_with (fail)
                        go_roundg g2
                        case measure => have := HK2.out; omega
                        case rel => exact ⟨k + 1, rfl, by go_num, ⟨by omega⟩, HN, hown5, hbel5, ⟨by have := HK2.out; omega⟩⟩
                      | true =>
                        simp only [Option.some.injEq] at H
                        subst H
                        have hown6 := Aside0.mk (pw_own_below hown5.out (Below.alloc (Below.refl w5.heap.size w5) (Nat.le_refl _) (.cells #[.int .i64 k] 3 (0, 0))))
                        have F4 := Aside0.mk (one_cell_new w5 (.int .i64 k) 3)
                        have F7 := Aside0.mk (show w.heap.size ≤ (w5.alloc (.cells #[.int .i64 k] 3 (0, 0))).heap.size from Nat.le_trans hbel5.out.size (by simp))
                        go_wp2_with (first | ((with_reducible refine gate_builtin (b := .append) rfl ?_); go_must (refine wpList_append_own _ rfl (.tmp 45) (.tmp 47) 24 rfl w.heap.size 3 i0 (.int .i64 0) 1 8 Try.underlying24 hi0 hz0 hz1 hz2 rfl (by decide) (.slice Ao i co) i (nums .i64 (ints fs)) rfl hown6.out ⟨w5.heap.size, 0, none⟩ 1 1 [.int .i64 k] rfl rfl F4.out (by simp [Value.oneCell']) F5.out F6.out F7.out ?_); intro v6 w6 hown7 hg6 _))
                        rw [nums_snoc] at hown7
                        have hl3 : i + 1 = (fs ++ [k]).length := by rw [List.length_append, ← hif.out]; rfl
                        have hown8 := Aside0.mk (hl3 ▸ hown7)
                        have hbel6 := Aside0.mk ((hbel5.out.alloc hbel5.out.size (.cells #[.int .i64 k] 3 (0, 0))).grown hg6 F7.out (fun k' hk' => own_base hown6.out k' hk'))
                        have h4m := Aside0.mk (show ∀ s ∈ fs ++ [k], s < 4 from fun s hs => by
                          rcases List.mem_append.1 hs with hs | hs
                          · exact H4.out s hs
                          · rw [List.mem_singleton.1 hs]; exact hk4')
                        clear hown7 hg6 hown5 hbel5 hown6 F4 F5 F6 F7
                        go_roundg g1
                        case measure => have := HK.out; omega
                        case rel => exact ⟨i + 1, fs ++ [k], by go_num, ⟨hl3⟩, Hn, h4m, hown8, hbel6, ⟨by have := HK.out; omega⟩⟩
end Go.Proofs.Ytjmcdlehjgngfaa
