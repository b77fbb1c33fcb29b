/- MatchHall, walked. -/
import Derived.Test.YtjmcdlehjgngfaaHallP
import Derived.Test.YtjmcdlehjgngfaaAwake
import Derived.Test.YtjmcdlehjgngfaaOld
import Derived.Deep.DeepMust
namespace Go.Proofs.Ytjmcdlehjgngfaa
open Go.RowKit Go.Proofs.YtjmcdlehjgngfaaW.PrintWords Go.Proofs.YtjmcdlehjgngfaaW.PrintLast Go.Proofs.YtjmcdlehjgngfaaW.PrintMore
set_option linter.unusedVariables false
set_option linter.unusedSimpArgs false

theorem wsuc (i : Nat) (hi : i < 1000) : wrap64 ((i : Int) + 1) = ((i + 1 : Nat) : Int) := by unfold wrap64; omega
theorem and1_64 : ∀ x, x < 512 → bits .and .i64 (x : Nat) 1 = ((x % 2 : Nat) : Int) := by decide +kernel
theorem and1_8 : ∀ x, x < 16 → bits .and .u8 (x : Nat) 1 = ((x % 2 : Nat) : Int) := by decide +kernel
theorem or_8 : ∀ a, a < 16 → ∀ b, b < 16 → bits .or .u8 (a : Nat) (b : Nat) = ((a ||| b : Nat) : Int) := by decide +kernel
theorem or_64 : ∀ a, a < 16 → ∀ k, k < 4 → sawn a k = false → bits .or .i64 (a : Nat) ((2 ^ k : Nat) : Int) = ((a + 2 ^ k : Nat) : Int) := by decide +kernel
theorem and15 (x : Int) (h0 : 0 ≤ x) (h1 : x < 256) : bits .and .u8 x 15 = x % 16 := bits_mask .u8 8 (by decide) wraps_u8 4 (by decide) x h0 h1
def popS (a : Nat) : Nat → Nat
  | 0 => 0
  | s + 1 => popS a s + a / 2 ^ s % 2
theorem popS_four (a : Nat) : popS a 4 = popc a := by
  unfold popc
  simp only [popS, Nat.pow_zero, Nat.div_one, Nat.reducePow]
  omega
theorem popS_le (a : Nat) : ∀ s, popS a s ≤ s
  | 0 => Nat.le_refl _
  | s + 1 => by have := popS_le a s; unfold popS; omega

theorem shl_eq (n : Nat) (h : n ≤ 8) : wrap64 (2 ^ min n 64) = ((2 ^ n : Nat) : Int) := by
  rcases (show n = 0 ∨ n = 1 ∨ n = 2 ∨ n = 3 ∨ n = 4 ∨ n = 5 ∨ n = 6 ∨ n = 7 ∨ n = 8 by omega) with rfl | rfl | rfl | rfl | rfl | rfl | rfl | rfl | rfl <;> decide +kernel
theorem bit_at (P i : Nat) (h : P < 512) (hi : i < 64) : bits BinOp.and IntKind.i64 ((P : Int) / 2 ^ min i 64) 1 = ((P / 2 ^ i % 2 : Nat) : Int) := by
  rw [Nat.min_eq_left (by omega)]
  have hd : ((P : Int) / 2 ^ i) = ((P / 2 ^ i : Nat) : Int) := by simp
  rw [hd]
  exact and1_64 _ (Nat.lt_of_le_of_lt (Nat.div_le_self _ _) h)
theorem fin_step (n mc P i c a : Nat) (hi : i < n) : fin (n - i) (mc / 16 ^ i) (P / 2 ^ i) c a = fin (n - (i + 1)) (mc / 16 ^ (i + 1)) (P / 2 ^ (i + 1)) (c + P / 2 ^ i % 2) (if P / 2 ^ i % 2 = 1 then a ||| (mc / 16 ^ i % 16) else a) := by
  obtain ⟨d, hd⟩ : ∃ d, n - i = d + 1 := ⟨n - i - 1, by omega⟩
  have hd' : n - (i + 1) = d := by omega
  rw [hd, hd', Nat.pow_succ, Nat.pow_succ, ← Nat.div_div_eq_div_mul, ← Nat.div_div_eq_div_mul]
  rfl

theorem or_at (ms : List Int) (mc i a : Nat) (ha : a < 16) (hc : mc / 16 ^ i % 16 = (rd ms i % 16).toNat) (hw : 0 ≤ rd ms i ∧ rd ms i < 256) : bits BinOp.or IntKind.u8 (a : Int) (bits BinOp.and IntKind.u8 (rd ms i) 15) = ((a ||| (mc / 16 ^ i % 16) : Nat) : Int) := by
  rw [and15 _ hw.1 hw.2]
  have e : rd ms i % 16 = ((mc / 16 ^ i % 16 : Nat) : Int) := by rw [hc]; omega
  rw [e]
  exact or_8 a ha _ (by omega)
theorem bit_at8 (a s : Nat) (h : a < 16) (hs : s < 8) : bits BinOp.and IntKind.u8 ((a : Int) / 2 ^ s) 1 = ((a / 2 ^ s % 2 : Nat) : Int) := by
  have hd : ((a : Int) / 2 ^ s) = ((a / 2 ^ s : Nat) : Int) := by simp
  rw [hd]
  exact and1_8 _ (Nat.lt_of_le_of_lt (Nat.div_le_self _ _) h)
theorem pop_next (a s : Nat) (hs : s < 100) : Value.int .i64 (wrap64 ((popS a s : Nat) + wrap64 ((a / 2 ^ s % 2 : Nat) : Int))) = Value.int .i64 ((popS a (s + 1) : Nat) : Int) := by
  have := popS_le a s
  have e : popS a (s + 1) = popS a s + a / 2 ^ s % 2 := rfl
  rw [e]
  congr 1
  unfold wrap64
  omega

theorem pop_next2 (a s : Nat) (hs : s < 100) : Value.int .i64 (wrap64 ((popS a s : Nat) + (a : Int) / 2 ^ s % 2)) = Value.int .i64 ((popS a (s + 1) : Nat) : Int) := by
  have hd : ((a : Int) / 2 ^ s % 2) = ((a / 2 ^ s % 2 : Nat) : Int) := by simp
  rw [hd]
  have := popS_le a s
  have e : popS a (s + 1) = popS a s + a / 2 ^ s % 2 := rfl
  rw [e]
  congr 1
  unfold wrap64
  omega

theorem mask_bit (m : Int) (h0 : 0 ≤ m) (h1 : m < 256) (k : Nat) (hk : k < 4) (h : (m % 16).toNat / 2 ^ k % 2 = 1) : (bits BinOp.and IntKind.u8 (m / 2 ^ min k 8) 1 == 0) = false := by
  obtain ⟨m, rfl⟩ := Int.eq_ofNat_of_zero_le h0
  have e : (((m : Int) % 16).toNat) = m % 16 := by omega
  rw [e] at h
  have hm : m < 256 := by omega
  have hb : m % 16 / 2 ^ k % 2 = m / 2 ^ k % 2 := by
    rcases (show k = 0 ∨ k = 1 ∨ k = 2 ∨ k = 3 by omega) with rfl | rfl | rfl | rfl <;> simp only [Nat.reducePow] <;> omega
  rw [hb] at h
  rw [Nat.min_eq_left (by omega)]
  have hd : ((m : Int) / 2 ^ k) = ((m / 2 ^ k : Nat) : Int) := by simp
  have hlt : m / 2 ^ k < 256 := Nat.lt_of_le_of_lt (Nat.div_le_self _ _) hm
  rw [hd, and_one _ (Int.natCast_nonneg _) (by generalize m / 2 ^ k = y at hlt; omega)]
  generalize m / 2 ^ k = y at h
  rw [beq_eq_false_iff_ne]
  omega
theorem seen_bit : ∀ u, u < 16 → ∀ k, k < 4 → sawn u k = false → (bits BinOp.and IntKind.i64 ((u : Nat) / 2 ^ min k 64) 1 == 1) = false := by decide +kernel

theorem shl4 : ∀ k, k < 4 → wrap64 (2 ^ k) = ((2 ^ k : Nat) : Int) := by decide +kernel

set_option maxHeartbeats 16000000 in
set_option maxRecDepth 100000 in
theorem matchHall_few (A : Option Addr) (cap : Nat) (ms : List Int) (w : World) (hm : MasksAt w A ms) (h8 : ms.length ≤ 8) :
    Calls Try.prog 5 #[.slice A ms.length cap] w fun e w' => e = .returned (.bool true) ∧ Below w.heap.size w w' := by
  have HM := Lib.hid hm
  have H8 := Lib.hid h8
  have HAL := Lib.hid (hall_ans ms)
  have HC := Lib.hid (code_at ms)
  have h8b : decide ((8 : Int) < (ms.length : Int)) = false := decide_eq_false (by omega)
  have hpw : 2 ^ ms.length ≤ 256 := Nat.pow_le_pow_right (by decide) h8
  have HPW := Lib.hid hpw
  generalize hmc : codeOf ms = mc at HAL HC
  clear hm h8 hpw
  go_enter Try.func5, Try.ntmps5
  go_wp2_with (fail)
  clear h8b
  go_loopg [3, 4, 5, 6, 7, 8, 9] 258 (fun gq v3 v4 v5 v6 v7 v8 v9 w' => ∃ (P : Nat), v4 = .int .i64 P ∧ v3 = .bool (hallTo ms.length mc P) ∧ Aside0 (P + gq = 258) ∧ Aside0 (P ≤ 2 ^ ms.length) ∧ w = w')
  case atStart => exact ⟨0, rfl, rfl, ⟨rfl⟩, ⟨Nat.zero_le _⟩, rfl⟩
  case round =>
    obtain ⟨P, rfl, rfl, hg, hP, rfl⟩ := hrel
    have hsh : wrap64 (2 ^ min ms.length 64) = ((2 ^ ms.length : Nat) : Int) := shl_eq ms.length H8.out
    by_cases hlt : P < 2 ^ ms.length
    · have t0 : decide ((P : Int) < wrap64 (2 ^ min ms.length 64)) = true := by rw [hsh]; exact decide_eq_true (by exact Int.ofNat_lt.mpr hlt)
      obtain ⟨g0, rfl⟩ : ∃ m, gk = m + 1 := ⟨gk - 1, by have := hg.out; have := HPW.out; omega⟩
      have HP5 := Lib.hid (show P < 512 by have := HPW.out; omega)
      clear hsh
      go_wp2_with (fail)
      go_loopg [5, 6, 7] 9 (fun gq v5 v6 v7 w' => ∃ (i c a : Nat), v7 = .int .i64 i ∧ v5 = .int .i64 c ∧ v6 = .int .u8 a ∧ Aside0 (i + gq = 9) ∧ Aside0 (i ≤ ms.length) ∧ Aside0 (c ≤ i) ∧ Aside0 (a < 16) ∧ Aside0 (fin (ms.length - i) (mc / 16 ^ i) (P / 2 ^ i) c a = fin ms.length mc P 0 0) ∧ w = w')
      case atStart => exact ⟨0, 0, 0, rfl, rfl, rfl, ⟨rfl⟩, ⟨Nat.zero_le _⟩, ⟨Nat.le_refl _⟩, ⟨by decide⟩, ⟨by simp⟩, rfl⟩
      case round =>
        obtain ⟨i, c, a, rfl, rfl, rfl, hgi, hi, hci, ha, hf, rfl⟩ := hrel
        by_cases hil : i < ms.length
        · have t1 : decide ((i : Int) < (ms.length : Int)) = true := decide_eq_true (by omega)
          have hstep := fin_step ms.length mc P i c a hil
          rw [hf.out] at hstep
          have HST := Aside0.mk hstep
          have hpb := bit_at P i HP5.out (by have := H8.out; omega)
          obtain ⟨ad, rfl, hcell⟩ := HM.out.reads.at_ i (by omega) (by omega)
          simp only [Int.toNat_natCast] at hcell
          obtain ⟨g1, rfl⟩ : ∃ m, gk = m + 1 := ⟨gk - 1, by have := hgi.out; have := H8.out; omega⟩
          clear hstep
          by_cases hb : P / 2 ^ i % 2 = 1
          · have t2 : (bits BinOp.and IntKind.i64 ((P : Int) / 2 ^ min i 64) 1 == 1) = true := by rw [hpb, hb]; rfl
            clear hpb
            have hor := or_at ms mc i a ha.out (HC.out i hil) (HM.out.wide i hil)
            rw [hb, if_pos rfl] at HST
            have HST' := Aside0.mk HST.out.symm
            clear HST hf
            go_wp2_with (fail)
            go_roundg g1
            case measure => omega
            case rel => exact ⟨i + 1, c + 1, a ||| (mc / 16 ^ i % 16), by rw [wsuc i (by have := H8.out; omega)], by rw [wsuc c (by have := H8.out; have := hci.out; omega)], by first | rfl | rw [hor], ⟨by have := hgi.out; omega⟩, ⟨by omega⟩, ⟨by have := hci.out; omega⟩, ⟨lor_lt ha.out (by omega)⟩, HST', rfl⟩
          · have hb0 : P / 2 ^ i % 2 = 0 := by omega
            have t2 : (bits BinOp.and IntKind.i64 ((P : Int) / 2 ^ min i 64) 1 == 1) = false := by rw [hpb, hb0]; rfl
            clear hpb
            rw [hb0, if_neg (by decide)] at HST
            have HST' := Aside0.mk HST.out.symm
            clear HST hf
            go_wp2_with (fail)
            go_roundg g1
            case measure => omega
            case rel => exact ⟨i + 1, c, a, by rw [wsuc i (by have := H8.out; omega)], rfl, rfl, ⟨by have := hgi.out; omega⟩, ⟨by omega⟩, ⟨by have := hci.out; omega⟩, ha, HST', rfl⟩
        · have hin : i = ms.length := by have := hi.out; omega
          subst hin
          have t1 : decide ((ms.length : Int) < (ms.length : Int)) = false := decide_eq_false (by omega)
          have hfe := hf.out
          rw [Nat.sub_self] at hfe
          have HFE := Aside0.mk (show (c, a) = fin ms.length mc P 0 0 from hfe)
          clear hfe hf hil hgi hi
          go_wp2_with (fail)
          go_loopg [8, 9] 5 (fun gq v8 v9 w' => ∃ (s : Nat), v9 = .int .i64 s ∧ v8 = .int .i64 (popS a s) ∧ Aside0 (s + gq = 5) ∧ Aside0 (s ≤ 4) ∧ w = w')
          case atStart => exact ⟨0, rfl, rfl, ⟨rfl⟩, ⟨by decide⟩, rfl⟩
          case round =>
            obtain ⟨s, rfl, rfl, hgs, hs, rfl⟩ := hrel
            by_cases hs4 : s < 4
            · have t3 : decide ((s : Int) < 4) = true := decide_eq_true (by omega)
              have hbs := bit_at8 a s ha.out (by omega)
              obtain ⟨g1, rfl⟩ : ∃ m, gk = m + 1 := ⟨gk - 1, by have := hgs.out; omega⟩
              go_wp2_with (fail)
              go_roundg g1
              case measure => omega
              case rel => exact ⟨s + 1, by first | rfl | (rw [wsuc s (by omega)]) | (congr 1; omega), by first | exact pop_next2 a s (by omega) | (rw [hbs]; exact pop_next a s (by omega)), ⟨by have := hgs.out; omega⟩, ⟨by omega⟩, rfl⟩
            · have hse : s = 4 := by have := hs.out; omega
              subst hse
              have hpop := popS_four a
              have hhv : hv ms.length mc P = decide (c ≤ popc a) := by
                unfold hv
                rw [← HFE.out, Bool.eq_iff_iff, Nat.ble_eq, decide_eq_true_iff]
              have hnext : hallTo ms.length mc (P + 1) = (hallTo ms.length mc P && decide (c ≤ popc a)) := by rw [← hhv]; rfl
              have HN := Aside0.mk hnext
              clear hhv hnext hs4 hs hgs
              cases hH : hallTo ms.length mc P with
              | false =>
                go_wp2_with (fail)
                go_roundg g0
                case measure => omega
                case rel => exact ⟨P + 1, by rw [wsuc P (by have := HPW.out; omega)], by rw [HN.out, hH]; rfl, ⟨by have := hg.out; omega⟩, ⟨by omega⟩, rfl⟩
              | true =>
                go_wp2_with (fail)
                go_roundg g0
                case measure => omega
                case rel => exact ⟨P + 1, by rw [wsuc P (by have := HPW.out; omega)], by rw [HN.out, hH]; rfl, ⟨by have := hg.out; omega⟩, ⟨by omega⟩, rfl⟩
    · have t0 : decide ((P : Int) < wrap64 (2 ^ min ms.length 64)) = false := by rw [hsh]; exact decide_eq_false (by have := Int.ofNat_le.mpr (Nat.not_lt.mp hlt); omega)
      have hPe : P = 2 ^ ms.length := by have := hP.out; omega
      have hval : hallTo ms.length mc P = (ansC ms).1 := by rw [hPe]; exact HAL.out
      rw [hval]
      clear hsh hPe hlt hP hg hval HAL
      have HS := Lib.hid (Slots_any A cap ms w HM.out)
      have HF := Lib.hid (fun (w1 : World) (hb : Below w.heap.size w w1) => Fits_any A cap ms w1 (HM.out.later hb))
      have HTG := Lib.hid (told_good ms)
      have HTN := Lib.hid (told_none ms)
      generalize (ansC ms).1 = b at HS HF HTG HTN ⊢
      generalize (ansC ms).2 = fs at HS HTG HTN
      go_wp2_with (fail)
      go_at_call 8
      refine HS.out.mono ?_
      rintro e w1 ⟨A1, c1, rfl, hc1, hr1, hb1⟩
      have HR1 := Aside0.mk hr1
      have HB1 := Aside0.mk hb1
      clear hr1 hc1 hb1 HS t0
      cases b with
      | false =>
        obtain rfl := HTN.out rfl
        go_wp2_with (fail)
        go_at_call 11
        refine (HF.out w1 HB1.out).mono ?_
        rintro e w2 ⟨rfl, hb2⟩
        have HB2 := Aside0.mk (HB1.out.trans (hb2.mono HB1.out.size))
        clear hb2
        go_wp2_with (fail)
        go_loopg [12, 13] 1 (fun gq v12 v13 w' => v12 = .int .i64 0 ∧ v13 = .int .i64 0 ∧ w2 = w')
        case atStart => exact ⟨rfl, rfl, rfl⟩
        case round =>
          obtain ⟨rfl, rfl, rfl⟩ := hrel
          go_wp2_with (fail)
          go_at_call 7
          refine (awake_calls w2).mono ?_
          rintro e w5 ⟨rfl, hb5⟩
          have HB5 := Aside0.mk (HB2.out.trans (hb5.mono HB2.out.size))
          clear hb5
          go_wp2
          go_ret
          exact ⟨rfl, HB5.out⟩
      | true =>
        obtain ⟨hlen, hgood⟩ := HTG.out rfl
        have HGO := Lib.hid hgood
        have HLE := Lib.hid hlen
        have hne : ((fs.length : Int) != (ms.length : Int)) = false := by rw [hlen]; exact bne_self_eq_false _
        clear hgood hlen HTG HTN
        go_wp2_with (fail)
        go_at_call 11
        refine (HF.out w1 HB1.out).mono ?_
        rintro e w2 ⟨rfl, hb2⟩
        have HB2 := Aside0.mk (HB1.out.trans (hb2.mono HB1.out.size))
        have HR2 := Aside0.mk (HR1.out.below hb2)
        clear hb2
        go_wp2_with (fail)
        go_loopg [12, 13] 9 (fun gq v12 v13 w' => ∃ (i : Nat), v13 = .int .i64 i ∧ v12 = .int .i64 (umC (fs.take i) 0 : Nat) ∧ Aside0 (i + gq = 9) ∧ Aside0 (i ≤ ms.length) ∧ Aside0 (Below w2.heap.size w2 w'))
        case atStart => exact ⟨0, rfl, rfl, ⟨rfl⟩, ⟨Nat.zero_le _⟩, ⟨by repeat (first | exact Below.refl _ _ | apply pw_below_drewN | apply below_drew1)⟩⟩
        case round =>
          obtain ⟨i, rfl, rfl, hgi, hi, hbel⟩ := hrel
          have hll := HLE.out
          by_cases hil : i < fs.length
          · have t1 : decide ((i : Int) < (fs.length : Int)) = true := decide_eq_true (by omega)
            have q0 : (0 ≤ (i : Int)) = True := eq_true (by omega)
            have q1 : ((i : Int) < (fs.length : Int)) = True := eq_true (by omega)
            have q2 : ((i : Int) < (ms.length : Int)) = True := eq_true (by omega)
            obtain ⟨hk4, hsw, hu, hhas⟩ := HGO.out i hil
            obtain ⟨adM, rfl, hcellM⟩ := (HM.out.reads.below (HB2.out.trans (hbel.out.mono HB2.out.size))).at_ i (by omega) (by omega)
            obtain ⟨adL, rfl, hcellL⟩ := (HR2.out.below hbel.out).at_ i (by omega) (by omega)
            rw [rd_ints fs i hil] at hcellL
            simp only [Int.toNat_natCast] at hcellM hcellL
            have hnx := umC_take fs i hil
            have HW := HM.out.wide i (by omega)
            generalize fs[i] = k at hk4 hsw hhas hcellL hnx
            generalize umC (fs.take i) 0 = u at hsw hu hnx ⊢
            have hor := or_64 u hu k hk4 hsw
            rw [← hnx] at hor
            have HNX := Aside0.mk hor
            rw [has_code ms i k (by omega) hk4] at hhas
            have ta : decide ((k : Int) < 0) = false := decide_eq_false (by omega)
            have tb : decide ((3 : Int) < (k : Int)) = false := decide_eq_false (by omega)
            have tc := mask_bit (rd ms i) HW.1 HW.2 k hk4 (Nat.eq_of_beq_eq_true hhas)
            have td := seen_bit u hu k hk4 hsw
            have tc2 := tc
            have td2 := td
            rw [Nat.min_eq_left (show k ≤ 8 by omega)] at tc2
            rw [Nat.min_eq_left (show k ≤ 64 by omega)] at td2
            clear hnx hor hhas hsw HW
            obtain ⟨g1, rfl⟩ : ∃ m, gk = m + 1 := ⟨gk - 1, by have := hgi.out; have := H8.out; omega⟩
            go_wp2_with (fail)
            go_quiet (fail)
            go_wp2_with (fail)
            go_roundg g1
            case measure => omega
            case rel => exact ⟨i + 1, by rw [wsuc i (by have := H8.out; omega)], by rw [shl4 k hk4, HNX.out], ⟨by have := hgi.out; omega⟩, ⟨by omega⟩, ⟨by repeat (first | exact hbel.out | apply pw_below_drewN | apply below_drew1)⟩⟩
          · have hin : i = fs.length := by have := hi.out; omega
            subst hin
            have t1 : decide ((fs.length : Int) < (fs.length : Int)) = false := decide_eq_false (by omega)
            have HB3 := Aside0.mk (HB2.out.trans (hbel.out.mono HB2.out.size))
            clear hbel HB2 hil hi hgi
            go_wp2_with (fail)
            go_at_call 7
            refine (awake_calls wr).mono ?_
            rintro e w5 ⟨rfl, hb5⟩
            have HB5 := Aside0.mk (HB3.out.trans (hb5.mono HB3.out.size))
            clear hb5
            go_wp2
            go_ret
            exact ⟨rfl, HB5.out⟩

set_option maxHeartbeats 8000000 in
set_option maxRecDepth 100000 in
theorem matchHall_many (A : Option Addr) (cap : Nat) (ms : List Int) (w : World) (h8 : ¬ ms.length ≤ 8) : Calls Try.prog 5 #[.slice A ms.length cap] w fun e w' => e = .returned (.bool true) ∧ Below w.heap.size w w' := by
  have h8b : decide ((8 : Int) < (ms.length : Int)) = true := decide_eq_true (by omega)
  clear h8
  go_enter Try.func5, Try.ntmps5
  go_wp2_with (fail)
  go_at_call 7
  refine (awake_calls w).mono ?_
  rintro e w1 ⟨rfl, hb⟩
  have HB := Aside0.mk hb
  clear hb
  go_wp2
  go_ret
  exact ⟨rfl, HB.out⟩

theorem matchHall_walk (W : World) (a : Option Addr) (len cap : Nat) (zs : List Int) (h : IsRow .u8 W a len cap zs) (y : len * 1 ≤ 140737488351232) (ho : ∀ ad, a = some ad → ad.block < W.heap.size) (hs : ∀ ad, a = some ad → ad.spot = none) :
    Calls Try.prog 5 #[.slice a len cap] W fun e w' => e = .returned (.bool true) ∧ Below W.heap.size W w' := by
  obtain ⟨ms, rfl, hc, hm, -⟩ := masks_of_row h ho
  by_cases h8 : ms.length ≤ 8
  · exact matchHall_few a cap ms W hm h8
  · exact matchHall_many a cap ms W h8
end Go.Proofs.Ytjmcdlehjgngfaa
