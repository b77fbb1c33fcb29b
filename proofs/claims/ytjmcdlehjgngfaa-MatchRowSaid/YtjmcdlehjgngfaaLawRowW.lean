/- MatchRow, walked. -/
import Derived.Test.YtjmcdlehjgngfaaFit
import Derived.Test.YtjmcdlehjgngfaaAwake
import Derived.Test.YtjmcdlehjgngfaaOld
import Derived.Laws.AppendOwnNone
import Derived.Deep.DeepMust
namespace Go.Proofs.Ytjmcdlehjgngfaa
open Go.RowKit Go.Proofs.YtjmcdlehjgngfaaW.PrintWords Go.Proofs.YtjmcdlehjgngfaaW.PrintLast Go.Proofs.YtjmcdlehjgngfaaW.PrintMore
set_option linter.unusedVariables false
set_option linter.unusedSimpArgs false

theorem info5 : (Try.prog.info? 5).map (fun i => (i.zero, i.size, i.bytes)) = some (some (.int .u8 0), 1, 1) := by kernel_rfl

/-- What the row, turned about, holds so far. -/
def Turned (ms : List Int) (t : Nat) (i : Nat) (xs : List Int) : Prop :=
  xs.length = i ∧ ∀ j, j < i → (0 ≤ rd xs j ∧ rd xs j < 256) ∧ rd xs j % 16 = rd ms ((ms.length - 1 - j + t) % ms.length : Nat) % 16

theorem idx_eq (n t i : Nat) (hn : n ≤ 8) (ht : t < 256) (hi : i < n) :
    (wrap64 (wrap64 (wrap64 ((n : Int) - 1) - (i : Int)) + wrap64 (t : Int))).tmod (n : Int) = (((n - 1 - i + t) % n : Nat) : Int) := by
  have e1 : wrap64 ((n : Int) - 1) = ((n - 1 : Nat) : Int) := by unfold wrap64; omega
  have e2 : wrap64 (((n - 1 : Nat) : Int) - (i : Int)) = ((n - 1 - i : Nat) : Int) := by unfold wrap64; omega
  have e3 : wrap64 (t : Int) = (t : Int) := by unfold wrap64; omega
  have e4 : wrap64 (((n - 1 - i : Nat) : Int) + (t : Int)) = ((n - 1 - i + t : Nat) : Int) := by unfold wrap64; omega
  rw [e1, e2, e3, e4]
  rfl

theorem elem_of (ms : List Int) (hi i t : Nat) (xs : List Int) (hT : Turned ms t i xs) (hh : hi < 256) {X : Int} (hX : X = (((ms.length - 1 - i + t) % ms.length : Nat) : Int)) (hk : (ms.length - 1 - i + t) % ms.length < ms.length)
    (hw : 0 ≤ rd ms (((ms.length - 1 - i + t) % ms.length : Nat) : Int) ∧ rd ms (((ms.length - 1 - i + t) % ms.length : Nat) : Int) < 256) :
    Turned ms t (i + 1) (xs ++ [((rd ms X).tmod 16 + (hi : Int) / 16 % 256 * 16) % 256]) := by
  obtain ⟨h1, h2⟩ := hT
  rw [hX]
  generalize hm : rd ms (((ms.length - 1 - i + t) % ms.length : Nat) : Int) = m at hw
  have em : m.tmod 16 = m % 16 := Int.tmod_eq_emod_of_nonneg hw.1
  refine ⟨by simp [h1], fun j hj => ?_⟩
  by_cases e : j = i
  · subst e
    have e1 : rd (xs ++ [(m.tmod 16 + (hi : Int) / 16 % 256 * 16) % 256]) (j : Int) = (m.tmod 16 + (hi : Int) / 16 % 256 * 16) % 256 := by
      unfold rd
      rw [Int.toNat_natCast, ← h1]
      simp
    rw [e1, em, hm]
    omega
  · have hj' : j < i := by omega
    have e1 : rd (xs ++ [(m.tmod 16 + (hi : Int) / 16 % 256 * 16) % 256]) (j : Int) = rd xs (j : Int) := by
      unfold rd
      rw [Int.toNat_natCast]
      simp [List.getElem?_append_left (show j < xs.length by omega), List.getD]
    rw [e1]
    exact h2 j hj'

theorem nums_snoc8 (xs : List Int) (v : Int) : nums .u8 xs ++ [Value.int .u8 v] = nums .u8 (xs ++ [v]) := by simp [nums]

theorem empty_own (w : World) (base : Nat) (hb : base ≤ w.heap.size) : (w.alloc (.cells #[] 5 (0, 0))).ownsRow base 5 1 (.slice (some ⟨w.heap.size, 0, none⟩) 0 0) 0 [] :=
  ⟨rfl, .inr ⟨w.heap.size, 0, #[], rfl, hb, blk_new _ _, Nat.le_refl _, Nat.zero_le _, rfl, rfl⟩⟩
theorem nums_cells8 {w : World} {A : Option Addr} {i : Nat} {xs : List Int} (h : ReadsInt w .u8 A i xs) : ∀ b, A = some b → ∀ j u, (nums .u8 xs)[j]? = some u → w.cell? (b.add j) = some u := by
  intro b hb j u hu
  have hj : j < xs.length := by
    have := (List.getElem?_eq_some_iff.1 hu).1
    simpa [nums] using this
  obtain ⟨ad, e, hc⟩ := h.2.2 (by have := h.1; omega)
  rw [hb] at e
  cases e
  have h2 := hc j (by have := h.1; omega)
  rw [h2]
  simpa [nums, hj] using hu

theorem own_shape8 {w : World} {base n : Nat} {v : Value} {xs : List Int} (h : w.ownsRow base 5 1 v n (nums .u8 xs)) :
    ∃ A c, v = .slice A n c ∧ n ≤ c ∧ ReadsInt w .u8 A n xs ∧ (∀ ad, A = some ad → ad.block < w.heap.size) := by
  obtain ⟨A, c, hv, hr⟩ := own_reads h
  rcases h.2 with ⟨hn, h0⟩ | ⟨g, cap, cur, hs, -, hb, hc, -⟩
  · rw [hv] at hn
    injection hn with h1 h2 h3
    subst h1 h2 h3
    exact ⟨none, 0, hv, Nat.le_refl _, hr, fun ad e => by cases e⟩
  · rw [hv] at hs
    injection hs with h1 h2 h3
    subst h1 h3
    exact ⟨_, _, hv, hc, hr, fun ad e => by injection e with e; subst e; exact blk_lt hb⟩
theorem masks_of_own {w : World} {A : Option Addr} {xs : List Int} {n : Nat} (hn : xs.length = n) (hr : ReadsInt w .u8 A n xs) (ho : ∀ ad, A = some ad → ad.block < w.heap.size) (hw : ∀ j : Nat, j < n → 0 ≤ rd xs j ∧ rd xs j < 256) : MasksAt w A xs := by
  subst hn
  exact ⟨hr, ho, hw⟩

theorem wsucc (i : Nat) (hi : i < 1000) : wrap64 ((i : Int) + 1) = ((i + 1 : Nat) : Int) := by unfold wrap64; omega

theorem add_at (b o j : Nat) : (⟨b, o, none⟩ : Addr).add j = ⟨b, o + j, none⟩ := by unfold Addr.add; split <;> simp_all
theorem rd_tail (m : Int) (r : List Int) (i : Nat) : rd (m :: r) ((i + 1 : Nat) : Int) = rd r (i : Int) := by
  unfold rd
  have : (((i + 1 : Nat) : Int)).toNat = i + 1 := by omega
  rw [this, Int.toNat_natCast]
  rfl
theorem tail_none {w : World} {ad : Addr} {m : Int} {r : List Int} (h : MasksAt w (some ad) (m :: r)) (hr : r.length = 0) : MasksAt w (some ad) r := by
  refine ⟨⟨rfl, by omega, fun hn => by omega⟩, h.old, fun i hi => by omega⟩
theorem tail_masks {w : World} {ad : Addr} {m : Int} {r : List Int} (h : MasksAt w (some ad) (m :: r)) (hs : ad.spot = none) : MasksAt w (some { block := ad.block, off := ad.off + 1 }) r := by
  obtain ⟨h1, h2, h3⟩ := h.reads
  refine ⟨⟨rfl, ?_, fun hn => ⟨_, rfl, fun j hj => ?_⟩⟩, fun b e => ?_, fun i hi => ?_⟩
  · simp at h2; omega
  · obtain ⟨ad', e, hc⟩ := h3 (by simp)
    cases e
    have h4 := hc (j + 1) (by simp; omega)
    obtain ⟨b, o, s⟩ := ad
    cases hs
    have e1 : (Addr.mk b o none).add (j + 1) = (Addr.mk b (o + 1) none).add j := by
      rw [add_at, add_at]
      congr 1
      omega
    rw [e1] at h4
    rw [h4]
    congr 1
  · cases e
    exact h.old ad rfl
  · have := h.wide (i + 1) (by simpa using hi)
    rwa [rd_tail] at this

set_option maxHeartbeats 8000000 in
set_option maxRecDepth 100000 in
theorem matchRow_few (A : Option Addr) (cap : Nat) (ms : List Int) (w : World) (hm : MasksAt w A ms) (hc : ms.length ≤ cap) (hN : A ≠ none) (hS : ∀ ad, A = some ad → ad.spot = none) (t hi : Nat) (ht : t < 256) (hh : hi < 256) (h8 : ms.length ≤ 8) :
    Calls Try.prog 6 #[.slice A ms.length cap, .int .u8 t, .int .u8 hi] w fun e w' => e = .returned (.bool true) ∧ Below w.heap.size w w' := by
  have HM := Lib.hid hm
  have HC := Lib.hid hc
  have H8 := Lib.hid h8
  have HT := Lib.hid ht
  have HS := Lib.hid hS
  clear hS
  have HH := Lib.hid hh
  obtain ⟨i0, hi0, hz0, hz1, hz2⟩ := info_parts info5
  have h8b : decide ((8 : Int) < (ms.length : Int)) = false := decide_eq_false (by omega)
  clear hm hc ht hh h8
  go_enter Try.func6, Try.ntmps6
  go_wp2_with (fail)
  clear h8b
  go_loopg [7, 8, 9] 9 (fun gq v7 v8 v9 w' => ∃ (i : Nat) (xs : List Int), v8 = .int .i64 i ∧ Aside0 (i + gq = 9) ∧ Aside0 (i ≤ ms.length) ∧ Aside0 (Turned ms t i xs) ∧ Aside0 (w'.ownsRow w.heap.size 5 1 v7 i (nums .u8 xs)) ∧ Aside0 (Below w.heap.size w w'))
  case atStart => exact ⟨0, [], rfl, ⟨rfl⟩, ⟨Nat.zero_le _⟩, ⟨rfl, fun j hj => by omega⟩, ⟨World.ownsRow_nil _ _ _ _⟩, ⟨Below.refl _ _⟩⟩
  case round =>
    obtain ⟨i, xs, rfl, hg, hin, hT, hown, hbel⟩ := hrel
    by_cases hlt : i < ms.length
    · have hlt' : decide ((i : Int) < (ms.length : Int)) = true := decide_eq_true (by omega)
      have hk := turn_back ms.length t i H8.out hlt
      have hX := idx_eq ms.length t i H8.out HT.out hlt
      have hX0 : 0 ≤ (wrap64 (wrap64 (wrap64 ((ms.length : Int) - 1) - (i : Int)) + wrap64 (t : Int))).tmod (ms.length : Int) := by rw [hX]; exact Int.natCast_nonneg _
      have hX1 : (wrap64 (wrap64 (wrap64 ((ms.length : Int) - 1) - (i : Int)) + wrap64 (t : Int))).tmod (ms.length : Int) < (ms.length : Int) := by rw [hX]; exact Int.ofNat_lt.mpr hk.1
      obtain ⟨ad, rfl, hcell⟩ := (HM.out.reads.below hbel.out).at_ _ hX0 hX1
      replace hX0 := eq_true hX0
      replace hX1 := eq_true hX1
      have hX' := Aside0.mk hX
      have hval := Aside0.mk (elem_of ms hi i t xs hT.out HH.out hX hk.1 (HM.out.wide _ hk.1))
      have hown2 := Aside0.mk (pw_own_below hown.out (Below.alloc (Below.refl wr.heap.size wr) (Nat.le_refl _) (.cells #[.int .u8 (((rd ms ((wrap64 (wrap64 (wrap64 ((ms.length : Int) - 1) - (i : Int)) + wrap64 (t : Int))).tmod (ms.length : Int))).tmod 16 + (hi : Int) / 16 % 256 * 16) % 256)] 5 (0, 0))))
      have F4 := Aside0.mk (one_cell_new wr (.int .u8 (((rd ms ((wrap64 (wrap64 (wrap64 ((ms.length : Int) - 1) - (i : Int)) + wrap64 (t : Int))).tmod (ms.length : Int))).tmod 16 + (hi : Int) / 16 % 256 * 16) % 256)) 5)
      have F5 := Aside0.mk (show i + 1 ≤ maxLen by have := H8.out; simp only [maxLen]; omega)
      have F6 := Aside0.mk (show (i + 1) * 1 ≤ 140737488355328 by have := H8.out; omega)
      have F7 := Aside0.mk (show w.heap.size ≤ (wr.alloc (.cells #[.int .u8 (((rd ms ((wrap64 (wrap64 (wrap64 ((ms.length : Int) - 1) - (i : Int)) + wrap64 (t : Int))).tmod (ms.length : Int))).tmod 16 + (hi : Int) / 16 % 256 * 16) % 256)] 5 (0, 0))).heap.size from Nat.le_trans hbel.out.size (by simp))
      clear hk hX hT hown
      go_wp2_with (first | ((with_reducible refine gate_builtin (b := .append) rfl ?_); go_must (refine wpList_append_own _ rfl (.tmp 34) (.tmp 44) 22 rfl w.heap.size 5 i0 (.int .u8 0) 1 1 Try.underlying22 hi0 hz0 hz1 hz2 rfl (by decide) u7 i (nums .u8 xs) rfl hown2.out ⟨wr.heap.size, 0, none⟩ 1 1 [.int .u8 (((rd ms ((wrap64 (wrap64 (wrap64 ((ms.length : Int) - 1) - (i : Int)) + wrap64 (t : Int))).tmod (ms.length : Int))).tmod 16 + (hi : Int) / 16 % 256 * 16) % 256)] rfl rfl F4.out (by simp [Value.oneCell']) F5.out F6.out F7.out ?_); intro v7 w6 hown7 hg6 _))
      rw [nums_snoc8] at hown7
      have hbel6 := Aside0.mk ((hbel.out.alloc hbel.out.size (.cells #[.int .u8 (((rd ms ((wrap64 (wrap64 (wrap64 ((ms.length : Int) - 1) - (i : Int)) + wrap64 (t : Int))).tmod (ms.length : Int))).tmod 16 + (hi : Int) / 16 % 256 * 16) % 256)] 5 (0, 0))).grown hg6 F7.out (fun k' hk' => own_base hown2.out k' hk'))
      have hown8 := Aside0.mk hown7
      clear hown7 hg6 hown2 F4 F5 F6 F7 hbel
      obtain ⟨g1, rfl⟩ : ∃ m, gk = m + 1 := ⟨gk - 1, by have := hg.out; have := H8.out; omega⟩
      go_roundg g1
      case measure => omega
      case rel => exact ⟨i + 1, _, by rw [wsucc i (by have := H8.out; omega)], ⟨by have := hg.out; omega⟩, ⟨by omega⟩, hval, hown8, hbel6⟩
    · have hin' : i = ms.length := by have := hin.out; omega
      subst hin'
      have hlt' : decide ((ms.length : Int) < (ms.length : Int)) = false := decide_eq_false (by omega)
      obtain ⟨Ao, co, rfl, hco, hro, hoo⟩ := own_shape8 hown.out
      have hMO := Aside0.mk (show MasksAt wr Ao xs from masks_of_own hT.out.1 hro hoo (fun j hj => (hT.out.2 j hj).1))
      have hAO := Aside0.mk (ans_turn ms xs t hT.out.1 H8.out (fun j hj => (hT.out.2 j hj).2))
      have hLO := Aside0.mk hT.out.1
      have G1 := Aside0.mk (empty_own wr wr.heap.size (Nat.le_refl _))
      clear hlt hin hg hT hown hco hro hoo
      cases A with
      | none => exact absurd rfl hN
      | some ad =>
        have F3 := Aside0.mk (nums_cells8 ((HM.out.reads.below hbel.out).below (Below.alloc (Below.refl wr.heap.size wr) (Nat.le_refl _) (.cells #[] 5 (0, 0)))) ad rfl)
        have F5 := Aside0.mk (show 0 + ms.length ≤ maxLen by have := H8.out; simp only [maxLen]; omega)
        have F6 := Aside0.mk (show (0 + ms.length) * 1 ≤ 140737488355328 by have := H8.out; omega)
        have F7 := Aside0.mk (show wr.heap.size ≤ (wr.alloc (.cells #[] 5 (0, 0))).heap.size by simp)
        have F8 := Aside0.mk (show (nums .u8 ms).length = ms.length * 1 by simp [nums])
        have F9 := Aside0.mk (show ∀ u ∈ nums .u8 ms, u.oneCell' = true by simp [nums, Value.oneCell'])
        go_wp2_with (first | ((with_reducible refine gate_builtin (b := .append) rfl ?_); go_must (refine wpList_append_own _ rfl (.tmp 46) (.tmp 47) 22 rfl wr.heap.size 5 i0 (.int .u8 0) 1 1 Try.underlying22 hi0 hz0 hz1 hz2 rfl (by decide) (.slice (some ⟨wr.heap.size, 0, none⟩) 0 0) 0 [] rfl G1.out ad ms.length cap (nums .u8 ms) rfl F8.out F3.out F9.out F5.out F6.out F7.out ?_); intro v10 w6 hown7 hg6 _))
        have hB6 := Aside0.mk (((Below.refl wr.heap.size wr).alloc (Nat.le_refl _) (.cells #[] 5 (0, 0))).grown hg6 F7.out (fun k' hk' => own_base G1.out k' hk'))
        rw [Nat.zero_add, List.nil_append] at hown7
        obtain ⟨A10, c10, rfl, hc10, hr10, -⟩ := own_shape8 hown7
        have HR10 := Aside0.mk hr10
        have HB6 := Aside0.mk (hbel.out.trans (hB6.out.mono hbel.out.size))
        have HO6 := Aside0.mk (hMO.out.later hB6.out)
        clear hown7 hg6 hc10 hr10 F3 F5 F6 F7 F8 F9 G1 hbel hMO hB6
        go_at_call 11
        refine (Fits_any (some ad) cap ms w6 (HM.out.later HB6.out)).mono ?_
        rintro e w7 ⟨rfl, hb7⟩
        have HB7 := Aside0.mk (HB6.out.trans (hb7.mono HB6.out.size))
        have HO7 := Aside0.mk (HO6.out.later hb7)
        have HR7 := Aside0.mk (HR10.out.below hb7)
        clear hb7 HB6 HO6 HR10
        go_wp2_with (fail)
        go_at_call 8
        refine (Slots_any (some ad) cap ms w7 (HM.out.later HB7.out)).mono ?_
        rintro e w8 ⟨A8, c8, rfl, -, -, hb8⟩
        have HB8 := Aside0.mk (HB7.out.trans (hb8.mono HB7.out.size))
        have HO8 := Aside0.mk (HO7.out.later hb8)
        have HR8 := Aside0.mk (HR7.out.below hb8)
        clear hb8 HB7 HO7 HR7
        go_wp2_with (fail)
        go_loopg [12] 9 (fun gq v12 w' => ∃ (i : Nat), v12 = .int .i64 i ∧ Aside0 (i + gq = 9) ∧ Aside0 (i ≤ ms.length) ∧ Aside0 (Below w8.heap.size w8 w'))
        case atStart => exact ⟨0, rfl, ⟨rfl⟩, ⟨Nat.zero_le _⟩, ⟨by repeat (first | exact Below.refl _ _ | apply below_drew1)⟩⟩
        case round =>
          obtain ⟨i, rfl, hg, hin, hbel⟩ := hrel
          by_cases hlt : i < ms.length
          · have hlt' : decide ((i : Int) < (ms.length : Int)) = true := decide_eq_true (by omega)
            obtain ⟨adX, hadX, hcell⟩ := (HM.out.reads.below (HB8.out.trans (hbel.out.mono HB8.out.size))).at_ i (by omega) (by omega)
            cases hadX
            obtain ⟨adR, rfl, hcellR⟩ := (HR8.out.below hbel.out).at_ i (by omega) (by omega)
            have q1 : ((i : Int) < (ms.length : Int)) = True := eq_true (by omega)
            have hne : (rd ms i != rd ms i) = false := bne_self_eq_false _
            simp only [Int.toNat_natCast] at hcell hcellR
            have q0 : (0 ≤ (i : Int)) = True := eq_true (by omega)
            go_wp2_with (fail)
            repeat (go_quiet (fail); try go_wp2)
            obtain ⟨g1, rfl⟩ : ∃ m, gk = m + 1 := ⟨gk - 1, by have := hg.out; have := H8.out; omega⟩
            go_roundg g1
            case measure => omega
            case rel => exact ⟨i + 1, by rw [wsucc i (by have := H8.out; omega)], ⟨by have := hg.out; omega⟩, ⟨by omega⟩, ⟨by repeat (first | exact hbel.out | apply pw_below_drewN | apply below_drew1)⟩⟩
          · have hin' : i = ms.length := by have := hin.out; omega
            subst hin'
            have hlt' : decide ((ms.length : Int) < (ms.length : Int)) = false := decide_eq_false (by omega)
            have HB9 := Aside0.mk (HB8.out.trans (hbel.out.mono HB8.out.size))
            have HO9 := Aside0.mk (HO8.out.later hbel.out)
            clear hlt hin hg HB8 HO8 hbel HR8
            have hcall := Fits_any Ao co xs wr HO9.out
            rw [hAO.out, hLO.out] at hcall
            have HF := Lib.hid hcall
            clear hcall
            have hbb : ((ansC ms).1 != (ansC ms).1) = false := bne_self_eq_false _
            go_wp2_with (fail)
            go_at_call 11
            refine HF.out.mono ?_
            rintro e w10 ⟨rfl, hb10⟩
            have HB10 := Aside0.mk (HB9.out.trans (hb10.mono HB9.out.size))
            clear hb10 HB9 HO9 HF
            generalize hb : (ansC ms).1 = b
            rw [hb] at hbb
            have HBB := Aside0.mk hb
            clear hb
            cases b with
            | false =>
              go_wp2_with (fail)
              go_at_call 7
              refine (awake_calls w10).mono ?_
              rintro e w11 ⟨rfl, hb11⟩
              have HB11 := Aside0.mk (HB10.out.trans (hb11.mono HB10.out.size))
              clear hb11
              go_wp2
              go_ret
              exact ⟨rfl, HB11.out⟩
            | true =>
              by_cases h0 : ms.length = 0
              · have h0' : (((ms.length : Nat) : Int) == 0) = true := by rw [h0]; rfl
                go_wp2_with (fail)
                go_at_call 7
                refine (awake_calls w10).mono ?_
                rintro e w11 ⟨rfl, hb11⟩
                have HB11 := Aside0.mk (HB10.out.trans (hb11.mono HB10.out.size))
                clear hb11
                go_wp2
                go_ret
                exact ⟨rfl, HB11.out⟩
              · have h0' : (((ms.length : Nat) : Int) == 0) = false := by rw [beq_eq_false_iff_ne]; omega
                obtain ⟨m, r, rfl⟩ : ∃ m r, ms = m :: r := by
                  cases ms with
                  | nil => exact absurd rfl h0
                  | cons m r => exact ⟨m, r, rfl⟩
                have htl := Aside0.mk (ans_tail m r HBB.out)
                have hc1 : ((m :: r).length - 1) = r.length := by simp
                have hspot := HS.out ad rfl
                by_cases h1 : cap = 1
                · have hr0 : r.length = 0 := by have := HC.out; simp at this; omega
                  have hcall := Fits_any (some ad) 0 r w10 (tail_none (HM.out.later HB10.out) hr0)
                  rw [htl.out, hr0] at hcall
                  have HF := Lib.hid hcall
                  have hc2 : (m :: r).length - 1 = 0 := by simp [hr0]
                  clear hcall
                  go_wp2_with (fail)
                  go_at_call 11
                  refine HF.out.mono ?_
                  rintro e w11 ⟨rfl, hb11⟩
                  have HB11 := Aside0.mk (HB10.out.trans (hb11.mono HB10.out.size))
                  clear hb11 HB10
                  go_wp2_with (fail)
                  go_at_call 7
                  refine (awake_calls w11).mono ?_
                  rintro e w12 ⟨rfl, hb12⟩
                  have HB12 := Aside0.mk (HB11.out.trans (hb12.mono HB11.out.size))
                  clear hb12
                  go_wp2
                  go_ret
                  exact ⟨rfl, HB12.out⟩
                · have hcall := Fits_any (some { block := ad.block, off := ad.off + 1 }) (cap - 1) r w10 (tail_masks (HM.out.later HB10.out) hspot)
                  rw [htl.out, ← hc1] at hcall
                  have HF := Lib.hid hcall
                  clear hcall
                  go_wp2_with (fail)
                  go_at_call 11
                  refine HF.out.mono ?_
                  rintro e w11 ⟨rfl, hb11⟩
                  have HB11 := Aside0.mk (HB10.out.trans (hb11.mono HB10.out.size))
                  clear hb11 HB10
                  go_wp2_with (fail)
                  go_at_call 7
                  refine (awake_calls w11).mono ?_
                  rintro e w12 ⟨rfl, hb12⟩
                  have HB12 := Aside0.mk (HB11.out.trans (hb12.mono HB11.out.size))
                  clear hb12
                  go_wp2
                  go_ret
                  exact ⟨rfl, HB12.out⟩

set_option maxHeartbeats 8000000 in
set_option maxRecDepth 100000 in
theorem matchRow_nil (w : World) (t hi : Nat) : Calls Try.prog 6 #[.slice none 0 0, .int .u8 t, .int .u8 hi] w fun e w' => e = .returned (.bool true) ∧ Below w.heap.size w w' := by
  have hans : ansC [] = (true, []) := by kernel_rfl
  have HF := Lib.hid (fun (w1 : World) => by have h := Fits_any none 0 [] w1 ⟨reads_nil _ _, fun ad e => (by cases e), fun i hi => absurd hi (by simp)⟩; rw [hans] at h; exact h)
  have HS := Lib.hid (fun (w1 : World) => by have h := Slots_any none 0 [] w1 ⟨reads_nil _ _, fun ad e => (by cases e), fun i hi => absurd hi (by simp)⟩; rw [hans] at h; exact h)
  obtain ⟨i0, hi0, hz0, hz1, hz2⟩ := info_parts info5
  have G1 := Aside0.mk (empty_own w w.heap.size (Nat.le_refl _))
  go_enter Try.func6, Try.ntmps6
  go_wp2_with (fail)
  go_loopg [7, 8, 9] 1 (fun gq v7 v8 v9 w' => v7 = .slice none 0 0 ∧ v8 = .int .i64 0 ∧ w' = w)
  case atStart => exact ⟨rfl, rfl, rfl⟩
  case round =>
    obtain ⟨rfl, rfl, rfl⟩ := hrel
    go_wp2_with (first | ((with_reducible refine gate_builtin (b := .append) rfl ?_); go_must (refine wpList_append_own_none rfl (.tmp 46) (.tmp 47) 22 rfl wr.heap.size 5 i0 1 Try.underlying22 hi0 (.slice (some ⟨wr.heap.size, 0, none⟩) 0 0) 0 [] rfl G1.out rfl ?_)))
    have HB6 := Aside0.mk ((Below.refl wr.heap.size wr).alloc (Nat.le_refl _) (.cells #[] 5 (0, 0)))
    go_at_call 11
    refine (HF.out _).mono ?_
    rintro e w7 ⟨rfl, hb7⟩
    have HB7 := Aside0.mk (HB6.out.trans (hb7.mono HB6.out.size))
    clear hb7 HB6
    go_wp2_with (fail)
    go_at_call 8
    refine (HS.out w7).mono ?_
    rintro e w8 ⟨A8, c8, rfl, -, -, hb8⟩
    have HB8 := Aside0.mk (HB7.out.trans (hb8.mono HB7.out.size))
    clear hb8 HB7
    go_wp2_with (fail)
    go_loopg [12] 1 (fun gq v12 w' => v12 = .int .i64 0 ∧ w' = w8)
    case atStart => exact ⟨rfl, rfl⟩
    case round =>
      obtain ⟨rfl, rfl⟩ := hrel
      go_wp2_with (fail)
      go_at_call 11
      refine (HF.out _).mono ?_
      rintro e w10 ⟨rfl, hb10⟩
      have HB10 := Aside0.mk (HB8.out.trans (hb10.mono HB8.out.size))
      clear hb10
      go_wp2_with (fail)
      go_at_call 7
      refine (awake_calls w10).mono ?_
      rintro e w11 ⟨rfl, hb11⟩
      have HB11 := Aside0.mk (HB10.out.trans (hb11.mono HB10.out.size))
      clear hb11
      go_wp2
      go_ret
      exact ⟨rfl, HB11.out⟩

set_option maxHeartbeats 8000000 in
set_option maxRecDepth 100000 in
theorem matchRow_many (A : Option Addr) (cap : Nat) (ms : List Int) (w : World) (t hi : Int) (h8 : ¬ ms.length ≤ 8) : Calls Try.prog 6 #[.slice A ms.length cap, .int .u8 t, .int .u8 hi] w fun e w' => e = .returned (.bool true) ∧ Below w.heap.size w w' := by
  have h8b : decide ((8 : Int) < (ms.length : Int)) = true := decide_eq_true (by omega)
  clear h8
  go_enter Try.func6, Try.ntmps6
  go_wp2_with (fail)
  go_at_call 7
  refine (awake_calls w).mono ?_
  rintro e w1 ⟨rfl, hb⟩
  have HB := Aside0.mk hb
  clear hb
  go_wp2
  go_ret
  exact ⟨rfl, HB.out⟩

theorem matchRow_walk (W : World) (a : Option Addr) (len cap : Nat) (zs : List Int) (h : IsRow .u8 W a len cap zs) (y : len * 1 ≤ 140737488351232) (ho : ∀ ad, a = some ad → ad.block < W.heap.size) (hs : ∀ ad, a = some ad → ad.spot = none)
    (t : Int) (ht : (Lit.int .u8 t).wf = true) (hi : Int) (hh : (Lit.int .u8 hi).wf = true) :
    Calls Try.prog 6 #[.slice a len cap, .int .u8 t, .int .u8 hi] W fun e w' => e = .returned (.bool true) ∧ Below W.heap.size W w' := by
  have hnil : a = none → len = 0 ∧ cap = 0 := by
    intro e
    rcases h with ⟨-, h1, h2, -⟩ | ⟨x, h1, -⟩
    · exact ⟨h1, h2⟩
    · rw [e] at h1; cases h1
  obtain ⟨ms, rfl, hc, hm, -⟩ := masks_of_row h ho
  have e1 : IntKind.u8.min = 0 := by decide
  have e2 : IntKind.u8.max = 255 := by decide
  have ht' := (Lit.wf_int_iff .u8 _).mp ht
  have hh' := (Lit.wf_int_iff .u8 _).mp hh
  rw [e1, e2] at ht' hh'
  by_cases h8 : ms.length ≤ 8
  · obtain ⟨t, rfl⟩ := Int.eq_ofNat_of_zero_le ht'.1
    obtain ⟨hi, rfl⟩ := Int.eq_ofNat_of_zero_le hh'.1
    cases a with
    | none =>
      obtain ⟨h1, h2⟩ := hnil rfl
      rw [h1, h2]
      exact matchRow_nil W t hi
    | some ad => exact matchRow_few (some ad) cap ms W hm hc (by simp) hs t hi (by omega) (by omega) h8
  · exact matchRow_many a cap ms W t hi h8
end Go.Proofs.Ytjmcdlehjgngfaa
