/- (*pairing).takes, walked: it computes takesC. -/
import Derived.Test.YtjmcdlehjgngfaaCode
import Derived.Test.YtjmcdlehjgngfaaPMatchSlotsx
import Derived.Lib.Hide
namespace Go.Proofs.Ytjmcdlehjgngfaa
open Go.RowKit Go.Proofs.YtjmcdlehjgngfaaW.PrintWords Go.Proofs.YtjmcdlehjgngfaaW.PrintLast Go.Proofs.YtjmcdlehjgngfaaW.PrintMore
set_option linter.unusedVariables false
set_option linter.unusedSimpArgs false

def ownV (oc k : Nat) : Value := .int .i64 ((dig oc k : Int) - 1)
def sawV (sc k : Nat) : Value := .bool (sawn sc k)
/-- A slot's owner, set. -/
def setd (oc k v : Nat) : Nat := oc - dig oc k * 8 ^ k + v * 8 ^ k

/-- Blocks b (a pairing) and c (what was seen) aside, the world is as it was. -/
structure But2 (b c : Nat) (w w' : World) : Prop where
  os : w'.os = w.os
  tape : w'.tape = w.tape
  output : w'.output = w.output
  size : w.heap.size = w'.heap.size
  block : ∀ k, k ≠ b → k ≠ c → w'.heap[k]? = w.heap[k]?
theorem But2.refl (b c : Nat) (w : World) : But2 b c w w := ⟨rfl, rfl, rfl, rfl, fun _ _ _ => rfl⟩
theorem But2.trans {b c : Nat} {w w1 w2 : World} (h : But2 b c w w1) (k : But2 b c w1 w2) : But2 b c w w2 :=
  ⟨k.os.trans h.os, k.tape.trans h.tape, k.output.trans h.output, h.size.trans k.size, fun i hb hc => (k.block i hb hc).trans (h.block i hb hc)⟩
theorem But2.set {b c : Nat} (w : World) (g i : Nat) (hg : g = b ∨ g = c) (v : Value) : But2 b c w (w.setCell ⟨g, i, none⟩ v) :=
  ⟨rfl, rfl, rfl, by simp [World.setCell], fun k hb hc => Below.heap_setCell _ _ _ _ (by rcases hg with rfl | rfl <;> assumption)⟩

/-- A pairing at block b over masks that read as ms, and what was seen at block c. -/
structure St (w : World) (b c : Nat) (A : Option Addr) (cap : Nat) (ms : List Int) (oc sc : Nat) : Prop where
  reads : ReadsInt w .u8 A ms.length ms
  apart : ∀ ad, A = some ad → ad.block ≠ b ∧ ad.block ≠ c
  ne : b ≠ c
  few : ms.length ≤ 4
  own : ∀ k, k < 4 → dig oc k ≤ ms.length
  pair : w.heap[b]? = some (.cells #[.slice A ms.length cap, ownV oc 0, ownV oc 1, ownV oc 2, ownV oc 3] 39 (0, 0))
  seen : w.heap[c]? = some (.cells #[sawV sc 0, sawV sc 1, sawV sc 2, sawV sc 3] 42 (0, 0))

/-- The masks' bits, by their code. -/
def Bits (mc : Nat) (ms : List Int) : Prop := ∀ i, i < ms.length → ∀ k, k < 4 → bits .and .u8 (rd ms i / 2 ^ k) 1 = if has mc i k = true then 1 else 0

theorem reads_far {w w1 : World} {k : IntKind} {A : Option Addr} {n : Nat} {xs : List Int} (h : ReadsInt w k A n xs) (hb : ∀ ad, A = some ad → w1.heap[ad.block]? = w.heap[ad.block]?) : ReadsInt w1 k A n xs :=
  ⟨h.1, h.2.1, fun hn => by
    obtain ⟨ad, e, hc⟩ := h.2.2 hn
    refine ⟨ad, e, fun j hj => ?_⟩
    rw [← hc j hj]
    have hbl : (ad.add j).block = ad.block := by unfold Addr.add; split <;> rfl
    exact World.cell?_of_block (w := w) (by rw [hbl]; exact hb ad e)⟩

theorem sawn_step (sc k : Nat) (hk : k < 4) (h : sawn sc k = false) : sawn (sc + 2 ^ k) 0 = (if k = 0 then true else sawn sc 0) ∧ sawn (sc + 2 ^ k) 1 = (if k = 1 then true else sawn sc 1) ∧ sawn (sc + 2 ^ k) 2 = (if k = 2 then true else sawn sc 2) ∧ sawn (sc + 2 ^ k) 3 = (if k = 3 then true else sawn sc 3) := by
  have e : ∀ a : Nat, Nat.beq a 1 = decide (a = 1) := fun a => by rw [Bool.eq_iff_iff, Nat.beq_eq, decide_eq_true_iff]
  have ne : ¬ sc / 2 ^ k % 2 = 1 := by
    intro hh
    unfold sawn at h
    rw [e, hh] at h
    simp at h
  unfold sawn
  simp only [e]
  rcases (show k = 0 ∨ k = 1 ∨ k = 2 ∨ k = 3 by omega) with rfl | rfl | rfl | rfl <;> simp only [Nat.reducePow, Nat.reduceEqDiff, if_true, if_false, decide_eq_decide, decide_eq_true_eq] at ne ⊢ <;> refine ⟨?_, ?_, ?_, ?_⟩ <;> omega

theorem dig_setd (oc k v : Nat) (hk : k < 4) (hv : v < 8) : dig (setd oc k v) 0 = (if k = 0 then v else dig oc 0) ∧ dig (setd oc k v) 1 = (if k = 1 then v else dig oc 1) ∧ dig (setd oc k v) 2 = (if k = 2 then v else dig oc 2) ∧ dig (setd oc k v) 3 = (if k = 3 then v else dig oc 3) := by
  unfold setd dig
  rcases (show k = 0 ∨ k = 1 ∨ k = 2 ∨ k = 3 by omega) with rfl | rfl | rfl | rfl <;> simp only [Nat.reducePow, Nat.reduceEqDiff, if_true, if_false] <;> refine ⟨?_, ?_, ?_, ?_⟩ <;> omega

theorem St.see {w : World} {b c : Nat} {A : Option Addr} {cap : Nat} {ms : List Int} {oc sc : Nat} (h : St w b c A cap ms oc sc) {k : Nat} (hk : k < 4) (hn : sawn sc k = false) :
    St (w.setCell ⟨c, k, none⟩ (.bool true)) b c A cap ms oc (sc + 2 ^ k) := by
  obtain ⟨s0, s1, s2, s3⟩ := sawn_step sc k hk hn
  refine ⟨reads_far h.reads fun ad e => Below.heap_setCell _ _ _ _ (h.apart ad e).2, h.apart, h.ne, h.few, h.own, (Below.heap_setCell _ _ _ _ h.ne).trans h.pair, ?_⟩
  refine blk_put h.seen k (.bool true) ?_
  unfold sawV
  rw [s0, s1, s2, s3]
  rcases (show k = 0 ∨ k = 1 ∨ k = 2 ∨ k = 3 by omega) with rfl | rfl | rfl | rfl <;> rfl
theorem St.put {w : World} {b c : Nat} {A : Option Addr} {cap : Nat} {ms : List Int} {oc sc : Nat} (h : St w b c A cap ms oc sc) {k i : Nat} (hk : k < 4) (hi : i < ms.length) :
    St (w.setCell ⟨b, 1 + k, none⟩ (.int .i64 i)) b c A cap ms (setd oc k (i + 1)) sc := by
  have hf := h.few
  obtain ⟨s0, s1, s2, s3⟩ := dig_setd oc k (i + 1) hk (by omega)
  refine ⟨reads_far h.reads fun ad e => Below.heap_setCell _ _ _ _ (h.apart ad e).1, h.apart, h.ne, h.few, ?_, ?_, (Below.heap_setCell _ _ _ _ h.ne.symm).trans h.seen⟩
  · intro j hj
    have o0 := h.own 0 (by omega)
    have o1 := h.own 1 (by omega)
    have o2 := h.own 2 (by omega)
    have o3 := h.own 3 (by omega)
    rcases (show j = 0 ∨ j = 1 ∨ j = 2 ∨ j = 3 by omega) with rfl | rfl | rfl | rfl
    · rw [s0]; split <;> omega
    · rw [s1]; split <;> omega
    · rw [s2]; split <;> omega
    · rw [s3]; split <;> omega
  · refine blk_put h.pair (1 + k) (.int .i64 i) ?_
    unfold ownV
    rw [s0, s1, s2, s3]
    have e : ((i + 1 : Nat) : Int) - 1 = i := by omega
    rcases (show k = 0 ∨ k = 1 ∨ k = 2 ∨ k = 3 by omega) with rfl | rfl | rfl | rfl <;> simp only [Nat.reduceEqDiff, if_true, if_false, e] <;> rfl
theorem St.cellOwn {w : World} {b c : Nat} {A : Option Addr} {cap : Nat} {ms : List Int} {oc sc : Nat} (h : St w b c A cap ms oc sc) {k : Nat} (hk : k < 4) :
    w.cell? ⟨b, 1 + k, none⟩ = some (ownV oc k) ∧ w.cell? ⟨c, k, none⟩ = some (sawV sc k) := by
  rw [blk_cell h.pair, blk_cell h.seen]
  rcases (show k = 0 ∨ k = 1 ∨ k = 2 ∨ k = 3 by omega) with rfl | rfl | rfl | rfl <;> exact ⟨rfl, rfl⟩
theorem St.cellMasks {w : World} {b c : Nat} {A : Option Addr} {cap : Nat} {ms : List Int} {oc sc : Nat} (h : St w b c A cap ms oc sc) :
    w.cell? ⟨b, 0, none⟩ = some (.slice A ms.length cap) := by
  rw [blk_cell h.pair]; rfl

/-- What the call answers, behind a definition (the walk's simp does not look into it). -/
def Takes (b c : Nat) (A : Option Addr) (cap : Nat) (ms : List Int) (r : Bool) (oc sc : Nat) (w : World) (e : Ending) (w' : World) : Prop := e = .returned (.bool r) ∧ St w' b c A cap ms oc sc ∧ But2 b c w w'

set_option maxHeartbeats 16000000 in
set_option maxRecDepth 100000 in
theorem takes_any (mc f : Nat) (b c : Nat) (A : Option Addr) (cap : Nat) (ms : List Int) (hm : Bits mc ms) : ∀ (g : Nat) (i oc sc : Nat) (r : Bool) (oc' sc' : Nat) (w : World)
    (_ : i < ms.length) (_ : St w b c A cap ms oc sc) (_ : takesC mc f g i 0 oc sc = some (r, oc', sc')),
    Calls Try.prog 17 #[.pointer (some ⟨b, 0, none⟩), .int .i64 i, .pointer (some ⟨c, 0, none⟩), .int .i64 f] w (Takes b c A cap ms r oc' sc' w) := by
  intro g
  induction g using Nat.strongRecOn with
  | _ g ih =>
  intro i oc sc r oc' sc' w hi hs h
  have H' := Aside0.mk h
  have HM := Aside0.mk hm
  have IH := Lib.hid ih
  have HS := Lib.hid hs
  clear h hm ih hs
  go_enter Try.func17, Try.ntmps17
  go_wp2_with (fail)
  go_loopg [9, 10, 11] g (fun gq v9 v10 v11 w' => ∃ (k oq sq : Nat), v11 = .int .i64 k ∧ Aside0 (k ≤ 4) ∧ Aside0 (takesC mc f gq i k oq sq = some (r, oc', sc')) ∧ Aside0 (gq ≤ g) ∧ Aside0 (St w' b c A cap ms oq sq) ∧ Aside0 (But2 b c w w'))
  case atStart => exact ⟨0, oc, sc, rfl, ⟨by omega⟩, H', ⟨Nat.le_refl _⟩, ⟨HS.out⟩, ⟨But2.refl _ _ _⟩⟩
  case round =>
    clear H'
    obtain ⟨k, oq, sq, rfl, hk, HA, HK, hst, hbut⟩ := hrel
    cases gk with
    | zero => exact absurd HA.out (by simp [takesC])
    | succ g1 =>
      have H := HA.out
      clear HA
      rcases (show k = 0 ∨ k = 1 ∨ k = 2 ∨ k = 3 ∨ k = 4 by have := hk.out; omega) with rfl | rfl | rfl | rfl | rfl
      · obtain ⟨ad, rfl, hcell⟩ := hst.out.reads.at_ i (by omega) (by omega)
        have hb0 := hst.out.cellMasks
        simp only [Int.toNat_natCast] at hcell
        have hi' : (i : Int) < ms.length := by omega
        have hbit := HM.out i hi 0 (by omega)
        have hsw := (hst.out.cellOwn (k := 0) (by omega)).2
        have how := (hst.out.cellOwn (k := 0) (by omega)).1
        have fb := blk_frozen hst.out.pair 1
        have fc := blk_frozen hst.out.seen 0
        unfold sawV at hsw
        unfold ownV at how
        simp only [takesC] at H
        rw [show Nat.blt 0 4 = true from rfl, cond_true] at H
        simp only [Int.reducePow, Int.ediv_one] at hbit
        cases hh : has mc i 0 with
        | false =>
          rw [hh] at hbit H
          simp only [Bool.false_eq_true, if_false, Bool.not_false, Bool.true_or, cond_true] at hbit H
          have t1 : (bits BinOp.and IntKind.u8 (rd ms ↑i) 1 == 0) = true := by rw [hbit]; rfl
          have H' := Aside0.mk H
          clear H hbit hh
          go_wp2
          go_roundg g1
          case measure => have := HK.out; omega
          case rel => exact ⟨1, oq, sq, rfl, ⟨by omega⟩, H', ⟨by have := HK.out; omega⟩, hst, hbut⟩
        | true =>
          rw [hh] at hbit H
          simp only [if_true] at hbit
          have t1 : (bits BinOp.and IntKind.u8 (rd ms ↑i) 1 == 0) = false := by rw [hbit]; rfl
          cases hw : sawn sq 0 with
          | true =>
            rw [hw] at hsw H
            simp only [Bool.not_true, Bool.or_true, cond_true] at H
            have H' := Aside0.mk H
            clear H hbit hh hw
            go_wp2
            go_roundg g1
            case measure => have := HK.out; omega
            case rel => exact ⟨1, oq, sq, rfl, ⟨by omega⟩, H', ⟨by have := HK.out; omega⟩, hst, hbut⟩
          | false =>
            rw [hw] at hsw H
            simp only [Bool.not_true, Bool.or_self, cond_false] at H
            have hse := Aside0.mk (hst.out.see (k := 0) (by omega) hw)
            have hbs := Aside0.mk (hbut.out.trans (But2.set wr c 0 (Or.inr rfl) (.bool true)))
            cases hd : Nat.beq (dig oq 0) 0 with
            | true =>
              rw [hd, cond_true] at H
              have hd0 : dig oq 0 = 0 := Nat.eq_of_beq_eq_true hd
              have hz : setd oq 0 (i + 1) = oq + (i + 1) * 8 ^ 0 := by unfold setd; rw [hd0]; omega
              rw [← hz] at H
              simp only [Option.some.injEq, Prod.mk.injEq] at H
              obtain ⟨rfl, rfl, rfl⟩ := H
              rw [hd0] at how
              have how' : wr.cell? ⟨b, 1, none⟩ = some (.int .i64 (-1)) := how
              have hend := Aside0.mk (hse.out.put (k := 0) (by omega) hi)
              have hbe := Aside0.mk (hbs.out.trans (But2.set _ b 1 (Or.inl rfl) (.int .i64 i)))
              clear how hbit hh hw hd hd0 hz
              go_wp2
              go_ret
              exact ⟨rfl, hend.out, hbe.out⟩
            | false =>
              rw [hd, cond_false] at H
              have hdp : dig oq 0 ≠ 0 := fun hh => by rw [hh] at hd; exact absurd hd (by decide)
              obtain ⟨j, hj⟩ : ∃ j, dig oq 0 = j + 1 := ⟨dig oq 0 - 1, by omega⟩
              have hjn := hst.out.own 0 (by omega)
              have hjm : j < ms.length := by omega
              rw [hj] at how H
              have e1 : ((j + 1 : Nat) : Int) - 1 = j := by omega
              rw [e1] at how
              have how' : wr.cell? ⟨b, 1, none⟩ = some (.int .i64 j) := how
              clear how e1 hdp hbit hh hw
              cases hf : Nat.ble (j + 1) f with
              | true =>
                rw [hf, cond_true] at H
                have hle := Nat.le_of_ble_eq_true hf
                have t2 : decide ((j : Int) < f) = true := decide_eq_true (by omega)
                have t3 : decide (j < f) = true := decide_eq_true (by omega)
                have H' := Aside0.mk H
                clear H hd hf hle hj
                go_wp2
                go_roundg g1
                case measure => have := HK.out; omega
                case rel => exact ⟨1, oq, sq + 2 ^ 0, rfl, ⟨by omega⟩, H', ⟨by have := HK.out; omega⟩, hse, hbs⟩
              | false =>
                rw [hf, cond_false, Nat.add_sub_cancel] at H
                have hnl : ¬ j + 1 ≤ f := fun hh => by rw [Nat.ble_eq_true_of_le hh] at hf; cases hf
                have t2 : decide ((j : Int) < f) = false := decide_eq_false (by omega)
                have t3 : decide (j < f) = false := decide_eq_false (by omega)
                cases hrec : takesC mc f g1 j 0 oq (sq + 2 ^ 0) with
                | none => rw [hrec] at H; cases H
                | some x =>
                  obtain ⟨rb, oc2, sc2⟩ := x
                  rw [hrec] at H
                  have HR := Aside0.mk hrec
                  cases rb with
                  | false =>
                    simp only at H
                    have H' := Aside0.mk H
                    clear H hd hf hnl hj hrec
                    go_wp2_with (fail)
                    go_at_call 17
                    refine (IH.out g1 (by have := HK.out; omega) j oq _ false oc2 sc2 _ hjm hse.out HR.out).mono ?_
                    rintro e w2 ⟨rfl, hst2, hbut2⟩
                    have hs2 := Aside0.mk hst2
                    have hb2 := Aside0.mk (hbs.out.trans hbut2)
                    clear hst2 hbut2 hst hbut hse hbs how' hsw hb0 hcell fb fc
                    go_wp2
                    go_roundg g1
                    case measure => have := HK.out; omega
                    case rel => exact ⟨1, oc2, sc2, rfl, ⟨by omega⟩, H', ⟨by have := HK.out; omega⟩, hs2, hb2⟩
                  | true =>
                    simp only [Option.some.injEq, Prod.mk.injEq] at H
                    obtain ⟨rfl, hoc, rfl⟩ := H
                    have hoc' : setd oc2 0 (i + 1) = oc' := hoc
                    clear hoc hd hf hnl hj hrec
                    go_wp2_with (fail)
                    go_at_call 17
                    refine (IH.out g1 (by have := HK.out; omega) j oq _ true oc2 sc2 _ hjm hse.out HR.out).mono ?_
                    rintro e w2 ⟨rfl, hst2, hbut2⟩
                    have hend := Aside0.mk (hst2.put (k := 0) (by omega) hi)
                    have hbe := Aside0.mk ((hbs.out.trans hbut2).trans (But2.set _ b 1 (Or.inl rfl) (.int .i64 i)))
                    have ho2 := (hst2.cellOwn (k := 0) (by omega)).1
                    have ho2' : w2.cell? ⟨b, 1, none⟩ = some (ownV oc2 0) := ho2
                    have fb2 := blk_frozen hst2.pair 1
                    clear ho2 hst2 hbut2 hst hbut hse hbs how' hsw hb0 hcell fb fc
                    have hoc2 := Aside0.mk hoc'
                    clear hoc'
                    go_wp2
                    go_ret
                    exact ⟨rfl, by have := hend.out; rw [hoc2.out] at this; exact this, hbe.out⟩
      · obtain ⟨ad, rfl, hcell⟩ := hst.out.reads.at_ i (by omega) (by omega)
        have hb0 := hst.out.cellMasks
        simp only [Int.toNat_natCast] at hcell
        have hi' : (i : Int) < ms.length := by omega
        have hbit := HM.out i hi 1 (by omega)
        have hsw := (hst.out.cellOwn (k := 1) (by omega)).2
        have how := (hst.out.cellOwn (k := 1) (by omega)).1
        have fb := blk_frozen hst.out.pair 2
        have fc := blk_frozen hst.out.seen 1
        unfold sawV at hsw
        unfold ownV at how
        simp only [takesC] at H
        rw [show Nat.blt 1 4 = true from rfl, cond_true] at H
        simp only [Int.reducePow, Int.ediv_one] at hbit
        cases hh : has mc i 1 with
        | false =>
          rw [hh] at hbit H
          simp only [Bool.false_eq_true, if_false, Bool.not_false, Bool.true_or, cond_true] at hbit H
          have t1 : (bits BinOp.and IntKind.u8 (rd ms ↑i / 2) 1 == 0) = true := by rw [hbit]; rfl
          have H' := Aside0.mk H
          clear H hbit hh
          go_wp2
          go_roundg g1
          case measure => have := HK.out; omega
          case rel => exact ⟨2, oq, sq, rfl, ⟨by omega⟩, H', ⟨by have := HK.out; omega⟩, hst, hbut⟩
        | true =>
          rw [hh] at hbit H
          simp only [if_true] at hbit
          have t1 : (bits BinOp.and IntKind.u8 (rd ms ↑i / 2) 1 == 0) = false := by rw [hbit]; rfl
          cases hw : sawn sq 1 with
          | true =>
            rw [hw] at hsw H
            simp only [Bool.not_true, Bool.or_true, cond_true] at H
            have H' := Aside0.mk H
            clear H hbit hh hw
            go_wp2
            go_roundg g1
            case measure => have := HK.out; omega
            case rel => exact ⟨2, oq, sq, rfl, ⟨by omega⟩, H', ⟨by have := HK.out; omega⟩, hst, hbut⟩
          | false =>
            rw [hw] at hsw H
            simp only [Bool.not_true, Bool.or_self, cond_false] at H
            have hse := Aside0.mk (hst.out.see (k := 1) (by omega) hw)
            have hbs := Aside0.mk (hbut.out.trans (But2.set wr c 1 (Or.inr rfl) (.bool true)))
            cases hd : Nat.beq (dig oq 1) 0 with
            | true =>
              rw [hd, cond_true] at H
              have hd0 : dig oq 1 = 0 := Nat.eq_of_beq_eq_true hd
              have hz : setd oq 1 (i + 1) = oq + (i + 1) * 8 ^ 1 := by unfold setd; rw [hd0]; omega
              rw [← hz] at H
              simp only [Option.some.injEq, Prod.mk.injEq] at H
              obtain ⟨rfl, rfl, rfl⟩ := H
              rw [hd0] at how
              have how' : wr.cell? ⟨b, 2, none⟩ = some (.int .i64 (-1)) := how
              have hend := Aside0.mk (hse.out.put (k := 1) (by omega) hi)
              have hbe := Aside0.mk (hbs.out.trans (But2.set _ b 2 (Or.inl rfl) (.int .i64 i)))
              clear how hbit hh hw hd hd0 hz
              go_wp2
              go_ret
              exact ⟨rfl, hend.out, hbe.out⟩
            | false =>
              rw [hd, cond_false] at H
              have hdp : dig oq 1 ≠ 0 := fun hh => by rw [hh] at hd; exact absurd hd (by decide)
              obtain ⟨j, hj⟩ : ∃ j, dig oq 1 = j + 1 := ⟨dig oq 1 - 1, by omega⟩
              have hjn := hst.out.own 1 (by omega)
              have hjm : j < ms.length := by omega
              rw [hj] at how H
              have e1 : ((j + 1 : Nat) : Int) - 1 = j := by omega
              rw [e1] at how
              have how' : wr.cell? ⟨b, 2, none⟩ = some (.int .i64 j) := how
              clear how e1 hdp hbit hh hw
              cases hf : Nat.ble (j + 1) f with
              | true =>
                rw [hf, cond_true] at H
                have hle := Nat.le_of_ble_eq_true hf
                have t2 : decide ((j : Int) < f) = true := decide_eq_true (by omega)
                have t3 : decide (j < f) = true := decide_eq_true (by omega)
                have H' := Aside0.mk H
                clear H hd hf hle hj
                go_wp2
                go_roundg g1
                case measure => have := HK.out; omega
                case rel => exact ⟨2, oq, sq + 2 ^ 1, rfl, ⟨by omega⟩, H', ⟨by have := HK.out; omega⟩, hse, hbs⟩
              | false =>
                rw [hf, cond_false, Nat.add_sub_cancel] at H
                have hnl : ¬ j + 1 ≤ f := fun hh => by rw [Nat.ble_eq_true_of_le hh] at hf; cases hf
                have t2 : decide ((j : Int) < f) = false := decide_eq_false (by omega)
                have t3 : decide (j < f) = false := decide_eq_false (by omega)
                cases hrec : takesC mc f g1 j 0 oq (sq + 2 ^ 1) with
                | none => rw [hrec] at H; cases H
                | some x =>
                  obtain ⟨rb, oc2, sc2⟩ := x
                  rw [hrec] at H
                  have HR := Aside0.mk hrec
                  cases rb with
                  | false =>
                    simp only at H
                    have H' := Aside0.mk H
                    clear H hd hf hnl hj hrec
                    go_wp2_with (fail)
                    go_at_call 17
                    refine (IH.out g1 (by have := HK.out; omega) j oq _ false oc2 sc2 _ hjm hse.out HR.out).mono ?_
                    rintro e w2 ⟨rfl, hst2, hbut2⟩
                    have hs2 := Aside0.mk hst2
                    have hb2 := Aside0.mk (hbs.out.trans hbut2)
                    clear hst2 hbut2 hst hbut hse hbs how' hsw hb0 hcell fb fc
                    go_wp2
                    go_roundg g1
                    case measure => have := HK.out; omega
                    case rel => exact ⟨2, oc2, sc2, rfl, ⟨by omega⟩, H', ⟨by have := HK.out; omega⟩, hs2, hb2⟩
                  | true =>
                    simp only [Option.some.injEq, Prod.mk.injEq] at H
                    obtain ⟨rfl, hoc, rfl⟩ := H
                    have hoc' : setd oc2 1 (i + 1) = oc' := hoc
                    clear hoc hd hf hnl hj hrec
                    go_wp2_with (fail)
                    go_at_call 17
                    refine (IH.out g1 (by have := HK.out; omega) j oq _ true oc2 sc2 _ hjm hse.out HR.out).mono ?_
                    rintro e w2 ⟨rfl, hst2, hbut2⟩
                    have hend := Aside0.mk (hst2.put (k := 1) (by omega) hi)
                    have hbe := Aside0.mk ((hbs.out.trans hbut2).trans (But2.set _ b 2 (Or.inl rfl) (.int .i64 i)))
                    have ho2 := (hst2.cellOwn (k := 1) (by omega)).1
                    have ho2' : w2.cell? ⟨b, 2, none⟩ = some (ownV oc2 1) := ho2
                    have fb2 := blk_frozen hst2.pair 2
                    clear ho2 hst2 hbut2 hst hbut hse hbs how' hsw hb0 hcell fb fc
                    have hoc2 := Aside0.mk hoc'
                    clear hoc'
                    go_wp2
                    go_ret
                    exact ⟨rfl, by have := hend.out; rw [hoc2.out] at this; exact this, hbe.out⟩
      · obtain ⟨ad, rfl, hcell⟩ := hst.out.reads.at_ i (by omega) (by omega)
        have hb0 := hst.out.cellMasks
        simp only [Int.toNat_natCast] at hcell
        have hi' : (i : Int) < ms.length := by omega
        have hbit := HM.out i hi 2 (by omega)
        have hsw := (hst.out.cellOwn (k := 2) (by omega)).2
        have how := (hst.out.cellOwn (k := 2) (by omega)).1
        have fb := blk_frozen hst.out.pair 3
        have fc := blk_frozen hst.out.seen 2
        unfold sawV at hsw
        unfold ownV at how
        simp only [takesC] at H
        rw [show Nat.blt 2 4 = true from rfl, cond_true] at H
        simp only [Int.reducePow, Int.ediv_one] at hbit
        cases hh : has mc i 2 with
        | false =>
          rw [hh] at hbit H
          simp only [Bool.false_eq_true, if_false, Bool.not_false, Bool.true_or, cond_true] at hbit H
          have t1 : (bits BinOp.and IntKind.u8 (rd ms ↑i / 4) 1 == 0) = true := by rw [hbit]; rfl
          have H' := Aside0.mk H
          clear H hbit hh
          go_wp2
          go_roundg g1
          case measure => have := HK.out; omega
          case rel => exact ⟨3, oq, sq, rfl, ⟨by omega⟩, H', ⟨by have := HK.out; omega⟩, hst, hbut⟩
        | true =>
          rw [hh] at hbit H
          simp only [if_true] at hbit
          have t1 : (bits BinOp.and IntKind.u8 (rd ms ↑i / 4) 1 == 0) = false := by rw [hbit]; rfl
          cases hw : sawn sq 2 with
          | true =>
            rw [hw] at hsw H
            simp only [Bool.not_true, Bool.or_true, cond_true] at H
            have H' := Aside0.mk H
            clear H hbit hh hw
            go_wp2
            go_roundg g1
            case measure => have := HK.out; omega
            case rel => exact ⟨3, oq, sq, rfl, ⟨by omega⟩, H', ⟨by have := HK.out; omega⟩, hst, hbut⟩
          | false =>
            rw [hw] at hsw H
            simp only [Bool.not_true, Bool.or_self, cond_false] at H
            have hse := Aside0.mk (hst.out.see (k := 2) (by omega) hw)
            have hbs := Aside0.mk (hbut.out.trans (But2.set wr c 2 (Or.inr rfl) (.bool true)))
            cases hd : Nat.beq (dig oq 2) 0 with
            | true =>
              rw [hd, cond_true] at H
              have hd0 : dig oq 2 = 0 := Nat.eq_of_beq_eq_true hd
              have hz : setd oq 2 (i + 1) = oq + (i + 1) * 8 ^ 2 := by unfold setd; rw [hd0]; omega
              rw [← hz] at H
              simp only [Option.some.injEq, Prod.mk.injEq] at H
              obtain ⟨rfl, rfl, rfl⟩ := H
              rw [hd0] at how
              have how' : wr.cell? ⟨b, 3, none⟩ = some (.int .i64 (-1)) := how
              have hend := Aside0.mk (hse.out.put (k := 2) (by omega) hi)
              have hbe := Aside0.mk (hbs.out.trans (But2.set _ b 3 (Or.inl rfl) (.int .i64 i)))
              clear how hbit hh hw hd hd0 hz
              go_wp2
              go_ret
              exact ⟨rfl, hend.out, hbe.out⟩
            | false =>
              rw [hd, cond_false] at H
              have hdp : dig oq 2 ≠ 0 := fun hh => by rw [hh] at hd; exact absurd hd (by decide)
              obtain ⟨j, hj⟩ : ∃ j, dig oq 2 = j + 1 := ⟨dig oq 2 - 1, by omega⟩
              have hjn := hst.out.own 2 (by omega)
              have hjm : j < ms.length := by omega
              rw [hj] at how H
              have e1 : ((j + 1 : Nat) : Int) - 1 = j := by omega
              rw [e1] at how
              have how' : wr.cell? ⟨b, 3, none⟩ = some (.int .i64 j) := how
              clear how e1 hdp hbit hh hw
              cases hf : Nat.ble (j + 1) f with
              | true =>
                rw [hf, cond_true] at H
                have hle := Nat.le_of_ble_eq_true hf
                have t2 : decide ((j : Int) < f) = true := decide_eq_true (by omega)
                have t3 : decide (j < f) = true := decide_eq_true (by omega)
                have H' := Aside0.mk H
                clear H hd hf hle hj
                go_wp2
                go_roundg g1
                case measure => have := HK.out; omega
                case rel => exact ⟨3, oq, sq + 2 ^ 2, rfl, ⟨by omega⟩, H', ⟨by have := HK.out; omega⟩, hse, hbs⟩
              | false =>
                rw [hf, cond_false, Nat.add_sub_cancel] at H
                have hnl : ¬ j + 1 ≤ f := fun hh => by rw [Nat.ble_eq_true_of_le hh] at hf; cases hf
                have t2 : decide ((j : Int) < f) = false := decide_eq_false (by omega)
                have t3 : decide (j < f) = false := decide_eq_false (by omega)
                cases hrec : takesC mc f g1 j 0 oq (sq + 2 ^ 2) with
                | none => rw [hrec] at H; cases H
                | some x =>
                  obtain ⟨rb, oc2, sc2⟩ := x
                  rw [hrec] at H
                  have HR := Aside0.mk hrec
                  cases rb with
                  | false =>
                    simp only at H
                    have H' := Aside0.mk H
                    clear H hd hf hnl hj hrec
                    go_wp2_with (fail)
                    go_at_call 17
                    refine (IH.out g1 (by have := HK.out; omega) j oq _ false oc2 sc2 _ hjm hse.out HR.out).mono ?_
                    rintro e w2 ⟨rfl, hst2, hbut2⟩
                    have hs2 := Aside0.mk hst2
                    have hb2 := Aside0.mk (hbs.out.trans hbut2)
                    clear hst2 hbut2 hst hbut hse hbs how' hsw hb0 hcell fb fc
                    go_wp2
                    go_roundg g1
                    case measure => have := HK.out; omega
                    case rel => exact ⟨3, oc2, sc2, rfl, ⟨by omega⟩, H', ⟨by have := HK.out; omega⟩, hs2, hb2⟩
                  | true =>
                    simp only [Option.some.injEq, Prod.mk.injEq] at H
                    obtain ⟨rfl, hoc, rfl⟩ := H
                    have hoc' : setd oc2 2 (i + 1) = oc' := hoc
                    clear hoc hd hf hnl hj hrec
                    go_wp2_with (fail)
                    go_at_call 17
                    refine (IH.out g1 (by have := HK.out; omega) j oq _ true oc2 sc2 _ hjm hse.out HR.out).mono ?_
                    rintro e w2 ⟨rfl, hst2, hbut2⟩
                    have hend := Aside0.mk (hst2.put (k := 2) (by omega) hi)
                    have hbe := Aside0.mk ((hbs.out.trans hbut2).trans (But2.set _ b 3 (Or.inl rfl) (.int .i64 i)))
                    have ho2 := (hst2.cellOwn (k := 2) (by omega)).1
                    have ho2' : w2.cell? ⟨b, 3, none⟩ = some (ownV oc2 2) := ho2
                    have fb2 := blk_frozen hst2.pair 3
                    clear ho2 hst2 hbut2 hst hbut hse hbs how' hsw hb0 hcell fb fc
                    have hoc2 := Aside0.mk hoc'
                    clear hoc'
                    go_wp2
                    go_ret
                    exact ⟨rfl, by have := hend.out; rw [hoc2.out] at this; exact this, hbe.out⟩
      · obtain ⟨ad, rfl, hcell⟩ := hst.out.reads.at_ i (by omega) (by omega)
        have hb0 := hst.out.cellMasks
        simp only [Int.toNat_natCast] at hcell
        have hi' : (i : Int) < ms.length := by omega
        have hbit := HM.out i hi 3 (by omega)
        have hsw := (hst.out.cellOwn (k := 3) (by omega)).2
        have how := (hst.out.cellOwn (k := 3) (by omega)).1
        have fb := blk_frozen hst.out.pair 4
        have fc := blk_frozen hst.out.seen 3
        unfold sawV at hsw
        unfold ownV at how
        simp only [takesC] at H
        rw [show Nat.blt 3 4 = true from rfl, cond_true] at H
        simp only [Int.reducePow, Int.ediv_one] at hbit
        cases hh : has mc i 3 with
        | false =>
          rw [hh] at hbit H
          simp only [Bool.false_eq_true, if_false, Bool.not_false, Bool.true_or, cond_true] at hbit H
          have t1 : (bits BinOp.and IntKind.u8 (rd ms ↑i / 8) 1 == 0) = true := by rw [hbit]; rfl
          have H' := Aside0.mk H
          clear H hbit hh
          go_wp2
          go_roundg g1
          case measure => have := HK.out; omega
          case rel => exact ⟨4, oq, sq, rfl, ⟨by omega⟩, H', ⟨by have := HK.out; omega⟩, hst, hbut⟩
        | true =>
          rw [hh] at hbit H
          simp only [if_true] at hbit
          have t1 : (bits BinOp.and IntKind.u8 (rd ms ↑i / 8) 1 == 0) = false := by rw [hbit]; rfl
          cases hw : sawn sq 3 with
          | true =>
            rw [hw] at hsw H
            simp only [Bool.not_true, Bool.or_true, cond_true] at H
            have H' := Aside0.mk H
            clear H hbit hh hw
            go_wp2
            go_roundg g1
            case measure => have := HK.out; omega
            case rel => exact ⟨4, oq, sq, rfl, ⟨by omega⟩, H', ⟨by have := HK.out; omega⟩, hst, hbut⟩
          | false =>
            rw [hw] at hsw H
            simp only [Bool.not_true, Bool.or_self, cond_false] at H
            have hse := Aside0.mk (hst.out.see (k := 3) (by omega) hw)
            have hbs := Aside0.mk (hbut.out.trans (But2.set wr c 3 (Or.inr rfl) (.bool true)))
            cases hd : Nat.beq (dig oq 3) 0 with
            | true =>
              rw [hd, cond_true] at H
              have hd0 : dig oq 3 = 0 := Nat.eq_of_beq_eq_true hd
              have hz : setd oq 3 (i + 1) = oq + (i + 1) * 8 ^ 3 := by unfold setd; rw [hd0]; omega
              rw [← hz] at H
              simp only [Option.some.injEq, Prod.mk.injEq] at H
              obtain ⟨rfl, rfl, rfl⟩ := H
              rw [hd0] at how
              have how' : wr.cell? ⟨b, 4, none⟩ = some (.int .i64 (-1)) := how
              have hend := Aside0.mk (hse.out.put (k := 3) (by omega) hi)
              have hbe := Aside0.mk (hbs.out.trans (But2.set _ b 4 (Or.inl rfl) (.int .i64 i)))
              clear how hbit hh hw hd hd0 hz
              go_wp2
              go_ret
              exact ⟨rfl, hend.out, hbe.out⟩
            | false =>
              rw [hd, cond_false] at H
              have hdp : dig oq 3 ≠ 0 := fun hh => by rw [hh] at hd; exact absurd hd (by decide)
              obtain ⟨j, hj⟩ : ∃ j, dig oq 3 = j + 1 := ⟨dig oq 3 - 1, by omega⟩
              have hjn := hst.out.own 3 (by omega)
              have hjm : j < ms.length := by omega
              rw [hj] at how H
              have e1 : ((j + 1 : Nat) : Int) - 1 = j := by omega
              rw [e1] at how
              have how' : wr.cell? ⟨b, 4, none⟩ = some (.int .i64 j) := how
              clear how e1 hdp hbit hh hw
              cases hf : Nat.ble (j + 1) f with
              | true =>
                rw [hf, cond_true] at H
                have hle := Nat.le_of_ble_eq_true hf
                have t2 : decide ((j : Int) < f) = true := decide_eq_true (by omega)
                have t3 : decide (j < f) = true := decide_eq_true (by omega)
                have H' := Aside0.mk H
                clear H hd hf hle hj
                go_wp2
                go_roundg g1
                case measure => have := HK.out; omega
                case rel => exact ⟨4, oq, sq + 2 ^ 3, rfl, ⟨by omega⟩, H', ⟨by have := HK.out; omega⟩, hse, hbs⟩
              | false =>
                rw [hf, cond_false, Nat.add_sub_cancel] at H
                have hnl : ¬ j + 1 ≤ f := fun hh => by rw [Nat.ble_eq_true_of_le hh] at hf; cases hf
                have t2 : decide ((j : Int) < f) = false := decide_eq_false (by omega)
                have t3 : decide (j < f) = false := decide_eq_false (by omega)
                cases hrec : takesC mc f g1 j 0 oq (sq + 2 ^ 3) with
                | none => rw [hrec] at H; cases H
                | some x =>
                  obtain ⟨rb, oc2, sc2⟩ := x
                  rw [hrec] at H
                  have HR := Aside0.mk hrec
                  cases rb with
                  | false =>
                    simp only at H
                    have H' := Aside0.mk H
                    clear H hd hf hnl hj hrec
                    go_wp2_with (fail)
                    go_at_call 17
                    refine (IH.out g1 (by have := HK.out; omega) j oq _ false oc2 sc2 _ hjm hse.out HR.out).mono ?_
                    rintro e w2 ⟨rfl, hst2, hbut2⟩
                    have hs2 := Aside0.mk hst2
                    have hb2 := Aside0.mk (hbs.out.trans hbut2)
                    clear hst2 hbut2 hst hbut hse hbs how' hsw hb0 hcell fb fc
                    go_wp2
                    go_roundg g1
                    case measure => have := HK.out; omega
                    case rel => exact ⟨4, oc2, sc2, rfl, ⟨by omega⟩, H', ⟨by have := HK.out; omega⟩, hs2, hb2⟩
                  | true =>
                    simp only [Option.some.injEq, Prod.mk.injEq] at H
                    obtain ⟨rfl, hoc, rfl⟩ := H
                    have hoc' : setd oc2 3 (i + 1) = oc' := hoc
                    clear hoc hd hf hnl hj hrec
                    go_wp2_with (fail)
                    go_at_call 17
                    refine (IH.out g1 (by have := HK.out; omega) j oq _ true oc2 sc2 _ hjm hse.out HR.out).mono ?_
                    rintro e w2 ⟨rfl, hst2, hbut2⟩
                    have hend := Aside0.mk (hst2.put (k := 3) (by omega) hi)
                    have hbe := Aside0.mk ((hbs.out.trans hbut2).trans (But2.set _ b 4 (Or.inl rfl) (.int .i64 i)))
                    have ho2 := (hst2.cellOwn (k := 3) (by omega)).1
                    have ho2' : w2.cell? ⟨b, 4, none⟩ = some (ownV oc2 3) := ho2
                    have fb2 := blk_frozen hst2.pair 4
                    clear ho2 hst2 hbut2 hst hbut hse hbs how' hsw hb0 hcell fb fc
                    have hoc2 := Aside0.mk hoc'
                    clear hoc'
                    go_wp2
                    go_ret
                    exact ⟨rfl, by have := hend.out; rw [hoc2.out] at this; exact this, hbe.out⟩
      · simp only [takesC] at H
        rw [show Nat.blt 4 4 = false from rfl, cond_false] at H
        simp only [Option.some.injEq, Prod.mk.injEq] at H
        obtain ⟨rfl, rfl, rfl⟩ := H
        go_wp2
        go_ret
        exact ⟨rfl, hst.out, hbut.out⟩
end Go.Proofs.Ytjmcdlehjgngfaa
