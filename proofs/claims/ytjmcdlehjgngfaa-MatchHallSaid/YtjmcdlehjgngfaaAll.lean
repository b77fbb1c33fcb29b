/- (*pairing).all and begun and Fits, walked: they compute allC. -/
import Derived.Test.YtjmcdlehjgngfaaTakes
namespace Go.Proofs.Ytjmcdlehjgngfaa
open Go.RowKit Go.Proofs.YtjmcdlehjgngfaaW.PrintWords Go.Proofs.YtjmcdlehjgngfaaW.PrintLast Go.Proofs.YtjmcdlehjgngfaaW.PrintMore
set_option linter.unusedVariables false
set_option linter.unusedSimpArgs false

/-- Block b (a pairing) aside, what was there is as it was. -/
structure But1 (b : Nat) (w w' : World) : Prop where
  os : w'.os = w.os
  tape : w'.tape = w.tape
  output : w'.output = w.output
  size : w.heap.size ≤ w'.heap.size
  block : ∀ k, k < w.heap.size → k ≠ b → w'.heap[k]? = w.heap[k]?
theorem But1.refl (b : Nat) (w : World) : But1 b w w := ⟨rfl, rfl, rfl, Nat.le_refl _, fun _ _ _ => rfl⟩
theorem But1.trans {b : Nat} {w w1 w2 : World} (h : But1 b w w1) (k : But1 b w1 w2) : But1 b w w2 :=
  ⟨k.os.trans h.os, k.tape.trans h.tape, k.output.trans h.output, Nat.le_trans h.size k.size, fun i hi hb => (k.block i (Nat.lt_of_lt_of_le hi h.size) hb).trans (h.block i hi hb)⟩

/-- A pairing at block b over masks that read as ms. -/
structure Pr (w : World) (b : Nat) (A : Option Addr) (cap : Nat) (ms : List Int) (oc : Nat) : Prop where
  reads : ReadsInt w .u8 A ms.length ms
  apart : ∀ ad, A = some ad → ad.block ≠ b ∧ ad.block < w.heap.size
  few : ms.length ≤ 4
  own : ∀ k, k < 4 → dig oc k ≤ ms.length
  pair : w.heap[b]? = some (.cells #[.slice A ms.length cap, ownV oc 0, ownV oc 1, ownV oc 2, ownV oc 3] 39 (0, 0))

theorem Pr.fresh {w : World} {b : Nat} {A : Option Addr} {cap : Nat} {ms : List Int} {oc : Nat} (h : Pr w b A cap ms oc) :
    St (w.alloc (.cells #[.bool false, .bool false, .bool false, .bool false] 42 (0, 0))) b w.heap.size A cap ms oc 0 := by
  have hlt := blk_lt h.pair
  refine ⟨ReadsInt.below h.reads (Below.alloc (Below.refl _ _) (Nat.le_refl _) _), fun ad e => ⟨(h.apart ad e).1, ?_⟩, by omega, h.few, h.own, blk_alloc h.pair _, blk_new _ _⟩
  have := (h.apart ad e).2
  omega
theorem St.pr {w : World} {b c : Nat} {A : Option Addr} {cap : Nat} {ms : List Int} {oc sc : Nat} (h : St w b c A cap ms oc sc) (ha : ∀ ad, A = some ad → ad.block < w.heap.size) : Pr w b A cap ms oc :=
  ⟨h.reads, fun ad e => ⟨(h.apart ad e).1, ha ad e⟩, h.few, h.own, h.pair⟩
theorem But1.of2 {b : Nat} {w w1 w2 : World} (h : w1 = w.alloc (.cells #[.bool false, .bool false, .bool false, .bool false] 42 (0, 0))) (k : But2 b w.heap.size w1 w2) : But1 b w w2 := by
  subst h
  refine ⟨k.os, k.tape, k.output, ?_, fun i hi hb => ?_⟩
  · have := k.size
    simp at this
    omega
  · rw [k.block i hb (by omega)]
    exact Below.heap_alloc _ _ _ hi

def All (b : Nat) (r : Bool) (w : World) (e : Ending) (w' : World) : Prop := e = .returned (.bool r) ∧ But1 b w w'

set_option maxHeartbeats 4000000 in
set_option maxRecDepth 100000 in
theorem all_any (mc f g : Nat) (b : Nat) (A : Option Addr) (cap : Nat) (ms : List Int) (oc : Nat) (r : Bool) (w : World) (hm : Bits mc ms)
    (hs : Pr w b A cap ms oc) (h : allC mc f ms.length g f oc = some r) :
    Calls Try.prog 14 #[.pointer (some ⟨b, 0, none⟩), .int .i64 f] w (All b r w) := by
  have H' := Aside0.mk h
  have HM := Aside0.mk hm
  have HS := Lib.hid hs
  clear h hm hs
  go_enter Try.func14, Try.ntmps14
  go_wp2_with (fail)
  go_loopg [5] g (fun gq v5 w' => ∃ (i oq : Nat), v5 = .int .i64 i ∧ Aside0 (allC mc f ms.length gq i oq = some r) ∧ Aside0 (gq ≤ g) ∧ Aside0 (Pr w' b A cap ms oq) ∧ Aside0 (But1 b w w'))
  case atStart => exact ⟨f, oc, rfl, H', ⟨Nat.le_refl _⟩, ⟨HS.out⟩, ⟨But1.refl _ _⟩⟩
  case round =>
    clear H'
    obtain ⟨i, oq, rfl, HA, HK, hst, hbut⟩ := hrel
    cases gk with
    | zero => exact absurd HA.out (by simp [allC])
    | succ g1 =>
      have H := HA.out
      clear HA
      simp only [allC] at H
      have hb0 : wr.cell? ⟨b, 0, none⟩ = some (.slice A ms.length cap) := by rw [blk_cell hst.out.pair]; rfl
      cases hlt : Nat.blt i ms.length with
      | false =>
        rw [hlt, cond_false] at H
        simp only [Option.some.injEq] at H
        subst H
        have hge : ¬ i < ms.length := fun hh => by rw [Nat.blt_eq.symm.mp hh] at hlt; cases hlt
        have t1 : decide (i < ms.length) = false := decide_eq_false hge
        clear hlt hge
        go_wp2
        go_ret
        exact ⟨rfl, hbut.out⟩
      | true =>
        rw [hlt, cond_true] at H
        have hl : i < ms.length := Nat.blt_eq.mp hlt
        have t1 : decide (i < ms.length) = true := decide_eq_true hl
        cases hrec : takesC mc f 40 i 0 oq 0 with
        | none => rw [hrec] at H; cases H
        | some x =>
          obtain ⟨rb, oc2, sc2⟩ := x
          rw [hrec] at H
          have HR := Aside0.mk hrec
          clear hlt hrec
          cases rb with
          | false =>
            simp only [Option.some.injEq] at H
            subst H
            go_wp2_with (fail)
            go_at_call 17
            refine (takes_any mc f b wr.heap.size A cap ms HM.out 40 i oq 0 false oc2 sc2 _ hl hst.out.fresh HR.out).mono ?_
            rintro e w2 ⟨rfl, hst2, hbut2⟩
            have hb2 := Aside0.mk (hbut.out.trans (But1.of2 rfl hbut2))
            clear hst2 hbut2 hst hbut hb0
            go_wp2
            go_ret
            exact ⟨rfl, hb2.out⟩
          | true =>
            simp only at H
            have H' := Aside0.mk H
            clear H
            have hi4 : (i : Int) < 4 := by have := hst.out.few; omega
            go_wp2_with (fail)
            go_at_call 17
            refine (takes_any mc f b wr.heap.size A cap ms HM.out 40 i oq 0 true oc2 sc2 _ hl hst.out.fresh HR.out).mono ?_
            rintro e w2 ⟨rfl, hst2, hbut2⟩
            have hb2 := Aside0.mk (hbut.out.trans (But1.of2 rfl hbut2))
            have hp2 := Aside0.mk (hst2.pr fun ad e => by
              have h1 := (hst.out.apart ad e).2
              have h2 := hbut2.size
              simp at h2
              omega)
            clear hst2 hbut2 hst hbut hb0
            go_wp2
            go_roundg g1
            case measure => have := HK.out; omega
            case rel => exact ⟨i + 1, oc2, by go_num, H', ⟨by have := HK.out; omega⟩, hp2, hb2⟩
end Go.Proofs.Ytjmcdlehjgngfaa
