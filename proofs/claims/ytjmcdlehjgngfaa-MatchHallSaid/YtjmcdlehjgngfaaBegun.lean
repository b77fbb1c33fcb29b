/- begun, walked: a pairing in which some masks have their slots. -/
import Derived.Test.YtjmcdlehjgngfaaAll
namespace Go.Proofs.Ytjmcdlehjgngfaa
open Go.RowKit Go.Proofs.YtjmcdlehjgngfaaW.PrintWords Go.Proofs.YtjmcdlehjgngfaaW.PrintLast Go.Proofs.YtjmcdlehjgngfaaW.PrintMore
set_option linter.unusedVariables false
set_option linter.unusedSimpArgs false

/-- The owners, masks j, j + 1, .. having these slots. -/
def begC : List Nat → Nat → Nat → Nat
  | [], _, oc => oc
  | s :: r, j, oc => begC r (j + 1) (setd oc s (j + 1))

def ints (fs : List Nat) : List Int := fs.map fun (s : Nat) => (s : Int)
theorem ints_length (fs : List Nat) : (ints fs).length = fs.length := by simp [ints]
theorem rd_ints (fs : List Nat) (k : Nat) (hk : k < fs.length) : rd (ints fs) k = (fs[k] : Int) := by simp [rd, ints, hk]
theorem begC_drop (fs : List Nat) (k oc : Nat) (hk : k < fs.length) : begC (fs.drop k) k oc = begC (fs.drop (k + 1)) (k + 1) (setd oc fs[k] (k + 1)) := by rw [List.drop_eq_getElem_cons hk]; rfl

theorem Pr.put {w : World} {b : Nat} {A : Option Addr} {cap : Nat} {ms : List Int} {oc : Nat} (h : Pr w b A cap ms oc) {k i : Nat} (hk : k < 4) (hi : i < ms.length) :
    Pr (w.setCell ⟨b, 1 + k, none⟩ (.int .i64 i)) b A cap ms (setd oc k (i + 1)) := by
  have hf := h.few
  obtain ⟨s0, s1, s2, s3⟩ := dig_setd oc k (i + 1) hk (by omega)
  refine ⟨reads_far h.reads fun ad e => Below.heap_setCell _ _ _ _ (h.apart ad e).1, fun ad e => ⟨(h.apart ad e).1, ?_⟩, h.few, ?_, ?_⟩
  · have := (h.apart ad e).2
    simpa [World.setCell] using this
  · intro j hj
    have o0 := h.own 0 (by omega)
    have o1 := h.own 1 (by omega)
    have o2 := h.own 2 (by omega)
    have o3 := h.own 3 (by omega)
    rcases (show j = 0 ∨ j = 1 ∨ j = 2 ∨ j = 3 by omega) with rfl | rfl | rfl | rfl
    · rw [s0]; split <;> omega
    · rw [s1]; split <;> omega
    · rw [s2]; split <;> omega
    · rw [s3]; split <;> omega
  · refine blk_put h.pair (1 + k) (.int .i64 i) ?_
    unfold ownV
    rw [s0, s1, s2, s3]
    have e : ((i + 1 : Nat) : Int) - 1 = i := by omega
    rcases (show k = 0 ∨ k = 1 ∨ k = 2 ∨ k = 3 by omega) with rfl | rfl | rfl | rfl <;> simp only [Nat.reduceEqDiff, if_true, if_false, e] <;> rfl
theorem Pr.cellOwn {w : World} {b : Nat} {A : Option Addr} {cap : Nat} {ms : List Int} {oc : Nat} (h : Pr w b A cap ms oc) {k : Nat} (hk : k < 4) :
    w.cell? ⟨b, 1 + k, none⟩ = some (ownV oc k) := by
  rw [blk_cell h.pair]
  rcases (show k = 0 ∨ k = 1 ∨ k = 2 ∨ k = 3 by omega) with rfl | rfl | rfl | rfl <;> rfl

def Begun (A : Option Addr) (cap : Nat) (ms : List Int) (oc : Nat) (w : World) (e : Ending) (w' : World) : Prop :=
  ∃ b, e = .returned (.pointer (some ⟨b, 0, none⟩)) ∧ w.heap.size ≤ b ∧ Pr w' b A cap ms oc ∧ Below w.heap.size w w'

set_option maxHeartbeats 4000000 in
set_option maxRecDepth 100000 in
theorem begun_any (A : Option Addr) (cap : Nat) (ms : List Int) (F : Option Addr) (capF : Nat) (fs : List Nat) (w : World)
    (hr : ReadsInt w .u8 A ms.length ms) (ha : ∀ ad, A = some ad → ad.block < w.heap.size) (few : ms.length ≤ 4) (hF : ReadsInt w .i64 F fs.length (ints fs)) (hlen : fs.length ≤ ms.length) (h4 : ∀ s ∈ fs, s < 4) :
    Calls Try.prog 13 #[.slice A ms.length cap, .slice F fs.length capF] w (Begun A cap ms (begC fs 0 0) w) := by
  have HR := Lib.hid hr
  have HA := Lib.hid ha
  have HF := Lib.hid hF
  have H4 := Lib.hid h4
  have f4 : (fs.length : Int) ≤ 4 := by omega
  clear hr ha hF h4
  go_enter Try.func13, Try.ntmps13
  go_wp2_with (fail)
  have hp0 := Aside0.mk (show Pr (w.alloc (.cells #[.slice A ms.length cap, .int .i64 (-1), .int .i64 (-1), .int .i64 (-1), .int .i64 (-1)] 39 (0, 0))) w.heap.size A cap ms 0 from
    ⟨ReadsInt.below HR.out (Below.alloc (Below.refl _ _) (Nat.le_refl _) _), fun ad e => by have := HA.out ad e; simp; omega, few, fun k hk => by unfold dig; simp, blk_new _ _⟩)
  have hb0 := Aside0.mk (show Below w.heap.size w (w.alloc (.cells #[.slice A ms.length cap, .int .i64 (-1), .int .i64 (-1), .int .i64 (-1), .int .i64 (-1)] 39 (0, 0))) from Below.alloc (Below.refl _ _) (Nat.le_refl _) _)
  obtain ⟨b, hb⟩ : ∃ b, w.heap.size = b := ⟨_, rfl⟩
  have hbe := Lib.hid hb
  rw [hb] at hp0 ⊢
  clear hb
  generalize (w.alloc (Obj.cells #[.slice A ms.length cap, .int .i64 (-1), .int .i64 (-1), .int .i64 (-1), .int .i64 (-1)] 39 (0, 0))) = w0 at hp0 hb0 ⊢
  go_loopg [6, 7, 14] fs.length (fun gq v6 v7 v14 w' => ∃ (k oq : Nat), v14 = .int .i64 k ∧ Aside0 (k + gq = fs.length) ∧ Aside0 (begC (fs.drop k) k oq = begC fs 0 0) ∧ Aside0 (Pr w' b A cap ms oq) ∧ Aside0 (Below w.heap.size w w'))
  case atStart => exact ⟨0, 0, rfl, ⟨by omega⟩, ⟨rfl⟩, hp0, hb0⟩
  case round =>
    clear hp0 hb0
    obtain ⟨k, oq, rfl, HK, HC, hst, hbut⟩ := hrel
    cases gk with
    | zero =>
      have hk : k = fs.length := by have := HK.out; omega
      have t1 : decide ((k : Int) < fs.length) = false := decide_eq_false (by omega)
      have t2 : decide (k < fs.length) = false := decide_eq_false (by omega)
      have hc := HC.out
      rw [hk, List.drop_length] at hc
      have hc2 : oq = begC fs 0 0 := hc
      have hst2 := Aside0.mk (hc2 ▸ hst.out)
      clear hk hc hc2 HC HK
      go_wp2
      go_ret
      exact ⟨b, rfl, Nat.le_of_eq hbe.out, hst2.out, hbut.out⟩
    | succ g1 =>
      have hk : k < fs.length := by have := HK.out; omega
      have hk' : (k : Int) < fs.length := by omega
      have t2 : decide (k < fs.length) = true := decide_eq_true hk
      obtain ⟨ad, rfl, hcell⟩ := (HF.out.below hbut.out).at_ k (by omega) (by omega)
      rw [rd_ints fs k hk] at hcell
      simp only [Int.toNat_natCast] at hcell
      have hc := HC.out
      rw [begC_drop fs k oq hk] at hc
      have hs4 : fs[k] < 4 := H4.out _ (List.getElem_mem hk)
      obtain ⟨s, hs⟩ : ∃ s, fs[k] = s := ⟨_, rfl⟩
      rw [hs] at hcell hc hs4
      have hs4' : (s : Int) < 4 := by omega
      have hc' := Aside0.mk hc
      have how := hst.out.cellOwn hs4
      unfold ownV at how
      have fb := blk_frozen hst.out.pair (1 + s)
      have hst2 := Aside0.mk (hst.out.put (k := s) (i := k) hs4 (by omega))
      have hb2 := Aside0.mk (hbut.out.setCell (p := ⟨b, 1 + s, none⟩) (Nat.le_of_eq hbe.out) (.int .i64 k))
      clear hc HC hs
      go_wp2
      go_roundg g1
      case measure => omega
      case rel => exact ⟨k + 1, _, by go_num, ⟨by have := HK.out; omega⟩, hc', hst2, hb2⟩
end Go.Proofs.Ytjmcdlehjgngfaa
