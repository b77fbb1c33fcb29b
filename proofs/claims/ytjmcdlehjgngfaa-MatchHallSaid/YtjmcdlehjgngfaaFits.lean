/- match.Fits, walked. -/
import Derived.Test.YtjmcdlehjgngfaaBegun
namespace Go.Proofs.Ytjmcdlehjgngfaa
open Go.RowKit Go.Proofs.YtjmcdlehjgngfaaW.PrintWords Go.Proofs.YtjmcdlehjgngfaaW.PrintLast Go.Proofs.YtjmcdlehjgngfaaW.PrintMore
set_option linter.unusedVariables false
set_option linter.unusedSimpArgs false

theorem But1.below {b : Nat} {w w1 w2 : World} (h : Below w.heap.size w w1) (k : But1 b w1 w2) (hb : w.heap.size ≤ b) : Below w.heap.size w w2 :=
  ⟨k.os.trans h.os, k.tape.trans h.tape, k.output.trans h.output, Nat.le_trans h.size k.size, fun i hi => (k.block i (Nat.lt_of_lt_of_le hi h.size) (by omega)).trans (h.block i hi)⟩

theorem reads_nil (w : World) (k : IntKind) : ReadsInt w k none 0 [] := ⟨rfl, by omega, fun h => absurd h (by omega)⟩

set_option maxHeartbeats 4000000 in
set_option maxRecDepth 100000 in
theorem fits_few (mc g : Nat) (A : Option Addr) (cap : Nat) (ms : List Int) (r : Bool) (w : World) (hm : Bits mc ms)
    (hr : ReadsInt w .u8 A ms.length ms) (ha : ∀ ad, A = some ad → ad.block < w.heap.size) (few : ms.length ≤ 4) (h : allC mc 0 ms.length g 0 0 = some r) :
    Calls Try.prog 11 #[.slice A ms.length cap] w fun e w' => e = .returned (.bool r) ∧ Below w.heap.size w w' := by
  have HM := Aside0.mk hm
  have HR := Lib.hid hr
  have HA := Lib.hid ha
  have HH := Aside0.mk h
  have t1 : decide ((ms.length : Int) ≤ 4) = true := decide_eq_true (by omega)
  have t2 : decide (ms.length ≤ 4) = true := decide_eq_true few
  have FW := Aside0.mk few
  clear hm hr ha h few
  go_enter Try.func11, Try.ntmps11
  go_wp2_with (fail)
  go_at_call 13
  refine (begun_any A cap ms none 0 [] w HR.out HA.out FW.out (reads_nil _ _) (Nat.zero_le _) (fun s hs => by cases hs)).mono ?_
  rintro e w1 ⟨b, rfl, hb, hp, hB⟩
  have hp1 := Aside0.mk hp
  have hB1 := Aside0.mk hB
  clear hp hB
  go_wp2_with (fail)
  go_at_call 14
  refine (all_any mc 0 g b A cap ms 0 r w1 HM.out hp1.out HH.out).mono ?_
  rintro e w2 ⟨rfl, h2⟩
  have hB2 := Aside0.mk (But1.below hB1.out h2 hb)
  clear h2
  go_wp2
  go_ret
  exact ⟨rfl, hB2.out⟩

set_option maxHeartbeats 4000000 in
theorem fits_many (A : Option Addr) (cap n : Nat) (w : World) (many : 4 < n) :
    Calls Try.prog 11 #[.slice A n cap] w fun e w' => e = .returned (.bool false) ∧ Below w.heap.size w w' := by
  have t1 : decide ((n : Int) ≤ 4) = false := decide_eq_false (by omega)
  have t2 : decide (n ≤ 4) = false := decide_eq_false (by omega)
  clear many
  go_enter Try.func11, Try.ntmps11
  go_wp2
  go_ret
  exact ⟨rfl, Below.refl _ _⟩

/-- What Fits answers. -/
def fitsC (mc n : Nat) : Option Bool := bif Nat.ble n 4 then allC mc 0 n 10 0 0 else some false
theorem fits_any (mc : Nat) (A : Option Addr) (cap : Nat) (ms : List Int) (r : Bool) (w : World) (hm : ms.length ≤ 4 → Bits mc ms)
    (hr : ReadsInt w .u8 A ms.length ms) (ha : ∀ ad, A = some ad → ad.block < w.heap.size) (h : fitsC mc ms.length = some r) :
    Calls Try.prog 11 #[.slice A ms.length cap] w fun e w' => e = .returned (.bool r) ∧ Below w.heap.size w w' := by
  unfold fitsC at h
  by_cases hle : ms.length ≤ 4
  · rw [Nat.ble_eq_true_of_le hle, cond_true] at h
    exact fits_few mc 10 A cap ms r w (hm hle) hr ha hle h
  · have : Nat.ble ms.length 4 = false := by
      cases hb : Nat.ble ms.length 4 with
      | false => rfl
      | true => exact absurd (Nat.le_of_ble_eq_true hb) hle
    rw [this, cond_false] at h
    cases h
    exact fits_many A cap ms.length w (by omega)
end Go.Proofs.Ytjmcdlehjgngfaa
