/- The contracts of Parts, Word, Thirty, FromThirty, in numbers. -/
import Derived.Test.YtoljlbfjjemldaaDoorWordN
import Derived.Test.YtoljlbfjjemldaaDoorAwake
namespace Go.Proofs.YtoljlbfjjemldaaDoor
open Go.RowKit Go.Proofs.YtoljlbfjjemldaaDoorW.PrintWords Go.Proofs.YtoljlbfjjemldaaDoorW.PrintMore
open Go.Proofs.YtoljlbfjjemldaaDoor.PBitsFields

theorem Parts_any (x : Nat) (hx : x < 4294967296) (W : World) (hG : Glob W) :
    Calls Tryd.prog 9 #[.int .u32 x] W fun e w' => e = .returned (.tuple #[.int .u8 ((x / 67108864 : Nat) : Int), .int .u32 (payloadN x), .int .u8 ((x / 16384 % 4 : Nat) : Int)]) ∧ Below W.heap.size W w' := by
  obtain ⟨h1, -, h2, h3, h4⟩ := gN_num x
  have k := parts_calls x (gN x 0 14) (gN x 16 10) (gN x 26 6) (gN x 14 2) W hG (get_ok 0 14 x (by omega) hx) (get_ok 16 10 x (by omega) hx) (get_ok 26 6 x (by omega) hx) (get_ok 14 2 x (by omega) hx)
  rw [h1, h2, h3, h4, or_join _ _ (by omega) (by omega)] at k
  have e1 : ((x / 67108864 % 64 : Nat) : Int) % 256 = ((x / 67108864 : Nat) : Int) := by omega
  have e2 : ((x / 16384 % 4 : Nat) : Int) % 256 = ((x / 16384 % 4 : Nat) : Int) := by omega
  rw [e1, e2] at k
  exact k
theorem Thirty_any (x : Nat) (hx : x < 4294967296) (W : World) (hG : Glob W) :
    Calls Tryd.prog 12 #[.int .u32 x] W fun e w' => e = .returned (.int .u32 (thirtyN x)) ∧ Below W.heap.size W w' := by
  obtain ⟨h1, h2, -, -, -⟩ := gN_num x
  have k := thirty_calls x (gN x 0 14) (gN x 16 16) W hG (get_ok 0 14 x (by omega) hx) (get_ok 16 16 x (by omega) hx)
  rw [h1, h2, or_join _ _ (by omega) (by omega)] at k
  exact k
theorem Word_any (c p q : Nat) (hc : c < 256) (hp : p < 4294967296) (hq : q < 256) (W : World) (hG : Glob W) :
    Calls Tryd.prog 10 #[.int .u8 c, .int .u32 p, .int .u8 q] W fun e w' => e = .returned (.int .u32 (wordN c p q)) ∧ Below W.heap.size W w' := by
  rw [← pN_num c p q hp]
  have e1 : (c : Int) % 4294967296 = (c : Int) := by omega
  have e2 : (q : Int) % 4294967296 = (q : Int) := by omega
  have e3 : (p : Int) / 16384 = ((p / 16384 : Nat) : Int) := by omega
  have l0 : pN 0 26 6 c < 4294967296 := pN_lt (by omega) (by omega)
  have l1 : pN (pN 0 26 6 c) 0 14 p < 4294967296 := pN_lt (by omega) l0
  have l2 : pN (pN (pN 0 26 6 c) 0 14 p) 16 10 (p / 16384) < 4294967296 := pN_lt (by omega) l1
  refine word_calls c p q (pN 0 26 6 c : Nat) (pN (pN 0 26 6 c) 0 14 p : Nat) (pN (pN (pN 0 26 6 c) 0 14 p) 16 10 (p / 16384) : Nat) _ W hG ?_ (put_ok 0 14 _ p (by omega) l0 hp) ?_ ?_
  · rw [e1]; exact put_ok 26 6 0 c (by omega) (by omega) (by omega)
  · rw [e3]; exact put_ok 16 10 _ (p / 16384) (by omega) l1 (by omega)
  · rw [e2]; exact put_ok 14 2 _ q (by omega) l2 (by omega)
theorem FromThirty_any (v q : Nat) (hv : v < 4294967296) (hq : q < 256) (W : World) (hG : Glob W) :
    Calls Tryd.prog 19 #[.int .u32 v, .int .u8 q] W fun e w' => e = .returned (.int .u32 (fromThirtyN v q)) ∧ Below W.heap.size W w' := by
  rw [← pN_num30 v q hv]
  have e2 : (q : Int) % 4294967296 = (q : Int) := by omega
  have e3 : (v : Int) / 16384 = ((v / 16384 : Nat) : Int) := by omega
  have l0 : pN 0 0 14 v < 4294967296 := pN_lt (by omega) (by omega)
  have l1 : pN (pN 0 0 14 v) 16 16 (v / 16384) < 4294967296 := pN_lt (by omega) l0
  refine fromThirty_calls v q (pN 0 0 14 v : Nat) (pN (pN 0 0 14 v) 16 16 (v / 16384) : Nat) _ W hG (put_ok 0 14 0 v (by omega) (by omega) hv) ?_ ?_
  · rw [e3]; exact put_ok 16 16 _ (v / 16384) (by omega) l0 (by omega)
  · rw [e2]; exact put_ok 14 2 _ q (by omega) l1 (by omega)

end Go.Proofs.YtoljlbfjjemldaaDoor
