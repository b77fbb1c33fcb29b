/- A slice of masks that came in. -/
import Derived.Test.YtjmcdlehjgngfaaAns
import Derived.WideShapes
import Derived.DataShut
namespace Go.Proofs.Ytjmcdlehjgngfaa
open Go.RowKit Go.Proofs.YtjmcdlehjgngfaaW.PrintWords Go.Proofs.YtjmcdlehjgngfaaW.PrintLast Go.Proofs.YtjmcdlehjgngfaaW.PrintMore
set_option linter.unusedVariables false

def IsRow (k : IntKind) (w : World) (a : Option Addr) (len cap : Nat) (zs : List Int) : Prop :=
  (a = none ∧ len = 0 ∧ cap = 0 ∧ zs = []) ∨
  ∃ x, a = some x ∧ len ≤ cap ∧ cap ≤ maxLen ∧ zs.length = cap ∧ (∀ i, i < zs.length → w.cell? (x.add i) = some (.int k (zs.getD i 0))) ∧ ∀ n ∈ zs, (Lit.int k n).wf = true

theorem old_of_okWide {P : Program} {W : World} {r : Reach} {base t e : Nat} {a : Option Addr} {len cap : Nat} (ht : P.underlying t = some (.slice e)) (h : Value.okWide P W r base t (.slice a len cap)) :
    ∀ ad, a = some ad → ad.block < W.heap.size := by
  rintro ad rfl
  simp only [Value.okWide, ht, Cell.okWide, Cell.ok, World.has] at h
  obtain ⟨-, -, -, -, row, cells, hs, -⟩ := h
  unfold World.shape? at hs
  cases hb : W.heap[ad.block]? with
  | none => rw [hb] at hs; simp at hs
  | some o =>
    by_cases hlt : ad.block < W.heap.size
    · exact hlt
    · rw [Array.getElem?_eq_none (by omega)] at hb; cases hb

theorem spot_of_okWide {P : Program} {W : World} {r : Reach} {base t e : Nat} {a : Option Addr} {len cap : Nat} (ht : P.underlying t = some (.slice e)) (h : Value.okWide P W r base t (.slice a len cap)) :
    ∀ ad, a = some ad → ad.spot = none := by
  rintro ad rfl
  simp only [Value.okWide, ht, Cell.okWide, Cell.ok, World.has] at h
  exact h.2.2.2.1

/-- Read as masks. -/
theorem masks_of_row {W : World} {a : Option Addr} {len cap : Nat} {zs : List Int} (h : IsRow .u8 W a len cap zs) (ho : ∀ ad, a = some ad → ad.block < W.heap.size) :
    ∃ ms : List Int, len = ms.length ∧ ms.length ≤ cap ∧ MasksAt W a ms ∧ ms.length ≤ maxLen := by
  obtain ⟨l, rfl, hr, hm, hw, hc⟩ := ReadsInt.ofRowC h
  refine ⟨l, rfl, hc, ⟨hr, ho, fun i hi => ?_⟩, hm⟩
  have h1 := hw (rd l i) (by unfold rd; simp [hi])
  have h2 := (Lit.wf_int_iff .u8 _).mp h1
  have e1 : IntKind.u8.min = 0 := by decide
  have e2 : IntKind.u8.max = 255 := by decide
  rw [e1, e2] at h2
  omega
end Go.Proofs.Ytjmcdlehjgngfaa
