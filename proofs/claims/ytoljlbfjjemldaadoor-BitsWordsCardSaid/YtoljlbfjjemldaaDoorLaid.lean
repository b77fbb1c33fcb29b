/- What a row's list of variables gives: the ten numbers; and a world that meets it. -/
import Derived.Test.YtoljlbfjjemldaaDoorCards
import Derived.Test.YtoljlbfjjemldaaDoorTie
import Derived.Test.YtoljlbfjjemldaaDoorGlob
import Derived.ProofKit
import Derived.OpenShut
import Derived.Deep.DeepHandedRow
import Derived.Lib.LaidTab
namespace Go.Proofs.YtoljlbfjjemldaaDoor
open Go.ChangeShapes Go.WideShapes Go.ChangeAt Go.RowKit

theorem own : ownKnob Tryd.prog.godebug = none := by kernel_rfl
theorem gEnds : Tryd.prog.globalNamed "coxless/bits.ends" = some 0 := by kernel_rfl
theorem gCode : Tryd.prog.globalNamed "coxless/bits.codeAt" = some 1 := by kernel_rfl
theorem gParse : Tryd.prog.globalNamed "coxless/bits.parseAt" = some 2 := by kernel_rfl
theorem gUpper : Tryd.prog.globalNamed "coxless/bits.upper" = some 3 := by kernel_rfl
theorem tEnds : (Tryd.prog.globals[0]?).map (·.type) = some 40 := by kernel_rfl
theorem tCode : (Tryd.prog.globals[1]?).map (·.type) = some 39 := by kernel_rfl
theorem tParse : (Tryd.prog.globals[2]?).map (·.type) = some 39 := by kernel_rfl
theorem tUpper : (Tryd.prog.globals[3]?).map (·.type) = some 39 := by kernel_rfl
theorem cells3 : Tryd.prog.cellsOf 3 = 1 := by kernel_rfl
theorem cells39 : Tryd.prog.cellsOf 39 = 2 := by kernel_rfl
theorem cells40 : Tryd.prog.cellsOf 40 = 4 := by kernel_rfl

/-- A field that reads as two numbers holds them. -/
theorem field_cells {W : World} {fuel : Nat} {cs : List Value} {a b : Int} {p : List MemPlace} {held : Bool} {H : Type} {enc : TypeId × Value → H} {sp : Nat → Bool} {base : Nat}
    (h : DataW.trod enc Tryd.prog W base sp held fuel 39 cs = some (.agg [.lit (.int .i64 a), .lit (.int .i64 b)], p)) : cs = [.int .i64 a, .int .i64 b] := by
  obtain ⟨y0, y1, n, hx, hl, h0, h1⟩ := trod_struct2 Tryd.underlying39 h
  rw [cells39] at hl
  rw [cells3] at h0 h1
  obtain ⟨m0, e0, hy0, _⟩ := DataW.trod_int Tryd.underlying3 h0
  obtain ⟨m1, e1, hy1, _⟩ := DataW.trod_int Tryd.underlying3 h1
  subst hy0 hy1
  simp only [Prod.mk.injEq, DataW.agg.injEq, List.cons.injEq, DataW.lit.injEq, Lit.int.injEq, true_and, and_true] at hx
  obtain ⟨⟨rfl, rfl⟩, _⟩ := hx
  match cs, hl with
  | [c0, c1], _ =>
    simp at e0 e1
    rw [e0, e1]

/-- Two fields, one behind the other. -/
theorem ends_cells {W : World} {fuel : Nat} {cs : List Value} {a b c d : Int} {p : List MemPlace} {held : Bool} {H : Type} {enc : TypeId × Value → H} {sp : Nat → Bool} {base : Nat}
    (h : DataW.trod enc Tryd.prog W base sp held fuel 40 cs = some (.agg [.agg [.lit (.int .i64 a), .lit (.int .i64 b)], .agg [.lit (.int .i64 c), .lit (.int .i64 d)]], p)) : cs = [.int .i64 a, .int .i64 b, .int .i64 c, .int .i64 d] := by
  obtain ⟨xs, m, _, hx, hl, hn, hf⟩ := DataW.trod_array Tryd.underlying40 h
  rw [cells40] at hl
  rw [cells39] at hf
  match xs, hn with
  | [y0, y1], _ =>
    have f0 := hf 0 (by decide)
    have f1 := hf 1 (by decide)
    simp only [List.map_cons, List.map_nil, Prod.mk.injEq, DataW.agg.injEq, List.cons.injEq, and_true] at hx
    obtain ⟨⟨h0, h1⟩, _⟩ := hx
    obtain ⟨z0, q0⟩ := y0
    obtain ⟨z1, q1⟩ := y1
    simp only at h0 h1
    subst h0 h1
    have g0 := field_cells f0
    have g1 := field_cells f1
    match cs, hl with
    | [c0, c1, c2, c3], _ =>
      simp at g0 g1
      obtain ⟨rfl, rfl⟩ := g0
      obtain ⟨rfl, rfl⟩ := g1
      rfl

/-- What every row of this seat lists. -/
theorem glob_of {W : World} (h : laidMetH Tryd.prog Rows.bitsWordsRow.laid W) : Glob W := by
  have h' : laidMet Tryd.prog Rows.bitsWordsRow.laid W := h
  obtain ⟨ps, hl, _⟩ := h'
  obtain ⟨g, t, cs, fuel, p, q, hg, ht, hv, hd, ⟨g1, t1, cs1, fuel1, p1, q1, hg1, ht1, hv1, hd1, ⟨g2, t2, cs2, fuel2, p2, q2, hg2, ht2, hv2, hd2, ⟨g3, t3, cs3, fuel3, p3, q3, hg3, ht3, hv3, hd3, _⟩, _⟩, _⟩, _⟩ := hl
  obtain rfl := Option.some.inj (gCode.symm.trans hg)
  obtain rfl := Option.some.inj (tCode.symm.trans ht)
  obtain rfl := Option.some.inj (gEnds.symm.trans hg1)
  obtain rfl := Option.some.inj (tEnds.symm.trans ht1)
  obtain rfl := Option.some.inj (gParse.symm.trans hg2)
  obtain rfl := Option.some.inj (tParse.symm.trans ht2)
  obtain rfl := Option.some.inj (gUpper.symm.trans hg3)
  obtain rfl := Option.some.inj (tUpper.symm.trans ht3)
  have k0 := field_cells hd
  have k1 := ends_cells hd1
  have k2 := field_cells hd2
  have k3 := field_cells hd3
  have z0 := World.var?_cell gCode hv
  have z1 := World.var?_cell gEnds hv1
  have z2 := World.var?_cell gParse hv2
  have z3 := World.var?_cell gUpper hv3
  have a0 : cs = #[.int .i64 26, .int .i64 6] := Array.toList_inj.1 k0
  have a1 : cs1 = #[.int .i64 0, .int .i64 14, .int .i64 16, .int .i64 10] := Array.toList_inj.1 k1
  have a2 : cs2 = #[.int .i64 14, .int .i64 2] := Array.toList_inj.1 k2
  have a3 : cs3 = #[.int .i64 16, .int .i64 16] := Array.toList_inj.1 k3
  subst a0 a1 a2 a3
  exact ⟨z1 0, z1 1, z1 2, z1 3, z0 0, z0 1, z2 0, z2 1, z3 0, z3 1⟩

/-- A block's cells, laid. -/
def putCells (cs : Array Value) : Obj → Obj
  | .cells _ t frozen => .cells cs t frozen
  | o => o
/-- A world for the witness: the settled one, the variables holding what their initialisers lay. -/
noncomputable def laidWorld (os : Os) : World :=
  { World.holding Tryd.prog os ⟨#[], #[], []⟩ with
    heap := (((((World.holding Tryd.prog os ⟨#[], #[], []⟩).heap.modify 0 (putCells #[.int .i64 0, .int .i64 14, .int .i64 16, .int .i64 10])).modify 1 (putCells #[.int .i64 26, .int .i64 6])).modify 2 (putCells #[.int .i64 14, .int .i64 2])).modify 3 (putCells #[.int .i64 16, .int .i64 16])) }

theorem laid_met (os : Os) (args : Array Value) : laidMet Tryd.prog Rows.bitsWordsRow.laid ((laidWorld os).forCall (fun _ _ => 0) ⟨#[], args, []⟩).memory :=
  laidMet_of_run' 8 (by kernel_rfl) (by kernel_rfl)

end Go.Proofs.YtoljlbfjjemldaaDoor
