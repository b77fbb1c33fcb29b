/- The package-level variables of package bits: what their cells hold, kept by whatever a call makes. -/
import Derived.Test.YtoljlbfjjemldaaDoorPBitsFieldsx
import Derived.Deep.RegionHeld3
import Derived.WalkSpells
import Derived.Lib.Hide
namespace Go.Proofs.YtoljlbfjjemldaaDoor
open Go.RowKit

/-- The ten numbers of the four variables. -/
structure Glob (w : World) : Prop where
  e0 : w.cell? ⟨0, 0, none⟩ = some (.int .i64 0)
  e1 : w.cell? ⟨0, 1, none⟩ = some (.int .i64 14)
  e2 : w.cell? ⟨0, 2, none⟩ = some (.int .i64 16)
  e3 : w.cell? ⟨0, 3, none⟩ = some (.int .i64 10)
  c0 : w.cell? ⟨1, 0, none⟩ = some (.int .i64 26)
  c1 : w.cell? ⟨1, 1, none⟩ = some (.int .i64 6)
  p0 : w.cell? ⟨2, 0, none⟩ = some (.int .i64 14)
  p1 : w.cell? ⟨2, 1, none⟩ = some (.int .i64 2)
  u0 : w.cell? ⟨3, 0, none⟩ = some (.int .i64 16)
  u1 : w.cell? ⟨3, 1, none⟩ = some (.int .i64 16)

theorem Glob.later {w w1 : World} (h : Glob w) (hb : Below w.heap.size w w1) : Glob w1 :=
  ⟨cell_later hb h.e0, cell_later hb h.e1, cell_later hb h.e2, cell_later hb h.e3, cell_later hb h.c0, cell_later hb h.c1, cell_later hb h.p0, cell_later hb h.p1, cell_later hb h.u0, cell_later hb h.u1⟩

theorem Glob.drew {w : World} (h : Glob w) : Glob w.drew := h.later (Below.refl _ _).drew

end Go.Proofs.YtoljlbfjjemldaaDoor
