/-
  No cell of these rows narrows 'for every input' (looked for: loops, veiled, ifaces, maps, wideKeys, modest, calm, conditions, laid).
  DERIVED. THE GIVEN ROWS OF THIS SEAT. 4 by the template 'for every input the law returns true; each argument reads behind the call as it read before'; 0 by the template 'total and deterministic' (their statements: YtjmcdlehjgngfaaTotals.lean).
  GIVEN WITH THE SEED: the statements are not yours to turn. If you find one false, say at which input.
  Laid BY PROGRAM, IN A SANDBOX (cutbox-rows.mjs): the forced cells as the released guide's own fill.sh prints them over the translation f900f0d559aae41f… (all of the seat's roots in one cut). By AI agents, Wed Nov 11 2026. No macro, syntax, notation, axiom, sorry.
-/
import Derived.Test.YtjmcdlehjgngfaaChecked
import GoSem.Claim
import GoSem.ClaimJoined
import GoSem.ClaimMapViews
import Derived.JoinedTies
import Derived.KernelRfl
namespace Go.Proofs.Ytjmcdlehjgngfaa
/- THE CELL 'sum', in the pinned program and in every row, IS THE sha256 OF THE DUMP (.gsa) THAT YtjmcdlehjgngfaaProg.lean LOADS. Nothing in Lean hashes anything: it is a label: what it is worth is what the hold of that sum in a sandbox is worth. -/
noncomputable def Try.pinned : Pinned := { name := "ytjmcdlehjgngfaa", sum := "f900f0d559aae41f5b0011e8f482b4d62184bf13b54efa79074a3b3ae6f2ed59", checked := Try.checked }
namespace Rows
def none {H : Type} : Left H := { results := [], args := [] }

/-- 'coxlesslaw09.MatchSlots': WHATEVER THE INPUT: true; the input reads as it did. -/
def matchSlotsSpec : ChangeSpec := { name := "matchSlots", fn := fun _ => fun
  | [d] => { results := [.lit (.bool true)], args := [d] }
  | _ => none }
def matchSlotsRow : OpenClaim := { program := "ytjmcdlehjgngfaa", sum := "f900f0d559aae41f5b0011e8f482b4d62184bf13b54efa79074a3b3ae6f2ed59", func := "coxless/coxlesslaw09.MatchSlots", spec := "matchSlots", recurses := true, apart := false }
def MatchSlotsSaid : Prop := matchSlotsRow.holds Try.pinned (OpenSpec.ofChange matchSlotsSpec)

/-- ITS FALSE NEIGHBOUR: 'it returns false'. Refute it at one input. -/
def matchSlotsWrong : ChangeSpec := { name := "matchSlots", fn := fun _ => fun
  | [d] => { results := [.lit (.bool false)], args := [d] }
  | _ => none }
def MatchSlotsWrongFalsely : Prop := matchSlotsRow.holds Try.pinned (OpenSpec.ofChange matchSlotsWrong)

/-- 'coxlesslaw09.MatchKnown': WHATEVER THE INPUT: true; the input reads as it did. -/
def matchKnownSpec : ChangeSpec := { name := "matchKnown", fn := fun _ => fun
  | [] => { results := [.lit (.bool true)], args := [] }
  | _ => none }
def matchKnownRow : OpenClaim := { program := "ytjmcdlehjgngfaa", sum := "f900f0d559aae41f5b0011e8f482b4d62184bf13b54efa79074a3b3ae6f2ed59", func := "coxless/coxlesslaw09.MatchKnown", spec := "matchKnown", recurses := true, apart := false }
def MatchKnownSaid : Prop := matchKnownRow.holds Try.pinned (OpenSpec.ofChange matchKnownSpec)

/-- ITS FALSE NEIGHBOUR: 'it returns false'. Refute it at one input. -/
def matchKnownWrong : ChangeSpec := { name := "matchKnown", fn := fun _ => fun
  | [] => { results := [.lit (.bool false)], args := [] }
  | _ => none }
def MatchKnownWrongFalsely : Prop := matchKnownRow.holds Try.pinned (OpenSpec.ofChange matchKnownWrong)

/-- 'coxlesslaw09.MatchHall': WHATEVER THE INPUT: true; the input reads as it did. -/
def matchHallSpec : ChangeSpec := { name := "matchHall", fn := fun _ => fun
  | [d] => { results := [.lit (.bool true)], args := [d] }
  | _ => none }
def matchHallRow : OpenClaim := { program := "ytjmcdlehjgngfaa", sum := "f900f0d559aae41f5b0011e8f482b4d62184bf13b54efa79074a3b3ae6f2ed59", func := "coxless/coxlesslaw09.MatchHall", spec := "matchHall", recurses := true, apart := false }
def MatchHallSaid : Prop := matchHallRow.holds Try.pinned (OpenSpec.ofChange matchHallSpec)

/-- ITS FALSE NEIGHBOUR: 'it returns false'. Refute it at one input. -/
def matchHallWrong : ChangeSpec := { name := "matchHall", fn := fun _ => fun
  | [d] => { results := [.lit (.bool false)], args := [d] }
  | _ => none }
def MatchHallWrongFalsely : Prop := matchHallRow.holds Try.pinned (OpenSpec.ofChange matchHallWrong)

/-- 'coxlesslaw09.MatchRow': WHATEVER THE INPUT: true; the input reads as it did. -/
def matchRowSpec : ChangeSpec := { name := "matchRow", fn := fun _ => fun
  | [d1, d2, d3] => { results := [.lit (.bool true)], args := [d1, d2, d3] }
  | _ => none }
def matchRowRow : OpenClaim := { program := "ytjmcdlehjgngfaa", sum := "f900f0d559aae41f5b0011e8f482b4d62184bf13b54efa79074a3b3ae6f2ed59", func := "coxless/coxlesslaw09.MatchRow", spec := "matchRow", recurses := true, apart := false }
def MatchRowSaid : Prop := matchRowRow.holds Try.pinned (OpenSpec.ofChange matchRowSpec)

/-- ITS FALSE NEIGHBOUR: 'it returns false'. Refute it at one input. -/
def matchRowWrong : ChangeSpec := { name := "matchRow", fn := fun _ => fun
  | [d1, d2, d3] => { results := [.lit (.bool false)], args := [d1, d2, d3] }
  | _ => none }
def MatchRowWrongFalsely : Prop := matchRowRow.holds Try.pinned (OpenSpec.ofChange matchRowWrong)

/- THE SECOND FORM. 'bulk': how many values and letters a reading holds, each counted each time it is reached (what is shared counts as often as it is met; a slice's spare places count too). A statement '..UptoSaid' is the law's where the arguments, and the package variables that the reading takes, are together of bulk at most 1048576: NARROWER than '..Said'. Prove '..Said' where nothing that the law and all that it calls make is longer than what came in: it says more and counts as full. Else prove '..UptoSaid'. A law counts once. -/
mutual
def uptoBulk {H : Type} : DataW H → Nat
  | .lit (.string bytes) => bytes.length + 1
  | .lit _ => 1
  | .nil => 1
  | .ptr d => uptoBulk d + 1
  | .slice elems spare => uptoBulkAll elems + uptoBulkAll spare + 1
  | .agg parts => uptoBulkAll parts + 1
  | .iface _ d => uptoBulk d + 1
  | .map entries => uptoBulkEntries entries + 1
  | .held _ => 1
def uptoBulkAll {H : Type} : List (DataW H) → Nat
  | [] => 0
  | d :: r => uptoBulk d + uptoBulkAll r
def uptoBulkEntries {H : Type} : List (Lit × DataW H) → Nat
  | [] => 0
  | x :: r => uptoBulkEntry x + uptoBulkEntries r
def uptoBulkEntry {H : Type} : Lit × DataW H → Nat
  | (.string bytes, d) => bytes.length + uptoBulk d + 1
  | (_, d) => uptoBulk d + 1
 end
def uptoSmall : (H : Type) → List (DataW H) → Bool := fun _ ds => decide (uptoBulkAll ds ≤ 1048576)
def OpenSpec.upto (s : _root_.Go.ChangeSpec) : _root_.Go.OpenSpec := { _root_.Go.OpenSpec.ofChange s with cond := some uptoSmall }

/-- 'coxlesslaw09.MatchSlots', WHERE WHAT IT READS IS OF BULK AT MOST 1048576: true; the input reads as it did. -/
def matchSlotsUptoRow : OpenClaim := { program := "ytjmcdlehjgngfaa", sum := "f900f0d559aae41f5b0011e8f482b4d62184bf13b54efa79074a3b3ae6f2ed59", func := "coxless/coxlesslaw09.MatchSlots", spec := "matchSlots", recurses := true, apart := false, narrowed := true }
def MatchSlotsUptoSaid : Prop := matchSlotsUptoRow.holds Try.pinned (OpenSpec.upto matchSlotsSpec)

/-- 'coxlesslaw09.MatchKnown', WHERE WHAT IT READS IS OF BULK AT MOST 1048576: true; the input reads as it did. -/
def matchKnownUptoRow : OpenClaim := { program := "ytjmcdlehjgngfaa", sum := "f900f0d559aae41f5b0011e8f482b4d62184bf13b54efa79074a3b3ae6f2ed59", func := "coxless/coxlesslaw09.MatchKnown", spec := "matchKnown", recurses := true, apart := false, narrowed := true }
def MatchKnownUptoSaid : Prop := matchKnownUptoRow.holds Try.pinned (OpenSpec.upto matchKnownSpec)

/-- 'coxlesslaw09.MatchHall', WHERE WHAT IT READS IS OF BULK AT MOST 1048576: true; the input reads as it did. -/
def matchHallUptoRow : OpenClaim := { program := "ytjmcdlehjgngfaa", sum := "f900f0d559aae41f5b0011e8f482b4d62184bf13b54efa79074a3b3ae6f2ed59", func := "coxless/coxlesslaw09.MatchHall", spec := "matchHall", recurses := true, apart := false, narrowed := true }
def MatchHallUptoSaid : Prop := matchHallUptoRow.holds Try.pinned (OpenSpec.upto matchHallSpec)

/-- 'coxlesslaw09.MatchRow', WHERE WHAT IT READS IS OF BULK AT MOST 1048576: true; the input reads as it did. -/
def matchRowUptoRow : OpenClaim := { program := "ytjmcdlehjgngfaa", sum := "f900f0d559aae41f5b0011e8f482b4d62184bf13b54efa79074a3b3ae6f2ed59", func := "coxless/coxlesslaw09.MatchRow", spec := "matchRow", recurses := true, apart := false, narrowed := true }
def MatchRowUptoSaid : Prop := matchRowUptoRow.holds Try.pinned (OpenSpec.upto matchRowSpec)

end Rows
end Go.Proofs.Ytjmcdlehjgngfaa
