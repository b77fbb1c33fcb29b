/-
  No cell of these rows narrows 'for every input' (looked for: loops, veiled, ifaces, maps, wideKeys, modest, calm, conditions, laid).
  DERIVED. THE GIVEN ROWS OF THIS SEAT. 5 by the template 'for every input the law returns true; each argument reads behind the call as it read before'; 0 by the template 'total and deterministic' (their statements: YtoofmpchcbnljaaTotals.lean).
  GIVEN WITH THE SEED: the statements are not yours to turn. If you find one false, say at which input.
  Laid BY PROGRAM, IN A SANDBOX (cutbox-rows.mjs): the forced cells as the released guide's own fill.sh prints them over the translation 09a43f40954bebee… (all of the seat's roots in one cut). By AI agents, Wed Nov 11 2026. No macro, syntax, notation, axiom, sorry.
-/
import Derived.Test.YtoofmpchcbnljaaChecked
import GoSem.Claim
import GoSem.ClaimJoined
import GoSem.ClaimMapViews
import Derived.JoinedTies
import Derived.KernelRfl
namespace Go.Proofs.Ytoofmpchcbnljaa
/- THE CELL 'sum', in the pinned program and in every row, IS THE sha256 OF THE DUMP (.gsa) THAT YtoofmpchcbnljaaProg.lean LOADS. Nothing in Lean hashes anything: it is a label: what it is worth is what the hold of that sum in a sandbox is worth. -/
noncomputable def Try.pinned : Pinned := { name := "ytoofmpchcbnljaa", sum := "09a43f40954bebee8a06bad6cfddcc32de1fa9c8e552d3a0389a3b35ee470dd7", checked := Try.checked }
namespace Rows
def none {H : Type} : Left H := { results := [], args := [] }

/-- 'coxlesslaw02.CplxMuls': WHATEVER THE INPUT: true; the input reads as it did. -/
def cplxMulsSpec : ChangeSpec := { name := "cplxMuls", fn := fun _ => fun
  | [d1, d2] => { results := [.lit (.bool true)], args := [d1, d2] }
  | _ => none }
def cplxMulsRow : OpenClaim := { program := "ytoofmpchcbnljaa", sum := "09a43f40954bebee8a06bad6cfddcc32de1fa9c8e552d3a0389a3b35ee470dd7", func := "coxless/coxlesslaw02.CplxMuls", spec := "cplxMuls", inPlace := ["math.archFloor", "math.Float64bits", "math.Float64frombits", "math.archTrunc", "math.archMin", "math.archMax"], apart := false }
def CplxMulsSaid : Prop := cplxMulsRow.holds Try.pinned (OpenSpec.ofChange cplxMulsSpec)

/-- ITS FALSE NEIGHBOUR: 'it returns false'. Refute it at one input. -/
def cplxMulsWrong : ChangeSpec := { name := "cplxMuls", fn := fun _ => fun
  | [d1, d2] => { results := [.lit (.bool false)], args := [d1, d2] }
  | _ => none }
def CplxMulsWrongFalsely : Prop := cplxMulsRow.holds Try.pinned (OpenSpec.ofChange cplxMulsWrong)

/-- 'coxlesslaw02.CplxPacks': WHATEVER THE INPUT: true; the input reads as it did. -/
def cplxPacksSpec : ChangeSpec := { name := "cplxPacks", fn := fun _ => fun
  | [d1, d2] => { results := [.lit (.bool true)], args := [d1, d2] }
  | _ => none }
def cplxPacksRow : OpenClaim := { program := "ytoofmpchcbnljaa", sum := "09a43f40954bebee8a06bad6cfddcc32de1fa9c8e552d3a0389a3b35ee470dd7", func := "coxless/coxlesslaw02.CplxPacks", spec := "cplxPacks", inPlace := ["math.archFloor", "math.Float64bits", "math.Float64frombits", "math.archTrunc", "math.archMin", "math.archMax"], apart := false }
def CplxPacksSaid : Prop := cplxPacksRow.holds Try.pinned (OpenSpec.ofChange cplxPacksSpec)

/-- ITS FALSE NEIGHBOUR: 'it returns false'. Refute it at one input. -/
def cplxPacksWrong : ChangeSpec := { name := "cplxPacks", fn := fun _ => fun
  | [d1, d2] => { results := [.lit (.bool false)], args := [d1, d2] }
  | _ => none }
def CplxPacksWrongFalsely : Prop := cplxPacksRow.holds Try.pinned (OpenSpec.ofChange cplxPacksWrong)

/-- 'coxlesslaw02.CplxKnown': WHATEVER THE INPUT: true; the input reads as it did. -/
def cplxKnownSpec : ChangeSpec := { name := "cplxKnown", fn := fun _ => fun
  | [] => { results := [.lit (.bool true)], args := [] }
  | _ => none }
def cplxKnownRow : OpenClaim := { program := "ytoofmpchcbnljaa", sum := "09a43f40954bebee8a06bad6cfddcc32de1fa9c8e552d3a0389a3b35ee470dd7", func := "coxless/coxlesslaw02.CplxKnown", spec := "cplxKnown", inPlace := ["math.Float64frombits", "math.archFloor", "math.Float64bits", "math.archTrunc", "math.archMin", "math.archMax"], apart := false }
def CplxKnownSaid : Prop := cplxKnownRow.holds Try.pinned (OpenSpec.ofChange cplxKnownSpec)

/-- ITS FALSE NEIGHBOUR: 'it returns false'. Refute it at one input. -/
def cplxKnownWrong : ChangeSpec := { name := "cplxKnown", fn := fun _ => fun
  | [] => { results := [.lit (.bool false)], args := [] }
  | _ => none }
def CplxKnownWrongFalsely : Prop := cplxKnownRow.holds Try.pinned (OpenSpec.ofChange cplxKnownWrong)

/-- 'coxlesslaw02.CplxTurns': WHATEVER THE INPUT: true; the input reads as it did. -/
def cplxTurnsSpec : ChangeSpec := { name := "cplxTurns", fn := fun _ => fun
  | [d1, d2] => { results := [.lit (.bool true)], args := [d1, d2] }
  | _ => none }
def cplxTurnsRow : OpenClaim := { program := "ytoofmpchcbnljaa", sum := "09a43f40954bebee8a06bad6cfddcc32de1fa9c8e552d3a0389a3b35ee470dd7", func := "coxless/coxlesslaw02.CplxTurns", spec := "cplxTurns", inPlace := ["math.archFloor", "math.Float64bits", "math.Float64frombits", "math.archTrunc", "math.archMin", "math.archMax"], apart := false }
def CplxTurnsSaid : Prop := cplxTurnsRow.holds Try.pinned (OpenSpec.ofChange cplxTurnsSpec)

/-- ITS FALSE NEIGHBOUR: 'it returns false'. Refute it at one input. -/
def cplxTurnsWrong : ChangeSpec := { name := "cplxTurns", fn := fun _ => fun
  | [d1, d2] => { results := [.lit (.bool false)], args := [d1, d2] }
  | _ => none }
def CplxTurnsWrongFalsely : Prop := cplxTurnsRow.holds Try.pinned (OpenSpec.ofChange cplxTurnsWrong)

/-- 'coxlesslaw02.CplxConj': WHATEVER THE INPUT: true; the input reads as it did. -/
def cplxConjSpec : ChangeSpec := { name := "cplxConj", fn := fun _ => fun
  | [d1, d2] => { results := [.lit (.bool true)], args := [d1, d2] }
  | _ => none }
def cplxConjRow : OpenClaim := { program := "ytoofmpchcbnljaa", sum := "09a43f40954bebee8a06bad6cfddcc32de1fa9c8e552d3a0389a3b35ee470dd7", func := "coxless/coxlesslaw02.CplxConj", spec := "cplxConj", inPlace := ["math.archFloor", "math.Float64bits", "math.Float64frombits", "math.archTrunc", "math.archMin", "math.archMax"], apart := false }
def CplxConjSaid : Prop := cplxConjRow.holds Try.pinned (OpenSpec.ofChange cplxConjSpec)

/-- ITS FALSE NEIGHBOUR: 'it returns false'. Refute it at one input. -/
def cplxConjWrong : ChangeSpec := { name := "cplxConj", fn := fun _ => fun
  | [d1, d2] => { results := [.lit (.bool false)], args := [d1, d2] }
  | _ => none }
def CplxConjWrongFalsely : Prop := cplxConjRow.holds Try.pinned (OpenSpec.ofChange cplxConjWrong)

/- THE SECOND FORM. 'bulk': how many values and letters a reading holds, each counted each time it is reached (what is shared counts as often as it is met; a slice's spare places count too). A statement '..UptoSaid' is the law's where the arguments, and the package variables that the reading takes, are together of bulk at most 1048576: NARROWER than '..Said'. Prove '..Said' where nothing that the law and all that it calls make is longer than what came in: it says more and counts as full. Else prove '..UptoSaid'. A law counts once. -/
mutual
def uptoBulk {H : Type} : DataW H → Nat
  | .lit (.string bytes) => bytes.length + 1
  | .lit _ => 1
  | .nil => 1
  | .ptr d => uptoBulk d + 1
  | .slice elems spare => uptoBulkAll elems + uptoBulkAll spare + 1
  | .agg parts => uptoBulkAll parts + 1
  | .iface _ d => uptoBulk d + 1
  | .map entries => uptoBulkEntries entries + 1
  | .held _ => 1
def uptoBulkAll {H : Type} : List (DataW H) → Nat
  | [] => 0
  | d :: r => uptoBulk d + uptoBulkAll r
def uptoBulkEntries {H : Type} : List (Lit × DataW H) → Nat
  | [] => 0
  | x :: r => uptoBulkEntry x + uptoBulkEntries r
def uptoBulkEntry {H : Type} : Lit × DataW H → Nat
  | (.string bytes, d) => bytes.length + uptoBulk d + 1
  | (_, d) => uptoBulk d + 1
 end
def uptoSmall : (H : Type) → List (DataW H) → Bool := fun _ ds => decide (uptoBulkAll ds ≤ 1048576)
def OpenSpec.upto (s : _root_.Go.ChangeSpec) : _root_.Go.OpenSpec := { _root_.Go.OpenSpec.ofChange s with cond := some uptoSmall }

/-- 'coxlesslaw02.CplxMuls', WHERE WHAT IT READS IS OF BULK AT MOST 1048576: true; the input reads as it did. -/
def cplxMulsUptoRow : OpenClaim := { program := "ytoofmpchcbnljaa", sum := "09a43f40954bebee8a06bad6cfddcc32de1fa9c8e552d3a0389a3b35ee470dd7", func := "coxless/coxlesslaw02.CplxMuls", spec := "cplxMuls", inPlace := ["math.archFloor", "math.Float64bits", "math.Float64frombits", "math.archTrunc", "math.archMin", "math.archMax"], apart := false, narrowed := true }
def CplxMulsUptoSaid : Prop := cplxMulsUptoRow.holds Try.pinned (OpenSpec.upto cplxMulsSpec)

/-- 'coxlesslaw02.CplxPacks', WHERE WHAT IT READS IS OF BULK AT MOST 1048576: true; the input reads as it did. -/
def cplxPacksUptoRow : OpenClaim := { program := "ytoofmpchcbnljaa", sum := "09a43f40954bebee8a06bad6cfddcc32de1fa9c8e552d3a0389a3b35ee470dd7", func := "coxless/coxlesslaw02.CplxPacks", spec := "cplxPacks", inPlace := ["math.archFloor", "math.Float64bits", "math.Float64frombits", "math.archTrunc", "math.archMin", "math.archMax"], apart := false, narrowed := true }
def CplxPacksUptoSaid : Prop := cplxPacksUptoRow.holds Try.pinned (OpenSpec.upto cplxPacksSpec)

/-- 'coxlesslaw02.CplxKnown', WHERE WHAT IT READS IS OF BULK AT MOST 1048576: true; the input reads as it did. -/
def cplxKnownUptoRow : OpenClaim := { program := "ytoofmpchcbnljaa", sum := "09a43f40954bebee8a06bad6cfddcc32de1fa9c8e552d3a0389a3b35ee470dd7", func := "coxless/coxlesslaw02.CplxKnown", spec := "cplxKnown", inPlace := ["math.Float64frombits", "math.archFloor", "math.Float64bits", "math.archTrunc", "math.archMin", "math.archMax"], apart := false, narrowed := true }
def CplxKnownUptoSaid : Prop := cplxKnownUptoRow.holds Try.pinned (OpenSpec.upto cplxKnownSpec)

/-- 'coxlesslaw02.CplxTurns', WHERE WHAT IT READS IS OF BULK AT MOST 1048576: true; the input reads as it did. -/
def cplxTurnsUptoRow : OpenClaim := { program := "ytoofmpchcbnljaa", sum := "09a43f40954bebee8a06bad6cfddcc32de1fa9c8e552d3a0389a3b35ee470dd7", func := "coxless/coxlesslaw02.CplxTurns", spec := "cplxTurns", inPlace := ["math.archFloor", "math.Float64bits", "math.Float64frombits", "math.archTrunc", "math.archMin", "math.archMax"], apart := false, narrowed := true }
def CplxTurnsUptoSaid : Prop := cplxTurnsUptoRow.holds Try.pinned (OpenSpec.upto cplxTurnsSpec)

/-- 'coxlesslaw02.CplxConj', WHERE WHAT IT READS IS OF BULK AT MOST 1048576: true; the input reads as it did. -/
def cplxConjUptoRow : OpenClaim := { program := "ytoofmpchcbnljaa", sum := "09a43f40954bebee8a06bad6cfddcc32de1fa9c8e552d3a0389a3b35ee470dd7", func := "coxless/coxlesslaw02.CplxConj", spec := "cplxConj", inPlace := ["math.archFloor", "math.Float64bits", "math.Float64frombits", "math.archTrunc", "math.archMin", "math.archMax"], apart := false, narrowed := true }
def CplxConjUptoSaid : Prop := cplxConjUptoRow.holds Try.pinned (OpenSpec.upto cplxConjSpec)

end Rows
end Go.Proofs.Ytoofmpchcbnljaa
