/-
  NARROWER THAN 'FOR EVERY INPUT', by the rows' own cells (each row's printed sentence says how): BitsWords: laid · BitsSigned: laid · BitsBack: laid · BitsFields: laid · BitsPuts: laid · BitsKnown: laid.
  DERIVED. THE GIVEN ROWS OF THIS SEAT. 6 by the template 'for every input the law returns true; each argument reads behind the call as it read before'; 0 by the template 'total and deterministic' (their statements: YtoljlbfjjemldaaDoorTotals.lean).
  GIVEN WITH THE SEED: the statements are not yours to turn. If you find one false, say at which input.
  Laid BY PROGRAM, IN A SANDBOX (cutbox-rows.mjs): the forced cells as the released guide's own fill.sh prints them over the translation 59f0e5ddbd9f70b6… (all of the seat's roots in one cut). By AI agents, Wed Nov 11 2026. No macro, syntax, notation, axiom, sorry.
-/
import Derived.Test.YtoljlbfjjemldaaDoorChecked
import GoSem.Claim
import GoSem.ClaimJoined
import GoSem.ClaimMapViews
import Derived.JoinedTies
import Derived.KernelRfl
namespace Go.Proofs.YtoljlbfjjemldaaDoor
/- THE CELL 'sum', in the pinned program and in every row, IS THE sha256 OF THE DUMP (.gsa) THAT YtoljlbfjjemldaaDoorProg.lean LOADS. Nothing in Lean hashes anything: it is a label: what it is worth is what the hold of that sum in a sandbox is worth. -/
noncomputable def Tryd.pinned : Pinned := { name := "ytoljlbfjjemldaadoor", sum := "59f0e5ddbd9f70b65dc3a298f14354a554d15ddda430e4e1f6b408bea6515b8d", checked := Tryd.checked }
namespace Rows
def none {H : Type} : Left H := { results := [], args := [] }

/- WHAT THE LISTED PACKAGE-LEVEL VARIABLES READ AS WHEN THE CALL BEGINS. Each datum BY PROGRAM (the guide's laid-datum.mjs) off the statement by which the dump's own 'gosem.cut.vars' lays the variable. In a bare row this is a premise. The card (YtoljlbfjjemldaaDoorCards.lean) ties it to the program's text. -/
def laid_coxless_bits_codeAt {H : Type} : DataW H := .agg [.lit (.int .i64 26), .lit (.int .i64 6)]
def laid_coxless_bits_ends {H : Type} : DataW H := .agg [.agg [.lit (.int .i64 0), .lit (.int .i64 14)], .agg [.lit (.int .i64 16), .lit (.int .i64 10)]]
def laid_coxless_bits_parseAt {H : Type} : DataW H := .agg [.lit (.int .i64 14), .lit (.int .i64 2)]
def laid_coxless_bits_upper {H : Type} : DataW H := .agg [.lit (.int .i64 16), .lit (.int .i64 16)]

/-- 'coxlesslaw01.BitsWords': WHATEVER THE INPUT: true; the input reads as it did. -/
def bitsWordsSpec : ChangeSpec := { name := "bitsWords", fn := fun _ => fun
  | [d1, d2, d3, d4] => { results := [.lit (.bool true)], args := [d1, d2, d3, d4] }
  | _ => none }
def bitsWordsRow : OpenClaim := { program := "ytoljlbfjjemldaadoor", sum := "59f0e5ddbd9f70b65dc3a298f14354a554d15ddda430e4e1f6b408bea6515b8d", func := "coxless/coxlesslaw01.BitsWords", spec := "bitsWords", named := ["coxless/bits.ends", "coxless/bits.codeAt", "coxless/bits.parseAt", "coxless/bits.upper"], apart := false, laid := [("coxless/bits.codeAt", laid_coxless_bits_codeAt), ("coxless/bits.ends", laid_coxless_bits_ends), ("coxless/bits.parseAt", laid_coxless_bits_parseAt), ("coxless/bits.upper", laid_coxless_bits_upper)] }
def BitsWordsSaid : Prop := bitsWordsRow.holds Tryd.pinned (OpenSpec.ofChange bitsWordsSpec)

/-- ITS FALSE NEIGHBOUR: 'it returns false'. Refute it at one input. -/
def bitsWordsWrong : ChangeSpec := { name := "bitsWords", fn := fun _ => fun
  | [d1, d2, d3, d4] => { results := [.lit (.bool false)], args := [d1, d2, d3, d4] }
  | _ => none }
def BitsWordsWrongFalsely : Prop := bitsWordsRow.holds Tryd.pinned (OpenSpec.ofChange bitsWordsWrong)

/-- 'coxlesslaw01.BitsSigned': WHATEVER THE INPUT: true; the input reads as it did. -/
def bitsSignedSpec : ChangeSpec := { name := "bitsSigned", fn := fun _ => fun
  | [d1, d2, d3, d4] => { results := [.lit (.bool true)], args := [d1, d2, d3, d4] }
  | _ => none }
def bitsSignedRow : OpenClaim := { program := "ytoljlbfjjemldaadoor", sum := "59f0e5ddbd9f70b65dc3a298f14354a554d15ddda430e4e1f6b408bea6515b8d", func := "coxless/coxlesslaw01.BitsSigned", spec := "bitsSigned", named := ["coxless/bits.ends", "coxless/bits.codeAt", "coxless/bits.parseAt", "coxless/bits.upper"], apart := false, laid := [("coxless/bits.codeAt", laid_coxless_bits_codeAt), ("coxless/bits.ends", laid_coxless_bits_ends), ("coxless/bits.parseAt", laid_coxless_bits_parseAt), ("coxless/bits.upper", laid_coxless_bits_upper)] }
def BitsSignedSaid : Prop := bitsSignedRow.holds Tryd.pinned (OpenSpec.ofChange bitsSignedSpec)

/-- ITS FALSE NEIGHBOUR: 'it returns false'. Refute it at one input. -/
def bitsSignedWrong : ChangeSpec := { name := "bitsSigned", fn := fun _ => fun
  | [d1, d2, d3, d4] => { results := [.lit (.bool false)], args := [d1, d2, d3, d4] }
  | _ => none }
def BitsSignedWrongFalsely : Prop := bitsSignedRow.holds Tryd.pinned (OpenSpec.ofChange bitsSignedWrong)

/-- 'coxlesslaw01.BitsBack': WHATEVER THE INPUT: true; the input reads as it did. -/
def bitsBackSpec : ChangeSpec := { name := "bitsBack", fn := fun _ => fun
  | [d1, d2, d3, d4] => { results := [.lit (.bool true)], args := [d1, d2, d3, d4] }
  | _ => none }
def bitsBackRow : OpenClaim := { program := "ytoljlbfjjemldaadoor", sum := "59f0e5ddbd9f70b65dc3a298f14354a554d15ddda430e4e1f6b408bea6515b8d", func := "coxless/coxlesslaw01.BitsBack", spec := "bitsBack", named := ["coxless/bits.ends", "coxless/bits.codeAt", "coxless/bits.parseAt", "coxless/bits.upper"], apart := false, laid := [("coxless/bits.codeAt", laid_coxless_bits_codeAt), ("coxless/bits.ends", laid_coxless_bits_ends), ("coxless/bits.parseAt", laid_coxless_bits_parseAt), ("coxless/bits.upper", laid_coxless_bits_upper)] }
def BitsBackSaid : Prop := bitsBackRow.holds Tryd.pinned (OpenSpec.ofChange bitsBackSpec)

/-- ITS FALSE NEIGHBOUR: 'it returns false'. Refute it at one input. -/
def bitsBackWrong : ChangeSpec := { name := "bitsBack", fn := fun _ => fun
  | [d1, d2, d3, d4] => { results := [.lit (.bool false)], args := [d1, d2, d3, d4] }
  | _ => none }
def BitsBackWrongFalsely : Prop := bitsBackRow.holds Tryd.pinned (OpenSpec.ofChange bitsBackWrong)

/-- 'coxlesslaw01.BitsFields': WHATEVER THE INPUT: true; the input reads as it did. -/
def bitsFieldsSpec : ChangeSpec := { name := "bitsFields", fn := fun _ => fun
  | [d1, d2, d3, d4, d5, d6, d7] => { results := [.lit (.bool true)], args := [d1, d2, d3, d4, d5, d6, d7] }
  | _ => none }
def bitsFieldsRow : OpenClaim := { program := "ytoljlbfjjemldaadoor", sum := "59f0e5ddbd9f70b65dc3a298f14354a554d15ddda430e4e1f6b408bea6515b8d", func := "coxless/coxlesslaw01.BitsFields", spec := "bitsFields", named := ["coxless/bits.ends", "coxless/bits.codeAt", "coxless/bits.parseAt", "coxless/bits.upper"], apart := false, laid := [("coxless/bits.codeAt", laid_coxless_bits_codeAt), ("coxless/bits.ends", laid_coxless_bits_ends), ("coxless/bits.parseAt", laid_coxless_bits_parseAt), ("coxless/bits.upper", laid_coxless_bits_upper)] }
def BitsFieldsSaid : Prop := bitsFieldsRow.holds Tryd.pinned (OpenSpec.ofChange bitsFieldsSpec)

/-- ITS FALSE NEIGHBOUR: 'it returns false'. Refute it at one input. -/
def bitsFieldsWrong : ChangeSpec := { name := "bitsFields", fn := fun _ => fun
  | [d1, d2, d3, d4, d5, d6, d7] => { results := [.lit (.bool false)], args := [d1, d2, d3, d4, d5, d6, d7] }
  | _ => none }
def BitsFieldsWrongFalsely : Prop := bitsFieldsRow.holds Tryd.pinned (OpenSpec.ofChange bitsFieldsWrong)

/-- 'coxlesslaw01.BitsPuts': WHATEVER THE INPUT: true; the input reads as it did. -/
def bitsPutsSpec : ChangeSpec := { name := "bitsPuts", fn := fun _ => fun
  | [d1, d2, d3, d4, d5, d6] => { results := [.lit (.bool true)], args := [d1, d2, d3, d4, d5, d6] }
  | _ => none }
def bitsPutsRow : OpenClaim := { program := "ytoljlbfjjemldaadoor", sum := "59f0e5ddbd9f70b65dc3a298f14354a554d15ddda430e4e1f6b408bea6515b8d", func := "coxless/coxlesslaw01.BitsPuts", spec := "bitsPuts", named := ["coxless/bits.ends", "coxless/bits.codeAt", "coxless/bits.parseAt", "coxless/bits.upper"], apart := false, laid := [("coxless/bits.codeAt", laid_coxless_bits_codeAt), ("coxless/bits.ends", laid_coxless_bits_ends), ("coxless/bits.parseAt", laid_coxless_bits_parseAt), ("coxless/bits.upper", laid_coxless_bits_upper)] }
def BitsPutsSaid : Prop := bitsPutsRow.holds Tryd.pinned (OpenSpec.ofChange bitsPutsSpec)

/-- ITS FALSE NEIGHBOUR: 'it returns false'. Refute it at one input. -/
def bitsPutsWrong : ChangeSpec := { name := "bitsPuts", fn := fun _ => fun
  | [d1, d2, d3, d4, d5, d6] => { results := [.lit (.bool false)], args := [d1, d2, d3, d4, d5, d6] }
  | _ => none }
def BitsPutsWrongFalsely : Prop := bitsPutsRow.holds Tryd.pinned (OpenSpec.ofChange bitsPutsWrong)

/-- 'coxlesslaw01.BitsKnown': WHATEVER THE INPUT: true; the input reads as it did. -/
def bitsKnownSpec : ChangeSpec := { name := "bitsKnown", fn := fun _ => fun
  | [] => { results := [.lit (.bool true)], args := [] }
  | _ => none }
def bitsKnownRow : OpenClaim := { program := "ytoljlbfjjemldaadoor", sum := "59f0e5ddbd9f70b65dc3a298f14354a554d15ddda430e4e1f6b408bea6515b8d", func := "coxless/coxlesslaw01.BitsKnown", spec := "bitsKnown", named := ["coxless/bits.ends", "coxless/bits.upper", "coxless/bits.parseAt", "coxless/bits.codeAt"], apart := false, laid := [("coxless/bits.codeAt", laid_coxless_bits_codeAt), ("coxless/bits.ends", laid_coxless_bits_ends), ("coxless/bits.parseAt", laid_coxless_bits_parseAt), ("coxless/bits.upper", laid_coxless_bits_upper)] }
def BitsKnownSaid : Prop := bitsKnownRow.holds Tryd.pinned (OpenSpec.ofChange bitsKnownSpec)

/-- ITS FALSE NEIGHBOUR: 'it returns false'. Refute it at one input. -/
def bitsKnownWrong : ChangeSpec := { name := "bitsKnown", fn := fun _ => fun
  | [] => { results := [.lit (.bool false)], args := [] }
  | _ => none }
def BitsKnownWrongFalsely : Prop := bitsKnownRow.holds Tryd.pinned (OpenSpec.ofChange bitsKnownWrong)

/- THE SECOND FORM. 'bulk': how many values and letters a reading holds, each counted each time it is reached (what is shared counts as often as it is met; a slice's spare places count too). A statement '..UptoSaid' is the law's where the arguments, and the package variables that the reading takes, are together of bulk at most 1048576: NARROWER than '..Said'. Prove '..Said' where nothing that the law and all that it calls make is longer than what came in: it says more and counts as full. Else prove '..UptoSaid'. A law counts once. -/
mutual
def uptoBulk {H : Type} : DataW H → Nat
  | .lit (.string bytes) => bytes.length + 1
  | .lit _ => 1
  | .nil => 1
  | .ptr d => uptoBulk d + 1
  | .slice elems spare => uptoBulkAll elems + uptoBulkAll spare + 1
  | .agg parts => uptoBulkAll parts + 1
  | .iface _ d => uptoBulk d + 1
  | .map entries => uptoBulkEntries entries + 1
  | .held _ => 1
def uptoBulkAll {H : Type} : List (DataW H) → Nat
  | [] => 0
  | d :: r => uptoBulk d + uptoBulkAll r
def uptoBulkEntries {H : Type} : List (Lit × DataW H) → Nat
  | [] => 0
  | x :: r => uptoBulkEntry x + uptoBulkEntries r
def uptoBulkEntry {H : Type} : Lit × DataW H → Nat
  | (.string bytes, d) => bytes.length + uptoBulk d + 1
  | (_, d) => uptoBulk d + 1
 end
def uptoSmall : (H : Type) → List (DataW H) → Bool := fun _ ds => decide (uptoBulkAll ds ≤ 1048576)
def OpenSpec.upto (s : _root_.Go.ChangeSpec) : _root_.Go.OpenSpec := { _root_.Go.OpenSpec.ofChange s with cond := some uptoSmall }

/-- 'coxlesslaw01.BitsWords', WHERE WHAT IT READS IS OF BULK AT MOST 1048576: true; the input reads as it did. -/
def bitsWordsUptoRow : OpenClaim := { program := "ytoljlbfjjemldaadoor", sum := "59f0e5ddbd9f70b65dc3a298f14354a554d15ddda430e4e1f6b408bea6515b8d", func := "coxless/coxlesslaw01.BitsWords", spec := "bitsWords", named := ["coxless/bits.ends", "coxless/bits.codeAt", "coxless/bits.parseAt", "coxless/bits.upper"], apart := false, laid := [("coxless/bits.codeAt", laid_coxless_bits_codeAt), ("coxless/bits.ends", laid_coxless_bits_ends), ("coxless/bits.parseAt", laid_coxless_bits_parseAt), ("coxless/bits.upper", laid_coxless_bits_upper)], narrowed := true }
def BitsWordsUptoSaid : Prop := bitsWordsUptoRow.holds Tryd.pinned (OpenSpec.upto bitsWordsSpec)

/-- 'coxlesslaw01.BitsSigned', WHERE WHAT IT READS IS OF BULK AT MOST 1048576: true; the input reads as it did. -/
def bitsSignedUptoRow : OpenClaim := { program := "ytoljlbfjjemldaadoor", sum := "59f0e5ddbd9f70b65dc3a298f14354a554d15ddda430e4e1f6b408bea6515b8d", func := "coxless/coxlesslaw01.BitsSigned", spec := "bitsSigned", named := ["coxless/bits.ends", "coxless/bits.codeAt", "coxless/bits.parseAt", "coxless/bits.upper"], apart := false, laid := [("coxless/bits.codeAt", laid_coxless_bits_codeAt), ("coxless/bits.ends", laid_coxless_bits_ends), ("coxless/bits.parseAt", laid_coxless_bits_parseAt), ("coxless/bits.upper", laid_coxless_bits_upper)], narrowed := true }
def BitsSignedUptoSaid : Prop := bitsSignedUptoRow.holds Tryd.pinned (OpenSpec.upto bitsSignedSpec)

/-- 'coxlesslaw01.BitsBack', WHERE WHAT IT READS IS OF BULK AT MOST 1048576: true; the input reads as it did. -/
def bitsBackUptoRow : OpenClaim := { program := "ytoljlbfjjemldaadoor", sum := "59f0e5ddbd9f70b65dc3a298f14354a554d15ddda430e4e1f6b408bea6515b8d", func := "coxless/coxlesslaw01.BitsBack", spec := "bitsBack", named := ["coxless/bits.ends", "coxless/bits.codeAt", "coxless/bits.parseAt", "coxless/bits.upper"], apart := false, laid := [("coxless/bits.codeAt", laid_coxless_bits_codeAt), ("coxless/bits.ends", laid_coxless_bits_ends), ("coxless/bits.parseAt", laid_coxless_bits_parseAt), ("coxless/bits.upper", laid_coxless_bits_upper)], narrowed := true }
def BitsBackUptoSaid : Prop := bitsBackUptoRow.holds Tryd.pinned (OpenSpec.upto bitsBackSpec)

/-- 'coxlesslaw01.BitsFields', WHERE WHAT IT READS IS OF BULK AT MOST 1048576: true; the input reads as it did. -/
def bitsFieldsUptoRow : OpenClaim := { program := "ytoljlbfjjemldaadoor", sum := "59f0e5ddbd9f70b65dc3a298f14354a554d15ddda430e4e1f6b408bea6515b8d", func := "coxless/coxlesslaw01.BitsFields", spec := "bitsFields", named := ["coxless/bits.ends", "coxless/bits.codeAt", "coxless/bits.parseAt", "coxless/bits.upper"], apart := false, laid := [("coxless/bits.codeAt", laid_coxless_bits_codeAt), ("coxless/bits.ends", laid_coxless_bits_ends), ("coxless/bits.parseAt", laid_coxless_bits_parseAt), ("coxless/bits.upper", laid_coxless_bits_upper)], narrowed := true }
def BitsFieldsUptoSaid : Prop := bitsFieldsUptoRow.holds Tryd.pinned (OpenSpec.upto bitsFieldsSpec)

/-- 'coxlesslaw01.BitsPuts', WHERE WHAT IT READS IS OF BULK AT MOST 1048576: true; the input reads as it did. -/
def bitsPutsUptoRow : OpenClaim := { program := "ytoljlbfjjemldaadoor", sum := "59f0e5ddbd9f70b65dc3a298f14354a554d15ddda430e4e1f6b408bea6515b8d", func := "coxless/coxlesslaw01.BitsPuts", spec := "bitsPuts", named := ["coxless/bits.ends", "coxless/bits.codeAt", "coxless/bits.parseAt", "coxless/bits.upper"], apart := false, laid := [("coxless/bits.codeAt", laid_coxless_bits_codeAt), ("coxless/bits.ends", laid_coxless_bits_ends), ("coxless/bits.parseAt", laid_coxless_bits_parseAt), ("coxless/bits.upper", laid_coxless_bits_upper)], narrowed := true }
def BitsPutsUptoSaid : Prop := bitsPutsUptoRow.holds Tryd.pinned (OpenSpec.upto bitsPutsSpec)

/-- 'coxlesslaw01.BitsKnown', WHERE WHAT IT READS IS OF BULK AT MOST 1048576: true; the input reads as it did. -/
def bitsKnownUptoRow : OpenClaim := { program := "ytoljlbfjjemldaadoor", sum := "59f0e5ddbd9f70b65dc3a298f14354a554d15ddda430e4e1f6b408bea6515b8d", func := "coxless/coxlesslaw01.BitsKnown", spec := "bitsKnown", named := ["coxless/bits.ends", "coxless/bits.upper", "coxless/bits.parseAt", "coxless/bits.codeAt"], apart := false, laid := [("coxless/bits.codeAt", laid_coxless_bits_codeAt), ("coxless/bits.ends", laid_coxless_bits_ends), ("coxless/bits.parseAt", laid_coxless_bits_parseAt), ("coxless/bits.upper", laid_coxless_bits_upper)], narrowed := true }
def BitsKnownUptoSaid : Prop := bitsKnownUptoRow.holds Tryd.pinned (OpenSpec.upto bitsKnownSpec)

end Rows
end Go.Proofs.YtoljlbfjjemldaaDoor
