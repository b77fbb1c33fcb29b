/-
  DERIVED. GIVEN WITH THE SEED: THE PROGRAM's TIES (one call each: nine closed facts by the kernel) AND EACH ROW's TIE, after the 31st guide's Derived/Test/Toyas{Tie, Card}.lean. No idea stands in it: it is a product of the set-up. Laid BY PROGRAM, IN A SANDBOX (cutbox-door.mjs). By AI agents, Wed Nov 11 2026. No macro, syntax, notation, axiom, sorry.
-/
import Derived.Test.YtoljlbfjjemldaaDoorRows
import Derived.LaidByTextLater
import Derived.SevenTiedAt
import Derived.LaidSub
import Derived.LaidOnce
namespace Go.Proofs.YtoljlbfjjemldaaDoor
open Go
set_option maxRecDepth 100000
theorem seatTie1 : Tryd.prog.laidByTextLater [("coxless/bits.codeAt", Rows.laid_coxless_bits_codeAt), ("coxless/bits.ends", Rows.laid_coxless_bits_ends), ("coxless/bits.parseAt", Rows.laid_coxless_bits_parseAt), ("coxless/bits.upper", Rows.laid_coxless_bits_upper)] [.wider, .wider, .wider, .wider] true :=
  Program.laidByTextLater_by_one 31 8 5 (by kernel_rfl) (by kernel_rfl) (by kernel_rfl) (by kernel_rfl) (by kernel_rfl) (by kernel_rfl) (fun _ _ => by kernel_rfl)
theorem noOwnUnsafe : Tryd.pinned.checked.prog.headLifts.contains "ownunsafe" = false := by kernel_rfl
theorem tie : Tryd.prog.laidByTextLater [("coxless/bits.codeAt", Rows.laid_coxless_bits_codeAt), ("coxless/bits.ends", Rows.laid_coxless_bits_ends), ("coxless/bits.parseAt", Rows.laid_coxless_bits_parseAt), ("coxless/bits.upper", Rows.laid_coxless_bits_upper)] [.wider, .wider, .wider, .wider] true :=
  Program.laidByTextLater.sub seatTie1 ["coxless/bits.codeAt", "coxless/bits.ends", "coxless/bits.parseAt", "coxless/bits.upper"] (by kernel_rfl) (by kernel_rfl)
theorem bitsWords_row_tie : Rows.bitsWordsRow.laidByTextAt .later Tryd.pinned [.wider, .wider, .wider, .wider] true :=
  OpenClaim.laidByTextAt_later rfl rfl tie noOwnUnsafe
theorem bitsSigned_row_tie : Rows.bitsSignedRow.laidByTextAt .later Tryd.pinned [.wider, .wider, .wider, .wider] true :=
  OpenClaim.laidByTextAt_later rfl rfl tie noOwnUnsafe
theorem bitsBack_row_tie : Rows.bitsBackRow.laidByTextAt .later Tryd.pinned [.wider, .wider, .wider, .wider] true :=
  OpenClaim.laidByTextAt_later rfl rfl tie noOwnUnsafe
theorem bitsFields_row_tie : Rows.bitsFieldsRow.laidByTextAt .later Tryd.pinned [.wider, .wider, .wider, .wider] true :=
  OpenClaim.laidByTextAt_later rfl rfl tie noOwnUnsafe
theorem bitsPuts_row_tie : Rows.bitsPutsRow.laidByTextAt .later Tryd.pinned [.wider, .wider, .wider, .wider] true :=
  OpenClaim.laidByTextAt_later rfl rfl tie noOwnUnsafe
theorem bitsKnown_row_tie : Rows.bitsKnownRow.laidByTextAt .later Tryd.pinned [.wider, .wider, .wider, .wider] true :=
  OpenClaim.laidByTextAt_later rfl rfl tie noOwnUnsafe
theorem bitsWordsUpto_row_tie : Rows.bitsWordsUptoRow.laidByTextAt .later Tryd.pinned [.wider, .wider, .wider, .wider] true :=
  OpenClaim.laidByTextAt_later rfl rfl tie noOwnUnsafe
theorem bitsSignedUpto_row_tie : Rows.bitsSignedUptoRow.laidByTextAt .later Tryd.pinned [.wider, .wider, .wider, .wider] true :=
  OpenClaim.laidByTextAt_later rfl rfl tie noOwnUnsafe
theorem bitsBackUpto_row_tie : Rows.bitsBackUptoRow.laidByTextAt .later Tryd.pinned [.wider, .wider, .wider, .wider] true :=
  OpenClaim.laidByTextAt_later rfl rfl tie noOwnUnsafe
theorem bitsFieldsUpto_row_tie : Rows.bitsFieldsUptoRow.laidByTextAt .later Tryd.pinned [.wider, .wider, .wider, .wider] true :=
  OpenClaim.laidByTextAt_later rfl rfl tie noOwnUnsafe
theorem bitsPutsUpto_row_tie : Rows.bitsPutsUptoRow.laidByTextAt .later Tryd.pinned [.wider, .wider, .wider, .wider] true :=
  OpenClaim.laidByTextAt_later rfl rfl tie noOwnUnsafe
theorem bitsKnownUpto_row_tie : Rows.bitsKnownUptoRow.laidByTextAt .later Tryd.pinned [.wider, .wider, .wider, .wider] true :=
  OpenClaim.laidByTextAt_later rfl rfl tie noOwnUnsafe
end Go.Proofs.YtoljlbfjjemldaaDoor
