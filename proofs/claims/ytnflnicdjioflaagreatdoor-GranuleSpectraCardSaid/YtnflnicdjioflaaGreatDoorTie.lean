/-
  DERIVED. GIVEN WITH THE SEED: THE PROGRAM's TIES (one call each: nine closed facts by the kernel) AND EACH ROW's TIE, after the 31st guide's Derived/Test/Toyas{Tie, Card}.lean. No idea stands in it: it is a product of the set-up. Laid BY PROGRAM, IN A SANDBOX (cutbox-door.mjs). By AI agents, Wed Nov 11 2026. No macro, syntax, notation, axiom, sorry.
-/
import Derived.Test.YtnflnicdjioflaaGreatDoorRows
import Derived.LaidByTextLater
import Derived.SevenTiedAt
import Derived.LaidSub
import Derived.LaidOnce
namespace Go.Proofs.YtnflnicdjioflaaGreatDoor
open Go
set_option maxRecDepth 100000
theorem seatTie1 : Tryz.prog.laidByTextLater [("shawm/bands.longs", Rows.laid_shawm_bands_longs), ("shawm/bands.shorts", Rows.laid_shawm_bands_shorts), ("shawm/book.forms", Rows.laid_shawm_book_forms), ("shawm/book.tables", Rows.laid_shawm_book_tables)] [.widerDeep, .widerDeep, .wider, .data] true :=
  Program.laidByTextLater_by_one 37 8 25 (by kernel_rfl) (by kernel_rfl) (by kernel_rfl) (by kernel_rfl) (by kernel_rfl) (by kernel_rfl) (fun _ _ => by kernel_rfl)
theorem noOwnUnsafe : Tryz.pinned.checked.prog.headLifts.contains "ownunsafe" = false := by kernel_rfl
theorem tie : Tryz.prog.laidByTextLater [("shawm/bands.longs", Rows.laid_shawm_bands_longs), ("shawm/bands.shorts", Rows.laid_shawm_bands_shorts), ("shawm/book.forms", Rows.laid_shawm_book_forms), ("shawm/book.tables", Rows.laid_shawm_book_tables)] [.widerDeep, .widerDeep, .wider, .data] true :=
  Program.laidByTextLater.sub seatTie1 ["shawm/bands.longs", "shawm/bands.shorts", "shawm/book.forms", "shawm/book.tables"] (by kernel_rfl) (by kernel_rfl)
theorem granuleMakes_row_tie : Rows.granuleMakesRow.laidByTextAt .later Tryz.pinned [.widerDeep, .widerDeep, .wider, .data] true :=
  OpenClaim.laidByTextAt_later rfl rfl tie noOwnUnsafe
theorem granuleSpectra_row_tie : Rows.granuleSpectraRow.laidByTextAt .later Tryz.pinned [.widerDeep, .widerDeep, .wider, .data] true :=
  OpenClaim.laidByTextAt_later rfl rfl tie noOwnUnsafe
theorem granuleSilence_row_tie : Rows.granuleSilenceRow.laidByTextAt .later Tryz.pinned [.widerDeep, .widerDeep, .wider, .data] true :=
  OpenClaim.laidByTextAt_later rfl rfl tie noOwnUnsafe
theorem granuleMade_row_tie : Rows.granuleMadeRow.laidByTextAt .later Tryz.pinned [.widerDeep, .widerDeep, .wider, .data] true :=
  OpenClaim.laidByTextAt_later rfl rfl tie noOwnUnsafe
theorem granuleMakesUpto_row_tie : Rows.granuleMakesUptoRow.laidByTextAt .later Tryz.pinned [.widerDeep, .widerDeep, .wider, .data] true :=
  OpenClaim.laidByTextAt_later rfl rfl tie noOwnUnsafe
theorem granuleSpectraUpto_row_tie : Rows.granuleSpectraUptoRow.laidByTextAt .later Tryz.pinned [.widerDeep, .widerDeep, .wider, .data] true :=
  OpenClaim.laidByTextAt_later rfl rfl tie noOwnUnsafe
theorem granuleSilenceUpto_row_tie : Rows.granuleSilenceUptoRow.laidByTextAt .later Tryz.pinned [.widerDeep, .widerDeep, .wider, .data] true :=
  OpenClaim.laidByTextAt_later rfl rfl tie noOwnUnsafe
theorem granuleMadeUpto_row_tie : Rows.granuleMadeUptoRow.laidByTextAt .later Tryz.pinned [.widerDeep, .widerDeep, .wider, .data] true :=
  OpenClaim.laidByTextAt_later rfl rfl tie noOwnUnsafe
end Go.Proofs.YtnflnicdjioflaaGreatDoor
