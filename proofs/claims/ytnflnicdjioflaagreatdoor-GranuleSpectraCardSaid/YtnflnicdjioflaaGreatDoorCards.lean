/-
  DERIVED. GIVEN WITH THE SEED: THE CARDS: each row of YtnflnicdjioflaaGreatDoorRows.lean that lists a variable, with what it lists TIED to the program's text (the seventh form; the later family's looks); each row that meets fmt, with fmt's text TOLD by the authors' own Lean function (tested against real Go, not proved from fmt's source: count such statements apart). THE CARD IS WHAT COUNTS. Prove the row's statement (the work); the ties are given (YtnflnicdjioflaaGreatDoorTie.lean); close each card by the builder's one call (the guide's Derived/Test/ToyasCard.lean, 'card_holds'). Laid BY PROGRAM, IN A SANDBOX (cutbox-door.mjs). By AI agents, Wed Nov 11 2026. No macro, syntax, notation, axiom, sorry.
-/
import Derived.Test.YtnflnicdjioflaaGreatDoorRows
import GoSem.ClaimSeven
namespace Go.Proofs.YtnflnicdjioflaaGreatDoor
namespace Rows

/-- THE TIED CARD OF 'shawmlaw21.GranuleMakes'. -/
def granuleMakesCard : Claim7 := { stood := { row := granuleMakesRow, standIns := [], harness := (true, "aad35a8daf2fc863f79bf46f0101069c60d2ec469ca1281205e2433c211e7cac"), looks := false }, kinds := [], alts := [], laidByText := true, laidKinds := [.widerDeep, .widerDeep, .wider, .data], laidTests := true, laidLooks := .later }
def GranuleMakesCardSaid : Prop := Claim7.holds Tryz.pinned (.plain (OpenSpec.ofChange granuleMakesSpec)) granuleMakesCard

/-- THE TIED CARD OF 'shawmlaw21.GranuleSpectra'. -/
def granuleSpectraCard : Claim7 := { stood := { row := granuleSpectraRow, standIns := [], harness := (true, "aad35a8daf2fc863f79bf46f0101069c60d2ec469ca1281205e2433c211e7cac"), looks := false }, kinds := [], alts := [], laidByText := true, laidKinds := [.widerDeep, .widerDeep, .wider, .data], laidTests := true, laidLooks := .later }
def GranuleSpectraCardSaid : Prop := Claim7.holds Tryz.pinned (.plain (OpenSpec.ofChange granuleSpectraSpec)) granuleSpectraCard

/-- THE TIED CARD OF 'shawmlaw21.GranuleSilence'. -/
def granuleSilenceCard : Claim7 := { stood := { row := granuleSilenceRow, standIns := [], harness := (true, "aad35a8daf2fc863f79bf46f0101069c60d2ec469ca1281205e2433c211e7cac"), looks := false }, kinds := [], alts := [], laidByText := true, laidKinds := [.widerDeep, .widerDeep, .wider, .data], laidTests := true, laidLooks := .later }
def GranuleSilenceCardSaid : Prop := Claim7.holds Tryz.pinned (.plain (OpenSpec.ofChange granuleSilenceSpec)) granuleSilenceCard

/-- THE TIED CARD OF 'shawmlaw21.GranuleMade'. -/
def granuleMadeCard : Claim7 := { stood := { row := granuleMadeRow, standIns := [], harness := (true, "aad35a8daf2fc863f79bf46f0101069c60d2ec469ca1281205e2433c211e7cac"), looks := false }, kinds := [], alts := [], laidByText := true, laidKinds := [.widerDeep, .widerDeep, .wider, .data], laidTests := true, laidLooks := .later }
def GranuleMadeCardSaid : Prop := Claim7.holds Tryz.pinned (.plain (OpenSpec.ofChange granuleMadeSpec)) granuleMadeCard

/-- THE SECOND FORM's CARD OF 'shawmlaw21.GranuleMakes'. -/
def granuleMakesUptoCard : Claim7 := { stood := { row := granuleMakesUptoRow, standIns := [], harness := (true, "aad35a8daf2fc863f79bf46f0101069c60d2ec469ca1281205e2433c211e7cac"), looks := false }, kinds := [], alts := [], laidByText := true, laidKinds := [.widerDeep, .widerDeep, .wider, .data], laidTests := true, laidLooks := .later }
def GranuleMakesUptoCardSaid : Prop := Claim7.holds Tryz.pinned (.plain (OpenSpec.upto granuleMakesSpec)) granuleMakesUptoCard

/-- THE SECOND FORM's CARD OF 'shawmlaw21.GranuleSpectra'. -/
def granuleSpectraUptoCard : Claim7 := { stood := { row := granuleSpectraUptoRow, standIns := [], harness := (true, "aad35a8daf2fc863f79bf46f0101069c60d2ec469ca1281205e2433c211e7cac"), looks := false }, kinds := [], alts := [], laidByText := true, laidKinds := [.widerDeep, .widerDeep, .wider, .data], laidTests := true, laidLooks := .later }
def GranuleSpectraUptoCardSaid : Prop := Claim7.holds Tryz.pinned (.plain (OpenSpec.upto granuleSpectraSpec)) granuleSpectraUptoCard

/-- THE SECOND FORM's CARD OF 'shawmlaw21.GranuleSilence'. -/
def granuleSilenceUptoCard : Claim7 := { stood := { row := granuleSilenceUptoRow, standIns := [], harness := (true, "aad35a8daf2fc863f79bf46f0101069c60d2ec469ca1281205e2433c211e7cac"), looks := false }, kinds := [], alts := [], laidByText := true, laidKinds := [.widerDeep, .widerDeep, .wider, .data], laidTests := true, laidLooks := .later }
def GranuleSilenceUptoCardSaid : Prop := Claim7.holds Tryz.pinned (.plain (OpenSpec.upto granuleSilenceSpec)) granuleSilenceUptoCard

/-- THE SECOND FORM's CARD OF 'shawmlaw21.GranuleMade'. -/
def granuleMadeUptoCard : Claim7 := { stood := { row := granuleMadeUptoRow, standIns := [], harness := (true, "aad35a8daf2fc863f79bf46f0101069c60d2ec469ca1281205e2433c211e7cac"), looks := false }, kinds := [], alts := [], laidByText := true, laidKinds := [.widerDeep, .widerDeep, .wider, .data], laidTests := true, laidLooks := .later }
def GranuleMadeUptoCardSaid : Prop := Claim7.holds Tryz.pinned (.plain (OpenSpec.upto granuleMadeSpec)) granuleMadeUptoCard
end Rows
end Go.Proofs.YtnflnicdjioflaaGreatDoor
