/-
  DERIVED. GIVEN WITH THE SEED: THE CARDS: each row of YtibajhihfaggfaaGreatDoorRows.lean that lists a variable, with what it lists TIED to the program's text (the seventh form; the later family's looks); each row that meets fmt, with fmt's text TOLD by the authors' own Lean function (tested against real Go, not proved from fmt's source: count such statements apart). THE CARD IS WHAT COUNTS. Prove the row's statement (the work); the ties are given (YtibajhihfaggfaaGreatDoorTie.lean); close each card by the builder's one call (the guide's Derived/Test/ToyasCard.lean, 'card_holds'). Laid BY PROGRAM, IN A SANDBOX (cutbox-door.mjs). By AI agents, Wed Nov 11 2026. No macro, syntax, notation, axiom, sorry.
-/
import Derived.Test.YtibajhihfaggfaaGreatDoorRows
import GoSem.ClaimSeven
namespace Go.Proofs.YtibajhihfaggfaaGreatDoor
namespace Rows

/-- THE TIED CARD OF 'cosignerlaw26.BaseTexts'. -/
def baseTextsCard : Claim7 := { stood := { row := baseTextsRow, standIns := [], harness := (true, "1081fcc990e55ba4507bd27fcc72edc01b75a347d10d59f9db501b643e27ff82"), looks := true }, kinds := [], alts := [], laidByText := true, laidKinds := [.data, .data, .data, .data, .listed, .data, .pinned], laidTests := true, laidLooks := .later }
def BaseTextsCardSaid : Prop := Claim7.holds Tryz.pinned (.plain (OpenSpec.ofChange baseTextsSpec)) baseTextsCard

/-- THE TIED CARD OF 'cosignerlaw26.BaseDrivers'. -/
def baseDriversCard : Claim7 := { stood := { row := baseDriversRow, standIns := [], harness := (true, "1081fcc990e55ba4507bd27fcc72edc01b75a347d10d59f9db501b643e27ff82"), looks := true }, kinds := [], alts := [], laidByText := true, laidKinds := [.data, .data, .data, .data, .listed, .data, .pinned], laidTests := true, laidLooks := .later }
def BaseDriversCardSaid : Prop := Claim7.holds Tryz.pinned (.plain (OpenSpec.ofChange baseDriversSpec)) baseDriversCard

/-- THE SECOND FORM's CARD OF 'cosignerlaw26.BaseTexts'. -/
def baseTextsUptoCard : Claim7 := { stood := { row := baseTextsUptoRow, standIns := [], harness := (true, "1081fcc990e55ba4507bd27fcc72edc01b75a347d10d59f9db501b643e27ff82"), looks := true }, kinds := [], alts := [], laidByText := true, laidKinds := [.data, .data, .data, .data, .listed, .data, .pinned], laidTests := true, laidLooks := .later }
def BaseTextsUptoCardSaid : Prop := Claim7.holds Tryz.pinned (.plain (OpenSpec.upto baseTextsSpec)) baseTextsUptoCard

/-- THE SECOND FORM's CARD OF 'cosignerlaw26.BaseDrivers'. -/
def baseDriversUptoCard : Claim7 := { stood := { row := baseDriversUptoRow, standIns := [], harness := (true, "1081fcc990e55ba4507bd27fcc72edc01b75a347d10d59f9db501b643e27ff82"), looks := true }, kinds := [], alts := [], laidByText := true, laidKinds := [.data, .data, .data, .data, .listed, .data, .pinned], laidTests := true, laidLooks := .later }
def BaseDriversUptoCardSaid : Prop := Claim7.holds Tryz.pinned (.plain (OpenSpec.upto baseDriversSpec)) baseDriversUptoCard
end Rows
end Go.Proofs.YtibajhihfaggfaaGreatDoor
