/-
  DERIVED. GIVEN WITH THE SEED: THE CARDS: each row of YtmcfcfdpckjonaaDoorRows.lean that lists a variable, with what it lists TIED to the program's text (the seventh form; the later family's looks); each row that meets fmt, with fmt's text TOLD by the authors' own Lean function (tested against real Go, not proved from fmt's source: count such statements apart). THE CARD IS WHAT COUNTS. Prove the row's statement (the work); the ties are given (YtmcfcfdpckjonaaDoorTie.lean); close each card by the builder's one call (the guide's Derived/Test/ToyasCard.lean, 'card_holds'). Laid BY PROGRAM, IN A SANDBOX (cutbox-door.mjs). By AI agents, Wed Nov 11 2026. No macro, syntax, notation, axiom, sorry.
-/
import Derived.Test.YtmcfcfdpckjonaaDoorRows
import GoSem.ClaimSeven
namespace Go.Proofs.YtmcfcfdpckjonaaDoor
namespace Rows

/-- THE TIED CARD OF 'rollbacklaw.Names'. -/
def namesCard : Claim7 := { stood := { row := namesRow, standIns := [], harness := (true, "72cc39ccbf5e2be9177714658daae8b3d5aac52bd56904524a411e3cbb200033"), looks := true }, kinds := [], alts := [], laidByText := true, laidKinds := [.handle], laidTests := true, laidLooks := .later }
def NamesCardSaid : Prop := Claim7.holds Tryd.pinned (.plain (OpenSpec.ofChange namesSpec)) namesCard

/-- THE TIED CARD OF 'rollbacklaw.Packs'. -/
def packsCard : Claim7 := { stood := { row := packsRow, standIns := [], harness := (true, "72cc39ccbf5e2be9177714658daae8b3d5aac52bd56904524a411e3cbb200033"), looks := true }, kinds := [], alts := [], laidByText := true, laidKinds := [.handle], laidTests := true, laidLooks := .later }
def PacksCardSaid : Prop := Claim7.holds Tryd.pinned (.plain (OpenSpec.ofChange packsSpec)) packsCard

/-- THE TIED CARD OF 'rollbacklaw.Unpacks'. -/
def unpacksCard : Claim7 := { stood := { row := unpacksRow, standIns := [], harness := (true, "72cc39ccbf5e2be9177714658daae8b3d5aac52bd56904524a411e3cbb200033"), looks := true }, kinds := [], alts := [], laidByText := true, laidKinds := [.handle], laidTests := true, laidLooks := .later }
def UnpacksCardSaid : Prop := Claim7.holds Tryd.pinned (.plain (OpenSpec.ofChange unpacksSpec)) unpacksCard

/-- THE TIED CARD OF 'rollbackkeep.Repacked'. -/
def repackedCard : Claim7 := { stood := { row := repackedRow, standIns := [], harness := (true, "72cc39ccbf5e2be9177714658daae8b3d5aac52bd56904524a411e3cbb200033"), looks := true }, kinds := [], alts := [], laidByText := true, laidKinds := [.handle], laidTests := true, laidLooks := .later }
def RepackedCardSaid : Prop := Claim7.holds Tryd.pinned (.plain (OpenSpec.ofChange repackedSpec)) repackedCard

/-- THE TIED CARD OF 'rollbacklaw.Digests'. -/
def digestsCard : Claim7 := { stood := { row := digestsRow, standIns := [], harness := (true, "72cc39ccbf5e2be9177714658daae8b3d5aac52bd56904524a411e3cbb200033"), looks := true }, kinds := [], alts := [], laidByText := true, laidKinds := [.handle], laidTests := true, laidLooks := .later }
def DigestsCardSaid : Prop := Claim7.holds Tryd.pinned (.plain (OpenSpec.ofChange digestsSpec)) digestsCard

/-- THE SECOND FORM's CARD OF 'rollbacklaw.Names'. -/
def namesUptoCard : Claim7 := { stood := { row := namesUptoRow, standIns := [], harness := (true, "72cc39ccbf5e2be9177714658daae8b3d5aac52bd56904524a411e3cbb200033"), looks := true }, kinds := [], alts := [], laidByText := true, laidKinds := [.handle], laidTests := true, laidLooks := .later }
def NamesUptoCardSaid : Prop := Claim7.holds Tryd.pinned (.plain (OpenSpec.upto namesSpec)) namesUptoCard

/-- THE SECOND FORM's CARD OF 'rollbacklaw.Packs'. -/
def packsUptoCard : Claim7 := { stood := { row := packsUptoRow, standIns := [], harness := (true, "72cc39ccbf5e2be9177714658daae8b3d5aac52bd56904524a411e3cbb200033"), looks := true }, kinds := [], alts := [], laidByText := true, laidKinds := [.handle], laidTests := true, laidLooks := .later }
def PacksUptoCardSaid : Prop := Claim7.holds Tryd.pinned (.plain (OpenSpec.upto packsSpec)) packsUptoCard

/-- THE SECOND FORM's CARD OF 'rollbacklaw.Unpacks'. -/
def unpacksUptoCard : Claim7 := { stood := { row := unpacksUptoRow, standIns := [], harness := (true, "72cc39ccbf5e2be9177714658daae8b3d5aac52bd56904524a411e3cbb200033"), looks := true }, kinds := [], alts := [], laidByText := true, laidKinds := [.handle], laidTests := true, laidLooks := .later }
def UnpacksUptoCardSaid : Prop := Claim7.holds Tryd.pinned (.plain (OpenSpec.upto unpacksSpec)) unpacksUptoCard

/-- THE SECOND FORM's CARD OF 'rollbackkeep.Repacked'. -/
def repackedUptoCard : Claim7 := { stood := { row := repackedUptoRow, standIns := [], harness := (true, "72cc39ccbf5e2be9177714658daae8b3d5aac52bd56904524a411e3cbb200033"), looks := true }, kinds := [], alts := [], laidByText := true, laidKinds := [.handle], laidTests := true, laidLooks := .later }
def RepackedUptoCardSaid : Prop := Claim7.holds Tryd.pinned (.plain (OpenSpec.upto repackedSpec)) repackedUptoCard

/-- THE SECOND FORM's CARD OF 'rollbacklaw.Digests'. -/
def digestsUptoCard : Claim7 := { stood := { row := digestsUptoRow, standIns := [], harness := (true, "72cc39ccbf5e2be9177714658daae8b3d5aac52bd56904524a411e3cbb200033"), looks := true }, kinds := [], alts := [], laidByText := true, laidKinds := [.handle], laidTests := true, laidLooks := .later }
def DigestsUptoCardSaid : Prop := Claim7.holds Tryd.pinned (.plain (OpenSpec.upto digestsSpec)) digestsUptoCard
end Rows
end Go.Proofs.YtmcfcfdpckjonaaDoor
