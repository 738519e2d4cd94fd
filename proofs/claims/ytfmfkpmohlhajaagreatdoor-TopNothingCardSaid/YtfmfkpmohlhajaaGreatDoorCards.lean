/-
  DERIVED. GIVEN WITH THE SEED: THE CARDS: each row of YtfmfkpmohlhajaaGreatDoorRows.lean that lists a variable, with what it lists TIED to the program's text (the seventh form; the later family's looks); each row that meets fmt, with fmt's text TOLD by the authors' own Lean function (tested against real Go, not proved from fmt's source: count such statements apart). THE CARD IS WHAT COUNTS. Prove the row's statement (the work); the ties are given (YtfmfkpmohlhajaaGreatDoorTie.lean); close each card by the builder's one call (the guide's Derived/Test/ToyasCard.lean, 'card_holds'). Laid BY PROGRAM, IN A SANDBOX (cutbox-door.mjs). By AI agents, Wed Nov 11 2026. No macro, syntax, notation, axiom, sorry.
-/
import Derived.Test.YtfmfkpmohlhajaaGreatDoorRows
import GoSem.ClaimSeven
namespace Go.Proofs.YtfmfkpmohlhajaaGreatDoor
namespace Rows

/-- THE TIED CARD OF 'ramparttop.TopNothing'. -/
def topNothingCard : Claim7 := { stood := { row := topNothingRow, standIns := [], harness := (true, "7d8e993a466b6749aff2d8d388591395134650294f05132b6792f7d5dc25ba83"), looks := true }, kinds := [], alts := [], laidByText := true, laidKinds := [.data, .pinned, .pinned], laidTests := true, laidLooks := .later }
def TopNothingCardSaid : Prop := Claim7.holds Tryz.pinned (.plain (OpenSpec.ofChange topNothingSpec)) topNothingCard

/-- THE TIED CARD OF 'ramparttop.TopServer'. -/
def topServerCard : Claim7 := { stood := { row := topServerRow, standIns := [], harness := (true, "7d8e993a466b6749aff2d8d388591395134650294f05132b6792f7d5dc25ba83"), looks := true }, kinds := [], alts := [], laidByText := true, laidKinds := [.data, .pinned, .pinned], laidTests := true, laidLooks := .later }
def TopServerCardSaid : Prop := Claim7.holds Tryz.pinned (.plain (OpenSpec.ofChange topServerSpec)) topServerCard

/-- THE TIED CARD OF 'ramparttop.TopCands'. -/
def topCandsCard : Claim7 := { stood := { row := topCandsRow, standIns := [], harness := (true, "7d8e993a466b6749aff2d8d388591395134650294f05132b6792f7d5dc25ba83"), looks := true }, kinds := [], alts := [], laidByText := true, laidKinds := [.data, .pinned, .pinned], laidTests := true, laidLooks := .later }
def TopCandsCardSaid : Prop := Claim7.holds Tryz.pinned (.plain (OpenSpec.ofChange topCandsSpec)) topCandsCard

/-- THE SECOND FORM's CARD OF 'ramparttop.TopNothing'. -/
def topNothingUptoCard : Claim7 := { stood := { row := topNothingUptoRow, standIns := [], harness := (true, "7d8e993a466b6749aff2d8d388591395134650294f05132b6792f7d5dc25ba83"), looks := true }, kinds := [], alts := [], laidByText := true, laidKinds := [.data, .pinned, .pinned], laidTests := true, laidLooks := .later }
def TopNothingUptoCardSaid : Prop := Claim7.holds Tryz.pinned (.plain (OpenSpec.upto topNothingSpec)) topNothingUptoCard

/-- THE SECOND FORM's CARD OF 'ramparttop.TopServer'. -/
def topServerUptoCard : Claim7 := { stood := { row := topServerUptoRow, standIns := [], harness := (true, "7d8e993a466b6749aff2d8d388591395134650294f05132b6792f7d5dc25ba83"), looks := true }, kinds := [], alts := [], laidByText := true, laidKinds := [.data, .pinned, .pinned], laidTests := true, laidLooks := .later }
def TopServerUptoCardSaid : Prop := Claim7.holds Tryz.pinned (.plain (OpenSpec.upto topServerSpec)) topServerUptoCard

/-- THE SECOND FORM's CARD OF 'ramparttop.TopCands'. -/
def topCandsUptoCard : Claim7 := { stood := { row := topCandsUptoRow, standIns := [], harness := (true, "7d8e993a466b6749aff2d8d388591395134650294f05132b6792f7d5dc25ba83"), looks := true }, kinds := [], alts := [], laidByText := true, laidKinds := [.data, .pinned, .pinned], laidTests := true, laidLooks := .later }
def TopCandsUptoCardSaid : Prop := Claim7.holds Tryz.pinned (.plain (OpenSpec.upto topCandsSpec)) topCandsUptoCard
end Rows
end Go.Proofs.YtfmfkpmohlhajaaGreatDoor
