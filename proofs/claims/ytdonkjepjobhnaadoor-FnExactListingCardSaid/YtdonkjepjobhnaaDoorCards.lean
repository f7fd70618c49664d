/-
  DERIVED. GIVEN WITH THE SEED: THE CARDS: each row of YtdonkjepjobhnaaDoorRows.lean that lists a variable, with what it lists TIED to the program's text (the seventh form; the later family's looks); each row that meets fmt, with fmt's text TOLD by the authors' own Lean function (tested against real Go, not proved from fmt's source: count such statements apart). THE CARD IS WHAT COUNTS. Prove the row's statement (the work); the ties are given (YtdonkjepjobhnaaDoorTie.lean); close each card by the builder's one call (the guide's Derived/Test/ToyasCard.lean, 'card_holds'). Laid BY PROGRAM, IN A SANDBOX (cutbox-door.mjs). By AI agents, Wed Nov 11 2026. No macro, syntax, notation, axiom, sorry.
-/
import Derived.Test.YtdonkjepjobhnaaDoorRows
import GoSem.ClaimSeven
namespace Go.Proofs.YtdonkjepjobhnaaDoor
namespace Rows

/-- THE TIED CARD OF 'laws.FnExactDecode'. -/
def fnExactDecodeCard : Claim7 := { stood := { row := fnExactDecodeRow, standIns := [], harness := (true, "e40f8c54fe192a8726cc8ac02fc1ac2037f7c6b50416461a18b31407e1c9e8fb"), looks := true }, kinds := [], alts := [], laidByText := true, laidKinds := [.data], laidTests := true, laidLooks := .later }
def FnExactDecodeCardSaid : Prop := Claim7.holds Tryd.pinned (.plain (OpenSpec.ofChange fnExactDecodeSpec)) fnExactDecodeCard

/-- THE TIED CARD OF 'laws.FnExactText'. -/
def fnExactTextCard : Claim7 := { stood := { row := fnExactTextRow, standIns := [], harness := (true, "e40f8c54fe192a8726cc8ac02fc1ac2037f7c6b50416461a18b31407e1c9e8fb"), looks := true }, kinds := [], alts := [], laidByText := true, laidKinds := [.data, .data, .data], laidTests := true, laidLooks := .later }
def FnExactTextCardSaid : Prop := Claim7.holds Tryd.pinned (.plain (OpenSpec.ofChange fnExactTextSpec)) fnExactTextCard

/-- THE TIED CARD OF 'laws.FnExactCheckShape'. -/
def fnExactCheckShapeCard : Claim7 := { stood := { row := fnExactCheckShapeRow, standIns := [], harness := (true, "e40f8c54fe192a8726cc8ac02fc1ac2037f7c6b50416461a18b31407e1c9e8fb"), looks := true }, kinds := [], alts := [], laidByText := true, laidKinds := [.data], laidTests := true, laidLooks := .later }
def FnExactCheckShapeCardSaid : Prop := Claim7.holds Tryd.pinned (.plain (OpenSpec.ofChange fnExactCheckShapeSpec)) fnExactCheckShapeCard

/-- THE TIED CARD OF 'laws.FnExactBinary'. -/
def fnExactBinaryCard : Claim7 := { stood := { row := fnExactBinaryRow, standIns := [], harness := (true, "e40f8c54fe192a8726cc8ac02fc1ac2037f7c6b50416461a18b31407e1c9e8fb"), looks := true }, kinds := [], alts := [], laidByText := true, laidKinds := [.data, .data, .data], laidTests := true, laidLooks := .later }
def FnExactBinaryCardSaid : Prop := Claim7.holds Tryd.pinned (.plain (OpenSpec.ofChange fnExactBinarySpec)) fnExactBinaryCard

/-- THE TIED CARD OF 'laws.FnExactEncode'. -/
def fnExactEncodeCard : Claim7 := { stood := { row := fnExactEncodeRow, standIns := [], harness := (true, "e40f8c54fe192a8726cc8ac02fc1ac2037f7c6b50416461a18b31407e1c9e8fb"), looks := true }, kinds := [], alts := [], laidByText := true, laidKinds := [.data], laidTests := true, laidLooks := .later }
def FnExactEncodeCardSaid : Prop := Claim7.holds Tryd.pinned (.plain (OpenSpec.ofChange fnExactEncodeSpec)) fnExactEncodeCard

/-- THE TIED CARD OF 'laws.FnExactListing'. -/
def fnExactListingCard : Claim7 := { stood := { row := fnExactListingRow, standIns := [], harness := (true, "e40f8c54fe192a8726cc8ac02fc1ac2037f7c6b50416461a18b31407e1c9e8fb"), looks := true }, kinds := [], alts := [], laidByText := true, laidKinds := [.data, .data, .data, .listed, .data, .data], laidTests := true, laidLooks := .later }
def FnExactListingCardSaid : Prop := Claim7.holds Tryd.pinned (.plain (OpenSpec.ofChange fnExactListingSpec)) fnExactListingCard

/-- THE SECOND FORM's CARD OF 'laws.FnExactDecode'. -/
def fnExactDecodeUptoCard : Claim7 := { stood := { row := fnExactDecodeUptoRow, standIns := [], harness := (true, "e40f8c54fe192a8726cc8ac02fc1ac2037f7c6b50416461a18b31407e1c9e8fb"), looks := true }, kinds := [], alts := [], laidByText := true, laidKinds := [.data], laidTests := true, laidLooks := .later }
def FnExactDecodeUptoCardSaid : Prop := Claim7.holds Tryd.pinned (.plain (OpenSpec.upto fnExactDecodeSpec)) fnExactDecodeUptoCard

/-- THE SECOND FORM's CARD OF 'laws.FnExactText'. -/
def fnExactTextUptoCard : Claim7 := { stood := { row := fnExactTextUptoRow, standIns := [], harness := (true, "e40f8c54fe192a8726cc8ac02fc1ac2037f7c6b50416461a18b31407e1c9e8fb"), looks := true }, kinds := [], alts := [], laidByText := true, laidKinds := [.data, .data, .data], laidTests := true, laidLooks := .later }
def FnExactTextUptoCardSaid : Prop := Claim7.holds Tryd.pinned (.plain (OpenSpec.upto fnExactTextSpec)) fnExactTextUptoCard

/-- THE SECOND FORM's CARD OF 'laws.FnExactCheckShape'. -/
def fnExactCheckShapeUptoCard : Claim7 := { stood := { row := fnExactCheckShapeUptoRow, standIns := [], harness := (true, "e40f8c54fe192a8726cc8ac02fc1ac2037f7c6b50416461a18b31407e1c9e8fb"), looks := true }, kinds := [], alts := [], laidByText := true, laidKinds := [.data], laidTests := true, laidLooks := .later }
def FnExactCheckShapeUptoCardSaid : Prop := Claim7.holds Tryd.pinned (.plain (OpenSpec.upto fnExactCheckShapeSpec)) fnExactCheckShapeUptoCard

/-- THE SECOND FORM's CARD OF 'laws.FnExactBinary'. -/
def fnExactBinaryUptoCard : Claim7 := { stood := { row := fnExactBinaryUptoRow, standIns := [], harness := (true, "e40f8c54fe192a8726cc8ac02fc1ac2037f7c6b50416461a18b31407e1c9e8fb"), looks := true }, kinds := [], alts := [], laidByText := true, laidKinds := [.data, .data, .data], laidTests := true, laidLooks := .later }
def FnExactBinaryUptoCardSaid : Prop := Claim7.holds Tryd.pinned (.plain (OpenSpec.upto fnExactBinarySpec)) fnExactBinaryUptoCard

/-- THE SECOND FORM's CARD OF 'laws.FnExactEncode'. -/
def fnExactEncodeUptoCard : Claim7 := { stood := { row := fnExactEncodeUptoRow, standIns := [], harness := (true, "e40f8c54fe192a8726cc8ac02fc1ac2037f7c6b50416461a18b31407e1c9e8fb"), looks := true }, kinds := [], alts := [], laidByText := true, laidKinds := [.data], laidTests := true, laidLooks := .later }
def FnExactEncodeUptoCardSaid : Prop := Claim7.holds Tryd.pinned (.plain (OpenSpec.upto fnExactEncodeSpec)) fnExactEncodeUptoCard

/-- THE SECOND FORM's CARD OF 'laws.FnExactListing'. -/
def fnExactListingUptoCard : Claim7 := { stood := { row := fnExactListingUptoRow, standIns := [], harness := (true, "e40f8c54fe192a8726cc8ac02fc1ac2037f7c6b50416461a18b31407e1c9e8fb"), looks := true }, kinds := [], alts := [], laidByText := true, laidKinds := [.data, .data, .data, .listed, .data, .data], laidTests := true, laidLooks := .later }
def FnExactListingUptoCardSaid : Prop := Claim7.holds Tryd.pinned (.plain (OpenSpec.upto fnExactListingSpec)) fnExactListingUptoCard
end Rows
end Go.Proofs.YtdonkjepjobhnaaDoor
