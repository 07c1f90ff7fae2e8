/-
  DERIVED. GIVEN WITH THE SEED: THE CARDS: each row of YtfofkjajlfphjaaDoorRows.lean that lists a variable, with what it lists TIED to the program's text (the seventh form; the later family's looks); each row that meets fmt, with fmt's text TOLD by the authors' own Lean function (tested against real Go, not proved from fmt's source: count such statements apart). THE CARD IS WHAT COUNTS. Prove the row's statement (the work); the ties are given (YtfofkjajlfphjaaDoorTie.lean); close each card by the builder's one call (the guide's Derived/Test/ToyasCard.lean, 'card_holds'). Laid BY PROGRAM, IN A SANDBOX (cutbox-door.mjs). By AI agents, Wed Nov 11 2026. No macro, syntax, notation, axiom, sorry.
-/
import Derived.Test.YtfofkjajlfphjaaDoorRows
import GoSem.ClaimSeven
namespace Go.Proofs.YtfofkjajlfphjaaDoor
namespace Rows

/-- THE TIED CARD OF 'hypogeumlaw10.WaxSeals'. -/
def waxSealsCard : Claim7 := { stood := { row := waxSealsRow, standIns := [], harness := (true, "77f3ccb3c5c36ad29df675c2a6a6cc35587ebc85bd5d164c0302a0a830305f7a"), looks := false }, kinds := [], alts := [], laidByText := true, laidKinds := [.data, .data], laidTests := true, laidLooks := .later }
def WaxSealsCardSaid : Prop := Claim7.holds Tryd.pinned (.plain (OpenSpec.ofChange waxSealsSpec)) waxSealsCard

/-- THE TIED CARD OF 'hypogeumlaw10.WaxOpens'. -/
def waxOpensCard : Claim7 := { stood := { row := waxOpensRow, standIns := [], harness := (true, "77f3ccb3c5c36ad29df675c2a6a6cc35587ebc85bd5d164c0302a0a830305f7a"), looks := false }, kinds := [], alts := [], laidByText := true, laidKinds := [.data, .data], laidTests := true, laidLooks := .later }
def WaxOpensCardSaid : Prop := Claim7.holds Tryd.pinned (.plain (OpenSpec.ofChange waxOpensSpec)) waxOpensCard

/-- THE TIED CARD OF 'hypogeumlaw10.WaxBack'. -/
def waxBackCard : Claim7 := { stood := { row := waxBackRow, standIns := [], harness := (true, "77f3ccb3c5c36ad29df675c2a6a6cc35587ebc85bd5d164c0302a0a830305f7a"), looks := false }, kinds := [], alts := [], laidByText := true, laidKinds := [.data, .data], laidTests := true, laidLooks := .later }
def WaxBackCardSaid : Prop := Claim7.holds Tryd.pinned (.plain (OpenSpec.ofChange waxBackSpec)) waxBackCard

/-- THE TIED CARD OF 'hypogeumlaw10.WaxBounds'. -/
def waxBoundsCard : Claim7 := { stood := { row := waxBoundsRow, standIns := [], harness := (true, "77f3ccb3c5c36ad29df675c2a6a6cc35587ebc85bd5d164c0302a0a830305f7a"), looks := false }, kinds := [], alts := [], laidByText := true, laidKinds := [.data, .data], laidTests := true, laidLooks := .later }
def WaxBoundsCardSaid : Prop := Claim7.holds Tryd.pinned (.plain (OpenSpec.ofChange waxBoundsSpec)) waxBoundsCard

/-- THE TIED CARD OF 'hypogeumlaw10.WaxLengths'. -/
def waxLengthsCard : Claim7 := { stood := { row := waxLengthsRow, standIns := [], harness := (true, "77f3ccb3c5c36ad29df675c2a6a6cc35587ebc85bd5d164c0302a0a830305f7a"), looks := false }, kinds := [], alts := [], laidByText := true, laidKinds := [.data, .data], laidTests := true, laidLooks := .later }
def WaxLengthsCardSaid : Prop := Claim7.holds Tryd.pinned (.plain (OpenSpec.ofChange waxLengthsSpec)) waxLengthsCard

/-- THE TIED CARD OF 'hypogeumlaw11.KeyTapes'. -/
def keyTapesCard : Claim7 := { stood := { row := keyTapesRow, standIns := [], harness := (true, "77f3ccb3c5c36ad29df675c2a6a6cc35587ebc85bd5d164c0302a0a830305f7a"), looks := false }, kinds := [], alts := [], laidByText := true, laidKinds := [.data, .data], laidTests := true, laidLooks := .later }
def KeyTapesCardSaid : Prop := Claim7.holds Tryd.pinned (.plain (OpenSpec.ofChange keyTapesSpec)) keyTapesCard

/-- THE TIED CARD OF 'hypogeumlaw11.KeyWrites'. -/
def keyWritesCard : Claim7 := { stood := { row := keyWritesRow, standIns := [], harness := (true, "77f3ccb3c5c36ad29df675c2a6a6cc35587ebc85bd5d164c0302a0a830305f7a"), looks := false }, kinds := [], alts := [], laidByText := true, laidKinds := [.data, .data], laidTests := true, laidLooks := .later }
def KeyWritesCardSaid : Prop := Claim7.holds Tryd.pinned (.plain (OpenSpec.ofChange keyWritesSpec)) keyWritesCard

/-- THE TIED CARD OF 'hypogeumlaw11.KeyHands'. -/
def keyHandsCard : Claim7 := { stood := { row := keyHandsRow, standIns := [], harness := (true, "77f3ccb3c5c36ad29df675c2a6a6cc35587ebc85bd5d164c0302a0a830305f7a"), looks := false }, kinds := [], alts := [], laidByText := true, laidKinds := [.data, .data], laidTests := true, laidLooks := .later }
def KeyHandsCardSaid : Prop := Claim7.holds Tryd.pinned (.plain (OpenSpec.ofChange keyHandsSpec)) keyHandsCard

/-- THE TIED CARD OF 'hypogeumlaw12.PackWrites'. -/
def packWritesCard : Claim7 := { stood := { row := packWritesRow, standIns := [], harness := (true, "77f3ccb3c5c36ad29df675c2a6a6cc35587ebc85bd5d164c0302a0a830305f7a"), looks := false }, kinds := [], alts := [], laidByText := true, laidKinds := [.data, .data], laidTests := true, laidLooks := .later }
def PackWritesCardSaid : Prop := Claim7.holds Tryd.pinned (.plain (OpenSpec.ofChange packWritesSpec)) packWritesCard

/-- THE TIED CARD OF 'hypogeumlaw12.PackFull'. -/
def packFullCard : Claim7 := { stood := { row := packFullRow, standIns := [], harness := (true, "77f3ccb3c5c36ad29df675c2a6a6cc35587ebc85bd5d164c0302a0a830305f7a"), looks := false }, kinds := [], alts := [], laidByText := true, laidKinds := [.data, .data], laidTests := true, laidLooks := .later }
def PackFullCardSaid : Prop := Claim7.holds Tryd.pinned (.plain (OpenSpec.ofChange packFullSpec)) packFullCard

/-- THE TIED CARD OF 'hypogeumlaw12.PackSizes'. -/
def packSizesCard : Claim7 := { stood := { row := packSizesRow, standIns := [], harness := (true, "77f3ccb3c5c36ad29df675c2a6a6cc35587ebc85bd5d164c0302a0a830305f7a"), looks := false }, kinds := [], alts := [], laidByText := true, laidKinds := [.data, .data], laidTests := true, laidLooks := .later }
def PackSizesCardSaid : Prop := Claim7.holds Tryd.pinned (.plain (OpenSpec.ofChange packSizesSpec)) packSizesCard

/-- THE TIED CARD OF 'hypogeumlaw12.PackBack'. -/
def packBackCard : Claim7 := { stood := { row := packBackRow, standIns := [], harness := (true, "77f3ccb3c5c36ad29df675c2a6a6cc35587ebc85bd5d164c0302a0a830305f7a"), looks := false }, kinds := [], alts := [], laidByText := true, laidKinds := [.data, .data], laidTests := true, laidLooks := .later }
def PackBackCardSaid : Prop := Claim7.holds Tryd.pinned (.plain (OpenSpec.ofChange packBackSpec)) packBackCard

/-- THE SECOND FORM's CARD OF 'hypogeumlaw10.WaxSeals'. -/
def waxSealsUptoCard : Claim7 := { stood := { row := waxSealsUptoRow, standIns := [], harness := (true, "77f3ccb3c5c36ad29df675c2a6a6cc35587ebc85bd5d164c0302a0a830305f7a"), looks := false }, kinds := [], alts := [], laidByText := true, laidKinds := [.data, .data], laidTests := true, laidLooks := .later }
def WaxSealsUptoCardSaid : Prop := Claim7.holds Tryd.pinned (.plain (OpenSpec.upto waxSealsSpec)) waxSealsUptoCard

/-- THE SECOND FORM's CARD OF 'hypogeumlaw10.WaxOpens'. -/
def waxOpensUptoCard : Claim7 := { stood := { row := waxOpensUptoRow, standIns := [], harness := (true, "77f3ccb3c5c36ad29df675c2a6a6cc35587ebc85bd5d164c0302a0a830305f7a"), looks := false }, kinds := [], alts := [], laidByText := true, laidKinds := [.data, .data], laidTests := true, laidLooks := .later }
def WaxOpensUptoCardSaid : Prop := Claim7.holds Tryd.pinned (.plain (OpenSpec.upto waxOpensSpec)) waxOpensUptoCard

/-- THE SECOND FORM's CARD OF 'hypogeumlaw10.WaxBack'. -/
def waxBackUptoCard : Claim7 := { stood := { row := waxBackUptoRow, standIns := [], harness := (true, "77f3ccb3c5c36ad29df675c2a6a6cc35587ebc85bd5d164c0302a0a830305f7a"), looks := false }, kinds := [], alts := [], laidByText := true, laidKinds := [.data, .data], laidTests := true, laidLooks := .later }
def WaxBackUptoCardSaid : Prop := Claim7.holds Tryd.pinned (.plain (OpenSpec.upto waxBackSpec)) waxBackUptoCard

/-- THE SECOND FORM's CARD OF 'hypogeumlaw10.WaxBounds'. -/
def waxBoundsUptoCard : Claim7 := { stood := { row := waxBoundsUptoRow, standIns := [], harness := (true, "77f3ccb3c5c36ad29df675c2a6a6cc35587ebc85bd5d164c0302a0a830305f7a"), looks := false }, kinds := [], alts := [], laidByText := true, laidKinds := [.data, .data], laidTests := true, laidLooks := .later }
def WaxBoundsUptoCardSaid : Prop := Claim7.holds Tryd.pinned (.plain (OpenSpec.upto waxBoundsSpec)) waxBoundsUptoCard

/-- THE SECOND FORM's CARD OF 'hypogeumlaw10.WaxLengths'. -/
def waxLengthsUptoCard : Claim7 := { stood := { row := waxLengthsUptoRow, standIns := [], harness := (true, "77f3ccb3c5c36ad29df675c2a6a6cc35587ebc85bd5d164c0302a0a830305f7a"), looks := false }, kinds := [], alts := [], laidByText := true, laidKinds := [.data, .data], laidTests := true, laidLooks := .later }
def WaxLengthsUptoCardSaid : Prop := Claim7.holds Tryd.pinned (.plain (OpenSpec.upto waxLengthsSpec)) waxLengthsUptoCard

/-- THE SECOND FORM's CARD OF 'hypogeumlaw11.KeyTapes'. -/
def keyTapesUptoCard : Claim7 := { stood := { row := keyTapesUptoRow, standIns := [], harness := (true, "77f3ccb3c5c36ad29df675c2a6a6cc35587ebc85bd5d164c0302a0a830305f7a"), looks := false }, kinds := [], alts := [], laidByText := true, laidKinds := [.data, .data], laidTests := true, laidLooks := .later }
def KeyTapesUptoCardSaid : Prop := Claim7.holds Tryd.pinned (.plain (OpenSpec.upto keyTapesSpec)) keyTapesUptoCard

/-- THE SECOND FORM's CARD OF 'hypogeumlaw11.KeyWrites'. -/
def keyWritesUptoCard : Claim7 := { stood := { row := keyWritesUptoRow, standIns := [], harness := (true, "77f3ccb3c5c36ad29df675c2a6a6cc35587ebc85bd5d164c0302a0a830305f7a"), looks := false }, kinds := [], alts := [], laidByText := true, laidKinds := [.data, .data], laidTests := true, laidLooks := .later }
def KeyWritesUptoCardSaid : Prop := Claim7.holds Tryd.pinned (.plain (OpenSpec.upto keyWritesSpec)) keyWritesUptoCard

/-- THE SECOND FORM's CARD OF 'hypogeumlaw11.KeyHands'. -/
def keyHandsUptoCard : Claim7 := { stood := { row := keyHandsUptoRow, standIns := [], harness := (true, "77f3ccb3c5c36ad29df675c2a6a6cc35587ebc85bd5d164c0302a0a830305f7a"), looks := false }, kinds := [], alts := [], laidByText := true, laidKinds := [.data, .data], laidTests := true, laidLooks := .later }
def KeyHandsUptoCardSaid : Prop := Claim7.holds Tryd.pinned (.plain (OpenSpec.upto keyHandsSpec)) keyHandsUptoCard

/-- THE SECOND FORM's CARD OF 'hypogeumlaw12.PackWrites'. -/
def packWritesUptoCard : Claim7 := { stood := { row := packWritesUptoRow, standIns := [], harness := (true, "77f3ccb3c5c36ad29df675c2a6a6cc35587ebc85bd5d164c0302a0a830305f7a"), looks := false }, kinds := [], alts := [], laidByText := true, laidKinds := [.data, .data], laidTests := true, laidLooks := .later }
def PackWritesUptoCardSaid : Prop := Claim7.holds Tryd.pinned (.plain (OpenSpec.upto packWritesSpec)) packWritesUptoCard

/-- THE SECOND FORM's CARD OF 'hypogeumlaw12.PackFull'. -/
def packFullUptoCard : Claim7 := { stood := { row := packFullUptoRow, standIns := [], harness := (true, "77f3ccb3c5c36ad29df675c2a6a6cc35587ebc85bd5d164c0302a0a830305f7a"), looks := false }, kinds := [], alts := [], laidByText := true, laidKinds := [.data, .data], laidTests := true, laidLooks := .later }
def PackFullUptoCardSaid : Prop := Claim7.holds Tryd.pinned (.plain (OpenSpec.upto packFullSpec)) packFullUptoCard

/-- THE SECOND FORM's CARD OF 'hypogeumlaw12.PackSizes'. -/
def packSizesUptoCard : Claim7 := { stood := { row := packSizesUptoRow, standIns := [], harness := (true, "77f3ccb3c5c36ad29df675c2a6a6cc35587ebc85bd5d164c0302a0a830305f7a"), looks := false }, kinds := [], alts := [], laidByText := true, laidKinds := [.data, .data], laidTests := true, laidLooks := .later }
def PackSizesUptoCardSaid : Prop := Claim7.holds Tryd.pinned (.plain (OpenSpec.upto packSizesSpec)) packSizesUptoCard

/-- THE SECOND FORM's CARD OF 'hypogeumlaw12.PackBack'. -/
def packBackUptoCard : Claim7 := { stood := { row := packBackUptoRow, standIns := [], harness := (true, "77f3ccb3c5c36ad29df675c2a6a6cc35587ebc85bd5d164c0302a0a830305f7a"), looks := false }, kinds := [], alts := [], laidByText := true, laidKinds := [.data, .data], laidTests := true, laidLooks := .later }
def PackBackUptoCardSaid : Prop := Claim7.holds Tryd.pinned (.plain (OpenSpec.upto packBackSpec)) packBackUptoCard
end Rows
end Go.Proofs.YtfofkjajlfphjaaDoor
