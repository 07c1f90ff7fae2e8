/-
  DERIVED. GIVEN WITH THE SEED: THE CARDS: each row of YtnhpghhibcdklaaGreatDoorRows.lean that lists a variable, with what it lists TIED to the program's text (the seventh form; the later family's looks); each row that meets fmt, with fmt's text TOLD by the authors' own Lean function (tested against real Go, not proved from fmt's source: count such statements apart). THE CARD IS WHAT COUNTS. Prove the row's statement (the work); the ties are given (YtnhpghhibcdklaaGreatDoorTie.lean); close each card by the builder's one call (the guide's Derived/Test/ToyasCard.lean, 'card_holds'). Laid BY PROGRAM, IN A SANDBOX (cutbox-door.mjs). By AI agents, Wed Nov 11 2026. No macro, syntax, notation, axiom, sorry.
-/
import Derived.Test.YtnhpghhibcdklaaGreatDoorRows
import GoSem.ClaimSeven
namespace Go.Proofs.YtnhpghhibcdklaaGreatDoor
namespace Rows

/-- THE TIED CARD OF 'hypogeumlaw18.LogAdds'. -/
def logAddsCard : Claim7 := { stood := { row := logAddsRow, standIns := [], harness := (true, "cdea4fdf232e8f626af9368f320070bd671902311d3f002fefd496fa618822c2"), looks := false }, kinds := [], alts := [], laidByText := true, laidKinds := [.data, .data, .data, .data, .data, .data, .pinned], laidTests := true, laidLooks := .later }
def LogAddsCardSaid : Prop := Claim7.holds Tryz.pinned (.plain (OpenSpec.ofChange logAddsSpec)) logAddsCard

/-- THE TIED CARD OF 'hypogeumlaw18.LogCrashes'. -/
def logCrashesCard : Claim7 := { stood := { row := logCrashesRow, standIns := [], harness := (true, "cdea4fdf232e8f626af9368f320070bd671902311d3f002fefd496fa618822c2"), looks := false }, kinds := [], alts := [], laidByText := true, laidKinds := [.data, .data, .data, .data, .data, .data, .pinned], laidTests := true, laidLooks := .later }
def LogCrashesCardSaid : Prop := Claim7.holds Tryz.pinned (.plain (OpenSpec.ofChange logCrashesSpec)) logCrashesCard

/-- THE TIED CARD OF 'hypogeumlaw16.VaultPrints'. -/
def vaultPrintsCard : Claim7 := { stood := { row := vaultPrintsRow, standIns := [], harness := (true, "cdea4fdf232e8f626af9368f320070bd671902311d3f002fefd496fa618822c2"), looks := false }, kinds := [], alts := [], laidByText := true, laidKinds := [.data, .data, .data, .pinned], laidTests := true, laidLooks := .later }
def VaultPrintsCardSaid : Prop := Claim7.holds Tryz.pinned (.plain (OpenSpec.ofChange vaultPrintsSpec)) vaultPrintsCard

/-- THE TIED CARD OF 'hypogeumlaw17.SaveWide'. -/
def saveWideCard : Claim7 := { stood := { row := saveWideRow, standIns := [], harness := (true, "cdea4fdf232e8f626af9368f320070bd671902311d3f002fefd496fa618822c2"), looks := false }, kinds := [], alts := [], laidByText := true, laidKinds := [.data, .data, .data, .pinned], laidTests := true, laidLooks := .later }
def SaveWideCardSaid : Prop := Claim7.holds Tryz.pinned (.plain (OpenSpec.ofChange saveWideSpec)) saveWideCard

/-- THE TIED CARD OF 'hypogeumlaw19.MarkJoins'. -/
def markJoinsCard : Claim7 := { stood := { row := markJoinsRow, standIns := [], harness := (true, "cdea4fdf232e8f626af9368f320070bd671902311d3f002fefd496fa618822c2"), looks := false }, kinds := [], alts := [], laidByText := true, laidKinds := [.data, .data, .data, .pinned], laidTests := true, laidLooks := .later }
def MarkJoinsCardSaid : Prop := Claim7.holds Tryz.pinned (.plain (OpenSpec.ofChange markJoinsSpec)) markJoinsCard

/-- THE SECOND FORM's CARD OF 'hypogeumlaw18.LogAdds'. -/
def logAddsUptoCard : Claim7 := { stood := { row := logAddsUptoRow, standIns := [], harness := (true, "cdea4fdf232e8f626af9368f320070bd671902311d3f002fefd496fa618822c2"), looks := false }, kinds := [], alts := [], laidByText := true, laidKinds := [.data, .data, .data, .data, .data, .data, .pinned], laidTests := true, laidLooks := .later }
def LogAddsUptoCardSaid : Prop := Claim7.holds Tryz.pinned (.plain (OpenSpec.upto logAddsSpec)) logAddsUptoCard

/-- THE SECOND FORM's CARD OF 'hypogeumlaw18.LogCrashes'. -/
def logCrashesUptoCard : Claim7 := { stood := { row := logCrashesUptoRow, standIns := [], harness := (true, "cdea4fdf232e8f626af9368f320070bd671902311d3f002fefd496fa618822c2"), looks := false }, kinds := [], alts := [], laidByText := true, laidKinds := [.data, .data, .data, .data, .data, .data, .pinned], laidTests := true, laidLooks := .later }
def LogCrashesUptoCardSaid : Prop := Claim7.holds Tryz.pinned (.plain (OpenSpec.upto logCrashesSpec)) logCrashesUptoCard

/-- THE SECOND FORM's CARD OF 'hypogeumlaw16.VaultPrints'. -/
def vaultPrintsUptoCard : Claim7 := { stood := { row := vaultPrintsUptoRow, standIns := [], harness := (true, "cdea4fdf232e8f626af9368f320070bd671902311d3f002fefd496fa618822c2"), looks := false }, kinds := [], alts := [], laidByText := true, laidKinds := [.data, .data, .data, .pinned], laidTests := true, laidLooks := .later }
def VaultPrintsUptoCardSaid : Prop := Claim7.holds Tryz.pinned (.plain (OpenSpec.upto vaultPrintsSpec)) vaultPrintsUptoCard

/-- THE SECOND FORM's CARD OF 'hypogeumlaw17.SaveWide'. -/
def saveWideUptoCard : Claim7 := { stood := { row := saveWideUptoRow, standIns := [], harness := (true, "cdea4fdf232e8f626af9368f320070bd671902311d3f002fefd496fa618822c2"), looks := false }, kinds := [], alts := [], laidByText := true, laidKinds := [.data, .data, .data, .pinned], laidTests := true, laidLooks := .later }
def SaveWideUptoCardSaid : Prop := Claim7.holds Tryz.pinned (.plain (OpenSpec.upto saveWideSpec)) saveWideUptoCard

/-- THE SECOND FORM's CARD OF 'hypogeumlaw19.MarkJoins'. -/
def markJoinsUptoCard : Claim7 := { stood := { row := markJoinsUptoRow, standIns := [], harness := (true, "cdea4fdf232e8f626af9368f320070bd671902311d3f002fefd496fa618822c2"), looks := false }, kinds := [], alts := [], laidByText := true, laidKinds := [.data, .data, .data, .pinned], laidTests := true, laidLooks := .later }
def MarkJoinsUptoCardSaid : Prop := Claim7.holds Tryz.pinned (.plain (OpenSpec.upto markJoinsSpec)) markJoinsUptoCard
end Rows
end Go.Proofs.YtnhpghhibcdklaaGreatDoor
