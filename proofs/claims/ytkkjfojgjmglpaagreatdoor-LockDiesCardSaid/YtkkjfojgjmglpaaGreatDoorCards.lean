/-
  DERIVED. GIVEN WITH THE SEED: THE CARDS: each row of YtkkjfojgjmglpaaGreatDoorRows.lean that lists a variable, with what it lists TIED to the program's text (the seventh form; the later family's looks); each row that meets fmt, with fmt's text TOLD by the authors' own Lean function (tested against real Go, not proved from fmt's source: count such statements apart). THE CARD IS WHAT COUNTS. Prove the row's statement (the work); the ties are given (YtkkjfojgjmglpaaGreatDoorTie.lean); close each card by the builder's one call (the guide's Derived/Test/ToyasCard.lean, 'card_holds'). Laid BY PROGRAM, IN A SANDBOX (cutbox-door.mjs). By AI agents, Wed Nov 11 2026. No macro, syntax, notation, axiom, sorry.
-/
import Derived.Test.YtkkjfojgjmglpaaGreatDoorRows
import GoSem.ClaimSeven
namespace Go.Proofs.YtkkjfojgjmglpaaGreatDoor
namespace Rows

/-- THE TIED CARD OF 'hypogeumlaw13.IndexWrites'. -/
def indexWritesCard : Claim7 := { stood := { row := indexWritesRow, standIns := [], harness := (true, "9c83dda32252f958501f65c97ae845d94fcf8785a8a22c39c3702216d35f2a7e"), looks := false }, kinds := [], alts := [], laidByText := true, laidKinds := [.data, .data, .data, .pinned], laidTests := true, laidLooks := .later }
def IndexWritesCardSaid : Prop := Claim7.holds Tryz.pinned (.plain (OpenSpec.ofChange indexWritesSpec)) indexWritesCard

/-- THE TIED CARD OF 'hypogeumlaw18.LogFolds'. -/
def logFoldsCard : Claim7 := { stood := { row := logFoldsRow, standIns := [], harness := (true, "9c83dda32252f958501f65c97ae845d94fcf8785a8a22c39c3702216d35f2a7e"), looks := false }, kinds := [], alts := [], laidByText := true, laidKinds := [.data, .data, .data, .data, .data, .data, .pinned], laidTests := true, laidLooks := .later }
def LogFoldsCardSaid : Prop := Claim7.holds Tryz.pinned (.plain (OpenSpec.ofChange logFoldsSpec)) logFoldsCard

/-- THE TIED CARD OF 'hypogeumlaw18.LogTwo'. -/
def logTwoCard : Claim7 := { stood := { row := logTwoRow, standIns := [], harness := (true, "9c83dda32252f958501f65c97ae845d94fcf8785a8a22c39c3702216d35f2a7e"), looks := false }, kinds := [], alts := [], laidByText := true, laidKinds := [.data, .data, .data, .data, .data, .data, .pinned], laidTests := true, laidLooks := .later }
def LogTwoCardSaid : Prop := Claim7.holds Tryz.pinned (.plain (OpenSpec.ofChange logTwoSpec)) logTwoCard

/-- THE TIED CARD OF 'hypogeumlaw14.LockNews'. -/
def lockNewsCard : Claim7 := { stood := { row := lockNewsRow, standIns := [], harness := (true, "9c83dda32252f958501f65c97ae845d94fcf8785a8a22c39c3702216d35f2a7e"), looks := false }, kinds := [], alts := [], laidByText := true, laidKinds := [.data, .data, .data, .data, .data, .data, .pinned], laidTests := true, laidLooks := .later }
def LockNewsCardSaid : Prop := Claim7.holds Tryz.pinned (.plain (OpenSpec.ofChange lockNewsSpec)) lockNewsCard

/-- THE TIED CARD OF 'hypogeumlaw14.LockRaces'. -/
def lockRacesCard : Claim7 := { stood := { row := lockRacesRow, standIns := [], harness := (true, "9c83dda32252f958501f65c97ae845d94fcf8785a8a22c39c3702216d35f2a7e"), looks := false }, kinds := [], alts := [], laidByText := true, laidKinds := [.data, .data, .data, .data, .data, .data, .pinned], laidTests := true, laidLooks := .later }
def LockRacesCardSaid : Prop := Claim7.holds Tryz.pinned (.plain (OpenSpec.ofChange lockRacesSpec)) lockRacesCard

/-- THE TIED CARD OF 'hypogeumlaw14.LockRenews'. -/
def lockRenewsCard : Claim7 := { stood := { row := lockRenewsRow, standIns := [], harness := (true, "9c83dda32252f958501f65c97ae845d94fcf8785a8a22c39c3702216d35f2a7e"), looks := false }, kinds := [], alts := [], laidByText := true, laidKinds := [.data, .data, .data, .data, .data, .data, .pinned], laidTests := true, laidLooks := .later }
def LockRenewsCardSaid : Prop := Claim7.holds Tryz.pinned (.plain (OpenSpec.ofChange lockRenewsSpec)) lockRenewsCard

/-- THE TIED CARD OF 'hypogeumlaw14.LockDies'. -/
def lockDiesCard : Claim7 := { stood := { row := lockDiesRow, standIns := [], harness := (true, "9c83dda32252f958501f65c97ae845d94fcf8785a8a22c39c3702216d35f2a7e"), looks := false }, kinds := [], alts := [], laidByText := true, laidKinds := [.data, .data, .data, .data, .data, .data, .pinned], laidTests := true, laidLooks := .later }
def LockDiesCardSaid : Prop := Claim7.holds Tryz.pinned (.plain (OpenSpec.ofChange lockDiesSpec)) lockDiesCard

/-- THE SECOND FORM's CARD OF 'hypogeumlaw13.IndexWrites'. -/
def indexWritesUptoCard : Claim7 := { stood := { row := indexWritesUptoRow, standIns := [], harness := (true, "9c83dda32252f958501f65c97ae845d94fcf8785a8a22c39c3702216d35f2a7e"), looks := false }, kinds := [], alts := [], laidByText := true, laidKinds := [.data, .data, .data, .pinned], laidTests := true, laidLooks := .later }
def IndexWritesUptoCardSaid : Prop := Claim7.holds Tryz.pinned (.plain (OpenSpec.upto indexWritesSpec)) indexWritesUptoCard

/-- THE SECOND FORM's CARD OF 'hypogeumlaw18.LogFolds'. -/
def logFoldsUptoCard : Claim7 := { stood := { row := logFoldsUptoRow, standIns := [], harness := (true, "9c83dda32252f958501f65c97ae845d94fcf8785a8a22c39c3702216d35f2a7e"), looks := false }, kinds := [], alts := [], laidByText := true, laidKinds := [.data, .data, .data, .data, .data, .data, .pinned], laidTests := true, laidLooks := .later }
def LogFoldsUptoCardSaid : Prop := Claim7.holds Tryz.pinned (.plain (OpenSpec.upto logFoldsSpec)) logFoldsUptoCard

/-- THE SECOND FORM's CARD OF 'hypogeumlaw18.LogTwo'. -/
def logTwoUptoCard : Claim7 := { stood := { row := logTwoUptoRow, standIns := [], harness := (true, "9c83dda32252f958501f65c97ae845d94fcf8785a8a22c39c3702216d35f2a7e"), looks := false }, kinds := [], alts := [], laidByText := true, laidKinds := [.data, .data, .data, .data, .data, .data, .pinned], laidTests := true, laidLooks := .later }
def LogTwoUptoCardSaid : Prop := Claim7.holds Tryz.pinned (.plain (OpenSpec.upto logTwoSpec)) logTwoUptoCard

/-- THE SECOND FORM's CARD OF 'hypogeumlaw14.LockNews'. -/
def lockNewsUptoCard : Claim7 := { stood := { row := lockNewsUptoRow, standIns := [], harness := (true, "9c83dda32252f958501f65c97ae845d94fcf8785a8a22c39c3702216d35f2a7e"), looks := false }, kinds := [], alts := [], laidByText := true, laidKinds := [.data, .data, .data, .data, .data, .data, .pinned], laidTests := true, laidLooks := .later }
def LockNewsUptoCardSaid : Prop := Claim7.holds Tryz.pinned (.plain (OpenSpec.upto lockNewsSpec)) lockNewsUptoCard

/-- THE SECOND FORM's CARD OF 'hypogeumlaw14.LockRaces'. -/
def lockRacesUptoCard : Claim7 := { stood := { row := lockRacesUptoRow, standIns := [], harness := (true, "9c83dda32252f958501f65c97ae845d94fcf8785a8a22c39c3702216d35f2a7e"), looks := false }, kinds := [], alts := [], laidByText := true, laidKinds := [.data, .data, .data, .data, .data, .data, .pinned], laidTests := true, laidLooks := .later }
def LockRacesUptoCardSaid : Prop := Claim7.holds Tryz.pinned (.plain (OpenSpec.upto lockRacesSpec)) lockRacesUptoCard

/-- THE SECOND FORM's CARD OF 'hypogeumlaw14.LockRenews'. -/
def lockRenewsUptoCard : Claim7 := { stood := { row := lockRenewsUptoRow, standIns := [], harness := (true, "9c83dda32252f958501f65c97ae845d94fcf8785a8a22c39c3702216d35f2a7e"), looks := false }, kinds := [], alts := [], laidByText := true, laidKinds := [.data, .data, .data, .data, .data, .data, .pinned], laidTests := true, laidLooks := .later }
def LockRenewsUptoCardSaid : Prop := Claim7.holds Tryz.pinned (.plain (OpenSpec.upto lockRenewsSpec)) lockRenewsUptoCard

/-- THE SECOND FORM's CARD OF 'hypogeumlaw14.LockDies'. -/
def lockDiesUptoCard : Claim7 := { stood := { row := lockDiesUptoRow, standIns := [], harness := (true, "9c83dda32252f958501f65c97ae845d94fcf8785a8a22c39c3702216d35f2a7e"), looks := false }, kinds := [], alts := [], laidByText := true, laidKinds := [.data, .data, .data, .data, .data, .data, .pinned], laidTests := true, laidLooks := .later }
def LockDiesUptoCardSaid : Prop := Claim7.holds Tryz.pinned (.plain (OpenSpec.upto lockDiesSpec)) lockDiesUptoCard
end Rows
end Go.Proofs.YtkkjfojgjmglpaaGreatDoor
