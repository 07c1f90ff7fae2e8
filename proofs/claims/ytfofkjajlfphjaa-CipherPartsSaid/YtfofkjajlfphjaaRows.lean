/-
  No cell of these rows narrows 'for every input' (looked for: loops, veiled, ifaces, maps, wideKeys, modest, calm, conditions, laid).
  DERIVED. THE GIVEN ROWS OF THIS SEAT. 6 by the template 'for every input the law returns true; each argument reads behind the call as it read before'; 0 by the template 'total and deterministic' (their statements: YtfofkjajlfphjaaTotals.lean).
  GIVEN WITH THE SEED: the statements are not yours to turn. If you find one false, say at which input.
  Laid BY PROGRAM, IN A SANDBOX (cutbox-rows.mjs): the forced cells as the released guide's own fill.sh prints them over the translation 0c14f8fc801b3fe2… (all of the seat's roots in one cut). By AI agents, Wed Nov 11 2026. No macro, syntax, notation, axiom, sorry.
-/
import Derived.Test.YtfofkjajlfphjaaChecked
import GoSem.Claim
import GoSem.ClaimJoined
import GoSem.ClaimMapViews
import Derived.JoinedTies
import Derived.KernelRfl
namespace Go.Proofs.Ytfofkjajlfphjaa
/- THE CELL 'sum', in the pinned program and in every row, IS THE sha256 OF THE DUMP (.gsa) THAT YtfofkjajlfphjaaProg.lean LOADS. Nothing in Lean hashes anything: it is a label: what it is worth is what the hold of that sum in a sandbox is worth. -/
noncomputable def Try.pinned : Pinned := { name := "ytfofkjajlfphjaa", sum := "0c14f8fc801b3fe23b82bf00be9a40dacfe0631ff54185d4d33e592a61e5cd05", checked := Try.checked }
namespace Rows
def none {H : Type} : Left H := { results := [], args := [] }

/-- 'hypogeumlaw02.CipherTurns': WHATEVER THE INPUT: true; the input reads as it did. -/
def cipherTurnsSpec : ChangeSpec := { name := "cipherTurns", fn := fun _ => fun
  | [d1, d2] => { results := [.lit (.bool true)], args := [d1, d2] }
  | _ => none }
def cipherTurnsRow : OpenClaim := { program := "ytfofkjajlfphjaa", sum := "0c14f8fc801b3fe23b82bf00be9a40dacfe0631ff54185d4d33e592a61e5cd05", func := "hypogeum/hypogeumlaw02.CipherTurns", spec := "cipherTurns", apart := false }
def CipherTurnsSaid : Prop := cipherTurnsRow.holds Try.pinned (OpenSpec.ofChange cipherTurnsSpec)

/-- ITS FALSE NEIGHBOUR: 'it returns false'. Refute it at one input. -/
def cipherTurnsWrong : ChangeSpec := { name := "cipherTurns", fn := fun _ => fun
  | [d1, d2] => { results := [.lit (.bool false)], args := [d1, d2] }
  | _ => none }
def CipherTurnsWrongFalsely : Prop := cipherTurnsRow.holds Try.pinned (OpenSpec.ofChange cipherTurnsWrong)

/-- 'hypogeumlaw02.CipherBlocks': WHATEVER THE INPUT: true; the input reads as it did. -/
def cipherBlocksSpec : ChangeSpec := { name := "cipherBlocks", fn := fun _ => fun
  | [d1, d2] => { results := [.lit (.bool true)], args := [d1, d2] }
  | _ => none }
def cipherBlocksRow : OpenClaim := { program := "ytfofkjajlfphjaa", sum := "0c14f8fc801b3fe23b82bf00be9a40dacfe0631ff54185d4d33e592a61e5cd05", func := "hypogeum/hypogeumlaw02.CipherBlocks", spec := "cipherBlocks", apart := false }
def CipherBlocksSaid : Prop := cipherBlocksRow.holds Try.pinned (OpenSpec.ofChange cipherBlocksSpec)

/-- ITS FALSE NEIGHBOUR: 'it returns false'. Refute it at one input. -/
def cipherBlocksWrong : ChangeSpec := { name := "cipherBlocks", fn := fun _ => fun
  | [d1, d2] => { results := [.lit (.bool false)], args := [d1, d2] }
  | _ => none }
def CipherBlocksWrongFalsely : Prop := cipherBlocksRow.holds Try.pinned (OpenSpec.ofChange cipherBlocksWrong)

/-- 'hypogeumlaw02.CipherRounds': WHATEVER THE INPUT: true; the input reads as it did. -/
def cipherRoundsSpec : ChangeSpec := { name := "cipherRounds", fn := fun _ => fun
  | [d1, d2] => { results := [.lit (.bool true)], args := [d1, d2] }
  | _ => none }
def cipherRoundsRow : OpenClaim := { program := "ytfofkjajlfphjaa", sum := "0c14f8fc801b3fe23b82bf00be9a40dacfe0631ff54185d4d33e592a61e5cd05", func := "hypogeum/hypogeumlaw02.CipherRounds", spec := "cipherRounds", apart := false }
def CipherRoundsSaid : Prop := cipherRoundsRow.holds Try.pinned (OpenSpec.ofChange cipherRoundsSpec)

/-- ITS FALSE NEIGHBOUR: 'it returns false'. Refute it at one input. -/
def cipherRoundsWrong : ChangeSpec := { name := "cipherRounds", fn := fun _ => fun
  | [d1, d2] => { results := [.lit (.bool false)], args := [d1, d2] }
  | _ => none }
def CipherRoundsWrongFalsely : Prop := cipherRoundsRow.holds Try.pinned (OpenSpec.ofChange cipherRoundsWrong)

/-- 'hypogeumlaw02.CipherSizes': WHATEVER THE INPUT: true; the input reads as it did. -/
def cipherSizesSpec : ChangeSpec := { name := "cipherSizes", fn := fun _ => fun
  | [d1, d2] => { results := [.lit (.bool true)], args := [d1, d2] }
  | _ => none }
def cipherSizesRow : OpenClaim := { program := "ytfofkjajlfphjaa", sum := "0c14f8fc801b3fe23b82bf00be9a40dacfe0631ff54185d4d33e592a61e5cd05", func := "hypogeum/hypogeumlaw02.CipherSizes", spec := "cipherSizes", apart := false }
def CipherSizesSaid : Prop := cipherSizesRow.holds Try.pinned (OpenSpec.ofChange cipherSizesSpec)

/-- ITS FALSE NEIGHBOUR: 'it returns false'. Refute it at one input. -/
def cipherSizesWrong : ChangeSpec := { name := "cipherSizes", fn := fun _ => fun
  | [d1, d2] => { results := [.lit (.bool false)], args := [d1, d2] }
  | _ => none }
def CipherSizesWrongFalsely : Prop := cipherSizesRow.holds Try.pinned (OpenSpec.ofChange cipherSizesWrong)

/-- 'hypogeumlaw02.CipherFlows': WHATEVER THE INPUT: true; the input reads as it did. -/
def cipherFlowsSpec : ChangeSpec := { name := "cipherFlows", fn := fun _ => fun
  | [d] => { results := [.lit (.bool true)], args := [d] }
  | _ => none }
def cipherFlowsRow : OpenClaim := { program := "ytfofkjajlfphjaa", sum := "0c14f8fc801b3fe23b82bf00be9a40dacfe0631ff54185d4d33e592a61e5cd05", func := "hypogeum/hypogeumlaw02.CipherFlows", spec := "cipherFlows", apart := false }
def CipherFlowsSaid : Prop := cipherFlowsRow.holds Try.pinned (OpenSpec.ofChange cipherFlowsSpec)

/-- ITS FALSE NEIGHBOUR: 'it returns false'. Refute it at one input. -/
def cipherFlowsWrong : ChangeSpec := { name := "cipherFlows", fn := fun _ => fun
  | [d] => { results := [.lit (.bool false)], args := [d] }
  | _ => none }
def CipherFlowsWrongFalsely : Prop := cipherFlowsRow.holds Try.pinned (OpenSpec.ofChange cipherFlowsWrong)

/-- 'hypogeumlaw02.CipherParts': WHATEVER THE INPUT: true; the input reads as it did. -/
def cipherPartsSpec : ChangeSpec := { name := "cipherParts", fn := fun _ => fun
  | [d1, d2] => { results := [.lit (.bool true)], args := [d1, d2] }
  | _ => none }
def cipherPartsRow : OpenClaim := { program := "ytfofkjajlfphjaa", sum := "0c14f8fc801b3fe23b82bf00be9a40dacfe0631ff54185d4d33e592a61e5cd05", func := "hypogeum/hypogeumlaw02.CipherParts", spec := "cipherParts", apart := false }
def CipherPartsSaid : Prop := cipherPartsRow.holds Try.pinned (OpenSpec.ofChange cipherPartsSpec)

/-- ITS FALSE NEIGHBOUR: 'it returns false'. Refute it at one input. -/
def cipherPartsWrong : ChangeSpec := { name := "cipherParts", fn := fun _ => fun
  | [d1, d2] => { results := [.lit (.bool false)], args := [d1, d2] }
  | _ => none }
def CipherPartsWrongFalsely : Prop := cipherPartsRow.holds Try.pinned (OpenSpec.ofChange cipherPartsWrong)

/- THE SECOND FORM. 'bulk': how many values and letters a reading holds, each counted each time it is reached (what is shared counts as often as it is met; a slice's spare places count too). A statement '..UptoSaid' is the law's where the arguments, and the package variables that the reading takes, are together of bulk at most 1048576: NARROWER than '..Said'. Prove '..Said' where nothing that the law and all that it calls make is longer than what came in: it says more and counts as full. Else prove '..UptoSaid'. A law counts once. -/
mutual
def uptoBulk {H : Type} : DataW H → Nat
  | .lit (.string bytes) => bytes.length + 1
  | .lit _ => 1
  | .nil => 1
  | .ptr d => uptoBulk d + 1
  | .slice elems spare => uptoBulkAll elems + uptoBulkAll spare + 1
  | .agg parts => uptoBulkAll parts + 1
  | .iface _ d => uptoBulk d + 1
  | .map entries => uptoBulkEntries entries + 1
  | .held _ => 1
def uptoBulkAll {H : Type} : List (DataW H) → Nat
  | [] => 0
  | d :: r => uptoBulk d + uptoBulkAll r
def uptoBulkEntries {H : Type} : List (Lit × DataW H) → Nat
  | [] => 0
  | x :: r => uptoBulkEntry x + uptoBulkEntries r
def uptoBulkEntry {H : Type} : Lit × DataW H → Nat
  | (.string bytes, d) => bytes.length + uptoBulk d + 1
  | (_, d) => uptoBulk d + 1
 end
def uptoSmall : (H : Type) → List (DataW H) → Bool := fun _ ds => decide (uptoBulkAll ds ≤ 1048576)
def OpenSpec.upto (s : _root_.Go.ChangeSpec) : _root_.Go.OpenSpec := { _root_.Go.OpenSpec.ofChange s with cond := some uptoSmall }

/-- 'hypogeumlaw02.CipherTurns', WHERE WHAT IT READS IS OF BULK AT MOST 1048576: true; the input reads as it did. -/
def cipherTurnsUptoRow : OpenClaim := { program := "ytfofkjajlfphjaa", sum := "0c14f8fc801b3fe23b82bf00be9a40dacfe0631ff54185d4d33e592a61e5cd05", func := "hypogeum/hypogeumlaw02.CipherTurns", spec := "cipherTurns", apart := false, narrowed := true }
def CipherTurnsUptoSaid : Prop := cipherTurnsUptoRow.holds Try.pinned (OpenSpec.upto cipherTurnsSpec)

/-- 'hypogeumlaw02.CipherBlocks', WHERE WHAT IT READS IS OF BULK AT MOST 1048576: true; the input reads as it did. -/
def cipherBlocksUptoRow : OpenClaim := { program := "ytfofkjajlfphjaa", sum := "0c14f8fc801b3fe23b82bf00be9a40dacfe0631ff54185d4d33e592a61e5cd05", func := "hypogeum/hypogeumlaw02.CipherBlocks", spec := "cipherBlocks", apart := false, narrowed := true }
def CipherBlocksUptoSaid : Prop := cipherBlocksUptoRow.holds Try.pinned (OpenSpec.upto cipherBlocksSpec)

/-- 'hypogeumlaw02.CipherRounds', WHERE WHAT IT READS IS OF BULK AT MOST 1048576: true; the input reads as it did. -/
def cipherRoundsUptoRow : OpenClaim := { program := "ytfofkjajlfphjaa", sum := "0c14f8fc801b3fe23b82bf00be9a40dacfe0631ff54185d4d33e592a61e5cd05", func := "hypogeum/hypogeumlaw02.CipherRounds", spec := "cipherRounds", apart := false, narrowed := true }
def CipherRoundsUptoSaid : Prop := cipherRoundsUptoRow.holds Try.pinned (OpenSpec.upto cipherRoundsSpec)

/-- 'hypogeumlaw02.CipherSizes', WHERE WHAT IT READS IS OF BULK AT MOST 1048576: true; the input reads as it did. -/
def cipherSizesUptoRow : OpenClaim := { program := "ytfofkjajlfphjaa", sum := "0c14f8fc801b3fe23b82bf00be9a40dacfe0631ff54185d4d33e592a61e5cd05", func := "hypogeum/hypogeumlaw02.CipherSizes", spec := "cipherSizes", apart := false, narrowed := true }
def CipherSizesUptoSaid : Prop := cipherSizesUptoRow.holds Try.pinned (OpenSpec.upto cipherSizesSpec)

/-- 'hypogeumlaw02.CipherFlows', WHERE WHAT IT READS IS OF BULK AT MOST 1048576: true; the input reads as it did. -/
def cipherFlowsUptoRow : OpenClaim := { program := "ytfofkjajlfphjaa", sum := "0c14f8fc801b3fe23b82bf00be9a40dacfe0631ff54185d4d33e592a61e5cd05", func := "hypogeum/hypogeumlaw02.CipherFlows", spec := "cipherFlows", apart := false, narrowed := true }
def CipherFlowsUptoSaid : Prop := cipherFlowsUptoRow.holds Try.pinned (OpenSpec.upto cipherFlowsSpec)

/-- 'hypogeumlaw02.CipherParts', WHERE WHAT IT READS IS OF BULK AT MOST 1048576: true; the input reads as it did. -/
def cipherPartsUptoRow : OpenClaim := { program := "ytfofkjajlfphjaa", sum := "0c14f8fc801b3fe23b82bf00be9a40dacfe0631ff54185d4d33e592a61e5cd05", func := "hypogeum/hypogeumlaw02.CipherParts", spec := "cipherParts", apart := false, narrowed := true }
def CipherPartsUptoSaid : Prop := cipherPartsUptoRow.holds Try.pinned (OpenSpec.upto cipherPartsSpec)

end Rows
end Go.Proofs.Ytfofkjajlfphjaa
