/-
  NARROWER THAN 'FOR EVERY INPUT', by the rows' own cells (each row's printed sentence says how): WaxSeals: laid · WaxOpens: laid · WaxBack: laid · WaxBounds: laid · WaxLengths: laid · KeyTapes: laid · KeyWrites: laid · KeyHands: laid · PackWrites: laid · PackFull: laid · PackSizes: laid · PackBack: laid.
  DERIVED. THE GIVEN ROWS OF THIS SEAT. 12 by the template 'for every input the law returns true; each argument reads behind the call as it read before'; 0 by the template 'total and deterministic' (their statements: YtfofkjajlfphjaaDoorTotals.lean).
  GIVEN WITH THE SEED: the statements are not yours to turn. If you find one false, say at which input.
  Laid BY PROGRAM, IN A SANDBOX (cutbox-rows.mjs): the forced cells as the released guide's own fill.sh prints them over the translation 9e5c31f5ec5d44d4… (all of the seat's roots in one cut). By AI agents, Wed Nov 11 2026. No macro, syntax, notation, axiom, sorry.
-/
import Derived.Test.YtfofkjajlfphjaaDoorChecked
import GoSem.Claim
import GoSem.ClaimJoined
import GoSem.ClaimMapViews
import Derived.JoinedTies
import Derived.KernelRfl
namespace Go.Proofs.YtfofkjajlfphjaaDoor
/- THE CELL 'sum', in the pinned program and in every row, IS THE sha256 OF THE DUMP (.gsa) THAT YtfofkjajlfphjaaDoorProg.lean LOADS. Nothing in Lean hashes anything: it is a label: what it is worth is what the hold of that sum in a sandbox is worth. -/
noncomputable def Tryd.pinned : Pinned := { name := "ytfofkjajlfphjaadoor", sum := "9e5c31f5ec5d44d4bd0cfbfff5d5e0e1b01b79d22e7317d666bb19c1782e257a", checked := Tryd.checked }
namespace Rows
def none {H : Type} : Left H := { results := [], args := [] }

/- WHAT THE LISTED PACKAGE-LEVEL VARIABLES READ AS WHEN THE CALL BEGINS. Each datum BY PROGRAM (the guide's laid-datum.mjs) off the statement by which the dump's own 'gosem.cut.vars' lays the variable. In a bare row this is a premise. The card (YtfofkjajlfphjaaDoorCards.lean) ties it to the program's text. -/
def laid_hypogeum_sum_begin {H : Type} : DataW H := .agg [.lit (.int .u32 1779033703), .lit (.int .u32 3144134277), .lit (.int .u32 1013904242), .lit (.int .u32 2773480762), .lit (.int .u32 1359893119), .lit (.int .u32 2600822924), .lit (.int .u32 528734635), .lit (.int .u32 1541459225)]
def laid_hypogeum_sum_steps {H : Type} : DataW H := .agg [.lit (.int .u32 1116352408), .lit (.int .u32 1899447441), .lit (.int .u32 3049323471), .lit (.int .u32 3921009573), .lit (.int .u32 961987163), .lit (.int .u32 1508970993), .lit (.int .u32 2453635748), .lit (.int .u32 2870763221), .lit (.int .u32 3624381080), .lit (.int .u32 310598401), .lit (.int .u32 607225278), .lit (.int .u32 1426881987), .lit (.int .u32 1925078388), .lit (.int .u32 2162078206), .lit (.int .u32 2614888103), .lit (.int .u32 3248222580), .lit (.int .u32 3835390401), .lit (.int .u32 4022224774), .lit (.int .u32 264347078), .lit (.int .u32 604807628), .lit (.int .u32 770255983), .lit (.int .u32 1249150122), .lit (.int .u32 1555081692), .lit (.int .u32 1996064986), .lit (.int .u32 2554220882), .lit (.int .u32 2821834349), .lit (.int .u32 2952996808), .lit (.int .u32 3210313671), .lit (.int .u32 3336571891), .lit (.int .u32 3584528711), .lit (.int .u32 113926993), .lit (.int .u32 338241895), .lit (.int .u32 666307205), .lit (.int .u32 773529912), .lit (.int .u32 1294757372), .lit (.int .u32 1396182291), .lit (.int .u32 1695183700), .lit (.int .u32 1986661051), .lit (.int .u32 2177026350), .lit (.int .u32 2456956037), .lit (.int .u32 2730485921), .lit (.int .u32 2820302411), .lit (.int .u32 3259730800), .lit (.int .u32 3345764771), .lit (.int .u32 3516065817), .lit (.int .u32 3600352804), .lit (.int .u32 4094571909), .lit (.int .u32 275423344), .lit (.int .u32 430227734), .lit (.int .u32 506948616), .lit (.int .u32 659060556), .lit (.int .u32 883997877), .lit (.int .u32 958139571), .lit (.int .u32 1322822218), .lit (.int .u32 1537002063), .lit (.int .u32 1747873779), .lit (.int .u32 1955562222), .lit (.int .u32 2024104815), .lit (.int .u32 2227730452), .lit (.int .u32 2361852424), .lit (.int .u32 2428436474), .lit (.int .u32 2756734187), .lit (.int .u32 3204031479), .lit (.int .u32 3329325298)]

/-- 'hypogeumlaw10.WaxSeals': WHATEVER THE INPUT: true; the input reads as it did. -/
def waxSealsSpec : ChangeSpec := { name := "waxSeals", fn := fun _ => fun
  | [d1, d2] => { results := [.lit (.bool true)], args := [d1, d2] }
  | _ => none }
def waxSealsRow : OpenClaim := { program := "ytfofkjajlfphjaadoor", sum := "9e5c31f5ec5d44d4bd0cfbfff5d5e0e1b01b79d22e7317d666bb19c1782e257a", func := "hypogeum/hypogeumlaw10.WaxSeals", spec := "waxSeals", named := ["hypogeum/sum.begin", "hypogeum/sum.steps"], plainKeys := false, apart := false, laid := [("hypogeum/sum.begin", laid_hypogeum_sum_begin), ("hypogeum/sum.steps", laid_hypogeum_sum_steps)] }
def WaxSealsSaid : Prop := waxSealsRow.holds Tryd.pinned (OpenSpec.ofChange waxSealsSpec)

/-- ITS FALSE NEIGHBOUR: 'it returns false'. Refute it at one input. -/
def waxSealsWrong : ChangeSpec := { name := "waxSeals", fn := fun _ => fun
  | [d1, d2] => { results := [.lit (.bool false)], args := [d1, d2] }
  | _ => none }
def WaxSealsWrongFalsely : Prop := waxSealsRow.holds Tryd.pinned (OpenSpec.ofChange waxSealsWrong)

/-- 'hypogeumlaw10.WaxOpens': WHATEVER THE INPUT: true; the input reads as it did. -/
def waxOpensSpec : ChangeSpec := { name := "waxOpens", fn := fun _ => fun
  | [d] => { results := [.lit (.bool true)], args := [d] }
  | _ => none }
def waxOpensRow : OpenClaim := { program := "ytfofkjajlfphjaadoor", sum := "9e5c31f5ec5d44d4bd0cfbfff5d5e0e1b01b79d22e7317d666bb19c1782e257a", func := "hypogeum/hypogeumlaw10.WaxOpens", spec := "waxOpens", named := ["hypogeum/sum.begin", "hypogeum/sum.steps"], plainKeys := false, apart := false, laid := [("hypogeum/sum.begin", laid_hypogeum_sum_begin), ("hypogeum/sum.steps", laid_hypogeum_sum_steps)] }
def WaxOpensSaid : Prop := waxOpensRow.holds Tryd.pinned (OpenSpec.ofChange waxOpensSpec)

/-- ITS FALSE NEIGHBOUR: 'it returns false'. Refute it at one input. -/
def waxOpensWrong : ChangeSpec := { name := "waxOpens", fn := fun _ => fun
  | [d] => { results := [.lit (.bool false)], args := [d] }
  | _ => none }
def WaxOpensWrongFalsely : Prop := waxOpensRow.holds Tryd.pinned (OpenSpec.ofChange waxOpensWrong)

/-- 'hypogeumlaw10.WaxBack': WHATEVER THE INPUT: true; the input reads as it did. -/
def waxBackSpec : ChangeSpec := { name := "waxBack", fn := fun _ => fun
  | [d] => { results := [.lit (.bool true)], args := [d] }
  | _ => none }
def waxBackRow : OpenClaim := { program := "ytfofkjajlfphjaadoor", sum := "9e5c31f5ec5d44d4bd0cfbfff5d5e0e1b01b79d22e7317d666bb19c1782e257a", func := "hypogeum/hypogeumlaw10.WaxBack", spec := "waxBack", named := ["hypogeum/sum.begin", "hypogeum/sum.steps"], plainKeys := false, apart := false, laid := [("hypogeum/sum.begin", laid_hypogeum_sum_begin), ("hypogeum/sum.steps", laid_hypogeum_sum_steps)] }
def WaxBackSaid : Prop := waxBackRow.holds Tryd.pinned (OpenSpec.ofChange waxBackSpec)

/-- ITS FALSE NEIGHBOUR: 'it returns false'. Refute it at one input. -/
def waxBackWrong : ChangeSpec := { name := "waxBack", fn := fun _ => fun
  | [d] => { results := [.lit (.bool false)], args := [d] }
  | _ => none }
def WaxBackWrongFalsely : Prop := waxBackRow.holds Tryd.pinned (OpenSpec.ofChange waxBackWrong)

/-- 'hypogeumlaw10.WaxBounds': WHATEVER THE INPUT: true; the input reads as it did. -/
def waxBoundsSpec : ChangeSpec := { name := "waxBounds", fn := fun _ => fun
  | [d1, d2] => { results := [.lit (.bool true)], args := [d1, d2] }
  | _ => none }
def waxBoundsRow : OpenClaim := { program := "ytfofkjajlfphjaadoor", sum := "9e5c31f5ec5d44d4bd0cfbfff5d5e0e1b01b79d22e7317d666bb19c1782e257a", func := "hypogeum/hypogeumlaw10.WaxBounds", spec := "waxBounds", named := ["hypogeum/sum.begin", "hypogeum/sum.steps"], plainKeys := false, apart := false, laid := [("hypogeum/sum.begin", laid_hypogeum_sum_begin), ("hypogeum/sum.steps", laid_hypogeum_sum_steps)] }
def WaxBoundsSaid : Prop := waxBoundsRow.holds Tryd.pinned (OpenSpec.ofChange waxBoundsSpec)

/-- ITS FALSE NEIGHBOUR: 'it returns false'. Refute it at one input. -/
def waxBoundsWrong : ChangeSpec := { name := "waxBounds", fn := fun _ => fun
  | [d1, d2] => { results := [.lit (.bool false)], args := [d1, d2] }
  | _ => none }
def WaxBoundsWrongFalsely : Prop := waxBoundsRow.holds Tryd.pinned (OpenSpec.ofChange waxBoundsWrong)

/-- 'hypogeumlaw10.WaxLengths': WHATEVER THE INPUT: true; the input reads as it did. -/
def waxLengthsSpec : ChangeSpec := { name := "waxLengths", fn := fun _ => fun
  | [d1, d2] => { results := [.lit (.bool true)], args := [d1, d2] }
  | _ => none }
def waxLengthsRow : OpenClaim := { program := "ytfofkjajlfphjaadoor", sum := "9e5c31f5ec5d44d4bd0cfbfff5d5e0e1b01b79d22e7317d666bb19c1782e257a", func := "hypogeum/hypogeumlaw10.WaxLengths", spec := "waxLengths", named := ["hypogeum/sum.begin", "hypogeum/sum.steps"], plainKeys := false, apart := false, laid := [("hypogeum/sum.begin", laid_hypogeum_sum_begin), ("hypogeum/sum.steps", laid_hypogeum_sum_steps)] }
def WaxLengthsSaid : Prop := waxLengthsRow.holds Tryd.pinned (OpenSpec.ofChange waxLengthsSpec)

/-- ITS FALSE NEIGHBOUR: 'it returns false'. Refute it at one input. -/
def waxLengthsWrong : ChangeSpec := { name := "waxLengths", fn := fun _ => fun
  | [d1, d2] => { results := [.lit (.bool false)], args := [d1, d2] }
  | _ => none }
def WaxLengthsWrongFalsely : Prop := waxLengthsRow.holds Tryd.pinned (OpenSpec.ofChange waxLengthsWrong)

/-- 'hypogeumlaw11.KeyTapes': WHATEVER THE INPUT: true; the input reads as it did. -/
def keyTapesSpec : ChangeSpec := { name := "keyTapes", fn := fun _ => fun
  | [d] => { results := [.lit (.bool true)], args := [d] }
  | _ => none }
def keyTapesRow : OpenClaim := { program := "ytfofkjajlfphjaadoor", sum := "9e5c31f5ec5d44d4bd0cfbfff5d5e0e1b01b79d22e7317d666bb19c1782e257a", func := "hypogeum/hypogeumlaw11.KeyTapes", spec := "keyTapes", unfollowed := true, recurses := true, named := ["hypogeum/sum.begin", "hypogeum/sum.steps"], plainKeys := false, apart := false, laid := [("hypogeum/sum.begin", laid_hypogeum_sum_begin), ("hypogeum/sum.steps", laid_hypogeum_sum_steps)] }
def KeyTapesSaid : Prop := keyTapesRow.holds Tryd.pinned (OpenSpec.ofChange keyTapesSpec)

/-- ITS FALSE NEIGHBOUR: 'it returns false'. Refute it at one input. -/
def keyTapesWrong : ChangeSpec := { name := "keyTapes", fn := fun _ => fun
  | [d] => { results := [.lit (.bool false)], args := [d] }
  | _ => none }
def KeyTapesWrongFalsely : Prop := keyTapesRow.holds Tryd.pinned (OpenSpec.ofChange keyTapesWrong)

/-- 'hypogeumlaw11.KeyWrites': WHATEVER THE INPUT: true; the input reads as it did. -/
def keyWritesSpec : ChangeSpec := { name := "keyWrites", fn := fun _ => fun
  | [d] => { results := [.lit (.bool true)], args := [d] }
  | _ => none }
def keyWritesRow : OpenClaim := { program := "ytfofkjajlfphjaadoor", sum := "9e5c31f5ec5d44d4bd0cfbfff5d5e0e1b01b79d22e7317d666bb19c1782e257a", func := "hypogeum/hypogeumlaw11.KeyWrites", spec := "keyWrites", unfollowed := true, recurses := true, named := ["hypogeum/sum.begin", "hypogeum/sum.steps"], plainKeys := false, apart := false, laid := [("hypogeum/sum.begin", laid_hypogeum_sum_begin), ("hypogeum/sum.steps", laid_hypogeum_sum_steps)] }
def KeyWritesSaid : Prop := keyWritesRow.holds Tryd.pinned (OpenSpec.ofChange keyWritesSpec)

/-- ITS FALSE NEIGHBOUR: 'it returns false'. Refute it at one input. -/
def keyWritesWrong : ChangeSpec := { name := "keyWrites", fn := fun _ => fun
  | [d] => { results := [.lit (.bool false)], args := [d] }
  | _ => none }
def KeyWritesWrongFalsely : Prop := keyWritesRow.holds Tryd.pinned (OpenSpec.ofChange keyWritesWrong)

/-- 'hypogeumlaw11.KeyHands': WHATEVER THE INPUT: true; the input reads as it did. -/
def keyHandsSpec : ChangeSpec := { name := "keyHands", fn := fun _ => fun
  | [d] => { results := [.lit (.bool true)], args := [d] }
  | _ => none }
def keyHandsRow : OpenClaim := { program := "ytfofkjajlfphjaadoor", sum := "9e5c31f5ec5d44d4bd0cfbfff5d5e0e1b01b79d22e7317d666bb19c1782e257a", func := "hypogeum/hypogeumlaw11.KeyHands", spec := "keyHands", unfollowed := true, recurses := true, named := ["hypogeum/sum.begin", "hypogeum/sum.steps"], plainKeys := false, apart := false, laid := [("hypogeum/sum.begin", laid_hypogeum_sum_begin), ("hypogeum/sum.steps", laid_hypogeum_sum_steps)] }
def KeyHandsSaid : Prop := keyHandsRow.holds Tryd.pinned (OpenSpec.ofChange keyHandsSpec)

/-- ITS FALSE NEIGHBOUR: 'it returns false'. Refute it at one input. -/
def keyHandsWrong : ChangeSpec := { name := "keyHands", fn := fun _ => fun
  | [d] => { results := [.lit (.bool false)], args := [d] }
  | _ => none }
def KeyHandsWrongFalsely : Prop := keyHandsRow.holds Tryd.pinned (OpenSpec.ofChange keyHandsWrong)

/-- 'hypogeumlaw12.PackWrites': WHATEVER THE INPUT: true; the input reads as it did. -/
def packWritesSpec : ChangeSpec := { name := "packWrites", fn := fun _ => fun
  | [d1, d2] => { results := [.lit (.bool true)], args := [d1, d2] }
  | _ => none }
def packWritesRow : OpenClaim := { program := "ytfofkjajlfphjaadoor", sum := "9e5c31f5ec5d44d4bd0cfbfff5d5e0e1b01b79d22e7317d666bb19c1782e257a", func := "hypogeum/hypogeumlaw12.PackWrites", spec := "packWrites", unfollowed := true, recurses := true, named := ["hypogeum/sum.begin", "hypogeum/sum.steps"], plainKeys := false, apart := false, laid := [("hypogeum/sum.begin", laid_hypogeum_sum_begin), ("hypogeum/sum.steps", laid_hypogeum_sum_steps)] }
def PackWritesSaid : Prop := packWritesRow.holds Tryd.pinned (OpenSpec.ofChange packWritesSpec)

/-- ITS FALSE NEIGHBOUR: 'it returns false'. Refute it at one input. -/
def packWritesWrong : ChangeSpec := { name := "packWrites", fn := fun _ => fun
  | [d1, d2] => { results := [.lit (.bool false)], args := [d1, d2] }
  | _ => none }
def PackWritesWrongFalsely : Prop := packWritesRow.holds Tryd.pinned (OpenSpec.ofChange packWritesWrong)

/-- 'hypogeumlaw12.PackFull': WHATEVER THE INPUT: true; the input reads as it did. -/
def packFullSpec : ChangeSpec := { name := "packFull", fn := fun _ => fun
  | [d1, d2] => { results := [.lit (.bool true)], args := [d1, d2] }
  | _ => none }
def packFullRow : OpenClaim := { program := "ytfofkjajlfphjaadoor", sum := "9e5c31f5ec5d44d4bd0cfbfff5d5e0e1b01b79d22e7317d666bb19c1782e257a", func := "hypogeum/hypogeumlaw12.PackFull", spec := "packFull", unfollowed := true, recurses := true, named := ["hypogeum/sum.begin", "hypogeum/sum.steps"], plainKeys := false, apart := false, laid := [("hypogeum/sum.begin", laid_hypogeum_sum_begin), ("hypogeum/sum.steps", laid_hypogeum_sum_steps)] }
def PackFullSaid : Prop := packFullRow.holds Tryd.pinned (OpenSpec.ofChange packFullSpec)

/-- ITS FALSE NEIGHBOUR: 'it returns false'. Refute it at one input. -/
def packFullWrong : ChangeSpec := { name := "packFull", fn := fun _ => fun
  | [d1, d2] => { results := [.lit (.bool false)], args := [d1, d2] }
  | _ => none }
def PackFullWrongFalsely : Prop := packFullRow.holds Tryd.pinned (OpenSpec.ofChange packFullWrong)

/-- 'hypogeumlaw12.PackSizes': WHATEVER THE INPUT: true; the input reads as it did. -/
def packSizesSpec : ChangeSpec := { name := "packSizes", fn := fun _ => fun
  | [d1, d2] => { results := [.lit (.bool true)], args := [d1, d2] }
  | _ => none }
def packSizesRow : OpenClaim := { program := "ytfofkjajlfphjaadoor", sum := "9e5c31f5ec5d44d4bd0cfbfff5d5e0e1b01b79d22e7317d666bb19c1782e257a", func := "hypogeum/hypogeumlaw12.PackSizes", spec := "packSizes", unfollowed := true, recurses := true, named := ["hypogeum/sum.begin", "hypogeum/sum.steps"], plainKeys := false, apart := false, laid := [("hypogeum/sum.begin", laid_hypogeum_sum_begin), ("hypogeum/sum.steps", laid_hypogeum_sum_steps)] }
def PackSizesSaid : Prop := packSizesRow.holds Tryd.pinned (OpenSpec.ofChange packSizesSpec)

/-- ITS FALSE NEIGHBOUR: 'it returns false'. Refute it at one input. -/
def packSizesWrong : ChangeSpec := { name := "packSizes", fn := fun _ => fun
  | [d1, d2] => { results := [.lit (.bool false)], args := [d1, d2] }
  | _ => none }
def PackSizesWrongFalsely : Prop := packSizesRow.holds Tryd.pinned (OpenSpec.ofChange packSizesWrong)

/-- 'hypogeumlaw12.PackBack': WHATEVER THE INPUT: true; the input reads as it did. -/
def packBackSpec : ChangeSpec := { name := "packBack", fn := fun _ => fun
  | [d1, d2] => { results := [.lit (.bool true)], args := [d1, d2] }
  | _ => none }
def packBackRow : OpenClaim := { program := "ytfofkjajlfphjaadoor", sum := "9e5c31f5ec5d44d4bd0cfbfff5d5e0e1b01b79d22e7317d666bb19c1782e257a", func := "hypogeum/hypogeumlaw12.PackBack", spec := "packBack", unfollowed := true, recurses := true, named := ["hypogeum/sum.begin", "hypogeum/sum.steps"], plainKeys := false, apart := false, laid := [("hypogeum/sum.begin", laid_hypogeum_sum_begin), ("hypogeum/sum.steps", laid_hypogeum_sum_steps)] }
def PackBackSaid : Prop := packBackRow.holds Tryd.pinned (OpenSpec.ofChange packBackSpec)

/-- ITS FALSE NEIGHBOUR: 'it returns false'. Refute it at one input. -/
def packBackWrong : ChangeSpec := { name := "packBack", fn := fun _ => fun
  | [d1, d2] => { results := [.lit (.bool false)], args := [d1, d2] }
  | _ => none }
def PackBackWrongFalsely : Prop := packBackRow.holds Tryd.pinned (OpenSpec.ofChange packBackWrong)

/- THE SECOND FORM. 'bulk': how many values and letters a reading holds, each counted each time it is reached (what is shared counts as often as it is met; a slice's spare places count too). A statement '..UptoSaid' is the law's where the arguments, and the package variables that the reading takes, are together of bulk at most 1048576: NARROWER than '..Said'. Prove '..Said' where nothing that the law and all that it calls make is longer than what came in: it says more and counts as full. Else prove '..UptoSaid'. A law counts once. -/
mutual
def uptoBulk {H : Type} : DataW H → Nat
  | .lit (.string bytes) => bytes.length + 1
  | .lit _ => 1
  | .nil => 1
  | .ptr d => uptoBulk d + 1
  | .slice elems spare => uptoBulkAll elems + uptoBulkAll spare + 1
  | .agg parts => uptoBulkAll parts + 1
  | .iface _ d => uptoBulk d + 1
  | .map entries => uptoBulkEntries entries + 1
  | .held _ => 1
def uptoBulkAll {H : Type} : List (DataW H) → Nat
  | [] => 0
  | d :: r => uptoBulk d + uptoBulkAll r
def uptoBulkEntries {H : Type} : List (Lit × DataW H) → Nat
  | [] => 0
  | x :: r => uptoBulkEntry x + uptoBulkEntries r
def uptoBulkEntry {H : Type} : Lit × DataW H → Nat
  | (.string bytes, d) => bytes.length + uptoBulk d + 1
  | (_, d) => uptoBulk d + 1
 end
def uptoSmall : (H : Type) → List (DataW H) → Bool := fun _ ds => decide (uptoBulkAll ds ≤ 1048576)
def OpenSpec.upto (s : _root_.Go.ChangeSpec) : _root_.Go.OpenSpec := { _root_.Go.OpenSpec.ofChange s with cond := some uptoSmall }

/-- 'hypogeumlaw10.WaxSeals', WHERE WHAT IT READS IS OF BULK AT MOST 1048576: true; the input reads as it did. -/
def waxSealsUptoRow : OpenClaim := { program := "ytfofkjajlfphjaadoor", sum := "9e5c31f5ec5d44d4bd0cfbfff5d5e0e1b01b79d22e7317d666bb19c1782e257a", func := "hypogeum/hypogeumlaw10.WaxSeals", spec := "waxSeals", named := ["hypogeum/sum.begin", "hypogeum/sum.steps"], plainKeys := false, apart := false, laid := [("hypogeum/sum.begin", laid_hypogeum_sum_begin), ("hypogeum/sum.steps", laid_hypogeum_sum_steps)], narrowed := true }
def WaxSealsUptoSaid : Prop := waxSealsUptoRow.holds Tryd.pinned (OpenSpec.upto waxSealsSpec)

/-- 'hypogeumlaw10.WaxOpens', WHERE WHAT IT READS IS OF BULK AT MOST 1048576: true; the input reads as it did. -/
def waxOpensUptoRow : OpenClaim := { program := "ytfofkjajlfphjaadoor", sum := "9e5c31f5ec5d44d4bd0cfbfff5d5e0e1b01b79d22e7317d666bb19c1782e257a", func := "hypogeum/hypogeumlaw10.WaxOpens", spec := "waxOpens", named := ["hypogeum/sum.begin", "hypogeum/sum.steps"], plainKeys := false, apart := false, laid := [("hypogeum/sum.begin", laid_hypogeum_sum_begin), ("hypogeum/sum.steps", laid_hypogeum_sum_steps)], narrowed := true }
def WaxOpensUptoSaid : Prop := waxOpensUptoRow.holds Tryd.pinned (OpenSpec.upto waxOpensSpec)

/-- 'hypogeumlaw10.WaxBack', WHERE WHAT IT READS IS OF BULK AT MOST 1048576: true; the input reads as it did. -/
def waxBackUptoRow : OpenClaim := { program := "ytfofkjajlfphjaadoor", sum := "9e5c31f5ec5d44d4bd0cfbfff5d5e0e1b01b79d22e7317d666bb19c1782e257a", func := "hypogeum/hypogeumlaw10.WaxBack", spec := "waxBack", named := ["hypogeum/sum.begin", "hypogeum/sum.steps"], plainKeys := false, apart := false, laid := [("hypogeum/sum.begin", laid_hypogeum_sum_begin), ("hypogeum/sum.steps", laid_hypogeum_sum_steps)], narrowed := true }
def WaxBackUptoSaid : Prop := waxBackUptoRow.holds Tryd.pinned (OpenSpec.upto waxBackSpec)

/-- 'hypogeumlaw10.WaxBounds', WHERE WHAT IT READS IS OF BULK AT MOST 1048576: true; the input reads as it did. -/
def waxBoundsUptoRow : OpenClaim := { program := "ytfofkjajlfphjaadoor", sum := "9e5c31f5ec5d44d4bd0cfbfff5d5e0e1b01b79d22e7317d666bb19c1782e257a", func := "hypogeum/hypogeumlaw10.WaxBounds", spec := "waxBounds", named := ["hypogeum/sum.begin", "hypogeum/sum.steps"], plainKeys := false, apart := false, laid := [("hypogeum/sum.begin", laid_hypogeum_sum_begin), ("hypogeum/sum.steps", laid_hypogeum_sum_steps)], narrowed := true }
def WaxBoundsUptoSaid : Prop := waxBoundsUptoRow.holds Tryd.pinned (OpenSpec.upto waxBoundsSpec)

/-- 'hypogeumlaw10.WaxLengths', WHERE WHAT IT READS IS OF BULK AT MOST 1048576: true; the input reads as it did. -/
def waxLengthsUptoRow : OpenClaim := { program := "ytfofkjajlfphjaadoor", sum := "9e5c31f5ec5d44d4bd0cfbfff5d5e0e1b01b79d22e7317d666bb19c1782e257a", func := "hypogeum/hypogeumlaw10.WaxLengths", spec := "waxLengths", named := ["hypogeum/sum.begin", "hypogeum/sum.steps"], plainKeys := false, apart := false, laid := [("hypogeum/sum.begin", laid_hypogeum_sum_begin), ("hypogeum/sum.steps", laid_hypogeum_sum_steps)], narrowed := true }
def WaxLengthsUptoSaid : Prop := waxLengthsUptoRow.holds Tryd.pinned (OpenSpec.upto waxLengthsSpec)

/-- 'hypogeumlaw11.KeyTapes', WHERE WHAT IT READS IS OF BULK AT MOST 1048576: true; the input reads as it did. -/
def keyTapesUptoRow : OpenClaim := { program := "ytfofkjajlfphjaadoor", sum := "9e5c31f5ec5d44d4bd0cfbfff5d5e0e1b01b79d22e7317d666bb19c1782e257a", func := "hypogeum/hypogeumlaw11.KeyTapes", spec := "keyTapes", unfollowed := true, recurses := true, named := ["hypogeum/sum.begin", "hypogeum/sum.steps"], plainKeys := false, apart := false, laid := [("hypogeum/sum.begin", laid_hypogeum_sum_begin), ("hypogeum/sum.steps", laid_hypogeum_sum_steps)], narrowed := true }
def KeyTapesUptoSaid : Prop := keyTapesUptoRow.holds Tryd.pinned (OpenSpec.upto keyTapesSpec)

/-- 'hypogeumlaw11.KeyWrites', WHERE WHAT IT READS IS OF BULK AT MOST 1048576: true; the input reads as it did. -/
def keyWritesUptoRow : OpenClaim := { program := "ytfofkjajlfphjaadoor", sum := "9e5c31f5ec5d44d4bd0cfbfff5d5e0e1b01b79d22e7317d666bb19c1782e257a", func := "hypogeum/hypogeumlaw11.KeyWrites", spec := "keyWrites", unfollowed := true, recurses := true, named := ["hypogeum/sum.begin", "hypogeum/sum.steps"], plainKeys := false, apart := false, laid := [("hypogeum/sum.begin", laid_hypogeum_sum_begin), ("hypogeum/sum.steps", laid_hypogeum_sum_steps)], narrowed := true }
def KeyWritesUptoSaid : Prop := keyWritesUptoRow.holds Tryd.pinned (OpenSpec.upto keyWritesSpec)

/-- 'hypogeumlaw11.KeyHands', WHERE WHAT IT READS IS OF BULK AT MOST 1048576: true; the input reads as it did. -/
def keyHandsUptoRow : OpenClaim := { program := "ytfofkjajlfphjaadoor", sum := "9e5c31f5ec5d44d4bd0cfbfff5d5e0e1b01b79d22e7317d666bb19c1782e257a", func := "hypogeum/hypogeumlaw11.KeyHands", spec := "keyHands", unfollowed := true, recurses := true, named := ["hypogeum/sum.begin", "hypogeum/sum.steps"], plainKeys := false, apart := false, laid := [("hypogeum/sum.begin", laid_hypogeum_sum_begin), ("hypogeum/sum.steps", laid_hypogeum_sum_steps)], narrowed := true }
def KeyHandsUptoSaid : Prop := keyHandsUptoRow.holds Tryd.pinned (OpenSpec.upto keyHandsSpec)

/-- 'hypogeumlaw12.PackWrites', WHERE WHAT IT READS IS OF BULK AT MOST 1048576: true; the input reads as it did. -/
def packWritesUptoRow : OpenClaim := { program := "ytfofkjajlfphjaadoor", sum := "9e5c31f5ec5d44d4bd0cfbfff5d5e0e1b01b79d22e7317d666bb19c1782e257a", func := "hypogeum/hypogeumlaw12.PackWrites", spec := "packWrites", unfollowed := true, recurses := true, named := ["hypogeum/sum.begin", "hypogeum/sum.steps"], plainKeys := false, apart := false, laid := [("hypogeum/sum.begin", laid_hypogeum_sum_begin), ("hypogeum/sum.steps", laid_hypogeum_sum_steps)], narrowed := true }
def PackWritesUptoSaid : Prop := packWritesUptoRow.holds Tryd.pinned (OpenSpec.upto packWritesSpec)

/-- 'hypogeumlaw12.PackFull', WHERE WHAT IT READS IS OF BULK AT MOST 1048576: true; the input reads as it did. -/
def packFullUptoRow : OpenClaim := { program := "ytfofkjajlfphjaadoor", sum := "9e5c31f5ec5d44d4bd0cfbfff5d5e0e1b01b79d22e7317d666bb19c1782e257a", func := "hypogeum/hypogeumlaw12.PackFull", spec := "packFull", unfollowed := true, recurses := true, named := ["hypogeum/sum.begin", "hypogeum/sum.steps"], plainKeys := false, apart := false, laid := [("hypogeum/sum.begin", laid_hypogeum_sum_begin), ("hypogeum/sum.steps", laid_hypogeum_sum_steps)], narrowed := true }
def PackFullUptoSaid : Prop := packFullUptoRow.holds Tryd.pinned (OpenSpec.upto packFullSpec)

/-- 'hypogeumlaw12.PackSizes', WHERE WHAT IT READS IS OF BULK AT MOST 1048576: true; the input reads as it did. -/
def packSizesUptoRow : OpenClaim := { program := "ytfofkjajlfphjaadoor", sum := "9e5c31f5ec5d44d4bd0cfbfff5d5e0e1b01b79d22e7317d666bb19c1782e257a", func := "hypogeum/hypogeumlaw12.PackSizes", spec := "packSizes", unfollowed := true, recurses := true, named := ["hypogeum/sum.begin", "hypogeum/sum.steps"], plainKeys := false, apart := false, laid := [("hypogeum/sum.begin", laid_hypogeum_sum_begin), ("hypogeum/sum.steps", laid_hypogeum_sum_steps)], narrowed := true }
def PackSizesUptoSaid : Prop := packSizesUptoRow.holds Tryd.pinned (OpenSpec.upto packSizesSpec)

/-- 'hypogeumlaw12.PackBack', WHERE WHAT IT READS IS OF BULK AT MOST 1048576: true; the input reads as it did. -/
def packBackUptoRow : OpenClaim := { program := "ytfofkjajlfphjaadoor", sum := "9e5c31f5ec5d44d4bd0cfbfff5d5e0e1b01b79d22e7317d666bb19c1782e257a", func := "hypogeum/hypogeumlaw12.PackBack", spec := "packBack", unfollowed := true, recurses := true, named := ["hypogeum/sum.begin", "hypogeum/sum.steps"], plainKeys := false, apart := false, laid := [("hypogeum/sum.begin", laid_hypogeum_sum_begin), ("hypogeum/sum.steps", laid_hypogeum_sum_steps)], narrowed := true }
def PackBackUptoSaid : Prop := packBackUptoRow.holds Tryd.pinned (OpenSpec.upto packBackSpec)

end Rows
end Go.Proofs.YtfofkjajlfphjaaDoor
