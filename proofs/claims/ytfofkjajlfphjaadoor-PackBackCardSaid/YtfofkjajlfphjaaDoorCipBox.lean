/- cipher's reference: its bytes that stand for others are the program's (a closed fact). -/
import Derived.Test.YtfofkjajlfphjaaDoorCipRef
set_option linter.unusedSimpArgs false
set_option linter.unusedVariables false
namespace Go.Proofs.YtfofkjajlfphjaaDoor.Cip
theorem box_fwd : (List.range 256).map boxN = fwd.map UInt8.toNat := by kernel_rfl
end Go.Proofs.YtfofkjajlfphjaaDoor.Cip
