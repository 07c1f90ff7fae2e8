/- cipher's reference: its bytes that stand for others are the program's (a closed fact). -/
import Derived.Test.YtfofkjajlfphjaaCipRef
namespace Go.Proofs.Ytfofkjajlfphjaa
theorem box_fwd : (List.range 256).map boxN = fwd.map UInt8.toNat := by kernel_rfl
end Go.Proofs.Ytfofkjajlfphjaa
