/- Facts on the types of the seat. Written by an own program (gen.py). -/
import Derived.Test.YtfofkjajlfphjaaDoorEngTwo
import Derived.Test.YtfofkjajlfphjaaDoorProg
set_option linter.unusedSimpArgs false
set_option linter.unusedVariables false
namespace Go.Proofs.YtfofkjajlfphjaaDoor
open Go Go.RowKit
set_option maxRecDepth 100000
theorem MK26 : mkB Tryd.prog 26 5 (.int .u8 0) 1 := ⟨by kernel_rfl, _, rfl, by kernel_rfl, by kernel_rfl, by kernel_rfl⟩
theorem EL26 : elB Tryd.prog 26 5 1 1 := ⟨by kernel_rfl, _, .int .u8 0, rfl, by kernel_rfl, rfl, by kernel_rfl, by kernel_rfl, Nat.one_pos⟩
theorem MK45 : mkB Tryd.prog 45 26 (.slice none 0 0) 24 := ⟨by kernel_rfl, _, rfl, by kernel_rfl, by kernel_rfl, by kernel_rfl⟩
theorem EL45 : elB Tryd.prog 45 26 1 24 := ⟨by kernel_rfl, _, .slice none 0 0, rfl, by kernel_rfl, rfl, by kernel_rfl, by kernel_rfl, Nat.one_pos⟩
theorem MK143 : mkB Tryd.prog 143 3 (.int .i64 0) 8 := ⟨by kernel_rfl, _, rfl, by kernel_rfl, by kernel_rfl, by kernel_rfl⟩
theorem EL143 : elB Tryd.prog 143 3 1 8 := ⟨by kernel_rfl, _, .int .i64 0, rfl, by kernel_rfl, rfl, by kernel_rfl, by kernel_rfl, Nat.one_pos⟩
theorem MK162 : mkB Tryd.prog 162 161 (.int .u32 0) 4 := ⟨by kernel_rfl, _, rfl, by kernel_rfl, by kernel_rfl, by kernel_rfl⟩
theorem EL162 : elB Tryd.prog 162 161 1 4 := ⟨by kernel_rfl, _, .int .u32 0, rfl, by kernel_rfl, rfl, by kernel_rfl, by kernel_rfl, Nat.one_pos⟩
end Go.Proofs.YtfofkjajlfphjaaDoor
