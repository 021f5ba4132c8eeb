import Derived.Test.YtiogcgalhnjagaaGreatDoorW20
namespace Kw
open Go
set_option maxRecDepth 100000
set_option maxHeartbeats 0
set_option linter.unusedVariables false
set_option linter.unusedSimpArgs false
theorem k6_0 : ev E LL 61 6 [.sl (rowsU (cd 0))] [] = some (.bool true, []) := by rw [← FF_eq]; kernel_rfl
theorem k6_9 : ev E LL 61 6 [.sl (rowsU (cd 9))] [] = some (.bool true, []) := by rw [← FF_eq]; kernel_rfl
theorem k6_1 : ev E LL 61 6 [.sl (rowsU (cd 1))] [] = some (.bool true, []) := by rw [← FF_eq]; kernel_rfl
theorem k6_5 : ev E LL 61 6 [.sl (rowsU (cd 5))] [] = some (.bool true, []) := by rw [← FF_eq]; kernel_rfl
end Kw
