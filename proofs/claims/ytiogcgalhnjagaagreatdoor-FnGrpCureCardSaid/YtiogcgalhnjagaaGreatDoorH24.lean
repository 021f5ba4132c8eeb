import Derived.Test.YtiogcgalhnjagaaGreatDoorW20
namespace Kw
open Go
set_option maxRecDepth 100000
set_option maxHeartbeats 0
set_option linter.unusedVariables false
set_option linter.unusedSimpArgs false
theorem k6_3 : ev E LL 61 6 [.sl (rowsU (cd 3))] [] = some (.bool true, []) := by rw [← FF_eq]; kernel_rfl
theorem k6_19 : ev E LL 61 6 [.sl (rowsU (cd 19))] [] = some (.bool true, []) := by rw [← FF_eq]; kernel_rfl
end Kw
