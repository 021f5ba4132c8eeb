import Derived.Test.YtiogcgalhnjagaaGreatDoorW20
namespace Kw
open Go
set_option maxRecDepth 100000
set_option maxHeartbeats 0
set_option linter.unusedVariables false
set_option linter.unusedSimpArgs false
theorem k4_0 : ev E LL 61 4 [.sl (rowsU (cd 0))] [] = some (.bool true, []) := by rw [← FF_eq]; kernel_rfl
theorem k4_1 : ev E LL 61 4 [.sl (rowsU (cd 1))] [] = some (.bool true, []) := by rw [← FF_eq]; kernel_rfl
theorem go_4 (l : List UInt8) (c : Nat) (h : l.length % 2 = c % 2) (hb : iLt 1048576 (nrows (rowsU l)) = false) (hb' : iLt 1048576 (nrows (rowsU (cd c))) = false) :
    ev E LL 61 4 [.sl (rowsU l)] [] = ev E LL 61 4 [.sl (rowsU (cd c))] [] := by
  have e : iRem (nrows (rowsU (cd c))) 2 = iRem (nrows (rowsU l)) 2 := rem_cd l h
  rw [eq_4, eq_4, hb, hb', br_f, br_f, e]
theorem t_FnGrpReplace (l : List UInt8) : ev E LL 61 4 [.sl (l.map fun x => [.int .u8 x.toNat])] [] = some (.bool true, []) := by
  change ev E LL 61 4 [.sl (rowsU l)] [] = _
  by_cases hb : iLt 1048576 (nrows (rowsU l)) = true
  · rw [eq_4, hb, br_t]
  rw [Bool.not_eq_true] at hb
  rcases (by omega : l.length % 2 = 0 ∨ l.length % 2 = 1) with h | h
  · exact (go_4 l 0 h hb (by kernel_rfl)).trans k4_0
  · exact (go_4 l 1 h hb (by kernel_rfl)).trans k4_1
end Kw
