import Derived.Test.YtiogcgalhnjagaaGreatDoorW20
namespace Kw
open Go
set_option maxRecDepth 100000
set_option maxHeartbeats 0
set_option linter.unusedVariables false
set_option linter.unusedSimpArgs false
theorem k5_0 : ev E LL 61 5 [.sl (rowsU (cd 0))] [] = some (.bool true, []) := by rw [← FF_eq]; kernel_rfl
theorem k5_1 : ev E LL 61 5 [.sl (rowsU (cd 1))] [] = some (.bool true, []) := by rw [← FF_eq]; kernel_rfl
theorem k5_2 : ev E LL 61 5 [.sl (rowsU (cd 2))] [] = some (.bool true, []) := by rw [← FF_eq]; kernel_rfl
theorem k5_3 : ev E LL 61 5 [.sl (rowsU (cd 3))] [] = some (.bool true, []) := by rw [← FF_eq]; kernel_rfl
theorem go_5 (l : List UInt8) (c : Nat) (h : l.length % 4 = c % 4) (hb : iLt 1048576 (nrows (rowsU l)) = false) (hb' : iLt 1048576 (nrows (rowsU (cd c))) = false) :
    ev E LL 61 5 [.sl (rowsU l)] [] = ev E LL 61 5 [.sl (rowsU (cd c))] [] := by
  have e : iRem (nrows (rowsU (cd c))) 4 = iRem (nrows (rowsU l)) 4 := rem_cd l h
  rw [eq_5, eq_5, hb, hb', br_f, br_f, e]
theorem t_FnGrpShrink (l : List UInt8) : ev E LL 61 5 [.sl (l.map fun x => [.int .u8 x.toNat])] [] = some (.bool true, []) := by
  change ev E LL 61 5 [.sl (rowsU l)] [] = _
  by_cases hb : iLt 1048576 (nrows (rowsU l)) = true
  · rw [eq_5, hb, br_t]
  rw [Bool.not_eq_true] at hb
  rcases (by omega : l.length % 4 = 0 ∨ l.length % 4 = 1 ∨ l.length % 4 = 2 ∨ l.length % 4 = 3) with h | h | h | h
  · exact (go_5 l 0 h hb (by kernel_rfl)).trans k5_0
  · exact (go_5 l 1 h hb (by kernel_rfl)).trans k5_1
  · exact (go_5 l 2 h hb (by kernel_rfl)).trans k5_2
  · exact (go_5 l 3 h hb (by kernel_rfl)).trans k5_3
end Kw
