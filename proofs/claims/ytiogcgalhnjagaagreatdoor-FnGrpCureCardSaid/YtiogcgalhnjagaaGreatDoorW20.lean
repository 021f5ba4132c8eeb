import Derived.Test.YtiogcgalhnjagaaGreatDoorW19
namespace Kw
open Go
set_option maxRecDepth 100000
set_option linter.unusedVariables false
set_option linter.unusedSimpArgs false
theorem br_f {R : Type} (x y : Option R) : br false x y = y := rfl
theorem br_t {R : Type} (x y : Option R) : br true x y = x := rfl
/-- a text of so many signs, as cells -/
def rowsU (l : List UInt8) : List Row := l.map fun x => [.int .u8 x.toNat]
theorem nrows_l (l : List UInt8) : nrows (rowsU l) = (l.length : Int) := by unfold nrows rowsU; simp
theorem rem_nat (a b : Nat) : iRem (a : Int) (b : Int) = ((a % b : Nat) : Int) := by
  unfold iRem
  rw [Int.tmod_eq_emod_of_nonneg (by omega)]
  omega
def cd (n : Nat) : List UInt8 := List.replicate n 0
theorem rem_cd (l : List UInt8) {m c : Nat} (h : l.length % m = c % m) : iRem (nrows (rowsU (cd c))) (m : Int) = iRem (nrows (rowsU l)) (m : Int) := by
  rw [nrows_l, nrows_l, rem_nat, rem_nat, h]
  unfold cd; rw [List.length_replicate]
end Kw
