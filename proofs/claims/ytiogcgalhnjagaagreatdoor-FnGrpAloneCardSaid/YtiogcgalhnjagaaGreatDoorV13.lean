import Derived.Test.YtiogcgalhnjagaaGreatDoorV07
namespace Kw
open Go
/-! the same operations on texts, for the kernel -/
def eqL : List UInt8 → List UInt8 → Bool
  | [], [] => true
  | a :: xs, b :: ys => bif Nat.beq a.toNat b.toNat then eqL xs ys else false
  | _, _ => false
def kSub (a : ByteArray) (l h : Int) : ByteArray := bs ((a.data.toList.take h.toNat).drop l.toNat)
def kCat (a b : ByteArray) : ByteArray := bs (a.data.toList ++ b.data.toList)
def kEq (a b : ByteArray) : Bool := eqL a.data.toList b.data.toList
def kFind (s : List UInt8) : List (ByteArray × Bool) → Bool
  | [] => false
  | e :: es => bif eqL e.1.data.toList s then e.2 else kFind s es
def kGet (es : List (ByteArray × Bool)) (s : ByteArray) : Bool := kFind s.data.toList es
theorem eqL_dec : ∀ a b : List UInt8, eqL a b = decide (a = b)
  | [], [] => by simp [eqL]
  | [], _ :: _ => by simp [eqL]
  | _ :: _, [] => by simp [eqL]
  | a :: xs, b :: ys => by
    rw [eqL, eqL_dec xs ys]
    by_cases h : a = b
    · subst h; simp
    · have : Nat.beq a.toNat b.toNat = false := by
        rw [← Bool.not_eq_true]
        exact fun e => h (UInt8.toNat_inj.1 (Nat.eq_of_beq_eq_true e))
      rw [this]; simp [h]
theorem kSub_eq : kSub = sSub := by
  funext a l h
  have e := sSub_bs a.data.toList l h
  rw [bs_data] at e
  exact e.symm
theorem kCat_eq : kCat = sCat := by
  funext a b
  have e := sCat_bs a.data.toList b.data.toList
  rw [bs_data, bs_data] at e
  exact e.symm
theorem kEq_eq : kEq = sEq := by
  funext a b
  have e := sEq_bs a.data.toList b.data.toList
  rw [bs_data, bs_data] at e
  rw [e]; exact eqL_dec _ _
theorem kFind_eq (s : ByteArray) : ∀ es : List (ByteArray × Bool), kFind s.data.toList es = mapGet es s
  | [] => rfl
  | e :: es => by
    have ih := kFind_eq s es
    have h : (e.1.toList == s.toList) = eqL e.1.data.toList s.data.toList := congrFun (congrFun kEq_eq e.1) s |>.symm
    unfold mapGet at ih ⊢
    rw [kFind, List.find?_cons]
    cases hq : eqL e.1.data.toList s.data.toList with
    | true => rw [hq] at h; rw [h]; rfl
    | false => rw [hq] at h; rw [h]; exact ih
theorem kGet_eq : kGet = mapGet := by funext es s; exact kFind_eq s es
end Kw
