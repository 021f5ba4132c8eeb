
namespace Kw
set_option linter.unusedVariables false
set_option linter.unusedSimpArgs false
set_option linter.unusedSectionVars false
abbrev S := List UInt8
instance : Inhabited S := ⟨[]⟩
/-- the element at a place -/
def ix {A : Type} [Inhabited A] (l : List A) (i : Int) : A := l.getD i.toNat default
section
variable {A : Type} [Inhabited A]
theorem ix_nat (l : List A) (k : Nat) (h : k < l.length) : ix l (k : Int) = l[k] := by simp [ix, h]
theorem ix_drop (l : List A) (k : Nat) (h : k < l.length) : l.drop k = ix l (k : Int) :: l.drop (k + 1) := by rw [ix_nat l k h]; exact List.drop_eq_getElem_cons h
end
structure Own where
  node : Int
  sec : S
  deriving DecidableEq, Inhabited
structure Box where
  key : S
  sec : S
  deriving DecidableEq, Inhabited
structure Member where
  inn : Bool
  who : Int
  keys : List S
  own : List Own
  epoch : Int
  init : S
  tag : S
  deriving DecidableEq
instance : Inhabited Member := ⟨⟨false, 0, [], [], 0, [], []⟩⟩
structure Commit where
  sender : Int
  tag : S
  name : S
  add : Int
  remove : Int
  leaf : S
  keys : List S
  boxes : List Box
  wkey : S
  wik : S
  wis : S
  wsk : S
  wss : S
  deriving DecidableEq
instance : Inhabited Commit := ⟨⟨0, [], [], 0, 0, [], [], [], [], [], [], [], []⟩⟩
structure Frame where
  src : Int
  key : S
  n : Int
  text : S
  deriving DecidableEq, Inhabited
structure Win where
  key : S
  top : Int
  seen : List Int
  deriving DecidableEq, Inhabited
structure Wait where
  who : Int
  pos : Int
  leaf : S
  key : S
  deriving DecidableEq, Inhabited
structure Steal where
  who : Int
  tag : S
  deriving DecidableEq, Inhabited
structure Told where
  who : Int
  pos : Int
  deriving DecidableEq, Inhabited
structure Event where
  kind : Int
  who : Int
  add : Int
  remove : Int
  pos : Int
  text : S
  deriving DecidableEq, Inhabited
structure World where
  seats : List Member
  waits : List Wait
  log : List Commit
  fresh : List Int
  spy : List S
  stolen : List Steal
  frames : List Frame
  said : List Int
  wins : List (List Win)
  told : List Told
  deriving DecidableEq, Inhabited
end Kw
