import Derived.Still
import Derived.Below
import Derived.Laws.Sem
import Derived.Tactics
namespace Kw
set_option linter.unusedVariables false
set_option linter.unusedSimpArgs false
set_option linter.unusedSectionVars false
open Go

/-- names of memory: what came in by a pointer (and what its cell j led to), what the operation with temp t as its dst laid (part j) -/
inductive H where
  | imp (i : Nat)
  | impc (i j : Nat)
  | loc (t j : Nat)
  deriving DecidableEq, Inhabited

/-- names of own slices that may be empty and yet have room: for elements of four cells -/
def isK : H → Bool | .imp _ => false | .impc _ j => Nat.ble 1000 j | .loc _ j => Nat.ble 1000 j
def kn : H → H | .impc i j => .impc i (j + 1000) | .loc t j => .loc t (j + 1000) | h => h

inductive MV where
  | undef
  | bool (b : Bool)
  | int (k : IntKind) (n : Int)
  | str (s : ByteArray)
  | nilp
  | nils
  | ptr (h : H) (off : Nat)
  | mapr (h : H)
  | fn (f : FuncId) (caps : List MV)
  | sl (rows : List (List MV))
  | own (rows : List (List MV))
  | ownK (rows : List (List MV))
  | ref (h : H) (n : Int)
  | ptrS (row : List MV) (c : Nat)
  | ptrE (h : H) (n i : Int) (c : Nat)
  | agg (cs : List MV)
  | tup (vs : List MV)
  | iface (nil : Bool)
  deriving Inhabited
abbrev Row := List MV
/-- variables of packages that hold a list that never changes -/
class Gl where
  glr : Nat → Option MV
def glb [Gl] (v : Nat) : MV := match Gl.glr v with | some m => .ptrS [m] 0 | none => .undef

inductive Obj where
  | none
  | cells (cs : List MV)
  | map (es : List (ByteArray × Bool))
  | rows (rs : List Row)
  | froz (rs : List Row)
  deriving Inhabited

/-! leaf operations: each under a name of its own -/
def bnd {α R : Type} (o : Option α) (f : α → Option R) : Option R := o.bind f
def br {R : Type} (b : Bool) (x y : Option R) : Option R := bif b then x else y
def nrows (r : List Row) : Int := r.length
def rowAt (r : List Row) (i : Int) : Option Row := if 0 ≤ i then r[i.toNat]? else none
/-- an element whose cells are sz many -/
def rowZ (sz : Nat) (r : List Row) (i : Int) : Option Row := if 0 ≤ i then (match r[i.toNat]? with | some x => if x.length = sz then some x else none | none => none) else none
def okR (sz : Nat) (r : List Row) : Bool := r.all fun x => x.length == sz
def cellAt (r : Row) (j : Nat) : MV := r.getD j .undef
def catR (a b : List Row) : List Row := a ++ b
def setR (r : List Row) (i : Int) (x : Row) : List Row := r.set i.toNat x
def subR (r : List Row) (l h : Int) : List Row := (r.take h.toNat).drop l.toNat
def repR (n : Int) (x : Row) : List Row := List.replicate n.toNat x
def setC (r : Row) (c : Nat) : List MV → Row
  | [] => r
  | m :: ms => setC (r.set c m) (c + 1) ms
def rowLen (r : Row) : Int := r.length
def setRow (r : Row) (c : Nat) (ms : List MV) : Row := setC r c ms
def iAdd (k : IntKind) (a b : Int) : Int := k.wrap (a + b)
def iSub (k : IntKind) (a b : Int) : Int := k.wrap (a - b)
def iMul (k : IntKind) (a b : Int) : Int := k.wrap (a * b)
def iQuo (k : IntKind) (a b : Int) : Int := k.wrap (a.tdiv b)
def iRem (a b : Int) : Int := a.tmod b
def iXor (k : IntKind) (a b : Int) : Int := k.wrap (BitVec.ofInt k.bits a ^^^ BitVec.ofInt k.bits b).toNat
def iEq (a b : Int) : Bool := a == b
def iLt (a b : Int) : Bool := decide (a < b)
def iLe (a b : Int) : Bool := decide (a ≤ b)
def iMax (a b : Int) : Int := if a ≥ b then a else b
def iMin (a b : Int) : Int := if a ≤ b then a else b
def iWrap (k : IntKind) (a : Int) : Int := k.wrap a
def bNot (b : Bool) : Bool := !b
def bEq (a b : Bool) : Bool := a == b
def bAnd (a b : Bool) : Bool := a && b
def sEq (a b : ByteArray) : Bool := a.toList == b.toList
def sCat (a b : ByteArray) : ByteArray := a ++ b
def sLen (a : ByteArray) : Int := a.size
def sSub (a : ByteArray) (l h : Int) : ByteArray := a.extract l.toNat h.toNat
def sAt (a : ByteArray) (i : Int) : Option Int := if 0 ≤ i then (a.data.toList[i.toNat]?).map fun b => (b.toNat : Int) else none
def sOne (n : Int) : ByteArray := ⟨#[n.toNat.toUInt8]⟩
def fits (n m : Int) (bytes : Nat) : Bool := decide ((n + m) * bytes ≤ 2 ^ 46)
def byteRows (s : ByteArray) : List Row := s.data.toList.map fun b => [.int .u8 b.toNat]
def rowsBytes1 : List Row → Option (List UInt8)
  | [] => some []
  | [.int .u8 b] :: r => bnd (rowsBytes1 r) fun t => some (b.toNat.toUInt8 :: t)
  | _ :: _ => none
def rowsStr (r : List Row) : Option ByteArray := bnd (rowsBytes1 r) fun l => some ⟨l.toArray⟩
def mapGet (es : List (ByteArray × Bool)) (s : ByteArray) : Bool := match es.find? (fun e => e.1.toList == s.toList) with | some e => e.2 | none => false
def mapSet (es : List (ByteArray × Bool)) (s : ByteArray) (b : Bool) : List (ByteArray × Bool) := (s, b) :: es

def gBool : MV → Option Bool | .bool b => some b | _ => none
def gInt (k : IntKind) : MV → Option Int | .int k' n => if k' = k then some n else none | _ => none
def gStr : MV → Option ByteArray | .str s => some s | _ => none
def gIf : MV → Option Bool | .iface b => some b | _ => none
def gSl : MV → Option (List Row) | .sl r => some r | _ => none
def gOwn : MV → Option (List Row) | .own r => some r | _ => none
def gPtrI (i o : Nat) : MV → Option Unit | .ptr (.imp i') o' => if i' = i ∧ o' = o then some () else none | _ => none
def gMapI (i : Nat) : MV → Option Unit | .mapr (.imp i') => if i' = i then some () else none | _ => none
def gNilp : MV → Option Unit | .nilp => some () | _ => none
def gOwnK : MV → Option (List Row) | .ownK r => some r | _ => none
def gAgg : MV → Option (List MV) | .agg r => some r | _ => none
def gTup : MV → Option (List MV) | .tup r => some r | _ => none
def gCells : Obj → Option (List MV) | .cells r => some r | _ => none
def gMap : Obj → Option (List (ByteArray × Bool)) | .map r => some r | _ => none
def gPtr : MV → Option (H × Nat) | .ptr h o => some (h, o) | _ => none

def ofCell : Value → MV
  | .bool b => .bool b
  | .int k n => .int k n
  | .string s => .str s
  | .slice none 0 0 => .nils
  | .pointer none => .nilp
  | .nilIface => .iface true
  | _ => .undef
def ofV : Value → MV
  | .agg cs => .agg (cs.toList.map ofCell)
  | v => ofCell v
inductive Sh where
  | b | i (k : IntKind) | s | r | f | bad
def shOf : Value → Sh
  | .bool _ => .b
  | .int k _ => .i k
  | .string _ => .s
  | .slice .. => .r
  | .nilIface => .f
  | _ => .bad
section
variable {R : Type}
def opn1 (own : Bool) (sh : Sh) (m : MV) (k : MV → Option R) : Option R :=
  match sh with
  | .b => bnd (gBool m) fun b => k (.bool b)
  | .i kd => bnd (gInt kd m) fun n => k (.int kd n)
  | .s => bnd (gStr m) fun s => k (.str s)
  | .r => if own then bnd (gOwn m) fun r => k (.own r) else bnd (gSl m) fun r => k (.sl r)
  | .f => bnd (gIf m) fun b => k (.iface b)
  | .bad => none
/-- cells j, j+1, .. of a row, by their shapes -/
def opn (own : Bool) : List Sh → Row → Nat → (List MV → Option R) → Option R
  | [], _, _, k => k []
  | sh :: shs, row, j, k => opn1 own sh (cellAt row j) fun m => opn own shs row (j + 1) fun ms => k (m :: ms)
end
section
variable (P : Program)
def isAgg (t : TypeId) : Bool := match P.underlying t with | some (.struct _) => true | some (.array _ _) => true | _ => false
def tsize (t : TypeId) : Nat := match P.info? t with | some i => i.size | none => 0
def tbytes (t : TypeId) : Nat := match P.info? t with | some i => i.bytes | none => 0
def tzero (t : TypeId) : List Value := match P.info? t with | some i => (match i.zero with | some v => v.cells.toList | none => []) | none => []
def tshape (t : TypeId) : List Sh := (tzero P t).map shOf
def zeroOk (t : TypeId) : Bool := match P.info? t with | some i => (match i.zero with | some _ => true | none => false) | none => false
def okT (t : TypeId) : Bool := (match P.underlying t with | some _ => true | none => false) && (zeroOk P t && ((isAgg P t || tsize P t == 1) && ((tzero P t).length == tsize P t)))
def elemT (t : TypeId) : Option TypeId := match P.underlying t with | some (.slice e) => (match P.info? e with | some _ => some e | none => none) | _ => none
def fieldOff (t : TypeId) (f : Nat) : Option (Nat × TypeId) := match P.underlying t with | some (.struct fs) => (match fs[f]? with | some x => some (x.offset, x.type) | none => none) | _ => none
def pack (t : TypeId) (cs : List MV) : MV := if isAgg P t then .agg cs else cs.headD .undef
end
def MV.svOne : MV → Bool
  | .bool _ | .int _ _ | .str _ | .sl _ => true
  | _ => false
/-- the values that lie in one cell -/
def MV.one : MV → Bool
  | .undef | .agg _ | .tup _ | .own _ | .ownK _ => false
  | _ => true
def cellsOf : MV → List MV
  | .agg cs => cs
  | m => [m]
/-- '==' of structs, by their types -/
def eqF (P : Program) (rec : TypeId → List MV → List MV → Option Bool) (xs ys : List MV) : List Field → Option Bool
  | [] => some true
  | f :: fs => if f.name ≠ "_" then bnd (rec f.type ((xs.drop f.offset).take (tsize P f.type)) ((ys.drop f.offset).take (tsize P f.type))) fun b => bnd (eqF P rec xs ys fs) fun c => some (bAnd b c) else eqF P rec xs ys fs
def eqT (P : Program) : Nat → TypeId → List MV → List MV → Option Bool
  | 0, _, _, _ => none
  | d + 1, t, xs, ys => (match P.underlying t with
    | some .bool => (match xs, ys with | [.bool a], [.bool b] => some (bEq a b) | _, _ => none)
    | some (.int _) => (match xs, ys with | [.int k a], [.int k' b] => if k = k' then some (iEq a b) else none | _, _ => none)
    | some .string => (match xs, ys with | [.str a], [.str b] => some (sEq a b) | _, _ => none)
    | some (.struct fs) => if P.stoodInHeld t then none else eqF P (eqT P d) xs ys fs.toList
    | _ => none)
end Kw
namespace Kw
set_option linter.unusedVariables false
set_option linter.unusedSimpArgs false
set_option linter.unusedSectionVars false
open Go
variable [Gl]

structure Ann where
  live : List Nat
  own : List (Nat × Option Nat × H)   -- (slot, none): the slot itself; (slot, some c): cell c of the box it points to

structure Env where
  P : Program
  ann : FuncId → Nat → Ann                   -- at the head of the loop whose body begins with region r
  mv : FuncId → Bool                        -- its arguments' own slices move in
  keep : FuncId → Bool                      -- it hands own slices back
  io : FuncId → Bool                        -- its arguments' own slices are lent, and come back
  kr : FuncId → Bool                        -- it hands back one own slice that may have room
  ext : FuncId → Option (List MV → Option MV)
  cut : FuncId → Nat → Option Ann           -- ahead of the code whose first region is r, where ways meet
  okf : FuncId → Bool                       -- its regions of any order are written in an order that they allow

abbrev Ob := List (H × Obj)
structure Fr where
  sl : List MV
  ob : Ob
def look : Ob → H → Obj
  | [], _ => .none
  | (h', o) :: r, h => if h' = h then o else look r h
def put : Ob → H → Obj → Ob
  | [], h, o => [(h, o)]
  | (h', o') :: r, h, o => if h' = h then (h, o) :: r else (h', o') :: put r h o
def Fr.get (fr : Fr) (t : Nat) : MV := fr.sl.getD t .undef
def Fr.obj (fr : Fr) (h : H) : Obj := look fr.ob h
def Fr.set (fr : Fr) (t : Nat) (m : MV) : Fr := { fr with sl := fr.sl.set t m }
def Fr.setObj (fr : Fr) (h : H) (o : Obj) : Fr := { fr with ob := put fr.ob h o }
def Fr.lay {R : Type} (fr : Fr) (h : H) (o : Obj) (k : Fr → Option R) : Option R := if fr.ob.any (fun p => p.1 == h) then none else k (fr.setObj h o)
def Fr.finish (fr : Fr) (dst : Option Tmp) (m : MV) : Fr := match dst with | some d => fr.set d m | none => fr
def opnd (fr : Fr) : Operand → MV
  | .tmp t => fr.get t
  | .const v => ofV v
  | .func f => .fn f []
  | .global v => glb v
section
variable {R : Type} (E : Env)
/-- the rows of a slice -/
def Fr.rows (fr : Fr) (m : MV) (k : List Row → Option R) : Option R :=
  match m with
  | .sl r => k r
  | .nils => k []
  | .ref h n => (match fr.obj h with
    | .rows x => br (iEq n (nrows x)) (k x) none
    | .froz x => br (iEq n (nrows x)) (k x) none
    | _ => none)
  | _ => none
/-- a pointer that still leads somewhere -/
def Fr.live (fr : Fr) (m : MV) (k : Option R) : Option R :=
  match m with
  | .ptr h _ => (match fr.obj h with
    | .cells _ => k
    | _ => none)
  | .ptrE h n _ _ => (match fr.obj h with
    | .rows x => br (iEq n (nrows x)) k none
    | .froz x => br (iEq n (nrows x)) k none
    | _ => none)
  | _ => k
/-- a cell of an element: what is own is frozen -/
def freeze1 (fr : Fr) (m : MV) (k : MV → Fr → Option R) : Option R :=
  match m with
  | .ref h n => (match fr.obj h with
    | .rows x => br (iEq n (nrows x)) (k (.sl x) (fr.setObj h (.froz x))) none
    | .froz x => br (iEq n (nrows x)) (k (.sl x) fr) none
    | _ => none)
  | .nils => k (.sl []) fr
  | .bool b => k (.bool b) fr
  | .int kd n => k (.int kd n) fr
  | .str s => k (.str s) fr
  | .sl r => k (.sl r) fr
  | _ => none
def freezeL : List MV → Fr → (List MV → Fr → Option R) → Option R
  | [], fr, k => k [] fr
  | m :: ms, fr, k => freeze1 fr m fun m fr => freezeL ms fr fun ms fr => k (m :: ms) fr

def isStringT (P : Program) (t : TypeId) : Bool := match P.underlying t with | some .string => true | _ => false
def isByteT (P : Program) (t : TypeId) : Bool := match P.underlying t with | some (.int .u8) => true | _ => false
def isIfT (P : Program) (t : TypeId) : Bool := match P.underlying t with | some (.interface _) => true | _ => false
def isNilC : Operand → Bool | .const .nilIface => true | _ => false
def isBoolT (P : Program) (t : TypeId) : Bool := match P.underlying t with | some .bool => true | _ => false
def evBin (ub : Bool) (op : BinOp) (x y : MV) (k : MV → Option R) : Option R :=
  match x, y with
  | .int kd a, .int kd' b =>
    if kd = kd' then
      (match op with
      | .add => k (.int kd (iAdd kd a b))
      | .sub => k (.int kd (iSub kd a b))
      | .mul => k (.int kd (iMul kd a b))
      | .quo => br (iEq b 0) none (k (.int kd (iQuo kd a b)))
      | .rem => br (iEq b 0) none (k (.int kd (iRem a b)))
      | .xor => k (.int kd (iXor kd a b))
      | .eql => k (.bool (iEq a b))
      | .neq => k (.bool (bNot (iEq a b)))
      | .lss => k (.bool (iLt a b))
      | .leq => k (.bool (iLe a b))
      | .gtr => k (.bool (iLt b a))
      | .geq => k (.bool (iLe b a))
      | _ => none)
    else none
  | .str a, .str b =>
    (match op with
    | .add => br (fits (sLen a) (sLen b) 1) (k (.str (sCat a b))) none
    | .eql => k (.bool (sEq a b))
    | .neq => k (.bool (bNot (sEq a b)))
    | _ => none)
  | .bool a, .bool b => if ub then (match op with | .eql => k (.bool (bEq a b)) | .neq => k (.bool (bNot (bEq a b))) | _ => none) else none
  | _, _ => none

/-! calls -/
def handles1 : MV → List H
  | .ptr h _ => [h]
  | .mapr h => [h]
  | _ => []
def handles : MV → List H
  | .ptr h _ => [h]
  | .mapr h => [h]
  | .fn _ caps => caps.flatMap handles1
  | .agg cs => cs.flatMap handles1
  | _ => []
def refs1 : MV → List H | .ref h _ => [h] | _ => []
def refsM : MV → List H | .ref h _ => [h] | .agg cs => cs.flatMap refs1 | _ => []
def dedup : List H → List H
  | [] => []
  | h :: hs => h :: (dedup hs).filter (· != h)
def objHandles : Obj → List H
  | .cells cs => cs.flatMap handles
  | _ => []
def closeH (fr : Fr) (hs : List H) : List H := dedup (hs ++ hs.flatMap fun h => objHandles (fr.obj h))
/-- names change, or die: what names a dead one is forgotten -/
def sub0 (f : H → Option H) : MV → MV
  | .ptr h o => (match f h with | some h' => .ptr h' o | none => .undef)
  | .mapr h => (match f h with | some h' => .mapr h' | none => .undef)
  | .ref h n => (match f h with | some h' => .ref h' n | none => .undef)
  | .ptrE _ _ _ _ | .fn _ _ | .agg _ | .tup _ => .undef
  | m => m
def sub1 (f : H → Option H) : MV → MV
  | .fn g caps => .fn g (caps.map (sub0 f))
  | m => sub0 f m
def subM (f : H → Option H) : MV → MV
  | .ptrE h n i c => (match f h with | some h' => .ptrE h' n i c | none => .undef)
  | .agg cs => .agg (cs.map (sub1 f))
  | .tup vs => .tup (vs.map (sub1 f))
  | m => sub1 f m
def subO (f : H → Option H) : Obj → Obj
  | .cells cs => .cells (cs.map (sub1 f))
  | o => o
/-- the place of a name -/
def idx : List H → H → Nat → Option Nat
  | [], _, _ => none
  | h' :: hs, h, i => if h' = h then some i else idx hs h (i + 1)
/-- boxes get the names imp 0, imp 1, .. -/
def toI (hs : List H) (h : H) : Option H := match idx hs h 0 with | some i => some (.imp i) | none => none

/-- own slices are lent -/
def lend1 (fr : Fr) (m : MV) (k : MV → Option R) : Option R :=
  match m with
  | .ref h n => (match fr.obj h with
    | .rows x => br (iEq n (nrows x)) (k (.sl x)) none
    | .froz x => br (iEq n (nrows x)) (k (.sl x)) none
    | _ => none)
  | .nils => k (.sl [])
  | m => k m
def lendL (fr : Fr) : List MV → (List MV → Option R) → Option R
  | [], k => k []
  | m :: ms, k => lend1 fr m fun m => lendL fr ms fun ms => k (m :: ms)
def lendA (fr : Fr) : List MV → (List MV → Option R) → Option R
  | [], k => k []
  | .agg cs :: ms, k => lendL fr cs fun cs => lendA fr ms fun ms => k (.agg cs :: ms)
  | m :: ms, k => lend1 fr m fun m => lendA fr ms fun ms => k (m :: ms)
/-- own slices move in (mv), or are frozen -/
def give1 (mv : Bool) (fr : Fr) (m : MV) (k : MV → Fr → Option R) : Option R :=
  match m with
  | .ref h n => (match fr.obj h with
    | .rows x => br (iEq n (nrows x)) (if mv then (if isK h then k (.ownK x) (fr.setObj h .none) else k (.own x) (fr.setObj h .none)) else k (.sl x) (fr.setObj h (.froz x))) none
    | .froz x => br (iEq n (nrows x)) (k (.sl x) fr) none
    | _ => none)
  | .nils => if mv then k (.own []) fr else k (.sl []) fr
  | m => k m fr
def giveL (g : Bool) : List MV → Fr → (List MV → Fr → Option R) → Option R
  | [], fr, k => k [] fr
  | m :: ms, fr, k => give1 g fr m fun m fr => giveL g ms fr fun ms fr => k (m :: ms) fr
def giveA (g : Bool) : List MV → Fr → (List MV → Fr → Option R) → Option R
  | [], fr, k => k [] fr
  | .agg cs :: ms, fr, k => giveL g cs fr fun cs fr => giveA g ms fr fun ms fr => k (.agg cs :: ms) fr
  | m :: ms, fr, k => give1 g fr m fun m fr => giveA g ms fr fun ms fr => k (m :: ms) fr
/-- boxes that are lent: what they own moves in -/
def giveO : List H → Fr → (List Obj → Fr → Option R) → Option R
  | [], fr, k => k [] fr
  | h :: hs, fr, k => (match fr.obj h with
    | .cells cs => giveL true cs fr fun cs fr => giveO hs fr fun os fr => k (.cells cs :: os) fr
    | .map es => giveO hs fr fun os fr => k (.map es :: os) fr
    | .rows _ => if isK h then none else giveO hs fr fun os fr => (match fr.obj h with | .rows x => k (.rows x :: os) fr | _ => none)
    | _ => none)
/-- own slices are laid -/
def layC (nm : Nat → H) : List MV → Nat → Fr → (List MV → Fr → Option R) → Option R
  | [], _, fr, k => k [] fr
  | .own r :: ms, j, fr, k => fr.lay (nm j) (.rows r) fun fr => layC nm ms (j + 1) fr fun ms fr => k (.ref (nm j) (nrows r) :: ms) fr
  | .ownK r :: ms, j, fr, k => fr.lay (kn (nm j)) (.rows r) fun fr => layC nm ms (j + 1) fr fun ms fr => k (.ref (kn (nm j)) (nrows r) :: ms) fr
  | m :: ms, j, fr, k => layC nm ms (j + 1) fr fun ms fr => k (m :: ms) fr
def layA (nm : Nat → Nat → H) : List MV → Nat → Fr → (List MV → Fr → Option R) → Option R
  | [], _, fr, k => k [] fr
  | .agg cs :: ms, t, fr, k => layC (nm t) cs 0 fr fun cs fr => layA nm ms (t + 1) fr fun ms fr => k (.agg cs :: ms) fr
  | .own r :: ms, t, fr, k => fr.lay (nm t 0) (.rows r) fun fr => layA nm ms (t + 1) fr fun ms fr => k (.ref (nm t 0) (nrows r) :: ms) fr
  | .ownK r :: ms, t, fr, k => fr.lay (kn (nm t 0)) (.rows r) fun fr => layA nm ms (t + 1) fr fun ms fr => k (.ref (kn (nm t 0)) (nrows r) :: ms) fr
  | m :: ms, t, fr, k => layA nm ms (t + 1) fr fun ms fr => k (m :: ms) fr
/-- a cell that came back is like it was given -/
def sameP (f : H → Option H) (old new : MV) : Option Unit :=
  match old with
  | .ptr h o => (match f h with | some (.imp i) => gPtrI i o new | _ => none)
  | .mapr h => (match f h with | some (.imp i) => gMapI i new | _ => none)
  | .nilp => gNilp new
  | _ => none
def shape1 (f : H → Option H) (old new : MV) (k : MV → Option R) : Option R :=
  match old with
  | .bool _ => bnd (gBool new) fun b => k (.bool b)
  | .int kd _ => bnd (gInt kd new) fun n => k (.int kd n)
  | .str _ => bnd (gStr new) fun s => k (.str s)
  | .sl _ => bnd (gSl new) fun s => k (.sl s)
  | .own _ => bnd (gOwn new) fun s => k (.own s)
  | .ownK _ => bnd (gOwnK new) fun s => k (.ownK s)
  | m => bnd (sameP f m new) fun _ => k m
def shapeL (f : H → Option H) : List MV → Nat → List MV → (List MV → Option R) → Option R
  | [], _, _, k => k []
  | o :: os, j, ns, k => shape1 f o (cellAt ns j) fun m => shapeL f os (j + 1) ns fun ms => k (m :: ms)
def gRows : Obj → Option (List Row) | .rows r => some r | _ => none
def hdO (l : List Obj) : Obj := l.headD .none
def tlO (l : List Obj) : List Obj := l.tail
def nthO (l : List Obj) (n : Nat) : Obj := l.getD n .none
def gCellsN (n : Nat) : Obj → Option (List MV) | .cells r => if r.length = n then some r else none | _ => none
def gAggN (n : Nat) : MV → Option (List MV) | .agg r => if r.length = n then some r else none | _ => none
def gTupN (n : Nat) : MV → Option (List MV) | .tup r => if r.length = n then some r else none | _ => none
/-- boxes came back: their names stay, what they hold is not known -/
def forgetO : Obj → Obj | .cells cs => .cells (cs.map fun _ => .undef) | o => o
def fgtOb (hs : List H) (os : List Obj) (ob : Ob) : Ob := ob.map fun p => match idx hs p.1 0 with | some i => (p.1, forgetO (os.getD i .none)) | none => p
/-- what they came with, in the shape of what they were given with -/
def likeO (f : H → Option H) : List Obj → List Obj → (List Obj → Option R) → Option R
  | [], _, k => k []
  | .cells cs :: os, rs, k => bnd (gCellsN cs.length (hdO rs)) fun ns => shapeL f cs 0 ns fun ms => likeO f os (tlO rs) fun os => k (.cells ms :: os)
  | .map _ :: os, rs, k => bnd (gMap (hdO rs)) fun es => likeO f os (tlO rs) fun os => k (.map es :: os)
  | .rows x :: os, rs, k => bnd (gRows (hdO rs)) fun y => br (iEq (nrows y) (nrows x)) (likeO f os (tlO rs) fun os => k (.rows y :: os)) none
  | _ :: _, _, _ => none
/-- what they hold is laid -/
def backO (nm : Nat → Nat → H) : List H → List Obj → Nat → Fr → (Fr → Option R) → Option R
  | h :: hs, .cells cs :: os, i, fr, k => layC (nm i) cs 0 fr fun cs fr => backO nm hs os (i + 1) (fr.setObj h (.cells cs)) k
  | _ :: hs, _ :: os, i, fr, k => backO nm hs os (i + 1) fr k
  | _, _, _, fr, k => k fr
/-- results by their types' shapes -/
def res1 (own : Bool) (t : TypeId) (m : MV) (k : MV → Option R) : Option R :=
  if isAgg E.P t then bnd (gAggN (tshape E.P t).length m) fun cs => opn own (tshape E.P t) cs 0 fun ms => k (.agg ms)
  else (match tshape E.P t with
    | [sh] => opn1 own sh m k
    | _ => none)
def resT (own : Bool) : List TypeId → List MV → Nat → (List MV → Option R) → Option R
  | [], _, _, k => k []
  | t :: ts, ms, j, k => res1 E own t (cellAt ms j) fun m => resT own ts ms (j + 1) fun r => k (m :: r)
def resS (own : Bool) (t : TypeId) (m : MV) (k : List MV → Bool → Option R) : Option R :=
  match E.P.underlying t with
  | some (.tuple ts) => bnd (gTupN ts.size m) fun vs => resT E own ts.toList vs 0 fun ms => k ms true
  | _ => res1 E own t m fun m => k [m] false
def unres (ms : List MV) (b : Bool) : MV := if b then .tup ms else ms.headD .undef

abbrev Res := MV × List Obj   -- result; boxes that came in, and behind them the box that is handed back, if one is
abbrev Run := FuncId → List MV → List Obj → Option Res
def scalarT (t : TypeId) : Bool :=
  match E.P.underlying t with
  | some (.bool) | some (.int _) | some (.string) => true
  | some (.tuple ts) => ts.size ≠ 0 && ts.all fun t => match E.P.underlying t with | some (.bool) | some (.int _) | some (.string) => true | _ => false
  | _ => false
def MV.scal : MV → Bool | .bool _ | .int _ _ | .str _ => true | _ => false
/-- a new box is handed back -/
inductive Boxed where | no | map | ptr (e : TypeId)
def boxedT (t : TypeId) : Boxed := match E.P.underlying t with | some (.pointer e) => .ptr e | some (.map _ _) => .map | _ => .no
def newP (n : Nat) : MV → Option Unit | .ptr (.imp i) o => if i = n ∧ o = 0 then some () else none | _ => none
def newM (n : Nat) : MV → Option Unit | .mapr (.imp i) => if i = n then some () else none | _ => none
/-- names of what a call hands back -/
def nmR (d i j : Nat) : H := .loc d (20 * i + j)
def nmB (d i j : Nat) : H := .loc d (100 * (i + 1) + j)
def giveX (f : FuncId) (args : List MV) (fr : Fr) (k : List MV → Fr → Option R) : Option R := if E.io f then k args fr else giveA (E.mv f) args fr k
def ioRefs (f : FuncId) (args : List MV) : List H := if E.io f then args.flatMap refsM else []
def evCallM (run : Run) (f : FuncId) (args : List MV) (fr : Fr) (o : Oper) (k : MV → Fr → Option R) : Option R :=
  let d := o.dst.getD 0
  if !(E.mv f || E.io f) && (scalarT E o.type && (args.flatMap handles).isEmpty) then
    lendA fr args fun args => bnd (run f (args.map (subM (toI []))) []) fun r =>
      resS E false o.type r.1 fun ms b => if ms.all MV.scal then k (unres ms b) fr else none
  else
    giveX E f args fr fun args fr =>
      let hs := closeH fr (args.flatMap handles ++ ioRefs E f args)
      giveO hs fr fun os fr =>
        bnd (run f (args.map (subM (toI hs))) (os.map (subO (toI hs)))) fun r =>
          likeO (toI hs) os r.2 fun ns =>
            let fr1 : Fr := { fr with ob := fgtOb hs ns fr.ob }
            match boxedT E o.type with
            | .ptr e => bnd (newP hs.length r.1) fun _ => bnd (gCellsN (tshape E.P e).length (nthO r.2 hs.length)) fun cs => opn (E.keep f) (tshape E.P e) cs 0 fun cs =>
                backO (nmB d) hs ns 0 fr1 fun fr => layC (nmR d 1) cs 0 fr fun cs fr => fr.lay (.loc d 0) (.cells cs) fun fr => k (.ptr (.loc d 0) 0) fr
            | .map => bnd (newM hs.length r.1) fun _ => bnd (gMap (nthO r.2 hs.length)) fun es =>
                backO (nmB d) hs ns 0 fr1 fun fr => fr.lay (.loc d 0) (.map es) fun fr => k (.mapr (.loc d 0)) fr
            | .no => if E.kr f then bnd (gOwnK r.1) fun x => backO (nmB d) hs ns 0 fr1 fun fr => layA (nmR d) [.ownK x] 0 fr fun ms fr => k (unres ms false) fr else resS E (E.keep f) o.type r.1 fun ms b =>
                backO (nmB d) hs ns 0 fr1 fun fr => layA (nmR d) ms 0 fr fun ms fr => k (unres ms b) fr
def evCall (run : Run) (f : FuncId) (args : List MV) (fr : Fr) (o : Oper) (k : Fr → Option R) : Option R := evCallM E run f args fr o fun m fr => k (fr.finish o.dst m)

def evLoad (t : TypeId) (a : MV) (fr : Fr) (k : MV → Option R) : Option R :=
  if okT E.P t then
    match a with
    | .ptr h off => (match fr.obj h with
      | .cells cs => if off + tsize E.P t ≤ cs.length then k (pack E.P t ((cs.drop off).take (tsize E.P t))) else none
      | _ => none)
    | .ptrS row c => opn false (tshape E.P t) row c fun ms => k (pack E.P t ms)
    | .ptrE h n i c => (match fr.obj h with
      | .rows rows => br (iEq n (nrows rows)) (bnd (rowAt rows i) fun row => opn false (tshape E.P t) row c fun ms => k (pack E.P t ms)) none
      | .froz rows => br (iEq n (nrows rows)) (bnd (rowAt rows i) fun row => opn false (tshape E.P t) row c fun ms => k (pack E.P t ms)) none
      | _ => none)
    | _ => none
  else none
def evStore (t : TypeId) (a : MV) (v : MV) (fr : Fr) (k : Fr → Option R) : Option R :=
  if okT E.P t && ((cellsOf v).length == tsize E.P t && (cellsOf v).all MV.one) then
    match a with
    | .ptr h off => (match fr.obj h with
      | .cells cs => if off + tsize E.P t ≤ cs.length then k (fr.setObj h (.cells (setC cs off (cellsOf v)))) else none
      | _ => none)
    | .ptrE h n i c => freezeL (cellsOf v) fr fun ms fr => (match fr.obj h with
      | .rows rows => br (iEq n (nrows rows)) (bnd (rowAt rows i) fun row => br (iLe (c + ms.length : Nat) (rowLen row)) (k (fr.setObj h (.rows (setR rows i (setRow row c ms))))) none) none
      | _ => none)
    | _ => none
  else none
def zeroRow (P : Program) (e : TypeId) : Row := (tzero P e).map fun v => match ofCell v with | .nils => .sl [] | .nilp => .undef | m => m
def zeroCs (P : Program) (e : TypeId) (n : Nat) : List MV := (List.range (n * tsize P e)).map fun q => (zeroRow P e).getD (q % tsize P e) .undef
def partsE (fr : Fr) : List (Nat × Operand) → Option (List (Nat × List MV))
  | [] => some []
  | (i, x) :: ps => (match opnd fr x, partsE fr ps with
    | .agg cs, some r => some ((i, cs) :: r)
    | m, some r => if m.one then some ((i, [m]) :: r) else none
    | _, none => none)
def freezeP : List (Nat × List MV) → Fr → (List (Nat × List MV) → Fr → Option R) → Option R
  | [], fr, k => k [] fr
  | (i, ms) :: ps, fr, k => freezeL ms fr fun ms fr => freezeP ps fr fun ps fr => k ((i, ms) :: ps) fr
def fillE (place : Nat → Option (Nat × Nat)) (cells : List MV) : List (Nat × List MV) → Option (List MV)
  | [] => some cells
  | (i, ms) :: rest => (match place i with
    | none => none
    | some (off, size) => if (ms.length == size && Nat.ble (off + ms.length) cells.length) then fillE place (setC cells off ms) rest else none)
def chop (w n : Nat) (cs : List MV) : List Row := (List.range n).map fun i => (cs.drop (i * w)).take w

/-- maps from strings to bools -/
def mapOk (P : Program) (t : TypeId) : Bool := match P.underlying t with | some (.map k e) => isStringT P k && (match P.info? e with | some i => (match i.zero with | some (.bool b) => !b | _ => false) | none => false) | _ => false
/-- a slice expression's bound -/
def sbound (fr : Fr) (y : Option Operand) (d : Int) : MV := match y with | some y => opnd fr y | none => .int .i64 d
def isImp : H → Bool | .imp _ => true | _ => false
def evAppend (d : Nat) (s : MV) (e : TypeId) (xs : List Row) (fr : Fr) (k : MV → Fr → Option R) : Option R :=
  if okT E.P e && Nat.ble 1 (tbytes E.P e) then
    (match s with
    | .ref h n => if isImp h || (isK h && !(tsize E.P e == 4)) then none else (match fr.obj h with
      | .rows rows => br (bAnd (iEq n (nrows rows)) (bAnd (okR (tsize E.P e) rows) (bAnd (okR (tsize E.P e) xs) (fits (nrows rows) (nrows xs) (tbytes E.P e))))) (k (.ref h (nrows (catR rows xs))) (fr.setObj h (.rows (catR rows xs)))) none
      | _ => none)
    | .nils => br (bAnd (okR (tsize E.P e) xs) (fits 0 (nrows xs) (tbytes E.P e))) (fr.lay (.loc d 0) (.rows xs) fun fr => k (.ref (.loc d 0) (nrows xs)) fr) none
    | _ => none)
  else none

def evOp (run : Run) (o : Oper) (fr : Fr) (k : Fr → Option R) : Option R :=
  let P := E.P
  let d := o.dst.getD 0
  let fin (m : MV) : Option R := k (fr.finish o.dst m)
  match o.op with
  | .move x => fin (opnd fr x)
  | .assign x => fin (opnd fr x)
  | .pick c a b => bnd (gBool (opnd fr c)) fun c => br c (fin (opnd fr a)) (fin (opnd fr b))
  | .alloc t => if okT P t then fr.lay (.loc d 0) (.cells ((tzero P t).map ofCell)) fun fr => k (fr.finish o.dst (.ptr (.loc d 0) 0)) else none
  | .box _ x => (match opnd fr x with
      | .agg cs => fr.lay (.loc d 0) (.cells cs) fun fr => k (fr.finish o.dst (.ptr (.loc d 0) 0))
      | m => if m.one then fr.lay (.loc d 0) (.cells [m]) fun fr => k (fr.finish o.dst (.ptr (.loc d 0) 0)) else none)
  | .load t a => evLoad E t (opnd fr a) fr fin
  | .store t a x => evStore E t (opnd fr a) (opnd fr x) fr fun fr => k (fr.finish o.dst .undef)
  | .nilCheck x => fr.live (opnd fr x) (match opnd fr x with | .ptr h o' => fin (.ptr h o') | .fn g c => fin (.fn g c) | .ptrE h n i c => fin (.ptrE h n i c) | .ptrS r c => fin (.ptrS r c) | _ => none)
  | .binOp op t x y _ =>
    if isAgg P t then (match opnd fr x, opnd fr y with
      | .agg xs, .agg ys => if P.eqGuardType P.depth t then none else bnd (eqT P 8 t xs ys) fun b => (match op with | .eql => fin (.bool b) | .neq => fin (.bool (bNot b)) | _ => none)
      | _, _ => none)
    else (match opnd fr x with
      | .iface a => if isNilC y && isIfT P t then (match op with | .eql => fin (.bool a) | .neq => fin (.bool (bNot a)) | _ => none) else none
      | _ => evBin (isBoolT P t) op (opnd fr x) (opnd fr y) fin)
  | .unOp op _ x => (match op, opnd fr x with
      | .not, .bool b => fin (.bool (bNot b))
      | .neg, .int kd n => fin (.int kd (iSub kd 0 n))
      | _, _ => none)
  | .convert src dst x => (match P.underlying src, P.underlying dst, opnd fr x with
      | some _, some (.int kd), .int _ n => fin (.int kd (iWrap kd n))
      | some _, some .string, .str s => fin (.str s)
      | some _, some .string, .int _ n => br (bAnd (iLe 0 n) (iLt n 128)) (fin (.str (sOne n))) none
      | some (.slice e), some .string, m => if isByteT P e then fr.rows m fun rows => bnd (rowsStr rows) fun s => fin (.str s) else none
      | _, _, _ => none)
  | .makeFunc f first caps => (match f with | .func g => if first.size = 0 then fin (.fn g (caps.toList.map (opnd fr))) else none | _ => none)
  | .makeMap _ none => fr.lay (.loc d 0) (.map []) fun fr => k (fr.finish o.dst (.mapr (.loc d 0)))
  | .makeSlice t l c => (match elemT P t, opnd fr l, opnd fr c with
      | some e, .int _ n, .int _ m => if okT P e && (Nat.ble 1 (tbytes P e) && (zeroRow P e).all MV.svOne) then br (bAnd (iEq n m) (bAnd (iLe 0 n) (fits n 0 (tbytes P e)))) (fr.lay (.loc d 0) (.rows (repR n (zeroRow P e))) fun fr => k (fr.finish o.dst (.ref (.loc d 0) (nrows (repR n (zeroRow P e)))))) none else none
      | _, _, _ => none)
  | .buildSlice t n parts =>
      (match elemT P t with
      | some e => (match partsE fr parts.toList with
        | some ps => freezeP ps fr fun ps fr =>
          (match fillE (fun i => some (i * tsize P e, tsize P e)) (zeroCs P e n) ps with
          | some out => if okT P e && (Nat.ble (n * tsize P e) 16777216 && out.all MV.svOne) then
              fr.lay (.loc d 0) (.rows (chop (tsize P e) n out)) fun fr => k (fr.finish o.dst (.ref (.loc d 0) (nrows (chop (tsize P e) n out)))) else none
          | none => none)
        | none => none)
      | none => none)
  | .build t parts => (match P.underlying t with
      | some (.struct fs) => (match partsE fr parts.toList with
        | some ps => if zeroOk P t && fs.all (fun f => (P.info? f.type).isSome) then
          (match fillE (fun i => match fs[i]? with | some f => some (f.offset, tsize P f.type) | none => none) ((tzero P t).map ofCell) ps with
          | some out => fin (.agg out)
          | none => none) else none
        | none => none)
      | _ => none)
  | .slice t x lo hi mx => (match P.underlying t, opnd fr x, mx with
      | some .string, .str s, none =>
        let l : MV := sbound fr lo 0
        let h : MV := sbound fr hi (sLen s)
        bnd (gInt .i64 l) fun l => bnd (gInt .i64 h) fun h => br (bAnd (iLe 0 l) (bAnd (iLe l h) (iLe h (sLen s)))) (fin (.str (sSub s l h))) none
      | some (.slice e), .sl rows, none => if (P.info? e).isSome then
        let l : MV := sbound fr lo 0
        let h : MV := sbound fr hi (nrows rows)
        bnd (gInt .i64 l) fun l => bnd (gInt .i64 h) fun h => br (bAnd (okR (tsize P e) rows) (bAnd (iLe 0 l) (bAnd (iLe l h) (iLe h (nrows rows))))) (fin (.sl (subR rows l h))) none else none
      | some (.slice e), .ref hd n, none => if (P.info? e).isSome then
        fr.rows (.ref hd n) fun rows =>
        let l : MV := sbound fr lo 0
        let h : MV := sbound fr hi (nrows rows)
        bnd (gInt .i64 l) fun l => bnd (gInt .i64 h) fun h => br (bAnd (iEq l 0) (iEq h (nrows rows))) (fin (.ref hd n)) none else none
      | _, _, _ => none)
  | .fieldAddr t x f => bnd (fieldOff P t f) fun p => if tsize P p.2 = 0 then none else fr.live (opnd fr x) (match opnd fr x with
      | .ptr h o' => fin (.ptr h (o' + p.1))
      | .ptrS row c => fin (.ptrS row (c + p.1))
      | .ptrE h n i c => fin (.ptrE h n i (c + p.1))
      | _ => none)
  | .field t x f => bnd (fieldOff P t f) fun p => (match opnd fr x with
      | .agg cs => if okT P p.2 && Nat.ble (p.1 + tsize P p.2) cs.length then fin (pack P p.2 ((cs.drop p.1).take (tsize P p.2))) else none
      | _ => none)
  | .indexAddr t x i => (match opnd fr i, opnd fr x with
      | .int _ n, .sl rows => bnd (elemT P t) fun e => bnd (rowZ (tsize P e) rows n) fun row => fin (.ptrS row 0)
      | .int _ n, .ref h m => bnd (elemT P t) fun e => fr.rows (.ref h m) fun rows => bnd (rowZ (tsize P e) rows n) fun _ => fin (.ptrE h m n 0)
      | _, _ => none)
  | .index t x i => if isStringT P t then (match opnd fr x, opnd fr i with
      | .str s, .int _ n => bnd (sAt s n) fun b => fin (.int .u8 b)
      | _, _ => none) else none
  | .extract x j => (match opnd fr x with
      | .tup vs => if j < vs.length then fin (vs.getD j .undef) else none
      | _ => none)
  | .lookup t x key ok => if mapOk P t then (match opnd fr x, opnd fr key, ok with
      | .mapr h, .str s, false => (match fr.obj h with
        | .map es => fin (.bool (mapGet es s))
        | _ => none)
      | _, _, _ => none) else none
  | .mapUpdate t m key x => if mapOk P t then (match opnd fr m, opnd fr key, opnd fr x with
      | .mapr h, .str s, .bool b => (match fr.obj h with
        | .map es => k ((fr.setObj h (.map (mapSet es s b))).finish o.dst .undef)
        | _ => none)
      | _, _, _ => none) else none
  | .call c => (match c.callee with
      | .builtin .len => (match c.argTypes.toList, c.args.toList with
        | [t], [x] => (match P.underlying t, opnd fr x with
          | some .string, .str s => fin (.int .i64 (sLen s))
          | some (.slice _), m => fr.rows m fun rows => fin (.int .i64 (nrows rows))
          | _, _ => none)
        | _, _ => none)
      | .builtin .max => (match c.args.toList with
        | [x, y] => (match opnd fr x, opnd fr y with
          | .int .i64 a, .int .i64 b => fin (.int .i64 (iMax a b))
          | _, _ => none)
        | _ => none)
      | .builtin .min => (match c.args.toList with
        | [x, y] => (match opnd fr x, opnd fr y with
          | .int .i64 a, .int .i64 b => fin (.int .i64 (iMin a b))
          | _, _ => none)
        | _ => none)
      | .builtin .append => (match c.argTypes.toList, c.args.toList with
        | [t, tx], [x, y] => (match elemT P t, P.underlying tx with
          | some e, some .string => (match opnd fr y with
            | .str b => if isByteT P e then evAppend E d (opnd fr x) e (byteRows b) fr fun m fr => k (fr.finish o.dst m) else none
            | _ => none)
          | some e, some (.slice _) => fr.rows (opnd fr y) fun xs => evAppend E d (opnd fr x) e xs fr fun m fr => k (fr.finish o.dst m)
          | _, _ => none)
        | _, _ => none)
      | .value f => (match opnd fr f with
        | .fn g caps => evCall E run g (c.args.toList.map (opnd fr) ++ caps) fr o k
        | _ => none)
      | _ => none)
  | _ => none

/-! what an operation looks at in memory, and what it writes -/
structure Fp where
  rd : List H
  wr : List H
  fam : Option Nat
def refsO : Obj → List H | .cells cs => cs.flatMap refs1 | _ => []
def hOf : MV → List H | .ptr h _ => [h] | .ptrE h _ _ _ => [h] | .ref h _ => [h] | .mapr h => [h] | _ => []
def fpCall (f : FuncId) (args : List MV) (fr : Fr) (o : Oper) : Fp :=
  if !(E.mv f || E.io f) && (scalarT E o.type && (args.flatMap handles).isEmpty) then ⟨args.flatMap refsM, [], none⟩
  else ⟨[], args.flatMap refsM ++ (closeH fr (args.flatMap handles ++ ioRefs E f args) ++ (closeH fr (args.flatMap handles ++ ioRefs E f args)).flatMap fun h => refsO (fr.obj h)), some (o.dst.getD 0)⟩
def fp (o : Oper) (fr : Fr) : Fp :=
  match o.op with
  | .load _ a => ⟨hOf (opnd fr a), [], none⟩
  | .nilCheck a => ⟨hOf (opnd fr a), [], none⟩
  | .fieldAddr _ a _ => ⟨hOf (opnd fr a), [], none⟩
  | .indexAddr _ a _ => ⟨hOf (opnd fr a), [], none⟩
  | .convert _ _ a => ⟨hOf (opnd fr a), [], none⟩
  | .slice _ a _ _ _ => ⟨hOf (opnd fr a), [], none⟩
  | .store _ a x => ⟨[], hOf (opnd fr a) ++ refsM (opnd fr x), none⟩
  | .alloc _ => ⟨[], [], some (o.dst.getD 0)⟩
  | .makeSlice _ _ _ => ⟨[], [], some (o.dst.getD 0)⟩
  | .box _ _ => ⟨[], [], some (o.dst.getD 0)⟩
  | .buildSlice _ _ parts => ⟨[], parts.toList.flatMap fun p => refsM (opnd fr p.2), some (o.dst.getD 0)⟩
  | .call c => (match c.callee with
    | .builtin .append => (match c.args.toList with
      | [x, y] => ⟨hOf (opnd fr y), hOf (opnd fr x), some (o.dst.getD 0)⟩
      | _ => ⟨[], [], none⟩)
    | .builtin _ => ⟨c.args.toList.flatMap fun x => hOf (opnd fr x), [], none⟩
    | .value f => (match opnd fr f with
      | .fn g caps => fpCall E g (c.args.toList.map (opnd fr) ++ caps) fr o
      | _ => ⟨[], [], none⟩)
    | _ => ⟨[], [], none⟩)
  | _ => ⟨[], [], none⟩
/-- kinds of operations that may stand in a region of any order -/
def anyOk (o : Oper) (fr : Fr) : Bool :=
  match o.op with
  | .move _ | .assign _ | .pick _ _ _ | .alloc _ | .box _ _ | .load _ _ | .nilCheck _ | .binOp _ _ _ _ _ | .unOp _ _ _ | .convert _ _ _ | .makeFunc _ _ _ | .makeSlice _ _ _ | .buildSlice _ _ _ | .build _ _
  | .slice _ _ _ _ _ | .fieldAddr _ _ _ | .field _ _ _ | .indexAddr _ _ _ | .index _ _ _ | .extract _ _ | .call _ => true
  | .store _ _ _ => true
  | _ => false
def Fp.hits (p : Fp) (h : H) : Bool := p.wr.contains h || (match p.fam, h with | some d, .loc t _ => d == t | _, _ => false)
def Fp.apart (p q : Fp) : Bool := q.rd.all (fun h => !p.hits h) && (q.wr.all (fun h => !p.hits h) && (p.rd.all (fun h => !q.hits h) && (p.wr.all (fun h => !q.hits h) && (match p.fam, q.fam with | some a, some b => a != b | _, _ => true))))
/-- operations that no edge orders are apart in memory, too -/
def Fp.empty (p : Fp) : Bool := match p with | ⟨[], [], none⟩ => true | _ => false
def idxFp : List Fp → Nat → List (Fp × Nat)
  | [], _ => []
  | p :: ps, i => if p.empty then idxFp ps (i + 1) else (p, i) :: idxFp ps (i + 1)
/-- an edge, or edges one behind the other, lead from i to j -/
def pathB (all : Array Oper) : Nat → Nat → Nat → Bool
  | 0, _, _ => false
  | f + 1, i, j => (match all[j]? with
    | some oj => oj.after.any (fun e => Region.binds .any e && (e.on == i || (Nat.blt i e.on && pathB all f i e.on)))
    | none => false)
def apartAll (all : Array Oper) (p : Fp) (i : Nat) : List (Fp × Nat) → Bool
  | [] => true
  | (q, j) :: qs => (p.apart q || pathB all 6 i j) && apartAll all p i qs
def apartPs (all : Array Oper) : List (Fp × Nat) → Bool
  | [] => true
  | (p, i) :: ps => apartAll all p i ps && apartPs all ps
def anyApart (all : Array Oper) (ps : List Fp) : Bool := apartPs all (idxFp ps 0)

/-- the operations of a region, in the order of the text -/
def skipped : MV → Bool | .tup [] => true | _ => false
def evOps (run : Run) (all : Array Oper) : List Oper → Fr → (Fr → Option R) → Option R
  | [], fr, k => k fr
  | o :: os, fr, k =>
    match o.guard with
    | none => evOp E run o fr fun fr => evOps run all os fr k
    | some (j, want) => (match (all[j]?).bind (·.dst) with
      | some d => (match skipped (fr.get d) with
        | true => evOps run all os (fr.finish o.dst (.tup [])) k
        | false => bnd (gBool (fr.get d)) fun b =>
          br (if want then b else bNot b) (evOp E run o (fr.set d (.bool want)) fun fr => evOps run all os fr k)
          (evOps run all os ((fr.set d (.bool !want)).finish o.dst (.tup [])) k))
      | none => none)

def firstReg : Code → Nat
  | .region id _ _ => id
  | .seq a _ => firstReg a
  | .block _ c => firstReg c
  | .loop c => firstReg c
  | .cond _ a _ => firstReg a
  | _ => 0
def nodupH : List H → Bool
  | [] => true
  | h :: hs => !(hs.any fun x => x == h) && nodupH hs
/-- the same, in a region of any order: what each looks at is kept -/
def evOpsD (run : Run) (all : Array Oper) : List Oper → List Fp → Fr → (Fr → Option R) → Option R
  | [], ps, fr, k => if anyApart all ps.reverse && nodupH (fr.ob.map (·.1)) then k fr else none
  | o :: os, ps, fr, k =>
    match o.guard with
    | none => if anyOk o fr then evOp E run o fr fun fr1 => evOpsD run all os (fp E o fr :: ps) fr1 k else none
    | some (j, want) => (match (all[j]?).bind (·.dst) with
      | some d => (match skipped (fr.get d) with
        | true => evOpsD run all os (⟨[], [], none⟩ :: ps) (fr.finish o.dst (.tup [])) k
        | false => bnd (gBool (fr.get d)) fun b =>
          br (if want then b else bNot b) (if anyOk o fr then evOp E run o (fr.set d (.bool want)) fun fr1 => evOpsD run all os (fp E o (fr.set d (.bool want)) :: ps) fr1 k else none)
          (evOpsD run all os (⟨[], [], none⟩ :: ps) ((fr.set d (.bool !want)).finish o.dst (.tup [])) k))
      | none => none)

inductive Ex where | normal | ret | exit (id : Nat)

def subOb (f : H → Option H) (ob : Ob) : Ob := ob.filterMap fun p => match f p.1 with | some h' => some (h', subO f p.2) | none => none
def Fr.sub (fr : Fr) (f : H → Option H) : Fr := { sl := fr.sl.map (subM f), ob := subOb f fr.ob }
def Fr.cut (fr : Fr) (kp : H → Bool) : Fr := fr.sub fun h => if kp h then some h else none
/-- the temps at which operations may lay memory -/
def layers (ops : List Oper) : List Nat := ops.filterMap fun o => match o.op with
  | .alloc _ | .box _ _ | .makeMap _ _ | .makeSlice _ _ _ | .buildSlice _ _ _ => o.dst
  | .call c => (match c.callee with | .value _ => o.dst | _ => none)
  | _ => none
/-- before a region: the names that it lays anew are free. (A temp that names its own memory now, and is read in this region, keeps it not.) -/
def Fr.kill (fr : Fr) (ks : List Nat) : Fr :=
  match ks with
  | [] => fr
  | _ => if fr.ob.any (fun p => match p.1 with | .loc t _ => ks.contains t | _ => false) then fr.cut (fun h => match h with | .loc t _ => !ks.contains t | _ => true) else fr
def keepLive (ls : List Nat) (l : List MV) : List MV := l.zipIdx.map fun (m, j) => if ls.contains j then m else .undef
/-- at a loop's head -/
def Fr.ren (fr : Fr) (a b : H) : Fr := fr.sub fun h => if h = a then some b else if h = b then none else some h
def Fr.layNil (fr : Fr) (h : H) : Fr := (fr.cut fun h' => h' != h).setObj h (.rows [])
def Fr.own1 (fr : Fr) : Nat × Option Nat × H → Fr
  | (s, none, h) => (match fr.get s with
    | .nils => (match (fr.layNil h).get s with | .nils => (fr.layNil h).set s (.ref h (nrows [])) | _ => fr)
    | .ref h' _ => if h' = h ∨ isImp h' = true ∨ (isK h' && !isK h) = true then fr else fr.ren h' h
    | _ => fr)
  | (s, some c, h) => (match fr.get s with
    | .ptr b _ => (match fr.obj b with
      | .cells cs => (match cs.getD c .undef with
        | .nils => (match (fr.layNil h).obj b with
          | .cells cs' => (match cs'.getD c .undef with | .nils => (fr.layNil h).setObj b (.cells (cs'.set c (.ref h (nrows [])))) | _ => fr)
          | _ => fr)
        | .ref h' _ => if h' = h ∨ isImp h' = true ∨ (isK h' && !isK h) = true then fr else fr.ren h' h
        | _ => fr)
      | _ => fr)
    | _ => fr)
def isLoc : H → Bool | .loc _ _ => true | _ => false
def liveH (sl : List MV) (ob : Ob) : List H :=
  let a := sl.flatMap fun m => (handles m) ++ (match m with | .ref h _ => [h] | .ptrE h _ _ _ => [h] | .agg cs => cs.flatMap (fun | .ref h _ => [h] | _ => []) | _ => [])
  a ++ ob.flatMap fun p => match p.2 with | .cells cs => cs.flatMap fun m => (handles m) ++ (match m with | .ref h _ => [h] | _ => []) | _ => []
/-- memory in the order of its names -/
def hKey : H → Nat | .imp i => i | .impc i j => 1000000000 + (i * 1000000 + j) | .loc t j => 1000000000000000000 + (t * 1000000 + j)
def insOb (p : H × Obj) : Ob → Ob
  | [] => [p]
  | q :: r => if Nat.ble (hKey p.1) (hKey q.1) then p :: q :: r else q :: insOb p r
def sortOb : Ob → Ob
  | [] => []
  | p :: r => insOb p (sortOb r)
def Fr.sort (fr : Fr) : Fr := { fr with ob := sortOb fr.ob }
/-- what is behind a loop's head: live slots, boxes that these lead to, in the order of their names' first laying -/
def Fr.head (fr : Fr) (a : Ann) : Fr :=
  let fr1 := (a.own.filter fun x => isLoc x.2.2).foldl Fr.own1 { fr with sl := keepLive a.live fr.sl }
  let l1 := liveH fr1.sl (fr1.ob.filter fun p => (liveH fr1.sl []).contains p.1)
  (fr1.cut fun h => l1.contains h || (match h with | .imp _ => true | .impc _ _ => true | _ => false)).sort

def loopN (f r : Nat) : Nat → (Fr → (Ex → Fr → Option R) → Option R) → (Fr → Fr) → Fr → (Ex → Fr → Option R) → Option R
  | 0, _, _, _, _ => none
  | n + 1, body, fg, fr, k => body fr fun e fr => match e with | .normal => loopN f r n body fg (fg fr) k | e => k e fr

/-- a place where ways meet: what is not live is forgotten -/
def joinN (f r : Nat) (body : Fr → (Ex → Fr → Option R) → Option R) (fr : Fr) (k : Ex → Fr → Option R) : Option R := body fr k

def evCode (run : Run) (L : Nat) (f : FuncId) : Code → Fr → (Ex → Fr → Option R) → Option R
  | .skip, fr, k => k .normal fr
  | .region _ ops d, fr, k => if d then evOpsD E run ops ops.toList [] (fr.kill (layers ops.toList)) (fun fr => k .normal fr) else evOps E run ops ops.toList (fr.kill (layers ops.toList)) fun fr => k .normal fr
  | .seq a b, fr, k => evCode run L f a fr fun e fr => match e with | .normal => (match E.cut f (firstReg b) with | some an => joinN f (firstReg b) (evCode run L f b) (fr.head an) k | none => evCode run L f b fr k) | e => k e fr
  | .cond c a b, fr, k => bnd (gBool (opnd fr c)) fun t => br t (evCode run L f a fr k) (evCode run L f b fr k)
  | .block id c, fr, k => evCode run L f c fr fun e fr => match e with | .exit i => if i = id then k .normal fr else k (.exit i) fr | e => k e fr
  | .loop c, fr, k => loopN f (firstReg c) L (evCode run L f c) (fun fr => fr.head (E.ann f (firstReg c))) (fr.head (E.ann f (firstReg c))) k
  | .exit id, fr, k => k (.exit id) fr
  | .ret, fr, k => k .ret fr
  | _, _, _ => none

def codeAt : Code → List Nat → Code
  | c, [] => c
  | .seq a b, p :: ps => if p = 0 then codeAt a ps else codeAt b ps
  | .cond _ a b, p :: ps => if p = 0 then codeAt a ps else codeAt b ps
  | .block _ c, _ :: ps => codeAt c ps
  | .loop c, _ :: ps => codeAt c ps
  | c, _ => c
/-- what is behind a place of the code; for each loop around it the rounds that are left -/
def kontAt (run : Run) (L : Nat) (f : FuncId) : Code → List Nat → List Nat → (Ex → Fr → Option R) → (Ex → Fr → Option R)
  | _, [], _, k => k
  | .seq a b, p :: ps, ns, k => if p = 0 then kontAt run L f a ps ns (fun e fr => match e with | .normal => (match E.cut f (firstReg b) with | some an => joinN f (firstReg b) (evCode E run L f b) (fr.head an) k | none => evCode E run L f b fr k) | e => k e fr) else kontAt run L f b ps ns k
  | .cond _ a b, p :: ps, ns, k => if p = 0 then kontAt run L f a ps ns k else kontAt run L f b ps ns k
  | .block id c, _ :: ps, ns, k => kontAt run L f c ps ns (fun e fr => match e with | .exit i => if i = id then k .normal fr else k (.exit i) fr | e => k e fr)
  | .loop c, _ :: ps, ns, k => kontAt run L f c ps ns.tail (fun e fr => match e with | .normal => loopN f (firstReg c) (ns.headD 0) (evCode E run L f c) (fun fr => fr.head (E.ann f (firstReg c))) (fr.head (E.ann f (firstReg c))) k | e => k e fr)
  | _, _, _, k => k
def findLoop : Code → Nat → Option (List Nat)
  | .seq a b, r => (match findLoop a r with | some p => some (0 :: p) | none => (findLoop b r).map (1 :: ·))
  | .cond _ a b, r => (match findLoop a r with | some p => some (0 :: p) | none => (findLoop b r).map (1 :: ·))
  | .block _ c, r => (findLoop c r).map (0 :: ·)
  | .loop c, r => if firstReg c = r then some [] else (findLoop c r).map (0 :: ·)
  | _, _ => none
end

/-! a function's begin and end -/
section
variable {R : Type}
def layB : List Obj → Nat → Fr → (Fr → Option R) → Option R
  | [], _, fr, k => k fr
  | o :: os, i, fr, k => fr.lay (.imp i) (forgetO o) fun fr => layB os (i + 1) fr k
def start (fn : Func) (args : List MV) (imps : List Obj) (k : Fr → Option R) : Option R :=
  layB imps 0 ⟨[], []⟩ fun fr => backO (fun i j => .impc i j) ((List.range imps.length).map .imp) imps 0 fr fun fr =>
    layA (fun t j => .loc t j) args 0 fr fun sl fr => k { fr with sl := sl ++ List.replicate (fn.ntmps - args.length) .undef }
def resL (E : Env) (fr : Fr) : List ResultVar → (List MV → Option R) → Option R
  | [], k => k []
  | .tmp t :: rs, k => resL E fr rs fun ms => k (fr.get t :: ms)
  | .cell t ty :: rs, k => if okT E.P ty then (match fr.get t with
    | .ptr h off => (match fr.obj h with
      | .cells cs => if off + tsize E.P ty ≤ cs.length then resL E fr rs fun ms => k (pack E.P ty ((cs.drop off).take (tsize E.P ty)) :: ms) else none
      | _ => none)
    | _ => none) else none
end
def newBox : List MV → List H
  | [.ptr (.loc t j) _] => [.loc t j]
  | [.mapr (.loc t j)] => [.loc t j]
  | _ => []
def mkRes : List MV → MV
  | [m] => m
  | ms => .tup ms
/-- the end of a function; n boxes came in -/
def fin (E : Env) (f : FuncId) (fn : Func) (n : Nat) (e : Ex) (fr : Fr) : Option Res :=
  match e with
  | .exit _ => none
  | _ => resL E fr fn.results.toList fun res => giveA (E.keep f) res fr fun res fr =>
    let hs := (List.range n).map .imp ++ newBox res
    giveO hs fr fun os _ => some (mkRes (res.map (subM (toI hs))), os.map (subO (toI hs)))
/-- a function's answer -/
def ev (E : Env) (L : Nat) : Nat → Run
  | 0, _, _, _ => none
  | D + 1, f, args, imps =>
    match E.ext f with
    | some g => (g args).map fun m => (m, imps)
    | none =>
    match E.P.funcs[f]? with
    | none => none
    | some fn => match fn.body with
      | none => none
      | some c => if E.okf f then start fn args imps fun fr => evCode E (ev E L D) L f c fr (fin E f fn imps.length) else none
theorem ev_succ {E : Env} {L D f : Nat} {fn : Func} {c : Code} (args : List MV) (imps : List Obj) (hx : E.ext f = none) (h : E.P.funcs[f]? = some fn) (hb : fn.body = some c) (ho : E.okf f = true) :
    ev E L (D + 1) f args imps = start fn args imps fun fr => evCode E (ev E L D) L f c fr (fin E f fn imps.length) := by
  rw [ev, hx, h]; simp only; rw [hb]; simp only; rw [if_pos ho]
/-- a loop of a function, from its head on -/
def lp (E : Env) (L D f : Nat) (fn : Func) (c : Code) (ni : Nat) (p : List Nat) (r : Nat) (ns : List Nat) (fr : Fr) (n : Nat) : Option Res :=
  loopN f r n (evCode E (ev E L D) L f (codeAt c (p ++ [0]))) (fun fr => fr.head (E.ann f r)) fr (kontAt E (ev E L D) L f c p ns (fin E f fn ni))
/-- from where ways meet on; p: the place of the 'seq' -/
def jp (E : Env) (L D f : Nat) (fn : Func) (c : Code) (ni : Nat) (p : List Nat) (r : Nat) (ns : List Nat) (fr : Fr) : Option Res :=
  joinN f r (evCode E (ev E L D) L f (codeAt c (p ++ [1]))) fr (kontAt E (ev E L D) L f c (p ++ [1]) ns (fin E f fn ni))
def jpS (E : Env) (L D f : Nat) (fn : Func) (c : Code) (ni : Nat) (p : List Nat) (ns : List Nat) (fr : Fr) : Option Res :=
  evCode E (ev E L D) L f (codeAt c (p ++ [1])) fr (kontAt E (ev E L D) L f c (p ++ [1]) ns (fin E f fn ni))
/-- one round of it, and the rest -/
def lpS (E : Env) (L D f : Nat) (fn : Func) (c : Code) (ni : Nat) (p : List Nat) (r : Nat) (ns : List Nat) (fr : Fr) (n : Nat) : Option Res :=
  evCode E (ev E L D) L f (codeAt c (p ++ [0])) fr fun e fr => match e with
    | .normal => loopN f r n (evCode E (ev E L D) L f (codeAt c (p ++ [0]))) (fun fr => fr.head (E.ann f r)) (fr.head (E.ann f r)) (kontAt E (ev E L D) L f c p ns (fin E f fn ni))
    | e => kontAt E (ev E L D) L f c p ns (fin E f fn ni) e fr
theorem lp_succ (E : Env) (L D f : Nat) (fn : Func) (c : Code) (ni : Nat) (p : List Nat) (r : Nat) (ns : List Nat) (fr : Fr) (n : Nat) : lp E L D f fn c ni p r ns fr (n + 1) = lpS E L D f fn c ni p r ns fr n := by
  unfold lp lpS
  rw [loopN]
end Kw
namespace Kw
set_option linter.unusedVariables false
set_option linter.unusedSimpArgs false
set_option linter.unusedSectionVars false
open Go
variable [Gl]

/-- what an immutable value says of a machine's value -/
inductive SV (w : World) (prot : Nat → Prop) : Value → MV → Prop
  | bool (b : Bool) : SV w prot (.bool b) (.bool b)
  | int (k : IntKind) (n : Int) : SV w prot (.int k n) (.int k n)
  | str (s : ByteArray) : SV w prot (.string s) (.str s)
  | ifN : SV w prot .nilIface (.iface true)
  | ifS (t : TypeId) (v : Value) : SV w prot (.iface t v) (.iface false)
  | sl {a : Option Addr} {n c : Nat} {rows : List Row} (sz : Nat) (vf : Nat → Nat → Value) (hn : rows.length = n) (hc : n ≤ c)
      (hrow : ∀ (i : Nat) (row : Row), rows[i]? = some row → row.length = sz)
      (had : 0 < n → ∃ ad : Addr, a = some ad ∧ ad.spot = none ∧ prot ad.block ∧
        ∀ (i : Nat) (row : Row) (j : Nat) (m : MV), rows[i]? = some row → row[j]? = some m → w.cell? ⟨ad.block, ad.off + (i * sz + j), none⟩ = some (vf i j))
      (hsv : ∀ (i : Nat) (row : Row) (j : Nat) (m : MV), rows[i]? = some row → row[j]? = some m → SV w prot (vf i j) m) :
      SV w prot (.slice a n c) (.sl rows)

inductive GH where
  | absent | dead | nil
  | box (b : Nat)
  | mem (b cap sz : Nat)
def GH.blk : GH → Option Nat
  | .box b => some b
  | .mem b _ _ => some b
  | _ => none
structure G where
  rho : H → GH
  prot : Nat → Prop

inductive RV (g : G) (cur : H → Int) (w : World) : Value → MV → Prop
  | undef (v : Value) : RV g cur w v .undef
  | sv {v : Value} {m : MV} (h : SV w g.prot v m) : RV g cur w v m
  | nilp : RV g cur w (.pointer none) .nilp
  | nils : RV g cur w (.slice none 0 0) .nils
  | ptr {h : H} {off b : Nat} (e : g.rho h = .box b) : RV g cur w (.pointer (some ⟨b, off, none⟩)) (.ptr h off)
  | mapr {h : H} {b : Nat} (e : g.rho h = .box b) : RV g cur w (.map (some b)) (.mapr h)
  | ref {v : Value} {h : H} {n : Int} {b c s : Nat} (e : g.rho h = .mem b c s) (hle : n ≤ cur h) (hv : n = cur h → v = .slice (some ⟨b, 0, none⟩) n.toNat c) (h1 : v.oneCell' = true) : RV g cur w v (.ref h n)
  | refN {v : Value} {h : H} {n : Int} (e : g.rho h = .nil) (hle : n ≤ cur h) (hv : n = cur h → ∃ a, v = .slice a 0 0) (h1 : v.oneCell' = true) : RV g cur w v (.ref h n)
  | ptrS {ad : Addr} {row : Row} {c : Nat} (vf : Nat → Value) (hp : g.prot ad.block) (hs : ad.spot = none)
      (hc : ∀ (j : Nat) (m : MV), row[j]? = some m → w.cell? ⟨ad.block, ad.off + j, none⟩ = some (vf j))
      (hsv : ∀ (j : Nat) (m : MV), row[j]? = some m → SV w g.prot (vf j) m) : RV g cur w (.pointer (some ⟨ad.block, ad.off + c, none⟩)) (.ptrS row c)
  | ptrE {v : Value} {h : H} {n i : Int} {c b cap s : Nat} (e : g.rho h = .mem b cap s) (hle : n ≤ cur h) (hv : n = cur h → v = .pointer (some ⟨b, i.toNat * s + c, none⟩)) (h1 : v.oneCell' = true) : RV g cur w v (.ptrE h n i c)
  | ptrEN {v : Value} {h : H} {n i : Int} {c : Nat} (e : g.rho h = .nil) (hle : n ≤ cur h) (hz : n ≠ cur h) (h1 : v.oneCell' = true) : RV g cur w v (.ptrE h n i c)
  | deadP {v : Value} {h : H} {off : Nat} (e : g.rho h = .dead) (h1 : v.oneCell' = true) : RV g cur w v (.ptr h off)
  | deadM {v : Value} {h : H} (e : g.rho h = .dead) (h1 : v.oneCell' = true) : RV g cur w v (.mapr h)
  | deadR {v : Value} {h : H} {n : Int} (e : g.rho h = .dead) (h1 : v.oneCell' = true) : RV g cur w v (.ref h n)
  | deadE {v : Value} {h : H} {n i : Int} {c : Nat} (e : g.rho h = .dead) (h1 : v.oneCell' = true) : RV g cur w v (.ptrE h n i c)
  | fn {f : FuncId} {vs : Array Value} {caps : List MV} (hl : vs.size = caps.length)
      (hr : ∀ (j : Nat) (v : Value) (m : MV), vs[j]? = some v → caps[j]? = some m → RV g cur w v m) : RV g cur w (.func (.func f) #[] vs) (.fn f caps)
  | agg {vs : Array Value} {cs : List MV} (hl : vs.size = cs.length)
      (hr : ∀ (j : Nat) (v : Value) (m : MV), vs[j]? = some v → cs[j]? = some m → RV g cur w v m) : RV g cur w (.agg vs) (.agg cs)
  | tup {vs : Array Value} {cs : List MV} (hl : vs.size = cs.length)
      (hr : ∀ (j : Nat) (v : Value) (m : MV), vs[j]? = some v → cs[j]? = some m → RV g cur w v m) : RV g cur w (.tuple vs) (.tup cs)

def cur (ob : Ob) (h : H) : Int := match look ob h with | .rows x => nrows x | .froz x => nrows x | _ => -1

def RowsR (w : World) (prot : Nat → Prop) (arr : Array Value) (sz : Nat) (rs : List Row) : Prop :=
  ∀ (i : Nat) (row : Row), rs[i]? = some row → row.length = sz ∧ ∀ (j : Nat) (m : MV), row[j]? = some m → ∃ v, arr[i * sz + j]? = some v ∧ SV w prot v m
/-- the entry of a key -/
def kp (s : ByteArray) (e : MapEntry) : Bool := match e.key with | .string s' => s'.toList == s.toList | _ => false
def MapR (ents : Array MapEntry) (es : List (ByteArray × Bool)) : Prop :=
  (∀ e ∈ ents.toList, ∃ s b, e.key = .string s ∧ e.val = .bool b) ∧
  ∀ s : ByteArray, match ents.toList.find? (kp s) with
    | some e => e.val = .bool (mapGet es s)
    | none => mapGet es s = false
/-- a slice's memory; an empty one has no room, or (k) room for elements of four cells -/
def Room (k : Bool) (arr : Array Value) (cap sz : Nat) (rs : List Row) : Prop := cap * sz ≤ arr.size ∧ (rs = [] → cap = 0 ∨ (k = true ∧ sz = 4))
theorem Room.weak {k k' : Bool} {arr : Array Value} {cap sz : Nat} {rs : List Row} (h : Room k arr cap sz rs) (hk : k = true → k' = true) : Room k' arr cap sz rs := ⟨h.1, fun e => (h.2 e).imp id fun ⟨a, b⟩ => ⟨hk a, b⟩⟩
def ObjR (g : G) (cu : H → Int) (w : World) (h : H) : Obj → Prop
  | .none => g.rho h = .dead
  | .cells cs => ∃ b arr ty, g.rho h = .box b ∧ w.heap[b]? = some (.cells arr ty (0, 0)) ∧ ¬ g.prot b ∧ arr.size = cs.length ∧
      ∀ (j : Nat) (v : Value) (m : MV), arr[j]? = some v → cs[j]? = some m → RV g cu w v m
  | .map es => ∃ b ents clk, g.rho h = .box b ∧ w.heap[b]? = some (.map ents clk) ∧ ¬ g.prot b ∧ MapR ents es
  | .rows rs => (g.rho h = .nil ∧ rs = []) ∨ ∃ b cap sz arr ty, g.rho h = .mem b cap sz ∧ w.heap[b]? = some (.cells arr ty (0, 0)) ∧ ¬ g.prot b ∧
      Room (isK h) arr cap sz rs ∧ rs.length ≤ cap ∧ RowsR w g.prot arr sz rs
  | .froz rs => (g.rho h = .nil ∧ rs = []) ∨ ∃ b cap sz arr ty, g.rho h = .mem b cap sz ∧ w.heap[b]? = some (.cells arr ty (0, 0)) ∧ g.prot b ∧
      Room (isK h) arr cap sz rs ∧ rs.length ≤ cap ∧ RowsR w g.prot arr sz rs

/-- the lists that package variables hold -/
def GlobOk (prot : Nat → Prop) (w : World) : Prop :=
  ∀ v m, Gl.glr v = some m → prot v ∧ ∃ x, w.cell? ⟨v, 0, none⟩ = some x ∧ SV w prot x m
structure SimO (ob : Ob) (g : G) (w : World) : Prop where
  keys : (ob.map (·.1)).Nodup
  abs : ∀ h, g.rho h = .absent ↔ h ∉ ob.map (·.1)
  obj : ∀ h o, (h, o) ∈ ob → ObjR g (cur ob) w h o
  inj : ∀ h h' b, (g.rho h).blk = some b → (g.rho h').blk = some b → h = h'
  lt : ∀ h b, (g.rho h).blk = some b → b < w.heap.size
  plt : ∀ b, g.prot b → b < w.heap.size
  gl : GlobOk g.prot w

structure Sim (fr : Fr) (g : G) (tmps : Array Value) (w : World) : Prop where
  size : tmps.size = fr.sl.length
  slot : ∀ (t : Nat) (v : Value) (m : MV), tmps[t]? = some v → fr.sl[t]? = some m → RV g (cur fr.ob) w v m
  o : SimO fr.ob g w

/-! what stays -/
theorem cell_of_heap {w w' : World} (b off : Nat) (h : w'.heap[b]? = w.heap[b]?) : w'.cell? ⟨b, off, none⟩ = w.cell? ⟨b, off, none⟩ := by
  unfold World.cell?
  rw [h]
theorem SV.mono {w w' : World} {p p' : Nat → Prop} {v : Value} {m : MV} (h : SV w p v m) (hp : ∀ b, p b → p' b) (hw : ∀ b, p b → w'.heap[b]? = w.heap[b]?) : SV w' p' v m := by
  induction h with
  | bool b => exact .bool b
  | int k n => exact .int k n
  | str s => exact .str s
  | ifN => exact .ifN
  | ifS t v => exact .ifS t v
  | sl sz vf hn hc hrow had hsv ih =>
    refine .sl sz vf hn hc hrow (fun h => ?_) ih
    obtain ⟨ad, e, hs, hb, hcell⟩ := had h
    exact ⟨ad, e, hs, hp _ hb, fun i row j m h1 h2 => (cell_of_heap _ _ (hw _ hb)).trans (hcell i row j m h1 h2)⟩
theorem GlobOk.mono {w w' : World} {p p' : Nat → Prop} (h : GlobOk p w) (hp : ∀ b, p b → p' b) (hw : ∀ b, p b → w'.heap[b]? = w.heap[b]?) : GlobOk p' w' := fun v rs e => by
  obtain ⟨h1, x, h2, h3⟩ := h v rs e
  exact ⟨hp v h1, x, (cell_of_heap _ _ (hw v h1)).trans h2, h3.mono hp hw⟩
/-- how the ghost may go on -/
structure Later (g g' : G) (cu cu' : H → Int) (w w' : World) : Prop where
  box : ∀ h b, g.rho h = .box b → g'.rho h = .box b ∨ g'.rho h = .dead
  mem : ∀ h b c s, g.rho h = .mem b c s → g'.rho h = .dead ∨ (cu h ≤ cu' h ∧ (g'.rho h = .mem b c s ∨ (cu h < cu' h ∧ ∃ b' c' s', g'.rho h = .mem b' c' s')))
  nil : ∀ h, g.rho h = .nil → g'.rho h = .dead ∨ (cu h ≤ cu' h ∧ (g'.rho h = .nil ∨ (cu h < cu' h ∧ ∃ b' c' s', g'.rho h = .mem b' c' s')))
  dead : ∀ h, g.rho h = .dead → g'.rho h = .dead
  prot : ∀ b, g.prot b → g'.prot b
  heap : ∀ b, g.prot b → w'.heap[b]? = w.heap[b]?
theorem RV.mono {g g' : G} {cu cu' : H → Int} {w w' : World} {v : Value} {m : MV} (h : RV g cu w v m) (L : Later g g' cu cu' w w') : RV g' cu' w' v m := by
  induction h with
  | undef v => exact .undef v
  | sv h => exact .sv (h.mono L.prot L.heap)
  | nilp => exact .nilp
  | nils => exact .nils
  | ptr e => rcases L.box _ _ e with h | h
             · exact .ptr h
             · exact .deadP h rfl
  | mapr e => rcases L.box _ _ e with h | h
              · exact .mapr h
              · exact .deadM h rfl
  | ref e hle hv h1 =>
    rcases L.mem _ _ _ _ e with h | ⟨hc, h | ⟨hlt, _, _, _, h⟩⟩
    · exact .deadR h h1
    · exact .ref h (by omega) (fun hn => hv (by omega)) h1
    · exact .ref h (by omega) (fun hn => absurd hn (by omega)) h1
  | refN e hle hv h1 =>
    rcases L.nil _ e with h | ⟨hc, h | ⟨hlt, _, _, _, h⟩⟩
    · exact .deadR h h1
    · exact .refN h (by omega) (fun hn => hv (by omega)) h1
    · exact .ref h (by omega) (fun hn => absurd hn (by omega)) h1
  | ptrS vf h1 h2 h3 h4 => exact .ptrS vf (L.prot _ h1) h2 (fun j m hj => (cell_of_heap _ _ (L.heap _ h1)).trans (h3 j m hj)) (fun j m hj => (h4 j m hj).mono L.prot L.heap)
  | ptrE e hle hv h1 =>
    rcases L.mem _ _ _ _ e with h | ⟨hc, h | ⟨hlt, _, _, _, h⟩⟩
    · exact .deadE h h1
    · exact .ptrE h (by omega) (fun hn => hv (by omega)) h1
    · exact .ptrE h (by omega) (fun hn => absurd hn (by omega)) h1
  | ptrEN e hle hz h1 =>
    rcases L.nil _ e with h | ⟨hc, h | ⟨hlt, _, _, _, h⟩⟩
    · exact .deadE h h1
    · exact .ptrEN h (by omega) (by omega) h1
    · exact .ptrE h (by omega) (fun hn => absurd hn (by omega)) h1
  | deadP e h1 => exact .deadP (L.dead _ e) h1
  | deadM e h1 => exact .deadM (L.dead _ e) h1
  | deadR e h1 => exact .deadR (L.dead _ e) h1
  | deadE e h1 => exact .deadE (L.dead _ e) h1
  | fn hl _ ih => exact .fn hl ih
  | agg hl _ ih => exact .agg hl ih
  | tup hl _ ih => exact .tup hl ih
theorem RV.one {g : G} {cu : H → Int} {w : World} {v : Value} {m : MV} (h : RV g cu w v m) (hm : m.one = true) : v.oneCell' = true ∧ v.cells = #[v] := by
  have : v.oneCell' = true := by
    cases h with
    | undef => simp [MV.one] at hm
    | sv h => cases h <;> rfl
    | agg => simp [MV.one] at hm
    | tup => simp [MV.one] at hm
    | nilp => rfl
    | nils => rfl
    | ptr => rfl
    | mapr => rfl
    | ptrS => rfl
    | fn => rfl
    | ref _ _ _ h => exact h
    | refN _ _ _ h => exact h
    | ptrE _ _ _ h => exact h
    | ptrEN _ _ _ h => exact h
    | deadP _ h => exact h
    | deadM _ h => exact h
    | deadR _ h => exact h
    | deadE _ h => exact h
  refine ⟨this, ?_⟩
  cases v <;> first | rfl | (simp [Value.oneCell'] at this)
end Kw
namespace Kw
set_option linter.unusedVariables false
set_option linter.unusedSimpArgs false
set_option linter.unusedSectionVars false
open Go
variable [Gl]

theorem RowsR.mono {w w' : World} {p p' : Nat → Prop} {arr : Array Value} {sz : Nat} {rs : List Row} (h : RowsR w p arr sz rs) (hp : ∀ b, p b → p' b) (hw : ∀ b, p b → w'.heap[b]? = w.heap[b]?) : RowsR w' p' arr sz rs :=
  fun i row hi => ⟨(h i row hi).1, fun j m hj => let ⟨v, hv, hs⟩ := (h i row hi).2 j m hj; ⟨v, hv, hs.mono hp hw⟩⟩
theorem ObjR.mono {g g' : G} {cu cu' : H → Int} {w w' : World} {h : H} {o : Obj} (k : ObjR g cu w h o) (L : Later g g' cu cu' w w') (hr : g'.rho h = g.rho h)
    (hb : ∀ b, (g.rho h).blk = some b → w'.heap[b]? = w.heap[b]?) (hp : ∀ b, (g.rho h).blk = some b → ¬ g.prot b → ¬ g'.prot b) : ObjR g' cu' w' h o := by
  cases o with
  | none => exact hr.trans k
  | cells cs =>
    obtain ⟨b, arr, ty, e, hh, hn, hs, hv⟩ := k
    exact ⟨b, arr, ty, hr.trans e, (hb b (by rw [e]; rfl)).trans hh, hp b (by rw [e]; rfl) hn, hs, fun j v m h1 h2 => (hv j v m h1 h2).mono L⟩
  | map es =>
    obtain ⟨b, ents, clk, e, hh, hn, hs⟩ := k
    exact ⟨b, ents, clk, hr.trans e, (hb b (by rw [e]; rfl)).trans hh, hp b (by rw [e]; rfl) hn, hs⟩
  | rows rs =>
    rcases k with ⟨e, hz⟩ | ⟨b, cap, sz, arr, ty, e, hh, hn, hs, hl, hv⟩
    · exact .inl ⟨hr.trans e, hz⟩
    · exact .inr ⟨b, cap, sz, arr, ty, hr.trans e, (hb b (by rw [e]; rfl)).trans hh, hp b (by rw [e]; rfl) hn, hs, hl, hv.mono L.prot L.heap⟩
  | froz rs =>
    rcases k with ⟨e, hz⟩ | ⟨b, cap, sz, arr, ty, e, hh, hn, hs, hl, hv⟩
    · exact .inl ⟨hr.trans e, hz⟩
    · exact .inr ⟨b, cap, sz, arr, ty, hr.trans e, (hb b (by rw [e]; rfl)).trans hh, L.prot _ hn, hs, hl, hv.mono L.prot L.heap⟩

/-! lists of objects -/
theorem look_of_mem {ob : Ob} {h : H} {o : Obj} (hk : (ob.map (·.1)).Nodup) (hm : (h, o) ∈ ob) : look ob h = o := by
  induction ob with
  | nil => cases hm
  | cons p r ih =>
    obtain ⟨h', o'⟩ := p
    simp only [List.map_cons, List.nodup_cons] at hk
    unfold look
    rcases List.mem_cons.1 hm with e | e
    · cases e; simp
    · have : h' ≠ h := fun e' => hk.1 (by rw [e']; exact List.mem_map_of_mem (f := (·.1)) e)
      rw [if_neg this]; exact ih hk.2 e
theorem mem_of_look {ob : Ob} {h : H} (hm : h ∈ ob.map (·.1)) : (h, look ob h) ∈ ob := by
  induction ob with
  | nil => simp at hm
  | cons p r ih =>
    obtain ⟨h', o'⟩ := p
    unfold look
    by_cases e : h' = h
    · rw [if_pos e, e]; exact List.mem_cons_self
    · rw [if_neg e]
      refine List.mem_cons_of_mem _ (ih ?_)
      simp only [List.map_cons, List.mem_cons] at hm
      exact hm.resolve_left (fun e' => e e'.symm)
theorem look_none {ob : Ob} {h : H} (hm : h ∉ ob.map (·.1)) : look ob h = .none := by
  induction ob with
  | nil => rfl
  | cons p r ih =>
    obtain ⟨h', o'⟩ := p
    simp only [List.map_cons, List.mem_cons, not_or] at hm
    unfold look
    rw [if_neg (fun e => hm.1 e.symm)]; exact ih hm.2
theorem mem_keys_of_look {ob : Ob} {h : H} (hn : look ob h ≠ .none) : h ∈ ob.map (·.1) := by
  by_cases hm : h ∈ ob.map (·.1)
  · exact hm
  · exact absurd (look_none hm) hn
theorem keys_put {ob : Ob} {h : H} {o : Obj} : (put ob h o).map (·.1) = if h ∈ ob.map (·.1) then ob.map (·.1) else ob.map (·.1) ++ [h] := by
  induction ob with
  | nil => simp [put]
  | cons p r ih =>
    obtain ⟨h', o'⟩ := p
    unfold put
    by_cases e : h' = h
    · rw [if_pos e]; simp [e]
    · rw [if_neg e]
      simp only [List.map_cons, ih, List.mem_cons]
      by_cases hm : h ∈ r.map (·.1)
      · rw [if_pos hm, if_pos (.inr hm)]
      · rw [if_neg hm, if_neg (by rintro (x | x); exact e x.symm; exact hm x)]; rfl
theorem nodup_put {ob : Ob} {h : H} {o : Obj} (hk : (ob.map (·.1)).Nodup) : ((put ob h o).map (·.1)).Nodup := by
  rw [keys_put]
  split
  · exact hk
  · rename_i hm
    exact List.nodup_append.2 ⟨hk, by simp, by intro a ha b hb; simp at hb; rw [hb]; exact fun e => hm (e ▸ ha)⟩
theorem mem_keys_put {ob : Ob} {h h' : H} {o : Obj} : h' ∈ (put ob h o).map (·.1) ↔ h' = h ∨ h' ∈ ob.map (·.1) := by
  rw [keys_put]
  split
  · rename_i hm; exact ⟨.inr, fun e => e.elim (fun e => e ▸ hm) id⟩
  · simp [or_comm]
theorem mem_put {ob : Ob} {h h' : H} {o o' : Obj} (hk : (ob.map (·.1)).Nodup) (hm : (h', o') ∈ put ob h o) : (h' = h ∧ o' = o) ∨ (h' ≠ h ∧ (h', o') ∈ ob) := by
  induction ob with
  | nil => simp [put] at hm; exact .inl hm
  | cons p r ih =>
    obtain ⟨k, ok⟩ := p
    simp only [List.map_cons, List.nodup_cons] at hk
    unfold put at hm
    by_cases e : k = h
    · rw [if_pos e] at hm
      rcases List.mem_cons.1 hm with x | x
      · cases x; exact .inl ⟨rfl, rfl⟩
      · refine .inr ⟨fun e' => hk.1 ?_, List.mem_cons_of_mem _ x⟩
        rw [e, ← e']; exact List.mem_map_of_mem (f := (·.1)) x
    · rw [if_neg e] at hm
      rcases List.mem_cons.1 hm with x | x
      · cases x; exact .inr ⟨e, List.mem_cons_self⟩
      · rcases ih hk.2 x with y | ⟨y, z⟩
        · exact .inl y
        · exact .inr ⟨y, List.mem_cons_of_mem _ z⟩
theorem look_put {ob : Ob} {h : H} {o : Obj} : look (put ob h o) h = o := by
  induction ob with
  | nil => simp [put, look]
  | cons p r ih =>
    obtain ⟨k, ok⟩ := p
    unfold put
    by_cases e : k = h
    · rw [if_pos e]; simp [look]
    · rw [if_neg e]; simp [look, e, ih]
theorem look_put_ne {ob : Ob} {h h' : H} {o : Obj} (hne : h' ≠ h) : look (put ob h o) h' = look ob h' := by
  induction ob with
  | nil => simp [put, look, Ne.symm hne]
  | cons p r ih =>
    obtain ⟨k, ok⟩ := p
    unfold put
    by_cases e : k = h
    · rw [if_pos e]; subst e; simp [look, Ne.symm hne]
    · rw [if_neg e]; simp only [look, ih]
theorem cur_put_ne {ob : Ob} {h h' : H} {o : Obj} (hne : h' ≠ h) : cur (put ob h o) h' = cur ob h' := by unfold cur; rw [look_put_ne hne]

/-- one object turns (or is laid): all others stay -/
theorem SimO.upd {ob : Ob} {g g' : G} {w w' : World} (S : SimO ob g w) (h : H) (o : Obj)
    (hne : ∀ h', h' ≠ h → g'.rho h' = g.rho h')
    (hnew : g'.rho h ≠ .absent)
    (L : Later g g' (cur ob) (cur (put ob h o)) w w')
    (hheap : ∀ h' b, h' ≠ h → (g.rho h').blk = some b → w'.heap[b]? = w.heap[b]?)
    (hprot : ∀ h' b, h' ≠ h → (g.rho h').blk = some b → ¬ g.prot b → ¬ g'.prot b)
    (hobj : ObjR g' (cur (put ob h o)) w' h o)
    (hinj : ∀ h' b, h' ≠ h → (g'.rho h).blk = some b → (g.rho h').blk ≠ some b)
    (hlt : ∀ b, (g'.rho h).blk = some b → b < w'.heap.size)
    (hsz : w.heap.size ≤ w'.heap.size)
    (hplt : ∀ b, g'.prot b → b < w'.heap.size) : SimO (put ob h o) g' w' where
  keys := nodup_put S.keys
  abs := fun h' => by
    rw [mem_keys_put]
    by_cases e : h' = h
    · subst e; exact ⟨fun x => absurd x hnew, fun x => absurd (.inl rfl) x⟩
    · rw [hne h' e, S.abs h']; exact ⟨fun x y => y.elim e x, fun x y => x (.inr y)⟩
  obj := fun h' o' hm => by
    rcases mem_put S.keys hm with ⟨e1, e2⟩ | ⟨e1, e2⟩
    · subst e1; subst e2; exact hobj
    · exact (S.obj h' o' e2).mono L (hne h' e1) (fun b hb => hheap h' b e1 hb) (fun b hb => hprot h' b e1 hb)
  inj := fun h1 h2 b e1 e2 => by
    by_cases x1 : h1 = h <;> by_cases x2 : h2 = h
    · rw [x1, x2]
    · subst x1; rw [hne h2 x2] at e2; exact absurd e2 (hinj h2 b x2 e1)
    · subst x2; rw [hne h1 x1] at e1; exact absurd e1 (hinj h1 b x1 e2)
    · rw [hne h1 x1] at e1; rw [hne h2 x2] at e2; exact S.inj h1 h2 b e1 e2
  lt := fun h' b e => by
    by_cases x : h' = h
    · subst x; exact hlt b e
    · rw [hne h' x] at e; exact Nat.lt_of_lt_of_le (S.lt h' b e) hsz
  plt := hplt
  gl := S.gl.mono L.prot L.heap
theorem Sim.later {fr : Fr} {g g' : G} {tmps : Array Value} {w w' : World} {ob' : Ob} (S : Sim fr g tmps w) (L : Later g g' (cur fr.ob) (cur ob') w w') (o : SimO ob' g' w') : Sim { fr with ob := ob' } g' tmps w' :=
  ⟨S.size, fun t v m h1 h2 => (S.slot t v m h1 h2).mono L, o⟩
theorem Sim.set {fr : Fr} {g : G} {tmps : Array Value} {w : World} (S : Sim fr g tmps w) (t : Nat) {v : Value} {m : MV} (h : RV g (cur fr.ob) w v m) : Sim (fr.set t m) g (tmps.setIfInBounds t v) w :=
  ⟨by simp [Fr.set, S.size], fun t' v' m' h1 h2 => by
    simp only [Fr.set] at h2
    by_cases e : t = t'
    · subst e
      have ht : t < fr.sl.length := by
        have := (List.getElem?_eq_some_iff.1 h2).1
        simpa using this
      rw [List.getElem?_set_self ht] at h2
      rw [Array.getElem?_setIfInBounds_self_of_lt (by rw [S.size]; exact ht)] at h1
      cases h1; cases h2; exact h
    · rw [List.getElem?_set_ne e] at h2
      rw [Array.getElem?_setIfInBounds_ne e] at h1
      exact S.slot t' v' m' h1 h2, S.o⟩
end Kw
namespace Kw
set_option linter.unusedVariables false
set_option linter.unusedSimpArgs false
set_option linter.unusedSectionVars false
open Go
variable [Gl]

structure Fm (g : G) (w : World) (g' : G) (w' : World) : Prop where
  os : w'.os = w.os
  tape : w'.tape = w.tape
  output : w'.output = w.output
  size : w.heap.size ≤ w'.heap.size
  heap : ∀ b, b < w.heap.size → (∀ h, (g.rho h).blk ≠ some b) → w'.heap[b]? = w.heap[b]?
  own : ∀ h b, (g'.rho h).blk = some b → w.heap.size ≤ b ∨ ∃ h0, (g.rho h0).blk = some b
  prot : ∀ b, g.prot b → g'.prot b
  prot' : ∀ b, g'.prot b → g.prot b ∨ w.heap.size ≤ b ∨ ∃ h0, (g.rho h0).blk = some b
  imp : ∀ i, g'.rho (.imp i) = g.rho (.imp i) ∨ g'.rho (.imp i) = .dead ∨ g'.rho (.imp i) = .absent
theorem Fm.refl (g : G) (w : World) : Fm g w g w := ⟨rfl, rfl, rfl, Nat.le_refl _, fun _ _ _ => rfl, fun h b e => .inr ⟨h, e⟩, fun _ h => h, fun _ h => .inl h, fun _ => .inl rfl⟩
theorem Fm.trans {g1 g2 g3 : G} {w1 w2 w3 : World} (a : Fm g1 w1 g2 w2) (b : Fm g2 w2 g3 w3) : Fm g1 w1 g3 w3 where
  os := b.os.trans a.os
  tape := b.tape.trans a.tape
  output := b.output.trans a.output
  size := Nat.le_trans a.size b.size
  heap := fun k hk hn => (b.heap k (Nat.lt_of_lt_of_le hk a.size) (fun h e => by
    rcases a.own h k e with x | ⟨h0, x⟩
    · omega
    · exact hn h0 x)).trans (a.heap k hk hn)
  own := fun h k e => by
    rcases b.own h k e with x | ⟨h0, x⟩
    · exact .inl (Nat.le_trans a.size x)
    · exact a.own h0 k x
  prot := fun k h => b.prot k (a.prot k h)
  prot' := fun k h => by
    rcases b.prot' k h with x | x | ⟨h0, x⟩
    · exact a.prot' k x
    · exact .inr (.inl (Nat.le_trans a.size x))
    · exact .inr (a.own h0 k x)
  imp := fun i => by
    rcases b.imp i with x | x
    · rcases a.imp i with y | y
      · exact .inl (x.trans y)
      · exact .inr (by rw [x]; exact y)
    · exact .inr x

theorem rv_ofCell (g : G) (cu : H → Int) (w : World) (v : Value) : RV g cu w v (ofCell v) := by
  unfold ofCell
  split
  · exact .sv (.bool _)
  · exact .sv (.int _ _)
  · exact .sv (.str _)
  · exact .nils
  · exact .nilp
  · exact .sv .ifN
  · exact .undef _
theorem rv_ofV (g : G) (cu : H → Int) (w : World) (v : Value) : RV g cu w v (ofV v) := by
  unfold ofV
  split
  · rename_i cs
    refine .agg (by simp) (fun j v m h1 h2 => ?_)
    rw [List.getElem?_map, Array.getElem?_toList] at h2
    rw [h1] at h2
    cases h2
    exact rv_ofCell g cu w v
  · exact rv_ofCell g cu w v
theorem opnd_rv {fr : Fr} {g : G} {a : Act} {w : World} (S : Sim fr g a.tmps w) (x : Operand) : RV g (cur fr.ob) w (a.eval x) (opnd fr x) := by
  cases x with
  | tmp t =>
    show RV g _ w (a.tmps.getD t undef) (fr.sl.getD t .undef)
    by_cases h : t < fr.sl.length
    · have h' : t < a.tmps.size := by rw [S.size]; exact h
      rw [List.getD_eq_getElem?_getD, Array.getD_eq_getD_getElem?, List.getElem?_eq_getElem h, Array.getElem?_eq_getElem h']
      exact S.slot t _ _ (Array.getElem?_eq_getElem h') (List.getElem?_eq_getElem h)
    · rw [List.getD_eq_getElem?_getD, List.getElem?_eq_none (Nat.le_of_not_lt h)]
      exact .undef _
  | const v => exact rv_ofV g _ w v
  | global k =>
    show RV g _ w (.pointer (some ⟨k, 0, none⟩)) (glb k)
    unfold glb
    cases e : Gl.glr k with
    | none => exact .undef _
    | some rs =>
      obtain ⟨hp, x, hx, hs⟩ := S.o.gl k rs e
      refine .ptrS (ad := ⟨k, 0, none⟩) (c := 0) (fun _ => x) hp rfl (fun j m hj => ?_) (fun j m hj => ?_)
      · cases j with
        | zero => exact hx
        | succ j => simp at hj
      · cases j with
        | zero => simp at hj; subst hj; exact hs
        | succ j => simp at hj
  | func f =>
    exact .fn (by simp) (fun j v m h1 h2 => by simp at h2)
/-- what goes on behind an operation -/
def Good {R : Type} (r : R) (k : Fr → Option R) (g : G) (w : World) (a : Act) (a' : Act) (w' : World) : Prop :=
  a'.defers = a.defers ∧ ∃ fr' g', k fr' = some r ∧ Sim fr' g' a'.tmps w' ∧ Fm g w g' w'
theorem good_fin {R : Type} {r : R} {k : Fr → Option R} {fr1 : Fr} {g g' : G} {w w' : World} {a : Act} {dst : Option Tmp} {v : Value} {m : MV}
    (hk : k (fr1.finish dst m) = some r) (S : Sim fr1 g' a.tmps w') (h : RV g' (cur fr1.ob) w' v m) (F : Fm g w g' w') : Good r k g w a (a.put dst v) w' := by
  cases dst with
  | none => exact ⟨rfl, fr1, g', hk, S, F⟩
  | some d => exact ⟨rfl, _, g', hk, S.set d h, F⟩
end Kw
namespace Kw
set_option linter.unusedVariables false
set_option linter.unusedSimpArgs false
set_option linter.unusedSectionVars false
open Go
variable [Gl]
section
variable {P : Program} {w : World}
theorem run_und {t : TypeId} {d : TypeDesc} (h : P.underlying t = some d) : (underlying t).run P w = .ok d w := by
  unfold underlying; simp [h]
theorem run_info {t : TypeId} {i : TypeInfo} (h : P.info? t = some i) : (typeInfo t).run P w = .ok i w := by
  unfold typeInfo; simp [h]
theorem run_size {t : TypeId} {i : TypeInfo} (h : P.info? t = some i) : (Go.sizeOf t).run P w = .ok (tsize P t) w := by
  unfold Go.sizeOf; simp [run_info h, tsize, h]
theorem run_zero {t : TypeId} {i : TypeInfo} {v : Value} (h : P.info? t = some i) (hz : i.zero = some v) : (zeroValue t).run P w = .ok v w := by
  unfold zeroValue; simp [run_info h, hz]
theorem und_info {t : TypeId} {d : TypeDesc} (h : P.underlying t = some d) : ∃ i, P.info? t = some i := by
  cases hi : P.info? t with
  | some i => exact ⟨i, rfl⟩
  | none => unfold Program.underlying at h; rw [hi] at h; simp at h
theorem run_isAgg {t : TypeId} {d : TypeDesc} (h : P.underlying t = some d) : (Go.isAgg t).run P w = .ok (isAgg P t) w := by
  unfold Go.isAgg isAgg
  simp only [h]
  cases d <;> simp [run_und h]
theorem addAt (b off n : Nat) : (⟨b, off, none⟩ : Addr).add n = ⟨b, off + n, none⟩ := by
  unfold Addr.add; split <;> simp_all
theorem run_load1 {b off : Nat} {v : Value} (h : w.cell? ⟨b, off, none⟩ = some v) : (load ⟨b, off, none⟩).run P w = .ok v w := by
  rw [run_load]; simp [h]
theorem run_cellsFrom {b off : Nat} (f : Nat → Value) : ∀ (n i : Nat) (acc : Array Value), (∀ j, j < n → w.cell? ⟨b, off + (i + j), none⟩ = some (f (i + j))) →
    (loadCellsFrom ⟨b, off, none⟩ i n acc).run P w = .ok (acc ++ ((List.range n).map fun j => f (i + j)).toArray) w
  | 0, i, acc, _ => by simp [loadCellsFrom]
  | n + 1, i, acc, h => by
    unfold loadCellsFrom
    simp only [Sem.run_bind, addAt]
    rw [run_load1 (by simpa using h 0 (by omega))]
    simp only [Result.andThen_ok]
    rw [run_cellsFrom f n (i + 1) _ (fun j hj => by have := h (j + 1) (by omega); rw [show i + 1 + j = i + (j + 1) by omega]; exact this)]
    congr 1
    rw [List.range_succ_eq_map]
    apply Array.toList_inj.1
    simp [Function.comp_def, Nat.add_assoc, Nat.add_comm 1]
theorem run_cells {b off n : Nat} (f : Nat → Value) (h : ∀ j, j < n → w.cell? ⟨b, off + j, none⟩ = some (f j)) :
    (loadCells ⟨b, off, none⟩ n).run P w = .ok ((List.range n).map f).toArray w := by
  unfold loadCells
  rw [run_cellsFrom f n 0 #[] (fun j hj => by simpa using h j hj)]
  simp
/-- a variable's value -/
theorem run_var {t : TypeId} {d : TypeDesc} {b off : Nat} (hu : P.underlying t = some d) (f : Nat → Value) (h : ∀ j, j < tsize P t → w.cell? ⟨b, off + j, none⟩ = some (f j)) (h1 : isAgg P t = false → 0 < tsize P t) :
    (loadVar t ⟨b, off, none⟩).run P w = .ok (if isAgg P t then .agg ((List.range (tsize P t)).map f).toArray else f 0) w := by
  obtain ⟨i, hi⟩ := und_info hu
  unfold loadVar
  simp only [Sem.run_bind, run_isAgg hu, Result.andThen_ok]
  cases ha : isAgg P t with
  | true => simp [run_size hi, run_cells f h]
  | false => simp only [Bool.false_eq_true, if_false]; exact run_load1 (by simpa using h 0 (h1 ha))
end
end Kw
