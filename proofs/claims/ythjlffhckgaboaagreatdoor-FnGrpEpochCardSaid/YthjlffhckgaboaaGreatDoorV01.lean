import Derived.Below
import Derived.ProofKit
import Derived.Still
import Derived.Laws.Strings
import Derived.IntWalk
import Derived.Lib.Atoi
import Derived.Lib.Split
import Derived.Lib.IndexBytes
import Derived.Lib.SplitLaws
import Derived.Laws.Sem
import Derived.Tactics
import Derived.BigFrame
set_option linter.unusedVariables false
set_option linter.unusedSimpArgs false
set_option linter.unusedSectionVars false
namespace Kw
open Go
theorem ja:type_of% @List.forall_mem_cons:= @List.forall_mem_cons
theorem jb:type_of% @decide_eq_true_eq:= @decide_eq_true_eq
theorem jc:type_of% @if_neg:= @if_neg
theorem jd:type_of% @decide_eq_true:= @decide_eq_true
theorem je:type_of% @if_pos:= @if_pos
theorem jf:type_of% @List.length_cons:= @List.length_cons
theorem jg:type_of% @Bool.and_eq_true:= @Bool.and_eq_true
theorem jh:type_of% @decide_eq_false_iff_not:= @decide_eq_false_iff_not
theorem ji:type_of% @decide_eq_false:= @decide_eq_false
theorem jj:type_of% @List.getElem?_eq_getElem:= @List.getElem?_eq_getElem
theorem jk:type_of% @List.length_nil:= @List.length_nil
theorem jl:type_of% @List.length_append:= @List.length_append
theorem jm:type_of% @List.getElem?_eq_some_iff:= @List.getElem?_eq_some_iff
theorem jn:type_of% @List.getElem?_map:= @List.getElem?_map
theorem jo:type_of% @List.drop_eq_nil_of_le:= @List.drop_eq_nil_of_le
theorem jr:type_of% @List.mem_append_right:= @List.mem_append_right
theorem js:type_of% @List.getD_eq_getElem?_getD:= @List.getD_eq_getElem?_getD
theorem jt:type_of% @List.getElem_mem:= @List.getElem_mem
theorem ju:type_of% @if_true:= @if_true
theorem jv:type_of% @beq_self_eq_true:= @beq_self_eq_true
theorem jw:type_of% @Int.le_refl:= @Int.le_refl
theorem jx:type_of% @Nat.le_trans:= @Nat.le_trans
theorem jy:type_of% @Option.bind_some:= @Option.bind_some
theorem jz:type_of% @List.length_map:= @List.length_map
theorem ka:type_of% @Bool.true_and:= @Bool.true_and
theorem kb:type_of% @List.mem_append_left:= @List.mem_append_left
theorem kf:type_of% @List.mem_append:= @List.mem_append
theorem kg:type_of% @List.append_nil:= @List.append_nil
theorem kh:type_of% @Array.getElem?_eq_getElem:= @Array.getElem?_eq_getElem
theorem ki:type_of% @Int.toNat_natCast:= @Int.toNat_natCast
theorem kj:type_of% @List.length_set:= @List.length_set
theorem ko:type_of% @Nat.le_refl:= @Nat.le_refl
theorem kq:type_of% @Option.map_eq_some_iff:= @Option.map_eq_some_iff
theorem ku:type_of% @List.all_eq_true:= @List.all_eq_true
theorem kv:type_of% @List.flatMap_cons:= @List.flatMap_cons
theorem kw:type_of% @List.mem_cons:= @List.mem_cons
theorem kx:type_of% @Int.eq_ofNat_of_zero_le:= @Int.eq_ofNat_of_zero_le
theorem kz:type_of% @Bool.false_eq_true:= @Bool.false_eq_true
theorem qa:type_of% @List.length_eq_zero_iff:= @List.length_eq_zero_iff
theorem qb:type_of% @List.drop_zero:= @List.drop_zero
theorem qc:type_of% @List.mem_iff_getElem:= @List.mem_iff_getElem
theorem qd:type_of% @List.drop_eq_getElem_cons:= @List.drop_eq_getElem_cons
theorem qe:type_of% @List.mem_map:= @List.mem_map
theorem qf:type_of% @List.nil_append:= @List.nil_append
theorem qg:type_of% @List.mem_of_getElem?:= @List.mem_of_getElem?
theorem qh:type_of% @Array.getElem?_toList:= @Array.getElem?_toList
theorem qi:type_of% @Array.getD_eq_getD_getElem?:= @Array.getD_eq_getD_getElem?
theorem qj:type_of% @List.mem_cons_of_mem:= @List.mem_cons_of_mem
theorem qk:type_of% @Nat.mul_le_mul_right:= @Nat.mul_le_mul_right
theorem ql:type_of% @List.getElem?_eq_none:= @List.getElem?_eq_none
theorem qm:type_of% @List.getElem?_take_of_lt:= @List.getElem?_take_of_lt
theorem qn:type_of% @if_false:= @if_false
theorem qo:type_of% @List.nodup_append:= @List.nodup_append
theorem qp:type_of% @List.mem_singleton:= @List.mem_singleton
theorem qr:type_of% @List.getElem?_toArray:= @List.getElem?_toArray
theorem qt:type_of% @Nat.mul_le_mul_left:= @Nat.mul_le_mul_left
theorem qu:type_of% @Nat.zero_add:= @Nat.zero_add
theorem qv:type_of% @Nat.le_of_ble_eq_true:= @Nat.le_of_ble_eq_true
theorem qw:type_of% @of_decide_eq_true:= @of_decide_eq_true
theorem qx:type_of% @Nat.lt_of_lt_of_le:= @Nat.lt_of_lt_of_le
theorem qy:type_of% @List.mem_range:= @List.mem_range
theorem qz:type_of% @Option.isSome_iff_exists:= @Option.isSome_iff_exists
theorem v3:type_of% @List.append_assoc:= @List.append_assoc
theorem v5:type_of% @List.mem_or_eq_of_mem_set:= @List.mem_or_eq_of_mem_set
theorem v9:type_of% @List.length_pos_iff:= @List.length_pos_iff
theorem wa:type_of% @List.length_filter_le:= @List.length_filter_le
theorem wb:type_of% @List.pairwise_iff_getElem:= @List.pairwise_iff_getElem
theorem wc:type_of% @List.getElem?_drop:= @List.getElem?_drop
theorem wd:type_of% @List.nodup_cons:= @List.nodup_cons
theorem we:type_of% @List.all_cons:= @List.all_cons
theorem wg:type_of% @Bool.eq_false_iff:= @Bool.eq_false_iff
theorem wk:type_of% @List.getElem?_append_left:= @List.getElem?_append_left
theorem wl:type_of% @List.mem_filter:= @List.mem_filter
theorem wm:type_of% @List.length_take:= @List.length_take
theorem wo:type_of% @congrArg:= @congrArg
theorem wq:type_of% @Int.toNat_of_nonneg:= @Int.toNat_of_nonneg
theorem wt:type_of% @List.map_cons:= @List.map_cons
theorem wu:type_of% @Option.map_some:= @Option.map_some
theorem wv:type_of% @List.find?_cons:= @List.find?_cons
theorem ww:type_of% @Bool.true_eq_false:= @Bool.true_eq_false
theorem wx:type_of% @Nat.add_mul:= @Nat.add_mul
theorem wy:type_of% @List.mem_of_find?_eq_some:= @List.mem_of_find?_eq_some
theorem wz:type_of% @List.getElem?_range:= @List.getElem?_range
theorem ya:type_of% @Nat.lt_or_ge:= @Nat.lt_or_ge
theorem yb:type_of% @Bool.eq_iff_iff:= @Bool.eq_iff_iff
theorem yc:type_of% @Nat.mul_comm:= @Nat.mul_comm
theorem yd:type_of% @List.getElem?_append_right:= @List.getElem?_append_right
theorem ye:type_of% @Bool.not_eq_true':= @Bool.not_eq_true'
theorem yf:type_of% @Bool.or_eq_true:= @Bool.or_eq_true
theorem yg:type_of% @List.eq_nil_of_length_eq_zero:= @List.eq_nil_of_length_eq_zero
theorem yh:type_of% @List.mem_cons_self:= @List.mem_cons_self
theorem yi:type_of% @Nat.add_zero:= @Nat.add_zero
theorem yj:type_of% @Bool.false_and:= @Bool.false_and
theorem yk:type_of% @List.getElem?_set:= @List.getElem?_set
theorem yl:type_of% @List.map_congr_left:= @List.map_congr_left
theorem ym:type_of% @List.mem_map_of_mem:= @List.mem_map_of_mem
theorem yn:type_of% @List.drop_of_length_le:= @List.drop_of_length_le
theorem yo:type_of% @Array.getElem?_append_left:= @Array.getElem?_append_left
theorem yp:type_of% @Array.getElem?_eq_some_iff:= @Array.getElem?_eq_some_iff
theorem yq:type_of% @List.take_length:= @List.take_length
theorem yr:type_of% @List.find?_eq_none:= @List.find?_eq_none
theorem yu:type_of% @false_and:= @false_and
theorem yv:type_of% @List.eq_of_mem_replicate:= @List.eq_of_mem_replicate
theorem yw:type_of% @Nat.add_assoc:= @Nat.add_assoc
theorem yx:type_of% @Option.bind_eq_some_iff:= @Option.bind_eq_some_iff
theorem yy:type_of% @Option.getD_some:= @Option.getD_some
theorem yz:type_of% @List.length_drop:= @List.length_drop
theorem z0:type_of% @List.getElem_map:= @List.getElem_map
theorem Ja:type_of% @List.filter_cons:= @List.filter_cons
theorem Jb:type_of% @List.take_of_length_le:= @List.take_of_length_le
theorem Jc:type_of% @Array.getElem?_eq_none:= @Array.getElem?_eq_none
theorem Jd:type_of% @List.getElem?_take:= @List.getElem?_take
theorem Je:type_of% @List.pairwise_cons:= @List.pairwise_cons
theorem Jf:type_of% @Nat.lt_irrefl:= @Nat.lt_irrefl
end Kw
namespace Kw
open Go
inductive H where
 |imp (i:Nat)
 |impc (i j:Nat)
 |loc (t j:Nat)
 deriving DecidableEq,Inhabited
def isK:H->Bool| .imp _=>false| .impc _ j=>Nat.ble 1000 j| .loc _ j=>Nat.ble 1000 j
def kn:H->H| .impc i j=>.impc i (j+1000)| .loc t j=>.loc t (j+1000)|h=>h
inductive MV where
 |undef
 |bool (b:Bool)
 |int (k:IntKind) (n:Int)
 |str (s:ByteArray)
 |nilp
 |nils
 |ptr (h:H) (off:Nat)
 |mapr (h:H)
 |fn (f:FuncId) (caps:List MV)
 |sl (rows:List (List MV))
 |own (rows:List (List MV))
 |ownK (rows:List (List MV))
 |ref (h:H) (n:Int)
 |ptrS (row:List MV) (c:Nat)
 |ptrE (h:H) (n i:Int) (c:Nat)
 |agg (cs:List MV)
 |tup (vs:List MV)
 |iface (nil:Bool)
 deriving Inhabited
abbrev Row:=List MV
class Gl where
 glr:Nat->Option MV
def glb [Gl](v:Nat):MV:=match Gl.glr v with|some m=>.ptrS [m] 0|none=>.undef
inductive Obj where
 |none
 |cells (cs:List MV)
 |map (es:List (ByteArray×Bool))
 |rows (rs:List Row)
 |froz (rs:List Row)
 deriving Inhabited
def bnd{α R:Type}(o:Option α)(f:α->Option R):Option R:=o.bind f
def br{R:Type}(b:Bool)(x y:Option R):Option R:=bif b then x else y
def nrows(r:List Row):Int:=r.length
def hG(r:List Row)(i:Int):Option Row:=if 0<=i then r[i.toNat]? else none
def jP(sz:Nat)(r:List Row)(i:Int):Option Row:=if 0<=i then(match r[i.toNat]? with|some x=>if x.length=sz then some x else none|none=>none)else none
def okR(sz:Nat)(r:List Row):Bool:=r.all fun x=>x.length==sz
def aD(r:Row)(j:Nat):MV:=r.getD j .undef
def cG(a b:List Row):List Row:=a++b
def setR(r:List Row)(i:Int)(x:Row):List Row:=r.set i.toNat x
def AU(r:List Row)(l h:Int):List Row:=(r.take h.toNat).drop l.toNat
def jH(n:Int)(x:Row):List Row:=List.replicate n.toNat x
def y7(r:Row)(c:Nat):List MV->Row
 |[]=>r
 |m::ms=>y7 (r.set c m) (c+1) ms
def eF(r:Row):Int:=r.length
def setRow(r:Row)(c:Nat)(ms:List MV):Row:=y7 r c ms
def bU(k:IntKind)(a b:Int):Int:=k.wrap (a+b)
def hJ(k:IntKind)(a b:Int):Int:=k.wrap (a-b)
def m7(k:IntKind)(a b:Int):Int:=k.wrap (a*b)
def D9(k:IntKind)(a b:Int):Int:=k.wrap (a.tdiv b)
def y8(a b:Int):Int:=a.tmod b
def PS(k:IntKind)(a b:Int):Int:=k.wrap (BitVec.ofInt k.bits a^^^BitVec.ofInt k.bits b).toNat
def iEq(a b:Int):Bool:=a==b
def iLt(a b:Int):Bool:=decide (a<b)
def iLe(a b:Int):Bool:=decide (a<=b)
def GJ(a b:Int):Int:=if a≥b then a else b
def ab1(a b:Int):Int:=if a<=b then a else b
def m8(k:IntKind)(a:Int):Int:=k.wrap a
def bNot(b:Bool):Bool:=!b
def bEq(a b:Bool):Bool:=a==b
def dL(a b:Bool):Bool:=a&&b
def sEq(a b:ByteArray):Bool:=a.toList==b.toList
def kB(a b:ByteArray):ByteArray:=a++b
def sLen(a:ByteArray):Int:=a.size
def mK(a:ByteArray)(l h:Int):ByteArray:=a.extract l.toNat h.toNat
def sAt(a:ByteArray)(i:Int):Option Int:=if 0<=i then(a.data.toList[i.toNat]?).map fun b=>(b.toNat:Int)else none
def XM(n:Int):ByteArray:=⟨#[n.toNat.toUInt8]⟩
def eP(n m:Int)(bytes:Nat):Bool:=decide ((n+m)*bytes<=2^46)
def oI(s:ByteArray):List Row:=s.data.toList.map fun b=>[.int .u8 b.toNat]
def rowsBytes1:List Row->Option (List UInt8)
 |[]=>some []
 |[.int .u8 b]::r=>bnd (rowsBytes1 r) fun t=>some (b.toNat.toUInt8::t)
 |_::_=>none
def rY(r:List Row):Option ByteArray:=bnd (rowsBytes1 r) fun l=>some ⟨l.toArray⟩
def rZ(es:List (ByteArray×Bool))(s:ByteArray):Bool:=match es.find? (fun e=>e.1.toList==s.toList)with|some e=>e.2|none=>false
def EA(es:List (ByteArray×Bool))(s:ByteArray)(b:Bool):List (ByteArray×Bool):=(s,b)::es
def nP:MV->Option Bool| .bool b=>some b|_=>none
def d9(k:IntKind):MV->Option Int| .int k' n=>if k'=k then some n else none|_=>none
def d6:MV->Option ByteArray| .str s=>some s|_=>none
def gIf:MV->Option Bool| .iface b=>some b|_=>none
def gSl:MV->Option (List Row)| .sl r=>some r|_=>none
def KB:MV->Option (List Row)| .own r=>some r|_=>none
def akZ(i o:Nat):MV->Option Unit| .ptr (.imp i') o'=>if i'=i/\o'=o then some ()else none|_=>none
def al0(i:Nat):MV->Option Unit| .mapr (.imp i')=>if i'=i then some ()else none|_=>none
def al1:MV->Option Unit| .nilp=>some ()|_=>none
def BW:MV->Option (List Row)| .ownK r=>some r|_=>none
def XN:Obj->Option (List (ByteArray×Bool))| .map r=>some r|_=>none
def nI:Value->MV
 | .bool b=>.bool b
 | .int k n=>.int k n
 | .string s=>.str s
 | .slice none 0 0=>.nils
 | .pointer none=>.nilp
 | .nilIface=>.iface true
 |_=>.undef
def ofV:Value->MV
 | .agg cs=>.agg (cs.toList.map nI)
 |v=>nI v
inductive Sh where
 |b|i (k:IntKind)|s|r|f|bad
def av6:Value->Sh
 | .bool _=>.b
 | .int k _=>.i k
 | .string _=>.s
 | .slice .. =>.r
 | .nilIface=>.f
 |_=>.bad
section
variable {R:Type}
def PT(own:Bool)(sh:Sh)(m:MV)(k:MV->Option R):Option R:=
 match sh with
 | .b=>bnd (nP m) fun b=>k (.bool b)
 | .i kd=>bnd (d9 kd m) fun n=>k (.int kd n)
 | .s=>bnd (d6 m) fun s=>k (.str s)
 | .r=>if own then bnd (KB m) fun r=>k (.own r)else bnd (gSl m) fun r=>k (.sl r)
 | .f=>bnd (gIf m) fun b=>k (.iface b)
 | .bad=>none
def opn(own:Bool):List Sh->Row->Nat->(List MV->Option R)->Option R
 |[],_,_,k=>k []
 |sh::shs,row,j,k=>PT own sh (aD row j) fun m=>opn own shs row (j+1) fun ms=>k (m::ms)
end
section
variable (P:Program)
def isAgg(t:TypeId):Bool:=match P.underlying t with|some (.struct _)=>true|some (.array _ _)=>true|_=>false
def tsize(t:TypeId):Nat:=match P.info? t with|some i=>i.size|none=>0
def bO(t:TypeId):Nat:=match P.info? t with|some i=>i.bytes|none=>0
def mL(t:TypeId):List Value:=match P.info? t with|some i=>(match i.zero with|some v=>v.cells.toList|none=>[])|none=>[]
def iX(t:TypeId):List Sh:=(mL P t).map av6
def HL(t:TypeId):Bool:=match P.info? t with|some i=>(match i.zero with|some _=>true|none=>false)|none=>false
def okT(t:TypeId):Bool:=(match P.underlying t with|some _=>true|none=>false)&&(HL P t&&((isAgg P t||tsize P t==1)&&((mL P t).length==tsize P t)))
def tF(t:TypeId):Option TypeId:=match P.underlying t with|some (.slice e)=>(match P.info? e with|some _=>some e|none=>none)|_=>none
def pS(t:TypeId)(f:Nat):Option (Nat×TypeId):=match P.underlying t with|some (.struct fs)=>(match fs[f]? with|some x=>some (x.offset,x.type)|none=>none)|_=>none
def KC(t:TypeId)(cs:List MV):MV:=if isAgg P t then .agg cs else cs.headD .undef
end
def MV.svOne:MV->Bool
 | .bool _| .int _ _| .str _| .sl _=>true
 |_=>false
def MV.one:MV->Bool
 | .undef| .agg _| .tup _| .own _| .ownK _=>false
 |_=>true
def cellsOf:MV->List MV
 | .agg cs=>cs
 |m=>[m]
def eqF(P:Program)(rec:TypeId->List MV->List MV->Option Bool)(xs ys:List MV):List Field->Option Bool
 |[]=>some true
 |f::fs=>if f.name≠ "_" then bnd (rec f.type ((xs.drop f.offset).take (tsize P f.type)) ((ys.drop f.offset).take (tsize P f.type))) fun b=>bnd (eqF P rec xs ys fs) fun c=>some (dL b c)else eqF P rec xs ys fs
def eqT(P:Program):Nat->TypeId->List MV->List MV->Option Bool
 |0,_,_,_=>none
 |d+1,t,xs,ys=>(match P.underlying t with
  |some .bool=>(match xs,ys with|[.bool a],[.bool b]=>some (bEq a b)|_,_=>none)
  |some (.int _)=>(match xs,ys with|[.int k a],[.int k' b]=>if k=k' then some (iEq a b)else none|_,_=>none)
  |some .string=>(match xs,ys with|[.str a],[.str b]=>some (sEq a b)|_,_=>none)
  |some (.struct fs)=>if P.stoodInHeld t then none else eqF P (eqT P d) xs ys fs.toList
  |_=>none)
end Kw
namespace Kw
open Go
variable [Gl]
structure Ann where
 live:List Nat
 own:List (Nat×Option Nat×H)
structure Env where
 P:Program
 ann:FuncId->Nat->Ann
 mv:FuncId->Bool
 keep:FuncId->Bool
 io:FuncId->Bool
 kr:FuncId->Bool
 ext:FuncId->Option (List MV->Option MV)
 cut:FuncId->Nat->Option Ann
 okf:FuncId->Bool
abbrev Ob:=List (H×Obj)
structure Fr where
 sl:List MV
 ob:Ob
def look:Ob->H->Obj
 |[],_=>.none
 |(h',o)::r,h=>if h'=h then o else look r h
def put:Ob->H->Obj->Ob
 |[],h,o=>[(h,o)]
 |(h',o')::r,h,o=>if h'=h then(h,o)::r else(h',o')::put r h o
def Fr.get(fr:Fr)(t:Nat):MV:=fr.sl.getD t .undef
def Fr.obj(fr:Fr)(h:H):Obj:=look fr.ob h
def Fr.set(fr:Fr)(t:Nat)(m:MV):Fr:={fr with sl:=fr.sl.set t m}
def Fr.setObj(fr:Fr)(h:H)(o:Obj):Fr:={fr with ob:=put fr.ob h o}
def Fr.lay{R:Type}(fr:Fr)(h:H)(o:Obj)(k:Fr->Option R):Option R:=if fr.ob.any (fun p=>p.1==h)then none else k (fr.setObj h o)
def Fr.finish(fr:Fr)(dst:Option Tmp)(m:MV):Fr:=match dst with|some d=>fr.set d m|none=>fr
def aK(fr:Fr):Operand->MV
 | .tmp t=>fr.get t
 | .const v=>ofV v
 | .func f=>.fn f []
 | .global v=>glb v
section
variable {R:Type} (E:Env)
def Fr.rows(fr:Fr)(m:MV)(k:List Row->Option R):Option R:=
 match m with
 | .sl r=>k r
 | .nils=>k []
 | .ref h n=>(match fr.obj h with
   | .rows x=>br (iEq n (nrows x)) (k x) none
   | .froz x=>br (iEq n (nrows x)) (k x) none
   |_=>none)
 |_=>none
def Fr.live(fr:Fr)(m:MV)(k:Option R):Option R:=
 match m with
 | .ptr h _=>(match fr.obj h with
   | .cells _=>k
   |_=>none)
 | .ptrE h n _ _=>(match fr.obj h with
   | .rows x=>br (iEq n (nrows x)) k none
   | .froz x=>br (iEq n (nrows x)) k none
   |_=>none)
 |_=>k
def nU(fr:Fr)(m:MV)(k:MV->Fr->Option R):Option R:=
 match m with
 | .ref h n=>(match fr.obj h with
   | .rows x=>br (iEq n (nrows x)) (k (.sl x) (fr.setObj h (.froz x))) none
   | .froz x=>br (iEq n (nrows x)) (k (.sl x) fr) none
   |_=>none)
 | .nils=>k (.sl []) fr
 | .bool b=>k (.bool b) fr
 | .int kd n=>k (.int kd n) fr
 | .str s=>k (.str s) fr
 | .sl r=>k (.sl r) fr
 |_=>none
def mV:List MV->Fr->(List MV->Fr->Option R)->Option R
 |[],fr,k=>k [] fr
 |m::ms,fr,k=>nU fr m fun m fr=>mV ms fr fun ms fr=>k (m::ms) fr
def isStringT(P:Program)(t:TypeId):Bool:=match P.underlying t with|some .string=>true|_=>false
def yE(P:Program)(t:TypeId):Bool:=match P.underlying t with|some (.int .u8)=>true|_=>false
def ab2(P:Program)(t:TypeId):Bool:=match P.underlying t with|some (.interface _)=>true|_=>false
def SU:Operand->Bool| .const .nilIface=>true|_=>false
def NJ(P:Program)(t:TypeId):Bool:=match P.underlying t with|some .bool=>true|_=>false
def tI(ub:Bool)(op:BinOp)(x y:MV)(k:MV->Option R):Option R:=
 match x,y with
 | .int kd a,.int kd' b=>
   if kd=kd' then
    (match op with
    | .add=>k (.int kd (bU kd a b))
    | .sub=>k (.int kd (hJ kd a b))
    | .mul=>k (.int kd (m7 kd a b))
    | .quo=>br (iEq b 0) none (k (.int kd (D9 kd a b)))
    | .rem=>br (iEq b 0) none (k (.int kd (y8 a b)))
    | .xor=>k (.int kd (PS kd a b))
    | .eql=>k (.bool (iEq a b))
    | .neq=>k (.bool (bNot (iEq a b)))
    | .lss=>k (.bool (iLt a b))
    | .leq=>k (.bool (iLe a b))
    | .gtr=>k (.bool (iLt b a))
    | .geq=>k (.bool (iLe b a))
    |_=>none)
   else none
 | .str a,.str b=>
   (match op with
   | .add=>br (eP (sLen a) (sLen b) 1) (k (.str (kB a b))) none
   | .eql=>k (.bool (sEq a b))
   | .neq=>k (.bool (bNot (sEq a b)))
   |_=>none)
 | .bool a,.bool b=>if ub then(match op with| .eql=>k (.bool (bEq a b))| .neq=>k (.bool (bNot (bEq a b)))|_=>none)else none
 |_,_=>none
def pT:MV->List H
 | .ptr h _=>[h]
 | .mapr h=>[h]
 |_=>[]
def cC:MV->List H
 | .ptr h _=>[h]
 | .mapr h=>[h]
 | .fn _ caps=>caps.flatMap pT
 | .agg cs=>cs.flatMap pT
 |_=>[]
def lB:MV->List H| .ref h _=>[h]|_=>[]
def kC:MV->List H| .ref h _=>[h]| .agg cs=>cs.flatMap lB|_=>[]
def L1:List H->List H
 |[]=>[]
 |h::hs=>h::(L1 hs).filter (·!=h)
def cZ:Obj->List H
 | .cells cs=>cs.flatMap cC
 |_=>[]
def hY(fr:Fr)(hs:List H):List H:=L1 (hs++hs.flatMap fun h=>cZ (fr.obj h))
def KD(f:H->Option H):MV->MV
 | .ptr h o=>(match f h with|some h'=>.ptr h' o|none=>.undef)
 | .mapr h=>(match f h with|some h'=>.mapr h'|none=>.undef)
 | .ref h n=>(match f h with|some h'=>.ref h' n|none=>.undef)
 | .ptrE _ _ _ _| .fn _ _| .agg _| .tup _=>.undef
 |m=>m
def PU(f:H->Option H):MV->MV
 | .fn g caps=>.fn g (caps.map (KD f))
 |m=>KD f m
def EB(f:H->Option H):MV->MV
 | .ptrE h n i c=>(match f h with|some h'=>.ptrE h' n i c|none=>.undef)
 | .agg cs=>.agg (cs.map (PU f))
 | .tup vs=>.tup (vs.map (PU f))
 |m=>PU f m
def y9(f:H->Option H):Obj->Obj
 | .cells cs=>.cells (cs.map (PU f))
 |o=>o
def idx:List H->H->Nat->Option Nat
 |[],_,_=>none
 |h'::hs,h,i=>if h'=h then some i else idx hs h (i+1)
def toI(hs:List H)(h:H):Option H:=match idx hs h 0 with|some i=>some (.imp i)|none=>none
def AC(fr:Fr)(m:MV)(k:MV->Option R):Option R:=
 match m with
 | .ref h n=>(match fr.obj h with
   | .rows x=>br (iEq n (nrows x)) (k (.sl x)) none
   | .froz x=>br (iEq n (nrows x)) (k (.sl x)) none
   |_=>none)
 | .nils=>k (.sl [])
 |m=>k m
def FB(fr:Fr):List MV->(List MV->Option R)->Option R
 |[],k=>k []
 |m::ms,k=>AC fr m fun m=>FB fr ms fun ms=>k (m::ms)
def tJ(fr:Fr):List MV->(List MV->Option R)->Option R
 |[],k=>k []
 | .agg cs::ms,k=>FB fr cs fun cs=>tJ fr ms fun ms=>k (.agg cs::ms)
 |m::ms,k=>AC fr m fun m=>tJ fr ms fun ms=>k (m::ms)
def nQ(mv:Bool)(fr:Fr)(m:MV)(k:MV->Fr->Option R):Option R:=
 match m with
 | .ref h n=>(match fr.obj h with
   | .rows x=>br (iEq n (nrows x)) (if mv then(if isK h then k (.ownK x) (fr.setObj h .none)else k (.own x) (fr.setObj h .none))else k (.sl x) (fr.setObj h (.froz x))) none
   | .froz x=>br (iEq n (nrows x)) (k (.sl x) fr) none
   |_=>none)
 | .nils=>if mv then k (.own []) fr else k (.sl []) fr
 |m=>k m fr
def BZ(g:Bool):List MV->Fr->(List MV->Fr->Option R)->Option R
 |[],fr,k=>k [] fr
 |m::ms,fr,k=>nQ g fr m fun m fr=>BZ g ms fr fun ms fr=>k (m::ms) fr
def m9(g:Bool):List MV->Fr->(List MV->Fr->Option R)->Option R
 |[],fr,k=>k [] fr
 | .agg cs::ms,fr,k=>BZ g cs fr fun cs fr=>m9 g ms fr fun ms fr=>k (.agg cs::ms) fr
 |m::ms,fr,k=>nQ g fr m fun m fr=>m9 g ms fr fun ms fr=>k (m::ms) fr
def iJ:List H->Fr->(List Obj->Fr->Option R)->Option R
 |[],fr,k=>k [] fr
 |h::hs,fr,k=>(match fr.obj h with
  | .cells cs=>BZ true cs fr fun cs fr=>iJ hs fr fun os fr=>k (.cells cs::os) fr
  | .map es=>iJ hs fr fun os fr=>k (.map es::os) fr
  | .rows _=>if isK h then none else iJ hs fr fun os fr=>(match fr.obj h with| .rows x=>k (.rows x::os) fr|_=>none)
  |_=>none)
def o9(nm:Nat->H):List MV->Nat->Fr->(List MV->Fr->Option R)->Option R
 |[],_,fr,k=>k [] fr
 | .own r::ms,j,fr,k=>fr.lay (nm j) (.rows r) fun fr=>o9 nm ms (j+1) fr fun ms fr=>k (.ref (nm j) (nrows r)::ms) fr
 | .ownK r::ms,j,fr,k=>fr.lay (kn (nm j)) (.rows r) fun fr=>o9 nm ms (j+1) fr fun ms fr=>k (.ref (kn (nm j)) (nrows r)::ms) fr
 |m::ms,j,fr,k=>o9 nm ms (j+1) fr fun ms fr=>k (m::ms) fr
def lV(nm:Nat->Nat->H):List MV->Nat->Fr->(List MV->Fr->Option R)->Option R
 |[],_,fr,k=>k [] fr
 | .agg cs::ms,t,fr,k=>o9 (nm t) cs 0 fr fun cs fr=>lV nm ms (t+1) fr fun ms fr=>k (.agg cs::ms) fr
 | .own r::ms,t,fr,k=>fr.lay (nm t 0) (.rows r) fun fr=>lV nm ms (t+1) fr fun ms fr=>k (.ref (nm t 0) (nrows r)::ms) fr
 | .ownK r::ms,t,fr,k=>fr.lay (kn (nm t 0)) (.rows r) fun fr=>lV nm ms (t+1) fr fun ms fr=>k (.ref (kn (nm t 0)) (nrows r)::ms) fr
 |m::ms,t,fr,k=>lV nm ms (t+1) fr fun ms fr=>k (m::ms) fr
def ab3(f:H->Option H)(old new:MV):Option Unit:=
 match old with
 | .ptr h o=>(match f h with|some (.imp i)=>akZ i o new|_=>none)
 | .mapr h=>(match f h with|some (.imp i)=>al0 i new|_=>none)
 | .nilp=>al1 new
 |_=>none
def EC(f:H->Option H)(old new:MV)(k:MV->Option R):Option R:=
 match old with
 | .bool _=>bnd (nP new) fun b=>k (.bool b)
 | .int kd _=>bnd (d9 kd new) fun n=>k (.int kd n)
 | .str _=>bnd (d6 new) fun s=>k (.str s)
 | .sl _=>bnd (gSl new) fun s=>k (.sl s)
 | .own _=>bnd (KB new) fun s=>k (.own s)
 | .ownK _=>bnd (BW new) fun s=>k (.ownK s)
 |m=>bnd (ab3 f m new) fun _=>k m
def tK(f:H->Option H):List MV->Nat->List MV->(List MV->Option R)->Option R
 |[],_,_,k=>k []
 |o::os,j,ns,k=>EC f o (aD ns j) fun m=>tK f os (j+1) ns fun ms=>k (m::ms)
def pU:Obj->Option (List Row)| .rows r=>some r|_=>none
def hdO(l:List Obj):Obj:=l.headD .none
def tlO(l:List Obj):List Obj:=l.tail
def KE(l:List Obj)(n:Nat):Obj:=l.getD n .none
def pB(n:Nat):Obj->Option (List MV)| .cells r=>if r.length=n then some r else none|_=>none
def FC(n:Nat):MV->Option (List MV)| .agg r=>if r.length=n then some r else none|_=>none
def L2(n:Nat):MV->Option (List MV)| .tup r=>if r.length=n then some r else none|_=>none
def forgetO:Obj->Obj| .cells cs=>.cells (cs.map fun _=>.undef)|o=>o
def jC(hs:List H)(os:List Obj)(ob:Ob):Ob:=ob.map fun p=>match idx hs p.1 0 with|some i=>(p.1,forgetO (os.getD i .none))|none=>p
def lC(f:H->Option H):List Obj->List Obj->(List Obj->Option R)->Option R
 |[],_,k=>k []
 | .cells cs::os,rs,k=>bnd (pB cs.length (hdO rs)) fun ns=>tK f cs 0 ns fun ms=>lC f os (tlO rs) fun os=>k (.cells ms::os)
 | .map _::os,rs,k=>bnd (XN (hdO rs)) fun es=>lC f os (tlO rs) fun os=>k (.map es::os)
 | .rows x::os,rs,k=>bnd (pU (hdO rs)) fun y=>br (iEq (nrows y) (nrows x)) (lC f os (tlO rs) fun os=>k (.rows y::os)) none
 |_::_,_,_=>none
def dZ(nm:Nat->Nat->H):List H->List Obj->Nat->Fr->(Fr->Option R)->Option R
 |h::hs,.cells cs::os,i,fr,k=>o9 (nm i) cs 0 fr fun cs fr=>dZ nm hs os (i+1) (fr.setObj h (.cells cs)) k
 |_::hs,_::os,i,fr,k=>dZ nm hs os (i+1) fr k
 |_,_,_,fr,k=>k fr
def SW(own:Bool)(t:TypeId)(m:MV)(k:MV->Option R):Option R:=
 if isAgg E.P t then bnd (FC (iX E.P t).length m) fun cs=>opn own (iX E.P t) cs 0 fun ms=>k (.agg ms)
 else(match iX E.P t with
  |[sh]=>PT own sh m k
  |_=>none)
def NK(own:Bool):List TypeId->List MV->Nat->(List MV->Option R)->Option R
 |[],_,_,k=>k []
 |t::ts,ms,j,k=>SW E own t (aD ms j) fun m=>NK own ts ms (j+1) fun r=>k (m::r)
def PV(own:Bool)(t:TypeId)(m:MV)(k:List MV->Bool->Option R):Option R:=
 match E.P.underlying t with
 |some (.tuple ts)=>bnd (L2 ts.size m) fun vs=>NK E own ts.toList vs 0 fun ms=>k ms true
 |_=>SW E own t m fun m=>k [m] false
def pV(ms:List MV)(b:Bool):MV:=if b then .tup ms else ms.headD .undef
abbrev Res:=MV×List Obj
abbrev Run:=FuncId->List MV->List Obj->Option Res
def NL(t:TypeId):Bool:=
 match E.P.underlying t with
 |some (.bool)|some (.int _)|some (.string)=>true
 |some (.tuple ts)=>ts.size≠0&&ts.all fun t=>match E.P.underlying t with|some (.bool)|some (.int _)|some (.string)=>true|_=>false
 |_=>false
def MV.scal:MV->Bool| .bool _| .int _ _| .str _=>true|_=>false
inductive Boxed where|no|map|ptr(e:TypeId)
def SX(t:TypeId):Boxed:=match E.P.underlying t with|some (.pointer e)=>.ptr e|some (.map _ _)=>.map|_=>.no
def ab4(n:Nat):MV->Option Unit| .ptr (.imp i) o=>if i=n/\o=0 then some ()else none|_=>none
def alH(n:Nat):MV->Option Unit| .mapr (.imp i)=>if i=n then some ()else none|_=>none
def nmR(d i j:Nat):H:=.loc d (20*i+j)
def nmB(d i j:Nat):H:=.loc d (100*(i+1)+j)
def tL(f:FuncId)(args:List MV)(fr:Fr)(k:List MV->Fr->Option R):Option R:=if E.io f then k args fr else m9 (E.mv f) args fr k
def hZ(f:FuncId)(args:List MV):List H:=if E.io f then args.flatMap kC else[]
def kR(run:Run)(f:FuncId)(args:List MV)(fr:Fr)(o:Oper)(k:MV->Fr->Option R):Option R:=
 let d:=o.dst.getD 0
 if !(E.mv f||E.io f)&&(NL E o.type&&(args.flatMap cC).isEmpty)then
  tJ fr args fun args=>bnd (run f (args.map (EB (toI []))) []) fun r=>
   PV E false o.type r.1 fun ms b=>if ms.all MV.scal then k (pV ms b) fr else none
 else
  tL E f args fr fun args fr=>
   let hs:=hY fr (args.flatMap cC++hZ E f args)
   iJ hs fr fun os fr=>
    bnd (run f (args.map (EB (toI hs))) (os.map (y9 (toI hs)))) fun r=>
     lC (toI hs) os r.2 fun ns=>
      let fr1:Fr:={fr with ob:=jC hs ns fr.ob}
      match SX E o.type with
      | .ptr e=>bnd (ab4 hs.length r.1) fun _=>bnd (pB (iX E.P e).length (KE r.2 hs.length)) fun cs=>opn (E.keep f) (iX E.P e) cs 0 fun cs=>
       dZ (nmB d) hs ns 0 fr1 fun fr=>o9 (nmR d 1) cs 0 fr fun cs fr=>fr.lay (.loc d 0) (.cells cs) fun fr=>k (.ptr (.loc d 0) 0) fr
      | .map=>bnd (alH hs.length r.1) fun _=>bnd (XN (KE r.2 hs.length)) fun es=>
       dZ (nmB d) hs ns 0 fr1 fun fr=>fr.lay (.loc d 0) (.map es) fun fr=>k (.mapr (.loc d 0)) fr
      | .no=>if E.kr f then bnd (BW r.1) fun x=>dZ (nmB d) hs ns 0 fr1 fun fr=>lV (nmR d) [.ownK x] 0 fr fun ms fr=>k (pV ms false) fr else PV E (E.keep f) o.type r.1 fun ms b=>
       dZ (nmB d) hs ns 0 fr1 fun fr=>lV (nmR d) ms 0 fr fun ms fr=>k (pV ms b) fr
def NM(run:Run)(f:FuncId)(args:List MV)(fr:Fr)(o:Oper)(k:Fr->Option R):Option R:=kR E run f args fr o fun m fr=>k (fr.finish o.dst m)
def ED(t:TypeId)(a:MV)(fr:Fr)(k:MV->Option R):Option R:=
 if okT E.P t then
  match a with
  | .ptr h off=>(match fr.obj h with
    | .cells cs=>if off+tsize E.P t<=cs.length then k (KC E.P t ((cs.drop off).take (tsize E.P t)))else none
    |_=>none)
  | .ptrS row c=>opn false (iX E.P t) row c fun ms=>k (KC E.P t ms)
  | .ptrE h n i c=>(match fr.obj h with
    | .rows rows=>br (iEq n (nrows rows)) (bnd (hG rows i) fun row=>opn false (iX E.P t) row c fun ms=>k (KC E.P t ms)) none
    | .froz rows=>br (iEq n (nrows rows)) (bnd (hG rows i) fun row=>opn false (iX E.P t) row c fun ms=>k (KC E.P t ms)) none
    |_=>none)
  |_=>none
 else none
def nV(t:TypeId)(a:MV)(v:MV)(fr:Fr)(k:Fr->Option R):Option R:=
 if okT E.P t&&((cellsOf v).length==tsize E.P t&&(cellsOf v).all MV.one)then
  match a with
  | .ptr h off=>(match fr.obj h with
    | .cells cs=>if off+tsize E.P t<=cs.length then k (fr.setObj h (.cells (y7 cs off (cellsOf v))))else none
    |_=>none)
  | .ptrE h n i c=>mV (cellsOf v) fr fun ms fr=>(match fr.obj h with
    | .rows rows=>br (iEq n (nrows rows)) (bnd (hG rows i) fun row=>br (iLe (c+ms.length:Nat) (eF row)) (k (fr.setObj h (.rows (setR rows i (setRow row c ms))))) none) none
    |_=>none)
  |_=>none
 else none
def eQ(P:Program)(e:TypeId):Row:=(mL P e).map fun v=>match nI v with| .nils=>.sl []| .nilp=>.undef|m=>m
def sA(P:Program)(e:TypeId)(n:Nat):List MV:=(List.range (n*tsize P e)).map fun q=>(eQ P e).getD (q%tsize P e) .undef
def kW(fr:Fr):List (Nat×Operand)->Option (List (Nat×List MV))
 |[]=>some []
 |(i,x)::ps=>(match aK fr x,kW fr ps with
  | .agg cs,some r=>some ((i,cs)::r)
  |m,some r=>if m.one then some ((i,[m])::r)else none
  |_,none=>none)
def mW:List (Nat×List MV)->Fr->(List (Nat×List MV)->Fr->Option R)->Option R
 |[],fr,k=>k [] fr
 |(i,ms)::ps,fr,k=>mV ms fr fun ms fr=>mW ps fr fun ps fr=>k ((i,ms)::ps) fr
def fillE(place:Nat->Option (Nat×Nat))(cells:List MV):List (Nat×List MV)->Option (List MV)
 |[]=>some cells
 |(i,ms)::rest=>(match place i with
  |none=>none
  |some (off,size)=>if(ms.length==size&&Nat.ble (off+ms.length) cells.length)then fillE place (y7 cells off ms) rest else none)
def EE(w n:Nat)(cs:List MV):List Row:=(List.range n).map fun i=>(cs.drop (i*w)).take w
def L4(P:Program)(t:TypeId):Bool:=match P.underlying t with|some (.map k e)=>isStringT P k&&(match P.info? e with|some i=>(match i.zero with|some (.bool b)=>!b|_=>false)|none=>false)|_=>false
def iY(fr:Fr)(y:Option Operand)(d:Int):MV:=match y with|some y=>aK fr y|none=>.int .i64 d
def VH:H->Bool| .imp _=>true|_=>false
def iA(d:Nat)(s:MV)(e:TypeId)(xs:List Row)(fr:Fr)(k:MV->Fr->Option R):Option R:=
 if okT E.P e&&Nat.ble 1 (bO E.P e)then
  (match s with
  | .ref h n=>if VH h||(isK h&&!(tsize E.P e==4))then none else(match fr.obj h with
    | .rows rows=>br (dL (iEq n (nrows rows)) (dL (okR (tsize E.P e) rows) (dL (okR (tsize E.P e) xs) (eP (nrows rows) (nrows xs) (bO E.P e))))) (k (.ref h (nrows (cG rows xs))) (fr.setObj h (.rows (cG rows xs)))) none
    |_=>none)
  | .nils=>br (dL (okR (tsize E.P e) xs) (eP 0 (nrows xs) (bO E.P e))) (fr.lay (.loc d 0) (.rows xs) fun fr=>k (.ref (.loc d 0) (nrows xs)) fr) none
  |_=>none)
 else none
def dA(run:Run)(o:Oper)(fr:Fr)(k:Fr->Option R):Option R:=
 let P:=E.P
 let d:=o.dst.getD 0
 let fin (m:MV):Option R:=k (fr.finish o.dst m)
 match o.op with
 | .move x=>fin (aK fr x)
 | .assign x=>fin (aK fr x)
 | .pick c a b=>bnd (nP (aK fr c)) fun c=>br c (fin (aK fr a)) (fin (aK fr b))
 | .alloc t=>if okT P t then fr.lay (.loc d 0) (.cells ((mL P t).map nI)) fun fr=>k (fr.finish o.dst (.ptr (.loc d 0) 0))else none
 | .box _ x=>(match aK fr x with
  | .agg cs=>fr.lay (.loc d 0) (.cells cs) fun fr=>k (fr.finish o.dst (.ptr (.loc d 0) 0))
  |m=>if m.one then fr.lay (.loc d 0) (.cells [m]) fun fr=>k (fr.finish o.dst (.ptr (.loc d 0) 0))else none)
 | .load t a=>ED E t (aK fr a) fr fin
 | .store t a x=>nV E t (aK fr a) (aK fr x) fr fun fr=>k (fr.finish o.dst .undef)
 | .nilCheck x=>fr.live (aK fr x) (match aK fr x with| .ptr h o'=>fin (.ptr h o')| .fn g c=>fin (.fn g c)| .ptrE h n i c=>fin (.ptrE h n i c)| .ptrS r c=>fin (.ptrS r c)|_=>none)
 | .binOp op t x y _=>
   if isAgg P t then(match aK fr x,aK fr y with
    | .agg xs,.agg ys=>if P.eqGuardType P.depth t then none else bnd (eqT P 8 t xs ys) fun b=>(match op with| .eql=>fin (.bool b)| .neq=>fin (.bool (bNot b))|_=>none)
    |_,_=>none)
   else(match aK fr x with
    | .iface a=>if SU y&&ab2 P t then(match op with| .eql=>fin (.bool a)| .neq=>fin (.bool (bNot a))|_=>none)else none
    |_=>tI (NJ P t) op (aK fr x) (aK fr y) fin)
 | .unOp op _ x=>(match op,aK fr x with
  | .not,.bool b=>fin (.bool (bNot b))
  | .neg,.int kd n=>fin (.int kd (hJ kd 0 n))
  |_,_=>none)
 | .convert src dst x=>(match P.underlying src,P.underlying dst,aK fr x with
  |some _,some (.int kd),.int _ n=>fin (.int kd (m8 kd n))
  |some _,some .string,.str s=>fin (.str s)
  |some _,some .string,.int _ n=>br (dL (iLe 0 n) (iLt n 128)) (fin (.str (XM n))) none
  |some (.slice e),some .string,m=>if yE P e then fr.rows m fun rows=>bnd (rY rows) fun s=>fin (.str s)else none
  |_,_,_=>none)
 | .makeFunc f first caps=>(match f with| .func g=>if first.size=0 then fin (.fn g (caps.toList.map (aK fr)))else none|_=>none)
 | .makeMap _ none=>fr.lay (.loc d 0) (.map []) fun fr=>k (fr.finish o.dst (.mapr (.loc d 0)))
 | .makeSlice t l c=>(match tF P t,aK fr l,aK fr c with
  |some e,.int _ n,.int _ m=>if okT P e&&(Nat.ble 1 (bO P e)&&(eQ P e).all MV.svOne)then br (dL (iEq n m) (dL (iLe 0 n) (eP n 0 (bO P e)))) (fr.lay (.loc d 0) (.rows (jH n (eQ P e))) fun fr=>k (fr.finish o.dst (.ref (.loc d 0) (nrows (jH n (eQ P e)))))) none else none
  |_,_,_=>none)
 | .buildSlice t n parts=>
  (match tF P t with
  |some e=>(match kW fr parts.toList with
   |some ps=>mW ps fr fun ps fr=>
    (match fillE (fun i=>some (i*tsize P e,tsize P e)) (sA P e n) ps with
    |some out=>if okT P e&&(Nat.ble (n*tsize P e) 16777216&&out.all MV.svOne)then
     fr.lay (.loc d 0) (.rows (EE (tsize P e) n out)) fun fr=>k (fr.finish o.dst (.ref (.loc d 0) (nrows (EE (tsize P e) n out))))else none
    |none=>none)
   |none=>none)
  |none=>none)
 | .build t parts=>(match P.underlying t with
  |some (.struct fs)=>(match kW fr parts.toList with
   |some ps=>if HL P t&&fs.all (fun f=>(P.info? f.type).isSome)then
    (match fillE (fun i=>match fs[i]? with|some f=>some (f.offset,tsize P f.type)|none=>none) ((mL P t).map nI) ps with
    |some out=>fin (.agg out)
    |none=>none)else none
   |none=>none)
  |_=>none)
 | .slice t x lo hi mx=>(match P.underlying t,aK fr x,mx with
  |some .string,.str s,none=>
   let l:MV:=iY fr lo 0
   let h:MV:=iY fr hi (sLen s)
   bnd (d9 .i64 l) fun l=>bnd (d9 .i64 h) fun h=>br (dL (iLe 0 l) (dL (iLe l h) (iLe h (sLen s)))) (fin (.str (mK s l h))) none
  |some (.slice e),.sl rows,none=>if(P.info? e).isSome then
   let l:MV:=iY fr lo 0
   let h:MV:=iY fr hi (nrows rows)
   bnd (d9 .i64 l) fun l=>bnd (d9 .i64 h) fun h=>br (dL (okR (tsize P e) rows) (dL (iLe 0 l) (dL (iLe l h) (iLe h (nrows rows))))) (fin (.sl (AU rows l h))) none else none
  |some (.slice e),.ref hd n,none=>if(P.info? e).isSome then
   fr.rows (.ref hd n) fun rows=>
   let l:MV:=iY fr lo 0
   let h:MV:=iY fr hi (nrows rows)
   bnd (d9 .i64 l) fun l=>bnd (d9 .i64 h) fun h=>br (dL (iEq l 0) (iEq h (nrows rows))) (fin (.ref hd n)) none else none
  |_,_,_=>none)
 | .fieldAddr t x f=>bnd (pS P t f) fun p=>if tsize P p.2=0 then none else fr.live (aK fr x) (match aK fr x with
  | .ptr h o'=>fin (.ptr h (o'+p.1))
  | .ptrS row c=>fin (.ptrS row (c+p.1))
  | .ptrE h n i c=>fin (.ptrE h n i (c+p.1))
  |_=>none)
 | .field t x f=>bnd (pS P t f) fun p=>(match aK fr x with
  | .agg cs=>if okT P p.2&&Nat.ble (p.1+tsize P p.2) cs.length then fin (KC P p.2 ((cs.drop p.1).take (tsize P p.2)))else none
  |_=>none)
 | .indexAddr t x i=>(match aK fr i,aK fr x with
  | .int _ n,.sl rows=>bnd (tF P t) fun e=>bnd (jP (tsize P e) rows n) fun row=>fin (.ptrS row 0)
  | .int _ n,.ref h m=>bnd (tF P t) fun e=>fr.rows (.ref h m) fun rows=>bnd (jP (tsize P e) rows n) fun _=>fin (.ptrE h m n 0)
  |_,_=>none)
 | .index t x i=>if isStringT P t then(match aK fr x,aK fr i with
  | .str s,.int _ n=>bnd (sAt s n) fun b=>fin (.int .u8 b)
  |_,_=>none)else none
 | .extract x j=>(match aK fr x with
  | .tup vs=>if j<vs.length then fin (vs.getD j .undef)else none
  |_=>none)
 | .lookup t x key ok=>if L4 P t then(match aK fr x,aK fr key,ok with
  | .mapr h,.str s,false=>(match fr.obj h with
    | .map es=>fin (.bool (rZ es s))
    |_=>none)
  |_,_,_=>none)else none
 | .mapUpdate t m key x=>if L4 P t then(match aK fr m,aK fr key,aK fr x with
  | .mapr h,.str s,.bool b=>(match fr.obj h with
    | .map es=>k ((fr.setObj h (.map (EA es s b))).finish o.dst .undef)
    |_=>none)
  |_,_,_=>none)else none
 | .call c=>(match c.callee with
  | .builtin .len=>(match c.argTypes.toList,c.args.toList with
    |[t],[x]=>(match P.underlying t,aK fr x with
     |some .string,.str s=>fin (.int .i64 (sLen s))
     |some (.slice _),m=>fr.rows m fun rows=>fin (.int .i64 (nrows rows))
     |_,_=>none)
    |_,_=>none)
  | .builtin .max=>(match c.args.toList with
    |[x,y]=>(match aK fr x,aK fr y with
     | .int .i64 a,.int .i64 b=>fin (.int .i64 (GJ a b))
     |_,_=>none)
    |_=>none)
  | .builtin .min=>(match c.args.toList with
    |[x,y]=>(match aK fr x,aK fr y with
     | .int .i64 a,.int .i64 b=>fin (.int .i64 (ab1 a b))
     |_,_=>none)
    |_=>none)
  | .builtin .append=>(match c.argTypes.toList,c.args.toList with
    |[t,tx],[x,y]=>(match tF P t,P.underlying tx with
     |some e,some .string=>(match aK fr y with
      | .str b=>if yE P e then iA E d (aK fr x) e (oI b) fr fun m fr=>k (fr.finish o.dst m)else none
      |_=>none)
     |some e,some (.slice _)=>fr.rows (aK fr y) fun xs=>iA E d (aK fr x) e xs fr fun m fr=>k (fr.finish o.dst m)
     |_,_=>none)
    |_,_=>none)
  | .value f=>(match aK fr f with
    | .fn g caps=>NM E run g (c.args.toList.map (aK fr)++caps) fr o k
    |_=>none)
  |_=>none)
 |_=>none
structure Fp where
 rd:List H
 wr:List H
 fam:Option Nat
def nR:Obj->List H| .cells cs=>cs.flatMap lB|_=>[]
def hOf:MV->List H| .ptr h _=>[h]| .ptrE h _ _ _=>[h]| .ref h _=>[h]| .mapr h=>[h]|_=>[]
def bW(f:FuncId)(args:List MV)(fr:Fr)(o:Oper):Fp:=
 if !(E.mv f||E.io f)&&(NL E o.type&&(args.flatMap cC).isEmpty)then⟨args.flatMap kC,[],none⟩
 else⟨[],args.flatMap kC++(hY fr (args.flatMap cC++hZ E f args)++(hY fr (args.flatMap cC++hZ E f args)).flatMap fun h=>nR (fr.obj h)),some (o.dst.getD 0)⟩
def fp(o:Oper)(fr:Fr):Fp:=
 match o.op with
 | .load _ a=>⟨hOf (aK fr a),[],none⟩
 | .nilCheck a=>⟨hOf (aK fr a),[],none⟩
 | .fieldAddr _ a _=>⟨hOf (aK fr a),[],none⟩
 | .indexAddr _ a _=>⟨hOf (aK fr a),[],none⟩
 | .convert _ _ a=>⟨hOf (aK fr a),[],none⟩
 | .slice _ a _ _ _=>⟨hOf (aK fr a),[],none⟩
 | .store _ a x=>⟨[],hOf (aK fr a)++kC (aK fr x),none⟩
 | .alloc _=>⟨[],[],some (o.dst.getD 0)⟩
 | .makeSlice _ _ _=>⟨[],[],some (o.dst.getD 0)⟩
 | .box _ _=>⟨[],[],some (o.dst.getD 0)⟩
 | .buildSlice _ _ parts=>⟨[],parts.toList.flatMap fun p=>kC (aK fr p.2),some (o.dst.getD 0)⟩
 | .call c=>(match c.callee with
   | .builtin .append=>(match c.args.toList with
     |[x,y]=>⟨hOf (aK fr y),hOf (aK fr x),some (o.dst.getD 0)⟩
     |_=>⟨[],[],none⟩)
   | .builtin _=>⟨c.args.toList.flatMap fun x=>hOf (aK fr x),[],none⟩
   | .value f=>(match aK fr f with
     | .fn g caps=>bW E g (c.args.toList.map (aK fr)++caps) fr o
     |_=>⟨[],[],none⟩)
   |_=>⟨[],[],none⟩)
 |_=>⟨[],[],none⟩
def L5(o:Oper)(fr:Fr):Bool:=
 match o.op with
 | .move _| .assign _| .pick _ _ _| .alloc _| .box _ _| .load _ _| .nilCheck _| .binOp _ _ _ _ _| .unOp _ _ _| .convert _ _ _| .makeFunc _ _ _| .makeSlice _ _ _| .buildSlice _ _ _| .build _ _
 | .slice _ _ _ _ _| .fieldAddr _ _ _| .field _ _ _| .indexAddr _ _ _| .index _ _ _| .extract _ _| .call _=>true
 | .store _ _ _=>true
 |_=>false
def Fp.hits(p:Fp)(h:H):Bool:=p.wr.contains h||(match p.fam,h with|some d,.loc t _=>d==t|_,_=>false)
def Fp.apart(p q:Fp):Bool:=q.rd.all (fun h=>!p.hits h)&&(q.wr.all (fun h=>!p.hits h)&&(p.rd.all (fun h=>!q.hits h)&&(p.wr.all (fun h=>!q.hits h)&&(match p.fam,q.fam with|some a,some b=>a !=b|_,_=>true))))
def Fp.empty(p:Fp):Bool:=match p with|⟨[],[],none⟩=>true|_=>false
def AD:List Fp->Nat->List (Fp×Nat)
 |[],_=>[]
 |p::ps,i=>if p.empty then AD ps (i+1)else(p,i)::AD ps (i+1)
def HM(all:Array Oper):Nat->Nat->Nat->Bool
 |0,_,_=>false
 |f+1,i,j=>(match all[j]? with
  |some oj=>oj.after.any (fun e=>Region.binds .any e&&(e.on==i||(Nat.blt i e.on&&HM all f i e.on)))
  |none=>false)
def B0(all:Array Oper)(p:Fp)(i:Nat):List (Fp×Nat)->Bool
 |[]=>true
 |(q,j)::qs=>(p.apart q||HM all 6 i j)&&B0 all p i qs
def GO(all:Array Oper):List (Fp×Nat)->Bool
 |[]=>true
 |(p,i)::ps=>B0 all p i ps&&GO all ps
def tM(all:Array Oper)(ps:List Fp):Bool:=GO all (AD ps 0)
def yF:MV->Bool| .tup []=>true|_=>false
def tN(run:Run)(all:Array Oper):List Oper->Fr->(Fr->Option R)->Option R
 |[],fr,k=>k fr
 |o::os,fr,k=>
  match o.guard with
  |none=>dA E run o fr fun fr=>tN run all os fr k
  |some (j,want)=>(match(all[j]?).bind (·.dst)with
   |some d=>(match yF (fr.get d)with
    |true=>tN run all os (fr.finish o.dst (.tup [])) k
    |false=>bnd (nP (fr.get d)) fun b=>
     br (if want then b else bNot b) (dA E run o (fr.set d (.bool want)) fun fr=>tN run all os fr k)
     (tN run all os ((fr.set d (.bool !want)).finish o.dst (.tup [])) k))
   |none=>none)
def dM:Code->Nat
 | .region id _ _=>id
 | .seq a _=>dM a
 | .block _ c=>dM c
 | .loop c=>dM c
 | .cond _ a _=>dM a
 |_=>0
def NN:List H->Bool
 |[]=>true
 |h::hs=>!(hs.any fun x=>x==h)&&NN hs
def pO(run:Run)(all:Array Oper):List Oper->List Fp->Fr->(Fr->Option R)->Option R
 |[],ps,fr,k=>if tM all ps.reverse&&NN (fr.ob.map (·.1))then k fr else none
 |o::os,ps,fr,k=>
  match o.guard with
  |none=>if L5 o fr then dA E run o fr fun fr1=>pO run all os (fp E o fr::ps) fr1 k else none
  |some (j,want)=>(match(all[j]?).bind (·.dst)with
   |some d=>(match yF (fr.get d)with
    |true=>pO run all os (⟨[],[],none⟩::ps) (fr.finish o.dst (.tup [])) k
    |false=>bnd (nP (fr.get d)) fun b=>
     br (if want then b else bNot b) (if L5 o fr then dA E run o (fr.set d (.bool want)) fun fr1=>pO run all os (fp E o (fr.set d (.bool want))::ps) fr1 k else none)
     (pO run all os (⟨[],[],none⟩::ps) ((fr.set d (.bool !want)).finish o.dst (.tup [])) k))
   |none=>none)
inductive Ex where|normal|ret|exit(id:Nat)
def lW(f:H->Option H)(ob:Ob):Ob:=ob.filterMap fun p=>match f p.1 with|some h'=>some (h',y9 f p.2)|none=>none
def Fr.sub(fr:Fr)(f:H->Option H):Fr:={sl:=fr.sl.map (EB f),ob:=lW f fr.ob}
def Fr.cut(fr:Fr)(kp:H->Bool):Fr:=fr.sub fun h=>if kp h then some h else none
def sB(ops:List Oper):List Nat:=ops.filterMap fun o=>match o.op with
 | .alloc _| .box _ _| .makeMap _ _| .makeSlice _ _ _| .buildSlice _ _ _=>o.dst
 | .call c=>(match c.callee with| .value _=>o.dst|_=>none)
 |_=>none
def Fr.kill(fr:Fr)(ks:List Nat):Fr:=
 match ks with
 |[]=>fr
 |_=>if fr.ob.any (fun p=>match p.1 with| .loc t _=>ks.contains t|_=>false)then fr.cut (fun h=>match h with| .loc t _=>!ks.contains t|_=>true)else fr
def oJ(ls:List Nat)(l:List MV):List MV:=l.zipIdx.map fun(m,j)=>if ls.contains j then m else .undef
def Fr.ren(fr:Fr)(a b:H):Fr:=fr.sub fun h=>if h=a then some b else if h=b then none else some h
def Fr.layNil(fr:Fr)(h:H):Fr:=(fr.cut fun h'=>h' !=h).setObj h (.rows [])
def Fr.own1(fr:Fr):Nat×Option Nat×H->Fr
 |(s,none,h)=>(match fr.get s with
  | .nils=>(match(fr.layNil h).get s with| .nils=>(fr.layNil h).set s (.ref h (nrows []))|_=>fr)
  | .ref h' _=>if h'=h\/VH h'=true\/(isK h'&&!isK h)=true then fr else fr.ren h' h
  |_=>fr)
 |(s,some c,h)=>(match fr.get s with
  | .ptr b _=>(match fr.obj b with
    | .cells cs=>(match cs.getD c .undef with
      | .nils=>(match(fr.layNil h).obj b with
        | .cells cs'=>(match cs'.getD c .undef with| .nils=>(fr.layNil h).setObj b (.cells (cs'.set c (.ref h (nrows []))))|_=>fr)
        |_=>fr)
      | .ref h' _=>if h'=h\/VH h'=true\/(isK h'&&!isK h)=true then fr else fr.ren h' h
      |_=>fr)
    |_=>fr)
  |_=>fr)
def AE:H->Bool| .loc _ _=>true|_=>false
def VI(sl:List MV)(ob:Ob):List H:=
 let a:=sl.flatMap fun m=>(cC m)++(match m with| .ref h _=>[h]| .ptrE h _ _ _=>[h]| .agg cs=>cs.flatMap (fun| .ref h _=>[h]|_=>[])|_=>[])
 a++ob.flatMap fun p=>match p.2 with| .cells cs=>cs.flatMap fun m=>(cC m)++(match m with| .ref h _=>[h]|_=>[])|_=>[]
def asB:H->Nat| .imp i=>i| .impc i j=>1000000000+(i*1000000+j)| .loc t j=>1000000000000000000+(t*1000000+j)
def VJ(p:H×Obj):Ob->Ob
 |[]=>[p]
 |q::r=>if Nat.ble (asB p.1) (asB q.1)then p::q::r else q::VJ p r
def pP:Ob->Ob
 |[]=>[]
 |p::r=>VJ p (pP r)
def Fr.sort(fr:Fr):Fr:={fr with ob:=pP fr.ob}
def Fr.head(fr:Fr)(a:Ann):Fr:=
 let fr1:=(a.own.filter fun x=>AE x.2.2).foldl Fr.own1 {fr with sl:=oJ a.live fr.sl}
 let l1:=VI fr1.sl (fr1.ob.filter fun p=>(VI fr1.sl []).contains p.1)
 (fr1.cut fun h=>l1.contains h||(match h with| .imp _=>true| .impc _ _=>true|_=>false)).sort
def HN(f r:Nat):Nat->(Fr->(Ex->Fr->Option R)->Option R)->(Fr->Fr)->Fr->(Ex->Fr->Option R)->Option R
 |0,_,_,_,_=>none
 |n+1,body,fg,fr,k=>body fr fun e fr=>match e with| .normal=>HN f r n body fg (fg fr) k|e=>k e fr
def ab5(f r:Nat)(body:Fr->(Ex->Fr->Option R)->Option R)(fr:Fr)(k:Ex->Fr->Option R):Option R:=body fr k
def e9(run:Run)(L:Nat)(f:FuncId):Code->Fr->(Ex->Fr->Option R)->Option R
 | .skip,fr,k=>k .normal fr
 | .region _ ops d,fr,k=>if d then pO E run ops ops.toList [] (fr.kill (sB ops.toList)) (fun fr=>k .normal fr)else tN E run ops ops.toList (fr.kill (sB ops.toList)) fun fr=>k .normal fr
 | .seq a b,fr,k=>e9 run L f a fr fun e fr=>match e with| .normal=>(match E.cut f (dM b)with|some an=>ab5 f (dM b) (e9 run L f b) (fr.head an) k|none=>e9 run L f b fr k)|e=>k e fr
 | .cond c a b,fr,k=>bnd (nP (aK fr c)) fun t=>br t (e9 run L f a fr k) (e9 run L f b fr k)
 | .block id c,fr,k=>e9 run L f c fr fun e fr=>match e with| .exit i=>if i=id then k .normal fr else k (.exit i) fr|e=>k e fr
 | .loop c,fr,k=>HN f (dM c) L (e9 run L f c) (fun fr=>fr.head (E.ann f (dM c))) (fr.head (E.ann f (dM c))) k
 | .exit id,fr,k=>k (.exit id) fr
 | .ret,fr,k=>k .ret fr
 |_,_,_=>none
def tO:Code->List Nat->Code
 |c,[]=>c
 | .seq a b,p::ps=>if p=0 then tO a ps else tO b ps
 | .cond _ a b,p::ps=>if p=0 then tO a ps else tO b ps
 | .block _ c,_::ps=>tO c ps
 | .loop c,_::ps=>tO c ps
 |c,_=>c
def tP(run:Run)(L:Nat)(f:FuncId):Code->List Nat->List Nat->(Ex->Fr->Option R)->(Ex->Fr->Option R)
 |_,[],_,k=>k
 | .seq a b,p::ps,ns,k=>if p=0 then tP run L f a ps ns (fun e fr=>match e with| .normal=>(match E.cut f (dM b)with|some an=>ab5 f (dM b) (e9 E run L f b) (fr.head an) k|none=>e9 E run L f b fr k)|e=>k e fr)else tP run L f b ps ns k
 | .cond _ a b,p::ps,ns,k=>if p=0 then tP run L f a ps ns k else tP run L f b ps ns k
 | .block id c,_::ps,ns,k=>tP run L f c ps ns (fun e fr=>match e with| .exit i=>if i=id then k .normal fr else k (.exit i) fr|e=>k e fr)
 | .loop c,_::ps,ns,k=>tP run L f c ps ns.tail (fun e fr=>match e with| .normal=>HN f (dM c) (ns.headD 0) (e9 E run L f c) (fun fr=>fr.head (E.ann f (dM c))) (fr.head (E.ann f (dM c))) k|e=>k e fr)
 |_,_,_,k=>k
end
section
variable {R:Type}
def afR:List Obj->Nat->Fr->(Fr->Option R)->Option R
 |[],_,fr,k=>k fr
 |o::os,i,fr,k=>fr.lay (.imp i) (forgetO o) fun fr=>afR os (i+1) fr k
def PW(fn:Func)(args:List MV)(imps:List Obj)(k:Fr->Option R):Option R:=
 afR imps 0 ⟨[],[]⟩ fun fr=>dZ (fun i j=>.impc i j) ((List.range imps.length).map .imp) imps 0 fr fun fr=>
  lV (fun t j=>.loc t j) args 0 fr fun sl fr=>k {fr with sl:=sl++List.replicate (fn.ntmps-args.length) .undef}
def SY(E:Env)(fr:Fr):List ResultVar->(List MV->Option R)->Option R
 |[],k=>k []
 | .tmp t::rs,k=>SY E fr rs fun ms=>k (fr.get t::ms)
 | .cell t ty::rs,k=>if okT E.P ty then(match fr.get t with
   | .ptr h off=>(match fr.obj h with
     | .cells cs=>if off+tsize E.P ty<=cs.length then SY E fr rs fun ms=>k (KC E.P ty ((cs.drop off).take (tsize E.P ty))::ms)else none
     |_=>none)
   |_=>none)else none
end
def tQ:List MV->List H
 |[.ptr (.loc t j) _]=>[.loc t j]
 |[.mapr (.loc t j)]=>[.loc t j]
 |_=>[]
def ab6:List MV->MV
 |[m]=>m
 |ms=>.tup ms
def fin(E:Env)(f:FuncId)(fn:Func)(n:Nat)(e:Ex)(fr:Fr):Option Res:=
 match e with
 | .exit _=>none
 |_=>SY E fr fn.results.toList fun res=>m9 (E.keep f) res fr fun res fr=>
  let hs:=(List.range n).map .imp++tQ res
  iJ hs fr fun os _=>some (ab6 (res.map (EB (toI hs))),os.map (y9 (toI hs)))
def ev(E:Env)(L:Nat):Nat->Run
 |0,_,_,_=>none
 |D+1,f,args,imps=>
  match E.ext f with
  |some g=>(g args).map fun m=>(m,imps)
  |none=>
  match E.P.funcs[f]? with
  |none=>none
  |some fn=>match fn.body with
   |none=>none
   |some c=>if E.okf f then PW fn args imps fun fr=>e9 E (ev E L D) L f c fr (fin E f fn imps.length)else none
theorem afS{E:Env}{L D f:Nat}{fn:Func}{c:Code}(args:List MV)(imps:List Obj)(hx:E.ext f=none)(h:E.P.funcs[f]?=some fn)(hb:fn.body=some c)(ho:E.okf f=true):
 ev E L (D+1) f args imps=PW fn args imps fun fr=>e9 E (ev E L D) L f c fr (fin E f fn imps.length):=by
 rw[ev,hx,h];simp only;rw[hb];simp only;rw[je ho]
def lp(E:Env)(L D f:Nat)(fn:Func)(c:Code)(ni:Nat)(p:List Nat)(r:Nat)(ns:List Nat)(fr:Fr)(n:Nat):Option Res:=
 HN f r n (e9 E (ev E L D) L f (tO c (p++[0]))) (fun fr=>fr.head (E.ann f r)) fr (tP E (ev E L D) L f c p ns (fin E f fn ni))
def jp(E:Env)(L D f:Nat)(fn:Func)(c:Code)(ni:Nat)(p:List Nat)(r:Nat)(ns:List Nat)(fr:Fr):Option Res:=
 ab5 f r (e9 E (ev E L D) L f (tO c (p++[1]))) fr (tP E (ev E L D) L f c (p++[1]) ns (fin E f fn ni))
end Kw
namespace Kw
open Go
def bs(l:List UInt8):ByteArray:=⟨l.toArray⟩
section
variable {R α:Type}
@[simp] theorem bnd_some' (x:α) (f:α->Option R):bnd (some x) f=f x:=(rfl)
@[simp] theorem as8 (f:α->Option R):bnd none f=none:=(rfl)
@[simp] theorem br_true' (x y:Option R):br true x y=x:=(rfl)
@[simp] theorem br_false' (x y:Option R):br false x y=y:=(rfl)
@[simp] theorem gBool_b (b:Bool):nP (.bool b)=some b:=(rfl)
@[simp] theorem gInt_i (k:IntKind) (n:Int):d9 k (.int k n)=some n:=by simp[d9]
@[simp] theorem gStr_s (s:ByteArray):d6 (.str s)=some s:=(rfl)
@[simp] theorem gSl_r (r:List Row):gSl (.sl r)=some r:=(rfl)
@[simp] theorem gOwn_r (r:List Row):KB (.own r)=some r:=(rfl)
@[simp] theorem ag3 (r:List Row):pU (.rows r)=some r:=(rfl)
@[simp] theorem av7 (r:List (ByteArray×Bool)):XN (.map r)=some r:=(rfl)
@[simp] theorem cellAt_zero (m:MV) (l:List MV):aD (m::l) 0=m:=(rfl)
@[simp] theorem cellAt_succ (m:MV) (l:List MV) (n:Nat):aD (m::l) (n+1)=aD l n:=(rfl)
@[simp] theorem jY (o:Obj) (l:List Obj):hdO (o::l)=o:=(rfl)
@[simp] theorem asR (o:Obj) (l:List Obj):tlO (o::l)=l:=(rfl)
@[simp] theorem bNot_t:bNot true=false:=(rfl)
@[simp] theorem bNot_f:bNot false=true:=(rfl)
@[simp] theorem aP (p:Prop) [Decidable p]:bNot (decide p)=decide (¬p):=by by_cases h:p<;>simp[bNot,h]
@[simp] theorem iEq_dec (a b:Int):iEq a b=decide (a=b):=by unfold iEq;by_cases h:a=b<;>simp[h]
@[simp] theorem iLt_dec (a b:Int):iLt a b=decide (a<b):=(rfl)
@[simp] theorem iLe_dec (a b:Int):iLe a b=decide (a<=b):=(rfl)
@[simp] theorem l7 (p q:Prop) [Decidable p] [Decidable q]:dL (decide p) (decide q)=decide (p/\q):=by by_cases h:p<;>by_cases h':q<;>simp[dL,h,h']
@[simp] theorem cS (b:Bool):dL true b=b:=(rfl)
@[simp] theorem av8 (b:Bool):dL false b=false:=(rfl)
@[simp] theorem aU (b:Bool):dL b true=b:=by cases b<;>rfl
@[simp] theorem sLen_bs (l:List UInt8):sLen (bs l)=l.length:=(rfl)
@[simp] theorem dB (a b:List UInt8):kB (bs a) (bs b)=bs (a++b):=by
  unfold kB bs;apply ByteArray.ext;simp[ByteArray.append_eq,ByteArray.data_append]
theorem VS(l:List UInt8):(bs l).toList=l:=by rw[ByteArray.toList_eq];rfl
@[simp] theorem sEq_bs (a b:List UInt8):sEq (bs a) (bs b)=decide (a=b):=by
  unfold sEq;rw[VS,VS];by_cases h:a=b<;>simp[h]
theorem ag4(a:List UInt8)(l h:Int):mK (bs a) l h=bs ((a.take h.toNat).drop l.toNat):=by
 unfold mK bs;apply ByteArray.ext;rw[ByteArray.data_extract];apply Array.toList_inj.1;simp[List.extract_eq_take_drop,List.drop_take]
theorem alT(a:List UInt8)(i:Int)(h:0<=i):sAt (bs a) i=(a[i.toNat]?).map fun b=>(b.toNat:Int):=by
 unfold sAt;rw[je h];rfl
@[simp] theorem tV (n:Int):rY [[.int .u8 n]]=some (bs [n.toNat.toUInt8]):=(rfl)
theorem abP(n m:Int)(k:Nat):eP n m k=decide ((n+m)*k<=2^46):=(rfl)
@[simp] theorem nrows_map {A:Type} (f:A->Row) (l:List A):nrows (l.map f)=l.length:=by simp[nrows]
@[simp] theorem nrows_nil:nrows []=0:=(rfl)
@[simp] theorem as9 (r:Row):nrows [r]=1:=(rfl)
@[simp] theorem dW {A:Type} (f:A->Row) (a b:List A):cG (a.map f) (b.map f)=(a++b).map f:=by simp[cG]
theorem cH{A:Type}(f:A->Row)(a:List A)(x:A):cG (a.map f) [f x]=(a++[x]).map f:=by simp[cG]
theorem jD{A:Type}(f:A->Row)(sz:Nat)(h:∀x,(f x).length=sz)(l:List A):okR sz (l.map f)=true:=by simp[okR,h]
theorem wrap_i64{x:Int}(h1: -9223372036854775808<=x)(h2:x<=9223372036854775807):IntKind.i64.wrap x=x:=by
 rw[IntKind.wrap_i64];omega
theorem ag5{a b:Int}(h1: -9223372036854775808<=a+b)(h2:a+b<=9223372036854775807):bU .i64 a b=a+b:=wrap_i64 h1 h2
theorem VT{x:Int}(h1:0<=x)(h2:x<=255):IntKind.u8.wrap x=x:=by
 simp[IntKind.wrap,IntKind.bits,IntKind.signed];omega
end
end Kw
namespace Kw
open Go
end Kw
namespace Kw
open Go
def iS:List UInt8->List UInt8->List (List UInt8)
 |_,[]=>[]
 |a,c::r=>bif c==59 then(a++[c])::iS [] r else iS (a++[c]) r
def mM:List UInt8->List UInt8->List UInt8
 |a,[]=>a
 |a,c::r=>bif c==59 then mM [] r else mM (a++[c]) r
theorem P2(a r:List UInt8):iS a (59::r)=(a++[59])::iS [] r:=rfl
theorem MD(a r:List UInt8){c:UInt8}(h:c≠59):iS a (c::r)=iS (a++[c]) r:=by
 have e:(c==59)=false:=by simpa using h
 rw[iS,e];rfl
theorem XU(a r:List UInt8):mM a (59::r)=mM [] r:=rfl
theorem TB(a r:List UInt8){c:UInt8}(h:c≠59):mM a (c::r)=mM (a++[c]) r:=by
 have e:(c==59)=false:=by simpa using h
 rw[mM,e];rfl
theorem CB:∀(a r:List UInt8),59∉a->Lib.indexByte (a++59::r) 59=a.length
 |[],r,_=>by simp[Lib.indexByte]
 |b::a,r,h=>by
  have h1:b≠59:=fun e=>h (by simp[e])
  have h2:(b==59)=false:=by simpa using h1
  have ih:=CB a r (fun e=>h (by simp[e]))
  rw[List.cons_append,Lib.indexByte,h2,ih];have h3:((a.length:Int)== -1)=false:=by rw[beq_eq_false_iff_ne];omega
  rw[h3];simp
theorem AY:∀(s a:List UInt8),59∉a->Lib.splitK [59] 1 (s.count 59) (a++s)=iS a s++[mM a s]
 |[],a,_=>by simp[iS,mM,Lib.splitK]
 |c::r,a,ha=>by
  by_cases h:c=59
  ·subst h;rw[P2,XU,List.count_cons_self,Lib.splitK,Lib.index_one,CB a r ha];have h3:((a.length:Int)== -1)=false:=by rw[beq_eq_false_iff_ne];omega
   rw[h3];have e1:(a++59::r).take (((a.length:Int)).toNat+1)=a++[59]:=by
    rw[ki,List.take_append,Jb (by omega)];simp
   have e2:(a++59::r).drop (((a.length:Int)).toNat+([59]:List UInt8).length)=r:=by
    rw[ki,List.drop_append];simp
   have ih:=AY r [] (by simp)
   rw[qf]at ih;simp only[kz,qn];rw[e1,e2,ih];rfl
  ·rw[MD _ _ h,TB _ _ h,List.count_cons_of_ne (by simpa using h)]
   have ih:=AY r (a++[c]) (by simp[ha,Ne.symm h])
   rw[v3]at ih;exact ih
theorem VR(b:ByteArray):bs b.data.toList=b:=by cases b;simp[bs]
theorem TC(s:ByteArray):Lib.splitB ⟨#[59]⟩ 1 (Lib.countByte s.data.toList 59) s=(iS [] s.data.toList++[mM [] s.data.toList]).map bs:=by
 have h:=Lib.splitB_data ⟨#[59]⟩ 1 (Lib.countByte s.data.toList 59) s;have e:=AY s.data.toList [] (by simp)
 rw[qf]at e;have h2:(Lib.splitB ⟨#[59]⟩ 1 (Lib.countByte s.data.toList 59) s).map (·.data.toList)=iS [] s.data.toList++[mM [] s.data.toList]:=h.trans e;rw[<-h2,List.map_map]
 conv=>lhs;rw[<-List.map_id (Lib.splitB ⟨#[59]⟩ 1 (Lib.countByte s.data.toList 59) s)]
 exact yl fun b _=>(VR b).symm
theorem oK:∀(s a:List UInt8),(iS a s).length=s.count 59
 |[],a=>by simp[iS]
 |c::r,a=>by
  by_cases h:c=59
  ·subst h;rw[P2,List.count_cons_self,jf,oK]
  ·rw[MD _ _ h,List.count_cons_of_ne (by simpa using h),oK]
end Kw
namespace Kw
open Go
def abT:List MV->Option MV
 |[.str s]=>if s.size<=2000000 then some (.own ((iS [] s.data.toList).map fun x=>[.str (bs x)]))else none
 |_=>none
end Kw
namespace Kw
open Go
variable [Gl]
inductive SV(w:World)(prot:Nat->Prop):Value->MV->Prop
 |bool (b:Bool):SV w prot (.bool b) (.bool b)
 |int (k:IntKind) (n:Int):SV w prot (.int k n) (.int k n)
 |str (s:ByteArray):SV w prot (.string s) (.str s)
 |ifN:SV w prot .nilIface (.iface true)
 |ifS (t:TypeId) (v:Value):SV w prot (.iface t v) (.iface false)
 |sl {a:Option Addr} {n c:Nat} {rows:List Row} (sz:Nat) (vf:Nat->Nat->Value) (hn:rows.length=n) (hc:n<=c)
  (hrow:∀(i:Nat) (row:Row),rows[i]?=some row->row.length=sz)
  (had:0<n->∃ad:Addr,a=some ad/\ad.spot=none/\prot ad.block/\
   ∀(i:Nat) (row:Row) (j:Nat) (m:MV),rows[i]?=some row->row[j]?=some m->w.cell? ⟨ad.block,ad.off+(i*sz+j),none⟩=some (vf i j))
  (hsv:∀(i:Nat) (row:Row) (j:Nat) (m:MV),rows[i]?=some row->row[j]?=some m->SV w prot (vf i j) m):
  SV w prot (.slice a n c) (.sl rows)
inductive GH where
 |absent|dead|nil
 |box (b:Nat)
 |mem (b cap sz:Nat)
def GH.blk:GH->Option Nat
 | .box b=>some b
 | .mem b _ _=>some b
 |_=>none
structure G where
 rho:H->GH
 prot:Nat->Prop
inductive RV(g:G)(cur:H->Int)(w:World):Value->MV->Prop
 |undef (v:Value):RV g cur w v .undef
 |sv {v:Value} {m:MV} (h:SV w g.prot v m):RV g cur w v m
 |nilp:RV g cur w (.pointer none) .nilp
 |nils:RV g cur w (.slice none 0 0) .nils
 |ptr {h:H} {off b:Nat} (e:g.rho h=.box b):RV g cur w (.pointer (some ⟨b,off,none⟩)) (.ptr h off)
 |mapr {h:H} {b:Nat} (e:g.rho h=.box b):RV g cur w (.map (some b)) (.mapr h)
 |ref {v:Value} {h:H} {n:Int} {b c s:Nat} (e:g.rho h=.mem b c s) (hle:n<=cur h) (hv:n=cur h->v=.slice (some ⟨b,0,none⟩) n.toNat c) (h1:v.oneCell'=true):RV g cur w v (.ref h n)
 |refN {v:Value} {h:H} {n:Int} (e:g.rho h=.nil) (hle:n<=cur h) (hv:n=cur h->∃a,v=.slice a 0 0) (h1:v.oneCell'=true):RV g cur w v (.ref h n)
 |ptrS {ad:Addr} {row:Row} {c:Nat} (vf:Nat->Value) (hp:g.prot ad.block) (hs:ad.spot=none)
  (hc:∀(j:Nat) (m:MV),row[j]?=some m->w.cell? ⟨ad.block,ad.off+j,none⟩=some (vf j))
  (hsv:∀(j:Nat) (m:MV),row[j]?=some m->SV w g.prot (vf j) m):RV g cur w (.pointer (some ⟨ad.block,ad.off+c,none⟩)) (.ptrS row c)
 |ptrE {v:Value} {h:H} {n i:Int} {c b cap s:Nat} (e:g.rho h=.mem b cap s) (hle:n<=cur h) (hv:n=cur h->v=.pointer (some ⟨b,i.toNat*s+c,none⟩)) (h1:v.oneCell'=true):RV g cur w v (.ptrE h n i c)
 |ptrEN {v:Value} {h:H} {n i:Int} {c:Nat} (e:g.rho h=.nil) (hle:n<=cur h) (hz:n≠cur h) (h1:v.oneCell'=true):RV g cur w v (.ptrE h n i c)
 |deadP {v:Value} {h:H} {off:Nat} (e:g.rho h=.dead) (h1:v.oneCell'=true):RV g cur w v (.ptr h off)
 |deadM {v:Value} {h:H} (e:g.rho h=.dead) (h1:v.oneCell'=true):RV g cur w v (.mapr h)
 |deadR {v:Value} {h:H} {n:Int} (e:g.rho h=.dead) (h1:v.oneCell'=true):RV g cur w v (.ref h n)
 |deadE {v:Value} {h:H} {n i:Int} {c:Nat} (e:g.rho h=.dead) (h1:v.oneCell'=true):RV g cur w v (.ptrE h n i c)
 |fn {f:FuncId} {vs:Array Value} {caps:List MV} (hl:vs.size=caps.length)
  (hr:∀(j:Nat) (v:Value) (m:MV),vs[j]?=some v->caps[j]?=some m->RV g cur w v m):RV g cur w (.func (.func f) #[] vs) (.fn f caps)
 |agg {vs:Array Value} {cs:List MV} (hl:vs.size=cs.length)
  (hr:∀(j:Nat) (v:Value) (m:MV),vs[j]?=some v->cs[j]?=some m->RV g cur w v m):RV g cur w (.agg vs) (.agg cs)
 |tup {vs:Array Value} {cs:List MV} (hl:vs.size=cs.length)
  (hr:∀(j:Nat) (v:Value) (m:MV),vs[j]?=some v->cs[j]?=some m->RV g cur w v m):RV g cur w (.tuple vs) (.tup cs)
def cur(ob:Ob)(h:H):Int:=match look ob h with| .rows x=>nrows x| .froz x=>nrows x|_=> -1
def eR(w:World)(prot:Nat->Prop)(arr:Array Value)(sz:Nat)(rs:List Row):Prop:=
 ∀(i:Nat) (row:Row),rs[i]?=some row->row.length=sz/\∀(j:Nat) (m:MV),row[j]?=some m->∃v,arr[i*sz+j]?=some v/\SV w prot v m
def kp(s:ByteArray)(e:MapEntry):Bool:=match e.key with| .string s'=>s'.toList==s.toList|_=>false
def alI(ents:Array MapEntry)(es:List (ByteArray×Bool)):Prop:=
 (∀e∈ents.toList,∃s b,e.key=.string s/\e.val=.bool b)/\
 ∀s:ByteArray,match ents.toList.find? (kp s)with
  |some e=>e.val=.bool (rZ es s)
  |none=>rZ es s=false
def HO(k:Bool)(arr:Array Value)(cap sz:Nat)(rs:List Row):Prop:=cap*sz<=arr.size/\(rs=[]->cap=0\/(k=true/\sz=4))
theorem HO.weak{k k':Bool}{arr:Array Value}{cap sz:Nat}{rs:List Row}(h:HO k arr cap sz rs)(hk:k=true->k'=true):HO k' arr cap sz rs:=⟨h.1,fun e=>(h.2 e).imp id fun⟨a,b⟩=>⟨hk a,b⟩⟩
def GK(g:G)(cu:H->Int)(w:World)(h:H):Obj->Prop
 | .none=>g.rho h=.dead
 | .cells cs=>∃b arr ty,g.rho h=.box b/\w.heap[b]?=some (.cells arr ty (0,0))/\¬g.prot b/\arr.size=cs.length/\
  ∀(j:Nat) (v:Value) (m:MV),arr[j]?=some v->cs[j]?=some m->RV g cu w v m
 | .map es=>∃b ents clk,g.rho h=.box b/\w.heap[b]?=some (.map ents clk)/\¬g.prot b/\alI ents es
 | .rows rs=>(g.rho h=.nil/\rs=[])\/∃b cap sz arr ty,g.rho h=.mem b cap sz/\w.heap[b]?=some (.cells arr ty (0,0))/\¬g.prot b/\
  HO (isK h) arr cap sz rs/\rs.length<=cap/\eR w g.prot arr sz rs
 | .froz rs=>(g.rho h=.nil/\rs=[])\/∃b cap sz arr ty,g.rho h=.mem b cap sz/\w.heap[b]?=some (.cells arr ty (0,0))/\g.prot b/\
  HO (isK h) arr cap sz rs/\rs.length<=cap/\eR w g.prot arr sz rs
def tR(prot:Nat->Prop)(w:World):Prop:=
 ∀v m,Gl.glr v=some m->prot v/\∃x,w.cell? ⟨v,0,none⟩=some x/\SV w prot x m
structure SimO(ob:Ob)(g:G)(w:World):Prop where
 keys:(ob.map (·.1)).Nodup
 abs:∀h,g.rho h=.absent↔h∉ob.map (·.1)
 obj:∀h o,(h,o)∈ob->GK g (cur ob) w h o
 inj:∀h h' b,(g.rho h).blk=some b->(g.rho h').blk=some b->h=h'
 lt:∀h b,(g.rho h).blk=some b->b<w.heap.size
 plt:∀b,g.prot b->b<w.heap.size
 gl:tR g.prot w
structure Sim(fr:Fr)(g:G)(tmps:Array Value)(w:World):Prop where
 size:tmps.size=fr.sl.length
 slot:∀(t:Nat) (v:Value) (m:MV),tmps[t]?=some v->fr.sl[t]?=some m->RV g (cur fr.ob) w v m
 o:SimO fr.ob g w
theorem nW{w w':World}(b off:Nat)(h:w'.heap[b]?=w.heap[b]?):w'.cell? ⟨b,off,none⟩=w.cell? ⟨b,off,none⟩:=by
 unfold World.cell?;rw[h]
theorem SV.mono{w w':World}{p p':Nat->Prop}{v:Value}{m:MV}(h:SV w p v m)(hp:∀b,p b->p' b)(hw:∀b,p b->w'.heap[b]?=w.heap[b]?):SV w' p' v m:=by
 induction h with
 |bool b=>exact .bool b
 |int k n=>exact .int k n
 |str s=>exact .str s
 |ifN=>exact .ifN
 |ifS t v=>exact .ifS t v
 |sl sz vf hn hc hrow had hsv ih=>
  refine .sl sz vf hn hc hrow (fun h=>?_) ih
  obtain⟨ad,e,hs,hb,hcell⟩:=had h;exact⟨ad,e,hs,hp _ hb,fun i row j m h1 h2=>(nW _ _ (hw _ hb)).trans (hcell i row j m h1 h2)⟩
theorem tR.mono{w w':World}{p p':Nat->Prop}(h:tR p w)(hp:∀b,p b->p' b)(hw:∀b,p b->w'.heap[b]?=w.heap[b]?):tR p' w':=fun v rs e=>by
 obtain⟨h1,x,h2,h3⟩:=h v rs e;exact⟨hp v h1,x,(nW _ _ (hw v h1)).trans h2,h3.mono hp hw⟩
structure Later(g g':G)(cu cu':H->Int)(w w':World):Prop where
 box:∀h b,g.rho h=.box b->g'.rho h=.box b\/g'.rho h=.dead
 mem:∀h b c s,g.rho h=.mem b c s->g'.rho h=.dead\/(cu h<=cu' h/\(g'.rho h=.mem b c s\/(cu h<cu' h/\∃b' c' s',g'.rho h=.mem b' c' s')))
 nil:∀h,g.rho h=.nil->g'.rho h=.dead\/(cu h<=cu' h/\(g'.rho h=.nil\/(cu h<cu' h/\∃b' c' s',g'.rho h=.mem b' c' s')))
 dead:∀h,g.rho h=.dead->g'.rho h=.dead
 prot:∀b,g.prot b->g'.prot b
 heap:∀b,g.prot b->w'.heap[b]?=w.heap[b]?
theorem RV.mono{g g':G}{cu cu':H->Int}{w w':World}{v:Value}{m:MV}(h:RV g cu w v m)(L:Later g g' cu cu' w w'):RV g' cu' w' v m:=by
 induction h with
 |undef v=>exact .undef v
 |sv h=>exact .sv (h.mono L.prot L.heap)
 |nilp=>exact .nilp
 |nils=>exact .nils
 |ptr e=>rcases L.box _ _ e with h|h
         ·exact .ptr h
         ·exact .deadP h rfl
 |mapr e=>rcases L.box _ _ e with h|h
          ·exact .mapr h
          ·exact .deadM h rfl
 |ref e hle hv h1=>
  rcases L.mem _ _ _ _ e with h|⟨hc,h|⟨hlt,_,_,_,h⟩⟩
  ·exact .deadR h h1
  ·exact .ref h (by omega) (fun hn=>hv (by omega)) h1
  ·exact .ref h (by omega) (fun hn=>absurd hn (by omega)) h1
 |refN e hle hv h1=>
  rcases L.nil _ e with h|⟨hc,h|⟨hlt,_,_,_,h⟩⟩
  ·exact .deadR h h1
  ·exact .refN h (by omega) (fun hn=>hv (by omega)) h1
  ·exact .ref h (by omega) (fun hn=>absurd hn (by omega)) h1
 |ptrS vf h1 h2 h3 h4=>exact .ptrS vf (L.prot _ h1) h2 (fun j m hj=>(nW _ _ (L.heap _ h1)).trans (h3 j m hj)) (fun j m hj=>(h4 j m hj).mono L.prot L.heap)
 |ptrE e hle hv h1=>
  rcases L.mem _ _ _ _ e with h|⟨hc,h|⟨hlt,_,_,_,h⟩⟩
  ·exact .deadE h h1
  ·exact .ptrE h (by omega) (fun hn=>hv (by omega)) h1
  ·exact .ptrE h (by omega) (fun hn=>absurd hn (by omega)) h1
 |ptrEN e hle hz h1=>
  rcases L.nil _ e with h|⟨hc,h|⟨hlt,_,_,_,h⟩⟩
  ·exact .deadE h h1
  ·exact .ptrEN h (by omega) (by omega) h1
  ·exact .ptrE h (by omega) (fun hn=>absurd hn (by omega)) h1
 |deadP e h1=>exact .deadP (L.dead _ e) h1
 |deadM e h1=>exact .deadM (L.dead _ e) h1
 |deadR e h1=>exact .deadR (L.dead _ e) h1
 |deadE e h1=>exact .deadE (L.dead _ e) h1
 |fn hl _ ih=>exact .fn hl ih
 |agg hl _ ih=>exact .agg hl ih
 |tup hl _ ih=>exact .tup hl ih
theorem RV.one{g:G}{cu:H->Int}{w:World}{v:Value}{m:MV}(h:RV g cu w v m)(hm:m.one=true):v.oneCell'=true/\v.cells= #[v]:=by
 have:v.oneCell'=true:=by
  cases h with
  |undef=>simp[MV.one]at hm
  |sv h=>cases h<;>rfl
  |agg=>simp[MV.one]at hm
  |tup=>simp[MV.one]at hm
  |nilp=>rfl
  |nils=>rfl
  |ptr=>rfl
  |mapr=>rfl
  |ptrS=>rfl
  |fn=>rfl
  |ref _ _ _ h=>exact h
  |refN _ _ _ h=>exact h
  |ptrE _ _ _ h=>exact h
  |ptrEN _ _ _ h=>exact h
  |deadP _ h=>exact h
  |deadM _ h=>exact h
  |deadR _ h=>exact h
  |deadE _ h=>exact h
 refine⟨this,?_⟩;cases v<;>first|rfl|(simp[Value.oneCell']at this)
end Kw
namespace Kw
open Go
variable [Gl]
theorem eR.mono{w w':World}{p p':Nat->Prop}{arr:Array Value}{sz:Nat}{rs:List Row}(h:eR w p arr sz rs)(hp:∀b,p b->p' b)(hw:∀b,p b->w'.heap[b]?=w.heap[b]?):eR w' p' arr sz rs:=
 fun i row hi=>⟨(h i row hi).1,fun j m hj=>let⟨v,hv,hs⟩:=(h i row hi).2 j m hj;⟨v,hv,hs.mono hp hw⟩⟩
theorem GK.mono{g g':G}{cu cu':H->Int}{w w':World}{h:H}{o:Obj}(k:GK g cu w h o)(L:Later g g' cu cu' w w')(hr:g'.rho h=g.rho h)
 (hb:∀b,(g.rho h).blk=some b->w'.heap[b]?=w.heap[b]?) (hp:∀b,(g.rho h).blk=some b->¬g.prot b->¬g'.prot b):GK g' cu' w' h o:=by
 cases o with
 |none=>exact hr.trans k
 |cells cs=>
  obtain⟨b,arr,ty,e,hh,hn,hs,hv⟩:=k;exact⟨b,arr,ty,hr.trans e,(hb b (by rw[e];rfl)).trans hh,hp b (by rw[e];rfl) hn,hs,fun j v m h1 h2=>(hv j v m h1 h2).mono L⟩
 |map es=>
  obtain⟨b,ents,clk,e,hh,hn,hs⟩:=k;exact⟨b,ents,clk,hr.trans e,(hb b (by rw[e];rfl)).trans hh,hp b (by rw[e];rfl) hn,hs⟩
 |rows rs=>
  rcases k with⟨e,hz⟩|⟨b,cap,sz,arr,ty,e,hh,hn,hs,hl,hv⟩
  ·exact .inl ⟨hr.trans e,hz⟩
  ·exact .inr ⟨b,cap,sz,arr,ty,hr.trans e,(hb b (by rw[e];rfl)).trans hh,hp b (by rw[e];rfl) hn,hs,hl,hv.mono L.prot L.heap⟩
 |froz rs=>
  rcases k with⟨e,hz⟩|⟨b,cap,sz,arr,ty,e,hh,hn,hs,hl,hv⟩
  ·exact .inl ⟨hr.trans e,hz⟩
  ·exact .inr ⟨b,cap,sz,arr,ty,hr.trans e,(hb b (by rw[e];rfl)).trans hh,L.prot _ hn,hs,hl,hv.mono L.prot L.heap⟩
theorem FD{ob:Ob}{h:H}{o:Obj}(hk:(ob.map (·.1)).Nodup)(hm:(h,o)∈ob):look ob h=o:=by
 induction ob with
 |nil=>cases hm
 |cons p r ih=>
  obtain⟨h',o'⟩:=p;simp only[wt,wd]at hk;unfold look;rcases kw.1 hm with e|e
  ·cases e;simp
  ·have:h'≠h:=fun e'=>hk.1 (by rw[e'];exact ym (f:=(·.1)) e)
   rw[jc this];exact ih hk.2 e
theorem lD{ob:Ob}{h:H}(hm:h∈ob.map (·.1)):(h,look ob h)∈ob:=by
 induction ob with
 |nil=>simp at hm
 |cons p r ih=>
  obtain⟨h',o'⟩:=p;unfold look;by_cases e:h'=h
  ·rw[je e,e];exact yh
  ·rw[jc e];refine qj _ (ih ?_);simp only[wt,kw]at hm;exact hm.resolve_left (fun e'=>e e'.symm)
theorem pW{ob:Ob}{h:H}(hm:h∉ob.map (·.1)):look ob h=.none:=by
 induction ob with
 |nil=>rfl
 |cons p r ih=>
  obtain⟨h',o'⟩:=p;simp only[wt,kw,not_or]at hm;unfold look;rw[jc (fun e=>hm.1 e.symm)];exact ih hm.2
theorem pX{ob:Ob}{h:H}(hn:look ob h≠ .none):h∈ob.map (·.1):=by
 by_cases hm:h∈ob.map (·.1)
 ·exact hm
 ·exact absurd (pW hm) hn
theorem PX{ob:Ob}{h:H}{o:Obj}:(put ob h o).map (·.1)=if h∈ob.map (·.1)then ob.map (·.1)else ob.map (·.1)++[h]:=by
 induction ob with
 |nil=>simp[put]
 |cons p r ih=>
  obtain⟨h',o'⟩:=p;unfold put;by_cases e:h'=h
  ·rw[je e];simp[e]
  ·rw[jc e];simp only[wt,ih,kw];by_cases hm:h∈r.map (·.1)
   ·rw[je hm,je (.inr hm)]
   ·rw[jc hm,jc (by rintro(x|x);exact e x.symm;exact hm x)];rfl
theorem XP{ob:Ob}{h:H}{o:Obj}(hk:(ob.map (·.1)).Nodup):((put ob h o).map (·.1)).Nodup:=by
 rw[PX];split
 ·exact hk
 ·rename_i hm;exact qo.2 ⟨hk,by simp,by intro a ha b hb;simp at hb;rw[hb];exact fun e=>hm (e▸ha)⟩
theorem jQ{ob:Ob}{h h':H}{o:Obj}:h'∈(put ob h o).map (·.1)↔h'=h\/h'∈ob.map (·.1):=by
 rw[PX];split
 ·rename_i hm;exact⟨.inr,fun e=>e.elim (fun e=>e▸hm) id⟩
 ·simp[or_comm]
theorem mem_put{ob:Ob}{h h':H}{o o':Obj}(hk:(ob.map (·.1)).Nodup)(hm:(h',o')∈put ob h o):(h'=h/\o'=o)\/(h'≠h/\(h',o')∈ob):=by
 induction ob with
 |nil=>simp[put]at hm;exact .inl hm
 |cons p r ih=>
  obtain⟨k,ok⟩:=p;simp only[wt,wd]at hk;unfold put at hm;by_cases e:k=h
  ·rw[je e]at hm;rcases kw.1 hm with x|x
   ·cases x;exact .inl ⟨rfl,rfl⟩
   ·refine .inr ⟨fun e'=>hk.1 ?_,qj _ x⟩
    rw[e,<-e'];exact ym (f:=(·.1)) x
  ·rw[jc e]at hm;rcases kw.1 hm with x|x
   ·cases x;exact .inr ⟨e,yh⟩
   ·rcases ih hk.2 x with y|⟨y,z⟩
    ·exact .inl y
    ·exact .inr ⟨y,qj _ z⟩
theorem iB{ob:Ob}{h:H}{o:Obj}:look (put ob h o) h=o:=by
 induction ob with
 |nil=>simp[put,look]
 |cons p r ih=>
  obtain⟨k,ok⟩:=p;unfold put;by_cases e:k=h
  ·rw[je e];simp[look]
  ·rw[jc e];simp[look,e,ih]
theorem jI{ob:Ob}{h h':H}{o:Obj}(hne:h'≠h):look (put ob h o) h'=look ob h':=by
 induction ob with
 |nil=>simp[put,look,Ne.symm hne]
 |cons p r ih=>
  obtain⟨k,ok⟩:=p;unfold put;by_cases e:k=h
  ·rw[je e];subst e;simp[look,Ne.symm hne]
  ·rw[jc e];simp only[look,ih]
theorem cU{ob:Ob}{h h':H}{o:Obj}(hne:h'≠h):cur (put ob h o) h'=cur ob h':=by unfold cur;rw[jI hne]
theorem SimO.upd{ob:Ob}{g g':G}{w w':World}(S:SimO ob g w)(h:H)(o:Obj)
 (hne:∀h',h'≠h->g'.rho h'=g.rho h')
 (hnew:g'.rho h≠ .absent)
 (L:Later g g' (cur ob) (cur (put ob h o)) w w')
 (hheap:∀h' b,h'≠h->(g.rho h').blk=some b->w'.heap[b]?=w.heap[b]?)
 (hprot:∀h' b,h'≠h->(g.rho h').blk=some b->¬g.prot b->¬g'.prot b)
 (hobj:GK g' (cur (put ob h o)) w' h o)
 (hinj:∀h' b,h'≠h->(g'.rho h).blk=some b->(g.rho h').blk≠some b)
 (hlt:∀b,(g'.rho h).blk=some b->b<w'.heap.size)
 (hsz:w.heap.size<=w'.heap.size)
 (hplt:∀b,g'.prot b->b<w'.heap.size):SimO (put ob h o) g' w' where
 keys:=XP S.keys
 abs:=fun h'=>by
  rw[jQ];by_cases e:h'=h
  ·subst e;exact⟨fun x=>absurd x hnew,fun x=>absurd (.inl rfl) x⟩
  ·rw[hne h' e,S.abs h'];exact⟨fun x y=>y.elim e x,fun x y=>x (.inr y)⟩
 obj:=fun h' o' hm=>by
  rcases mem_put S.keys hm with⟨e1,e2⟩|⟨e1,e2⟩
  ·subst e1;subst e2;exact hobj
  ·exact(S.obj h' o' e2).mono L (hne h' e1) (fun b hb=>hheap h' b e1 hb) (fun b hb=>hprot h' b e1 hb)
 inj:=fun h1 h2 b e1 e2=>by
  by_cases x1:h1=h<;>by_cases x2:h2=h
  ·rw[x1,x2]
  ·subst x1;rw[hne h2 x2]at e2;exact absurd e2 (hinj h2 b x2 e1)
  ·subst x2;rw[hne h1 x1]at e1;exact absurd e1 (hinj h1 b x1 e2)
  ·rw[hne h1 x1]at e1;rw[hne h2 x2]at e2;exact S.inj h1 h2 b e1 e2
 lt:=fun h' b e=>by
  by_cases x:h'=h
  ·subst x;exact hlt b e
  ·rw[hne h' x]at e;exact qx (S.lt h' b e) hsz
 plt:=hplt
 gl:=S.gl.mono L.prot L.heap
theorem Sim.later{fr:Fr}{g g':G}{tmps:Array Value}{w w':World}{ob':Ob}(S:Sim fr g tmps w)(L:Later g g' (cur fr.ob) (cur ob') w w')(o:SimO ob' g' w'):Sim {fr with ob:=ob'} g' tmps w':=
 ⟨S.size,fun t v m h1 h2=>(S.slot t v m h1 h2).mono L,o⟩
theorem Sim.set{fr:Fr}{g:G}{tmps:Array Value}{w:World}(S:Sim fr g tmps w)(t:Nat){v:Value}{m:MV}(h:RV g (cur fr.ob) w v m):Sim (fr.set t m) g (tmps.setIfInBounds t v) w:=
 ⟨by simp[Fr.set,S.size],fun t' v' m' h1 h2=>by
  simp only[Fr.set]at h2;by_cases e:t=t'
  ·subst e;have ht:t<fr.sl.length:=by
    have:=(jm.1 h2).1;simpa using this
   rw[List.getElem?_set_self ht]at h2;rw[Array.getElem?_setIfInBounds_self_of_lt (by rw[S.size];exact ht)]at h1
   cases h1;cases h2;exact h
  ·rw[List.getElem?_set_ne e]at h2;rw[Array.getElem?_setIfInBounds_ne e]at h1;exact S.slot t' v' m' h1 h2,S.o⟩
end Kw
namespace Kw
open Go
variable [Gl]
structure Fm(g:G)(w:World)(g':G)(w':World):Prop where
 os:w'.os=w.os
 tape:w'.tape=w.tape
 output:w'.output=w.output
 size:w.heap.size<=w'.heap.size
 heap:∀b,b<w.heap.size->(∀h,(g.rho h).blk≠some b)->w'.heap[b]?=w.heap[b]?
 own:∀h b,(g'.rho h).blk=some b->w.heap.size<=b\/∃h0,(g.rho h0).blk=some b
 prot:∀b,g.prot b->g'.prot b
 prot':∀b,g'.prot b->g.prot b\/w.heap.size<=b\/∃h0,(g.rho h0).blk=some b
 imp:∀i,g'.rho (.imp i)=g.rho (.imp i)\/g'.rho (.imp i)=.dead\/g'.rho (.imp i)=.absent
theorem Fm.refl(g:G)(w:World):Fm g w g w:=⟨rfl,rfl,rfl,ko _,fun _ _ _=>rfl,fun h b e=>.inr ⟨h,e⟩,fun _ h=>h,fun _ h=>.inl h,fun _=>.inl rfl⟩
theorem Fm.trans{g1 g2 g3:G}{w1 w2 w3:World}(a:Fm g1 w1 g2 w2)(b:Fm g2 w2 g3 w3):Fm g1 w1 g3 w3 where
 os:=b.os.trans a.os
 tape:=b.tape.trans a.tape
 output:=b.output.trans a.output
 size:=jx a.size b.size
 heap:=fun k hk hn=>(b.heap k (qx hk a.size) (fun h e=>by
  rcases a.own h k e with x|⟨h0,x⟩
  ·omega
  ·exact hn h0 x)).trans (a.heap k hk hn)
 own:=fun h k e=>by
  rcases b.own h k e with x|⟨h0,x⟩
  ·exact .inl (jx a.size x)
  ·exact a.own h0 k x
 prot:=fun k h=>b.prot k (a.prot k h)
 prot':=fun k h=>by
  rcases b.prot' k h with x|x|⟨h0,x⟩
  ·exact a.prot' k x
  ·exact .inr (.inl (jx a.size x))
  ·exact .inr (a.own h0 k x)
 imp:=fun i=>by
  rcases b.imp i with x|x
  ·rcases a.imp i with y|y
   ·exact .inl (x.trans y)
   ·exact .inr (by rw[x];exact y)
  ·exact .inr x
theorem rv_ofCell(g:G)(cu:H->Int)(w:World)(v:Value):RV g cu w v (nI v):=by
 unfold nI;split
 ·exact .sv (.bool _)
 ·exact .sv (.int _ _)
 ·exact .sv (.str _)
 ·exact .nils
 ·exact .nilp
 ·exact .sv .ifN
 ·exact .undef _
theorem alK(g:G)(cu:H->Int)(w:World)(v:Value):RV g cu w v (ofV v):=by
 unfold ofV;split
 ·rename_i cs;refine .agg (by simp) (fun j v m h1 h2=>?_)
  rw[jn,qh]at h2;rw[h1]at h2;cases h2;exact rv_ofCell g cu w v
 ·exact rv_ofCell g cu w v
theorem bD{fr:Fr}{g:G}{a:Act}{w:World}(S:Sim fr g a.tmps w)(x:Operand):RV g (cur fr.ob) w (a.eval x) (aK fr x):=by
 cases x with
 |tmp t=>
  show RV g _ w (a.tmps.getD t undef) (fr.sl.getD t .undef);by_cases h:t<fr.sl.length
  ·have h':t<a.tmps.size:=by rw[S.size];exact h
   rw[js,qi,jj h,kh h'];exact S.slot t _ _ (kh h') (jj h)
  ·rw[js,ql (Nat.le_of_not_lt h)];exact .undef _
 |const v=>exact alK g _ w v
 |global k=>
  show RV g _ w (.pointer (some ⟨k,0,none⟩)) (glb k);unfold glb;cases e:Gl.glr k with
  |none=>exact .undef _
  |some rs=>
   obtain⟨hp,x,hx,hs⟩:=S.o.gl k rs e;refine .ptrS (ad:=⟨k,0,none⟩) (c:=0) (fun _=>x) hp rfl (fun j m hj=>?_) (fun j m hj=>?_)
   ·cases j with
    |zero=>exact hx
    |succ j=>simp at hj
   ·cases j with
    |zero=>simp at hj;subst hj;exact hs
    |succ j=>simp at hj
 |func f=>
  exact .fn (by simp) (fun j v m h1 h2=>by simp at h2)
def eT{R:Type}(r:R)(k:Fr->Option R)(g:G)(w:World)(a:Act)(a':Act)(w':World):Prop:=
 a'.defers=a.defers/\∃fr' g',k fr'=some r/\Sim fr' g' a'.tmps w'/\Fm g w g' w'
theorem pY{R:Type}{r:R}{k:Fr->Option R}{fr1:Fr}{g g':G}{w w':World}{a:Act}{dst:Option Tmp}{v:Value}{m:MV}
 (hk:k (fr1.finish dst m)=some r) (S:Sim fr1 g' a.tmps w') (h:RV g' (cur fr1.ob) w' v m) (F:Fm g w g' w'):eT r k g w a (a.put dst v) w':=by
 cases dst with
 |none=>exact⟨rfl,fr1,g',hk,S,F⟩
 |some d=>exact⟨rfl,_,g',hk,S.set d h,F⟩
end Kw
namespace Kw
open Go
variable [Gl]
section
variable {P:Program} {w:World}
theorem run_und{t:TypeId}{d:TypeDesc}(h:P.underlying t=some d):(underlying t).run P w=.ok d w:=by
 unfold underlying;simp[h]
theorem HQ{t:TypeId}{i:TypeInfo}(h:P.info? t=some i):(typeInfo t).run P w=.ok i w:=by
 unfold typeInfo;simp[h]
theorem nA{t:TypeId}{i:TypeInfo}(h:P.info? t=some i):(Go.sizeOf t).run P w=.ok (tsize P t) w:=by
 unfold Go.sizeOf;simp[HQ h,tsize,h]
theorem ab8{t:TypeId}{i:TypeInfo}{v:Value}(h:P.info? t=some i)(hz:i.zero=some v):(zeroValue t).run P w=.ok v w:=by
 unfold zeroValue;simp[HQ h,hz]
theorem B4{t:TypeId}{d:TypeDesc}(h:P.underlying t=some d):∃i,P.info? t=some i:=by
 cases hi:P.info? t with
 |some i=>exact⟨i,rfl⟩
 |none=>unfold Program.underlying at h;rw[hi]at h;simp at h
theorem yH{t:TypeId}{d:TypeDesc}(h:P.underlying t=some d):(Go.isAgg t).run P w=.ok (isAgg P t) w:=by
 unfold Go.isAgg isAgg;simp only[h];cases d<;>simp[run_und h]
theorem L7(b off n:Nat):(⟨b,off,none⟩:Addr).add n=⟨b,off+n,none⟩:=by
 unfold Addr.add;split<;>simp_all
theorem L8{b off:Nat}{v:Value}(h:w.cell? ⟨b,off,none⟩=some v):(load ⟨b,off,none⟩).run P w=.ok v w:=by
 rw[run_load];simp[h]
theorem AF{b off:Nat}(f:Nat->Value):∀(n i:Nat) (acc:Array Value),(∀j,j<n->w.cell? ⟨b,off+(i+j),none⟩=some (f (i+j)))->
 (loadCellsFrom ⟨b,off,none⟩ i n acc).run P w=.ok (acc++((List.range n).map fun j=>f (i+j)).toArray) w
 |0,i,acc,_=>by simp[loadCellsFrom]
 |n+1,i,acc,h=>by
  unfold loadCellsFrom;simp only[Sem.run_bind,L7];rw[L8 (by simpa using h 0 (by omega))]
  simp only[Result.andThen_ok];rw[AF f n (i+1) _ (fun j hj=>by have:=h (j+1) (by omega);rw[show i+1+j=i+(j+1) by omega];exact this)]
  congr 1
  rw[List.range_succ_eq_map];apply Array.toList_inj.1;simp[Function.comp_def,yw,Nat.add_comm 1]
theorem L9{b off n:Nat}(f:Nat->Value)(h:∀j,j<n->w.cell? ⟨b,off+j,none⟩=some (f j)):
 (loadCells ⟨b,off,none⟩ n).run P w=.ok ((List.range n).map f).toArray w:=by
 unfold loadCells;rw[AF f n 0 #[] (fun j hj=>by simpa using h j hj)]
 simp
theorem VM{t:TypeId}{d:TypeDesc}{b off:Nat}(hu:P.underlying t=some d)(f:Nat->Value)(h:∀j,j<tsize P t->w.cell? ⟨b,off+j,none⟩=some (f j))(h1:isAgg P t=false->0<tsize P t):
 (loadVar t ⟨b,off,none⟩).run P w=.ok (if isAgg P t then .agg ((List.range (tsize P t)).map f).toArray else f 0) w:=by
 obtain⟨i,hi⟩:=B4 hu;unfold loadVar;simp only[Sem.run_bind,yH hu,Result.andThen_ok];cases ha:isAgg P t with
 |true=>simp[nA hi,L9 f h]
 |false=>simp only[kz,qn];exact L8 (by simpa using h 0 (h1 ha))
end
end Kw
namespace Kw
open Go
variable [Gl]
section inv
variable {g:G} {cu:H->Int} {w:World} {v:Value}
theorem iZ{k:IntKind}{n:Int}(h:RV g cu w v (.int k n)):v=.int k n:=by cases h with|sv h=>cases h;rfl
theorem lY{b:Bool}(h:RV g cu w v (.bool b)):v=.bool b:=by cases h with|sv h=>cases h;rfl
theorem nJ{s:ByteArray}(h:RV g cu w v (.str s)):v=.string s:=by cases h with|sv h=>cases h;rfl
theorem rv_sl{rows:List Row}(h:RV g cu w v (.sl rows)):SV w g.prot v (.sl rows):=by cases h with|sv h=>exact h
theorem tS{cs:List MV}(h:RV g cu w v (.agg cs)):∃vs:Array Value,v=.agg vs/\vs.size=cs.length/\∀(j:Nat) (v:Value) (m:MV),vs[j]?=some v->cs[j]?=some m->RV g cu w v m:=by
 cases h with
 |sv h=>cases h
 |agg hl hr=>exact⟨_,rfl,hl,hr⟩
theorem SZ{cs:List MV}(h:RV g cu w v (.tup cs)):∃vs:Array Value,v=.tuple vs/\vs.size=cs.length/\∀(j:Nat) (v:Value) (m:MV),vs[j]?=some v->cs[j]?=some m->RV g cu w v m:=by
 cases h with
 |sv h=>cases h
 |tup hl hr=>exact⟨_,rfl,hl,hr⟩
theorem ab9{f:FuncId}{caps:List MV}(h:RV g cu w v (.fn f caps)):∃vs:Array Value,v=.func (.func f) #[] vs/\vs.size=caps.length/\∀(j:Nat) (v:Value) (m:MV),vs[j]?=some v->caps[j]?=some m->RV g cu w v m:=by
 cases h with
 |sv h=>cases h
 |fn hl hr=>exact⟨_,rfl,hl,hr⟩
end inv
theorem aE{α R:Type}{o:Option α}{f:α->Option R}{r:R}(h:bnd o f=some r):∃x,o=some x/\f x=some r:=by
 unfold bnd at h;cases o with
 |none=>simp at h
 |some x=>exact⟨x,rfl,by simpa using h⟩
theorem br_some{R:Type}{b:Bool}{x y:Option R}{r:R}(h:br b x y=some r):(b=true/\x=some r)\/(b=false/\y=some r):=by
 unfold br at h;cases b
 ·exact .inr ⟨rfl,h⟩
 ·exact .inl ⟨rfl,h⟩
theorem iK{m:MV}{b:Bool}(h:nP m=some b):m=.bool b:=by unfold nP at h;split at h<;>simp_all
theorem yI{m:MV}{b:ByteArray}(h:d6 m=some b):m=.str b:=by unfold d6 at h;split at h<;>simp_all
theorem n9{m:MV}{k:IntKind}{b:Int}(h:d9 k m=some b):m=.int k b:=by
 unfold d9 at h;split at h
 ·split at h<;>simp_all
 ·simp at h
theorem HR{m:MV}{b:Bool}(h:gIf m=some b):m=.iface b:=by unfold gIf at h;split at h<;>simp_all
theorem B5{m:MV}{b:List Row}(h:gSl m=some b):m=.sl b:=by unfold gSl at h;split at h<;>simp_all
theorem EF{m:MV}{b:List Row}(h:KB m=some b):m=.own b:=by unfold KB at h;split at h<;>simp_all
section
variable {P:Program} {R:Type} {r:R} {k:Fr->Option R} {fr:Fr} {g:G} {a:Act} {w:World} {o:Oper} {Q:Exit->Act->World->Prop}
theorem aR{v:Value}{m:MV}{g':G}{w':World}{fr1:Fr}(hr:(execOp a.eval o).run P w=.ok (.value v) w')
 (hk:k (fr1.finish o.dst m)=some r) (S:Sim fr1 g' a.tmps w') (h:RV g' (cur fr1.ob) w' v m) (F:Fm g w g' w'):
 o.upon P a (eT r k g w a) Q ((execOp a.eval o).run P w):=by
 rw[hr];exact pY hk S h F
theorem NQ{m:MV}{g':G}{w':World}{fr1:Fr}(hr:(execOp a.eval o).run P w=.ok .skip w')
 (hk:k (fr1.finish o.dst .undef)=some r) (S:Sim fr1 g' a.tmps w') (F:Fm g w g' w'):
 o.upon P a (eT r k g w a) Q ((execOp a.eval o).run P w):=by
 rw[hr];exact pY (m:=.undef) hk S (.undef _) F
theorem s_move{x:Operand}(ho:o.op=.move x\/o.op=.assign x)(h:k (fr.finish o.dst (aK fr x))=some r)(S:Sim fr g a.tmps w):
 o.upon P a (eT r k g w a) Q ((execOp a.eval o).run P w):=by
 refine aR (v:=a.eval x) ?_ h S (bD S x) (Fm.refl _ _);unfold execOp;rcases ho with ho|ho<;>rw[ho]<;>simp
theorem s_pick{c x y:Operand}(ho:o.op=.pick c x y)(h:(bnd (nP (aK fr c)) fun c=>br c (k (fr.finish o.dst (aK fr x))) (k (fr.finish o.dst (aK fr y))))=some r)(S:Sim fr g a.tmps w):
 o.upon P a (eT r k g w a) Q ((execOp a.eval o).run P w):=by
 obtain⟨b,hb,h⟩:=aE h;have hc:=bD S c;rw[iK hb]at hc;have hc:=lY hc;have hr:(execOp a.eval o).run P w=.ok (.value (if b then a.eval x else a.eval y)) w:=by
  unfold execOp;rw[ho];generalize a.eval=ρ at*;simp[hc,asBool]
 rcases br_some h with⟨e,h⟩|⟨e,h⟩<;>subst e
 ·exact aR hr h S (bD S x) (Fm.refl _ _)
 ·exact aR hr h S (bD S y) (Fm.refl _ _)
theorem S7{op:BinOp}{t yt:TypeId}{x y:Operand}{ρ:Operand->Value}{kd:IntKind}{n m:Int}{v:Value}(ho:o.op=.binOp op t x y yt)
 (hx:ρ x=.int kd n) (hy:ρ y=.int kd m) (hb:(binOp op t (.int kd n) (.int kd m)).run P w=.ok v w):
 (execOp ρ o).run P w=.ok (.value v) w:=by
 unfold execOp;rw[ho];simp only[hx,hy];simp[eqGuard,hb]
theorem NR{t:TypeId}(hu:P.underlying t=some .bool)(n:Nat)(b b':Bool):(Op.equalIn (n+1) t (.bool b) (.bool b')).run P w=.ok (b==b') w:=by
 unfold Op.equalIn;simp[run_und hu]
theorem HS{t:TypeId}(hu:P.underlying t=some .bool)(b b':Bool):(Op.equal t (.bool b) (.bool b')).run P w=.ok (b==b') w:=NR hu 9999 b b'
theorem XQ(t:TypeId)(b b':Bool):binOp .eql t (.bool b) (.bool b')=(do pure (.bool (<-Op.equal t (.bool b) (.bool b')))):=rfl
theorem XR(t:TypeId)(b b':Bool):binOp .neq t (.bool b) (.bool b')=(do pure (.bool (!(<-Op.equal t (.bool b) (.bool b'))))):=rfl
theorem asC{op:BinOp}{t yt:TypeId}{x y:Operand}(ho:o.op=.binOp op t x y yt)(h:tI (NJ P t) op (aK fr x) (aK fr y) (fun m=>k (fr.finish o.dst m))=some r)(S:Sim fr g a.tmps w):
 o.upon P a (eT r k g w a) Q ((execOp a.eval o).run P w):=by
 have hx:=bD S x;have hy:=bD S y;unfold tI at h;split at h
 ·rename_i kd n kd' m ex ey;rw[ex]at hx;rw[ey]at hy;have hx:=iZ hx;have hy:=iZ hy;split at h
  ·rename_i e;subst e;have key:∀(v:Value) (mv:MV),SV w g.prot v mv->k (fr.finish o.dst mv)=some r->(binOp op t (.int kd n) (.int kd m)).run P w=.ok v w->
    o.upon P a (eT r k g w a) Q ((execOp a.eval o).run P w):=
    fun v mv hs hk hb=>aR (S7 ho hx hy hb) hk S (.sv hs) (Fm.refl _ _)
   split at h
   ·exact key _ _ (.int _ _) h (by simp[binOp,Op.intArith,bU])
   ·exact key _ _ (.int _ _) h (by simp[binOp,Op.intArith,hJ])
   ·exact key _ _ (.int _ _) h (by simp[binOp,Op.intArith,m7])
   ·rcases br_some h with⟨_,h⟩|⟨e,h⟩
    ·simp at h
    ·exact key _ _ (.int _ _) h (by simp[iEq]at e;simp[binOp,Op.intDiv,D9,e])
   ·rcases br_some h with⟨_,h⟩|⟨e,h⟩
    ·simp at h
    ·exact key _ _ (.int _ _) h (by simp[iEq]at e;simp[binOp,Op.intDiv,y8,e])
   ·exact key _ _ (.int _ _) h (by simp[binOp,Op.intBits,PS])
   ·exact key _ _ (.bool _) h (by simp[binOp,Op.intCmp,iEq])
   ·exact key _ _ (.bool _) h (by simp[binOp,Op.intCmp,iEq,bNot];rfl)
   ·exact key _ _ (.bool _) h (by simp[binOp,Op.intCmp,iLt])
   ·exact key _ _ (.bool _) h (by simp[binOp,Op.intCmp,iLe])
   ·exact key _ _ (.bool _) h (by simp[binOp,Op.intCmp,iLt])
   ·exact key _ _ (.bool _) h (by simp[binOp,Op.intCmp,iLe])
   ·simp at h
  ·simp at h
 ·rename_i s s' ex ey;rw[ex]at hx;rw[ey]at hy;have hx:=nJ hx;have hy:=nJ hy;have key:∀(v:Value) (mv:MV),SV w g.prot v mv->k (fr.finish o.dst mv)=some r->(Op.stringOp op s s').run P w=.ok v w->
   o.upon P a (eT r k g w a) Q ((execOp a.eval o).run P w):=fun v mv hs hk hb=>by
   refine aR (v:=v) ?_ hk S (.sv hs) (Fm.refl _ _);unfold execOp;rw[ho];generalize a.eval=ρ at*;simp only[hx,hy];simp[eqGuard,binOp,hb]
  split at h
  ·rcases br_some h with⟨e,h⟩|⟨_,h⟩
   ·refine key _ _ (.str _) h ?_;simp[eP,sLen]at e;have:¬((s.size+s'.size:Nat):Int)>IntKind.i64.max:=by
     have:IntKind.i64.max=9223372036854775807:=rfl;omega
    simp only[Op.stringOp];rw[jc this]
    rfl
   ·simp at h
  ·exact key _ _ (.bool _) h (by simp[Op.stringOp,sEq])
  ·exact key _ _ (.bool _) h (by simp[Op.stringOp,sEq,bNot])
  ·simp at h
 ·rename_i b b' ex ey;rw[ex]at hx;rw[ey]at hy;have hx:=lY hx;have hy:=lY hy;split at h
  ·rename_i hub;have hu:P.underlying t=some .bool:=by unfold NJ at hub;split at hub<;>simp_all
   have key:∀(v:Value) (mv:MV),SV w g.prot v mv->k (fr.finish o.dst mv)=some r->(binOp op t (.bool b) (.bool b')).run P w=.ok v w->
    o.upon P a (eT r k g w a) Q ((execOp a.eval o).run P w):=fun v mv hs hk hb=>by
    refine aR (v:=v) ?_ hk S (.sv hs) (Fm.refl _ _);unfold execOp;rw[ho];generalize a.eval=ρ at*;simp only[hx,hy];simp[eqGuard,hb]
   split at h
   ·exact key _ _ (.bool _) h (by rw[XQ];simp[HS hu,bEq])
   ·exact key _ _ (.bool _) h (by rw[XR];simp[HS hu,bEq,bNot])
   ·simp at h
  ·simp at h
 ·simp at h
theorem S8{t:TypeId}{ms:Array (String×TypeId)}(hu:P.underlying t=some (.interface ms))(n:Nat)(v:Value)(b:Bool)(hv:(v=.nilIface/\b=true)\/∃t' v',v=.iface t' v'/\b=false):(Op.equalIn (n+1) t v .nilIface).run P w=.ok b w:=by
 rcases hv with⟨e,e'⟩|⟨t',v',e,e'⟩<;>subst e<;>subst e'<;>simp[Op.equalIn,run_und hu]
theorem alL{op:BinOp}{t yt:TypeId}{x y:Operand}{q:Bool}(h:(match op with| .eql=>k (fr.finish o.dst (.bool q))| .neq=>k (fr.finish o.dst (.bool (bNot q)))|_=>none)=some r)(ho:o.op=.binOp op t x y yt)(hx:aK fr x=.iface q)(hy:SU y=true)(hi:ab2 P t=true)(S:Sim fr g a.tmps w):
 o.upon P a (eT r k g w a) Q ((execOp a.eval o).run P w):=by
 have hr:=bD S x;rw[hx]at hr;have hv:(a.eval x=.nilIface/\q=true)\/∃t' v',a.eval x=.iface t' v'/\q=false:=by
  generalize a.eval x=vx at hr⊢;cases hr with
  |sv h=>cases h with
   |ifN=>exact .inl ⟨rfl,rfl⟩
   |ifS t' v'=>exact .inr ⟨t',v',rfl,rfl⟩
 have hyc:y=.const .nilIface:=by
  unfold SU at hy;split at hy
  ·rfl
  ·cases hy
 subst hyc;obtain⟨ms,hu⟩:∃ms,P.underlying t=some (.interface ms):=by
  unfold ab2 at hi;split at hi
  ·rename_i ms e;exact⟨ms,e⟩
  ·cases hi
 have he:=S8 (w:=w) hu 9999 (a.eval x) q hv;have hev:a.eval (.const .nilIface)=.nilIface:=rfl;have hg:(eqGuard op t x (.const .nilIface) (a.eval x) .nilIface).run P w=.ok () w:=by
  rcases hv with⟨e,_⟩|⟨t',v',e,_⟩<;>rw[e]<;>cases op<;>simp[eqGuard]
 by_cases e1:op=.eql
 ·subst e1;simp only at h;refine aR (v:=.bool q) ?_ h S (.sv (.bool _)) (Fm.refl _ _);unfold execOp;rw[ho];simp only[hev];have hb:(binOp .eql t (a.eval x) .nilIface).run P w=.ok (.bool q) w:=by
   rcases hv with⟨e,_⟩|⟨t',v',e,_⟩<;>(rw[e]at he⊢;simp only[binOp];simp[Op.equal,Op.maxDepth,he])
  simp[hg,hb]
 by_cases e2:op=.neq
 ·subst e2;simp only at h;refine aR (v:=.bool (!q)) ?_ h S (.sv (.bool _)) (Fm.refl _ _);unfold execOp;rw[ho];simp only[hev];have hb:(binOp .neq t (a.eval x) .nilIface).run P w=.ok (.bool (!q)) w:=by
   rcases hv with⟨e,_⟩|⟨t',v',e,_⟩<;>(rw[e]at he⊢;simp only[binOp];simp[Op.equal,Op.maxDepth,he])
  simp[hg,hb]
 ·exfalso;cases op<;>simp_all
theorem s_un{op:UnOp}{t:TypeId}{x:Operand}(h:(match op,aK fr x with
 | .not,.bool b=>k (fr.finish o.dst (.bool (bNot b)))
 | .neg,.int kd n=>k (fr.finish o.dst (.int kd (hJ kd 0 n)))
 |_,_=>none)=some r) (ho:o.op=.unOp op t x) (S:Sim fr g a.tmps w):o.upon P a (eT r k g w a) Q ((execOp a.eval o).run P w):=by
 have hx:=bD S x;split at h
 ·rename_i b ex;rw[ex]at hx;have hx:=lY hx;refine aR (v:=.bool (!b)) ?_ h S (.sv (.bool _)) (Fm.refl _ _);unfold execOp;rw[ho];generalize a.eval=ρ at*;simp[hx,Op.unary]
 ·rename_i kd n ex;rw[ex]at hx;have hx:=iZ hx;refine aR (v:=.int kd (kd.wrap (0-n))) ?_ h S (.sv (.int _ _)) (Fm.refl _ _);unfold execOp;rw[ho];generalize a.eval=ρ at*;simp[hx,Op.unary,Op.intArith]
 ·simp at h
theorem s_index{t:TypeId}{x i:Operand}(ho:o.op=.index t x i)(h:(match aK fr x,aK fr i with
 | .str s,.int _ n=>bnd (sAt s n) fun b=>k (fr.finish o.dst (.int .u8 b))
 |_,_=>none)=some r) (hu:P.underlying t=some .string) (S:Sim fr g a.tmps w):o.upon P a (eT r k g w a) Q ((execOp a.eval o).run P w):=by
 have hx:=bD S x;have hi:=bD S i;split at h
 ·rename_i s kd n ex ei;rw[ex]at hx;rw[ei]at hi;have hx:=nJ hx;have hi:=iZ hi;obtain⟨b,hb,h⟩:=aE h;refine aR (v:=.int .u8 b) ?_ h S (.sv (.int _ _)) (Fm.refl _ _);unfold sAt at hb;split at hb
  ·rename_i h0;obtain⟨c,hc,e⟩:=kq.1 hb;have hc':s[n.toNat]?=some c:=by
    rw[qh]at hc;rw[<-hc];rfl
   unfold execOp;rw[ho];generalize a.eval=ρ at*;simp[hx,hi,Instr.index,asIntOf,run_und hu,h0,hc',<-e]
  ·simp at hb
 ·simp at h
theorem s_extract{x:Operand}{j:Nat}(ho:o.op=.extract x j)(h:(match aK fr x with| .tup vs=>if j<vs.length then k (fr.finish o.dst (vs.getD j .undef))else none|_=>none)=some r)(S:Sim fr g a.tmps w):
 o.upon P a (eT r k g w a) Q ((execOp a.eval o).run P w):=by
 have hx:=bD S x;split at h
 ·rename_i vs ex;split at h
  ·rename_i hj;rw[ex]at hx;obtain⟨us,e,hl,hr⟩:=SZ hx;have h1:us[j]?=some (us[j]'(by omega)):=kh (by omega)
   have h2:vs[j]?=some (vs[j]'hj):=jj hj;refine aR (v:=us[j]'(by omega)) (m:=vs.getD j .undef) ?_ h S ?_ (Fm.refl _ _)
   ·unfold execOp;rw[ho];generalize a.eval=ρ at*;simp[e,Instr.extract,h1]
   ·rw[js,h2];exact hr j _ _ h1 h2
  ·simp at h
 ·simp at h
theorem s_makeFunc{f:FuncId}{first caps:Array Operand}(ho:o.op=.makeFunc (.func f) first caps)(hf:first.size=0)(h:k (fr.finish o.dst (.fn f (caps.toList.map (aK fr))))=some r)(S:Sim fr g a.tmps w):
 o.upon P a (eT r k g w a) Q ((execOp a.eval o).run P w):=by
 refine aR (v:=.func (.func f) #[] (caps.map a.eval)) ?_ h S (.fn (by simp) (fun j v m h1 h2=>?_)) (Fm.refl _ _)
 ·have:first= #[]:=Array.eq_empty_of_size_eq_zero hf;unfold execOp;rw[ho];simp[Instr.makeFunc,this]
 ·rw[Array.getElem?_map]at h1;rw[jn,qh]at h2;cases hc:caps[j]? with
  |none=>rw[hc]at h1;simp at h1
  |some c=>
   rw[hc]at h1 h2;simp only[wu,Option.some.injEq]at h1 h2;rw[<-h1,<-h2];exact bD S c
end
end Kw
namespace Kw
open Go
variable [Gl]
theorem HT{R:Type}{r:R}:∀(shs:List Sh) (row:Row) (c:Nat) (k:List MV->Option R),opn false shs row c k=some r->
 ∃ms,k ms=some r/\ms.length=shs.length/\∀(j:Nat) (m:MV),ms[j]?=some m->row[c+j]?=some m
 |[],row,c,k,h=>⟨[],h,rfl,fun j m hj=>by simp at hj⟩
 |sh::shs,row,c,k,h=>by
  unfold opn at h;have key:∀m,m≠ .undef->aD row c=m->(opn false shs row (c+1) fun ms=>k (m::ms))=some r->
   ∃ms,k ms=some r/\ms.length=(sh::shs).length/\∀(j:Nat) (m:MV),ms[j]?=some m->row[c+j]?=some m:=by
   intro m hm hc h';obtain⟨ms,hk,hl,hms⟩:=HT shs row (c+1) _ h';refine⟨m::ms,hk,by simp[hl],fun j m' hj=>?_⟩
   cases j with
   |zero=>
    simp at hj;subst hj;unfold aD at hc;rw[js]at hc;cases hx:row[c]? with
    |none=>rw[hx]at hc;exact absurd hc.symm hm
    |some y=>rw[hx]at hc;simp at hc;simp[hx,hc]
   |succ j=>
    rw[show c+(j+1)=c+1+j by omega]
    exact hms j m' (by simpa using hj)
  unfold PT at h;split at h
  ·obtain⟨b,hb,h⟩:=aE h;exact key _ (by simp) (iK hb) h
  ·obtain⟨b,hb,h⟩:=aE h;exact key _ (by simp) (n9 hb) h
  ·obtain⟨b,hb,h⟩:=aE h;exact key _ (by simp) (yI hb) h
  ·simp only[kz,qn]at h;obtain⟨b,hb,h⟩:=aE h;exact key _ (by simp) (B5 hb) h
  ·obtain⟨b,hb,h⟩:=aE h;exact key _ (by simp) (HR hb) h
  ·simp at h
section
variable {g:G} {cu:H->Int} {w:World} {v:Value}
theorem EG{h:H}{off b:Nat}(k:RV g cu w v (.ptr h off))(e:g.rho h=.box b):v=.pointer (some ⟨b,off,none⟩):=by
 cases k with
 |sv h=>cases h
 |ptr e'=>rw[e]at e';cases e';rfl
 |deadP e'=>rw[e]at e';cases e'
theorem NS{h:H}{b:Nat}(k:RV g cu w v (.mapr h))(e:g.rho h=.box b):v=.map (some b):=by
 cases k with
 |sv h=>cases h
 |mapr e'=>rw[e]at e';cases e';rfl
 |deadM e'=>rw[e]at e';cases e'
theorem NT{row:Row}{c:Nat}(k:RV g cu w v (.ptrS row c)):∃(ad:Addr) (vf:Nat->Value),v=.pointer (some ⟨ad.block,ad.off+c,none⟩)/\g.prot ad.block/\
 (∀(j:Nat) (m:MV),row[j]?=some m->w.cell? ⟨ad.block,ad.off+j,none⟩=some (vf j))/\(∀(j:Nat) (m:MV),row[j]?=some m->SV w g.prot (vf j) m):=by
 cases k with
 |sv h=>cases h
 |ptrS vf hp hs hc hsv=>exact⟨_,vf,rfl,hp,hc,hsv⟩
theorem tT{h:H}{n:Int}{b c s:Nat}(k:RV g cu w v (.ref h n))(e:g.rho h=.mem b c s)(hn:n=cu h):v=.slice (some ⟨b,0,none⟩) n.toNat c:=by
 cases k with
 |sv h=>cases h
 |ref e' _ hv _=>rw[e]at e';cases e';exact hv hn
 |refN e'=>rw[e]at e';cases e'
 |deadR e'=>rw[e]at e';cases e'
theorem sE{h:H}{n:Int}(k:RV g cu w v (.ref h n))(e:g.rho h=.nil)(hn:n=cu h):∃a,v=.slice a 0 0:=by
 cases k with
 |sv h=>cases h
 |ref e'=>rw[e]at e';cases e'
 |refN e' _ hv _=>exact hv hn
 |deadR e'=>rw[e]at e';cases e'
theorem GP{h:H}{n i:Int}{c b cap s:Nat}(k:RV g cu w v (.ptrE h n i c))(e:g.rho h=.mem b cap s)(hn:n=cu h):v=.pointer (some ⟨b,i.toNat*s+c,none⟩):=by
 cases k with
 |sv h=>cases h
 |ptrE e' _ hv _=>rw[e]at e';cases e';exact hv hn
 |ptrEN e'=>rw[e]at e';cases e'
 |deadE e'=>rw[e]at e';cases e'
end
section
variable {P:Program} {R:Type} {r:R} {k:Fr->Option R} {fr:Fr} {g:G} {a:Act} {w:World} {o:Oper} {Q:Exit->Act->World->Prop}
theorem nX{t:TypeId}(h:okT P t=true):(∃d,P.underlying t=some d)/\(isAgg P t=false->tsize P t=1)/\(mL P t).length=tsize P t:=by
 unfold okT at h;simp only[jg,yf,beq_iff_eq]at h;obtain⟨h1,_,h2,h3⟩:=h;refine⟨?_,fun e=>by simpa [e]using h2,h3⟩
 split at h1
 ·rename_i d e;exact⟨d,e⟩
 ·simp at h1
theorem B6{t:TypeId}{cu:H->Int}(hk:okT P t=true){ms:List MV}(hl:ms.length=tsize P t)(f:Nat->Value)(h:∀(j:Nat) (m:MV),ms[j]?=some m->RV g cu w (f j) m):
 RV g cu w (if isAgg P t then .agg ((List.range (tsize P t)).map f).toArray else f 0) (KC P t ms):=by
 obtain⟨_,h1,_⟩:=nX hk;unfold KC;cases e:isAgg P t with
 |true=>
  simp only[ju];refine .agg (by simp[hl]) (fun j v m hv hm=>?_)
  have hj:j<ms.length:=(jm.1 hm).1;simp[wz (show j<tsize P t by omega)]at hv
  rw[<-hv];exact h j m hm
 |false=>
  have h1:=h1 e;simp only[kz,qn]
  match ms,hl,h with
  |m::_,_,h=>exact h 0 m rfl
  |[],hl,_=>simp at hl;omega
theorem MA{t:TypeId}(hk:okT P t=true){ms:List MV}(h:ms.length=(iX P t).length):ms.length=tsize P t:=by
 rw[h];unfold iX;rw[jz];exact(nX hk).2.2
theorem AW{t:TypeId}{x:Operand}{b off:Nat}(ho:o.op=.load t x)(hk:okT P t=true)(hx:a.eval x=.pointer (some ⟨b,off,none⟩))(f:Nat->Value)
 (h:∀j,j<tsize P t->w.cell? ⟨b,off+j,none⟩=some (f j)):
 (execOp a.eval o).run P w=.ok (.value (if isAgg P t then .agg ((List.range (tsize P t)).map f).toArray else f 0)) w:=by
 obtain⟨⟨d,hu⟩,h1,_⟩:=nX hk;have hv:=VM hu f h (fun e=>by rw[h1 e];exact Nat.one_pos)
 unfold execOp;rw[ho];generalize a.eval=ρ at*;simp only[hx,Instr.loadAt,Instr.sureAddr];simp[hv]
theorem kX{b off:Nat}{arr:Array Value}{ty:TypeId}{fz:Nat×Nat}(h:w.heap[b]?=some (.cells arr ty fz)):w.cell? ⟨b,off,none⟩=arr[off]?:=by
 unfold World.cell?;rw[h];simp
theorem obj_of{h:H}{ob:Obj}(S:SimO fr.ob g w)(e:fr.obj h=ob)(hn:ob≠ .none):GK g (cur fr.ob) w h ob:=by
 have hm:look fr.ob h≠ .none:=by unfold Fr.obj at e;rw[e];exact hn
 have:=S.obj h _ (lD (pX hm));unfold Fr.obj at e;rw[e]at this;exact this
theorem s_load{E:Env}(hP:E.P=P){t:TypeId}{x:Operand}(ho:o.op=.load t x)(h:ED E t (aK fr x) fr (fun m=>k (fr.finish o.dst m))=some r)(S:Sim fr g a.tmps w):
 o.upon P a (eT r k g w a) Q ((execOp a.eval o).run P w):=by
 subst hP;have hx:=bD S x;unfold ED at h;split at h
 case isFalse=>simp at h
 rename_i hk;split at h
 ·rename_i hd off ex;rw[ex]at hx;split at h
  ·rename_i cs ec;split at h
   ·rename_i hle;obtain⟨b,arr,ty,e,hh,hn,hs,hv⟩:=obj_of S.o ec (by simp)
    have ep:=EG hx e;have hcell:∀j,j<tsize E.P t->w.cell? ⟨b,off+j,none⟩=some (arr.getD (off+j) undef):=by
     intro j hj;rw[kX hh,qi,kh (by omega)];simp
    refine aR (AW ho hk ep _ hcell) h S (B6 hk (by simp;omega) _ (fun j m hj=>?_)) (Fm.refl _ _)
    have hj':j<tsize E.P t:=by
     have:=(jm.1 hj).1;simp at this;omega
    rw[qm hj',wc]at hj;exact hv (off+j) _ m (by rw[qi,kh (by omega)];simp) hj
   ·simp at h
  ·simp at h
 ·rename_i row c ex;rw[ex]at hx;obtain⟨ms,h,hl,hms⟩:=HT _ _ _ _ h;obtain⟨ad,vf,ep,hp,hc,hsv⟩:=NT hx;have hl':=MA hk hl;have hcell:∀j,j<tsize E.P t->w.cell? ⟨ad.block,ad.off+c+j,none⟩=some (vf (c+j)):=by
   intro j hj;have:ms[j]?=some (ms[j]'(by omega)):=jj (by omega)
   rw[yw];exact hc (c+j) _ (hms j _ this)
  exact aR (AW ho hk ep (fun j=>vf (c+j)) hcell) h S (B6 hk hl' _ (fun j m hj=>.sv (hsv _ _ (hms j m hj)))) (Fm.refl _ _)
 ·rename_i hd n i c ex;rw[ex]at hx;have key:∀rows:List Row,cur fr.ob hd=nrows rows->(g.rho hd=.nil/\rows=[]\/∃b cap sz arr ty,g.rho hd=.mem b cap sz/\w.heap[b]?=some (.cells arr ty (0,0))/\HO (isK hd) arr cap sz rows/\rows.length<=cap/\eR w g.prot arr sz rows)->
   (br (iEq n (nrows rows)) (bnd (hG rows i) fun row=>opn false (iX E.P t) row c fun ms=>k (fr.finish o.dst (KC E.P t ms))) none)=some r->
   o.upon E.P a (eT r k g w a) Q ((execOp a.eval o).run E.P w):=by
   intro rows hcur hob h;rcases br_some h with⟨en,h⟩|⟨_,h⟩
   case inr=>simp at h
   have hn:n=cur fr.ob hd:=by rw[hcur];simpa [iEq]using en
   obtain⟨row,hrow,h⟩:=aE h;unfold hG at hrow;split at hrow
   case isFalse=>simp at hrow
   rename_i hi0;obtain⟨ms,h,hl,hms⟩:=HT _ _ _ _ h;have hl':=MA hk hl;rcases hob with⟨_,e⟩|⟨b,cap,sz,arr,ty,e,hh,hs,hle,hrr⟩
   ·subst e;simp at hrow
   ·have ep:=GP hx e hn;obtain⟨hlen,hcells⟩:=hrr i.toNat row hrow;have hc:∀j,j<tsize E.P t->∃v,arr[i.toNat*sz+(c+j)]?=some v/\∀m,ms[j]?=some m->SV w g.prot v m:=by
     intro j hj;have hm:ms[j]?=some (ms[j]'(by omega)):=jj (by omega)
     obtain⟨v,hv,hsv⟩:=hcells (c+j) _ (hms j _ hm);exact⟨v,hv,fun m h'=>by rw[hm]at h';cases h';exact hsv⟩
    have hcell:∀j,j<tsize E.P t->w.cell? ⟨b,i.toNat*sz+c+j,none⟩=some (arr.getD (i.toNat*sz+(c+j)) undef):=by
     intro j hj;obtain⟨v,hv,_⟩:=hc j hj;rw[kX hh,yw,qi,hv];rfl
    refine aR (AW ho hk ep (fun j=>arr.getD (i.toNat*sz+(c+j)) undef) hcell) h S (B6 hk hl' _ (fun j m hj=>?_)) (Fm.refl _ _)
    have hj':j<tsize E.P t:=by
     have:=(jm.1 hj).1;omega
    obtain⟨v,hv,hsv⟩:=hc j hj';rw[qi,hv];exact .sv (hsv m hj)
  split at h
  ·rename_i rows er;refine key rows (by unfold cur;unfold Fr.obj at er;rw[er]) ?_ h
   rcases obj_of S.o er (by simp)with x|⟨b,cap,sz,arr,ty,e,hh,_,hs,hle,hrr⟩
   ·exact .inl x
   ·exact .inr ⟨b,cap,sz,arr,ty,e,hh,hs,hle,hrr⟩
  ·rename_i rows er;refine key rows (by unfold cur;unfold Fr.obj at er;rw[er]) ?_ h
   rcases obj_of S.o er (by simp)with x|⟨b,cap,sz,arr,ty,e,hh,_,hs,hle,hrr⟩
   ·exact .inl x
   ·exact .inr ⟨b,cap,sz,arr,ty,e,hh,hs,hle,hrr⟩
  ·simp at h
 ·simp at h
end
end Kw
