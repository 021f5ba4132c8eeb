import Derived.Below
import Derived.ProofKit
import Derived.Still
import Derived.Laws.Strings
import Derived.IntWalk
import Derived.Lib.Atoi
import Derived.Lib.Split
import Derived.Lib.IndexBytes
import Derived.Lib.SplitLaws
import Derived.Laws.Sem
import Derived.Tactics
import Derived.BigFrame
set_option linter.unusedVariables false
set_option linter.unusedSimpArgs false
set_option linter.unusedSectionVars false
namespace Kw
open Go
theorem ja:type_of% @List.forall_mem_cons:= @List.forall_mem_cons
theorem jb:type_of% @decide_eq_true_eq:= @decide_eq_true_eq
theorem jc:type_of% @if_neg:= @if_neg
theorem jd:type_of% @decide_eq_true:= @decide_eq_true
theorem je:type_of% @if_pos:= @if_pos
theorem jf:type_of% @List.length_cons:= @List.length_cons
theorem jg:type_of% @Bool.and_eq_true:= @Bool.and_eq_true
theorem jh:type_of% @decide_eq_false_iff_not:= @decide_eq_false_iff_not
theorem ji:type_of% @decide_eq_false:= @decide_eq_false
theorem jj:type_of% @List.getElem?_eq_getElem:= @List.getElem?_eq_getElem
theorem jk:type_of% @List.length_nil:= @List.length_nil
theorem jl:type_of% @List.length_append:= @List.length_append
theorem jm:type_of% @List.getElem?_eq_some_iff:= @List.getElem?_eq_some_iff
theorem jn:type_of% @List.mem_append_right:= @List.mem_append_right
theorem jo:type_of% @List.getElem?_map:= @List.getElem?_map
theorem jr:type_of% @List.getD_eq_getElem?_getD:= @List.getD_eq_getElem?_getD
theorem js:type_of% @List.drop_eq_nil_of_le:= @List.drop_eq_nil_of_le
theorem jt:type_of% @List.getElem_mem:= @List.getElem_mem
theorem ju:type_of% @if_true:= @if_true
theorem jv:type_of% @List.mem_append:= @List.mem_append
theorem jw:type_of% @List.mem_append_left:= @List.mem_append_left
theorem jx:type_of% @beq_self_eq_true:= @beq_self_eq_true
theorem jy:type_of% @Bool.true_and:= @Bool.true_and
theorem jz:type_of% @Int.le_refl:= @Int.le_refl
theorem ka:type_of% @List.append_nil:= @List.append_nil
theorem kb:type_of% @Nat.le_trans:= @Nat.le_trans
theorem kf:type_of% @List.length_map:= @List.length_map
theorem kg:type_of% @Nat.le_refl:= @Nat.le_refl
theorem kh:type_of% @Option.bind_some:= @Option.bind_some
theorem ki:type_of% @Int.toNat_natCast:= @Int.toNat_natCast
theorem kj:type_of% @List.all_eq_true:= @List.all_eq_true
theorem ko:type_of% @List.mem_cons:= @List.mem_cons
theorem kq:type_of% @Array.getElem?_eq_getElem:= @Array.getElem?_eq_getElem
theorem ku:type_of% @List.length_set:= @List.length_set
theorem kv:type_of% @Int.eq_ofNat_of_zero_le:= @Int.eq_ofNat_of_zero_le
theorem kw:type_of% @Option.map_eq_some_iff:= @Option.map_eq_some_iff
theorem kx:type_of% @List.flatMap_cons:= @List.flatMap_cons
theorem kz:type_of% @List.mem_cons_of_mem:= @List.mem_cons_of_mem
theorem qa:type_of% @List.drop_eq_getElem_cons:= @List.drop_eq_getElem_cons
theorem qb:type_of% @List.drop_zero:= @List.drop_zero
theorem qc:type_of% @List.mem_singleton:= @List.mem_singleton
theorem qd:type_of% @Bool.false_eq_true:= @Bool.false_eq_true
theorem qe:type_of% @List.length_eq_zero_iff:= @List.length_eq_zero_iff
theorem qf:type_of% @List.mem_map:= @List.mem_map
theorem qg:type_of% @List.nil_append:= @List.nil_append
theorem qh:type_of% @List.mem_iff_getElem:= @List.mem_iff_getElem
theorem qi:type_of% @List.mem_of_getElem?:= @List.mem_of_getElem?
theorem qj:type_of% @Array.getElem?_toList:= @Array.getElem?_toList
theorem qk:type_of% @List.mem_cons_self:= @List.mem_cons_self
theorem ql:type_of% @Array.getD_eq_getD_getElem?:= @Array.getD_eq_getD_getElem?
theorem qm:type_of% @List.append_assoc:= @List.append_assoc
theorem qn:type_of% @Nat.mul_le_mul_right:= @Nat.mul_le_mul_right
theorem qo:type_of% @List.getElem?_eq_none:= @List.getElem?_eq_none
theorem qp:type_of% @List.getElem?_take_of_lt:= @List.getElem?_take_of_lt
theorem qr:type_of% @if_false:= @if_false
theorem qt:type_of% @List.nodup_append:= @List.nodup_append
theorem qu:type_of% @of_decide_eq_true:= @of_decide_eq_true
theorem qv:type_of% @List.getElem?_toArray:= @List.getElem?_toArray
theorem qw:type_of% @Nat.mul_le_mul_left:= @Nat.mul_le_mul_left
theorem qx:type_of% @Nat.zero_add:= @Nat.zero_add
theorem qy:type_of% @List.mem_or_eq_of_mem_set:= @List.mem_or_eq_of_mem_set
theorem qz:type_of% @Nat.le_of_ble_eq_true:= @Nat.le_of_ble_eq_true
theorem v3:type_of% @Nat.lt_of_lt_of_le:= @Nat.lt_of_lt_of_le
theorem v5:type_of% @List.mem_range:= @List.mem_range
theorem v9:type_of% @Option.isSome_iff_exists:= @Option.isSome_iff_exists
theorem wo:type_of% @congrArg:= @congrArg
theorem wq:type_of% @List.length_filter_le:= @List.length_filter_le
theorem wu:type_of% @List.length_pos_iff:= @List.length_pos_iff
theorem wv:type_of% @List.mem_filter:= @List.mem_filter
theorem ww:type_of% @List.pairwise_iff_getElem:= @List.pairwise_iff_getElem
theorem wx:type_of% @List.drop_of_length_le:= @List.drop_of_length_le
theorem wy:type_of% @List.getElem?_drop:= @List.getElem?_drop
theorem wz:type_of% @List.nodup_cons:= @List.nodup_cons
theorem ya:type_of% @Bool.or_eq_true:= @Bool.or_eq_true
theorem yb:type_of% @List.all_cons:= @List.all_cons
theorem yc:type_of% @Bool.eq_false_iff:= @Bool.eq_false_iff
theorem yd:type_of% @List.getElem?_append_left:= @List.getElem?_append_left
theorem ye:type_of% @List.mem_of_find?_eq_some:= @List.mem_of_find?_eq_some
theorem yf:type_of% @List.length_take:= @List.length_take
theorem yg:type_of% @Int.toNat_of_nonneg:= @Int.toNat_of_nonneg
theorem yh:type_of% @List.map_cons:= @List.map_cons
theorem yi:type_of% @Option.map_some:= @Option.map_some
theorem yj:type_of% @List.find?_cons:= @List.find?_cons
theorem yk:type_of% @Bool.true_eq_false:= @Bool.true_eq_false
theorem yl:type_of% @Nat.add_mul:= @Nat.add_mul
theorem ym:type_of% @List.eq_nil_of_length_eq_zero:= @List.eq_nil_of_length_eq_zero
theorem yn:type_of% @List.getElem?_range:= @List.getElem?_range
theorem yo:type_of% @Nat.lt_or_ge:= @Nat.lt_or_ge
theorem yp:type_of% @Bool.eq_iff_iff:= @Bool.eq_iff_iff
theorem yq:type_of% @Nat.mul_comm:= @Nat.mul_comm
theorem yr:type_of% @List.getElem?_append_right:= @List.getElem?_append_right
theorem yu:type_of% @Bool.not_eq_true':= @Bool.not_eq_true'
theorem yv:type_of% @Nat.add_zero:= @Nat.add_zero
theorem yw:type_of% @List.getElem_map:= @List.getElem_map
theorem yx:type_of% @List.filter_cons:= @List.filter_cons
theorem yy:type_of% @List.eq_of_mem_replicate:= @List.eq_of_mem_replicate
theorem yz:type_of% @Nat.lt_irrefl:= @Nat.lt_irrefl
theorem z0:type_of% @Bool.false_and:= @Bool.false_and
theorem Ja:type_of% @List.getElem?_set:= @List.getElem?_set
theorem Jb:type_of% @List.map_congr_left:= @List.map_congr_left
theorem Jc:type_of% @List.mem_map_of_mem:= @List.mem_map_of_mem
theorem Jd:type_of% @Array.getElem?_append_left:= @Array.getElem?_append_left
theorem Je:type_of% @Array.getElem?_eq_some_iff:= @Array.getElem?_eq_some_iff
theorem Jf:type_of% @Bool.and_self:= @Bool.and_self
theorem Jg:type_of% @List.take_length:= @List.take_length
theorem Jh:type_of% @List.find?_eq_none:= @List.find?_eq_none
theorem Ji:type_of% @false_and:= @false_and
theorem Jj:type_of% @Nat.add_assoc:= @Nat.add_assoc
theorem Jk:type_of% @Option.bind_eq_some_iff:= @Option.bind_eq_some_iff
theorem Jl:type_of% @Option.getD_some:= @Option.getD_some
theorem Jm:type_of% @List.length_drop:= @List.length_drop
theorem Jn:type_of% @List.take_of_length_le:= @List.take_of_length_le
theorem Jo:type_of% @Array.getElem?_eq_none:= @Array.getElem?_eq_none
theorem Jp:type_of% @decide_true:= @decide_true
theorem Jq:type_of% @List.getElem?_take:= @List.getElem?_take
theorem Jr:type_of% @List.pairwise_cons:= @List.pairwise_cons
theorem Js:type_of% @List.cons_append:= @List.cons_append
theorem Jt:type_of% @Bool.not_eq_true:= @Bool.not_eq_true
end Kw
namespace Kw
open Go
inductive H where
 |imp (i:Nat)
 |impc (i j:Nat)
 |loc (t j:Nat)
 deriving DecidableEq,Inhabited
def isK:H->Bool| .imp _=>false| .impc _ j=>Nat.ble 1000 j| .loc _ j=>Nat.ble 1000 j
def kn:H->H| .impc i j=>.impc i (j+1000)| .loc t j=>.loc t (j+1000)|h=>h
inductive MV where
 |undef
 |bool (b:Bool)
 |int (k:IntKind) (n:Int)
 |str (s:ByteArray)
 |nilp
 |nils
 |ptr (h:H) (off:Nat)
 |mapr (h:H)
 |fn (f:FuncId) (caps:List MV)
 |sl (rows:List (List MV))
 |own (rows:List (List MV))
 |ownK (rows:List (List MV))
 |ref (h:H) (n:Int)
 |ptrS (row:List MV) (c:Nat)
 |ptrE (h:H) (n i:Int) (c:Nat)
 |agg (cs:List MV)
 |tup (vs:List MV)
 |iface (nil:Bool)
 deriving Inhabited
abbrev Row:=List MV
class Gl where
 glr:Nat->Option MV
def glb [Gl](v:Nat):MV:=match Gl.glr v with|some m=>.ptrS [m] 0|none=>.undef
inductive Obj where
 |none
 |cells (cs:List MV)
 |map (es:List (ByteArray×Bool))
 |rows (rs:List Row)
 |froz (rs:List Row)
 deriving Inhabited
def bnd{α R:Type}(o:Option α)(f:α->Option R):Option R:=o.bind f
def br{R:Type}(b:Bool)(x y:Option R):Option R:=bif b then x else y
def nrows(r:List Row):Int:=r.length
def iP(r:List Row)(i:Int):Option Row:=if 0<=i then r[i.toNat]? else none
def kF(sz:Nat)(r:List Row)(i:Int):Option Row:=if 0<=i then(match r[i.toNat]? with|some x=>if x.length=sz then some x else none|none=>none)else none
def okR(sz:Nat)(r:List Row):Bool:=r.all fun x=>x.length==sz
def aC(r:Row)(j:Nat):MV:=r.getD j .undef
def cB(a b:List Row):List Row:=a++b
def setR(r:List Row)(i:Int)(x:Row):List Row:=r.set i.toNat x
def CM(r:List Row)(l h:Int):List Row:=(r.take h.toNat).drop l.toNat
def jX(n:Int)(x:Row):List Row:=List.replicate n.toNat x
def BZ(r:Row)(c:Nat):List MV->Row
 |[]=>r
 |m::ms=>BZ (r.set c m) (c+1) ms
def eT(r:Row):Int:=r.length
def setRow(r:Row)(c:Nat)(ms:List MV):Row:=BZ r c ms
def bR(k:IntKind)(a b:Int):Int:=k.wrap (a+b)
def iS(k:IntKind)(a b:Int):Int:=k.wrap (a-b)
def nW(k:IntKind)(a b:Int):Int:=k.wrap (a*b)
def F6(k:IntKind)(a b:Int):Int:=k.wrap (a.tdiv b)
def rN(a b:Int):Int:=a.tmod b
def SR(k:IntKind)(a b:Int):Int:=k.wrap (BitVec.ofInt k.bits a^^^BitVec.ofInt k.bits b).toNat
def iEq(a b:Int):Bool:=a==b
def iLt(a b:Int):Bool:=decide (a<b)
def iLe(a b:Int):Bool:=decide (a<=b)
def IB(a b:Int):Int:=if a≥b then a else b
def aeS(a b:Int):Int:=if a<=b then a else b
def nX(k:IntKind)(a:Int):Int:=k.wrap a
def bNot(b:Bool):Bool:=!b
def bEq(a b:Bool):Bool:=a==b
def d5(a b:Bool):Bool:=a&&b
def sEq(a b:ByteArray):Bool:=a.toList==b.toList
def kV(a b:ByteArray):ByteArray:=a++b
def sLen(a:ByteArray):Int:=a.size
def nA(a:ByteArray)(l h:Int):ByteArray:=a.extract l.toNat h.toNat
def sAt(a:ByteArray)(i:Int):Option Int:=if 0<=i then(a.data.toList[i.toNat]?).map fun b=>(b.toNat:Int)else none
def aaZ(n:Int):ByteArray:=⟨#[n.toNat.toUInt8]⟩
def eL(n m:Int)(bytes:Nat):Bool:=decide ((n+m)*bytes<=2^46)
def pG(s:ByteArray):List Row:=s.data.toList.map fun b=>[.int .u8 b.toNat]
def rowsBytes1:List Row->Option (List UInt8)
 |[]=>some []
 |[.int .u8 b]::r=>bnd (rowsBytes1 r) fun t=>some (b.toNat.toUInt8::t)
 |_::_=>none
def tI(r:List Row):Option ByteArray:=bnd (rowsBytes1 r) fun l=>some ⟨l.toArray⟩
def nG(es:List (ByteArray×Bool))(s:ByteArray):Bool:=match es.find? (fun e=>e.1.toList==s.toList)with|some e=>e.2|none=>false
def wY(es:List (ByteArray×Bool))(s:ByteArray)(b:Bool):List (ByteArray×Bool):=(s,b)::es
def nY:MV->Option Bool| .bool b=>some b|_=>none
def eI(k:IntKind):MV->Option Int| .int k' n=>if k'=k then some n else none|_=>none
def eF:MV->Option ByteArray| .str s=>some s|_=>none
def gIf:MV->Option Bool| .iface b=>some b|_=>none
def gSl:MV->Option (List Row)| .sl r=>some r|_=>none
def MW:MV->Option (List Row)| .own r=>some r|_=>none
def apC(i o:Nat):MV->Option Unit| .ptr (.imp i') o'=>if i'=i/\o'=o then some ()else none|_=>none
def OI(i:Nat):MV->Option Unit| .mapr (.imp i')=>if i'=i then some ()else none|_=>none
def apD:MV->Option Unit| .nilp=>some ()|_=>none
def DJ:MV->Option (List Row)| .ownK r=>some r|_=>none
def JU:Obj->Option (List (ByteArray×Bool))| .map r=>some r|_=>none
def oI:Value->MV
 | .bool b=>.bool b
 | .int k n=>.int k n
 | .string s=>.str s
 | .slice none 0 0=>.nils
 | .pointer none=>.nilp
 | .nilIface=>.iface true
 |_=>.undef
def ofV:Value->MV
 | .agg cs=>.agg (cs.toList.map oI)
 |v=>oI v
inductive Sh where
 |b|i (k:IntKind)|s|r|f|bad
def aA6:Value->Sh
 | .bool _=>.b
 | .int k _=>.i k
 | .string _=>.s
 | .slice .. =>.r
 | .nilIface=>.f
 |_=>.bad
section
variable {R:Type}
def SS(own:Bool)(sh:Sh)(m:MV)(k:MV->Option R):Option R:=
 match sh with
 | .b=>bnd (nY m) fun b=>k (.bool b)
 | .i kd=>bnd (eI kd m) fun n=>k (.int kd n)
 | .s=>bnd (eF m) fun s=>k (.str s)
 | .r=>if own then bnd (MW m) fun r=>k (.own r)else bnd (gSl m) fun r=>k (.sl r)
 | .f=>bnd (gIf m) fun b=>k (.iface b)
 | .bad=>none
def opn(own:Bool):List Sh->Row->Nat->(List MV->Option R)->Option R
 |[],_,_,k=>k []
 |sh::shs,row,j,k=>SS own sh (aC row j) fun m=>opn own shs row (j+1) fun ms=>k (m::ms)
end
section
variable (P:Program)
def isAgg(t:TypeId):Bool:=match P.underlying t with|some (.struct _)=>true|some (.array _ _)=>true|_=>false
def tsize(t:TypeId):Nat:=match P.info? t with|some i=>i.size|none=>0
def bT(t:TypeId):Nat:=match P.info? t with|some i=>i.bytes|none=>0
def nB(t:TypeId):List Value:=match P.info? t with|some i=>(match i.zero with|some v=>v.cells.toList|none=>[])|none=>[]
def jP(t:TypeId):List Sh:=(nB P t).map aA6
def JV(t:TypeId):Bool:=match P.info? t with|some i=>(match i.zero with|some _=>true|none=>false)|none=>false
def okT(t:TypeId):Bool:=(match P.underlying t with|some _=>true|none=>false)&&(JV P t&&((isAgg P t||tsize P t==1)&&((nB P t).length==tsize P t)))
def wR(t:TypeId):Option TypeId:=match P.underlying t with|some (.slice e)=>(match P.info? e with|some _=>some e|none=>none)|_=>none
def rP(t:TypeId)(f:Nat):Option (Nat×TypeId):=match P.underlying t with|some (.struct fs)=>(match fs[f]? with|some x=>some (x.offset,x.type)|none=>none)|_=>none
def MX(t:TypeId)(cs:List MV):MV:=if isAgg P t then .agg cs else cs.headD .undef
end
def MV.svOne:MV->Bool
 | .bool _| .int _ _| .str _| .sl _=>true
 |_=>false
def MV.one:MV->Bool
 | .undef| .agg _| .tup _| .own _| .ownK _=>false
 |_=>true
def cellsOf:MV->List MV
 | .agg cs=>cs
 |m=>[m]
def eqF(P:Program)(rec:TypeId->List MV->List MV->Option Bool)(xs ys:List MV):List Field->Option Bool
 |[]=>some true
 |f::fs=>if f.name≠ "_" then bnd (rec f.type ((xs.drop f.offset).take (tsize P f.type)) ((ys.drop f.offset).take (tsize P f.type))) fun b=>bnd (eqF P rec xs ys fs) fun c=>some (d5 b c)else eqF P rec xs ys fs
def eqT(P:Program):Nat->TypeId->List MV->List MV->Option Bool
 |0,_,_,_=>none
 |d+1,t,xs,ys=>(match P.underlying t with
  |some .bool=>(match xs,ys with|[.bool a],[.bool b]=>some (bEq a b)|_,_=>none)
  |some (.int _)=>(match xs,ys with|[.int k a],[.int k' b]=>if k=k' then some (iEq a b)else none|_,_=>none)
  |some .string=>(match xs,ys with|[.str a],[.str b]=>some (sEq a b)|_,_=>none)
  |some (.struct fs)=>if P.stoodInHeld t then none else eqF P (eqT P d) xs ys fs.toList
  |_=>none)
end Kw
namespace Kw
open Go
variable [Gl]
structure Ann where
 live:List Nat
 own:List (Nat×Option Nat×H)
structure Env where
 P:Program
 ann:FuncId->Nat->Ann
 mv:FuncId->Bool
 keep:FuncId->Bool
 io:FuncId->Bool
 kr:FuncId->Bool
 ext:FuncId->Option (List MV->Option MV)
 cut:FuncId->Nat->Option Ann
 okf:FuncId->Bool
abbrev Ob:=List (H×Obj)
structure Fr where
 sl:List MV
 ob:Ob
def look:Ob->H->Obj
 |[],_=>.none
 |(h',o)::r,h=>if h'=h then o else look r h
def put:Ob->H->Obj->Ob
 |[],h,o=>[(h,o)]
 |(h',o')::r,h,o=>if h'=h then(h,o)::r else(h',o')::put r h o
def Fr.get(fr:Fr)(t:Nat):MV:=fr.sl.getD t .undef
def Fr.obj(fr:Fr)(h:H):Obj:=look fr.ob h
def Fr.set(fr:Fr)(t:Nat)(m:MV):Fr:={fr with sl:=fr.sl.set t m}
def Fr.setObj(fr:Fr)(h:H)(o:Obj):Fr:={fr with ob:=put fr.ob h o}
def Fr.lay{R:Type}(fr:Fr)(h:H)(o:Obj)(k:Fr->Option R):Option R:=if fr.ob.any (fun p=>p.1==h)then none else k (fr.setObj h o)
def Fr.finish(fr:Fr)(dst:Option Tmp)(m:MV):Fr:=match dst with|some d=>fr.set d m|none=>fr
def aL(fr:Fr):Operand->MV
 | .tmp t=>fr.get t
 | .const v=>ofV v
 | .func f=>.fn f []
 | .global v=>glb v
section
variable {R:Type} (E:Env)
def Fr.rows(fr:Fr)(m:MV)(k:List Row->Option R):Option R:=
 match m with
 | .sl r=>k r
 | .nils=>k []
 | .ref h n=>(match fr.obj h with
   | .rows x=>br (iEq n (nrows x)) (k x) none
   | .froz x=>br (iEq n (nrows x)) (k x) none
   |_=>none)
 |_=>none
def Fr.live(fr:Fr)(m:MV)(k:Option R):Option R:=
 match m with
 | .ptr h _=>(match fr.obj h with
   | .cells _=>k
   |_=>none)
 | .ptrE h n _ _=>(match fr.obj h with
   | .rows x=>br (iEq n (nrows x)) k none
   | .froz x=>br (iEq n (nrows x)) k none
   |_=>none)
 |_=>k
def oT(fr:Fr)(m:MV)(k:MV->Fr->Option R):Option R:=
 match m with
 | .ref h n=>(match fr.obj h with
   | .rows x=>br (iEq n (nrows x)) (k (.sl x) (fr.setObj h (.froz x))) none
   | .froz x=>br (iEq n (nrows x)) (k (.sl x) fr) none
   |_=>none)
 | .nils=>k (.sl []) fr
 | .bool b=>k (.bool b) fr
 | .int kd n=>k (.int kd n) fr
 | .str s=>k (.str s) fr
 | .sl r=>k (.sl r) fr
 |_=>none
def nQ:List MV->Fr->(List MV->Fr->Option R)->Option R
 |[],fr,k=>k [] fr
 |m::ms,fr,k=>oT fr m fun m fr=>nQ ms fr fun ms fr=>k (m::ms) fr
def isStringT(P:Program)(t:TypeId):Bool:=match P.underlying t with|some .string=>true|_=>false
def AQ(P:Program)(t:TypeId):Bool:=match P.underlying t with|some (.int .u8)=>true|_=>false
def aeT(P:Program)(t:TypeId):Bool:=match P.underlying t with|some (.interface _)=>true|_=>false
def V8:Operand->Bool| .const .nilIface=>true|_=>false
def QC(P:Program)(t:TypeId):Bool:=match P.underlying t with|some .bool=>true|_=>false
def wZ(ub:Bool)(op:BinOp)(x y:MV)(k:MV->Option R):Option R:=
 match x,y with
 | .int kd a,.int kd' b=>
   if kd=kd' then
    (match op with
    | .add=>k (.int kd (bR kd a b))
    | .sub=>k (.int kd (iS kd a b))
    | .mul=>k (.int kd (nW kd a b))
    | .quo=>br (iEq b 0) none (k (.int kd (F6 kd a b)))
    | .rem=>br (iEq b 0) none (k (.int kd (rN a b)))
    | .xor=>k (.int kd (SR kd a b))
    | .eql=>k (.bool (iEq a b))
    | .neq=>k (.bool (bNot (iEq a b)))
    | .lss=>k (.bool (iLt a b))
    | .leq=>k (.bool (iLe a b))
    | .gtr=>k (.bool (iLt b a))
    | .geq=>k (.bool (iLe b a))
    |_=>none)
   else none
 | .str a,.str b=>
   (match op with
   | .add=>br (eL (sLen a) (sLen b) 1) (k (.str (kV a b))) none
   | .eql=>k (.bool (sEq a b))
   | .neq=>k (.bool (bNot (sEq a b)))
   |_=>none)
 | .bool a,.bool b=>if ub then(match op with| .eql=>k (.bool (bEq a b))| .neq=>k (.bool (bNot (bEq a b)))|_=>none)else none
 |_,_=>none
def rQ:MV->List H
 | .ptr h _=>[h]
 | .mapr h=>[h]
 |_=>[]
def cI:MV->List H
 | .ptr h _=>[h]
 | .mapr h=>[h]
 | .fn _ caps=>caps.flatMap rQ
 | .agg cs=>cs.flatMap rQ
 |_=>[]
def lQ:MV->List H| .ref h _=>[h]|_=>[]
def kW:MV->List H| .ref h _=>[h]| .agg cs=>cs.flatMap lQ|_=>[]
def OJ:List H->List H
 |[]=>[]
 |h::hs=>h::(OJ hs).filter (·!=h)
def dL:Obj->List H
 | .cells cs=>cs.flatMap cI
 |_=>[]
def iT(fr:Fr)(hs:List H):List H:=OJ (hs++hs.flatMap fun h=>dL (fr.obj h))
def MY(f:H->Option H):MV->MV
 | .ptr h o=>(match f h with|some h'=>.ptr h' o|none=>.undef)
 | .mapr h=>(match f h with|some h'=>.mapr h'|none=>.undef)
 | .ref h n=>(match f h with|some h'=>.ref h' n|none=>.undef)
 | .ptrE _ _ _ _| .fn _ _| .agg _| .tup _=>.undef
 |m=>m
def ST(f:H->Option H):MV->MV
 | .fn g caps=>.fn g (caps.map (MY f))
 |m=>MY f m
def F7(f:H->Option H):MV->MV
 | .ptrE h n i c=>(match f h with|some h'=>.ptrE h' n i c|none=>.undef)
 | .agg cs=>.agg (cs.map (ST f))
 | .tup vs=>.tup (vs.map (ST f))
 |m=>ST f m
def B0(f:H->Option H):Obj->Obj
 | .cells cs=>.cells (cs.map (ST f))
 |o=>o
def idx:List H->H->Nat->Option Nat
 |[],_,_=>none
 |h'::hs,h,i=>if h'=h then some i else idx hs h (i+1)
def toI(hs:List H)(h:H):Option H:=match idx hs h 0 with|some i=>some (.imp i)|none=>none
def B6(fr:Fr)(m:MV)(k:MV->Option R):Option R:=
 match m with
 | .ref h n=>(match fr.obj h with
   | .rows x=>br (iEq n (nrows x)) (k (.sl x)) none
   | .froz x=>br (iEq n (nrows x)) (k (.sl x)) none
   |_=>none)
 | .nils=>k (.sl [])
 |m=>k m
def G7(fr:Fr):List MV->(List MV->Option R)->Option R
 |[],k=>k []
 |m::ms,k=>B6 fr m fun m=>G7 fr ms fun ms=>k (m::ms)
def w5(fr:Fr):List MV->(List MV->Option R)->Option R
 |[],k=>k []
 | .agg cs::ms,k=>G7 fr cs fun cs=>w5 fr ms fun ms=>k (.agg cs::ms)
 |m::ms,k=>B6 fr m fun m=>w5 fr ms fun ms=>k (m::ms)
def oO(mv:Bool)(fr:Fr)(m:MV)(k:MV->Fr->Option R):Option R:=
 match m with
 | .ref h n=>(match fr.obj h with
   | .rows x=>br (iEq n (nrows x)) (if mv then(if isK h then k (.ownK x) (fr.setObj h .none)else k (.own x) (fr.setObj h .none))else k (.sl x) (fr.setObj h (.froz x))) none
   | .froz x=>br (iEq n (nrows x)) (k (.sl x) fr) none
   |_=>none)
 | .nils=>if mv then k (.own []) fr else k (.sl []) fr
 |m=>k m fr
def DK(g:Bool):List MV->Fr->(List MV->Fr->Option R)->Option R
 |[],fr,k=>k [] fr
 |m::ms,fr,k=>oO g fr m fun m fr=>DK g ms fr fun ms fr=>k (m::ms) fr
def nZ(g:Bool):List MV->Fr->(List MV->Fr->Option R)->Option R
 |[],fr,k=>k [] fr
 | .agg cs::ms,fr,k=>DK g cs fr fun cs fr=>nZ g ms fr fun ms fr=>k (.agg cs::ms) fr
 |m::ms,fr,k=>oO g fr m fun m fr=>nZ g ms fr fun ms fr=>k (m::ms) fr
def jD:List H->Fr->(List Obj->Fr->Option R)->Option R
 |[],fr,k=>k [] fr
 |h::hs,fr,k=>(match fr.obj h with
  | .cells cs=>DK true cs fr fun cs fr=>jD hs fr fun os fr=>k (.cells cs::os) fr
  | .map es=>jD hs fr fun os fr=>k (.map es::os) fr
  | .rows _=>if isK h then none else jD hs fr fun os fr=>(match fr.obj h with| .rows x=>k (.rows x::os) fr|_=>none)
  |_=>none)
def qE(nm:Nat->H):List MV->Nat->Fr->(List MV->Fr->Option R)->Option R
 |[],_,fr,k=>k [] fr
 | .own r::ms,j,fr,k=>fr.lay (nm j) (.rows r) fun fr=>qE nm ms (j+1) fr fun ms fr=>k (.ref (nm j) (nrows r)::ms) fr
 | .ownK r::ms,j,fr,k=>fr.lay (kn (nm j)) (.rows r) fun fr=>qE nm ms (j+1) fr fun ms fr=>k (.ref (kn (nm j)) (nrows r)::ms) fr
 |m::ms,j,fr,k=>qE nm ms (j+1) fr fun ms fr=>k (m::ms) fr
def mH(nm:Nat->Nat->H):List MV->Nat->Fr->(List MV->Fr->Option R)->Option R
 |[],_,fr,k=>k [] fr
 | .agg cs::ms,t,fr,k=>qE (nm t) cs 0 fr fun cs fr=>mH nm ms (t+1) fr fun ms fr=>k (.agg cs::ms) fr
 | .own r::ms,t,fr,k=>fr.lay (nm t 0) (.rows r) fun fr=>mH nm ms (t+1) fr fun ms fr=>k (.ref (nm t 0) (nrows r)::ms) fr
 | .ownK r::ms,t,fr,k=>fr.lay (kn (nm t 0)) (.rows r) fun fr=>mH nm ms (t+1) fr fun ms fr=>k (.ref (kn (nm t 0)) (nrows r)::ms) fr
 |m::ms,t,fr,k=>mH nm ms (t+1) fr fun ms fr=>k (m::ms) fr
def aeU(f:H->Option H)(old new:MV):Option Unit:=
 match old with
 | .ptr h o=>(match f h with|some (.imp i)=>apC i o new|_=>none)
 | .mapr h=>(match f h with|some (.imp i)=>OI i new|_=>none)
 | .nilp=>apD new
 |_=>none
def F8(f:H->Option H)(old new:MV)(k:MV->Option R):Option R:=
 match old with
 | .bool _=>bnd (nY new) fun b=>k (.bool b)
 | .int kd _=>bnd (eI kd new) fun n=>k (.int kd n)
 | .str _=>bnd (eF new) fun s=>k (.str s)
 | .sl _=>bnd (gSl new) fun s=>k (.sl s)
 | .own _=>bnd (MW new) fun s=>k (.own s)
 | .ownK _=>bnd (DJ new) fun s=>k (.ownK s)
 |m=>bnd (aeU f m new) fun _=>k m
def w6(f:H->Option H):List MV->Nat->List MV->(List MV->Option R)->Option R
 |[],_,_,k=>k []
 |o::os,j,ns,k=>F8 f o (aC ns j) fun m=>w6 f os (j+1) ns fun ms=>k (m::ms)
def rR:Obj->Option (List Row)| .rows r=>some r|_=>none
def hdO(l:List Obj):Obj:=l.headD .none
def tlO(l:List Obj):List Obj:=l.tail
def MZ(l:List Obj)(n:Nat):Obj:=l.getD n .none
def qI(n:Nat):Obj->Option (List MV)| .cells r=>if r.length=n then some r else none|_=>none
def G8(n:Nat):MV->Option (List MV)| .agg r=>if r.length=n then some r else none|_=>none
def OK(n:Nat):MV->Option (List MV)| .tup r=>if r.length=n then some r else none|_=>none
def forgetO:Obj->Obj| .cells cs=>.cells (cs.map fun _=>.undef)|o=>o
def jT(hs:List H)(os:List Obj)(ob:Ob):Ob:=ob.map fun p=>match idx hs p.1 0 with|some i=>(p.1,forgetO (os.getD i .none))|none=>p
def lR(f:H->Option H):List Obj->List Obj->(List Obj->Option R)->Option R
 |[],_,k=>k []
 | .cells cs::os,rs,k=>bnd (qI cs.length (hdO rs)) fun ns=>w6 f cs 0 ns fun ms=>lR f os (tlO rs) fun os=>k (.cells ms::os)
 | .map _::os,rs,k=>bnd (JU (hdO rs)) fun es=>lR f os (tlO rs) fun os=>k (.map es::os)
 | .rows x::os,rs,k=>bnd (rR (hdO rs)) fun y=>br (iEq (nrows y) (nrows x)) (lR f os (tlO rs) fun os=>k (.rows y::os)) none
 |_::_,_,_=>none
def eG(nm:Nat->Nat->H):List H->List Obj->Nat->Fr->(Fr->Option R)->Option R
 |h::hs,.cells cs::os,i,fr,k=>qE (nm i) cs 0 fr fun cs fr=>eG nm hs os (i+1) (fr.setObj h (.cells cs)) k
 |_::hs,_::os,i,fr,k=>eG nm hs os (i+1) fr k
 |_,_,_,fr,k=>k fr
def V9(own:Bool)(t:TypeId)(m:MV)(k:MV->Option R):Option R:=
 if isAgg E.P t then bnd (G8 (jP E.P t).length m) fun cs=>opn own (jP E.P t) cs 0 fun ms=>k (.agg ms)
 else(match jP E.P t with
  |[sh]=>SS own sh m k
  |_=>none)
def QD(own:Bool):List TypeId->List MV->Nat->(List MV->Option R)->Option R
 |[],_,_,k=>k []
 |t::ts,ms,j,k=>V9 E own t (aC ms j) fun m=>QD own ts ms (j+1) fun r=>k (m::r)
def SU(own:Bool)(t:TypeId)(m:MV)(k:List MV->Bool->Option R):Option R:=
 match E.P.underlying t with
 |some (.tuple ts)=>bnd (OK ts.size m) fun vs=>QD E own ts.toList vs 0 fun ms=>k ms true
 |_=>V9 E own t m fun m=>k [m] false
def rV(ms:List MV)(b:Bool):MV:=if b then .tup ms else ms.headD .undef
abbrev Res:=MV×List Obj
abbrev Run:=FuncId->List MV->List Obj->Option Res
def QE(t:TypeId):Bool:=
 match E.P.underlying t with
 |some (.bool)|some (.int _)|some (.string)=>true
 |some (.tuple ts)=>ts.size≠0&&ts.all fun t=>match E.P.underlying t with|some (.bool)|some (.int _)|some (.string)=>true|_=>false
 |_=>false
def MV.scal:MV->Bool| .bool _| .int _ _| .str _=>true|_=>false
inductive Boxed where|no|map|ptr(e:TypeId)
def WA(t:TypeId):Boxed:=match E.P.underlying t with|some (.pointer e)=>.ptr e|some (.map _ _)=>.map|_=>.no
def aeV(n:Nat):MV->Option Unit| .ptr (.imp i) o=>if i=n/\o=0 then some ()else none|_=>none
def apY(n:Nat):MV->Option Unit| .mapr (.imp i)=>if i=n then some ()else none|_=>none
def nmR(d i j:Nat):H:=.loc d (20*i+j)
def nmB(d i j:Nat):H:=.loc d (100*(i+1)+j)
def w8(f:FuncId)(args:List MV)(fr:Fr)(k:List MV->Fr->Option R):Option R:=if E.io f then k args fr else nZ (E.mv f) args fr k
def iU(f:FuncId)(args:List MV):List H:=if E.io f then args.flatMap kW else[]
def lF(run:Run)(f:FuncId)(args:List MV)(fr:Fr)(o:Oper)(k:MV->Fr->Option R):Option R:=
 let d:=o.dst.getD 0
 if !(E.mv f||E.io f)&&(QE E o.type&&(args.flatMap cI).isEmpty)then
  w5 fr args fun args=>bnd (run f (args.map (F7 (toI []))) []) fun r=>
   SU E false o.type r.1 fun ms b=>if ms.all MV.scal then k (rV ms b) fr else none
 else
  w8 E f args fr fun args fr=>
   let hs:=iT fr (args.flatMap cI++iU E f args)
   jD hs fr fun os fr=>
    bnd (run f (args.map (F7 (toI hs))) (os.map (B0 (toI hs)))) fun r=>
     lR (toI hs) os r.2 fun ns=>
      let fr1:Fr:={fr with ob:=jT hs ns fr.ob}
      match WA E o.type with
      | .ptr e=>bnd (aeV hs.length r.1) fun _=>bnd (qI (jP E.P e).length (MZ r.2 hs.length)) fun cs=>opn (E.keep f) (jP E.P e) cs 0 fun cs=>
       eG (nmB d) hs ns 0 fr1 fun fr=>qE (nmR d 1) cs 0 fr fun cs fr=>fr.lay (.loc d 0) (.cells cs) fun fr=>k (.ptr (.loc d 0) 0) fr
      | .map=>bnd (apY hs.length r.1) fun _=>bnd (JU (MZ r.2 hs.length)) fun es=>
       eG (nmB d) hs ns 0 fr1 fun fr=>fr.lay (.loc d 0) (.map es) fun fr=>k (.mapr (.loc d 0)) fr
      | .no=>if E.kr f then bnd (DJ r.1) fun x=>eG (nmB d) hs ns 0 fr1 fun fr=>mH (nmR d) [.ownK x] 0 fr fun ms fr=>k (rV ms false) fr else SU E (E.keep f) o.type r.1 fun ms b=>
       eG (nmB d) hs ns 0 fr1 fun fr=>mH (nmR d) ms 0 fr fun ms fr=>k (rV ms b) fr
def QF(run:Run)(f:FuncId)(args:List MV)(fr:Fr)(o:Oper)(k:Fr->Option R):Option R:=lF E run f args fr o fun m fr=>k (fr.finish o.dst m)
def F9(t:TypeId)(a:MV)(fr:Fr)(k:MV->Option R):Option R:=
 if okT E.P t then
  match a with
  | .ptr h off=>(match fr.obj h with
    | .cells cs=>if off+tsize E.P t<=cs.length then k (MX E.P t ((cs.drop off).take (tsize E.P t)))else none
    |_=>none)
  | .ptrS row c=>opn false (jP E.P t) row c fun ms=>k (MX E.P t ms)
  | .ptrE h n i c=>(match fr.obj h with
    | .rows rows=>br (iEq n (nrows rows)) (bnd (iP rows i) fun row=>opn false (jP E.P t) row c fun ms=>k (MX E.P t ms)) none
    | .froz rows=>br (iEq n (nrows rows)) (bnd (iP rows i) fun row=>opn false (jP E.P t) row c fun ms=>k (MX E.P t ms)) none
    |_=>none)
  |_=>none
 else none
def oU(t:TypeId)(a:MV)(v:MV)(fr:Fr)(k:Fr->Option R):Option R:=
 if okT E.P t&&((cellsOf v).length==tsize E.P t&&(cellsOf v).all MV.one)then
  match a with
  | .ptr h off=>(match fr.obj h with
    | .cells cs=>if off+tsize E.P t<=cs.length then k (fr.setObj h (.cells (BZ cs off (cellsOf v))))else none
    |_=>none)
  | .ptrE h n i c=>nQ (cellsOf v) fr fun ms fr=>(match fr.obj h with
    | .rows rows=>br (iEq n (nrows rows)) (bnd (iP rows i) fun row=>br (iLe (c+ms.length:Nat) (eT row)) (k (fr.setObj h (.rows (setR rows i (setRow row c ms))))) none) none
    |_=>none)
  |_=>none
 else none
def iB(P:Program)(e:TypeId):Row:=(nB P e).map fun v=>match oI v with| .nils=>.sl []| .nilp=>.undef|m=>m
def tJ(P:Program)(e:TypeId)(n:Nat):List MV:=(List.range (n*tsize P e)).map fun q=>(iB P e).getD (q%tsize P e) .undef
def lL(fr:Fr):List (Nat×Operand)->Option (List (Nat×List MV))
 |[]=>some []
 |(i,x)::ps=>(match aL fr x,lL fr ps with
  | .agg cs,some r=>some ((i,cs)::r)
  |m,some r=>if m.one then some ((i,[m])::r)else none
  |_,none=>none)
def nR:List (Nat×List MV)->Fr->(List (Nat×List MV)->Fr->Option R)->Option R
 |[],fr,k=>k [] fr
 |(i,ms)::ps,fr,k=>nQ ms fr fun ms fr=>nR ps fr fun ps fr=>k ((i,ms)::ps) fr
def fillE(place:Nat->Option (Nat×Nat))(cells:List MV):List (Nat×List MV)->Option (List MV)
 |[]=>some cells
 |(i,ms)::rest=>(match place i with
  |none=>none
  |some (off,size)=>if(ms.length==size&&Nat.ble (off+ms.length) cells.length)then fillE place (BZ cells off ms) rest else none)
def GA(w n:Nat)(cs:List MV):List Row:=(List.range n).map fun i=>(cs.drop (i*w)).take w
def OL(P:Program)(t:TypeId):Bool:=match P.underlying t with|some (.map k e)=>isStringT P k&&(match P.info? e with|some i=>(match i.zero with|some (.bool b)=>!b|_=>false)|none=>false)|_=>false
def jQ(fr:Fr)(y:Option Operand)(d:Int):MV:=match y with|some y=>aL fr y|none=>.int .i64 d
def Y1:H->Bool| .imp _=>true|_=>false
def iV(d:Nat)(s:MV)(e:TypeId)(xs:List Row)(fr:Fr)(k:MV->Fr->Option R):Option R:=
 if okT E.P e&&Nat.ble 1 (bT E.P e)then
  (match s with
  | .ref h n=>if Y1 h||(isK h&&!(tsize E.P e==4))then none else(match fr.obj h with
    | .rows rows=>br (d5 (iEq n (nrows rows)) (d5 (okR (tsize E.P e) rows) (d5 (okR (tsize E.P e) xs) (eL (nrows rows) (nrows xs) (bT E.P e))))) (k (.ref h (nrows (cB rows xs))) (fr.setObj h (.rows (cB rows xs)))) none
    |_=>none)
  | .nils=>br (d5 (okR (tsize E.P e) xs) (eL 0 (nrows xs) (bT E.P e))) (fr.lay (.loc d 0) (.rows xs) fun fr=>k (.ref (.loc d 0) (nrows xs)) fr) none
  |_=>none)
 else none
def dM(run:Run)(o:Oper)(fr:Fr)(k:Fr->Option R):Option R:=
 let P:=E.P
 let d:=o.dst.getD 0
 let fin (m:MV):Option R:=k (fr.finish o.dst m)
 match o.op with
 | .move x=>fin (aL fr x)
 | .assign x=>fin (aL fr x)
 | .pick c a b=>bnd (nY (aL fr c)) fun c=>br c (fin (aL fr a)) (fin (aL fr b))
 | .alloc t=>if okT P t then fr.lay (.loc d 0) (.cells ((nB P t).map oI)) fun fr=>k (fr.finish o.dst (.ptr (.loc d 0) 0))else none
 | .box _ x=>(match aL fr x with
  | .agg cs=>fr.lay (.loc d 0) (.cells cs) fun fr=>k (fr.finish o.dst (.ptr (.loc d 0) 0))
  |m=>if m.one then fr.lay (.loc d 0) (.cells [m]) fun fr=>k (fr.finish o.dst (.ptr (.loc d 0) 0))else none)
 | .load t a=>F9 E t (aL fr a) fr fin
 | .store t a x=>oU E t (aL fr a) (aL fr x) fr fun fr=>k (fr.finish o.dst .undef)
 | .nilCheck x=>fr.live (aL fr x) (match aL fr x with| .ptr h o'=>fin (.ptr h o')| .fn g c=>fin (.fn g c)| .ptrE h n i c=>fin (.ptrE h n i c)| .ptrS r c=>fin (.ptrS r c)|_=>none)
 | .binOp op t x y _=>
   if isAgg P t then(match aL fr x,aL fr y with
    | .agg xs,.agg ys=>if P.eqGuardType P.depth t then none else bnd (eqT P 8 t xs ys) fun b=>(match op with| .eql=>fin (.bool b)| .neq=>fin (.bool (bNot b))|_=>none)
    |_,_=>none)
   else(match aL fr x with
    | .iface a=>if V8 y&&aeT P t then(match op with| .eql=>fin (.bool a)| .neq=>fin (.bool (bNot a))|_=>none)else none
    |_=>wZ (QC P t) op (aL fr x) (aL fr y) fin)
 | .unOp op _ x=>(match op,aL fr x with
  | .not,.bool b=>fin (.bool (bNot b))
  | .neg,.int kd n=>fin (.int kd (iS kd 0 n))
  |_,_=>none)
 | .convert src dst x=>(match P.underlying src,P.underlying dst,aL fr x with
  |some _,some (.int kd),.int _ n=>fin (.int kd (nX kd n))
  |some _,some .string,.str s=>fin (.str s)
  |some _,some .string,.int _ n=>br (d5 (iLe 0 n) (iLt n 128)) (fin (.str (aaZ n))) none
  |some (.slice e),some .string,m=>if AQ P e then fr.rows m fun rows=>bnd (tI rows) fun s=>fin (.str s)else none
  |_,_,_=>none)
 | .makeFunc f first caps=>(match f with| .func g=>if first.size=0 then fin (.fn g (caps.toList.map (aL fr)))else none|_=>none)
 | .makeMap _ none=>fr.lay (.loc d 0) (.map []) fun fr=>k (fr.finish o.dst (.mapr (.loc d 0)))
 | .makeSlice t l c=>(match wR P t,aL fr l,aL fr c with
  |some e,.int _ n,.int _ m=>if okT P e&&(Nat.ble 1 (bT P e)&&(iB P e).all MV.svOne)then br (d5 (iEq n m) (d5 (iLe 0 n) (eL n 0 (bT P e)))) (fr.lay (.loc d 0) (.rows (jX n (iB P e))) fun fr=>k (fr.finish o.dst (.ref (.loc d 0) (nrows (jX n (iB P e)))))) none else none
  |_,_,_=>none)
 | .buildSlice t n parts=>
  (match wR P t with
  |some e=>(match lL fr parts.toList with
   |some ps=>nR ps fr fun ps fr=>
    (match fillE (fun i=>some (i*tsize P e,tsize P e)) (tJ P e n) ps with
    |some out=>if okT P e&&(Nat.ble (n*tsize P e) 16777216&&out.all MV.svOne)then
     fr.lay (.loc d 0) (.rows (GA (tsize P e) n out)) fun fr=>k (fr.finish o.dst (.ref (.loc d 0) (nrows (GA (tsize P e) n out))))else none
    |none=>none)
   |none=>none)
  |none=>none)
 | .build t parts=>(match P.underlying t with
  |some (.struct fs)=>(match lL fr parts.toList with
   |some ps=>if JV P t&&fs.all (fun f=>(P.info? f.type).isSome)then
    (match fillE (fun i=>match fs[i]? with|some f=>some (f.offset,tsize P f.type)|none=>none) ((nB P t).map oI) ps with
    |some out=>fin (.agg out)
    |none=>none)else none
   |none=>none)
  |_=>none)
 | .slice t x lo hi mx=>(match P.underlying t,aL fr x,mx with
  |some .string,.str s,none=>
   let l:MV:=jQ fr lo 0
   let h:MV:=jQ fr hi (sLen s)
   bnd (eI .i64 l) fun l=>bnd (eI .i64 h) fun h=>br (d5 (iLe 0 l) (d5 (iLe l h) (iLe h (sLen s)))) (fin (.str (nA s l h))) none
  |some (.slice e),.sl rows,none=>if(P.info? e).isSome then
   let l:MV:=jQ fr lo 0
   let h:MV:=jQ fr hi (nrows rows)
   bnd (eI .i64 l) fun l=>bnd (eI .i64 h) fun h=>br (d5 (okR (tsize P e) rows) (d5 (iLe 0 l) (d5 (iLe l h) (iLe h (nrows rows))))) (fin (.sl (CM rows l h))) none else none
  |some (.slice e),.ref hd n,none=>if(P.info? e).isSome then
   fr.rows (.ref hd n) fun rows=>
   let l:MV:=jQ fr lo 0
   let h:MV:=jQ fr hi (nrows rows)
   bnd (eI .i64 l) fun l=>bnd (eI .i64 h) fun h=>br (d5 (iEq l 0) (iEq h (nrows rows))) (fin (.ref hd n)) none else none
  |_,_,_=>none)
 | .fieldAddr t x f=>bnd (rP P t f) fun p=>if tsize P p.2=0 then none else fr.live (aL fr x) (match aL fr x with
  | .ptr h o'=>fin (.ptr h (o'+p.1))
  | .ptrS row c=>fin (.ptrS row (c+p.1))
  | .ptrE h n i c=>fin (.ptrE h n i (c+p.1))
  |_=>none)
 | .field t x f=>bnd (rP P t f) fun p=>(match aL fr x with
  | .agg cs=>if okT P p.2&&Nat.ble (p.1+tsize P p.2) cs.length then fin (MX P p.2 ((cs.drop p.1).take (tsize P p.2)))else none
  |_=>none)
 | .indexAddr t x i=>(match aL fr i,aL fr x with
  | .int _ n,.sl rows=>bnd (wR P t) fun e=>bnd (kF (tsize P e) rows n) fun row=>fin (.ptrS row 0)
  | .int _ n,.ref h m=>bnd (wR P t) fun e=>fr.rows (.ref h m) fun rows=>bnd (kF (tsize P e) rows n) fun _=>fin (.ptrE h m n 0)
  |_,_=>none)
 | .index t x i=>if isStringT P t then(match aL fr x,aL fr i with
  | .str s,.int _ n=>bnd (sAt s n) fun b=>fin (.int .u8 b)
  |_,_=>none)else none
 | .extract x j=>(match aL fr x with
  | .tup vs=>if j<vs.length then fin (vs.getD j .undef)else none
  |_=>none)
 | .lookup t x key ok=>if OL P t then(match aL fr x,aL fr key,ok with
  | .mapr h,.str s,false=>(match fr.obj h with
    | .map es=>fin (.bool (nG es s))
    |_=>none)
  |_,_,_=>none)else none
 | .mapUpdate t m key x=>if OL P t then(match aL fr m,aL fr key,aL fr x with
  | .mapr h,.str s,.bool b=>(match fr.obj h with
    | .map es=>k ((fr.setObj h (.map (wY es s b))).finish o.dst .undef)
    |_=>none)
  |_,_,_=>none)else none
 | .call c=>(match c.callee with
  | .builtin .len=>(match c.argTypes.toList,c.args.toList with
    |[t],[x]=>(match P.underlying t,aL fr x with
     |some .string,.str s=>fin (.int .i64 (sLen s))
     |some (.slice _),m=>fr.rows m fun rows=>fin (.int .i64 (nrows rows))
     |_,_=>none)
    |_,_=>none)
  | .builtin .max=>(match c.args.toList with
    |[x,y]=>(match aL fr x,aL fr y with
     | .int .i64 a,.int .i64 b=>fin (.int .i64 (IB a b))
     |_,_=>none)
    |_=>none)
  | .builtin .min=>(match c.args.toList with
    |[x,y]=>(match aL fr x,aL fr y with
     | .int .i64 a,.int .i64 b=>fin (.int .i64 (aeS a b))
     |_,_=>none)
    |_=>none)
  | .builtin .append=>(match c.argTypes.toList,c.args.toList with
    |[t,tx],[x,y]=>(match wR P t,P.underlying tx with
     |some e,some .string=>(match aL fr y with
      | .str b=>if AQ P e then iV E d (aL fr x) e (pG b) fr fun m fr=>k (fr.finish o.dst m)else none
      |_=>none)
     |some e,some (.slice _)=>fr.rows (aL fr y) fun xs=>iV E d (aL fr x) e xs fr fun m fr=>k (fr.finish o.dst m)
     |_,_=>none)
    |_,_=>none)
  | .value f=>(match aL fr f with
    | .fn g caps=>QF E run g (c.args.toList.map (aL fr)++caps) fr o k
    |_=>none)
  |_=>none)
 |_=>none
structure Fp where
 rd:List H
 wr:List H
 fam:Option Nat
def oP:Obj->List H| .cells cs=>cs.flatMap lQ|_=>[]
def hOf:MV->List H| .ptr h _=>[h]| .ptrE h _ _ _=>[h]| .ref h _=>[h]| .mapr h=>[h]|_=>[]
def cC(f:FuncId)(args:List MV)(fr:Fr)(o:Oper):Fp:=
 if !(E.mv f||E.io f)&&(QE E o.type&&(args.flatMap cI).isEmpty)then⟨args.flatMap kW,[],none⟩
 else⟨[],args.flatMap kW++(iT fr (args.flatMap cI++iU E f args)++(iT fr (args.flatMap cI++iU E f args)).flatMap fun h=>oP (fr.obj h)),some (o.dst.getD 0)⟩
def fp(o:Oper)(fr:Fr):Fp:=
 match o.op with
 | .load _ a=>⟨hOf (aL fr a),[],none⟩
 | .nilCheck a=>⟨hOf (aL fr a),[],none⟩
 | .fieldAddr _ a _=>⟨hOf (aL fr a),[],none⟩
 | .indexAddr _ a _=>⟨hOf (aL fr a),[],none⟩
 | .convert _ _ a=>⟨hOf (aL fr a),[],none⟩
 | .slice _ a _ _ _=>⟨hOf (aL fr a),[],none⟩
 | .store _ a x=>⟨[],hOf (aL fr a)++kW (aL fr x),none⟩
 | .alloc _=>⟨[],[],some (o.dst.getD 0)⟩
 | .makeSlice _ _ _=>⟨[],[],some (o.dst.getD 0)⟩
 | .box _ _=>⟨[],[],some (o.dst.getD 0)⟩
 | .buildSlice _ _ parts=>⟨[],parts.toList.flatMap fun p=>kW (aL fr p.2),some (o.dst.getD 0)⟩
 | .call c=>(match c.callee with
   | .builtin .append=>(match c.args.toList with
     |[x,y]=>⟨hOf (aL fr y),hOf (aL fr x),some (o.dst.getD 0)⟩
     |_=>⟨[],[],none⟩)
   | .builtin _=>⟨c.args.toList.flatMap fun x=>hOf (aL fr x),[],none⟩
   | .value f=>(match aL fr f with
     | .fn g caps=>cC E g (c.args.toList.map (aL fr)++caps) fr o
     |_=>⟨[],[],none⟩)
   |_=>⟨[],[],none⟩)
 |_=>⟨[],[],none⟩
def OM(o:Oper)(fr:Fr):Bool:=
 match o.op with
 | .move _| .assign _| .pick _ _ _| .alloc _| .box _ _| .load _ _| .nilCheck _| .binOp _ _ _ _ _| .unOp _ _ _| .convert _ _ _| .makeFunc _ _ _| .makeSlice _ _ _| .buildSlice _ _ _| .build _ _
 | .slice _ _ _ _ _| .fieldAddr _ _ _| .field _ _ _| .indexAddr _ _ _| .index _ _ _| .extract _ _| .call _=>true
 | .store _ _ _=>true
 |_=>false
def Fp.hits(p:Fp)(h:H):Bool:=p.wr.contains h||(match p.fam,h with|some d,.loc t _=>d==t|_,_=>false)
def Fp.apart(p q:Fp):Bool:=q.rd.all (fun h=>!p.hits h)&&(q.wr.all (fun h=>!p.hits h)&&(p.rd.all (fun h=>!q.hits h)&&(p.wr.all (fun h=>!q.hits h)&&(match p.fam,q.fam with|some a,some b=>a !=b|_,_=>true))))
def Fp.empty(p:Fp):Bool:=match p with|⟨[],[],none⟩=>true|_=>false
def B7:List Fp->Nat->List (Fp×Nat)
 |[],_=>[]
 |p::ps,i=>if p.empty then B7 ps (i+1)else(p,i)::B7 ps (i+1)
def JW(all:Array Oper):Nat->Nat->Nat->Bool
 |0,_,_=>false
 |f+1,i,j=>(match all[j]? with
  |some oj=>oj.after.any (fun e=>Region.binds .any e&&(e.on==i||(Nat.blt i e.on&&JW all f i e.on)))
  |none=>false)
def DL(all:Array Oper)(p:Fp)(i:Nat):List (Fp×Nat)->Bool
 |[]=>true
 |(q,j)::qs=>(p.apart q||JW all 6 i j)&&DL all p i qs
def IU(all:Array Oper):List (Fp×Nat)->Bool
 |[]=>true
 |(p,i)::ps=>DL all p i ps&&IU all ps
def w9(all:Array Oper)(ps:List Fp):Bool:=IU all (B7 ps 0)
def AR:MV->Bool| .tup []=>true|_=>false
def yA(run:Run)(all:Array Oper):List Oper->Fr->(Fr->Option R)->Option R
 |[],fr,k=>k fr
 |o::os,fr,k=>
  match o.guard with
  |none=>dM E run o fr fun fr=>yA run all os fr k
  |some (j,want)=>(match(all[j]?).bind (·.dst)with
   |some d=>(match AR (fr.get d)with
    |true=>yA run all os (fr.finish o.dst (.tup [])) k
    |false=>bnd (nY (fr.get d)) fun b=>
     br (if want then b else bNot b) (dM E run o (fr.set d (.bool want)) fun fr=>yA run all os fr k)
     (yA run all os ((fr.set d (.bool !want)).finish o.dst (.tup [])) k))
   |none=>none)
def d6:Code->Nat
 | .region id _ _=>id
 | .seq a _=>d6 a
 | .block _ c=>d6 c
 | .loop c=>d6 c
 | .cond _ a _=>d6 a
 |_=>0
def QG:List H->Bool
 |[]=>true
 |h::hs=>!(hs.any fun x=>x==h)&&QG hs
def rA(run:Run)(all:Array Oper):List Oper->List Fp->Fr->(Fr->Option R)->Option R
 |[],ps,fr,k=>if w9 all ps.reverse&&QG (fr.ob.map (·.1))then k fr else none
 |o::os,ps,fr,k=>
  match o.guard with
  |none=>if OM o fr then dM E run o fr fun fr1=>rA run all os (fp E o fr::ps) fr1 k else none
  |some (j,want)=>(match(all[j]?).bind (·.dst)with
   |some d=>(match AR (fr.get d)with
    |true=>rA run all os (⟨[],[],none⟩::ps) (fr.finish o.dst (.tup [])) k
    |false=>bnd (nY (fr.get d)) fun b=>
     br (if want then b else bNot b) (if OM o fr then dM E run o (fr.set d (.bool want)) fun fr1=>rA run all os (fp E o (fr.set d (.bool want))::ps) fr1 k else none)
     (rA run all os (⟨[],[],none⟩::ps) ((fr.set d (.bool !want)).finish o.dst (.tup [])) k))
   |none=>none)
inductive Ex where|normal|ret|exit(id:Nat)
def mI(f:H->Option H)(ob:Ob):Ob:=ob.filterMap fun p=>match f p.1 with|some h'=>some (h',B0 f p.2)|none=>none
def Fr.sub(fr:Fr)(f:H->Option H):Fr:={sl:=fr.sl.map (F7 f),ob:=mI f fr.ob}
def Fr.cut(fr:Fr)(kp:H->Bool):Fr:=fr.sub fun h=>if kp h then some h else none
def tK(ops:List Oper):List Nat:=ops.filterMap fun o=>match o.op with
 | .alloc _| .box _ _| .makeMap _ _| .makeSlice _ _ _| .buildSlice _ _ _=>o.dst
 | .call c=>(match c.callee with| .value _=>o.dst|_=>none)
 |_=>none
def Fr.kill(fr:Fr)(ks:List Nat):Fr:=
 match ks with
 |[]=>fr
 |_=>if fr.ob.any (fun p=>match p.1 with| .loc t _=>ks.contains t|_=>false)then fr.cut (fun h=>match h with| .loc t _=>!ks.contains t|_=>true)else fr
def pH(ls:List Nat)(l:List MV):List MV:=l.zipIdx.map fun(m,j)=>if ls.contains j then m else .undef
def Fr.ren(fr:Fr)(a b:H):Fr:=fr.sub fun h=>if h=a then some b else if h=b then none else some h
def Fr.layNil(fr:Fr)(h:H):Fr:=(fr.cut fun h'=>h' !=h).setObj h (.rows [])
def Fr.own1(fr:Fr):Nat×Option Nat×H->Fr
 |(s,none,h)=>(match fr.get s with
  | .nils=>(match(fr.layNil h).get s with| .nils=>(fr.layNil h).set s (.ref h (nrows []))|_=>fr)
  | .ref h' _=>if h'=h\/Y1 h'=true\/(isK h'&&!isK h)=true then fr else fr.ren h' h
  |_=>fr)
 |(s,some c,h)=>(match fr.get s with
  | .ptr b _=>(match fr.obj b with
    | .cells cs=>(match cs.getD c .undef with
      | .nils=>(match(fr.layNil h).obj b with
        | .cells cs'=>(match cs'.getD c .undef with| .nils=>(fr.layNil h).setObj b (.cells (cs'.set c (.ref h (nrows []))))|_=>fr)
        |_=>fr)
      | .ref h' _=>if h'=h\/Y1 h'=true\/(isK h'&&!isK h)=true then fr else fr.ren h' h
      |_=>fr)
    |_=>fr)
  |_=>fr)
def B8:H->Bool| .loc _ _=>true|_=>false
def Y2(sl:List MV)(ob:Ob):List H:=
 let a:=sl.flatMap fun m=>(cI m)++(match m with| .ref h _=>[h]| .ptrE h _ _ _=>[h]| .agg cs=>cs.flatMap (fun| .ref h _=>[h]|_=>[])|_=>[])
 a++ob.flatMap fun p=>match p.2 with| .cells cs=>cs.flatMap fun m=>(cI m)++(match m with| .ref h _=>[h]|_=>[])|_=>[]
def awX:H->Nat| .imp i=>i| .impc i j=>1000000000+(i*1000000+j)| .loc t j=>1000000000000000000+(t*1000000+j)
def Y3(p:H×Obj):Ob->Ob
 |[]=>[p]
 |q::r=>if Nat.ble (awX p.1) (awX q.1)then p::q::r else q::Y3 p r
def rD:Ob->Ob
 |[]=>[]
 |p::r=>Y3 p (rD r)
def Fr.sort(fr:Fr):Fr:={fr with ob:=rD fr.ob}
def Fr.head(fr:Fr)(a:Ann):Fr:=
 let fr1:=(a.own.filter fun x=>B8 x.2.2).foldl Fr.own1 {fr with sl:=pH a.live fr.sl}
 let l1:=Y2 fr1.sl (fr1.ob.filter fun p=>(Y2 fr1.sl []).contains p.1)
 (fr1.cut fun h=>l1.contains h||(match h with| .imp _=>true| .impc _ _=>true|_=>false)).sort
def JX(f r:Nat):Nat->(Fr->(Ex->Fr->Option R)->Option R)->(Fr->Fr)->Fr->(Ex->Fr->Option R)->Option R
 |0,_,_,_,_=>none
 |n+1,body,fg,fr,k=>body fr fun e fr=>match e with| .normal=>JX f r n body fg (fg fr) k|e=>k e fr
def aeW(f r:Nat)(body:Fr->(Ex->Fr->Option R)->Option R)(fr:Fr)(k:Ex->Fr->Option R):Option R:=body fr k
def iM(run:Run)(L:Nat)(f:FuncId):Code->Fr->(Ex->Fr->Option R)->Option R
 | .skip,fr,k=>k .normal fr
 | .region _ ops d,fr,k=>if d then rA E run ops ops.toList [] (fr.kill (tK ops.toList)) (fun fr=>k .normal fr)else yA E run ops ops.toList (fr.kill (tK ops.toList)) fun fr=>k .normal fr
 | .seq a b,fr,k=>iM run L f a fr fun e fr=>match e with| .normal=>(match E.cut f (d6 b)with|some an=>aeW f (d6 b) (iM run L f b) (fr.head an) k|none=>iM run L f b fr k)|e=>k e fr
 | .cond c a b,fr,k=>bnd (nY (aL fr c)) fun t=>br t (iM run L f a fr k) (iM run L f b fr k)
 | .block id c,fr,k=>iM run L f c fr fun e fr=>match e with| .exit i=>if i=id then k .normal fr else k (.exit i) fr|e=>k e fr
 | .loop c,fr,k=>JX f (d6 c) L (iM run L f c) (fun fr=>fr.head (E.ann f (d6 c))) (fr.head (E.ann f (d6 c))) k
 | .exit id,fr,k=>k (.exit id) fr
 | .ret,fr,k=>k .ret fr
 |_,_,_=>none
def yB:Code->List Nat->Code
 |c,[]=>c
 | .seq a b,p::ps=>if p=0 then yB a ps else yB b ps
 | .cond _ a b,p::ps=>if p=0 then yB a ps else yB b ps
 | .block _ c,_::ps=>yB c ps
 | .loop c,_::ps=>yB c ps
 |c,_=>c
def yC(run:Run)(L:Nat)(f:FuncId):Code->List Nat->List Nat->(Ex->Fr->Option R)->(Ex->Fr->Option R)
 |_,[],_,k=>k
 | .seq a b,p::ps,ns,k=>if p=0 then yC run L f a ps ns (fun e fr=>match e with| .normal=>(match E.cut f (d6 b)with|some an=>aeW f (d6 b) (iM E run L f b) (fr.head an) k|none=>iM E run L f b fr k)|e=>k e fr)else yC run L f b ps ns k
 | .cond _ a b,p::ps,ns,k=>if p=0 then yC run L f a ps ns k else yC run L f b ps ns k
 | .block id c,_::ps,ns,k=>yC run L f c ps ns (fun e fr=>match e with| .exit i=>if i=id then k .normal fr else k (.exit i) fr|e=>k e fr)
 | .loop c,_::ps,ns,k=>yC run L f c ps ns.tail (fun e fr=>match e with| .normal=>JX f (d6 c) (ns.headD 0) (iM E run L f c) (fun fr=>fr.head (E.ann f (d6 c))) (fr.head (E.ann f (d6 c))) k|e=>k e fr)
 |_,_,_,k=>k
end
section
variable {R:Type}
def ajR:List Obj->Nat->Fr->(Fr->Option R)->Option R
 |[],_,fr,k=>k fr
 |o::os,i,fr,k=>fr.lay (.imp i) (forgetO o) fun fr=>ajR os (i+1) fr k
def SW(fn:Func)(args:List MV)(imps:List Obj)(k:Fr->Option R):Option R:=
 ajR imps 0 ⟨[],[]⟩ fun fr=>eG (fun i j=>.impc i j) ((List.range imps.length).map .imp) imps 0 fr fun fr=>
  mH (fun t j=>.loc t j) args 0 fr fun sl fr=>k {fr with sl:=sl++List.replicate (fn.ntmps-args.length) .undef}
def WB(E:Env)(fr:Fr):List ResultVar->(List MV->Option R)->Option R
 |[],k=>k []
 | .tmp t::rs,k=>WB E fr rs fun ms=>k (fr.get t::ms)
 | .cell t ty::rs,k=>if okT E.P ty then(match fr.get t with
   | .ptr h off=>(match fr.obj h with
     | .cells cs=>if off+tsize E.P ty<=cs.length then WB E fr rs fun ms=>k (MX E.P ty ((cs.drop off).take (tsize E.P ty))::ms)else none
     |_=>none)
   |_=>none)else none
end
def yD:List MV->List H
 |[.ptr (.loc t j) _]=>[.loc t j]
 |[.mapr (.loc t j)]=>[.loc t j]
 |_=>[]
def aeX:List MV->MV
 |[m]=>m
 |ms=>.tup ms
def fin(E:Env)(f:FuncId)(fn:Func)(n:Nat)(e:Ex)(fr:Fr):Option Res:=
 match e with
 | .exit _=>none
 |_=>WB E fr fn.results.toList fun res=>nZ (E.keep f) res fr fun res fr=>
  let hs:=(List.range n).map .imp++yD res
  jD hs fr fun os _=>some (aeX (res.map (F7 (toI hs))),os.map (B0 (toI hs)))
def ev(E:Env)(L:Nat):Nat->Run
 |0,_,_,_=>none
 |D+1,f,args,imps=>
  match E.ext f with
  |some g=>(g args).map fun m=>(m,imps)
  |none=>
  match E.P.funcs[f]? with
  |none=>none
  |some fn=>match fn.body with
   |none=>none
   |some c=>if E.okf f then SW fn args imps fun fr=>iM E (ev E L D) L f c fr (fin E f fn imps.length)else none
theorem ajS{E:Env}{L D f:Nat}{fn:Func}{c:Code}(args:List MV)(imps:List Obj)(hx:E.ext f=none)(h:E.P.funcs[f]?=some fn)(hb:fn.body=some c)(ho:E.okf f=true):
 ev E L (D+1) f args imps=SW fn args imps fun fr=>iM E (ev E L D) L f c fr (fin E f fn imps.length):=by
 rw[ev,hx,h];simp only;rw[hb];simp only;rw[je ho]
def lp(E:Env)(L D f:Nat)(fn:Func)(c:Code)(ni:Nat)(p:List Nat)(r:Nat)(ns:List Nat)(fr:Fr)(n:Nat):Option Res:=
 JX f r n (iM E (ev E L D) L f (yB c (p++[0]))) (fun fr=>fr.head (E.ann f r)) fr (yC E (ev E L D) L f c p ns (fin E f fn ni))
def jp(E:Env)(L D f:Nat)(fn:Func)(c:Code)(ni:Nat)(p:List Nat)(r:Nat)(ns:List Nat)(fr:Fr):Option Res:=
 aeW f r (iM E (ev E L D) L f (yB c (p++[1]))) fr (yC E (ev E L D) L f c (p++[1]) ns (fin E f fn ni))
end Kw
namespace Kw
open Go
def bs(l:List UInt8):ByteArray:=⟨l.toArray⟩
section
variable {R α:Type}
@[simp] theorem bnd_some' (x:α) (f:α->Option R):bnd (some x) f=f x:=(rfl)
@[simp] theorem awU (f:α->Option R):bnd none f=none:=(rfl)
@[simp] theorem br_true' (x y:Option R):br true x y=x:=(rfl)
@[simp] theorem br_false' (x y:Option R):br false x y=y:=(rfl)
@[simp] theorem gBool_b (b:Bool):nY (.bool b)=some b:=(rfl)
@[simp] theorem gInt_i (k:IntKind) (n:Int):eI k (.int k n)=some n:=by simp[eI]
@[simp] theorem gStr_s (s:ByteArray):eF (.str s)=some s:=(rfl)
@[simp] theorem gSl_r (r:List Row):gSl (.sl r)=some r:=(rfl)
@[simp] theorem gOwn_r (r:List Row):MW (.own r)=some r:=(rfl)
@[simp] theorem ak6 (r:List Row):rR (.rows r)=some r:=(rfl)
@[simp] theorem CS (r:List (ByteArray×Bool)):JU (.map r)=some r:=(rfl)
@[simp] theorem cellAt_zero (m:MV) (l:List MV):aC (m::l) 0=m:=(rfl)
@[simp] theorem cellAt_succ (m:MV) (l:List MV) (n:Nat):aC (m::l) (n+1)=aC l n:=(rfl)
@[simp] theorem iG (o:Obj) (l:List Obj):hdO (o::l)=o:=(rfl)
@[simp] theorem afA (o:Obj) (l:List Obj):tlO (o::l)=l:=(rfl)
@[simp] theorem bNot_t:bNot true=false:=(rfl)
@[simp] theorem bNot_f:bNot false=true:=(rfl)
@[simp] theorem aQ (p:Prop) [Decidable p]:bNot (decide p)=decide (¬p):=by by_cases h:p<;>simp[bNot,h]
@[simp] theorem iEq_dec (a b:Int):iEq a b=decide (a=b):=by unfold iEq;by_cases h:a=b<;>simp[h]
@[simp] theorem iLt_dec (a b:Int):iLt a b=decide (a<b):=(rfl)
@[simp] theorem iLe_dec (a b:Int):iLe a b=decide (a<=b):=(rfl)
@[simp] theorem mM (p q:Prop) [Decidable p] [Decidable q]:d5 (decide p) (decide q)=decide (p/\q):=by by_cases h:p<;>by_cases h':q<;>simp[d5,h,h']
@[simp] theorem cN (b:Bool):d5 true b=b:=(rfl)
@[simp] theorem aA9 (b:Bool):d5 false b=false:=(rfl)
@[simp] theorem aV (b:Bool):d5 b true=b:=by cases b<;>rfl
@[simp] theorem sLen_bs (l:List UInt8):sLen (bs l)=l.length:=(rfl)
@[simp] theorem dN (a b:List UInt8):kV (bs a) (bs b)=bs (a++b):=by
  unfold kV bs;apply ByteArray.ext;simp[ByteArray.append_eq,ByteArray.data_append]
theorem ZC(l:List UInt8):(bs l).toList=l:=by rw[ByteArray.toList_eq];rfl
@[simp] theorem sEq_bs (a b:List UInt8):sEq (bs a) (bs b)=decide (a=b):=by
  unfold sEq;rw[ZC,ZC];by_cases h:a=b<;>simp[h]
theorem ak7(a:List UInt8)(l h:Int):nA (bs a) l h=bs ((a.take h.toNat).drop l.toNat):=by
 unfold nA bs;apply ByteArray.ext;rw[ByteArray.data_extract];apply Array.toList_inj.1;simp[List.extract_eq_take_drop,List.drop_take]
theorem aq7(a:List UInt8)(i:Int)(h:0<=i):sAt (bs a) i=(a[i.toNat]?).map fun b=>(b.toNat:Int):=by
 unfold sAt;rw[je h];rfl
@[simp] theorem yM (n:Int):tI [[.int .u8 n]]=some (bs [n.toNat.toUInt8]):=(rfl)
theorem afB(n m:Int)(k:Nat):eL n m k=decide ((n+m)*k<=2^46):=(rfl)
@[simp] theorem nrows_map {A:Type} (f:A->Row) (l:List A):nrows (l.map f)=l.length:=by simp[nrows]
@[simp] theorem nrows_nil:nrows []=0:=(rfl)
@[simp] theorem awV (r:Row):nrows [r]=1:=(rfl)
@[simp] theorem d7 {A:Type} (f:A->Row) (a b:List A):cB (a.map f) (b.map f)=(a++b).map f:=by simp[cB]
theorem cJ{A:Type}(f:A->Row)(a:List A)(x:A):cB (a.map f) [f x]=(a++[x]).map f:=by simp[cB]
theorem jU{A:Type}(f:A->Row)(sz:Nat)(h:∀x,(f x).length=sz)(l:List A):okR sz (l.map f)=true:=by simp[okR,h]
theorem wrap_i64{x:Int}(h1: -9223372036854775808<=x)(h2:x<=9223372036854775807):IntKind.i64.wrap x=x:=by
 rw[IntKind.wrap_i64];omega
theorem ak8{a b:Int}(h1: -9223372036854775808<=a+b)(h2:a+b<=9223372036854775807):bR .i64 a b=a+b:=wrap_i64 h1 h2
theorem ZD{x:Int}(h1:0<=x)(h2:x<=255):IntKind.u8.wrap x=x:=by
 simp[IntKind.wrap,IntKind.bits,IntKind.signed];omega
end
end Kw
namespace Kw
open Go
end Kw
namespace Kw
open Go
def jL:List UInt8->List UInt8->List (List UInt8)
 |_,[]=>[]
 |a,c::r=>bif c==59 then(a++[c])::jL [] r else jL (a++[c]) r
def nC:List UInt8->List UInt8->List UInt8
 |a,[]=>a
 |a,c::r=>bif c==59 then nC [] r else nC (a++[c]) r
theorem S9(a r:List UInt8):jL a (59::r)=(a++[59])::jL [] r:=rfl
theorem OV(a r:List UInt8){c:UInt8}(h:c≠59):jL a (c::r)=jL (a++[c]) r:=by
 have e:(c==59)=false:=by simpa using h
 rw[jL,e];rfl
theorem ab6(a r:List UInt8):nC a (59::r)=nC [] r:=rfl
theorem WM(a r:List UInt8){c:UInt8}(h:c≠59):nC a (c::r)=nC (a++[c]) r:=by
 have e:(c==59)=false:=by simpa using h
 rw[nC,e];rfl
theorem DV:∀(a r:List UInt8),59∉a->Lib.indexByte (a++59::r) 59=a.length
 |[],r,_=>by simp[Lib.indexByte]
 |b::a,r,h=>by
  have h1:b≠59:=fun e=>h (by simp[e])
  have h2:(b==59)=false:=by simpa using h1
  have ih:=DV a r (fun e=>h (by simp[e]))
  rw[Js,Lib.indexByte,h2,ih];have h3:((a.length:Int)== -1)=false:=by rw[beq_eq_false_iff_ne];omega
  rw[h3];simp
theorem CQ:∀(s a:List UInt8),59∉a->Lib.splitK [59] 1 (s.count 59) (a++s)=jL a s++[nC a s]
 |[],a,_=>by simp[jL,nC,Lib.splitK]
 |c::r,a,ha=>by
  by_cases h:c=59
  ·subst h;rw[S9,ab6,List.count_cons_self,Lib.splitK,Lib.index_one,DV a r ha];have h3:((a.length:Int)== -1)=false:=by rw[beq_eq_false_iff_ne];omega
   rw[h3];have e1:(a++59::r).take (((a.length:Int)).toNat+1)=a++[59]:=by
    rw[ki,List.take_append,Jn (by omega)];simp
   have e2:(a++59::r).drop (((a.length:Int)).toNat+([59]:List UInt8).length)=r:=by
    rw[ki,List.drop_append];simp
   have ih:=CQ r [] (by simp)
   rw[qg]at ih;simp only[qd,qr];rw[e1,e2,ih];rfl
  ·rw[OV _ _ h,WM _ _ h,List.count_cons_of_ne (by simpa using h)]
   have ih:=CQ r (a++[c]) (by simp[ha,Ne.symm h])
   rw[qm]at ih;exact ih
theorem ZB(b:ByteArray):bs b.data.toList=b:=by cases b;simp[bs]
theorem WN(s:ByteArray):Lib.splitB ⟨#[59]⟩ 1 (Lib.countByte s.data.toList 59) s=(jL [] s.data.toList++[nC [] s.data.toList]).map bs:=by
 have h:=Lib.splitB_data ⟨#[59]⟩ 1 (Lib.countByte s.data.toList 59) s;have e:=CQ s.data.toList [] (by simp)
 rw[qg]at e;have h2:(Lib.splitB ⟨#[59]⟩ 1 (Lib.countByte s.data.toList 59) s).map (·.data.toList)=jL [] s.data.toList++[nC [] s.data.toList]:=h.trans e;rw[<-h2,List.map_map]
 conv=>lhs;rw[<-List.map_id (Lib.splitB ⟨#[59]⟩ 1 (Lib.countByte s.data.toList 59) s)]
 exact Jb fun b _=>(ZB b).symm
theorem pI:∀(s a:List UInt8),(jL a s).length=s.count 59
 |[],a=>by simp[jL]
 |c::r,a=>by
  by_cases h:c=59
  ·subst h;rw[S9,List.count_cons_self,jf,pI]
  ·rw[OV _ _ h,List.count_cons_of_ne (by simpa using h),pI]
end Kw
namespace Kw
open Go
def afG:List MV->Option MV
 |[.str s]=>if s.size<=2000000 then some (.own ((jL [] s.data.toList).map fun x=>[.str (bs x)]))else none
 |_=>none
end Kw
namespace Kw
open Go
variable [Gl]
inductive SV(w:World)(prot:Nat->Prop):Value->MV->Prop
 |bool (b:Bool):SV w prot (.bool b) (.bool b)
 |int (k:IntKind) (n:Int):SV w prot (.int k n) (.int k n)
 |str (s:ByteArray):SV w prot (.string s) (.str s)
 |ifN:SV w prot .nilIface (.iface true)
 |ifS (t:TypeId) (v:Value):SV w prot (.iface t v) (.iface false)
 |sl {a:Option Addr} {n c:Nat} {rows:List Row} (sz:Nat) (vf:Nat->Nat->Value) (hn:rows.length=n) (hc:n<=c)
  (hrow:∀(i:Nat) (row:Row),rows[i]?=some row->row.length=sz)
  (had:0<n->∃ad:Addr,a=some ad/\ad.spot=none/\prot ad.block/\
   ∀(i:Nat) (row:Row) (j:Nat) (m:MV),rows[i]?=some row->row[j]?=some m->w.cell? ⟨ad.block,ad.off+(i*sz+j),none⟩=some (vf i j))
  (hsv:∀(i:Nat) (row:Row) (j:Nat) (m:MV),rows[i]?=some row->row[j]?=some m->SV w prot (vf i j) m):
  SV w prot (.slice a n c) (.sl rows)
inductive GH where
 |absent|dead|nil
 |box (b:Nat)
 |mem (b cap sz:Nat)
def GH.blk:GH->Option Nat
 | .box b=>some b
 | .mem b _ _=>some b
 |_=>none
structure G where
 rho:H->GH
 prot:Nat->Prop
inductive RV(g:G)(cur:H->Int)(w:World):Value->MV->Prop
 |undef (v:Value):RV g cur w v .undef
 |sv {v:Value} {m:MV} (h:SV w g.prot v m):RV g cur w v m
 |nilp:RV g cur w (.pointer none) .nilp
 |nils:RV g cur w (.slice none 0 0) .nils
 |ptr {h:H} {off b:Nat} (e:g.rho h=.box b):RV g cur w (.pointer (some ⟨b,off,none⟩)) (.ptr h off)
 |mapr {h:H} {b:Nat} (e:g.rho h=.box b):RV g cur w (.map (some b)) (.mapr h)
 |ref {v:Value} {h:H} {n:Int} {b c s:Nat} (e:g.rho h=.mem b c s) (hle:n<=cur h) (hv:n=cur h->v=.slice (some ⟨b,0,none⟩) n.toNat c) (h1:v.oneCell'=true):RV g cur w v (.ref h n)
 |refN {v:Value} {h:H} {n:Int} (e:g.rho h=.nil) (hle:n<=cur h) (hv:n=cur h->∃a,v=.slice a 0 0) (h1:v.oneCell'=true):RV g cur w v (.ref h n)
 |ptrS {ad:Addr} {row:Row} {c:Nat} (vf:Nat->Value) (hp:g.prot ad.block) (hs:ad.spot=none)
  (hc:∀(j:Nat) (m:MV),row[j]?=some m->w.cell? ⟨ad.block,ad.off+j,none⟩=some (vf j))
  (hsv:∀(j:Nat) (m:MV),row[j]?=some m->SV w g.prot (vf j) m):RV g cur w (.pointer (some ⟨ad.block,ad.off+c,none⟩)) (.ptrS row c)
 |ptrE {v:Value} {h:H} {n i:Int} {c b cap s:Nat} (e:g.rho h=.mem b cap s) (hle:n<=cur h) (hv:n=cur h->v=.pointer (some ⟨b,i.toNat*s+c,none⟩)) (h1:v.oneCell'=true):RV g cur w v (.ptrE h n i c)
 |ptrEN {v:Value} {h:H} {n i:Int} {c:Nat} (e:g.rho h=.nil) (hle:n<=cur h) (hz:n≠cur h) (h1:v.oneCell'=true):RV g cur w v (.ptrE h n i c)
 |deadP {v:Value} {h:H} {off:Nat} (e:g.rho h=.dead) (h1:v.oneCell'=true):RV g cur w v (.ptr h off)
 |deadM {v:Value} {h:H} (e:g.rho h=.dead) (h1:v.oneCell'=true):RV g cur w v (.mapr h)
 |deadR {v:Value} {h:H} {n:Int} (e:g.rho h=.dead) (h1:v.oneCell'=true):RV g cur w v (.ref h n)
 |deadE {v:Value} {h:H} {n i:Int} {c:Nat} (e:g.rho h=.dead) (h1:v.oneCell'=true):RV g cur w v (.ptrE h n i c)
 |fn {f:FuncId} {vs:Array Value} {caps:List MV} (hl:vs.size=caps.length)
  (hr:∀(j:Nat) (v:Value) (m:MV),vs[j]?=some v->caps[j]?=some m->RV g cur w v m):RV g cur w (.func (.func f) #[] vs) (.fn f caps)
 |agg {vs:Array Value} {cs:List MV} (hl:vs.size=cs.length)
  (hr:∀(j:Nat) (v:Value) (m:MV),vs[j]?=some v->cs[j]?=some m->RV g cur w v m):RV g cur w (.agg vs) (.agg cs)
 |tup {vs:Array Value} {cs:List MV} (hl:vs.size=cs.length)
  (hr:∀(j:Nat) (v:Value) (m:MV),vs[j]?=some v->cs[j]?=some m->RV g cur w v m):RV g cur w (.tuple vs) (.tup cs)
def cur(ob:Ob)(h:H):Int:=match look ob h with| .rows x=>nrows x| .froz x=>nrows x|_=> -1
def iC(w:World)(prot:Nat->Prop)(arr:Array Value)(sz:Nat)(rs:List Row):Prop:=
 ∀(i:Nat) (row:Row),rs[i]?=some row->row.length=sz/\∀(j:Nat) (m:MV),row[j]?=some m->∃v,arr[i*sz+j]?=some v/\SV w prot v m
def kp(s:ByteArray)(e:MapEntry):Bool:=match e.key with| .string s'=>s'.toList==s.toList|_=>false
def apZ(ents:Array MapEntry)(es:List (ByteArray×Bool)):Prop:=
 (∀e∈ents.toList,∃s b,e.key=.string s/\e.val=.bool b)/\
 ∀s:ByteArray,match ents.toList.find? (kp s)with
  |some e=>e.val=.bool (nG es s)
  |none=>nG es s=false
def JY(k:Bool)(arr:Array Value)(cap sz:Nat)(rs:List Row):Prop:=cap*sz<=arr.size/\(rs=[]->cap=0\/(k=true/\sz=4))
theorem JY.weak{k k':Bool}{arr:Array Value}{cap sz:Nat}{rs:List Row}(h:JY k arr cap sz rs)(hk:k=true->k'=true):JY k' arr cap sz rs:=⟨h.1,fun e=>(h.2 e).imp id fun⟨a,b⟩=>⟨hk a,b⟩⟩
def IC(g:G)(cu:H->Int)(w:World)(h:H):Obj->Prop
 | .none=>g.rho h=.dead
 | .cells cs=>∃b arr ty,g.rho h=.box b/\w.heap[b]?=some (.cells arr ty (0,0))/\¬g.prot b/\arr.size=cs.length/\
  ∀(j:Nat) (v:Value) (m:MV),arr[j]?=some v->cs[j]?=some m->RV g cu w v m
 | .map es=>∃b ents clk,g.rho h=.box b/\w.heap[b]?=some (.map ents clk)/\¬g.prot b/\apZ ents es
 | .rows rs=>(g.rho h=.nil/\rs=[])\/∃b cap sz arr ty,g.rho h=.mem b cap sz/\w.heap[b]?=some (.cells arr ty (0,0))/\¬g.prot b/\
  JY (isK h) arr cap sz rs/\rs.length<=cap/\iC w g.prot arr sz rs
 | .froz rs=>(g.rho h=.nil/\rs=[])\/∃b cap sz arr ty,g.rho h=.mem b cap sz/\w.heap[b]?=some (.cells arr ty (0,0))/\g.prot b/\
  JY (isK h) arr cap sz rs/\rs.length<=cap/\iC w g.prot arr sz rs
def yE(prot:Nat->Prop)(w:World):Prop:=
 ∀v m,Gl.glr v=some m->prot v/\∃x,w.cell? ⟨v,0,none⟩=some x/\SV w prot x m
structure SimO(ob:Ob)(g:G)(w:World):Prop where
 keys:(ob.map (·.1)).Nodup
 abs:∀h,g.rho h=.absent↔h∉ob.map (·.1)
 obj:∀h o,(h,o)∈ob->IC g (cur ob) w h o
 inj:∀h h' b,(g.rho h).blk=some b->(g.rho h').blk=some b->h=h'
 lt:∀h b,(g.rho h).blk=some b->b<w.heap.size
 plt:∀b,g.prot b->b<w.heap.size
 gl:yE g.prot w
structure Sim(fr:Fr)(g:G)(tmps:Array Value)(w:World):Prop where
 size:tmps.size=fr.sl.length
 slot:∀(t:Nat) (v:Value) (m:MV),tmps[t]?=some v->fr.sl[t]?=some m->RV g (cur fr.ob) w v m
 o:SimO fr.ob g w
theorem oV{w w':World}(b off:Nat)(h:w'.heap[b]?=w.heap[b]?):w'.cell? ⟨b,off,none⟩=w.cell? ⟨b,off,none⟩:=by
 unfold World.cell?;rw[h]
theorem SV.mono{w w':World}{p p':Nat->Prop}{v:Value}{m:MV}(h:SV w p v m)(hp:∀b,p b->p' b)(hw:∀b,p b->w'.heap[b]?=w.heap[b]?):SV w' p' v m:=by
 induction h with
 |bool b=>exact .bool b
 |int k n=>exact .int k n
 |str s=>exact .str s
 |ifN=>exact .ifN
 |ifS t v=>exact .ifS t v
 |sl sz vf hn hc hrow had hsv ih=>
  refine .sl sz vf hn hc hrow (fun h=>?_) ih
  obtain⟨ad,e,hs,hb,hcell⟩:=had h;exact⟨ad,e,hs,hp _ hb,fun i row j m h1 h2=>(oV _ _ (hw _ hb)).trans (hcell i row j m h1 h2)⟩
theorem yE.mono{w w':World}{p p':Nat->Prop}(h:yE p w)(hp:∀b,p b->p' b)(hw:∀b,p b->w'.heap[b]?=w.heap[b]?):yE p' w':=fun v rs e=>by
 obtain⟨h1,x,h2,h3⟩:=h v rs e;exact⟨hp v h1,x,(oV _ _ (hw v h1)).trans h2,h3.mono hp hw⟩
structure Later(g g':G)(cu cu':H->Int)(w w':World):Prop where
 box:∀h b,g.rho h=.box b->g'.rho h=.box b\/g'.rho h=.dead
 mem:∀h b c s,g.rho h=.mem b c s->g'.rho h=.dead\/(cu h<=cu' h/\(g'.rho h=.mem b c s\/(cu h<cu' h/\∃b' c' s',g'.rho h=.mem b' c' s')))
 nil:∀h,g.rho h=.nil->g'.rho h=.dead\/(cu h<=cu' h/\(g'.rho h=.nil\/(cu h<cu' h/\∃b' c' s',g'.rho h=.mem b' c' s')))
 dead:∀h,g.rho h=.dead->g'.rho h=.dead
 prot:∀b,g.prot b->g'.prot b
 heap:∀b,g.prot b->w'.heap[b]?=w.heap[b]?
theorem RV.mono{g g':G}{cu cu':H->Int}{w w':World}{v:Value}{m:MV}(h:RV g cu w v m)(L:Later g g' cu cu' w w'):RV g' cu' w' v m:=by
 induction h with
 |undef v=>exact .undef v
 |sv h=>exact .sv (h.mono L.prot L.heap)
 |nilp=>exact .nilp
 |nils=>exact .nils
 |ptr e=>rcases L.box _ _ e with h|h
         ·exact .ptr h
         ·exact .deadP h rfl
 |mapr e=>rcases L.box _ _ e with h|h
          ·exact .mapr h
          ·exact .deadM h rfl
 |ref e hle hv h1=>
  rcases L.mem _ _ _ _ e with h|⟨hc,h|⟨hlt,_,_,_,h⟩⟩
  ·exact .deadR h h1
  ·exact .ref h (by omega) (fun hn=>hv (by omega)) h1
  ·exact .ref h (by omega) (fun hn=>absurd hn (by omega)) h1
 |refN e hle hv h1=>
  rcases L.nil _ e with h|⟨hc,h|⟨hlt,_,_,_,h⟩⟩
  ·exact .deadR h h1
  ·exact .refN h (by omega) (fun hn=>hv (by omega)) h1
  ·exact .ref h (by omega) (fun hn=>absurd hn (by omega)) h1
 |ptrS vf h1 h2 h3 h4=>exact .ptrS vf (L.prot _ h1) h2 (fun j m hj=>(oV _ _ (L.heap _ h1)).trans (h3 j m hj)) (fun j m hj=>(h4 j m hj).mono L.prot L.heap)
 |ptrE e hle hv h1=>
  rcases L.mem _ _ _ _ e with h|⟨hc,h|⟨hlt,_,_,_,h⟩⟩
  ·exact .deadE h h1
  ·exact .ptrE h (by omega) (fun hn=>hv (by omega)) h1
  ·exact .ptrE h (by omega) (fun hn=>absurd hn (by omega)) h1
 |ptrEN e hle hz h1=>
  rcases L.nil _ e with h|⟨hc,h|⟨hlt,_,_,_,h⟩⟩
  ·exact .deadE h h1
  ·exact .ptrEN h (by omega) (by omega) h1
  ·exact .ptrE h (by omega) (fun hn=>absurd hn (by omega)) h1
 |deadP e h1=>exact .deadP (L.dead _ e) h1
 |deadM e h1=>exact .deadM (L.dead _ e) h1
 |deadR e h1=>exact .deadR (L.dead _ e) h1
 |deadE e h1=>exact .deadE (L.dead _ e) h1
 |fn hl _ ih=>exact .fn hl ih
 |agg hl _ ih=>exact .agg hl ih
 |tup hl _ ih=>exact .tup hl ih
theorem RV.one{g:G}{cu:H->Int}{w:World}{v:Value}{m:MV}(h:RV g cu w v m)(hm:m.one=true):v.oneCell'=true/\v.cells= #[v]:=by
 have:v.oneCell'=true:=by
  cases h with
  |undef=>simp[MV.one]at hm
  |sv h=>cases h<;>rfl
  |agg=>simp[MV.one]at hm
  |tup=>simp[MV.one]at hm
  |nilp=>rfl
  |nils=>rfl
  |ptr=>rfl
  |mapr=>rfl
  |ptrS=>rfl
  |fn=>rfl
  |ref _ _ _ h=>exact h
  |refN _ _ _ h=>exact h
  |ptrE _ _ _ h=>exact h
  |ptrEN _ _ _ h=>exact h
  |deadP _ h=>exact h
  |deadM _ h=>exact h
  |deadR _ h=>exact h
  |deadE _ h=>exact h
 refine⟨this,?_⟩;cases v<;>first|rfl|(simp[Value.oneCell']at this)
end Kw
namespace Kw
open Go
variable [Gl]
theorem iC.mono{w w':World}{p p':Nat->Prop}{arr:Array Value}{sz:Nat}{rs:List Row}(h:iC w p arr sz rs)(hp:∀b,p b->p' b)(hw:∀b,p b->w'.heap[b]?=w.heap[b]?):iC w' p' arr sz rs:=
 fun i row hi=>⟨(h i row hi).1,fun j m hj=>let⟨v,hv,hs⟩:=(h i row hi).2 j m hj;⟨v,hv,hs.mono hp hw⟩⟩
theorem IC.mono{g g':G}{cu cu':H->Int}{w w':World}{h:H}{o:Obj}(k:IC g cu w h o)(L:Later g g' cu cu' w w')(hr:g'.rho h=g.rho h)
 (hb:∀b,(g.rho h).blk=some b->w'.heap[b]?=w.heap[b]?) (hp:∀b,(g.rho h).blk=some b->¬g.prot b->¬g'.prot b):IC g' cu' w' h o:=by
 cases o with
 |none=>exact hr.trans k
 |cells cs=>
  obtain⟨b,arr,ty,e,hh,hn,hs,hv⟩:=k;exact⟨b,arr,ty,hr.trans e,(hb b (by rw[e];rfl)).trans hh,hp b (by rw[e];rfl) hn,hs,fun j v m h1 h2=>(hv j v m h1 h2).mono L⟩
 |map es=>
  obtain⟨b,ents,clk,e,hh,hn,hs⟩:=k;exact⟨b,ents,clk,hr.trans e,(hb b (by rw[e];rfl)).trans hh,hp b (by rw[e];rfl) hn,hs⟩
 |rows rs=>
  rcases k with⟨e,hz⟩|⟨b,cap,sz,arr,ty,e,hh,hn,hs,hl,hv⟩
  ·exact .inl ⟨hr.trans e,hz⟩
  ·exact .inr ⟨b,cap,sz,arr,ty,hr.trans e,(hb b (by rw[e];rfl)).trans hh,hp b (by rw[e];rfl) hn,hs,hl,hv.mono L.prot L.heap⟩
 |froz rs=>
  rcases k with⟨e,hz⟩|⟨b,cap,sz,arr,ty,e,hh,hn,hs,hl,hv⟩
  ·exact .inl ⟨hr.trans e,hz⟩
  ·exact .inr ⟨b,cap,sz,arr,ty,hr.trans e,(hb b (by rw[e];rfl)).trans hh,L.prot _ hn,hs,hl,hv.mono L.prot L.heap⟩
theorem G9{ob:Ob}{h:H}{o:Obj}(hk:(ob.map (·.1)).Nodup)(hm:(h,o)∈ob):look ob h=o:=by
 induction ob with
 |nil=>cases hm
 |cons p r ih=>
  obtain⟨h',o'⟩:=p;simp only[yh,wz]at hk;unfold look;rcases ko.1 hm with e|e
  ·cases e;simp
  ·have:h'≠h:=fun e'=>hk.1 (by rw[e'];exact Jc (f:=(·.1)) e)
   rw[jc this];exact ih hk.2 e
theorem lS{ob:Ob}{h:H}(hm:h∈ob.map (·.1)):(h,look ob h)∈ob:=by
 induction ob with
 |nil=>simp at hm
 |cons p r ih=>
  obtain⟨h',o'⟩:=p;unfold look;by_cases e:h'=h
  ·rw[je e,e];exact qk
  ·rw[jc e];refine kz _ (ih ?_);simp only[yh,ko]at hm;exact hm.resolve_left (fun e'=>e e'.symm)
theorem rX{ob:Ob}{h:H}(hm:h∉ob.map (·.1)):look ob h=.none:=by
 induction ob with
 |nil=>rfl
 |cons p r ih=>
  obtain⟨h',o'⟩:=p;simp only[yh,ko,not_or]at hm;unfold look;rw[jc (fun e=>hm.1 e.symm)];exact ih hm.2
theorem rY{ob:Ob}{h:H}(hn:look ob h≠ .none):h∈ob.map (·.1):=by
 by_cases hm:h∈ob.map (·.1)
 ·exact hm
 ·exact absurd (rX hm) hn
theorem SX{ob:Ob}{h:H}{o:Obj}:(put ob h o).map (·.1)=if h∈ob.map (·.1)then ob.map (·.1)else ob.map (·.1)++[h]:=by
 induction ob with
 |nil=>simp[put]
 |cons p r ih=>
  obtain⟨h',o'⟩:=p;unfold put;by_cases e:h'=h
  ·rw[je e];simp[e]
  ·rw[jc e];simp only[yh,ih,ko];by_cases hm:h∈r.map (·.1)
   ·rw[je hm,je (.inr hm)]
   ·rw[jc hm,jc (by rintro(x|x);exact e x.symm;exact hm x)];rfl
theorem ab1{ob:Ob}{h:H}{o:Obj}(hk:(ob.map (·.1)).Nodup):((put ob h o).map (·.1)).Nodup:=by
 rw[SX];split
 ·exact hk
 ·rename_i hm;exact qt.2 ⟨hk,by simp,by intro a ha b hb;simp at hb;rw[hb];exact fun e=>hm (e▸ha)⟩
theorem kG{ob:Ob}{h h':H}{o:Obj}:h'∈(put ob h o).map (·.1)↔h'=h\/h'∈ob.map (·.1):=by
 rw[SX];split
 ·rename_i hm;exact⟨.inr,fun e=>e.elim (fun e=>e▸hm) id⟩
 ·simp[or_comm]
theorem mem_put{ob:Ob}{h h':H}{o o':Obj}(hk:(ob.map (·.1)).Nodup)(hm:(h',o')∈put ob h o):(h'=h/\o'=o)\/(h'≠h/\(h',o')∈ob):=by
 induction ob with
 |nil=>simp[put]at hm;exact .inl hm
 |cons p r ih=>
  obtain⟨k,ok⟩:=p;simp only[yh,wz]at hk;unfold put at hm;by_cases e:k=h
  ·rw[je e]at hm;rcases ko.1 hm with x|x
   ·cases x;exact .inl ⟨rfl,rfl⟩
   ·refine .inr ⟨fun e'=>hk.1 ?_,kz _ x⟩
    rw[e,<-e'];exact Jc (f:=(·.1)) x
  ·rw[jc e]at hm;rcases ko.1 hm with x|x
   ·cases x;exact .inr ⟨e,qk⟩
   ·rcases ih hk.2 x with y|⟨y,z⟩
    ·exact .inl y
    ·exact .inr ⟨y,kz _ z⟩
theorem iW{ob:Ob}{h:H}{o:Obj}:look (put ob h o) h=o:=by
 induction ob with
 |nil=>simp[put,look]
 |cons p r ih=>
  obtain⟨k,ok⟩:=p;unfold put;by_cases e:k=h
  ·rw[je e];simp[look]
  ·rw[jc e];simp[look,e,ih]
theorem jY{ob:Ob}{h h':H}{o:Obj}(hne:h'≠h):look (put ob h o) h'=look ob h':=by
 induction ob with
 |nil=>simp[put,look,Ne.symm hne]
 |cons p r ih=>
  obtain⟨k,ok⟩:=p;unfold put;by_cases e:k=h
  ·rw[je e];subst e;simp[look,Ne.symm hne]
  ·rw[jc e];simp only[look,ih]
theorem dC{ob:Ob}{h h':H}{o:Obj}(hne:h'≠h):cur (put ob h o) h'=cur ob h':=by unfold cur;rw[jY hne]
theorem SimO.upd{ob:Ob}{g g':G}{w w':World}(S:SimO ob g w)(h:H)(o:Obj)
 (hne:∀h',h'≠h->g'.rho h'=g.rho h')
 (hnew:g'.rho h≠ .absent)
 (L:Later g g' (cur ob) (cur (put ob h o)) w w')
 (hheap:∀h' b,h'≠h->(g.rho h').blk=some b->w'.heap[b]?=w.heap[b]?)
 (hprot:∀h' b,h'≠h->(g.rho h').blk=some b->¬g.prot b->¬g'.prot b)
 (hobj:IC g' (cur (put ob h o)) w' h o)
 (hinj:∀h' b,h'≠h->(g'.rho h).blk=some b->(g.rho h').blk≠some b)
 (hlt:∀b,(g'.rho h).blk=some b->b<w'.heap.size)
 (hsz:w.heap.size<=w'.heap.size)
 (hplt:∀b,g'.prot b->b<w'.heap.size):SimO (put ob h o) g' w' where
 keys:=ab1 S.keys
 abs:=fun h'=>by
  rw[kG];by_cases e:h'=h
  ·subst e;exact⟨fun x=>absurd x hnew,fun x=>absurd (.inl rfl) x⟩
  ·rw[hne h' e,S.abs h'];exact⟨fun x y=>y.elim e x,fun x y=>x (.inr y)⟩
 obj:=fun h' o' hm=>by
  rcases mem_put S.keys hm with⟨e1,e2⟩|⟨e1,e2⟩
  ·subst e1;subst e2;exact hobj
  ·exact(S.obj h' o' e2).mono L (hne h' e1) (fun b hb=>hheap h' b e1 hb) (fun b hb=>hprot h' b e1 hb)
 inj:=fun h1 h2 b e1 e2=>by
  by_cases x1:h1=h<;>by_cases x2:h2=h
  ·rw[x1,x2]
  ·subst x1;rw[hne h2 x2]at e2;exact absurd e2 (hinj h2 b x2 e1)
  ·subst x2;rw[hne h1 x1]at e1;exact absurd e1 (hinj h1 b x1 e2)
  ·rw[hne h1 x1]at e1;rw[hne h2 x2]at e2;exact S.inj h1 h2 b e1 e2
 lt:=fun h' b e=>by
  by_cases x:h'=h
  ·subst x;exact hlt b e
  ·rw[hne h' x]at e;exact v3 (S.lt h' b e) hsz
 plt:=hplt
 gl:=S.gl.mono L.prot L.heap
theorem Sim.later{fr:Fr}{g g':G}{tmps:Array Value}{w w':World}{ob':Ob}(S:Sim fr g tmps w)(L:Later g g' (cur fr.ob) (cur ob') w w')(o:SimO ob' g' w'):Sim {fr with ob:=ob'} g' tmps w':=
 ⟨S.size,fun t v m h1 h2=>(S.slot t v m h1 h2).mono L,o⟩
theorem Sim.set{fr:Fr}{g:G}{tmps:Array Value}{w:World}(S:Sim fr g tmps w)(t:Nat){v:Value}{m:MV}(h:RV g (cur fr.ob) w v m):Sim (fr.set t m) g (tmps.setIfInBounds t v) w:=
 ⟨by simp[Fr.set,S.size],fun t' v' m' h1 h2=>by
  simp only[Fr.set]at h2;by_cases e:t=t'
  ·subst e;have ht:t<fr.sl.length:=by
    have:=(jm.1 h2).1;simpa using this
   rw[List.getElem?_set_self ht]at h2;rw[Array.getElem?_setIfInBounds_self_of_lt (by rw[S.size];exact ht)]at h1
   cases h1;cases h2;exact h
  ·rw[List.getElem?_set_ne e]at h2;rw[Array.getElem?_setIfInBounds_ne e]at h1;exact S.slot t' v' m' h1 h2,S.o⟩
end Kw
namespace Kw
open Go
variable [Gl]
structure Fm(g:G)(w:World)(g':G)(w':World):Prop where
 os:w'.os=w.os
 tape:w'.tape=w.tape
 output:w'.output=w.output
 size:w.heap.size<=w'.heap.size
 heap:∀b,b<w.heap.size->(∀h,(g.rho h).blk≠some b)->w'.heap[b]?=w.heap[b]?
 own:∀h b,(g'.rho h).blk=some b->w.heap.size<=b\/∃h0,(g.rho h0).blk=some b
 prot:∀b,g.prot b->g'.prot b
 prot':∀b,g'.prot b->g.prot b\/w.heap.size<=b\/∃h0,(g.rho h0).blk=some b
 imp:∀i,g'.rho (.imp i)=g.rho (.imp i)\/g'.rho (.imp i)=.dead\/g'.rho (.imp i)=.absent
theorem Fm.refl(g:G)(w:World):Fm g w g w:=⟨rfl,rfl,rfl,kg _,fun _ _ _=>rfl,fun h b e=>.inr ⟨h,e⟩,fun _ h=>h,fun _ h=>.inl h,fun _=>.inl rfl⟩
theorem Fm.trans{g1 g2 g3:G}{w1 w2 w3:World}(a:Fm g1 w1 g2 w2)(b:Fm g2 w2 g3 w3):Fm g1 w1 g3 w3 where
 os:=b.os.trans a.os
 tape:=b.tape.trans a.tape
 output:=b.output.trans a.output
 size:=kb a.size b.size
 heap:=fun k hk hn=>(b.heap k (v3 hk a.size) (fun h e=>by
  rcases a.own h k e with x|⟨h0,x⟩
  ·omega
  ·exact hn h0 x)).trans (a.heap k hk hn)
 own:=fun h k e=>by
  rcases b.own h k e with x|⟨h0,x⟩
  ·exact .inl (kb a.size x)
  ·exact a.own h0 k x
 prot:=fun k h=>b.prot k (a.prot k h)
 prot':=fun k h=>by
  rcases b.prot' k h with x|x|⟨h0,x⟩
  ·exact a.prot' k x
  ·exact .inr (.inl (kb a.size x))
  ·exact .inr (a.own h0 k x)
 imp:=fun i=>by
  rcases b.imp i with x|x
  ·rcases a.imp i with y|y
   ·exact .inl (x.trans y)
   ·exact .inr (by rw[x];exact y)
  ·exact .inr x
theorem rv_ofCell(g:G)(cu:H->Int)(w:World)(v:Value):RV g cu w v (oI v):=by
 unfold oI;split
 ·exact .sv (.bool _)
 ·exact .sv (.int _ _)
 ·exact .sv (.str _)
 ·exact .nils
 ·exact .nilp
 ·exact .sv .ifN
 ·exact .undef _
theorem aq1(g:G)(cu:H->Int)(w:World)(v:Value):RV g cu w v (ofV v):=by
 unfold ofV;split
 ·rename_i cs;refine .agg (by simp) (fun j v m h1 h2=>?_)
  rw[jo,qj]at h2;rw[h1]at h2;cases h2;exact rv_ofCell g cu w v
 ·exact rv_ofCell g cu w v
theorem bF{fr:Fr}{g:G}{a:Act}{w:World}(S:Sim fr g a.tmps w)(x:Operand):RV g (cur fr.ob) w (a.eval x) (aL fr x):=by
 cases x with
 |tmp t=>
  show RV g _ w (a.tmps.getD t undef) (fr.sl.getD t .undef);by_cases h:t<fr.sl.length
  ·have h':t<a.tmps.size:=by rw[S.size];exact h
   rw[jr,ql,jj h,kq h'];exact S.slot t _ _ (kq h') (jj h)
  ·rw[jr,qo (Nat.le_of_not_lt h)];exact .undef _
 |const v=>exact aq1 g _ w v
 |global k=>
  show RV g _ w (.pointer (some ⟨k,0,none⟩)) (glb k);unfold glb;cases e:Gl.glr k with
  |none=>exact .undef _
  |some rs=>
   obtain⟨hp,x,hx,hs⟩:=S.o.gl k rs e;refine .ptrS (ad:=⟨k,0,none⟩) (c:=0) (fun _=>x) hp rfl (fun j m hj=>?_) (fun j m hj=>?_)
   ·cases j with
    |zero=>exact hx
    |succ j=>simp at hj
   ·cases j with
    |zero=>simp at hj;subst hj;exact hs
    |succ j=>simp at hj
 |func f=>
  exact .fn (by simp) (fun j v m h1 h2=>by simp at h2)
def iD{R:Type}(r:R)(k:Fr->Option R)(g:G)(w:World)(a:Act)(a':Act)(w':World):Prop:=
 a'.defers=a.defers/\∃fr' g',k fr'=some r/\Sim fr' g' a'.tmps w'/\Fm g w g' w'
theorem rZ{R:Type}{r:R}{k:Fr->Option R}{fr1:Fr}{g g':G}{w w':World}{a:Act}{dst:Option Tmp}{v:Value}{m:MV}
 (hk:k (fr1.finish dst m)=some r) (S:Sim fr1 g' a.tmps w') (h:RV g' (cur fr1.ob) w' v m) (F:Fm g w g' w'):iD r k g w a (a.put dst v) w':=by
 cases dst with
 |none=>exact⟨rfl,fr1,g',hk,S,F⟩
 |some d=>exact⟨rfl,_,g',hk,S.set d h,F⟩
end Kw
namespace Kw
open Go
variable [Gl]
section
variable {P:Program} {w:World}
theorem run_und{t:TypeId}{d:TypeDesc}(h:P.underlying t=some d):(underlying t).run P w=.ok d w:=by
 unfold underlying;simp[h]
theorem J0{t:TypeId}{i:TypeInfo}(h:P.info? t=some i):(typeInfo t).run P w=.ok i w:=by
 unfold typeInfo;simp[h]
theorem n6{t:TypeId}{i:TypeInfo}(h:P.info? t=some i):(Go.sizeOf t).run P w=.ok (tsize P t) w:=by
 unfold Go.sizeOf;simp[J0 h,tsize,h]
theorem aeZ{t:TypeId}{i:TypeInfo}{v:Value}(h:P.info? t=some i)(hz:i.zero=some v):(zeroValue t).run P w=.ok v w:=by
 unfold zeroValue;simp[J0 h,hz]
theorem DN{t:TypeId}{d:TypeDesc}(h:P.underlying t=some d):∃i,P.info? t=some i:=by
 cases hi:P.info? t with
 |some i=>exact⟨i,rfl⟩
 |none=>unfold Program.underlying at h;rw[hi]at h;simp at h
theorem AV{t:TypeId}{d:TypeDesc}(h:P.underlying t=some d):(Go.isAgg t).run P w=.ok (isAgg P t) w:=by
 unfold Go.isAgg isAgg;simp only[h];cases d<;>simp[run_und h]
theorem OP(b off n:Nat):(⟨b,off,none⟩:Addr).add n=⟨b,off+n,none⟩:=by
 unfold Addr.add;split<;>simp_all
theorem OQ{b off:Nat}{v:Value}(h:w.cell? ⟨b,off,none⟩=some v):(load ⟨b,off,none⟩).run P w=.ok v w:=by
 rw[run_load];simp[h]
theorem B9{b off:Nat}(f:Nat->Value):∀(n i:Nat) (acc:Array Value),(∀j,j<n->w.cell? ⟨b,off+(i+j),none⟩=some (f (i+j)))->
 (loadCellsFrom ⟨b,off,none⟩ i n acc).run P w=.ok (acc++((List.range n).map fun j=>f (i+j)).toArray) w
 |0,i,acc,_=>by simp[loadCellsFrom]
 |n+1,i,acc,h=>by
  unfold loadCellsFrom;simp only[Sem.run_bind,OP];rw[OQ (by simpa using h 0 (by omega))]
  simp only[Result.andThen_ok];rw[B9 f n (i+1) _ (fun j hj=>by have:=h (j+1) (by omega);rw[show i+1+j=i+(j+1) by omega];exact this)]
  congr 1
  rw[List.range_succ_eq_map];apply Array.toList_inj.1;simp[Function.comp_def,Jj,Nat.add_comm 1]
theorem OS{b off n:Nat}(f:Nat->Value)(h:∀j,j<n->w.cell? ⟨b,off+j,none⟩=some (f j)):
 (loadCells ⟨b,off,none⟩ n).run P w=.ok ((List.range n).map f).toArray w:=by
 unfold loadCells;rw[B9 f n 0 #[] (fun j hj=>by simpa using h j hj)]
 simp
theorem Y6{t:TypeId}{d:TypeDesc}{b off:Nat}(hu:P.underlying t=some d)(f:Nat->Value)(h:∀j,j<tsize P t->w.cell? ⟨b,off+j,none⟩=some (f j))(h1:isAgg P t=false->0<tsize P t):
 (loadVar t ⟨b,off,none⟩).run P w=.ok (if isAgg P t then .agg ((List.range (tsize P t)).map f).toArray else f 0) w:=by
 obtain⟨i,hi⟩:=DN hu;unfold loadVar;simp only[Sem.run_bind,AV hu,Result.andThen_ok];cases ha:isAgg P t with
 |true=>simp[n6 hi,OS f h]
 |false=>simp only[qd,qr];exact OQ (by simpa using h 0 (h1 ha))
end
end Kw
namespace Kw
open Go
variable [Gl]
section inv
variable {g:G} {cu:H->Int} {w:World} {v:Value}
theorem jR{k:IntKind}{n:Int}(h:RV g cu w v (.int k n)):v=.int k n:=by cases h with|sv h=>cases h;rfl
theorem mK{b:Bool}(h:RV g cu w v (.bool b)):v=.bool b:=by cases h with|sv h=>cases h;rfl
theorem oJ{s:ByteArray}(h:RV g cu w v (.str s)):v=.string s:=by cases h with|sv h=>cases h;rfl
theorem rv_sl{rows:List Row}(h:RV g cu w v (.sl rows)):SV w g.prot v (.sl rows):=by cases h with|sv h=>exact h
theorem yF{cs:List MV}(h:RV g cu w v (.agg cs)):∃vs:Array Value,v=.agg vs/\vs.size=cs.length/\∀(j:Nat) (v:Value) (m:MV),vs[j]?=some v->cs[j]?=some m->RV g cu w v m:=by
 cases h with
 |sv h=>cases h
 |agg hl hr=>exact⟨_,rfl,hl,hr⟩
theorem WC{cs:List MV}(h:RV g cu w v (.tup cs)):∃vs:Array Value,v=.tuple vs/\vs.size=cs.length/\∀(j:Nat) (v:Value) (m:MV),vs[j]?=some v->cs[j]?=some m->RV g cu w v m:=by
 cases h with
 |sv h=>cases h
 |tup hl hr=>exact⟨_,rfl,hl,hr⟩
theorem af0{f:FuncId}{caps:List MV}(h:RV g cu w v (.fn f caps)):∃vs:Array Value,v=.func (.func f) #[] vs/\vs.size=caps.length/\∀(j:Nat) (v:Value) (m:MV),vs[j]?=some v->caps[j]?=some m->RV g cu w v m:=by
 cases h with
 |sv h=>cases h
 |fn hl hr=>exact⟨_,rfl,hl,hr⟩
end inv
theorem aF{α R:Type}{o:Option α}{f:α->Option R}{r:R}(h:bnd o f=some r):∃x,o=some x/\f x=some r:=by
 unfold bnd at h;cases o with
 |none=>simp at h
 |some x=>exact⟨x,rfl,by simpa using h⟩
theorem br_some{R:Type}{b:Bool}{x y:Option R}{r:R}(h:br b x y=some r):(b=true/\x=some r)\/(b=false/\y=some r):=by
 unfold br at h;cases b
 ·exact .inr ⟨rfl,h⟩
 ·exact .inl ⟨rfl,h⟩
theorem jE{m:MV}{b:Bool}(h:nY m=some b):m=.bool b:=by unfold nY at h;split at h<;>simp_all
theorem AW{m:MV}{b:ByteArray}(h:eF m=some b):m=.str b:=by unfold eF at h;split at h<;>simp_all
theorem o9{m:MV}{k:IntKind}{b:Int}(h:eI k m=some b):m=.int k b:=by
 unfold eI at h;split at h
 ·split at h<;>simp_all
 ·simp at h
theorem J1{m:MV}{b:Bool}(h:gIf m=some b):m=.iface b:=by unfold gIf at h;split at h<;>simp_all
theorem DP{m:MV}{b:List Row}(h:gSl m=some b):m=.sl b:=by unfold gSl at h;split at h<;>simp_all
theorem GB{m:MV}{b:List Row}(h:MW m=some b):m=.own b:=by unfold MW at h;split at h<;>simp_all
section
variable {P:Program} {R:Type} {r:R} {k:Fr->Option R} {fr:Fr} {g:G} {a:Act} {w:World} {o:Oper} {Q:Exit->Act->World->Prop}
theorem aS{v:Value}{m:MV}{g':G}{w':World}{fr1:Fr}(hr:(execOp a.eval o).run P w=.ok (.value v) w')
 (hk:k (fr1.finish o.dst m)=some r) (S:Sim fr1 g' a.tmps w') (h:RV g' (cur fr1.ob) w' v m) (F:Fm g w g' w'):
 o.upon P a (iD r k g w a) Q ((execOp a.eval o).run P w):=by
 rw[hr];exact rZ hk S h F
theorem QI{m:MV}{g':G}{w':World}{fr1:Fr}(hr:(execOp a.eval o).run P w=.ok .skip w')
 (hk:k (fr1.finish o.dst .undef)=some r) (S:Sim fr1 g' a.tmps w') (F:Fm g w g' w'):
 o.upon P a (iD r k g w a) Q ((execOp a.eval o).run P w):=by
 rw[hr];exact rZ (m:=.undef) hk S (.undef _) F
theorem s_move{x:Operand}(ho:o.op=.move x\/o.op=.assign x)(h:k (fr.finish o.dst (aL fr x))=some r)(S:Sim fr g a.tmps w):
 o.upon P a (iD r k g w a) Q ((execOp a.eval o).run P w):=by
 refine aS (v:=a.eval x) ?_ h S (bF S x) (Fm.refl _ _);unfold execOp;rcases ho with ho|ho<;>rw[ho]<;>simp
theorem s_pick{c x y:Operand}(ho:o.op=.pick c x y)(h:(bnd (nY (aL fr c)) fun c=>br c (k (fr.finish o.dst (aL fr x))) (k (fr.finish o.dst (aL fr y))))=some r)(S:Sim fr g a.tmps w):
 o.upon P a (iD r k g w a) Q ((execOp a.eval o).run P w):=by
 obtain⟨b,hb,h⟩:=aF h;have hc:=bF S c;rw[jE hb]at hc;have hc:=mK hc;have hr:(execOp a.eval o).run P w=.ok (.value (if b then a.eval x else a.eval y)) w:=by
  unfold execOp;rw[ho];generalize a.eval=ρ at*;simp[hc,asBool]
 rcases br_some h with⟨e,h⟩|⟨e,h⟩<;>subst e
 ·exact aS hr h S (bF S x) (Fm.refl _ _)
 ·exact aS hr h S (bF S y) (Fm.refl _ _)
theorem WD{op:BinOp}{t yt:TypeId}{x y:Operand}{ρ:Operand->Value}{kd:IntKind}{n m:Int}{v:Value}(ho:o.op=.binOp op t x y yt)
 (hx:ρ x=.int kd n) (hy:ρ y=.int kd m) (hb:(binOp op t (.int kd n) (.int kd m)).run P w=.ok v w):
 (execOp ρ o).run P w=.ok (.value v) w:=by
 unfold execOp;rw[ho];simp only[hx,hy];simp[eqGuard,hb]
theorem QJ{t:TypeId}(hu:P.underlying t=some .bool)(n:Nat)(b b':Bool):(Op.equalIn (n+1) t (.bool b) (.bool b')).run P w=.ok (b==b') w:=by
 unfold Op.equalIn;simp[run_und hu]
theorem J2{t:TypeId}(hu:P.underlying t=some .bool)(b b':Bool):(Op.equal t (.bool b) (.bool b')).run P w=.ok (b==b') w:=QJ hu 9999 b b'
theorem ab2(t:TypeId)(b b':Bool):binOp .eql t (.bool b) (.bool b')=(do pure (.bool (<-Op.equal t (.bool b) (.bool b')))):=rfl
theorem ab3(t:TypeId)(b b':Bool):binOp .neq t (.bool b) (.bool b')=(do pure (.bool (!(<-Op.equal t (.bool b) (.bool b'))))):=rfl
theorem awY{op:BinOp}{t yt:TypeId}{x y:Operand}(ho:o.op=.binOp op t x y yt)(h:wZ (QC P t) op (aL fr x) (aL fr y) (fun m=>k (fr.finish o.dst m))=some r)(S:Sim fr g a.tmps w):
 o.upon P a (iD r k g w a) Q ((execOp a.eval o).run P w):=by
 have hx:=bF S x;have hy:=bF S y;unfold wZ at h;split at h
 ·rename_i kd n kd' m ex ey;rw[ex]at hx;rw[ey]at hy;have hx:=jR hx;have hy:=jR hy;split at h
  ·rename_i e;subst e;have key:∀(v:Value) (mv:MV),SV w g.prot v mv->k (fr.finish o.dst mv)=some r->(binOp op t (.int kd n) (.int kd m)).run P w=.ok v w->
    o.upon P a (iD r k g w a) Q ((execOp a.eval o).run P w):=
    fun v mv hs hk hb=>aS (WD ho hx hy hb) hk S (.sv hs) (Fm.refl _ _)
   split at h
   ·exact key _ _ (.int _ _) h (by simp[binOp,Op.intArith,bR])
   ·exact key _ _ (.int _ _) h (by simp[binOp,Op.intArith,iS])
   ·exact key _ _ (.int _ _) h (by simp[binOp,Op.intArith,nW])
   ·rcases br_some h with⟨_,h⟩|⟨e,h⟩
    ·simp at h
    ·exact key _ _ (.int _ _) h (by simp[iEq]at e;simp[binOp,Op.intDiv,F6,e])
   ·rcases br_some h with⟨_,h⟩|⟨e,h⟩
    ·simp at h
    ·exact key _ _ (.int _ _) h (by simp[iEq]at e;simp[binOp,Op.intDiv,rN,e])
   ·exact key _ _ (.int _ _) h (by simp[binOp,Op.intBits,SR])
   ·exact key _ _ (.bool _) h (by simp[binOp,Op.intCmp,iEq])
   ·exact key _ _ (.bool _) h (by simp[binOp,Op.intCmp,iEq,bNot];rfl)
   ·exact key _ _ (.bool _) h (by simp[binOp,Op.intCmp,iLt])
   ·exact key _ _ (.bool _) h (by simp[binOp,Op.intCmp,iLe])
   ·exact key _ _ (.bool _) h (by simp[binOp,Op.intCmp,iLt])
   ·exact key _ _ (.bool _) h (by simp[binOp,Op.intCmp,iLe])
   ·simp at h
  ·simp at h
 ·rename_i s s' ex ey;rw[ex]at hx;rw[ey]at hy;have hx:=oJ hx;have hy:=oJ hy;have key:∀(v:Value) (mv:MV),SV w g.prot v mv->k (fr.finish o.dst mv)=some r->(Op.stringOp op s s').run P w=.ok v w->
   o.upon P a (iD r k g w a) Q ((execOp a.eval o).run P w):=fun v mv hs hk hb=>by
   refine aS (v:=v) ?_ hk S (.sv hs) (Fm.refl _ _);unfold execOp;rw[ho];generalize a.eval=ρ at*;simp only[hx,hy];simp[eqGuard,binOp,hb]
  split at h
  ·rcases br_some h with⟨e,h⟩|⟨_,h⟩
   ·refine key _ _ (.str _) h ?_;simp[eL,sLen]at e;have:¬((s.size+s'.size:Nat):Int)>IntKind.i64.max:=by
     have:IntKind.i64.max=9223372036854775807:=rfl;omega
    simp only[Op.stringOp];rw[jc this]
    rfl
   ·simp at h
  ·exact key _ _ (.bool _) h (by simp[Op.stringOp,sEq])
  ·exact key _ _ (.bool _) h (by simp[Op.stringOp,sEq,bNot])
  ·simp at h
 ·rename_i b b' ex ey;rw[ex]at hx;rw[ey]at hy;have hx:=mK hx;have hy:=mK hy;split at h
  ·rename_i hub;have hu:P.underlying t=some .bool:=by unfold QC at hub;split at hub<;>simp_all
   have key:∀(v:Value) (mv:MV),SV w g.prot v mv->k (fr.finish o.dst mv)=some r->(binOp op t (.bool b) (.bool b')).run P w=.ok v w->
    o.upon P a (iD r k g w a) Q ((execOp a.eval o).run P w):=fun v mv hs hk hb=>by
    refine aS (v:=v) ?_ hk S (.sv hs) (Fm.refl _ _);unfold execOp;rw[ho];generalize a.eval=ρ at*;simp only[hx,hy];simp[eqGuard,hb]
   split at h
   ·exact key _ _ (.bool _) h (by rw[ab2];simp[J2 hu,bEq])
   ·exact key _ _ (.bool _) h (by rw[ab3];simp[J2 hu,bEq,bNot])
   ·simp at h
  ·simp at h
 ·simp at h
theorem WF{t:TypeId}{ms:Array (String×TypeId)}(hu:P.underlying t=some (.interface ms))(n:Nat)(v:Value)(b:Bool)(hv:(v=.nilIface/\b=true)\/∃t' v',v=.iface t' v'/\b=false):(Op.equalIn (n+1) t v .nilIface).run P w=.ok b w:=by
 rcases hv with⟨e,e'⟩|⟨t',v',e,e'⟩<;>subst e<;>subst e'<;>simp[Op.equalIn,run_und hu]
theorem aq2{op:BinOp}{t yt:TypeId}{x y:Operand}{q:Bool}(h:(match op with| .eql=>k (fr.finish o.dst (.bool q))| .neq=>k (fr.finish o.dst (.bool (bNot q)))|_=>none)=some r)(ho:o.op=.binOp op t x y yt)(hx:aL fr x=.iface q)(hy:V8 y=true)(hi:aeT P t=true)(S:Sim fr g a.tmps w):
 o.upon P a (iD r k g w a) Q ((execOp a.eval o).run P w):=by
 have hr:=bF S x;rw[hx]at hr;have hv:(a.eval x=.nilIface/\q=true)\/∃t' v',a.eval x=.iface t' v'/\q=false:=by
  generalize a.eval x=vx at hr⊢;cases hr with
  |sv h=>cases h with
   |ifN=>exact .inl ⟨rfl,rfl⟩
   |ifS t' v'=>exact .inr ⟨t',v',rfl,rfl⟩
 have hyc:y=.const .nilIface:=by
  unfold V8 at hy;split at hy
  ·rfl
  ·cases hy
 subst hyc;obtain⟨ms,hu⟩:∃ms,P.underlying t=some (.interface ms):=by
  unfold aeT at hi;split at hi
  ·rename_i ms e;exact⟨ms,e⟩
  ·cases hi
 have he:=WF (w:=w) hu 9999 (a.eval x) q hv;have hev:a.eval (.const .nilIface)=.nilIface:=rfl;have hg:(eqGuard op t x (.const .nilIface) (a.eval x) .nilIface).run P w=.ok () w:=by
  rcases hv with⟨e,_⟩|⟨t',v',e,_⟩<;>rw[e]<;>cases op<;>simp[eqGuard]
 by_cases e1:op=.eql
 ·subst e1;simp only at h;refine aS (v:=.bool q) ?_ h S (.sv (.bool _)) (Fm.refl _ _);unfold execOp;rw[ho];simp only[hev];have hb:(binOp .eql t (a.eval x) .nilIface).run P w=.ok (.bool q) w:=by
   rcases hv with⟨e,_⟩|⟨t',v',e,_⟩<;>(rw[e]at he⊢;simp only[binOp];simp[Op.equal,Op.maxDepth,he])
  simp[hg,hb]
 by_cases e2:op=.neq
 ·subst e2;simp only at h;refine aS (v:=.bool (!q)) ?_ h S (.sv (.bool _)) (Fm.refl _ _);unfold execOp;rw[ho];simp only[hev];have hb:(binOp .neq t (a.eval x) .nilIface).run P w=.ok (.bool (!q)) w:=by
   rcases hv with⟨e,_⟩|⟨t',v',e,_⟩<;>(rw[e]at he⊢;simp only[binOp];simp[Op.equal,Op.maxDepth,he])
  simp[hg,hb]
 ·exfalso;cases op<;>simp_all
theorem s_un{op:UnOp}{t:TypeId}{x:Operand}(h:(match op,aL fr x with
 | .not,.bool b=>k (fr.finish o.dst (.bool (bNot b)))
 | .neg,.int kd n=>k (fr.finish o.dst (.int kd (iS kd 0 n)))
 |_,_=>none)=some r) (ho:o.op=.unOp op t x) (S:Sim fr g a.tmps w):o.upon P a (iD r k g w a) Q ((execOp a.eval o).run P w):=by
 have hx:=bF S x;split at h
 ·rename_i b ex;rw[ex]at hx;have hx:=mK hx;refine aS (v:=.bool (!b)) ?_ h S (.sv (.bool _)) (Fm.refl _ _);unfold execOp;rw[ho];generalize a.eval=ρ at*;simp[hx,Op.unary]
 ·rename_i kd n ex;rw[ex]at hx;have hx:=jR hx;refine aS (v:=.int kd (kd.wrap (0-n))) ?_ h S (.sv (.int _ _)) (Fm.refl _ _);unfold execOp;rw[ho];generalize a.eval=ρ at*;simp[hx,Op.unary,Op.intArith]
 ·simp at h
theorem s_index{t:TypeId}{x i:Operand}(ho:o.op=.index t x i)(h:(match aL fr x,aL fr i with
 | .str s,.int _ n=>bnd (sAt s n) fun b=>k (fr.finish o.dst (.int .u8 b))
 |_,_=>none)=some r) (hu:P.underlying t=some .string) (S:Sim fr g a.tmps w):o.upon P a (iD r k g w a) Q ((execOp a.eval o).run P w):=by
 have hx:=bF S x;have hi:=bF S i;split at h
 ·rename_i s kd n ex ei;rw[ex]at hx;rw[ei]at hi;have hx:=oJ hx;have hi:=jR hi;obtain⟨b,hb,h⟩:=aF h;refine aS (v:=.int .u8 b) ?_ h S (.sv (.int _ _)) (Fm.refl _ _);unfold sAt at hb;split at hb
  ·rename_i h0;obtain⟨c,hc,e⟩:=kw.1 hb;have hc':s[n.toNat]?=some c:=by
    rw[qj]at hc;rw[<-hc];rfl
   unfold execOp;rw[ho];generalize a.eval=ρ at*;simp[hx,hi,Instr.index,asIntOf,run_und hu,h0,hc',<-e]
  ·simp at hb
 ·simp at h
theorem s_extract{x:Operand}{j:Nat}(ho:o.op=.extract x j)(h:(match aL fr x with| .tup vs=>if j<vs.length then k (fr.finish o.dst (vs.getD j .undef))else none|_=>none)=some r)(S:Sim fr g a.tmps w):
 o.upon P a (iD r k g w a) Q ((execOp a.eval o).run P w):=by
 have hx:=bF S x;split at h
 ·rename_i vs ex;split at h
  ·rename_i hj;rw[ex]at hx;obtain⟨us,e,hl,hr⟩:=WC hx;have h1:us[j]?=some (us[j]'(by omega)):=kq (by omega)
   have h2:vs[j]?=some (vs[j]'hj):=jj hj;refine aS (v:=us[j]'(by omega)) (m:=vs.getD j .undef) ?_ h S ?_ (Fm.refl _ _)
   ·unfold execOp;rw[ho];generalize a.eval=ρ at*;simp[e,Instr.extract,h1]
   ·rw[jr,h2];exact hr j _ _ h1 h2
  ·simp at h
 ·simp at h
theorem s_makeFunc{f:FuncId}{first caps:Array Operand}(ho:o.op=.makeFunc (.func f) first caps)(hf:first.size=0)(h:k (fr.finish o.dst (.fn f (caps.toList.map (aL fr))))=some r)(S:Sim fr g a.tmps w):
 o.upon P a (iD r k g w a) Q ((execOp a.eval o).run P w):=by
 refine aS (v:=.func (.func f) #[] (caps.map a.eval)) ?_ h S (.fn (by simp) (fun j v m h1 h2=>?_)) (Fm.refl _ _)
 ·have:first= #[]:=Array.eq_empty_of_size_eq_zero hf;unfold execOp;rw[ho];simp[Instr.makeFunc,this]
 ·rw[Array.getElem?_map]at h1;rw[jo,qj]at h2;cases hc:caps[j]? with
  |none=>rw[hc]at h1;simp at h1
  |some c=>
   rw[hc]at h1 h2;simp only[yi,Option.some.injEq]at h1 h2;rw[<-h1,<-h2];exact bF S c
end
end Kw
namespace Kw
open Go
variable [Gl]
theorem J3{R:Type}{r:R}:∀(shs:List Sh) (row:Row) (c:Nat) (k:List MV->Option R),opn false shs row c k=some r->
 ∃ms,k ms=some r/\ms.length=shs.length/\∀(j:Nat) (m:MV),ms[j]?=some m->row[c+j]?=some m
 |[],row,c,k,h=>⟨[],h,rfl,fun j m hj=>by simp at hj⟩
 |sh::shs,row,c,k,h=>by
  unfold opn at h;have key:∀m,m≠ .undef->aC row c=m->(opn false shs row (c+1) fun ms=>k (m::ms))=some r->
   ∃ms,k ms=some r/\ms.length=(sh::shs).length/\∀(j:Nat) (m:MV),ms[j]?=some m->row[c+j]?=some m:=by
   intro m hm hc h';obtain⟨ms,hk,hl,hms⟩:=J3 shs row (c+1) _ h';refine⟨m::ms,hk,by simp[hl],fun j m' hj=>?_⟩
   cases j with
   |zero=>
    simp at hj;subst hj;unfold aC at hc;rw[jr]at hc;cases hx:row[c]? with
    |none=>rw[hx]at hc;exact absurd hc.symm hm
    |some y=>rw[hx]at hc;simp at hc;simp[hx,hc]
   |succ j=>
    rw[show c+(j+1)=c+1+j by omega]
    exact hms j m' (by simpa using hj)
  unfold SS at h;split at h
  ·obtain⟨b,hb,h⟩:=aF h;exact key _ (by simp) (jE hb) h
  ·obtain⟨b,hb,h⟩:=aF h;exact key _ (by simp) (o9 hb) h
  ·obtain⟨b,hb,h⟩:=aF h;exact key _ (by simp) (AW hb) h
  ·simp only[qd,qr]at h;obtain⟨b,hb,h⟩:=aF h;exact key _ (by simp) (DP hb) h
  ·obtain⟨b,hb,h⟩:=aF h;exact key _ (by simp) (J1 hb) h
  ·simp at h
section
variable {g:G} {cu:H->Int} {w:World} {v:Value}
theorem GC{h:H}{off b:Nat}(k:RV g cu w v (.ptr h off))(e:g.rho h=.box b):v=.pointer (some ⟨b,off,none⟩):=by
 cases k with
 |sv h=>cases h
 |ptr e'=>rw[e]at e';cases e';rfl
 |deadP e'=>rw[e]at e';cases e'
theorem QK{h:H}{b:Nat}(k:RV g cu w v (.mapr h))(e:g.rho h=.box b):v=.map (some b):=by
 cases k with
 |sv h=>cases h
 |mapr e'=>rw[e]at e';cases e';rfl
 |deadM e'=>rw[e]at e';cases e'
theorem QL{row:Row}{c:Nat}(k:RV g cu w v (.ptrS row c)):∃(ad:Addr) (vf:Nat->Value),v=.pointer (some ⟨ad.block,ad.off+c,none⟩)/\g.prot ad.block/\
 (∀(j:Nat) (m:MV),row[j]?=some m->w.cell? ⟨ad.block,ad.off+j,none⟩=some (vf j))/\(∀(j:Nat) (m:MV),row[j]?=some m->SV w g.prot (vf j) m):=by
 cases k with
 |sv h=>cases h
 |ptrS vf hp hs hc hsv=>exact⟨_,vf,rfl,hp,hc,hsv⟩
theorem yG{h:H}{n:Int}{b c s:Nat}(k:RV g cu w v (.ref h n))(e:g.rho h=.mem b c s)(hn:n=cu h):v=.slice (some ⟨b,0,none⟩) n.toNat c:=by
 cases k with
 |sv h=>cases h
 |ref e' _ hv _=>rw[e]at e';cases e';exact hv hn
 |refN e'=>rw[e]at e';cases e'
 |deadR e'=>rw[e]at e';cases e'
theorem tN{h:H}{n:Int}(k:RV g cu w v (.ref h n))(e:g.rho h=.nil)(hn:n=cu h):∃a,v=.slice a 0 0:=by
 cases k with
 |sv h=>cases h
 |ref e'=>rw[e]at e';cases e'
 |refN e' _ hv _=>exact hv hn
 |deadR e'=>rw[e]at e';cases e'
theorem IV{h:H}{n i:Int}{c b cap s:Nat}(k:RV g cu w v (.ptrE h n i c))(e:g.rho h=.mem b cap s)(hn:n=cu h):v=.pointer (some ⟨b,i.toNat*s+c,none⟩):=by
 cases k with
 |sv h=>cases h
 |ptrE e' _ hv _=>rw[e]at e';cases e';exact hv hn
 |ptrEN e'=>rw[e]at e';cases e'
 |deadE e'=>rw[e]at e';cases e'
end
section
variable {P:Program} {R:Type} {r:R} {k:Fr->Option R} {fr:Fr} {g:G} {a:Act} {w:World} {o:Oper} {Q:Exit->Act->World->Prop}
theorem oW{t:TypeId}(h:okT P t=true):(∃d,P.underlying t=some d)/\(isAgg P t=false->tsize P t=1)/\(nB P t).length=tsize P t:=by
 unfold okT at h;simp only[jg,ya,beq_iff_eq]at h;obtain⟨h1,_,h2,h3⟩:=h;refine⟨?_,fun e=>by simpa [e]using h2,h3⟩
 split at h1
 ·rename_i d e;exact⟨d,e⟩
 ·simp at h1
theorem DQ{t:TypeId}{cu:H->Int}(hk:okT P t=true){ms:List MV}(hl:ms.length=tsize P t)(f:Nat->Value)(h:∀(j:Nat) (m:MV),ms[j]?=some m->RV g cu w (f j) m):
 RV g cu w (if isAgg P t then .agg ((List.range (tsize P t)).map f).toArray else f 0) (MX P t ms):=by
 obtain⟨_,h1,_⟩:=oW hk;unfold MX;cases e:isAgg P t with
 |true=>
  simp only[ju];refine .agg (by simp[hl]) (fun j v m hv hm=>?_)
  have hj:j<ms.length:=(jm.1 hm).1;simp[yn (show j<tsize P t by omega)]at hv
  rw[<-hv];exact h j m hm
 |false=>
  have h1:=h1 e;simp only[qd,qr]
  match ms,hl,h with
  |m::_,_,h=>exact h 0 m rfl
  |[],hl,_=>simp at hl;omega
theorem OT{t:TypeId}(hk:okT P t=true){ms:List MV}(h:ms.length=(jP P t).length):ms.length=tsize P t:=by
 rw[h];unfold jP;rw[kf];exact(oW hk).2.2
theorem CO{t:TypeId}{x:Operand}{b off:Nat}(ho:o.op=.load t x)(hk:okT P t=true)(hx:a.eval x=.pointer (some ⟨b,off,none⟩))(f:Nat->Value)
 (h:∀j,j<tsize P t->w.cell? ⟨b,off+j,none⟩=some (f j)):
 (execOp a.eval o).run P w=.ok (.value (if isAgg P t then .agg ((List.range (tsize P t)).map f).toArray else f 0)) w:=by
 obtain⟨⟨d,hu⟩,h1,_⟩:=oW hk;have hv:=Y6 hu f h (fun e=>by rw[h1 e];exact Nat.one_pos)
 unfold execOp;rw[ho];generalize a.eval=ρ at*;simp only[hx,Instr.loadAt,Instr.sureAddr];simp[hv]
theorem lM{b off:Nat}{arr:Array Value}{ty:TypeId}{fz:Nat×Nat}(h:w.heap[b]?=some (.cells arr ty fz)):w.cell? ⟨b,off,none⟩=arr[off]?:=by
 unfold World.cell?;rw[h];simp
theorem obj_of{h:H}{ob:Obj}(S:SimO fr.ob g w)(e:fr.obj h=ob)(hn:ob≠ .none):IC g (cur fr.ob) w h ob:=by
 have hm:look fr.ob h≠ .none:=by unfold Fr.obj at e;rw[e];exact hn
 have:=S.obj h _ (lS (rY hm));unfold Fr.obj at e;rw[e]at this;exact this
theorem s_load{E:Env}(hP:E.P=P){t:TypeId}{x:Operand}(ho:o.op=.load t x)(h:F9 E t (aL fr x) fr (fun m=>k (fr.finish o.dst m))=some r)(S:Sim fr g a.tmps w):
 o.upon P a (iD r k g w a) Q ((execOp a.eval o).run P w):=by
 subst hP;have hx:=bF S x;unfold F9 at h;split at h
 case isFalse=>simp at h
 rename_i hk;split at h
 ·rename_i hd off ex;rw[ex]at hx;split at h
  ·rename_i cs ec;split at h
   ·rename_i hle;obtain⟨b,arr,ty,e,hh,hn,hs,hv⟩:=obj_of S.o ec (by simp)
    have ep:=GC hx e;have hcell:∀j,j<tsize E.P t->w.cell? ⟨b,off+j,none⟩=some (arr.getD (off+j) undef):=by
     intro j hj;rw[lM hh,ql,kq (by omega)];simp
    refine aS (CO ho hk ep _ hcell) h S (DQ hk (by simp;omega) _ (fun j m hj=>?_)) (Fm.refl _ _)
    have hj':j<tsize E.P t:=by
     have:=(jm.1 hj).1;simp at this;omega
    rw[qp hj',wy]at hj;exact hv (off+j) _ m (by rw[ql,kq (by omega)];simp) hj
   ·simp at h
  ·simp at h
 ·rename_i row c ex;rw[ex]at hx;obtain⟨ms,h,hl,hms⟩:=J3 _ _ _ _ h;obtain⟨ad,vf,ep,hp,hc,hsv⟩:=QL hx;have hl':=OT hk hl;have hcell:∀j,j<tsize E.P t->w.cell? ⟨ad.block,ad.off+c+j,none⟩=some (vf (c+j)):=by
   intro j hj;have:ms[j]?=some (ms[j]'(by omega)):=jj (by omega)
   rw[Jj];exact hc (c+j) _ (hms j _ this)
  exact aS (CO ho hk ep (fun j=>vf (c+j)) hcell) h S (DQ hk hl' _ (fun j m hj=>.sv (hsv _ _ (hms j m hj)))) (Fm.refl _ _)
 ·rename_i hd n i c ex;rw[ex]at hx;have key:∀rows:List Row,cur fr.ob hd=nrows rows->(g.rho hd=.nil/\rows=[]\/∃b cap sz arr ty,g.rho hd=.mem b cap sz/\w.heap[b]?=some (.cells arr ty (0,0))/\JY (isK hd) arr cap sz rows/\rows.length<=cap/\iC w g.prot arr sz rows)->
   (br (iEq n (nrows rows)) (bnd (iP rows i) fun row=>opn false (jP E.P t) row c fun ms=>k (fr.finish o.dst (MX E.P t ms))) none)=some r->
   o.upon E.P a (iD r k g w a) Q ((execOp a.eval o).run E.P w):=by
   intro rows hcur hob h;rcases br_some h with⟨en,h⟩|⟨_,h⟩
   case inr=>simp at h
   have hn:n=cur fr.ob hd:=by rw[hcur];simpa [iEq]using en
   obtain⟨row,hrow,h⟩:=aF h;unfold iP at hrow;split at hrow
   case isFalse=>simp at hrow
   rename_i hi0;obtain⟨ms,h,hl,hms⟩:=J3 _ _ _ _ h;have hl':=OT hk hl;rcases hob with⟨_,e⟩|⟨b,cap,sz,arr,ty,e,hh,hs,hle,hrr⟩
   ·subst e;simp at hrow
   ·have ep:=IV hx e hn;obtain⟨hlen,hcells⟩:=hrr i.toNat row hrow;have hc:∀j,j<tsize E.P t->∃v,arr[i.toNat*sz+(c+j)]?=some v/\∀m,ms[j]?=some m->SV w g.prot v m:=by
     intro j hj;have hm:ms[j]?=some (ms[j]'(by omega)):=jj (by omega)
     obtain⟨v,hv,hsv⟩:=hcells (c+j) _ (hms j _ hm);exact⟨v,hv,fun m h'=>by rw[hm]at h';cases h';exact hsv⟩
    have hcell:∀j,j<tsize E.P t->w.cell? ⟨b,i.toNat*sz+c+j,none⟩=some (arr.getD (i.toNat*sz+(c+j)) undef):=by
     intro j hj;obtain⟨v,hv,_⟩:=hc j hj;rw[lM hh,Jj,ql,hv];rfl
    refine aS (CO ho hk ep (fun j=>arr.getD (i.toNat*sz+(c+j)) undef) hcell) h S (DQ hk hl' _ (fun j m hj=>?_)) (Fm.refl _ _)
    have hj':j<tsize E.P t:=by
     have:=(jm.1 hj).1;omega
    obtain⟨v,hv,hsv⟩:=hc j hj';rw[ql,hv];exact .sv (hsv m hj)
  split at h
  ·rename_i rows er;refine key rows (by unfold cur;unfold Fr.obj at er;rw[er]) ?_ h
   rcases obj_of S.o er (by simp)with x|⟨b,cap,sz,arr,ty,e,hh,_,hs,hle,hrr⟩
   ·exact .inl x
   ·exact .inr ⟨b,cap,sz,arr,ty,e,hh,hs,hle,hrr⟩
  ·rename_i rows er;refine key rows (by unfold cur;unfold Fr.obj at er;rw[er]) ?_ h
   rcases obj_of S.o er (by simp)with x|⟨b,cap,sz,arr,ty,e,hh,_,hs,hle,hrr⟩
   ·exact .inl x
   ·exact .inr ⟨b,cap,sz,arr,ty,e,hh,hs,hle,hrr⟩
  ·simp at h
 ·simp at h
end
end Kw
