import Derived.Test.YthjlffhckgaboaaGreatDoorS14
import Derived.Test.YthjlffhckgaboaaGreatDoorS11
set_option linter.unusedVariables false
set_option linter.unusedSimpArgs false
set_option linter.unusedSectionVars false
namespace Kw.Sp
open Go Go.Proofs
def Ge(l:S)(w:World)(n:Int)(x:Option (MV×List Obj)):Prop:=∃(e:Event) (n':Int),e.text.length<=10/\(n<=n'/\n'<=n+20)/\
 x=some (.agg [.int .i64 e.kind,.int .i64 e.who,.int .i64 e.add,.int .i64 e.remove,.int .i64 e.pos,.str (bs e.text)],[.cells [.sl (l.map rU),.int .i64 n'],.rows (w.seats.map rM),.rows (w.waits.map rWt),.rows (w.log.map rC),.rows (w.fresh.map rI),.rows (w.spy.map rS),.rows (w.stolen.map rSt),.rows (w.frames.map rF),.rows (w.said.map rI),.rows (w.wins.map rWs),.rows (w.told.map rT)])
theorem TI{l:S}{w:World}{n:Int}{c:Bool}{a b:Option (MV×List Obj)}(ha:Ge l w n a)(hb:Ge l w n b):Ge l w n (br c a b):=by cases c;exact hb;exact ha
theorem TJ{l:S}{w:World}{n n':Int}(a b c d e:Int)(t:S)(h:n<=n'/\n'<=n+20)(ht:t.length<=10):
 Ge l w n (some (.agg [.int .i64 a,.int .i64 b,.int .i64 c,.int .i64 d,.int .i64 e,.str (bs t)],[.cells [.sl (l.map rU),.int .i64 n'],.rows (w.seats.map rM),.rows (w.waits.map rWt),.rows (w.log.map rC),.rows (w.fresh.map rI),.rows (w.spy.map rS),.rows (w.stolen.map rSt),.rows (w.frames.map rF),.rows (w.said.map rI),.rows (w.wins.map rWs),.rows (w.told.map rT)])):=⟨⟨a,b,c,d,e,t⟩,n',ht,h,rfl⟩
theorem alL(a b c:MV)(l:S)(n:Int):aL 1 [[a],[b],[c]] (pick l n 3)=some [if pick l n 3=0 then a else if pick l n 3=1 then b else c]:=by
 have:= @lH l n 3 (by omega)
 generalize pick l n 3=k at*;have h:k=0\/k=1\/k=2:=by omega
 rcases h with rfl|rfl|rfl<;>rfl
theorem ae3(a b c:MV)(l:S)(n:Int):aS [[a],[b],[c]] (pick l n 3)=some [if pick l n 3=0 then a else if pick l n 3=1 then b else c]:=by
 have:= @lH l n 3 (by omega)
 generalize pick l n 3=k at*;have h:k=0\/k=1\/k=2:=by omega
 rcases h with rfl|rfl|rfl<;>rfl
theorem alM(a b c d:MV)(l:S)(n:Int):aL 1 [[a],[b],[c],[d]] (pick l n 4)=some [if pick l n 4=0 then a else if pick l n 4=1 then b else if pick l n 4=2 then c else d]:=by
 have:= @lH l n 4 (by omega)
 generalize pick l n 4=k at*;have h:k=0\/k=1\/k=2\/k=3:=by omega
 rcases h with rfl|rfl|rfl|rfl<;>rfl
theorem ae4(a b c d:MV)(l:S)(n:Int):aS [[a],[b],[c],[d]] (pick l n 4)=some [if pick l n 4=0 then a else if pick l n 4=1 then b else if pick l n 4=2 then c else d]:=by
 have:= @lH l n 4 (by omega)
 generalize pick l n 4=k at*;have h:k=0\/k=1\/k=2\/k=3:=by omega
 rcases h with rfl|rfl|rfl|rfl<;>rfl
theorem N9(p q:Prop) [Decidable p] [Decidable q](a b c:Int):fA .i64 (if p then .int .i64 a else if q then .int .i64 b else .int .i64 c)=some (if p then a else if q then b else c):=by
 split
 ·rfl
 ·split<;>rfl
theorem OA(p q:Prop) [Decidable p] [Decidable q](a b c:S):e6 (if p then .str (bs a)else if q then .str (bs b)else .str (bs c))=some (bs (if p then a else if q then b else c)):=by
 split
 ·rfl
 ·split<;>rfl
theorem OB(p q r:Prop) [Decidable p] [Decidable q] [Decidable r](a b c d:S):e6 (if p then .str (bs a)else if q then .str (bs b)else if r then .str (bs c)else .str (bs d))=some (bs (if p then a else if q then b else if r then c else d)):=by
 split
 ·rfl
 ·split
  ·rfl
  ·split<;>rfl
section
variable (L D:Nat)
theorem OD(l:S)(hl:l.length<=2000)(w:World)(z:WJ w)(n n0:Int)(hn:0<=n/\n<=1000000)(h0:n0<=n/\n<=n0+2)(i22 i23 i24 i25 i26:Int)(s27:ByteArray)(i28 i29 i30 i31 i32:Int)(x:S)(hx:x.length<=10):
 Ge l w n0 (zP L (D+1) (w.seats.map rM) (w.waits.map rWt) (w.log.map rC) (w.fresh.map rI) (w.spy.map rS) (w.stolen.map rSt) (w.frames.map rF) (w.said.map rI) (w.wins.map rWs) (w.told.map rT) (l.map rU) n w.seats.length w.waits.length w.log.length w.fresh.length w.spy.length w.stolen.length w.frames.length w.said.length w.wins.length w.told.length i22 i23 i24 i25 i26 s27 i28 i29 i30 i31 i32 (bs x)):=by
 rw[P7];have z1:w.waits.length<=16:=z.waitsL;by_cases hw:w.waits.length=0
 ·have e0:decide ((0:Int)<w.waits.length)=false:=by rw[jg];omega
  simp(disch:=omega) only[K1,iQ,aW,cM,Nat.reduceAdd,↓aB,GF,e0,alL,ae3,alM,ae4,N9,OA,OB,CC,CE,CF,CG,CD]
  repeat' (first|exact TJ _ _ _ _ _ _ (by omega) (by first|exact hx|decide|((repeat' split)<;>decide))|apply TI)
 ·have e0:decide ((0:Int)<w.waits.length)=true:=by rw[ja];omega
  have p0:∀k:Int,aL 4 (w.waits.map rWt) (pick l k w.waits.length)=some (rWt (ix w.waits (pick l k w.waits.length))):=fun k=>by
   have:= @lH l k w.waits.length (by omega)
   exact jJ _ w.waits (by omega) (by omega)
  have p1:∀k:Int,aS (w.waits.map rWt) (pick l k w.waits.length)=some (rWt (ix w.waits (pick l k w.waits.length))):=fun k=>by
   have:= @lH l k w.waits.length (by omega)
   exact jC w.waits _ (by omega) (by omega)
  simp(disch:=omega) only[K1,iQ,aW,cM,Nat.reduceAdd,↓aB,sP,sQ,sR,sS,GF,p0,p1,e0,alL,ae3,alM,ae4,N9,OA,OB,CC,CE,CF,CG,CD]
  repeat' (first|exact TJ _ _ _ _ _ _ (by omega) (by first|exact hx|decide|((repeat' split)<;>decide))|apply TI)
theorem OE(l:S)(hl:l.length<=2000)(w:World)(z:WJ w)(n n0:Int)(hn:0<=n/\n<=1000000)(h0:n0<=n/\n<=n0+2)(i22 i23 i24 i25 i26:Int)(s27:ByteArray)(i28 i30 i31 i32:Int)(x:S)(hx:x.length<=10):∀(m k:Nat) (i29:Int),8-k<m->k<=8->0<=i29/\i29<=7->
 Ge l w n0 (C7 L (D+1) m (w.seats.map rM) (w.waits.map rWt) (w.log.map rC) (w.fresh.map rI) (w.spy.map rS) (w.stolen.map rSt) (w.frames.map rF) (w.said.map rI) (w.wins.map rWs) (w.told.map rT) (l.map rU) n w.seats.length w.waits.length w.log.length w.fresh.length w.spy.length w.stolen.length w.frames.length w.said.length w.wins.length w.told.length i22 i23 i24 i25 i26 s27 i28 i29 i30 i31 i32 (bs x) k)
 |0,_,_,h,_,_=>by omega
 |m+1,k,i29,h,hk,hi=>by
  rw[KX];have hj:=OD L D l hl w z n n0 hn h0 i22 i23 i24 i25 i26 s27 i28 i29 i30 i31 i32 x hx;by_cases h8:k<8
  ·have h8':((k:Int)<8):=by omega
   have s8:=z.seats8;have ih:=OE l hl w z n n0 hn h0 i22 i23 i24 i25 i26 s27 i28 i30 i31 i32 x hx m (k+1) (rY (aG .i64 i29 1) 8) (by omega) (by omega) (by
    have a:aG .i64 i29 1=i29+1:=dI (by omega) (by omega)
    rw[a,mE (by omega)];omega)
   have a1:aG .i64 (k:Int) 1=((k+1:Nat):Int):=(dI (by omega) (by omega)).trans (by omega)
   have e8:decide ((8:Int)=0)=false:=rfl;simp(disch:=omega) only[K1,dR,Int.reduceEq,↓aB,gI,cB,cJ,h8',a1,cJ,cB];exact TI hj ih
  ·have h8':¬((k:Int)<8):=by omega
   simp(disch:=omega) only[K1,h8'];exact hj
theorem adM(l:S)(hl:l.length<=2000)(w:World)(z:WJ w)(n:Int)(hn:0<=n/\n<=900000)(hL:1099511627776<=L):
 Ge l w n (ev E L (D+2) 58 [.ptr (.imp 0) 0,.agg [.ref (.imp 1) w.seats.length,.ref (.imp 2) w.waits.length,.ref (.imp 3) w.log.length,.ref (.imp 4) w.fresh.length,.ref (.imp 5) w.spy.length,.ref (.imp 6) w.stolen.length,.ref (.imp 7) w.frames.length,.ref (.imp 8) w.said.length,.ref (.imp 9) w.wins.length,.ref (.imp 10) w.told.length]] [.cells [.sl (l.map rU),.int .i64 n],.rows (w.seats.map rM),.rows (w.waits.map rWt),.rows (w.log.map rC),.rows (w.fresh.map rI),.rows (w.spy.map rS),.rows (w.stolen.map rSt),.rows (w.frames.map rF),.rows (w.said.map rI),.rows (w.wins.map rWs),.rows (w.told.map rT)]):=by
 have h:=alD L (D+1) (l.map rU) n (w.seats.map rM) (w.waits.map rWt) (w.log.map rC) (w.fresh.map rI) (w.spy.map rS) (w.stolen.map rSt) (w.frames.map rF) (w.said.map rI) (w.wins.map rWs) (w.told.map rT);simp(disch:=omega) only[K1,iQ,cM,Int.reduceNeg,Nat.reduceAdd,GF]at h;rw[h];have:= @lH l n 5 (by omega)
 have h1:=OE L D l hl w z (n+1+1) n (by omega) (by omega) 0 0 0 0 0 (bs []) 0 (-1) (-1) 0 [] (by decide) L 0 (pick l n 5) (by omega) (by omega) (by omega)
 have h2:=OD L D l hl w z (n+1+1) n (by omega) (by omega) 0 0 0 0 0 (bs []) 0 (pick l n 5) (-1) (-1) 0 [] (by decide)
 rw[show((0:Nat):Int)=0 from rfl]at h1
 exact TI h1 h2
end
end Kw.Sp
namespace Kw.Sp
open Go Go.Proofs
def zV(evs:List Event):Prop:=∀e∈evs,e.text.length<=10
theorem zV.app{a b:List Event}(ha:zV a)(hb:zV b):zV (a++b):=fun e he=>(jy.1 he).elim (ha e) (hb e)
def Gp(l:S)(x:Option (MV×List Obj)):Prop:=∃(f:Int) (evs:List Event) (w:World) (n:Int),WJ w/\(0<=n/\n<=10000)/\(0<=f/\f<=7)/\(evs.length<=190/\zV evs)/\
 x=some (.tup [.int .i64 f,.own (evs.map rE),.agg [.own (w.seats.map rM),.own (w.waits.map rWt),.own (w.log.map rC),.own (w.fresh.map rI),.own (w.spy.map rS),.own (w.stolen.map rSt),.own (w.frames.map rF),.own (w.said.map rI),.own (w.wins.map rWs),.own (w.told.map rT)]],[.cells [.sl (l.map rU),.int .i64 n]])
theorem ae5{l:S}{c:Bool}{a b:Option (MV×List Obj)}(ha:Gp l a)(hb:Gp l b):Gp l (br c a b):=by cases c;exact hb;exact ha
section
variable (L D:Nat)
theorem uC(hL:1099511627776<=L)(l:S)(q0 q1 q2 q3 q4 q5 q6 q7 q8 q9:List Row)(j0 j1 j2 j3 j4 j5 j6 j7 j8 j9:Int)(f rounds n:Int)(n5:Nat)(b:List Event)(hb:b.length<=20)(hbo:zV b)
 (H:∀(w:World) (evs:List Event),WJ w->evs.length<=190->zV evs->Gp l (qZ L (D+312) n5 q0 q1 q2 q3 q4 q5 q6 q7 q8 q9 (w.seats.map rM) (w.waits.map rWt) (w.log.map rC) (w.fresh.map rI) (w.spy.map rS) (w.stolen.map rSt) (w.frames.map rF) (w.said.map rI) (w.wins.map rWs) (w.told.map rT) (evs.map rE) (l.map rU) n j0 j1 j2 j3 j4 j5 j6 j7 j8 j9 w.seats.length w.waits.length w.log.length w.fresh.length w.spy.length w.stolen.length w.frames.length w.said.length w.wins.length w.told.length f evs.length (bB .i64 rounds 1))):
 ∀(m k:Nat) (w:World) (evs:List Event),b.length-k<m->k<=b.length->WJ w->evs.length<=190->zV evs->Gp l (nU L (D+312) m n5 q0 q1 q2 q3 q4 q5 q6 q7 q8 q9 (w.seats.map rM) (w.waits.map rWt) (w.log.map rC) (w.fresh.map rI) (w.spy.map rS) (w.stolen.map rSt) (w.frames.map rF) (w.said.map rI) (w.wins.map rWs) (w.told.map rT) (evs.map rE) (b.map rE) (l.map rU) n j0 j1 j2 j3 j4 j5 j6 j7 j8 j9 w.seats.length w.waits.length w.log.length w.fresh.length w.spy.length w.stolen.length w.frames.length w.said.length w.wins.length w.told.length f evs.length rounds b.length k)
 |0,_,_,_,h,_,_,_,_=>by omega
 |m+1,k,w,evs,h,hk,z,hv,ho=>by
  rw[GZ];by_cases h8:k<b.length
  ·have h8':decide ((k:Int)<b.length)=true:=by rw[ja];omega
   have a1:aG .i64 (k:Int) 1=((k+1:Nat):Int):=(dI (by omega) (by omega)).trans (by omega)
   by_cases h190:evs.length<190
   ·have h1:decide ((evs.length:Int)<190)=true:=by rw[ja];omega
    have ih:=uC hL l q0 q1 q2 q3 q4 q5 q6 q7 q8 q9 j0 j1 j2 j3 j4 j5 j6 j7 j8 j9 f rounds n n5 b hb hbo H m (k+1) (step w (ix b (k:Int))) (evs++[ix b (k:Int)]) (by omega) (by omega) (z.step _) (by simp;omega) (ho.app fun e he=>by rw[qk.1 he];exact hbo _ (by rw[aZ b k h8];exact jr h8))
    have hs:=fun e=>abA L D hL w z.toWI e
    simp(disch:=omega) only[K1,jt,bJ,aW,Nat.reduceAdd,RG,bS,bF,↓aB,aeE,aeF,aeG,aeH,aeI,aeJ,aeK,RB,OW,h8',h1,a1,aJ,hs];exact ih
   ·have h1:decide ((evs.length:Int)<190)=false:=by rw[jg];omega
    simp(disch:=omega) only[K1,↓aB,h8',h1,a1];exact uC hL l q0 q1 q2 q3 q4 q5 q6 q7 q8 q9 j0 j1 j2 j3 j4 j5 j6 j7 j8 j9 f rounds n n5 b hb hbo H m (k+1) w evs (by omega) (by omega) z hv ho
  ·have h8':decide ((k:Int)<b.length)=false:=by rw[jg];omega
   simp(disch:=omega) only[K1,↓aB,h8'];exact H w evs z hv ho
theorem ev2(k p:Int):[[MV.int .i64 2,.int .i64 k,.int .i64 0,.int .i64 0,.int .i64 p,.str (bs [])],[.int .i64 3,.int .i64 k,.int .i64 0,.int .i64 0,.int .i64 p,.str (bs [])]]=[(⟨2,k,0,0,p,[]⟩:Event),⟨3,k,0,0,p,[]⟩].map rE:=(rfl)
theorem OG(hL:1099511627776<=L)(l:S)(q0 q1 q2 q3 q4 q5 q6 q7 q8 q9:List Row)(j0 j1 j2 j3 j4 j5 j6 j7 j8 j9:Int)(f rounds n:Int)(n5:Nat)(w:World)(z:WJ w)(evs:List Event)(hv:evs.length<=190)(ho:zV evs)
 (H:∀(w:World) (evs:List Event),WJ w->evs.length<=190->zV evs->Gp l (qZ L (D+312) n5 q0 q1 q2 q3 q4 q5 q6 q7 q8 q9 (w.seats.map rM) (w.waits.map rWt) (w.log.map rC) (w.fresh.map rI) (w.spy.map rS) (w.stolen.map rSt) (w.frames.map rF) (w.said.map rI) (w.wins.map rWs) (w.told.map rT) (evs.map rE) (l.map rU) n j0 j1 j2 j3 j4 j5 j6 j7 j8 j9 w.seats.length w.waits.length w.log.length w.fresh.length w.spy.length w.stolen.length w.frames.length w.said.length w.wins.length w.told.length f evs.length (bB .i64 rounds 1))):
 ∀(m k:Nat) (b:List Event),5-k<m->k<=5->b.length<=1+2*k->zV b->Gp l (y5 L (D+312) m n5 q0 q1 q2 q3 q4 q5 q6 q7 q8 q9 (w.seats.map rM) (w.waits.map rWt) (w.log.map rC) (w.fresh.map rI) (w.spy.map rS) (w.stolen.map rSt) (w.frames.map rF) (w.said.map rI) (w.wins.map rWs) (w.told.map rT) (evs.map rE) (b.map rE) (l.map rU) n j0 j1 j2 j3 j4 j5 j6 j7 j8 j9 w.seats.length w.waits.length w.log.length w.fresh.length w.spy.length w.stolen.length w.frames.length w.said.length w.wins.length w.told.length f evs.length rounds b.length k)
 |0,_,_,h,_,_,_=>by omega
 |m+1,k,b,h,hk,hb,hbo=>by
  rw[GY];by_cases h8:k<5
  ·have h8':decide ((k:Int)<5)=true:=by rw[ja];omega
   have a1:aG .i64 (k:Int) 1=((k+1:Nat):Int):=(dI (by omega) (by omega)).trans (by omega)
   have ih:=OG hL l q0 q1 q2 q3 q4 q5 q6 q7 q8 q9 j0 j1 j2 j3 j4 j5 j6 j7 j8 j9 f rounds n n5 w z evs hv ho H m (k+1) (b++[⟨2,k,0,0,w.log.length,[]⟩,⟨3,k,0,0,w.log.length,[]⟩]) (by omega) (by omega) (by simp;omega) (hbo.app fun e he=>by simp at he;rcases he with rfl|rfl<;>exact Nat.zero_le _)
   simp(disch:=omega) only[K1,ev2,bJ,eG,Nat.reduceAdd,RG,↓aB,h8',a1,aJ];exact ih
  ·have h8':decide ((k:Int)<5)=false:=by rw[jg];omega
   simp(disch:=omega) only[K1,h8'];have:=uC L D hL l q0 q1 q2 q3 q4 q5 q6 q7 q8 q9 j0 j1 j2 j3 j4 j5 j6 j7 j8 j9 f rounds n n5 b (by omega) hbo H L 0 w evs (by omega) (by omega) z hv ho
   rw[show((0:Nat):Int)=0 from rfl]at this
   exact this
theorem OH(hL:1099511627776<=L)(l:S)(hl:l.length<=2000)(q0 q1 q2 q3 q4 q5 q6 q7 q8 q9:List Row)(f:Int)(hf:0<=f/\f<=7):∀(m i:Nat) (n:Int) (j0 j1 j2 j3 j4 j5 j6 j7 j8 j9:Int) (w:World) (evs:List Event),i<m->0<=n->n+30*i<=5000->WJ w->evs.length<=190->zV evs->Gp l (qZ L (D+312) m q0 q1 q2 q3 q4 q5 q6 q7 q8 q9 (w.seats.map rM) (w.waits.map rWt) (w.log.map rC) (w.fresh.map rI) (w.spy.map rS) (w.stolen.map rSt) (w.frames.map rF) (w.said.map rI) (w.wins.map rWs) (w.told.map rT) (evs.map rE) (l.map rU) n j0 j1 j2 j3 j4 j5 j6 j7 j8 j9 w.seats.length w.waits.length w.log.length w.fresh.length w.spy.length w.stolen.length w.frames.length w.said.length w.wins.length w.told.length f evs.length i)
 |0,_,_,_,_,_,_,_,_,_,_,_,_,_,_,h,_,_,_,_,_=>by omega
 |m+1,i,n,j0,j1,j2,j3,j4,j5,j6,j7,j8,j9,w,evs,h,hn,hi,z,hv,ho=>by
  rw[KT];by_cases h0:0<i
  ·have h0':decide ((0:Int)<i)=true:=by rw[ja];omega
   obtain⟨e,n',het,hn',he⟩:=adM L (D+310) l hl w z n (by omega) hL
   have he':ev E L (D+312) 58 [.ptr (.imp 0) 0,.agg [.ref (.imp 1) w.seats.length,.ref (.imp 2) w.waits.length,.ref (.imp 3) w.log.length,.ref (.imp 4) w.fresh.length,.ref (.imp 5) w.spy.length,.ref (.imp 6) w.stolen.length,.ref (.imp 7) w.frames.length,.ref (.imp 8) w.said.length,.ref (.imp 9) w.wins.length,.ref (.imp 10) w.told.length]] [.cells [.sl (l.map rU),.int .i64 n],.rows (w.seats.map rM),.rows (w.waits.map rWt),.rows (w.log.map rC),.rows (w.fresh.map rI),.rows (w.spy.map rS),.rows (w.stolen.map rSt),.rows (w.frames.map rF),.rows (w.said.map rI),.rows (w.wins.map rWs),.rows (w.told.map rT)]=_:=he;have hp:=GF L (D+311) l hl;have a1:bB .i64 (i:Int) 1=((i-1:Nat):Int):=(dI (by omega) (by omega)).trans (by omega)
   have H:∀(n:Int) (_:0<=n/\n<=n'+1) (j0 j1 j2 j3 j4 j5 j6 j7 j8 j9:Int) (w:World) (evs:List Event),WJ w->evs.length<=190->zV evs->Gp l (qZ L (D+312) m q0 q1 q2 q3 q4 q5 q6 q7 q8 q9 (w.seats.map rM) (w.waits.map rWt) (w.log.map rC) (w.fresh.map rI) (w.spy.map rS) (w.stolen.map rSt) (w.frames.map rF) (w.said.map rI) (w.wins.map rWs) (w.told.map rT) (evs.map rE) (l.map rU) n j0 j1 j2 j3 j4 j5 j6 j7 j8 j9 w.seats.length w.waits.length w.log.length w.fresh.length w.spy.length w.stolen.length w.frames.length w.said.length w.wins.length w.told.length f evs.length (bB .i64 i 1)):=fun n h2 j0 j1 j2 j3 j4 j5 j6 j7 j8 j9 w evs z hv ho=>by
    rw[a1];exact OH hL l hl q0 q1 q2 q3 q4 q5 q6 q7 q8 q9 f hf m (i-1) n j0 j1 j2 j3 j4 j5 j6 j7 j8 j9 w evs (by omega) (by omega) (by omega) z hv ho
   have g1:=fun(b:List Event) hb hbo=>uC L D hL l q0 q1 q2 q3 q4 q5 q6 q7 q8 q9 j0 j1 j2 j3 j4 j5 j6 j7 j8 j9 f i n' m b hb hbo (H n' (by omega) j0 j1 j2 j3 j4 j5 j6 j7 j8 j9) L 0 w evs (by omega) (by omega) z hv ho
   have g2:=fun(b:List Event) hb hbo=>uC L D hL l q0 q1 q2 q3 q4 q5 q6 q7 q8 q9 j0 j1 j2 j3 j4 j5 j6 j7 j8 j9 f i (n'+1) m b hb hbo (H (n'+1) (by omega) j0 j1 j2 j3 j4 j5 j6 j7 j8 j9) L 0 w evs (by omega) (by omega) z hv ho
   have g3:=fun(b:List Event) hb hbo=>OG L D hL l q0 q1 q2 q3 q4 q5 q6 q7 q8 q9 j0 j1 j2 j3 j4 j5 j6 j7 j8 j9 f i (n'+1) m w z evs hv ho (H (n'+1) (by omega) j0 j1 j2 j3 j4 j5 j6 j7 j8 j9) L 0 b (by omega) (by omega) hb hbo
   simp(disch:=omega) only[K1,ac3,iQ,aj9,cM,Nat.reduceAdd,↓aB,h0',he',hp,aj8];have h1e:zV [e]:=fun x hx=>by rw[qk.1 hx];exact het
   refine ae5 (ae5 ?_ ?_) ?_
   ·exact g3 [e] (by simp) h1e
   ·exact g2 [e] (by simp) h1e
   ·exact g1 [e] (by simp) h1e
  ·have h0':decide ((0:Int)<i)=false:=by rw[jg];omega
   have hc:=ab6 L (D+309) hL w z.sz;simp(disch:=omega) only[K1,Nat.reduceAdd,↓aB,h0',hc];exact⟨f,evs,w,n,z,by omega,hf,⟨hv,ho⟩,rfl⟩
end
end Kw.Sp
namespace Kw.Sp
open Go Go.Proofs
section
variable (L D:Nat)
theorem t_Play(hL:1099511627776<=L)(l:S)(hl:l.length<=2000)(k:Int)(hk:1<=k/\k<=100):Gp l (ev E L (D+313) 18 [.ptr (.imp 0) 0,.int .i64 k] [.cells [.sl (l.map rU),.int .i64 0]]):=by
 have h:=al0 L (D+312) (l.map rU) 0 k;have hp:=GF L (D+311) l hl;have hg:=ab3 L (D+2) hL (pick l 0 5);obtain⟨k0,k1⟩:= @lH l 0 5 (by omega)
 obtain⟨j0,j1⟩:= @lH l (0+1) k (by omega)
 simp(disch:=omega) only[K1,iQ,cM,Nat.reduceAdd,hp,hg]at h;rw[h];have h1:=OH L D hL l hl [] [] [] [] [] [] [] [] [] [] (pick l 0 5) ⟨by omega,by omega⟩ L (pick l (0+1) k).toNat (0+1+1) 0 0 0 0 0 0 0 0 0 0 (cP (pick l 0 5)) [] (by omega) (by omega) (by omega) (WJ.new ⟨by omega,by omega⟩) (by simp) (fun e he=>by cases he)
 rw[vh j0]at h1;exact h1
theorem t_Open(l:S):ev E L (D+1) 19 [.sl (l.map rU)] []=some (.ptr (.imp 0) 0,[.cells [.sl ((l.take 2000).map rU),.int .i64 0]]):=by
 rw[al1];by_cases h:2000<l.length
 ·have h':decide ((2000:Int)<l.length)=true:=by rw[ja];omega
  have h2:decide ((2000:Int)<=l.length)=true:=by rw[ja];omega
  simp(disch:=omega) only[K1,bJ,Int.reduceLE,ajB,aj3,h',h2]
  rfl
 ·have h':decide ((2000:Int)<l.length)=false:=by rw[jg];omega
  simp(disch:=omega) only[K1,h'];rw[List.take_of_length_le (by omega)]
end
end Kw.Sp
namespace Kw
open Go Go.Proofs
section
variable (L D:Nat)
theorem aiR(hL:1099511627776<=L)(l:S):∃(f:Int) (evs:List Event),(0<=f/\f<=7)/\evs.length<=190/\(∀e∈evs,e.text.length<=10)/\
 ev E L (D+314) 7 [.sl (l.map rU)] []=some (.tup [.int .i64 f,.sl (evs.map rE)],[]):=by
 obtain⟨f,evs,w,n,z,hn,hf,⟨he,ho⟩,h⟩:=Sp.t_Play L D hL (l.take 2000) (by rw[ve];omega) 60 ⟨by decide,by decide⟩
 refine⟨f,evs,hf,he,ho,?_⟩;rw[am9,Sp.t_Open L (D+312)];simp only[aA,XA,and_self,List.getD_cons_zero,GL,cM,je,jj,js,aP,aV,eY,bL];rw[h];simp only[aA,iQ,cM,je,jj,js,aP,aV,eY,bL,gTupN_if,gAggN_if,eC,aU,aC]
theorem amE(hL:1099511627776<=L)(l:S):ev E L (D+320) 4 [.sl (l.map rU)] []=some (.bool true,[]):=by
 rw[am6];by_cases hb:iLt 1048576 (nrows (l.map rU))=true
 ·rw[hb,aC]
 ·rw[Bool.not_eq_true]at hb;rw[hb,aD];obtain⟨f,evs,hf,he,ho,h⟩:=aiR L (D+5) hL l;have hp:=aiQ L (D+1) hL f hf evs he ho;have z:WG (run (cP f) evs):=(WG.new hf).run evs;have hk:=TA L (D+3) hL _ z;have hbd:=alI L (D+1) hL _ z;generalize run (cP f) evs=w at*;unfold wS at hp hk;rw[h];simp only[aA,gTupN_if,je,jj,js,aP,aV,bL,eY];rw[hp];simp only[aA,gAggN_if,je,jj,js,aP,aV,eY];rw[hk];simp only[aA,aI,bI,aD];simp only[aF];exact hbd
end
end Kw
