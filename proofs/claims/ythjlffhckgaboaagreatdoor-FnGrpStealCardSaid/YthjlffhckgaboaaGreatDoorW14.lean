import Derived.Test.YthjlffhckgaboaaGreatDoorW13
import Derived.Test.YthjlffhckgaboaaGreatDoorW11
set_option linter.unusedVariables false
set_option linter.unusedSimpArgs false
set_option linter.unusedSectionVars false
namespace Kw.Sp
open Go Go.Proofs
section
variable (L D:Nat)
def o8(w:Int)(k:Nat):Member:=if(k:Int)=w then dP w (aO w 1) (aO w 2)else bC
def m8(w:Int)(k:Nat):Int:=if(k:Int)=w then 2 else 0
theorem VV{A:Type}(k:Nat)(x:A):List.replicate k x++[x]=List.replicate (k+1) x:=by rw[List.replicate_succ']
theorem aeG(hL:1099511627776<=L)(w:Int)(hw:aH w):∀(n k:Nat),8-k<n->k<=8->
 FB L (D+309) n [] [] [] [] [] [] [] [] [] [] (((List.range k).map (o8 w)).map rM) [] [] (((List.range k).map (m8 w)).map rI) [] [] [] ((List.replicate k (0:Int)).map rI) ((List.replicate k ([]:List Win)).map rWs) [] 0 0 0 0 0 0 0 0 0 0 k 0 0 k 0 0 0 k k 0 w k=
 some (.agg [.own ((bN w).seats.map rM),.own ((bN w).waits.map rWt),.own ((bN w).log.map rC),.own ((bN w).fresh.map rI),.own ((bN w).spy.map rS),.own ((bN w).stolen.map rSt),.own ((bN w).frames.map rF),.own ((bN w).said.map rI),.own ((bN w).wins.map rWs),.own ((bN w).told.map rT)],[]):=by
 intro n;induction n with
 |zero=>intro k h;omega
 |succ n ih=>
  intro k hn hk;rw[R5];simp only[KM];have l1:((List.range k).map (o8 w)).length=k:=by simp
  have l2:((List.range k).map (m8 w)).length=k:=by simp
  have l3:(List.replicate k (0:Int)).length=k:=by simp
  have l4:(List.replicate k ([]:List Win)).length=k:=by simp
  by_cases h:k<8
  case neg=>
   have h':¬(k:Int)<8:=by omega
   have e8:k=8:=by omega
   have hg:bN w=⟨(List.range 8).map (o8 w),[],[],(List.range 8).map (m8 w),[],[],[],List.replicate 8 0,List.replicate 8 [],[]⟩:=by
    unfold bN;rw[je hw];rfl
   rw[hg];simp(disch:=omega) only[K1,↓aA,h',l1,l2,l3,l4];rw[e8];rfl
  have h':(k:Int)<8:=by omega
  have e:=ih (k+1) (by omega) (by omega)
  have s1:(List.range k).map (o8 w)++[o8 w k]=(List.range (k+1)).map (o8 w):=by simp[List.range_succ]
  have s2:(List.range k).map (m8 w)++[m8 w k]=(List.range (k+1)).map (m8 w):=by simp[List.range_succ]
  have s3:=VV k (0:Int);have s4:=VV k ([]:List Win);have m1:((List.range (k+1)).map (o8 w)).length=k+1:=by simp
  have m2:((List.range (k+1)).map (m8 w)).length=k+1:=by simp
  have m3:(List.replicate (k+1) (0:Int)).length=k+1:=by simp
  have m4:(List.replicate (k+1) ([]:List Win)).length=k+1:=by simp
  have w1:[[MV.sl []]]=[([]:List Win)].map rWs:=rfl;by_cases hk1:(k:Int)=w
  ·have f1:o8 w k=dP w (aO w 1) (aO w 2):=je hk1;have f2:m8 w k=2:=je hk1;have hmf:=YL L D hL w (aO w 1) (aO w 2);rw[f1]at s1;rw[f2]at s2;simp only[rM]at hmf;generalize dP w (aO w 1) (aO w 2)=m at hmf s1;have e1:(⟨m.inn,m.who,m.keys,m.own,m.epoch,m.init,m.tag⟩:Member)=m:=rfl;have hd:decide ((k:Int)=w)=true:=jd hk1;simp(disch:=omega) only[K1,jx,aV,aJ,d7,Nat.reduceAdd,lA,ZF,QU,aZ,aR,↓aA,af9,h',hd,tF _ _ hL,hmf,e1,OX,w1,l1,l2,l3,l4,aE,s1,s2,s3,s4,m1,m2,m3,m4,aG,e]
  ·have f1:o8 w k=bC:=jc hk1;have f2:m8 w k=0:=jc hk1;rw[f1]at s1;rw[f2]at s2;have e1:[[MV.bool false,.int .i64 0,.sl [],.sl [],.int .i64 0,.str (bs []),.str (bs [])]]=[bC].map rM:=rfl;simp(disch:=omega) only[K1,aV,d7,Nat.reduceAdd,lA,ZF,QU,↓aA,h',hk1,e1,OX,w1,l1,l2,l3,l4,aE,s1,s2,s3,s4,m1,m2,m3,m4,aG,e]
theorem aj7(hL:1099511627776<=L)(w:Int):ev E L (D+310) 57 [.int .i64 w] []=
 some (.agg [.own ((bN w).seats.map rM),.own ((bN w).waits.map rWt),.own ((bN w).log.map rC),.own ((bN w).fresh.map rI),.own ((bN w).spy.map rS),.own ((bN w).stolen.map rSt),.own ((bN w).frames.map rF),.own ((bN w).said.map rI),.own ((bN w).wins.map rWs),.own ((bN w).told.map rT)],[]):=by
 rw[azM];simp only[KM];by_cases hw:aH w
 ·obtain⟨h1,h2⟩:=id hw;simp only[K1,aM,h1,h2];exact aeG L D hL w hw L 0 (by omega) (by omega)
 ·have h1:¬(0<=w/\w<=7):=hw;simp only[K1,aM,h1];unfold bN;rw[jc hw];rfl
theorem ap4(c0:Int)(c1 c2:S)(c3 c4:Int)(c5:S)(c6:List S)(c7:List Box)(c8 c9 c10 c11 c12:S)(h1:c6.length<=1000000)(h2:c7.length<=1000000):ev E L (D+1) 103 [.agg [.int .i64 c0,.str (bs c1),.str (bs c2),.int .i64 c3,.int .i64 c4,.str (bs c5),.sl (c6.map rS),.sl (c7.map rB),.str (bs c8),.str (bs c9),.str (bs c10),.str (bs c11),.str (bs c12)]] []=some (.agg (rC ⟨c0,c1,c2,c3,c4,c5,c6,c7,c8,c9,c10,c11,c12⟩),[]):=by
 rw[auE];simp only[KM];simp(disch:=omega) only[K1,aV,iI,HD,aR,↓aA,eJ,aE,rC]
end
end Kw.Sp
namespace Kw.Sp
open Go Go.Proofs
structure WSz(w:World):Prop where
 seats:w.seats.length<=1000
 waits:w.waits.length<=100000
 log:w.log.length<=1000
 fresh:w.fresh.length<=1000
 spy:w.spy.length<=100000
 stolen:w.stolen.length<=100000
 frames:w.frames.length<=100000
 said:w.said.length<=1000
 wins:w.wins.length<=1000
 told:w.told.length<=100000
 seat:∀m∈w.seats,m.keys.length<=1000/\m.own.length<=1000/\(m.inn=false->m.keys=[])
 cmt:∀c∈w.log,c.keys.length<=1000/\c.boxes.length<=1000
 win:∀l∈w.wins,l.length<=1000/\VT l
theorem dU{A:Type} [Inhabited A](l:List A)(k:Nat)(h:k<l.length):ix l (k:Int)∈l:=by rw[aK l k h];exact jt h
section
variable (L D:Nat)
theorem MF(hL:1099511627776<=L)(w:World)(z:WSz w):∀(n k:Nat) (B:List (List Win)),w.wins.length-k<n->k<=w.wins.length->B++w.wins.drop k=w.wins->
 FD L (D+2) n [] [] [] [] [] [] [] [] [] [] (w.seats.map rM) (w.waits.map rWt) (w.log.map rC) (w.fresh.map rI) (w.spy.map rS) (w.stolen.map rSt) (w.frames.map rF) (w.said.map rI) (B.map rWs) (w.told.map rT) (w.seats.map rM) (w.waits.map rWt) (w.log.map rC) (w.fresh.map rI) (w.spy.map rS) (w.stolen.map rSt) (w.frames.map rF) (w.said.map rI) (w.wins.map rWs) (w.told.map rT) 0 0 0 0 0 0 0 0 0 0 w.seats.length w.waits.length w.log.length w.fresh.length w.spy.length w.stolen.length w.frames.length w.said.length B.length w.told.length k=some (.agg [.own (w.seats.map rM),.own (w.waits.map rWt),.own (w.log.map rC),.own (w.fresh.map rI),.own (w.spy.map rS),.own (w.stolen.map rSt),.own (w.frames.map rF),.own (w.said.map rI),.own (w.wins.map rWs),.own (w.told.map rT)],[]):=by
 intro n;induction n with
 |zero=>intro k B h;omega
 |succ n ih=>
  intro k B hn hk hB;rw[NH];simp only[KM];have hBl:=wo List.length hB;rw[jl,Jm]at hBl;have z9:=z.wins;by_cases h:k<w.wins.length
  case neg=>
   have h':¬(k:Int)<w.wins.length:=by omega
   rw[js (by omega),ka]at hB
   subst hB;simp(disch:=omega) only[K1,↓aA,h']
  have h':(k:Int)<w.wins.length:=by omega
  obtain⟨q1,q2⟩:=z.win _ (dU w.wins k h);have hw:=aj6 L (D+1) hL (ix w.wins (k:Int)) (by omega) q2
  have e1:[[MV.sl ((ix w.wins (k:Int)).map rW)]]=[ix w.wins (k:Int)].map rWs:=rfl;have:=ih (k+1) (B++[ix w.wins (k:Int)]) (by omega) (by omega) (by rw[qm];rw[bU w.wins k h]at hB;exact hB)
  simp(disch:=omega) only[K1,aV,d7,Nat.reduceAdd,QU,↓aA,nD,eH,h',hw,e1,aE,aG,this]
theorem aj8(hL:1099511627776<=L)(w:World)(z:WSz w):∀(n k:Nat) (C:List Commit),w.log.length-k<n->k<=w.log.length->C++w.log.drop k=w.log->
 JH L (D+2) n [] [] [] [] [] [] [] [] [] [] (w.seats.map rM) (w.waits.map rWt) (C.map rC) (w.fresh.map rI) (w.spy.map rS) (w.stolen.map rSt) (w.frames.map rF) (w.said.map rI) [] (w.told.map rT) (w.seats.map rM) (w.waits.map rWt) (w.log.map rC) (w.fresh.map rI) (w.spy.map rS) (w.stolen.map rSt) (w.frames.map rF) (w.said.map rI) (w.wins.map rWs) (w.told.map rT) 0 0 0 0 0 0 0 0 0 0 w.seats.length w.waits.length C.length w.fresh.length w.spy.length w.stolen.length w.frames.length w.said.length 0 w.told.length k=some (.agg [.own (w.seats.map rM),.own (w.waits.map rWt),.own (w.log.map rC),.own (w.fresh.map rI),.own (w.spy.map rS),.own (w.stolen.map rSt),.own (w.frames.map rF),.own (w.said.map rI),.own (w.wins.map rWs),.own (w.told.map rT)],[]):=by
 intro n;induction n with
 |zero=>intro k C h;omega
 |succ n ih=>
  intro k C hn hk hB;rw[R8];simp only[KM];have hBl:=wo List.length hB;rw[jl,Jm]at hBl;have z9:=z.log;by_cases h:k<w.log.length
  case neg=>
   have h':¬(k:Int)<w.log.length:=by omega
   rw[js (by omega),ka]at hB
   subst hB;have:=MF L D hL w z L 0 [] (by have:=z.wins;omega) (by omega) rfl
   simp(disch:=omega) only[K1,h'];exact this
  have h':(k:Int)<w.log.length:=by omega
  obtain⟨q1,q2⟩:=z.cmt _ (dU w.log k h);generalize hc:ix w.log (k:Int)=c at q1 q2;have hw:=ap4 L (D+1) c.sender c.tag c.name c.add c.remove c.leaf c.keys c.boxes c.wkey c.wik c.wis c.wsk c.wss (by omega) (by omega)
  have e1:(⟨c.sender,c.tag,c.name,c.add,c.remove,c.leaf,c.keys,c.boxes,c.wkey,c.wik,c.wis,c.wsk,c.wss⟩:Commit)=c:=rfl;have e2:[rC c]=[c].map rC:=rfl;simp only[rC]at hw;have:=ih (k+1) (C++[c]) (by omega) (by omega) (by rw[qm];rw[bU w.log k h,hc]at hB;exact hB)
  simp(disch:=omega) only[K1,jx,aV,aJ,Nat.reduceAdd,OY,aZ,aR,↓aA,ID,IE,IG,IH,II,IJ,IK,IL,IM,IO,wT,wU,wV,KC,mN,h',hc,hw,e1,aE,aG,this]
theorem aj9(hL:1099511627776<=L)(w:World)(z:WSz w):∀(n k:Nat) (A:List Member),w.seats.length-k<n->k<=w.seats.length->A++w.seats.drop k=w.seats->
 JG L (D+2) n [] [] [] [] [] [] [] [] [] [] (A.map rM) (w.waits.map rWt) [] (w.fresh.map rI) (w.spy.map rS) (w.stolen.map rSt) (w.frames.map rF) (w.said.map rI) [] (w.told.map rT) (w.seats.map rM) (w.waits.map rWt) (w.log.map rC) (w.fresh.map rI) (w.spy.map rS) (w.stolen.map rSt) (w.frames.map rF) (w.said.map rI) (w.wins.map rWs) (w.told.map rT) 0 0 0 0 0 0 0 0 0 0 A.length w.waits.length 0 w.fresh.length w.spy.length w.stolen.length w.frames.length w.said.length 0 w.told.length k=some (.agg [.own (w.seats.map rM),.own (w.waits.map rWt),.own (w.log.map rC),.own (w.fresh.map rI),.own (w.spy.map rS),.own (w.stolen.map rSt),.own (w.frames.map rF),.own (w.said.map rI),.own (w.wins.map rWs),.own (w.told.map rT)],[]):=by
 intro n;induction n with
 |zero=>intro k A h;omega
 |succ n ih=>
  intro k A hn hk hB;rw[R7];simp only[KM];have hBl:=wo List.length hB;rw[jl,Jm]at hBl;have z9:=z.seats;by_cases h:k<w.seats.length
  case neg=>
   have h':¬(k:Int)<w.seats.length:=by omega
   rw[js (by omega),ka]at hB
   subst hB;have:=aj8 L D hL w z L 0 [] (by have:=z.log;omega) (by omega) rfl
   simp(disch:=omega) only[K1,h'];exact this
  have h':(k:Int)<w.seats.length:=by omega
  obtain⟨q1,q2,q3⟩:=z.seat _ (dU w.seats k h);generalize hc:ix w.seats (k:Int)=m at q1 q2 q3;have hw:=MP L D hL m.inn m.who m.epoch m.keys m.own m.init m.tag (by omega) (by omega)
  have e0:(if m.inn=true then m.keys else[])=m.keys:=by
   cases hi:m.inn with
   |true=>rfl
   |false=>rw[q3 hi];rfl
  rw[e0]at hw;have e1:(⟨m.inn,m.who,m.keys,m.own,m.epoch,m.init,m.tag⟩:Member)=m:=rfl;simp only[rM]at hw;have:=ih (k+1) (A++[m]) (by omega) (by omega) (by rw[qm];rw[bU w.seats k h,hc]at hB;exact hB)
  simp(disch:=omega) only[K1,jx,aV,aJ,Nat.reduceAdd,ZF,aZ,aR,↓aA,jA,kO,kP,kQ,kR,kS,kT,af9,bM,h',hc,hw,e1,aE,aG,this]
theorem ajA(hL:1099511627776<=L)(w:World)(z:WSz w):ev E L (D+3) 60 [.agg [.sl (w.seats.map rM),.sl (w.waits.map rWt),.sl (w.log.map rC),.sl (w.fresh.map rI),.sl (w.spy.map rS),.sl (w.stolen.map rSt),.sl (w.frames.map rF),.sl (w.said.map rI),.sl (w.wins.map rWs),.sl (w.told.map rT)]] []=some (.agg [.own (w.seats.map rM),.own (w.waits.map rWt),.own (w.log.map rC),.own (w.fresh.map rI),.own (w.spy.map rS),.own (w.stolen.map rSt),.own (w.frames.map rF),.own (w.said.map rI),.own (w.wins.map rWs),.own (w.told.map rT)],[]):=by
 rw[azP];simp only[KM];have z1:=z.waits;have z2:=z.fresh;have z3:=z.spy;have z4:=z.stolen;have z5:=z.frames;have z6:=z.said;have z7:=z.told;have:=aj9 L D hL w z L 0 [] (by have:=z.seats;omega) (by omega) rfl
 simp(disch:=omega) only[K1,aV,iI,lA,nE,GD,CU,nF,aR,↓aA,eJ,aE];exact this
end
end Kw.Sp
namespace Kw.Sp
open Go Go.Proofs
structure WI(w:World):Prop where
 seats8:w.seats.length=8
 fresh8:w.fresh.length=8
 said8:w.said.length=8
 wins8:w.wins.length=8
 log16:w.log.length<=16
 waitsL:w.waits.length<=16
 stolen12:w.stolen.length<=12
 spyL:w.spy.length<=31*w.stolen.length
 frames40:w.frames.length<=40
 told320:w.told.length<=320
 freshR:∀x∈w.fresh,0<=x/\x<=100
 saidR:∀x∈w.said,0<=x/\x<=999
 seat:∀m∈w.seats,(m.inn=true->m.keys.length=15)/\(m.inn=false->m.keys=[])/\m.own.length<=30/\m.tag.length<=600/\m.keys.length<=15
 cmt:∀c∈w.log,c.tag.length<=300/\c.keys.length<=1000/\c.boxes.length<=1000
 win:∀l∈w.wins,l.length<=w.told.length/\∀x∈l,(0<=x.top/\x.top<=999)/\x.seen.length<=w.told.length+1
theorem WI.sz{w:World}(z:WI w):WSz w where
 seats:=by have:=z.seats8;omega
 waits:=by have:=z.waitsL;omega
 log:=by have:=z.log16;omega
 fresh:=by have:=z.fresh8;omega
 spy:=by have:=z.spyL;have:=z.stolen12;omega
 stolen:=by have:=z.stolen12;omega
 frames:=by have:=z.frames40;omega
 said:=by have:=z.said8;omega
 wins:=by have:=z.wins8;omega
 told:=by have:=z.told320;omega
 seat:=fun m hm=>by obtain⟨a,b,c,d,e⟩:=z.seat m hm;exact⟨by omega,by omega,b⟩
 cmt:=fun c hc=>by obtain⟨a,b,d⟩:=z.cmt c hc;exact⟨b,d⟩
 win:=fun l hl=>by
  obtain⟨a,b⟩:=z.win l hl;have:=z.told320;exact⟨by omega,fun x hx=>by obtain⟨c,d⟩:=b x hx;exact⟨by omega,by omega⟩⟩
theorem ixm{A:Type} [Inhabited A](l:List A)(i:Int)(h0:0<=i)(h1:i<l.length):ix l i∈l:=by
 have h:i.toNat<l.length:=by omega
 have:ix l i=l[i.toNat]:=by simp[ix,h]
 rw[this];exact jt h
section
variable (L D:Nat)
theorem ajB(hL:1099511627776<=L)(w:World)(z:WI w)(who pos:Int)(hw:aH who)(hp:0<=pos/\pos<w.log.length):ev E L (D+311) 99 [.agg [.own (w.seats.map rM),.own (w.waits.map rWt),.own (w.log.map rC),.own (w.fresh.map rI),.own (w.spy.map rS),.own (w.stolen.map rSt),.own (w.frames.map rF),.own (w.said.map rI),.own (w.wins.map rWs),.own (w.told.map rT)],.int .i64 who,.int .i64 pos] []=some (.agg [.own ((dQ w who pos).seats.map rM),.own ((dQ w who pos).waits.map rWt),.own ((dQ w who pos).log.map rC),.own ((dQ w who pos).fresh.map rI),.own ((dQ w who pos).spy.map rS),.own ((dQ w who pos).stolen.map rSt),.own ((dQ w who pos).frames.map rF),.own ((dQ w who pos).said.map rI),.own ((dQ w who pos).wins.map rWs),.own ((dQ w who pos).told.map rT)],[]):=by
 rw[azW];simp only[KM];have z8:=z.seats8;have w0:=hw.1;have w1:who<w.seats.length:=by have:=hw.2;omega
 have p0:=hp.1;have p1:=hp.2;obtain⟨a1,a2,a3,a4,a5⟩:=z.seat _ (ixm w.seats who w0 w1);obtain⟨b1,b2,b3⟩:=z.cmt _ (ixm w.log pos p0 p1);unfold dQ;generalize hm:ix w.seats who=m at a1 a2 a3 a4 a5;generalize hc:ix w.log pos=c at b1 b2 b3;have h:=aeA L D hL m.inn m.who m.epoch m.keys m.own m.init m.tag (by omega) c.sender c.tag c.name c.add c.remove c.leaf c.keys c.boxes c.wkey c.wik c.wis c.wsk c.wss (by omega)
 have e1:(⟨m.inn,m.who,m.keys,m.own,m.epoch,m.init,m.tag⟩:Member)=m:=rfl;have e2:(⟨c.sender,c.tag,c.name,c.add,c.remove,c.leaf,c.keys,c.boxes,c.wkey,c.wik,c.wis,c.wsk,c.wss⟩:Commit)=c:=rfl;rw[e1,e2]at h;simp only[rM]at h;generalize dH m c=r at h;have e3:(⟨r.1.inn,r.1.who,r.1.keys,r.1.own,r.1.epoch,r.1.init,r.1.tag⟩:Member)=r.1:=rfl;cases hr:r.2 with
 |false=>
  rw[hr]at h;simp(disch:=omega) only[K1,Int.reduceLE,Nat.reduceAdd,↓aA,jA,kO,kP,kQ,kR,kS,kT,jM,bZ,bG,sB,bM,ID,IE,IG,IH,II,IJ,IK,IL,IM,IO,wT,wU,wV,nS,mN,hm,hc,h,hr]
 |true=>
  rw[hr]at h;simp(disch:=omega) only[K1,Int.reduceLE,Nat.reduceAdd,↓aA,jA,kO,kP,kQ,kR,kS,kT,jM,bZ,bG,sB,bM,ID,IE,IG,IH,II,IJ,IK,IL,IM,IO,wT,wU,wV,nS,mN,hm,hc,h,hr,e3,ku]
  rfl
theorem aeH(hL:1099511627776<=L)(w:World)(z:WI w)(who:Int)(hw:aH who):ev E L (D+311) 97 [.agg [.own (w.seats.map rM),.own (w.waits.map rWt),.own (w.log.map rC),.own (w.fresh.map rI),.own (w.spy.map rS),.own (w.stolen.map rSt),.own (w.frames.map rF),.own (w.said.map rI),.own (w.wins.map rWs),.own (w.told.map rT)],.int .i64 who] []=some (.agg [.own ((cF w who).seats.map rM),.own ((cF w who).waits.map rWt),.own ((cF w who).log.map rC),.own ((cF w who).fresh.map rI),.own ((cF w who).spy.map rS),.own ((cF w who).stolen.map rSt),.own ((cF w who).frames.map rF),.own ((cF w who).said.map rI),.own ((cF w who).wins.map rWs),.own ((cF w who).told.map rT)],[]):=by
 rw[azU];simp only[KM];have z8:=z.seats8;have zs:=z.spyL;have zt:=z.stolen12;have w0:=hw.1;have w1:who<w.seats.length:=by have:=hw.2;omega
 obtain⟨a1,a2,a3,a4,a5⟩:=z.seat _ (ixm w.seats who w0 w1);unfold cF;generalize hm:ix w.seats who=m at a1 a2 a3 a4 a5;have h:=YM L D hL m.inn m.who m.epoch m.keys m.own m.init m.tag (by omega)
 have e1:(⟨m.inn,m.who,m.keys,m.own,m.epoch,m.init,m.tag⟩:Member)=m:=rfl;rw[e1]at h;have hk:(cO m).length<=31:=by
  unfold cO;split
  ·simp;omega
  ·simp
 cases hi:m.inn with
 |false=>
  simp(disch:=omega) only[K1,↓aA,jA,bG,bM,hm,hi];simp
 |true=>
  rw[hi]at h;by_cases h12:w.stolen.length=12
  ·have h12':(w.stolen.length:Int)=12:=by omega
   have hd:decide ((w.stolen.length:Int)=12)=true:=jd h12';simp(disch:=omega) only[K1,yk,↓aA,jA,bG,bM,hm,hi,hd];simp[h12]
  ·have h12':¬(w.stolen.length:Int)=12:=by omega
   simp(disch:=omega) only[K1,jx,aV,aJ,d7,yk,Nat.reduceAdd,iI,CU,aZ,aR,↓aA,jA,kO,kP,kQ,kR,kS,kT,bG,bM,IZ,hm,hi,h12',h,aE];simp[h12]
theorem ap5(hL:1099511627776<=L)(w:World)(z:WI w)(who:Int)(hw:aH who)(x:S):ev E L (D+311) 98 [.agg [.own (w.seats.map rM),.own (w.waits.map rWt),.own (w.log.map rC),.own (w.fresh.map rI),.own (w.spy.map rS),.own (w.stolen.map rSt),.own (w.frames.map rF),.own (w.said.map rI),.own (w.wins.map rWs),.own (w.told.map rT)],.int .i64 who,.str (bs x)] []=some (.agg [.own ((eM w who x).seats.map rM),.own ((eM w who x).waits.map rWt),.own ((eM w who x).log.map rC),.own ((eM w who x).fresh.map rI),.own ((eM w who x).spy.map rS),.own ((eM w who x).stolen.map rSt),.own ((eM w who x).frames.map rF),.own ((eM w who x).said.map rI),.own ((eM w who x).wins.map rWs),.own ((eM w who x).told.map rT)],[]):=by
 rw[azV];simp only[KM];have z8:=z.seats8;have zs:=z.said8;have zf:=z.frames40;have w0:=hw.1;have w1:who<w.seats.length:=by have:=hw.2;omega
 have w2:who<w.said.length:=by have:=hw.2;omega
 obtain⟨a1,a2,a3,a4,a5⟩:=z.seat _ (ixm w.seats who w0 w1);obtain⟨s0,s1⟩:=z.saidR _ (ixm w.said who w0 w2);unfold eM;generalize hm:ix w.seats who=m at a1 a2 a3 a4 a5;generalize hs:ix w.said who=s at s0 s1;by_cases h40:w.frames.length=40
 ·have h':(w.frames.length:Int)=40:=by omega
  have hd:decide (¬(w.frames.length:Int)=40)=false:=ji (fun x=>x h')
  simp(disch:=omega) only[K1,aQ,↓aA,hd];simp[h40]
 have h40':¬(w.frames.length:Int)=40:=by omega
 by_cases h999:s=999
 ·have hd:decide (s=999)=true:=jd h999;simp(disch:=omega) only[K1,↓aA,d8,bJ,aY,h40',hs,hd];simp[h999]
 rw[jc (fun x=>x.elim h40 h999)]
 have h:=aeC L D hL m.inn m.who m.epoch m.keys m.own m.init m.tag (by omega) (s+1) x
 have e1:(⟨m.inn,m.who,m.keys,m.own,m.epoch,m.init,m.tag⟩:Member)=m:=rfl;rw[e1]at h;cases hf:nU m (s+1) x with
 |none=>
  rw[hf]at h;simp only[rF]at h;simp(disch:=omega) only[K1,jx,cN,aJ,Int.reduceLE,Nat.reduceAdd,nE,aZ,aR,↓aA,d8,dD,dE,bJ,kX,aY,jA,kO,kP,kQ,kR,kS,kT,bG,bM,QQ,h40',hs,h999,hm,bA,h]
 |some f=>
  rw[hf]at h;simp only[rF]at h;have e3:(⟨f.src,f.key,f.n,f.text⟩:Frame)=f:=rfl;simp(disch:=omega) only[K1,jx,aV,aJ,Int.reduceLE,Nat.reduceAdd,nE,aZ,aR,↓aA,d8,dD,dE,bJ,kX,aY,jA,kO,kP,kQ,kR,kS,kT,bG,bM,QQ,h40',hs,h999,hm,bA,h,e3,aE,ku]
  rfl
theorem ap6(hL:1099511627776<=L)(w:World)(z:WI w)(who pos:Int)(hw:aH who)(hp:0<=pos/\pos<w.frames.length):ev E L (D+311) 101 [.agg [.own (w.seats.map rM),.own (w.waits.map rWt),.own (w.log.map rC),.own (w.fresh.map rI),.own (w.spy.map rS),.own (w.stolen.map rSt),.own (w.frames.map rF),.own (w.said.map rI),.own (w.wins.map rWs),.own (w.told.map rT)],.int .i64 who,.int .i64 pos] []=some (.agg [.own ((eN w who pos).seats.map rM),.own ((eN w who pos).waits.map rWt),.own ((eN w who pos).log.map rC),.own ((eN w who pos).fresh.map rI),.own ((eN w who pos).spy.map rS),.own ((eN w who pos).stolen.map rSt),.own ((eN w who pos).frames.map rF),.own ((eN w who pos).said.map rI),.own ((eN w who pos).wins.map rWs),.own ((eN w who pos).told.map rT)],[]):=by
 rw[auC];simp only[KM];have z8:=z.seats8;have z9:=z.wins8;have zt:=z.told320;have w0:=hw.1;have w1:who<w.seats.length:=by have:=hw.2;omega
 have w2:who<w.wins.length:=by have:=hw.2;omega
 have p0:=hp.1;have p1:=hp.2;obtain⟨a1,a2,a3,a4,a5⟩:=z.seat _ (ixm w.seats who w0 w1);obtain⟨q1,q2⟩:=z.sz.win _ (ixm w.wins who w0 w2);unfold eN;generalize hm:ix w.seats who=m at a1 a2 a3 a4 a5;generalize hs:ix w.wins who=s at q1 q2;generalize hf:ix w.frames pos=f;by_cases h320:w.told.length=320
 ·have h':(w.told.length:Int)=320:=by omega
  have hd:decide ((w.told.length:Int)=320)=true:=jd h';simp(disch:=omega) only[K1,↓aA,hd];simp[h320]
 have h320':¬(w.told.length:Int)=320:=by omega
 rw[jc h320];have h:=ap3 L (D+1) hL m.inn m.who m.epoch m.keys m.own m.init m.tag a1 s (by omega) q2 f.src f.key f.n f.text
 have e1:(⟨m.inn,m.who,m.keys,m.own,m.epoch,m.init,m.tag⟩:Member)=m:=rfl;have e2:(⟨f.src,f.key,f.n,f.text⟩:Frame)=f:=rfl;rw[e1,e2]at h;cases hg:oL m s f with
 |none=>
  rw[hg]at h;simp(disch:=omega) only[K1,jx,cN,aJ,Int.reduceLE,Nat.reduceAdd,nF,aZ,aR,↓aA,jA,kO,kP,kQ,kR,kS,kT,bG,bM,ab8,ab9,abA,abB,DW,CT,nD,AX,dW,eC,QR,eH,kU,h320',hm,hs,hf,h]
 |some x=>
  rw[hg]at h;simp(disch:=omega) only[K1,jx,aV,aJ,Int.reduceLE,Nat.reduceAdd,nF,aZ,aR,↓aA,jA,kO,kP,kQ,kR,kS,kT,bG,bM,ab8,ab9,abA,abB,DW,CT,nD,AX,dW,eC,QR,eH,kU,h320',hm,hs,hf,h,aE,ku]
  rfl
end
end Kw.Sp
namespace Kw.Sp
open Go Go.Proofs
def jS(p:Nat):List Wait->Nat->List Wait
 |[],_=>[]
 |x::r,k=>(if k=p then[]else[x])++jS p r (k+1)
theorem H9(p:Nat):∀(l:List Wait) (k:Nat),p<k->jS p l k=l
 |[],_,_=>rfl
 |x::r,k,h=>by rw[jS,jc (by omega),H9 p r (k+1) (by omega)];rfl
theorem F4(p:Nat):∀(l:List Wait) (k:Nat),k<=p->jS p l k=l.eraseIdx (p-k)
 |[],_,_=>by simp[jS]
 |x::r,k,h=>by
  rw[jS];by_cases e:k=p
  ·subst e;rw[je rfl,H9 _ r (k+1) (by omega)];simp
  ·rw[jc e,F4 p r (k+1) (by omega),show p-k=(p-(k+1))+1 by omega];rfl
section
variable (L D:Nat)
theorem aeI(hL:1099511627776<=L)(w:World)(z:WSz w)(p:Nat):∀(n k:Nat) (acc:List Wait),w.waits.length-k<n->k<=w.waits.length->acc.length<=k->
 AC L D n (w.seats.map rM) (w.waits.map rWt) (w.log.map rC) (w.fresh.map rI) (w.spy.map rS) (w.stolen.map rSt) (w.frames.map rF) (w.said.map rI) (w.wins.map rWs) (w.told.map rT) [] [] [] [] [] [] [] [] [] [] (acc.map rWt) w.seats.length w.waits.length w.log.length w.fresh.length w.spy.length w.stolen.length w.frames.length w.said.length w.wins.length w.told.length 0 0 0 0 0 0 0 0 0 0 p acc.length k=some (.agg [.own (({w with waits:=acc++jS p (w.waits.drop k) k}).seats.map rM),.own (({w with waits:=acc++jS p (w.waits.drop k) k}).waits.map rWt),.own (({w with waits:=acc++jS p (w.waits.drop k) k}).log.map rC),.own (({w with waits:=acc++jS p (w.waits.drop k) k}).fresh.map rI),.own (({w with waits:=acc++jS p (w.waits.drop k) k}).spy.map rS),.own (({w with waits:=acc++jS p (w.waits.drop k) k}).stolen.map rSt),.own (({w with waits:=acc++jS p (w.waits.drop k) k}).frames.map rF),.own (({w with waits:=acc++jS p (w.waits.drop k) k}).said.map rI),.own (({w with waits:=acc++jS p (w.waits.drop k) k}).wins.map rWs),.own (({w with waits:=acc++jS p (w.waits.drop k) k}).told.map rT)],[]):=by
 intro n;induction n with
 |zero=>intro k acc h;omega
 |succ n ih=>
  intro k acc hn hk ha;rw[NP];simp only[KM];have z1:=z.waits;by_cases h:k<w.waits.length
  case neg=>
   have h':¬(k:Int)<w.waits.length:=by omega
   simp(disch:=omega) only[K1,↓aA,h'];rw[js (by omega)];simp[jS]
  have h':(k:Int)<w.waits.length:=by omega
  rw[bU w.waits k h,jS];by_cases h1:k=p
  ·have h1':(k:Int)=p:=by omega
   have hd:decide (¬(k:Int)=p)=false:=ji (fun x=>x h1')
   have:=ih (k+1) acc (by omega) (by omega) (by omega)
   simp(disch:=omega) only[K1,aQ,↓aA,h',hd,aG,this];rw[je h1];rfl
  ·have h1':¬(k:Int)=p:=by omega
   have:=ih (k+1) (acc++[ix w.waits (k:Int)]) (by omega) (by omega) (by simp;omega)
   have e1:(⟨(ix w.waits (k:Int)).who,(ix w.waits (k:Int)).pos,(ix w.waits (k:Int)).leaf,(ix w.waits (k:Int)).key⟩:Wait)=ix w.waits (k:Int):=rfl;simp(disch:=omega) only[K1,jx,aV,aJ,Nat.reduceAdd,GD,aZ,aR,↓aA,yI,yJ,yK,yL,QS,kY,lH,h',h1',aE,e1,aG,this];rw[jc h1];simp
theorem ajC(hL:1099511627776<=L)(w:World)(z:WSz w)(p:Nat):ev E L (D+1) 168 [.agg [.own (w.seats.map rM),.own (w.waits.map rWt),.own (w.log.map rC),.own (w.fresh.map rI),.own (w.spy.map rS),.own (w.stolen.map rSt),.own (w.frames.map rF),.own (w.said.map rI),.own (w.wins.map rWs),.own (w.told.map rT)],.int .i64 p] []=some (.agg [.own (({w with waits:=w.waits.eraseIdx p}).seats.map rM),.own (({w with waits:=w.waits.eraseIdx p}).waits.map rWt),.own (({w with waits:=w.waits.eraseIdx p}).log.map rC),.own (({w with waits:=w.waits.eraseIdx p}).fresh.map rI),.own (({w with waits:=w.waits.eraseIdx p}).spy.map rS),.own (({w with waits:=w.waits.eraseIdx p}).stolen.map rSt),.own (({w with waits:=w.waits.eraseIdx p}).frames.map rF),.own (({w with waits:=w.waits.eraseIdx p}).said.map rI),.own (({w with waits:=w.waits.eraseIdx p}).wins.map rWs),.own (({w with waits:=w.waits.eraseIdx p}).told.map rT)],[]):=by
 rw[auT];have:=aeI L D hL w z p L 0 [] (by have:=z.waits;omega) (by omega) (by simp)
 simp only[K1];rw[qb,qg,F4 p _ 0 (by omega)]at this
 exact this
theorem aeJ(hL:1099511627776<=L)(w:World)(z:WI w)(who pos:Int)(hw:aH who)(hp:0<=pos/\pos<w.log.length):∀(n k:Nat),w.waits.length-k<n->k<=w.waits.length->
 tC L (D+310) n (w.seats.map rM) (w.waits.map rWt) (w.log.map rC) (w.fresh.map rI) (w.spy.map rS) (w.stolen.map rSt) (w.frames.map rF) (w.said.map rI) (w.wins.map rWs) (w.told.map rT) [] [] [] [] [] [] [] [] [] [] w.seats.length w.waits.length w.log.length w.fresh.length w.spy.length w.stolen.length w.frames.length w.said.length w.wins.length w.told.length 0 0 0 0 0 0 0 0 0 0 who pos k=some (.agg [.own ((joinGo w who pos (w.waits.drop k) k).seats.map rM),.own ((joinGo w who pos (w.waits.drop k) k).waits.map rWt),.own ((joinGo w who pos (w.waits.drop k) k).log.map rC),.own ((joinGo w who pos (w.waits.drop k) k).fresh.map rI),.own ((joinGo w who pos (w.waits.drop k) k).spy.map rS),.own ((joinGo w who pos (w.waits.drop k) k).stolen.map rSt),.own ((joinGo w who pos (w.waits.drop k) k).frames.map rF),.own ((joinGo w who pos (w.waits.drop k) k).said.map rI),.own ((joinGo w who pos (w.waits.drop k) k).wins.map rWs),.own ((joinGo w who pos (w.waits.drop k) k).told.map rT)],[]):=by
 intro n;induction n with
 |zero=>intro k h;omega
 |succ n ih=>
  intro k hn hk;rw[NI];simp only[KM];have z1:=z.sz.waits;have z8:=z.seats8;have w0:=hw.1;have w1:who<w.seats.length:=by have:=hw.2;omega
  have p0:=hp.1;have p1:=hp.2;by_cases h:k<w.waits.length
  case neg=>
   have h':¬(k:Int)<w.waits.length:=by omega
   simp(disch:=omega) only[K1,↓aA,h'];rw[js (by omega)];rfl
  have h':(k:Int)<w.waits.length:=by omega
  have next:=ih (k+1) (by omega) (by omega)
  rw[bU w.waits k h,joinGo];generalize hx:ix w.waits (k:Int)=x;by_cases h1:x.who=who
  case neg=>
   rw[jc (fun y=>h1 y.1)]
   simp(disch:=omega) only[K1,↓aA,yI,yJ,yK,yL,kY,lH,h',hx,h1,aG,next]
  have hd1:decide (x.who=who)=true:=jd h1;by_cases h2:x.pos=pos
  case neg=>
   rw[jc (fun y=>h2 y.2)]
   simp(disch:=omega) only[K1,↓aA,yI,yJ,yK,yL,kY,lH,h',hx,hd1,h2,aG,next]
  have hd2:decide (x.pos=pos)=true:=jd h2;rw[je ⟨h1,h2⟩];obtain⟨b1,b2,b3⟩:=z.cmt _ (ixm w.log pos p0 p1);generalize hc:ix w.log pos=c at b1 b2 b3;have hj:=aeB L D hL who x.leaf x.key c.sender c.tag c.name c.add c.remove c.leaf c.keys c.boxes c.wkey c.wik c.wis c.wsk c.wss (by omega)
  have e2:(⟨c.sender,c.tag,c.name,c.add,c.remove,c.leaf,c.keys,c.boxes,c.wkey,c.wik,c.wis,c.wsk,c.wss⟩:Commit)=c:=rfl;rw[e2]at hj;cases hm:iR who x.leaf x.key c with
  |none=>
   rw[hm]at hj;simp only[rM]at hj;simp(disch:=omega) only[K1,Int.reduceLE,Nat.reduceAdd,↓aA,jM,bZ,bG,sB,bM,ID,IE,IG,IH,II,IJ,IK,IL,IM,IO,wT,wU,wV,nS,mN,yI,yJ,yK,yL,kY,lH,h',hx,hd1,hd2,hc,hj,aG,next]
  |some m=>
   rw[hm]at hj;simp only[rM]at hj;have e3:(⟨m.inn,m.who,m.keys,m.own,m.epoch,m.init,m.tag⟩:Member)=m:=rfl;have zz:WSz {w with seats:=cA w.seats who m}:={z.sz with
    seats:=by have:=z.sz.seats;simp[cA];omega
    seat:=fun q hq=>by
     rcases qy hq with hq|hq
     ·exact z.sz.seat q hq
     ·subst hq;unfold iR at hm;split at hm
      ·rename_i g;cases hm;have hk:=eA (mG g.1).2.2.2.2.2.1;have hpl:=kE (treMeet (treLeaf who) (treLeaf c.sender)) c.wss;have htu:=cU (treMeet (treLeaf who) (treLeaf c.sender));refine⟨by simp[pP];omega,by simp[pP];omega,fun x=>by cases x⟩
      ·cases hm}
   have hg:=ajC L (D+309) hL {w with seats:=cA w.seats who m} zz k
   simp only[cA]at hg;simp(disch:=omega) only[K1,Int.reduceLE,Nat.reduceAdd,↓aA,jM,bZ,bG,sB,bM,ID,IE,IG,IH,II,IJ,IK,IL,IM,IO,wT,wU,wV,nS,mN,yI,yJ,yK,yL,kY,lH,h',hx,hd1,hd2,hc,hj,e3,ku,hg]
   rfl
theorem ajD(hL:1099511627776<=L)(w:World)(z:WI w)(who pos:Int)(hw:aH who)(hp:0<=pos/\pos<w.log.length):ev E L (D+311) 100 [.agg [.own (w.seats.map rM),.own (w.waits.map rWt),.own (w.log.map rC),.own (w.fresh.map rI),.own (w.spy.map rS),.own (w.stolen.map rSt),.own (w.frames.map rF),.own (w.said.map rI),.own (w.wins.map rWs),.own (w.told.map rT)],.int .i64 who,.int .i64 pos] []=some (.agg [.own ((dF w who pos).seats.map rM),.own ((dF w who pos).waits.map rWt),.own ((dF w who pos).log.map rC),.own ((dF w who pos).fresh.map rI),.own ((dF w who pos).spy.map rS),.own ((dF w who pos).stolen.map rSt),.own ((dF w who pos).frames.map rF),.own ((dF w who pos).said.map rI),.own ((dF w who pos).wins.map rWs),.own ((dF w who pos).told.map rT)],[]):=by
 rw[auB];simp only[KM];have z8:=z.seats8;have w0:=hw.1;have w1:who<w.seats.length:=by have:=hw.2;omega
 unfold dF;cases hi:(ix w.seats who).inn with
 |true=>
  simp(disch:=omega) only[K1,↓aA,jA,bG,bM,hi]
 |false=>
  have:=aeJ L D hL w z who pos hw hp L 0 (by have:=z.sz.waits;omega) (by omega)
  simp(disch:=omega) only[K1,↓aA,jA,bG,bM,hi];exact this
end
end Kw.Sp
namespace Kw.Sp
open Go Go.Proofs
section
variable (L D:Nat)
theorem YU(l:List Int)(i j v:Int)(P:Int->Prop)(hl:∀x∈l,P x)(hv:P v)(h0:0<=j)(h1:j<l.length):P (ix (cA l i v) j):=by
 have:=ixm (cA l i v) j h0 (by simp[cA];exact h1)
 rcases qy this with h|h
 ·exact hl _ h
 ·rw[h];exact hv
theorem VW(hL:1099511627776<=L)(w:World)(z:WI w)(e:Event)(hw:aH e.who)(ha:inR e.add)(hlg:w.log.length≠16)(lf ky:S):
 tB L (D+310) (w.seats.map rM) (w.waits.map rWt) (w.log.map rC) (w.fresh.map rI) (w.spy.map rS) (w.stolen.map rSt) (w.frames.map rF) (w.said.map rI) (w.wins.map rWs) (w.told.map rT) [] [] [] [] [] [] [] [] [] [] w.seats.length w.waits.length w.log.length w.fresh.length w.spy.length w.stolen.length w.frames.length w.said.length w.wins.length w.told.length e.kind e.who e.add e.remove e.pos (bs e.text) 0 0 0 0 0 0 0 0 0 0 e.add w.log.length (bs lf) (bs ky) (bs (makKey lf)) (bs (makKey ky))=some (.agg [.own ((commitEnd w e lf ky).seats.map rM),.own ((commitEnd w e lf ky).waits.map rWt),.own ((commitEnd w e lf ky).log.map rC),.own ((commitEnd w e lf ky).fresh.map rI),.own ((commitEnd w e lf ky).spy.map rS),.own ((commitEnd w e lf ky).stolen.map rSt),.own ((commitEnd w e lf ky).frames.map rF),.own ((commitEnd w e lf ky).said.map rI),.own ((commitEnd w e lf ky).wins.map rWs),.own ((commitEnd w e lf ky).told.map rT)],[]):=by
 rw[UY];simp only[KM];have z8:=z.seats8;have zf:=z.fresh8;have zw:=z.waitsL;have zl:=z.log16;have w0:=hw.1;have w1:e.who<w.seats.length:=by have:=hw.2;omega
 have w2:e.who<w.fresh.length:=by have:=hw.2;omega
 obtain⟨a1,a2,a3,a4,a5⟩:=z.seat _ (ixm w.seats e.who w0 w1);obtain⟨f0,f1⟩:=z.freshR _ (ixm w.fresh e.who w0 w2);unfold commitEnd;generalize hm:ix w.seats e.who=m at a1 a2 a3 a4 a5;generalize hf:ix w.fresh e.who=f at f0 f1;have h:=VP L D hL m.inn m.who m.epoch m.keys m.own m.init m.tag (by omega) (aO e.who (f+1)) e.add e.remove (makKey lf) (makKey ky) (by omega)
 have e1:(⟨m.inn,m.who,m.keys,m.own,m.epoch,m.init,m.tag⟩:Member)=m:=rfl;rw[e1]at h;cases hc:iA m (aO e.who (f+1)) e.add e.remove (makKey lf) (makKey ky)with
 |none=>
  rw[hc]at h;simp only[rM,rC]at h;simp(disch:=omega) only[K1,Nat.reduceAdd,↓aA,d8,bJ,aY,jA,kO,kP,kQ,kR,kS,kT,bG,bM,hm,hf,bA,tF _ _ hL,h]
 |some p=>
  obtain⟨x,c⟩:=p;rw[hc]at h;simp only[rM,rC]at h;have e2:(⟨x.inn,x.who,x.keys,x.own,x.epoch,x.init,x.tag⟩:Member)=x:=rfl;have e3:(⟨c.sender,c.tag,c.name,c.add,c.remove,c.leaf,c.keys,c.boxes,c.wkey,c.wik,c.wis,c.wsk,c.wss⟩:Commit)=c:=rfl;by_cases h0:0<=e.add
  ·have ha1:=ha.2;have w3:e.add< (w.fresh.set e.who.toNat (f+1)).length:=by rw[ku];omega
   have hr:=YU w.fresh e.who e.add (f+1) (fun x=>0<=x/\x<=1000) (fun x hx=>by have:=z.freshR x hx;omega) (by omega) h0 (by omega)
   unfold cA at hr;obtain⟨r0,r1⟩:=hr;simp(disch:=omega) only[K1,jx,aV,aJ,Int.reduceLE,Nat.reduceAdd,OY,GD,aZ,aR,↓aA,d8,dD,dE,bJ,kX,aY,jA,kO,kP,kQ,kR,kS,kT,jM,bZ,bG,sB,bM,KC,QS,hm,hf,bA,tF _ _ hL,h,e2,e3,aE,h0,ku]
   rfl
  ·simp(disch:=omega) only[K1,jx,aV,aJ,Int.reduceLE,Nat.reduceAdd,OY,aZ,aR,↓aA,d8,dD,dE,bJ,kX,aY,jA,kO,kP,kQ,kR,kS,kT,jM,bZ,bG,sB,bM,KC,hm,hf,bA,tF _ _ hL,h,e2,e3,aE,h0,ku]
   rfl
theorem YV(hL:1099511627776<=L)(w:World)(z:WI w)(e:Event)(hw:aH e.who):ev E L (D+311) 96 [.agg [.own (w.seats.map rM),.own (w.waits.map rWt),.own (w.log.map rC),.own (w.fresh.map rI),.own (w.spy.map rS),.own (w.stolen.map rSt),.own (w.frames.map rF),.own (w.said.map rI),.own (w.wins.map rWs),.own (w.told.map rT)],.agg [.int .i64 e.kind,.int .i64 e.who,.int .i64 e.add,.int .i64 e.remove,.int .i64 e.pos,.str (bs e.text)]] []=some (.agg [.own ((bV w e).seats.map rM),.own ((bV w e).waits.map rWt),.own ((bV w e).log.map rC),.own ((bV w e).fresh.map rI),.own ((bV w e).spy.map rS),.own ((bV w e).stolen.map rSt),.own ((bV w e).frames.map rF),.own ((bV w e).said.map rI),.own ((bV w e).wins.map rWs),.own ((bV w e).told.map rT)],[]):=by
 rw[azT];simp only[KM];have zf:=z.fresh8;have zl:=z.log16;have w0:=hw.1;have w2:e.who<w.fresh.length:=by have:=hw.2;omega
 obtain⟨f0,f1⟩:=z.freshR _ (ixm w.fresh e.who w0 w2);unfold bV;have hj:=fun ha hlg lf ky=>VW L D hL w z e hw ha hlg lf ky
 generalize hf:ix w.fresh e.who=f at f0 f1;by_cases h16:w.log.length=16
 ·have h':(w.log.length:Int)=16:=by omega
  have hd:decide (¬(w.log.length:Int)=16)=false:=ji (fun x=>x h')
  rw[je (.inl h16)];simp(disch:=omega) only[K1,aQ,↓aA,hd]
 have h16':¬(w.log.length:Int)=16:=by omega
 by_cases h99:99<=f
 ·rw[je (.inr (.inl h99))];simp(disch:=omega) only[K1,↓aA,d8,bJ,aY,h16',hf,h99]
 by_cases ha: -1<=e.add/\e.add<=7
 case neg=>
  rw[je (.inr (.inr (.inl ha)))];simp(disch:=omega) only[K1,Int.reduceNeg,↓aA,d8,bJ,aY,h16',hf,h99,aM,ha]
 obtain⟨ha1,ha2⟩:=id ha;have mk0:makKey []=[]:=rfl;by_cases h0:0<=e.add
 ·have w3:e.add<w.fresh.length:=by omega
  obtain⟨g0,g1⟩:=z.freshR _ (ixm w.fresh e.add h0 w3);generalize hg:ix w.fresh e.add=g at g0 g1;by_cases h98:98<=g
  ·rw[je (.inr (.inr (.inr ⟨h0,h98⟩)))];simp(disch:=omega) only[K1,Int.reduceNeg,↓aA,d8,bJ,aY,h16',hf,h99,aM,ha1,ha2,h0,hg,h98]
  ·rw[jc (fun x=>x.elim h16 fun x=>x.elim h99 fun x=>x.elim (fun y=>y ha) fun y=>h98 y.2),je h0]
   simp(disch:=omega) only[K1,Int.reduceNeg,↓aA,d8,bJ,aY,h16',hf,h99,aM,ha1,ha2,h0,hg,h98,bA,tF _ _ hL,eE _ _ hL,hj ha h16]
 ·rw[jc (fun x=>x.elim h16 fun x=>x.elim h99 fun x=>x.elim (fun y=>y ha) fun y=>h0 y.1),jc h0]
  have:=hj ha h16 [] [];rw[mk0]at this;simp(disch:=omega) only[K1,Int.reduceNeg,↓aA,d8,bJ,aY,h16',hf,h99,aM,ha1,ha2,h0,this]
theorem ajE(hL:1099511627776<=L)(w:World)(z:WI w)(e:Event):ev E L (D+312) 59 [.agg [.own (w.seats.map rM),.own (w.waits.map rWt),.own (w.log.map rC),.own (w.fresh.map rI),.own (w.spy.map rS),.own (w.stolen.map rSt),.own (w.frames.map rF),.own (w.said.map rI),.own (w.wins.map rWs),.own (w.told.map rT)],.agg [.int .i64 e.kind,.int .i64 e.who,.int .i64 e.add,.int .i64 e.remove,.int .i64 e.pos,.str (bs e.text)]] []=some (.agg [.own ((step w e).seats.map rM),.own ((step w e).waits.map rWt),.own ((step w e).log.map rC),.own ((step w e).fresh.map rI),.own ((step w e).spy.map rS),.own ((step w e).stolen.map rSt),.own ((step w e).frames.map rF),.own ((step w e).said.map rI),.own ((step w e).wins.map rWs),.own ((step w e).told.map rT)],[]):=by
 rw[azO];simp only[KM];unfold step;by_cases hw:aH e.who
 case neg=>
  have h':¬(0<=e.who/\e.who<=7):=hw;rw[jc hw];simp only[K1,↓aA,aM,h']
 obtain⟨w0,w1⟩:=id hw;rw[je hw];by_cases k1:e.kind=1
 ·have hd:decide (e.kind=1)=true:=jd k1;rw[je k1];simp only[K1,Nat.reduceAdd,↓aA,aM,w0,w1,hd,YV _ _ hL w z e hw]
 rw[jc k1];by_cases k4:e.kind=4
 ·have hd:decide (e.kind=4)=true:=jd k4;rw[je k4];simp only[K1,Nat.reduceAdd,↓aA,aM,w0,w1,k1,hd,aeH _ _ hL w z e.who hw]
 rw[jc k4];by_cases k5:e.kind=5
 ·have hd:decide (e.kind=5)=true:=jd k5;rw[je k5];simp only[K1,Nat.reduceAdd,↓aA,aM,w0,w1,k1,k4,hd,ap5 _ _ hL w z e.who hw]
 rw[jc k5];have hll:iS .i64 (w.log.length:Int) 1=(w.log.length:Int)-1:=d9 (by omega) (by have:=z.log16;omega)
 have hff:iS .i64 (w.frames.length:Int) 1=(w.frames.length:Int)-1:=d9 (by omega) (by have:=z.frames40;omega)
 by_cases k2:e.kind=2
 ·have hd:decide (e.kind=2)=true:=jd k2;rw[je k2];by_cases hp:0<=e.pos/\e.pos<w.log.length
  ·have p0:=hp.1;have p1:e.pos<=(w.log.length:Int)-1:=by omega
   rw[je hp];simp only[K1,Nat.reduceAdd,↓aA,aM,w0,w1,k1,k4,k5,hd,hll,p0,p1,ajB _ _ hL w z e.who e.pos hw hp]
  ·rw[jc hp];by_cases p0:0<=e.pos
   ·have p1:¬e.pos<=(w.log.length:Int)-1:=by omega
    simp only[K1,and_false,↓aA,aM,w0,w1,k1,k4,k5,hd,hll,p0,p1]
   ·simp only[K1,Ji,↓aA,aM,w0,w1,k1,k4,k5,hd,hll,p0]
 rw[jc k2];by_cases k3:e.kind=3
 ·have hd:decide (e.kind=3)=true:=jd k3;rw[je k3];by_cases hp:0<=e.pos/\e.pos<w.log.length
  ·have p0:=hp.1;have p1:e.pos<=(w.log.length:Int)-1:=by omega
   rw[je hp];simp only[K1,Nat.reduceAdd,↓aA,aM,w0,w1,k1,k4,k5,k2,hd,hll,p0,p1,ajD _ _ hL w z e.who e.pos hw hp]
  ·rw[jc hp];by_cases p0:0<=e.pos
   ·have p1:¬e.pos<=(w.log.length:Int)-1:=by omega
    simp only[K1,and_false,↓aA,aM,w0,w1,k1,k4,k5,k2,hd,hll,p0,p1]
   ·simp only[K1,Ji,↓aA,aM,w0,w1,k1,k4,k5,k2,hd,hll,p0]
 rw[jc k3];by_cases k6:e.kind=6
 ·have hd:decide (e.kind=6)=true:=jd k6;rw[je k6];by_cases hp:0<=e.pos/\e.pos<w.frames.length
  ·have p0:=hp.1;have p1:e.pos<=(w.frames.length:Int)-1:=by omega
   rw[je hp];simp only[K1,Nat.reduceAdd,↓aA,aM,w0,w1,k1,k4,k5,k2,k3,hd,hff,p0,p1,ap6 _ _ hL w z e.who e.pos hw hp]
  ·rw[jc hp];by_cases p0:0<=e.pos
   ·have p1:¬e.pos<=(w.frames.length:Int)-1:=by omega
    simp only[K1,and_false,↓aA,aM,w0,w1,k1,k4,k5,k2,k3,hd,hff,p0,p1]
   ·simp only[K1,Ji,↓aA,aM,w0,w1,k1,k4,k5,k2,k3,hd,hff,p0]
 rw[jc k6];simp only[K1,↓aA,aM,w0,w1,k1,k4,k5,k2,k3,k6]
end
end Kw.Sp
namespace Kw.Sp
open Go Go.Proofs
structure WJ(w:World):Prop extends WI w where
 waitsLog:w.waits.length<=w.log.length
 nameL:∀c∈w.log,c.name.length<=300
theorem pig:∀(l p:List Int),l.Nodup->(∀x∈l,x∈p)->l.length<=p.length
 |[],_,_,_=>Nat.zero_le _
 |x::l,p,h,hs=>by
  have hx:=hs x (by simp)
  have h1:=wz.1 h;have h2:=pig l (p.erase x) h1.2 (fun y hy=>(List.mem_erase_of_ne (fun e=>h1.1 (by rw[<-e];exact hy))).2 (hs y (by simp[hy])))
  rw[List.length_erase_of_mem hx]at h2;have:=List.length_pos_of_mem hx;simp;omega
theorem DE{m:Member}(h:fitsAll m=true){k:Nat}(hk:k<m.own.length):(m.own[k]).node∈pathOf m.who/\secOk (m.own[k]).sec=true/\dJ (m.own.take k) (m.own[k]).node=[]:=by
 have:=kj.1 h k (v5.2 hk);unfold oK at this;rw[aK m.own k hk]at this;simp only[jg,jb]at this;exact⟨this.1,this.2.1,this.2.2.2.2⟩
theorem aaW{m:Member}(h:fitsAll m=true):m.own.length<=15:=by
 have h1:(m.own.map (·.node)).Nodup:=by
  show List.Pairwise _ _;rw[ww];intro i j hi hj hij e;simp only[kf]at hi hj;simp only[yw]at e;have h2:=(DE h hj).2.2;unfold dJ at h2;split at h2
  ·rename_i o ho;obtain⟨k,hk,hok⟩:=qh.1 (List.mem_of_mem_take (ye ho));have h3:=pF (DE h hk).2.1;rw[hok,h2]at h3;simp at h3
  ·rename_i ho;have:=Jh.1 ho (m.own[i]) (List.mem_take_iff_getElem.2 ⟨i,by omega,rfl⟩)
   simp[e]at this
 have h2:=pig _ _ h1 (fun x hx=>by
  obtain⟨o,ho,e⟩:=qf.1 hx;obtain⟨k,hk,hok⟩:=qh.1 ho;rw[<-e,<-hok];exact(DE h hk).1)
 rw[kf]at h2;have:=eX m.who;omega
def AL(m:Member):Prop:=(m.inn=true->m.keys.length=15)/\(m.inn=false->m.keys=[])/\m.own.length<=30/\m.tag.length<=600/\m.keys.length<=15
theorem BS:AL bC:=⟨fun h=>(by cases h),fun _=>rfl,Nat.zero_le _,Nat.zero_le _,Nat.zero_le _⟩
theorem wP(n:Int)(s:S):(aU n s).length<=15:=by
 rw[kE];have:=cU n;omega
theorem BT{m:Member}(hi:m.inn=true)(hk:m.keys.length=15)(ho:m.own.length<=30)(ht:m.tag.length<=600):AL m:=
 ⟨fun _=>hk,fun h=>(by rw[hi]at h;cases h),ho,ht,by omega⟩
theorem SM{m m':Member}{c:Commit}{f:S}{a r:Int}{lf ky:S}(h:iA m f a r lf ky=some (m',c)):
 AL m'/\(c.tag.length<=300/\c.keys.length<=1000/\c.boxes.length<=1000)/\c.name.length<=300:=by
 unfold iA at h;split at h
 ·rename_i hc;cases h;unfold cH at hc;simp only[jg,jb]at hc;obtain⟨h1,h2,h3,h4,h5⟩:=hc;have hi:m.inn=true:=by
   unfold may at h3;simp only[jg]at h3;exact h3.1
  obtain⟨b1,b2,b3,b4,b5,b6,b7⟩:=m7 h1 hi;have hk:=eA b2;have hk':(B5 (baseT m.keys a r lf) m.who f).length=15:=by rw[MN,G6,hk]
  refine⟨BT rfl hk' (by show(aU _ _).length<=30;have:=wP (treLeaf m.who) f;omega) (by show(m.tag++f).length<=600;simp;omega),⟨by show m.tag.length<=300;omega,by show(B5 _ _ _).length<=1000;omega,?_⟩,by show f.length<=300;omega⟩
  show(boxesGo _ _ _).length<=1000;have hb:∀(ks:List S) (add:Int) (own:List Own),(boxesGo ks add own).length<=32*own.length:=by
   intro ks add own;induction own with
   |nil=>simp[boxesGo]
   |cons x l ih=>
    cases l with
    |nil=>simp[boxesGo]
    |cons y l=>
     have h1:=IA ks add y.sec (lW ks (bH x.node));have h2:=nP ks 5 (bH x.node).toNat;simp only[boxesGo,jl,jf]at ih⊢;unfold lW at h1;unfold lW;omega
  have:=hb (baseT m.keys a r lf) a (aU (treLeaf m.who) f);have:=wP (treLeaf m.who) f;omega
 ·cases h
theorem YW{m:Member}{c:Commit}(hm:AL m):AL (dH m c).1:=by
 unfold dH;split
 ·rename_i h;split
  ·rename_i ht;split
   ·exact BS
   ·split
    ·unfold hearPair;simp only;split
     ·exact hm
     ·split
      ·have hi:m.inn=true:=by
        unfold oB at ht;simp only[jg]at ht;exact ht.1
       obtain⟨b1,b2,b3,b4,b5,b6,b7⟩:=m7 h.1 hi;obtain⟨c1,c2,c3,c4,c5,c6,c7⟩:=mG h.2;have:=aaW b3;refine BT rfl (eA c6) ?_ ?_
       ·show(sG c.keys (oA m.own _)++aU _ _).length<=30;rw[jl];have h1:=G4 c.keys (oA m.own (aU (treMeet (treLeaf m.who) (treLeaf c.sender)) (bP m.own c.boxes)));have h2:=G5 m.own (aU (treMeet (treLeaf m.who) (treLeaf c.sender)) (bP m.own c.boxes));have h3:=wP (treMeet (treLeaf m.who) (treLeaf c.sender)) (bP m.own c.boxes);omega
       ·show(m.tag++c.name).length<=600;rw[jl];omega
      ·exact hm
    ·exact hm
  ·exact hm
 ·exact BS
theorem YX{w:Int}{leaf key:S}{c:Commit}{m:Member}(h:iR w leaf key c=some m):AL m:=by
 unfold iR at h;split at h
 ·rename_i hc;cases h;obtain⟨h1,h2,h3,h4,h5,h6,h7,h8,h9⟩:=hc;obtain⟨b1,b2,b3,b4,b5,b6,b7⟩:=m7 h9 rfl;have:=aaW b3;exact BT rfl (eA b2) (by omega) (by omega)
 ·cases h
theorem MQ(n top:Int):∀(l:List Int) (d:Bool),(seenGo n top l d).length<=l.length+1
 |[],d=>by cases d<;>simp[seenGo]
 |x::l,d=>by
  have h1:=MQ n top l (d||decide (x<n));have hd:∀l:List Int,(seenGo n top l true).length<=l.length:=by
   intro l;induction l with
   |nil=>simp[seenGo]
   |cons y l ih=>simp only[seenGo,jl,jf,Bool.true_or];split<;>split<;>simp_all<;>omega
  simp only[seenGo,jl,jf];by_cases h:d=false/\x<n
  ·have h2:=hd l;have e:(d||decide (x<n))=true:=by simp[h.2]
   rw[e,je h];split<;>simp<;>omega
  ·rw[jc h];split<;>simp<;>omega
def ajF(n:Nat)(x:Win):Prop:=(0<=x.top/\x.top<=999)/\x.seen.length<=n+1
theorem ap7{f:Frame}(h:fraOk f=true):1<=f.n/\f.n<=999:=by
 unfold fraOk at h;simp only[jg,jb]at h;exact h.1.2.2.2
theorem aeK{m:Member}{wins x:List Win}{f:Frame}{n:Nat}(h:oL m wins f=some x)(hw:wins.length<=n/\∀y∈wins,ajF n y):x.length<=n+1/\∀y∈x,ajF (n+1) y:=by
 unfold oL at h;split at h
 ·rename_i hh;have hf:1<=f.n/\f.n<=999:=by
   unfold yV at hh;simp only[jg]at hh;exact ap7 hh.2.1
  have hup:∀y∈wins,ajF (n+1) y:=fun y hy=>⟨(hw.2 y hy).1,by have:=(hw.2 y hy).2;omega⟩
  simp only at h;split at h
  ·cases h;refine⟨by simp;omega,fun y hy=>?_⟩
   rcases jv.1 hy with hy|hy
   ·exact hup y hy
   ·rw[qc.1 hy];exact⟨⟨by show 0<=f.n;omega,hf.2⟩,by simp⟩
  ·rename_i hk;split at h
   ·rename_i z hz;cases h;refine⟨by simp;omega,fun y hy=>?_⟩
    rcases qy hy with hy|hy
    ·exact hup y hy
    ·rw[hy];rcases winAt_lt wins f.key 0 with h1|h1
     ·omega
     ·obtain⟨g1,g2⟩:=hw.2 _ (ixm wins _ (by omega) (by omega:winAt wins f.key 0<wins.length))
      unfold winTake at hz;split at hz
      ·cases hz
      ·cases hz;refine⟨⟨by show 0<=max _ _;omega,by show max _ _<=999;omega⟩,?_⟩
       show(seenGo _ _ _ _).length<=_;have:=MQ f.n (max (ix wins (winAt wins f.key 0)).top f.n) (ix wins (winAt wins f.key 0)).seen false;omega
   ·cases h
 ·cases h
theorem mem_set1{A:Type}{l:List A}{i:Int}{x y:A}(h:y∈cA l i x):y∈l\/y=x:=qy h
theorem AM{A:Type}(l:List A)(i:Int)(x:A):(cA l i x).length=l.length:=by simp[cA]
theorem WJ.seatSet{w:World}(z:WJ w)(i:Int)(m:Member)(hm:AL m):WJ {w with seats:=cA w.seats i m}:=
 {z with
  seats8:=by show(cA _ _ _).length=8;rw[AM];exact z.seats8
  seat:=fun y hy=>by rcases mem_set1 hy with h|h;exact z.seat y h;rw[h];exact hm}
theorem WJ.hear{w:World}(z:WJ w)(who pos:Int)(hw:aH who):WJ (dQ w who pos):=by
 unfold dQ;simp only;split
 ·exact z.seatSet _ _ (YW (z.seat _ (ixm w.seats who hw.1 (by rw[z.seats8];have:=hw.2;omega))))
 ·exact z
theorem WJ.joinGo{w:World}(z:WJ w)(who pos:Int):∀(l:List Wait) (k:Nat),WJ (joinGo w who pos l k)
 |[],_=>z
 |x::l,k=>by
  unfold Kw.joinGo;split
  ·split
   ·rename_i m hm;have z':=z.seatSet who m (YX hm);have hl:(w.waits.eraseIdx k).length<=w.waits.length:=List.Sublist.length_le (List.eraseIdx_sublist _ _);exact{z' with
     waitsL:=by have:=z.waitsL;show(w.waits.eraseIdx k).length<=16;omega
     waitsLog:=by have:=z.waitsLog;show(w.waits.eraseIdx k).length<=w.log.length;omega}
   ·exact WJ.joinGo z who pos l (k+1)
  ·exact WJ.joinGo z who pos l (k+1)
theorem WJ.join{w:World}(z:WJ w)(who pos:Int):WJ (dF w who pos):=by
 unfold dF;split
 ·exact z
 ·exact z.joinGo _ _ _ _
theorem WJ.steal{w:World}(z:WJ w)(who:Int)(hw:aH who):WJ (cF w who):=by
 unfold cF;split
 ·exact z
 ·rename_i h;obtain⟨a1,a2,a3,a4,a5⟩:=z.seat _ (ixm w.seats who hw.1 (by rw[z.seats8];have:=hw.2;omega))
  have hk:(cO (ix w.seats who)).length<=31:=by
   unfold cO;split
   ·simp;omega
   ·simp
  have h1:=z.stolen12;have h2:=z.spyL;exact{z with
   stolen12:=by show(w.stolen++_).length<=12;simp;omega
   spyL:=by show(w.spy++_).length<=31*(w.stolen++_).length;simp only[jl,jf,jk];omega}
theorem WJ.say{w:World}(z:WJ w)(who:Int)(x:S)(hw:aH who):WJ (eM w who x):=by
 unfold eM;split
 ·exact z
 ·rename_i h;split
  ·obtain⟨s0,s1⟩:=z.saidR _ (ixm w.said who hw.1 (by rw[z.said8];have:=hw.2;omega))
   have hf:=z.frames40;exact{z with
    frames40:=by show(w.frames++_).length<=40;simp;omega
    said8:=by show(cA _ _ _).length=8;rw[AM];exact z.said8
    saidR:=fun y hy=>by rcases mem_set1 hy with h|h;exact z.saidR y h;rw[h];omega}
  ·exact z
theorem WJ.get{w:World}(z:WJ w)(who pos:Int)(hw:aH who):WJ (eN w who pos):=by
 unfold eN;split
 ·exact z
 ·rename_i h;split
  ·rename_i x hx;have ht:=z.told320;have hx':=aeK hx (z.win _ (ixm w.wins who hw.1 (by rw[z.wins8];have:=hw.2;omega)))
   exact{z with
    told320:=by show(w.told++_).length<=320;simp;omega
    wins8:=by show(cA _ _ _).length=8;rw[AM];exact z.wins8
    win:=fun l hl=>by
     show l.length<=(w.told++_).length/\∀x∈l,_/\_<=(w.told++_).length+1;simp only[jl,jf,jk];rcases mem_set1 hl with h|h
     ·obtain⟨b1,b2⟩:=z.win l h;exact⟨by omega,fun y hy=>⟨(b2 y hy).1,by have:=(b2 y hy).2;omega⟩⟩
     ·rw[h];exact hx'}
  ·exact z
theorem WJ.commitEnd{w:World}(z:WJ w)(e:Event)(hw:aH e.who)(h16:w.log.length≠16)(h99:¬99<=ix w.fresh e.who)(ha: -1<=e.add/\e.add<=7)(h98:¬(0<=e.add/\98<=ix w.fresh e.add))(lf ky:S):WJ (commitEnd w e lf ky):=by
 unfold Kw.commitEnd;split
 ·exact z
 ·rename_i m c hc;obtain⟨c1,c2,c3⟩:=SM hc;have z':=z.seatSet e.who m c1;have hl:=z.log16;have hwl:=z.waitsLog;obtain⟨f0,f1⟩:=z.freshR _ (ixm w.fresh e.who hw.1 (by rw[z.fresh8];have:=hw.2;omega))
  have hf1:∀x∈cA w.fresh e.who (ix w.fresh e.who+1),0<=x/\x<=99\/x∈w.fresh:=fun x hx=>by
   rcases mem_set1 hx with h|h
   ·exact Or.inr h
   ·exact Or.inl (by omega)
  have hf2:∀x∈cA w.fresh e.who (ix w.fresh e.who+1),0<=x/\x<=100:=fun x hx=>by
   rcases hf1 x hx with h|h
   ·omega
   ·exact z.freshR x h
  exact{z' with
   log16:=by show(w.log++[c]).length<=16;simp;omega
   cmt:=fun y hy=>by
    rcases jv.1 hy with h|h
    ·exact z.cmt y h
    ·rw[qc.1 h];exact c2
   nameL:=fun y hy=>by
    rcases jv.1 hy with h|h
    ·exact z.nameL y h
    ·rw[qc.1 h];exact c3
   waitsL:=by
    show(if 0<=e.add then _ else _:List Wait).length<=16
    split<;>(try simp)<;>omega
   waitsLog:=by
    show(if 0<=e.add then _ else _:List Wait).length<=(w.log++[c]).length
    split<;>(try simp)<;>omega
   fresh8:=by
    show(if 0<=e.add then _ else _:List Int).length=8
    have:=z.fresh8;split<;>simp[AM]<;>omega
   freshR:=fun y hy=>by
    change y∈(if 0<=e.add then _ else _:List Int)at hy
    split at hy
    ·rename_i h0;rcases mem_set1 hy with h|h
     ·exact hf2 y h
     ·have h8:e.add< (cA w.fresh e.who (ix w.fresh e.who+1)).length:=by rw[AM,z.fresh8];omega
      have hb:0<=ix (cA w.fresh e.who (ix w.fresh e.who+1)) e.add/\ix (cA w.fresh e.who (ix w.fresh e.who+1)) e.add<=98:=by
       by_cases he:e.who=e.add
       ·have:ix (cA w.fresh e.who (ix w.fresh e.who+1)) e.add=ix w.fresh e.who+1:=by
         rw[<-he];have hlt:e.who.toNat<w.fresh.length:=by rw[z.fresh8];have:=hw.2;omega
         simp[ix,cA,hlt]
        rw[this];rw[<-he]at h98;have:=hw.1;omega
       ·have:ix (cA w.fresh e.who (ix w.fresh e.who+1)) e.add=ix w.fresh e.add:=by
         have hne:e.who.toNat≠e.add.toNat:=by have:=hw.1;omega
         simp[ix,cA,List.getElem?_set_ne hne]
        rw[this];obtain⟨g0,g1⟩:=z.freshR _ (ixm w.fresh e.add h0 (by rw[z.fresh8];omega))
        omega
      omega
    ·exact hf2 y hy}
theorem WJ.commit{w:World}(z:WJ w)(e:Event)(hw:aH e.who):WJ (bV w e):=by
 unfold bV;split
 ·exact z
 ·rename_i h;have h1:w.log.length≠16:=fun x=>h (Or.inl x)
  have h2:¬99<=ix w.fresh e.who:=fun x=>h (Or.inr (Or.inl x))
  have h3: -1<=e.add/\e.add<=7:=Decidable.byContradiction fun x=>h (Or.inr (Or.inr (Or.inl x)))
  have h4:¬(0<=e.add/\98<=ix w.fresh e.add):=fun x=>h (Or.inr (Or.inr (Or.inr x)))
  split
  ·exact z.commitEnd e hw h1 h2 h3 h4 _ _
  ·exact z.commitEnd e hw h1 h2 h3 h4 _ _
theorem WJ.step{w:World}(z:WJ w)(e:Event):WJ (step w e):=by
 unfold Kw.step;split
 ·rename_i hw;split
  ·exact z.commit e hw
  split
  ·exact z.steal _ hw
  split
  ·exact z.say _ _ hw
  split
  ·split
   ·exact z.hear _ _ hw
   ·exact z
  split
  ·split
   ·exact z.join _ _
   ·exact z
  split
  ·split
   ·exact z.get _ _ hw
   ·exact z
  ·exact z
 ·exact z
theorem WJ.new{who:Int}(hw:aH who):WJ (bN who):=by
 unfold bN;rw[je hw];have hs:∀m∈(List.range 8).map (fun(k:Nat)=>if(k:Int)=who then dP who (aO who 1) (aO who 2)else bC),AL m:=by
  intro m hm;obtain⟨k,_,rfl⟩:=qf.1 hm;split
  ·unfold dP;split
   ·exact BT rfl (by show(B5 _ _ _).length=15;rw[MN];rfl) (by show(aU _ _).length<=30;have:=wP (treLeaf who) (aO who 1);omega) (by simp)
   ·exact BS
  ·exact BS
 exact{
  seats8:=by simp
  fresh8:=by simp
  said8:=by simp
  wins8:=by simp
  log16:=by simp
  waitsL:=by simp
  stolen12:=by simp
  spyL:=by simp
  frames40:=by simp
  told320:=by simp
  freshR:=fun x hx=>by obtain⟨k,_,rfl⟩:=qf.1 hx;split<;>omega
  saidR:=fun x hx=>by rw[yy hx];omega
  seat:=hs
  cmt:=by simp
  win:=fun l hl=>by rw[yy hl];simp
  waitsLog:=by simp
  nameL:=by simp}
end Kw.Sp
namespace Kw.Sp
open Go Go.Proofs
def mix(l:S)(n:Int):Int:=(ix l (n%l.length)).toNat*131+(ix l ((n*7+3)%l.length)).toNat*1117+n*29+n/l.length*53
def pick(l:S)(n k:Int):Int:=if k<1 then 0 else if l=[]then 0 else if n<l.length then(ix l n).toNat%k else SR .i64 (mix l n) (mix l n/64)%k
theorem ap8{a b:Int}(ha:0<=a/\a<4611686018427387904)(hb:0<=b/\b<4611686018427387904):0<=SR .i64 a b:=by
 unfold SR;obtain⟨a',rfl⟩:=kv ha.1;obtain⟨b',rfl⟩:=kv hb.1;have h1:(BitVec.ofInt IntKind.i64.bits (a':Int)^^^BitVec.ofInt IntKind.i64.bits (b':Int)).toNat=a'^^^b':=by
  show(BitVec.ofInt 64 (a':Int)^^^BitVec.ofInt 64 (b':Int)).toNat=_;rw[BitVec.toNat_xor,BitVec.ofInt_natCast,BitVec.ofInt_natCast,BitVec.toNat_ofNat,BitVec.toNat_ofNat,Nat.mod_eq_of_lt (by omega),Nat.mod_eq_of_lt (by omega)]
 rw[h1];have h2:a'^^^b'<2^62:=Nat.xor_lt_two_pow (by omega) (by omega)
 rw[show IntKind.wrap .i64 ((a'^^^b':Nat):Int)=((a'^^^b':Nat):Int)from wrap_i64 (by omega) (by omega)]
 omega
theorem m9(l:S)(n:Int){k:Int}(hk:1<=k):0<=pick l n k/\pick l n k<k:=by
 unfold pick;rw[jc (by omega)]
 split
 ·omega
 ·split
  ·exact⟨Int.emod_nonneg _ (by omega),Int.emod_lt_of_pos _ (by omega)⟩
  ·exact⟨Int.emod_nonneg _ (by omega),Int.emod_lt_of_pos _ (by omega)⟩
theorem MR(b:UInt8):0<=(b.toNat:Int)/\(b.toNat:Int)<=255:=by have:=b.toNat_lt;omega
section
variable (L D:Nat)
theorem MS(l:S)(hl:l.length<=2000)(n k:Int)(hn:0<=n/\n<=1000000000):ev E L (D+1) 56 [.ptr (.imp 0) 0,.int .i64 k] [.cells [.sl (l.map rU),.int .i64 n]]=
 some (.int .i64 (pick l n k),[.cells [.sl (l.map rU),.int .i64 (n+1)]]):=by
 rw[azL];simp only[KM];have a1:bR .i64 n 1=n+1:=cS (by omega) (by omega)
 have a2:iS .i64 (n+1) 1=n:=(cS (by omega) (by omega)).trans (by omega)
 unfold pick;by_cases hk:k<1
 ·simp only[K1,bE,Int.reduceEq,a1,a2,hk]
 by_cases h0:l=[]
 ·subst h0;simp only[K1,bE,Int.reduceEq,a1,a2,hk];rfl
 have hl0:0<l.length:=by cases l with|nil=>exact absurd rfl h0|cons _ _=>simp
 have e0:decide ((l.length:Int)=0)=false:=by rw[jh];omega
 have ek:decide (k=0)=false:=by rw[jh];omega
 have e64:decide ((64:Int)=0)=false:=rfl;by_cases hlt:n<l.length
 ·obtain⟨b0,b1⟩:=MR (ix l n);have w1:nX .i64 ((ix l n).toNat:Int)=(ix l n).toNat:=cS (by omega) (by omega)
  simp(disch:=omega) only[K1,ax2,QT,a1,a2,hk,e0,ek,h0,hlt,QT,w1,n8]
 ·have m1:0<=n%l.length:=Int.emod_nonneg _ (by omega)
  have m2:n%l.length<l.length:=Int.emod_lt_of_pos _ (by omega)
  have m3:0<=(n*7+3)%l.length:=Int.emod_nonneg _ (by omega)
  have m4:(n*7+3)%l.length<l.length:=Int.emod_lt_of_pos _ (by omega)
  have q1:0<=n/l.length:=Int.ediv_nonneg (by omega) (by omega)
  have q2:n/l.length<=n:=Int.ediv_le_self _ (by omega)
  have r1:rN n l.length=n%l.length:=n8 (by omega)
  have r2:rN (n*7+3) l.length=(n*7+3)%l.length:=n8 (by omega)
  have u1:nW .i64 n 7=n*7:=cS (by omega) (by omega)
  have u2:bR .i64 (n*7) 3=n*7+3:=cS (by omega) (by omega)
  have q:F6 .i64 n l.length=n/l.length:=mO (by omega) (by omega) (by omega)
  obtain⟨b0,b1⟩:=MR (ix l (n%l.length));obtain⟨d0,d1⟩:=MR (ix l ((n*7+3)%l.length));have v1:nX .i64 ((ix l (n%l.length)).toNat:Int)=(ix l (n%l.length)).toNat:=cS (by omega) (by omega)
  have v2:nX .i64 ((ix l ((n*7+3)%l.length)).toNat:Int)=(ix l ((n*7+3)%l.length)).toNat:=cS (by omega) (by omega)
  have p1:nW .i64 ((ix l (n%l.length)).toNat:Int) 131=(ix l (n%l.length)).toNat*131:=cS (by omega) (by omega)
  have p2:nW .i64 ((ix l ((n*7+3)%l.length)).toNat:Int) 1117=(ix l ((n*7+3)%l.length)).toNat*1117:=cS (by omega) (by omega)
  have p3:nW .i64 n 29=n*29:=cS (by omega) (by omega)
  have p4:nW .i64 (n/l.length) 53=n/l.length*53:=cS (by omega) (by omega)
  have p5:bR .i64 (((ix l (n%l.length)).toNat:Int)*131) ((ix l ((n*7+3)%l.length)).toNat*1117)=(ix l (n%l.length)).toNat*131+(ix l ((n*7+3)%l.length)).toNat*1117:=cS (by omega) (by omega)
  have p6:bR .i64 (((ix l (n%l.length)).toNat:Int)*131+(ix l ((n*7+3)%l.length)).toNat*1117) (n*29)=(ix l (n%l.length)).toNat*131+(ix l ((n*7+3)%l.length)).toNat*1117+n*29:=cS (by omega) (by omega)
  have p7:bR .i64 (((ix l (n%l.length)).toNat:Int)*131+(ix l ((n*7+3)%l.length)).toNat*1117+n*29) (n/l.length*53)=mix l n:=cS (by omega) (by omega)
  have g0:0<=mix l n/\mix l n<=100000000000000:=by unfold mix;omega
  have p8:F6 .i64 (mix l n) 64=mix l n/64:=mO (by omega) (by omega) (by omega)
  have gx:= @ap8 (mix l n) (mix l n/64) (by omega) (by omega)
  have p9:rN (SR .i64 (mix l n) (mix l n/64)) k=SR .i64 (mix l n) (mix l n/64)%k:=n8 gx;simp(disch:=omega) only[K1,Int.reduceEq,ax2,QT,a1,a2,hk,e0,ek,h0,hlt,r1,r2,u1,u2,q,QT,v1,v2,p1,p2,p3,p4,p5,p6,p7,p8,p9]
end
end Kw.Sp
namespace Kw.Sp
open Go Go.Proofs
def Ge(l:S)(w:World)(n:Int)(x:Option (MV×List Obj)):Prop:=∃(e:Event) (n':Int),e.text.length<=10/\(n<=n'/\n'<=n+20)/\
 x=some (.agg [.int .i64 e.kind,.int .i64 e.who,.int .i64 e.add,.int .i64 e.remove,.int .i64 e.pos,.str (bs e.text)],[.cells [.sl (l.map rU),.int .i64 n'],.rows (w.seats.map rM),.rows (w.waits.map rWt),.rows (w.log.map rC),.rows (w.fresh.map rI),.rows (w.spy.map rS),.rows (w.stolen.map rSt),.rows (w.frames.map rF),.rows (w.said.map rI),.rows (w.wins.map rWs),.rows (w.told.map rT)])
theorem aaX{l:S}{w:World}{n:Int}{c:Bool}{a b:Option (MV×List Obj)}(ha:Ge l w n a)(hb:Ge l w n b):Ge l w n (br c a b):=by cases c;exact hb;exact ha
theorem aaY{l:S}{w:World}{n n':Int}(a b c d e:Int)(t:S)(h:n<=n'/\n'<=n+20)(ht:t.length<=10):
 Ge l w n (some (.agg [.int .i64 a,.int .i64 b,.int .i64 c,.int .i64 d,.int .i64 e,.str (bs t)],[.cells [.sl (l.map rU),.int .i64 n'],.rows (w.seats.map rM),.rows (w.waits.map rWt),.rows (w.log.map rC),.rows (w.fresh.map rI),.rows (w.spy.map rS),.rows (w.stolen.map rSt),.rows (w.frames.map rF),.rows (w.said.map rI),.rows (w.wins.map rWs),.rows (w.told.map rT)])):=⟨⟨a,b,c,d,e,t⟩,n',ht,h,rfl⟩
theorem aA3(a b c:MV)(l:S)(n:Int):kF 1 [[a],[b],[c]] (pick l n 3)=some [if pick l n 3=0 then a else if pick l n 3=1 then b else c]:=by
 have:= @m9 l n 3 (by omega)
 generalize pick l n 3=k at*;have h:k=0\/k=1\/k=2:=by omega
 rcases h with rfl|rfl|rfl<;>rfl
theorem apV(a b c:MV)(l:S)(n:Int):iP [[a],[b],[c]] (pick l n 3)=some [if pick l n 3=0 then a else if pick l n 3=1 then b else c]:=by
 have:= @m9 l n 3 (by omega)
 generalize pick l n 3=k at*;have h:k=0\/k=1\/k=2:=by omega
 rcases h with rfl|rfl|rfl<;>rfl
theorem aA4(a b c d:MV)(l:S)(n:Int):kF 1 [[a],[b],[c],[d]] (pick l n 4)=some [if pick l n 4=0 then a else if pick l n 4=1 then b else if pick l n 4=2 then c else d]:=by
 have:= @m9 l n 4 (by omega)
 generalize pick l n 4=k at*;have h:k=0\/k=1\/k=2\/k=3:=by omega
 rcases h with rfl|rfl|rfl|rfl<;>rfl
theorem apW(a b c d:MV)(l:S)(n:Int):iP [[a],[b],[c],[d]] (pick l n 4)=some [if pick l n 4=0 then a else if pick l n 4=1 then b else if pick l n 4=2 then c else d]:=by
 have:= @m9 l n 4 (by omega)
 generalize pick l n 4=k at*;have h:k=0\/k=1\/k=2\/k=3:=by omega
 rcases h with rfl|rfl|rfl|rfl<;>rfl
theorem VY(p q:Prop) [Decidable p] [Decidable q](a b c:Int):eI .i64 (if p then .int .i64 a else if q then .int .i64 b else .int .i64 c)=some (if p then a else if q then b else c):=by
 split
 ·rfl
 ·split<;>rfl
theorem VZ(p q:Prop) [Decidable p] [Decidable q](a b c:S):eF (if p then .str (bs a)else if q then .str (bs b)else .str (bs c))=some (bs (if p then a else if q then b else c)):=by
 split
 ·rfl
 ·split<;>rfl
theorem V0(p q r:Prop) [Decidable p] [Decidable q] [Decidable r](a b c d:S):eF (if p then .str (bs a)else if q then .str (bs b)else if r then .str (bs c)else .str (bs d))=some (bs (if p then a else if q then b else if r then c else d)):=by
 split
 ·rfl
 ·split
  ·rfl
  ·split<;>rfl
section
variable (L D:Nat)
theorem V1(l:S)(hl:l.length<=2000)(w:World)(z:WJ w)(n n0:Int)(hn:0<=n/\n<=1000000)(h0:n0<=n/\n<=n0+2)(i22 i23 i24 i25 i26:Int)(s27:ByteArray)(i28 i29 i30 i31 i32:Int)(x:S)(hx:x.length<=10):
 Ge l w n0 (FC L (D+1) (w.seats.map rM) (w.waits.map rWt) (w.log.map rC) (w.fresh.map rI) (w.spy.map rS) (w.stolen.map rSt) (w.frames.map rF) (w.said.map rI) (w.wins.map rWs) (w.told.map rT) (l.map rU) n w.seats.length w.waits.length w.log.length w.fresh.length w.spy.length w.stolen.length w.frames.length w.said.length w.wins.length w.told.length i22 i23 i24 i25 i26 s27 i28 i29 i30 i31 i32 (bs x)):=by
 rw[X2];simp only[KM];have z1:w.waits.length<=16:=z.waitsL;by_cases hw:w.waits.length=0
 ·have e0:decide ((0:Int)<w.waits.length)=false:=by rw[jh];omega
  simp(disch:=omega) only[K1,iG,aJ,bK,Nat.reduceAdd,↓aA,MS,e0,aA3,apV,aA4,apW,VY,VZ,V0,H1,H3,H4,H5,H2,↓KM]
  repeat' (first|exact aaY _ _ _ _ _ _ (by omega) (by first|exact hx|decide|((repeat' split)<;>decide))|apply aaX)
 ·have e0:decide ((0:Int)<w.waits.length)=true:=by rw[jb];omega
  have p0:∀k:Int,kF 4 (w.waits.map rWt) (pick l k w.waits.length)=some (rWt (ix w.waits (pick l k w.waits.length))):=fun k=>by
   have:= @m9 l k w.waits.length (by omega)
   exact lH _ w.waits (by omega) (by omega)
  have p1:∀k:Int,iP (w.waits.map rWt) (pick l k w.waits.length)=some (rWt (ix w.waits (pick l k w.waits.length))):=fun k=>by
   have:= @m9 l k w.waits.length (by omega)
   exact kY w.waits _ (by omega) (by omega)
  simp(disch:=omega) only[K1,iG,aJ,bK,Nat.reduceAdd,↓aA,yI,yJ,yK,yL,MS,p0,p1,e0,aA3,apV,aA4,apW,VY,VZ,V0,H1,H3,H4,H5,H2,↓KM]
  repeat' (first|exact aaY _ _ _ _ _ _ (by omega) (by first|exact hx|decide|((repeat' split)<;>decide))|apply aaX)
theorem V2(l:S)(hl:l.length<=2000)(w:World)(z:WJ w)(n n0:Int)(hn:0<=n/\n<=1000000)(h0:n0<=n/\n<=n0+2)(i22 i23 i24 i25 i26:Int)(s27:ByteArray)(i28 i30 i31 i32:Int)(x:S)(hx:x.length<=10):∀(m k:Nat) (i29:Int),8-k<m->k<=8->0<=i29/\i29<=7->
 Ge l w n0 (JF L (D+1) m (w.seats.map rM) (w.waits.map rWt) (w.log.map rC) (w.fresh.map rI) (w.spy.map rS) (w.stolen.map rSt) (w.frames.map rF) (w.said.map rI) (w.wins.map rWs) (w.told.map rT) (l.map rU) n w.seats.length w.waits.length w.log.length w.fresh.length w.spy.length w.stolen.length w.frames.length w.said.length w.wins.length w.told.length i22 i23 i24 i25 i26 s27 i28 i29 i30 i31 i32 (bs x) k)
 |0,_,_,h,_,_=>by omega
 |m+1,k,i29,h,hk,hi=>by
  rw[R6];simp only[KM];have hj:=V1 L D l hl w z n n0 hn h0 i22 i23 i24 i25 i26 s27 i28 i29 i30 i31 i32 x hx;by_cases h8:k<8
  ·have h8':((k:Int)<8):=by omega
   have s8:=z.seats8;have ih:=V2 l hl w z n n0 hn h0 i22 i23 i24 i25 i26 s27 i28 i30 i31 i32 x hx m (k+1) (rN (bR .i64 i29 1) 8) (by omega) (by omega) (by
    have a:bR .i64 i29 1=i29+1:=cS (by omega) (by omega)
    rw[a,n8 (by omega)];omega)
   have a1:bR .i64 (k:Int) 1=((k+1:Nat):Int):=(cS (by omega) (by omega)).trans (by omega)
   have e8:decide ((8:Int)=0)=false:=rfl;simp(disch:=omega) only[K1,cZ,Int.reduceEq,↓aA,jA,bG,bM,h8',a1,bM,bG];exact aaX hj ih
  ·have h8':¬((k:Int)<8):=by omega
   simp(disch:=omega) only[K1,h8'];exact hj
theorem ap9(l:S)(hl:l.length<=2000)(w:World)(z:WJ w)(n:Int)(hn:0<=n/\n<=900000)(hL:1099511627776<=L):
 Ge l w n (ev E L (D+2) 58 [.ptr (.imp 0) 0,.agg [.ref (.imp 1) w.seats.length,.ref (.imp 2) w.waits.length,.ref (.imp 3) w.log.length,.ref (.imp 4) w.fresh.length,.ref (.imp 5) w.spy.length,.ref (.imp 6) w.stolen.length,.ref (.imp 7) w.frames.length,.ref (.imp 8) w.said.length,.ref (.imp 9) w.wins.length,.ref (.imp 10) w.told.length]] [.cells [.sl (l.map rU),.int .i64 n],.rows (w.seats.map rM),.rows (w.waits.map rWt),.rows (w.log.map rC),.rows (w.fresh.map rI),.rows (w.spy.map rS),.rows (w.stolen.map rSt),.rows (w.frames.map rF),.rows (w.said.map rI),.rows (w.wins.map rWs),.rows (w.told.map rT)]):=by
 have h:=azN L (D+1) (l.map rU) n (w.seats.map rM) (w.waits.map rWt) (w.log.map rC) (w.fresh.map rI) (w.spy.map rS) (w.stolen.map rSt) (w.frames.map rF) (w.said.map rI) (w.wins.map rWs) (w.told.map rT);simp only[KM]at h;simp(disch:=omega) only[K1,iG,bK,Int.reduceNeg,Nat.reduceAdd,MS]at h;rw[h];have:= @m9 l n 5 (by omega)
 have h1:=V2 L D l hl w z (n+1+1) n (by omega) (by omega) 0 0 0 0 0 (bs []) 0 (-1) (-1) 0 [] (by decide) L 0 (pick l n 5) (by omega) (by omega) (by omega)
 have h2:=V1 L D l hl w z (n+1+1) n (by omega) (by omega) 0 0 0 0 0 (bs []) 0 (pick l n 5) (-1) (-1) 0 [] (by decide)
 rw[show((0:Nat):Int)=0 from rfl]at h1
 exact aaX h1 h2
end
end Kw.Sp
namespace Kw.Sp
open Go Go.Proofs
def F5(evs:List Event):Prop:=∀e∈evs,e.text.length<=10
theorem F5.app{a b:List Event}(ha:F5 a)(hb:F5 b):F5 (a++b):=fun e he=>(jv.1 he).elim (ha e) (hb e)
def Gp(l:S)(x:Option (MV×List Obj)):Prop:=∃(f:Int) (evs:List Event) (w:World) (n:Int),WJ w/\(0<=n/\n<=10000)/\(0<=f/\f<=7)/\(evs.length<=190/\F5 evs)/\
 x=some (.tup [.int .i64 f,.own (evs.map rE),.agg [.own (w.seats.map rM),.own (w.waits.map rWt),.own (w.log.map rC),.own (w.fresh.map rI),.own (w.spy.map rS),.own (w.stolen.map rSt),.own (w.frames.map rF),.own (w.said.map rI),.own (w.wins.map rWs),.own (w.told.map rT)]],[.cells [.sl (l.map rU),.int .i64 n]])
theorem apX{l:S}{c:Bool}{a b:Option (MV×List Obj)}(ha:Gp l a)(hb:Gp l b):Gp l (br c a b):=by cases c;exact hb;exact ha
section
variable (L D:Nat)
theorem AN(hL:1099511627776<=L)(l:S)(q0 q1 q2 q3 q4 q5 q6 q7 q8 q9:List Row)(j0 j1 j2 j3 j4 j5 j6 j7 j8 j9:Int)(f rounds n:Int)(n5:Nat)(b:List Event)(hb:b.length<=20)(hbo:F5 b)
 (H:∀(w:World) (evs:List Event),WJ w->evs.length<=190->F5 evs->Gp l (wG L (D+312) n5 q0 q1 q2 q3 q4 q5 q6 q7 q8 q9 (w.seats.map rM) (w.waits.map rWt) (w.log.map rC) (w.fresh.map rI) (w.spy.map rS) (w.stolen.map rSt) (w.frames.map rF) (w.said.map rI) (w.wins.map rWs) (w.told.map rT) (evs.map rE) (l.map rU) n j0 j1 j2 j3 j4 j5 j6 j7 j8 j9 w.seats.length w.waits.length w.log.length w.fresh.length w.spy.length w.stolen.length w.frames.length w.said.length w.wins.length w.told.length f evs.length (iS .i64 rounds 1))):
 ∀(m k:Nat) (w:World) (evs:List Event),b.length-k<m->k<=b.length->WJ w->evs.length<=190->F5 evs->Gp l (pY L (D+312) m n5 q0 q1 q2 q3 q4 q5 q6 q7 q8 q9 (w.seats.map rM) (w.waits.map rWt) (w.log.map rC) (w.fresh.map rI) (w.spy.map rS) (w.stolen.map rSt) (w.frames.map rF) (w.said.map rI) (w.wins.map rWs) (w.told.map rT) (evs.map rE) (b.map rE) (l.map rU) n j0 j1 j2 j3 j4 j5 j6 j7 j8 j9 w.seats.length w.waits.length w.log.length w.fresh.length w.spy.length w.stolen.length w.frames.length w.said.length w.wins.length w.told.length f evs.length rounds b.length k)
 |0,_,_,_,h,_,_,_,_=>by omega
 |m+1,k,w,evs,h,hk,z,hv,ho=>by
  rw[NG];simp only[KM];by_cases h8:k<b.length
  ·have h8':decide ((k:Int)<b.length)=true:=by rw[jb];omega
   have a1:bR .i64 (k:Int) 1=((k+1:Nat):Int):=(cS (by omega) (by omega)).trans (by omega)
   by_cases h190:evs.length<190
   ·have h1:decide ((evs.length:Int)<190)=true:=by rw[jb];omega
    have ih:=AN hL l q0 q1 q2 q3 q4 q5 q6 q7 q8 q9 j0 j1 j2 j3 j4 j5 j6 j7 j8 j9 f rounds n n5 b hb hbo H m (k+1) (step w (ix b (k:Int))) (evs++[ix b (k:Int)]) (by omega) (by omega) (z.step _) (by simp;omega) (ho.app fun e he=>by rw[qc.1 he];exact hbo _ (by rw[aK b k h8];exact jt h8))
    have hs:=fun e=>ajE L D hL w z.toWI e
    simp(disch:=omega) only[K1,jx,aV,aJ,Nat.reduceAdd,apF,aZ,aR,↓aA,ax8,ax9,axA,axB,axC,axD,aq6,ak5,afD,h8',h1,a1,aE,hs];exact ih
   ·have h1:decide ((evs.length:Int)<190)=false:=by rw[jh];omega
    simp(disch:=omega) only[K1,↓aA,h8',h1,a1];exact AN hL l q0 q1 q2 q3 q4 q5 q6 q7 q8 q9 j0 j1 j2 j3 j4 j5 j6 j7 j8 j9 f rounds n n5 b hb hbo H m (k+1) w evs (by omega) (by omega) z hv ho
  ·have h8':decide ((k:Int)<b.length)=false:=by rw[jh];omega
   simp(disch:=omega) only[K1,↓aA,h8'];exact H w evs z hv ho
theorem ev2(k p:Int):[[MV.int .i64 2,.int .i64 k,.int .i64 0,.int .i64 0,.int .i64 p,.str (bs [])],[.int .i64 3,.int .i64 k,.int .i64 0,.int .i64 0,.int .i64 p,.str (bs [])]]=[(⟨2,k,0,0,p,[]⟩:Event),⟨3,k,0,0,p,[]⟩].map rE:=(rfl)
theorem V3(hL:1099511627776<=L)(l:S)(q0 q1 q2 q3 q4 q5 q6 q7 q8 q9:List Row)(j0 j1 j2 j3 j4 j5 j6 j7 j8 j9:Int)(f rounds n:Int)(n5:Nat)(w:World)(z:WJ w)(evs:List Event)(hv:evs.length<=190)(ho:F5 evs)
 (H:∀(w:World) (evs:List Event),WJ w->evs.length<=190->F5 evs->Gp l (wG L (D+312) n5 q0 q1 q2 q3 q4 q5 q6 q7 q8 q9 (w.seats.map rM) (w.waits.map rWt) (w.log.map rC) (w.fresh.map rI) (w.spy.map rS) (w.stolen.map rSt) (w.frames.map rF) (w.said.map rI) (w.wins.map rWs) (w.told.map rT) (evs.map rE) (l.map rU) n j0 j1 j2 j3 j4 j5 j6 j7 j8 j9 w.seats.length w.waits.length w.log.length w.fresh.length w.spy.length w.stolen.length w.frames.length w.said.length w.wins.length w.told.length f evs.length (iS .i64 rounds 1))):
 ∀(m k:Nat) (b:List Event),5-k<m->k<=5->b.length<=1+2*k->F5 b->Gp l (E9 L (D+312) m n5 q0 q1 q2 q3 q4 q5 q6 q7 q8 q9 (w.seats.map rM) (w.waits.map rWt) (w.log.map rC) (w.fresh.map rI) (w.spy.map rS) (w.stolen.map rSt) (w.frames.map rF) (w.said.map rI) (w.wins.map rWs) (w.told.map rT) (evs.map rE) (b.map rE) (l.map rU) n j0 j1 j2 j3 j4 j5 j6 j7 j8 j9 w.seats.length w.waits.length w.log.length w.fresh.length w.spy.length w.stolen.length w.frames.length w.said.length w.wins.length w.told.length f evs.length rounds b.length k)
 |0,_,_,h,_,_,_=>by omega
 |m+1,k,b,h,hk,hb,hbo=>by
  rw[NF];simp only[KM];by_cases h8:k<5
  ·have h8':decide ((k:Int)<5)=true:=by rw[jb];omega
   have a1:bR .i64 (k:Int) 1=((k+1:Nat):Int):=(cS (by omega) (by omega)).trans (by omega)
   have ih:=V3 hL l q0 q1 q2 q3 q4 q5 q6 q7 q8 q9 j0 j1 j2 j3 j4 j5 j6 j7 j8 j9 f rounds n n5 w z evs hv ho H m (k+1) (b++[⟨2,k,0,0,w.log.length,[]⟩,⟨3,k,0,0,w.log.length,[]⟩]) (by omega) (by omega) (by simp;omega) (hbo.app fun e he=>by simp at he;rcases he with rfl|rfl<;>exact Nat.zero_le _)
   simp(disch:=omega) only[K1,ev2,aV,d7,Nat.reduceAdd,apF,↓aA,h8',a1,aE];exact ih
  ·have h8':decide ((k:Int)<5)=false:=by rw[jh];omega
   simp(disch:=omega) only[K1,h8'];have:=AN L D hL l q0 q1 q2 q3 q4 q5 q6 q7 q8 q9 j0 j1 j2 j3 j4 j5 j6 j7 j8 j9 f rounds n n5 b (by omega) hbo H L 0 w evs (by omega) (by omega) z hv ho
   rw[show((0:Nat):Int)=0 from rfl]at this
   exact this
theorem V4(hL:1099511627776<=L)(l:S)(hl:l.length<=2000)(q0 q1 q2 q3 q4 q5 q6 q7 q8 q9:List Row)(f:Int)(hf:0<=f/\f<=7):∀(m i:Nat) (n:Int) (j0 j1 j2 j3 j4 j5 j6 j7 j8 j9:Int) (w:World) (evs:List Event),i<m->0<=n->n+30*i<=5000->WJ w->evs.length<=190->F5 evs->Gp l (wG L (D+312) m q0 q1 q2 q3 q4 q5 q6 q7 q8 q9 (w.seats.map rM) (w.waits.map rWt) (w.log.map rC) (w.fresh.map rI) (w.spy.map rS) (w.stolen.map rSt) (w.frames.map rF) (w.said.map rI) (w.wins.map rWs) (w.told.map rT) (evs.map rE) (l.map rU) n j0 j1 j2 j3 j4 j5 j6 j7 j8 j9 w.seats.length w.waits.length w.log.length w.fresh.length w.spy.length w.stolen.length w.frames.length w.said.length w.wins.length w.told.length f evs.length i)
 |0,_,_,_,_,_,_,_,_,_,_,_,_,_,_,h,_,_,_,_,_=>by omega
 |m+1,i,n,j0,j1,j2,j3,j4,j5,j6,j7,j8,j9,w,evs,h,hn,hi,z,hv,ho=>by
  rw[R4];simp only[KM];by_cases h0:0<i
  ·have h0':decide ((0:Int)<i)=true:=by rw[jb];omega
   obtain⟨e,n',het,hn',he⟩:=ap9 L (D+310) l hl w z n (by omega) hL
   have he':ev E L (D+312) 58 [.ptr (.imp 0) 0,.agg [.ref (.imp 1) w.seats.length,.ref (.imp 2) w.waits.length,.ref (.imp 3) w.log.length,.ref (.imp 4) w.fresh.length,.ref (.imp 5) w.spy.length,.ref (.imp 6) w.stolen.length,.ref (.imp 7) w.frames.length,.ref (.imp 8) w.said.length,.ref (.imp 9) w.wins.length,.ref (.imp 10) w.told.length]] [.cells [.sl (l.map rU),.int .i64 n],.rows (w.seats.map rM),.rows (w.waits.map rWt),.rows (w.log.map rC),.rows (w.fresh.map rI),.rows (w.spy.map rS),.rows (w.stolen.map rSt),.rows (w.frames.map rF),.rows (w.said.map rI),.rows (w.wins.map rWs),.rows (w.told.map rT)]=_:=he;have hp:=MS L (D+311) l hl;have a1:iS .i64 (i:Int) 1=((i-1:Nat):Int):=(cS (by omega) (by omega)).trans (by omega)
   have H:∀(n:Int) (_:0<=n/\n<=n'+1) (j0 j1 j2 j3 j4 j5 j6 j7 j8 j9:Int) (w:World) (evs:List Event),WJ w->evs.length<=190->F5 evs->Gp l (wG L (D+312) m q0 q1 q2 q3 q4 q5 q6 q7 q8 q9 (w.seats.map rM) (w.waits.map rWt) (w.log.map rC) (w.fresh.map rI) (w.spy.map rS) (w.stolen.map rSt) (w.frames.map rF) (w.said.map rI) (w.wins.map rWs) (w.told.map rT) (evs.map rE) (l.map rU) n j0 j1 j2 j3 j4 j5 j6 j7 j8 j9 w.seats.length w.waits.length w.log.length w.fresh.length w.spy.length w.stolen.length w.frames.length w.said.length w.wins.length w.told.length f evs.length (iS .i64 i 1)):=fun n h2 j0 j1 j2 j3 j4 j5 j6 j7 j8 j9 w evs z hv ho=>by
    rw[a1];exact V4 hL l hl q0 q1 q2 q3 q4 q5 q6 q7 q8 q9 f hf m (i-1) n j0 j1 j2 j3 j4 j5 j6 j7 j8 j9 w evs (by omega) (by omega) (by omega) z hv ho
   have g1:=fun(b:List Event) hb hbo=>AN L D hL l q0 q1 q2 q3 q4 q5 q6 q7 q8 q9 j0 j1 j2 j3 j4 j5 j6 j7 j8 j9 f i n' m b hb hbo (H n' (by omega) j0 j1 j2 j3 j4 j5 j6 j7 j8 j9) L 0 w evs (by omega) (by omega) z hv ho
   have g2:=fun(b:List Event) hb hbo=>AN L D hL l q0 q1 q2 q3 q4 q5 q6 q7 q8 q9 j0 j1 j2 j3 j4 j5 j6 j7 j8 j9 f i (n'+1) m b hb hbo (H (n'+1) (by omega) j0 j1 j2 j3 j4 j5 j6 j7 j8 j9) L 0 w evs (by omega) (by omega) z hv ho
   have g3:=fun(b:List Event) hb hbo=>V3 L D hL l q0 q1 q2 q3 q4 q5 q6 q7 q8 q9 j0 j1 j2 j3 j4 j5 j6 j7 j8 j9 f i (n'+1) m w z evs hv ho (H (n'+1) (by omega) j0 j1 j2 j3 j4 j5 j6 j7 j8 j9) L 0 b (by omega) (by omega) hb hbo
   simp(disch:=omega) only[K1,ak6,iG,afA,bK,Nat.reduceAdd,↓aA,h0',he',hp,axE];have h1e:F5 [e]:=fun x hx=>by rw[qc.1 hx];exact het
   refine apX (apX ?_ ?_) ?_
   ·exact g3 [e] (by simp) h1e
   ·exact g2 [e] (by simp) h1e
   ·exact g1 [e] (by simp) h1e
  ·have h0':decide ((0:Int)<i)=false:=by rw[jh];omega
   have hc:=ajA L (D+309) hL w z.sz;simp(disch:=omega) only[K1,Nat.reduceAdd,↓aA,h0',hc];exact⟨f,evs,w,n,z,by omega,hf,⟨hv,ho⟩,rfl⟩
end
end Kw.Sp
namespace Kw.Sp
open Go Go.Proofs
section
variable (L D:Nat)
theorem t_Play(hL:1099511627776<=L)(l:S)(hl:l.length<=2000)(k:Int)(hk:1<=k/\k<=100):Gp l (ev E L (D+313) 18 [.ptr (.imp 0) 0,.int .i64 k] [.cells [.sl (l.map rU),.int .i64 0]]):=by
 have h:=azJ L (D+312) (l.map rU) 0 k;simp only[KM]at h;have hp:=MS L (D+311) l hl;have hg:=aj7 L (D+2) hL (pick l 0 5);obtain⟨k0,k1⟩:= @m9 l 0 5 (by omega)
 obtain⟨j0,j1⟩:= @m9 l (0+1) k (by omega)
 simp(disch:=omega) only[K1,iG,bK,Nat.reduceAdd,hp,hg]at h;rw[h];have h1:=V4 L D hL l hl [] [] [] [] [] [] [] [] [] [] (pick l 0 5) ⟨by omega,by omega⟩ L (pick l (0+1) k).toNat (0+1+1) 0 0 0 0 0 0 0 0 0 0 (bN (pick l 0 5)) [] (by omega) (by omega) (by omega) (WJ.new ⟨by omega,by omega⟩) (by simp) (fun e he=>by cases he)
 rw[yg j0]at h1;exact h1
theorem t_Open(l:S):ev E L (D+1) 19 [.sl (l.map rU)] []=some (.ptr (.imp 0) 0,[.cells [.sl ((l.take 2000).map rU),.int .i64 0]]):=by
 rw[azK];simp only[KM];by_cases h:2000<l.length
 ·have h':decide ((2000:Int)<l.length)=true:=by rw[jb];omega
  have h2:decide ((2000:Int)<=l.length)=true:=by rw[jb];omega
  simp(disch:=omega) only[K1,aV,Int.reduceLE,axG,ax3,h',h2]
  rfl
 ·have h':decide ((2000:Int)<l.length)=false:=by rw[jh];omega
  simp(disch:=omega) only[K1,h'];rw[Jn (by omega)]
end
end Kw.Sp
namespace Kw
open Go Go.Proofs
section
variable (L D:Nat)
theorem awP(hL:1099511627776<=L)(l:S):∃(f:Int) (evs:List Event),(0<=f/\f<=7)/\evs.length<=190/\(∀e∈evs,e.text.length<=10)/\
 ev E L (D+314) 7 [.sl (l.map rU)] []=some (.tup [.int .i64 f,.sl (evs.map rE)],[]):=by
 obtain⟨f,evs,w,n,z,hn,hf,⟨he,ho⟩,h⟩:=Sp.t_Play L D hL (l.take 2000) (by rw[yf];omega) 60 ⟨by decide,by decide⟩
 refine⟨f,evs,hf,he,ho,?_⟩;rw[aAQ];simp only[KM];rw[Sp.t_Open L (D+312)];simp only[bnd_some',aeV,and_self,List.getD_cons_zero,MZ,bK,jf,jk,ju,cellAt_zero,cellAt_succ,gSl_r,gInt_i];rw[h];simp only[bnd_some',iG,bK,jf,jk,ju,cellAt_zero,cellAt_succ,gSl_r,gInt_i,gTupN_if,gAggN_if,gOwn_r,iEq_self,br_true']
end
end Kw
namespace Kw
open Go Go.Proofs
section
variable (L D:Nat)
theorem aaO(hL:1099511627776<=L)(w x:World)(z:WG w)(hx:{x with spy:=w.spy,stolen:=w.stolen}=w)(list more:List S)(hl:list.length<=1000000)(hm:more.length<=1000000)(hs:w.stolen.length<x.stolen.length->∀s∈list,s∈more):∀(m k:Nat),list.length<m+k->k<=list.length->
 EM L (D+609) m (w.seats.map rM) (w.waits.map rWt) (w.log.map rC) (w.fresh.map rI) (w.spy.map rS) (w.stolen.map rSt) (w.frames.map rF) (w.said.map rI) (w.wins.map rWs) (w.told.map rT) (x.seats.map rM) (x.waits.map rWt) (x.log.map rC) (x.fresh.map rI) (x.spy.map rS) (x.stolen.map rSt) (x.frames.map rF) (x.said.map rI) (x.wins.map rWs) (x.told.map rT) (more.map rS) (list.map rS) k=some (.bool true,[])
 |0,k,h,hk=>by omega
 |m+1,k,h,hk=>by
  rw[RU];simp only[KM];by_cases hlt:k<list.length
  ·have h1:iLt (k:Int) list.length=true:=by rw[iLt_dec,jb];omega
   have a1:bR .i64 (k:Int) 1=((k+1:Nat):Int):=aG _ (by omega)
   have r:=aW (k:Int) list (by omega) (by omega)
   rw[aK list k hlt]at r;have hh:=aaN L (D+608) hL more list[k] hm;have ih:=aaO hL w x z hx list more hl hm hs m (k+1) (by omega) (by omega)
   simp only[nrows_map,h1,br_true',a1,iLt_dec];by_cases hg:w.stolen.length<x.stolen.length
   ·have hi:inS more list[k]=true:=jd (hs hg _ (jt hlt));rw[hi]at hh;rw[jd (show(w.stolen.length:Int)<x.stolen.length by omega)]
    simp only[br_true',r,bnd_some',dX,gStr_s,hh,gBool_b,bNot_t,br_false'];exact ih
   ·rw[ji (show¬(w.stolen.length:Int)<x.stolen.length by omega),br_false']
    exact ih
  ·have h1:iLt (k:Int) list.length=false:=by rw[iLt_dec,jh];omega
   have q1:eL (nrows []) (nrows (w.spy.map rS)) 16=true:=aE _ _ _ (by rw[nrows_map];have:=z.spy;show((0:Int)+_)*16<=_;omega)
   have q2:eL (nrows []) (nrows (w.stolen.map rSt)) 24=true:=aE _ _ _ (by rw[nrows_map];have:=z.stolen;show((0:Int)+_)*24<=_;omega)
   have o0:∀n,okR n []=true:=fun _=>rfl
   have hw:=aoV L (D+605) hL w z.sz;have hk:=aAT L (D+301) hL;have e1:x.seats=w.seats:=by have h:=wo World.seats hx;exact h
   have e2:x.waits=w.waits:=by have h:=wo World.waits hx;exact h
   have e3:x.log=w.log:=by have h:=wo World.log hx;exact h
   have e4:x.fresh=w.fresh:=by have h:=wo World.fresh hx;exact h
   have e5:x.frames=w.frames:=by have h:=wo World.frames hx;exact h
   have e6:x.said=w.said:=by have h:=wo World.said hx;exact h
   have e7:x.wins=w.wins:=by have h:=wo World.wins hx;exact h
   have e8:x.told=w.told:=by have h:=wo World.told hx;exact h
   unfold wS at hw;simp only[nrows_map rS list,h1,br_false',iEq_self,o0,iI,CU,q1,q2,Jf,cN,br_true',eJ,e1,e2,e3,e4,e5,e6,e7,e8,hw,bnd_some',gBool_b,hk]
theorem aaP(hL:1099511627776<=L)(w x:World)(z:WG w)(hx:{x with spy:=w.spy,stolen:=w.stolen}=w)(i:Int)(hi:aH i)(known more:List S)(hl:known.length<=1000000)(hm:more.length<=1000000)(hs:w.stolen.length<x.stolen.length->∀s∈cO (ix w.seats i),s∈more)(hk:∀s∈known,s∈more):∀(m k:Nat),known.length<m+k->k<=known.length->
 I9 L (D+609) m (w.seats.map rM) (w.waits.map rWt) (w.log.map rC) (w.fresh.map rI) (w.spy.map rS) (w.stolen.map rSt) (w.frames.map rF) (w.said.map rI) (w.wins.map rWs) (w.told.map rT) (x.seats.map rM) (x.waits.map rWt) (x.log.map rC) (x.fresh.map rI) (x.spy.map rS) (x.stolen.map rSt) (x.frames.map rF) (x.said.map rI) (x.wins.map rWs) (x.told.map rT) i (known.map rS) (more.map rS) k=some (.bool true,[])
 |0,k,h,hk'=>by omega
 |m+1,k,h,hk'=>by
  rw[RT];simp only[KM];by_cases hlt:k<known.length
  ·have h1:iLt (k:Int) known.length=true:=by rw[iLt_dec,jb];omega
   have a1:bR .i64 (k:Int) 1=((k+1:Nat):Int):=aG _ (by omega)
   have r:=aW (k:Int) known (by omega) (by omega)
   rw[aK known k hlt]at r;have hh:=aaN L (D+608) hL more known[k] hm;have hin:inS more known[k]=true:=jd (hk _ (jt hlt));rw[hin]at hh;have ih:=aaP hL w x z hx i hi known more hl hm hs hk m (k+1) (by omega) (by omega)
   simp only[nrows_map,h1,br_true',a1,r,bnd_some',dX,gStr_s,hh,gBool_b,bNot_t,br_false'];exact ih
  ·have h1:iLt (k:Int) known.length=false:=by rw[iLt_dec,jh];omega
   have z8:=z.seats;have u:=bM i w.seats hi.1 (by have:=hi.2;omega)
   have hmok:=(z.at hi).1;have hmk:=L7 L (D+297) hL (ix w.seats i) (H8 hmok);have h18:=aaO L D hL w x z hx (cO (ix w.seats i)) more (by have:=(y4 hmok).2;omega) hm hs L 0 (by have:=(y4 hmok).2;omega) (by omega)
   generalize ix w.seats i=y at u hmk h18;have c0:nY (aC (rM y) 0)=some y.inn:=rfl;have c1:eI .i64 (aC (rM y) 1)=some y.who:=rfl;have c2:gSl (aC (rM y) 2)=some (y.keys.map rS):=rfl;have c3:gSl (aC (rM y) 3)=some (y.own.map rO):=rfl;have c4:eI .i64 (aC (rM y) 4)=some y.epoch:=rfl;have c5:eF (aC (rM y) 5)=some (bs y.init):=rfl;have c6:eF (aC (rM y) 6)=some (bs y.tag):=rfl;have er:[MV.bool y.inn,.int .i64 y.who,.sl (y.keys.map rS),.sl (y.own.map rO),.int .i64 y.epoch,.str (bs y.init),.str (bs y.tag)]=rM y:=rfl;simp only[nrows_map,h1,br_false',u,bnd_some',c0,c1,c2,c3,c4,c5,c6,er,hmk,gSl_r];exact h18
theorem aA5(hL:1099511627776<=L)(l:S):ev E L (D+610) 6 [.sl (l.map rU)] []=some (.bool true,[]):=by
 rw[aAN];simp only[KM];by_cases hb:iLt 1048576 (nrows (l.map rU))=true
 ·rw[hb,br_true']
 ·rw[Jt]at hb;rw[hb,br_false'];obtain⟨f,evs,hf,he,ho,h⟩:=awP L (D+295) hL l;have hp:=awO L (D+291) hL f hf evs he ho;have z:WG (run (bN f) evs):=(WG.new hf).run evs;have hk:=SD L (D+293) hL _ z;have h8:iEq 8 0=false:=rfl;have hrem:rN (l.length:Int) 8=((l.length%8:Nat):Int):=by unfold rN;rw[Int.tmod_eq_emod_of_nonneg (by omega)];omega
  have hi:aH ((l.length%8:Nat):Int):=⟨by omega,by omega⟩
  have hst:=aoO L (D+291) hL _ z ⟨4,((l.length%8:Nat):Int),0,0,0,[]⟩ (by simp)
  have z2:=z.step ⟨4,((l.length%8:Nat):Int),0,0,0,[]⟩;obtain⟨s1,s2,s3⟩:=US z (e:=⟨4,((l.length%8:Nat):Int),0,0,0,[]⟩) rfl hi;have k1:=MI L D hL _ z;have k2:=MI L D hL _ z2;have n1:=P4 z;have n2:=P4 z2;generalize run (bN f) evs=w at*;generalize hxx:step w ⟨4,((l.length%8:Nat):Int),0,0,0,[]⟩=x at*;have h12:=aaP L D hL w x z s3 _ hi (eW w) (eW x) (by omega) (by omega) s2 s1 L 0 (by omega) (by omega)
  unfold wS at hp hk hst k1 k2;rw[h];simp only[bnd_some',gTupN_if,jf,jk,ju,cellAt_zero,cellAt_succ,gInt_i,gSl_r];rw[hp];simp only[bnd_some',gAggN_if,jf,jk,ju,cellAt_zero,cellAt_succ,gSl_r];rw[hk];simp only[bnd_some',gBool_b,bNot_t,br_false',h8,nrows_map,hrem];rw[hst];simp only[bnd_some',gAggN_if,jf,jk,ju,cellAt_zero,cellAt_succ,gSl_r];rw[k1];simp only[bnd_some',gSl_r];rw[k2];simp only[bnd_some',gSl_r];exact h12
end
end Kw
