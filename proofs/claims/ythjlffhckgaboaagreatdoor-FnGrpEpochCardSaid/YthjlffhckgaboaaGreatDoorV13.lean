import Derived.Test.YthjlffhckgaboaaGreatDoorV12
import Derived.Test.YthjlffhckgaboaaGreatDoorV10
set_option linter.unusedVariables false
set_option linter.unusedSimpArgs false
set_option linter.unusedSectionVars false
namespace Kw.Sp
open Go Go.Proofs
section
variable (L D:Nat)
def n7(w:Int)(k:Nat):Member:=if(k:Int)=w then d8 w (aV w 1) (aV w 2)else bI
def mI(w:Int)(k:Nat):Int:=if(k:Int)=w then 2 else 0
theorem SH{A:Type}(k:Nat)(x:A):List.replicate k x++[x]=List.replicate (k+1) x:=by rw[List.replicate_succ']
theorem aaP(hL:1099511627776<=L)(w:Int)(hw:aI w):∀(n k:Nat),8-k<n->k<=8->
 DI L (D+309) n [] [] [] [] [] [] [] [] [] [] (((List.range k).map (n7 w)).map rM) [] [] (((List.range k).map (mI w)).map rI) [] [] [] ((List.replicate k (0:Int)).map rI) ((List.replicate k ([]:List Win)).map rWs) [] 0 0 0 0 0 0 0 0 0 0 k 0 0 k 0 0 0 k k 0 w k=
 some (.agg [.own ((bR w).seats.map rM),.own ((bR w).waits.map rWt),.own ((bR w).log.map rC),.own ((bR w).fresh.map rI),.own ((bR w).spy.map rS),.own ((bR w).stolen.map rSt),.own ((bR w).frames.map rF),.own ((bR w).said.map rI),.own ((bR w).wins.map rWs),.own ((bR w).told.map rT)],[]):=by
 intro n;induction n with
 |zero=>intro k h;omega
 |succ n ih=>
  intro k hn hk;rw[O8];simp only[KM];have l1:((List.range k).map (n7 w)).length=k:=by simp
  have l2:((List.range k).map (mI w)).length=k:=by simp
  have l3:(List.replicate k (0:Int)).length=k:=by simp
  have l4:(List.replicate k ([]:List Win)).length=k:=by simp
  by_cases h:k<8
  case neg=>
   have h':¬(k:Int)<8:=by omega
   have e8:k=8:=by omega
   have hg:bR w=⟨(List.range 8).map (n7 w),[],[],(List.range 8).map (mI w),[],[],[],List.replicate 8 0,List.replicate 8 [],[]⟩:=by
    unfold bR;rw[je hw];rfl
   rw[hg];simp(disch:=omega) only[K1,↓aA,h',l1,l2,l3,l4];rw[e8];rfl
  have h':(k:Int)<8:=by omega
  have e:=ih (k+1) (by omega) (by omega)
  have s1:(List.range k).map (n7 w)++[n7 w k]=(List.range (k+1)).map (n7 w):=by simp[List.range_succ]
  have s2:(List.range k).map (mI w)++[mI w k]=(List.range (k+1)).map (mI w):=by simp[List.range_succ]
  have s3:=SH k (0:Int);have s4:=SH k ([]:List Win);have m1:((List.range (k+1)).map (n7 w)).length=k+1:=by simp
  have m2:((List.range (k+1)).map (mI w)).length=k+1:=by simp
  have m3:(List.replicate (k+1) (0:Int)).length=k+1:=by simp
  have m4:(List.replicate (k+1) ([]:List Win)).length=k+1:=by simp
  have w1:[[MV.sl []]]=[([]:List Win)].map rWs:=rfl;by_cases hk1:(k:Int)=w
  ·have f1:n7 w k=d8 w (aV w 1) (aV w 2):=je hk1;have f2:mI w k=2:=je hk1;have hmf:=U1 L D hL w (aV w 1) (aV w 2);rw[f1]at s1;rw[f2]at s2;simp only[rM]at hmf;generalize d8 w (aV w 1) (aV w 2)=m at hmf s1;have e1:(⟨m.inn,m.who,m.keys,m.own,m.epoch,m.init,m.tag⟩:Member)=m:=rfl;have hd:decide ((k:Int)=w)=true:=jd hk1;simp(disch:=omega) only[K1,jv,aU,aJ,dW,Nat.reduceAdd,kM,VU,N3,aW,aQ,↓aA,abJ,h',hd,rR _ _ hL,hmf,e1,MF,w1,l1,l2,l3,l4,aF,s1,s2,s3,s4,m1,m2,m3,m4,aH,e]
  ·have f1:n7 w k=bI:=jc hk1;have f2:mI w k=0:=jc hk1;rw[f1]at s1;rw[f2]at s2;have e1:[[MV.bool false,.int .i64 0,.sl [],.sl [],.int .i64 0,.str (bs []),.str (bs [])]]=[bI].map rM:=rfl;simp(disch:=omega) only[K1,aU,dW,Nat.reduceAdd,kM,VU,N3,↓aA,h',hk1,e1,MF,w1,l1,l2,l3,l4,aF,s1,s2,s3,s4,m1,m2,m3,m4,aH,e]
theorem af7(hL:1099511627776<=L)(w:Int):ev E L (D+310) 57 [.int .i64 w] []=
 some (.agg [.own ((bR w).seats.map rM),.own ((bR w).waits.map rWt),.own ((bR w).log.map rC),.own ((bR w).fresh.map rI),.own ((bR w).spy.map rS),.own ((bR w).stolen.map rSt),.own ((bR w).frames.map rF),.own ((bR w).said.map rI),.own ((bR w).wins.map rWs),.own ((bR w).told.map rT)],[]):=by
 rw[auM];simp only[KM];by_cases hw:aI w
 ·obtain⟨h1,h2⟩:=id hw;simp only[K1,aL,h1,h2];exact aaP L D hL w hw L 0 (by omega) (by omega)
 ·have h1:¬(0<=w/\w<=7):=hw;simp only[K1,aL,h1];unfold bR;rw[jc hw];rfl
theorem akR(c0:Int)(c1 c2:S)(c3 c4:Int)(c5:S)(c6:List S)(c7:List Box)(c8 c9 c10 c11 c12:S)(h1:c6.length<=1000000)(h2:c7.length<=1000000):ev E L (D+1) 103 [.agg [.int .i64 c0,.str (bs c1),.str (bs c2),.int .i64 c3,.int .i64 c4,.str (bs c5),.sl (c6.map rS),.sl (c7.map rB),.str (bs c8),.str (bs c9),.str (bs c10),.str (bs c11),.str (bs c12)]] []=some (.agg (rC ⟨c0,c1,c2,c3,c4,c5,c6,c7,c8,c9,c10,c11,c12⟩),[]):=by
 rw[apZ];simp only[KM];simp(disch:=omega) only[K1,aU,iC,MG,aQ,↓aA,eH,aF,rC]
end
end Kw.Sp
namespace Kw.Sp
open Go Go.Proofs
structure WSz(w:World):Prop where
 seats:w.seats.length<=1000
 waits:w.waits.length<=100000
 log:w.log.length<=1000
 fresh:w.fresh.length<=1000
 spy:w.spy.length<=100000
 stolen:w.stolen.length<=100000
 frames:w.frames.length<=100000
 said:w.said.length<=1000
 wins:w.wins.length<=1000
 told:w.told.length<=100000
 seat:∀m∈w.seats,m.keys.length<=1000/\m.own.length<=1000/\(m.inn=false->m.keys=[])
 cmt:∀c∈w.log,c.keys.length<=1000/\c.boxes.length<=1000
 win:∀l∈w.wins,l.length<=1000/\SF l
theorem jA{A:Type} [Inhabited A](l:List A)(k:Nat)(h:k<l.length):ix l (k:Int)∈l:=by rw[aM l k h];exact jt h
section
variable (L D:Nat)
theorem JW(hL:1099511627776<=L)(w:World)(z:WSz w):∀(n k:Nat) (B:List (List Win)),w.wins.length-k<n->k<=w.wins.length->B++w.wins.drop k=w.wins->
 DK L (D+2) n [] [] [] [] [] [] [] [] [] [] (w.seats.map rM) (w.waits.map rWt) (w.log.map rC) (w.fresh.map rI) (w.spy.map rS) (w.stolen.map rSt) (w.frames.map rF) (w.said.map rI) (B.map rWs) (w.told.map rT) (w.seats.map rM) (w.waits.map rWt) (w.log.map rC) (w.fresh.map rI) (w.spy.map rS) (w.stolen.map rSt) (w.frames.map rF) (w.said.map rI) (w.wins.map rWs) (w.told.map rT) 0 0 0 0 0 0 0 0 0 0 w.seats.length w.waits.length w.log.length w.fresh.length w.spy.length w.stolen.length w.frames.length w.said.length B.length w.told.length k=some (.agg [.own (w.seats.map rM),.own (w.waits.map rWt),.own (w.log.map rC),.own (w.fresh.map rI),.own (w.spy.map rS),.own (w.stolen.map rSt),.own (w.frames.map rF),.own (w.said.map rI),.own (w.wins.map rWs),.own (w.told.map rT)],[]):=by
 intro n;induction n with
 |zero=>intro k B h;omega
 |succ n ih=>
  intro k B hn hk hB;rw[K4];simp only[KM];have hBl:=wo List.length hB;rw[jl,yz]at hBl;have z9:=z.wins;by_cases h:k<w.wins.length
  case neg=>
   have h':¬(k:Int)<w.wins.length:=by omega
   rw[jo (by omega),kg]at hB
   subst hB;simp(disch:=omega) only[K1,↓aA,h']
  have h':(k:Int)<w.wins.length:=by omega
  obtain⟨q1,q2⟩:=z.win _ (jA w.wins k h);have hw:=af6 L (D+1) hL (ix w.wins (k:Int)) (by omega) q2
  have e1:[[MV.sl ((ix w.wins (k:Int)).map rW)]]=[ix w.wins (k:Int)].map rWs:=rfl;have:=ih (k+1) (B++[ix w.wins (k:Int)]) (by omega) (by omega) (by rw[v3];rw[bP w.wins k h]at hB;exact hB)
  simp(disch:=omega) only[K1,aU,dW,Nat.reduceAdd,N3,↓aA,nC,eA,h',hw,e1,aF,aH,this]
theorem af8(hL:1099511627776<=L)(w:World)(z:WSz w):∀(n k:Nat) (C:List Commit),w.log.length-k<n->k<=w.log.length->C++w.log.drop k=w.log->
 G7 L (D+2) n [] [] [] [] [] [] [] [] [] [] (w.seats.map rM) (w.waits.map rWt) (C.map rC) (w.fresh.map rI) (w.spy.map rS) (w.stolen.map rSt) (w.frames.map rF) (w.said.map rI) [] (w.told.map rT) (w.seats.map rM) (w.waits.map rWt) (w.log.map rC) (w.fresh.map rI) (w.spy.map rS) (w.stolen.map rSt) (w.frames.map rF) (w.said.map rI) (w.wins.map rWs) (w.told.map rT) 0 0 0 0 0 0 0 0 0 0 w.seats.length w.waits.length C.length w.fresh.length w.spy.length w.stolen.length w.frames.length w.said.length 0 w.told.length k=some (.agg [.own (w.seats.map rM),.own (w.waits.map rWt),.own (w.log.map rC),.own (w.fresh.map rI),.own (w.spy.map rS),.own (w.stolen.map rSt),.own (w.frames.map rF),.own (w.said.map rI),.own (w.wins.map rWs),.own (w.told.map rT)],[]):=by
 intro n;induction n with
 |zero=>intro k C h;omega
 |succ n ih=>
  intro k C hn hk hB;rw[PB];simp only[KM];have hBl:=wo List.length hB;rw[jl,yz]at hBl;have z9:=z.log;by_cases h:k<w.log.length
  case neg=>
   have h':¬(k:Int)<w.log.length:=by omega
   rw[jo (by omega),kg]at hB
   subst hB;have:=JW L D hL w z L 0 [] (by have:=z.wins;omega) (by omega) rfl
   simp(disch:=omega) only[K1,h'];exact this
  have h':(k:Int)<w.log.length:=by omega
  obtain⟨q1,q2⟩:=z.cmt _ (jA w.log k h);generalize hc:ix w.log (k:Int)=c at q1 q2;have hw:=akR L (D+1) c.sender c.tag c.name c.add c.remove c.leaf c.keys c.boxes c.wkey c.wik c.wis c.wsk c.wss (by omega) (by omega)
  have e1:(⟨c.sender,c.tag,c.name,c.add,c.remove,c.leaf,c.keys,c.boxes,c.wkey,c.wik,c.wis,c.wsk,c.wss⟩:Commit)=c:=rfl;have e2:[rC c]=[c].map rC:=rfl;simp only[rC]at hw;have:=ih (k+1) (C++[c]) (by omega) (by omega) (by rw[v3];rw[bP w.log k h,hc]at hB;exact hB)
  simp(disch:=omega) only[K1,jv,aU,aJ,Nat.reduceAdd,MH,aW,aQ,↓aA,KG,KH,KI,KJ,KK,KL,KN,KO,KP,KQ,AH,AI,AJ,H2,nK,h',hc,hw,e1,aF,aH,this]
theorem af9(hL:1099511627776<=L)(w:World)(z:WSz w):∀(n k:Nat) (A:List Member),w.seats.length-k<n->k<=w.seats.length->A++w.seats.drop k=w.seats->
 G6 L (D+2) n [] [] [] [] [] [] [] [] [] [] (A.map rM) (w.waits.map rWt) [] (w.fresh.map rI) (w.spy.map rS) (w.stolen.map rSt) (w.frames.map rF) (w.said.map rI) [] (w.told.map rT) (w.seats.map rM) (w.waits.map rWt) (w.log.map rC) (w.fresh.map rI) (w.spy.map rS) (w.stolen.map rSt) (w.frames.map rF) (w.said.map rI) (w.wins.map rWs) (w.told.map rT) 0 0 0 0 0 0 0 0 0 0 A.length w.waits.length 0 w.fresh.length w.spy.length w.stolen.length w.frames.length w.said.length 0 w.told.length k=some (.agg [.own (w.seats.map rM),.own (w.waits.map rWt),.own (w.log.map rC),.own (w.fresh.map rI),.own (w.spy.map rS),.own (w.stolen.map rSt),.own (w.frames.map rF),.own (w.said.map rI),.own (w.wins.map rWs),.own (w.told.map rT)],[]):=by
 intro n;induction n with
 |zero=>intro k A h;omega
 |succ n ih=>
  intro k A hn hk hB;rw[PA];simp only[KM];have hBl:=wo List.length hB;rw[jl,yz]at hBl;have z9:=z.seats;by_cases h:k<w.seats.length
  case neg=>
   have h':¬(k:Int)<w.seats.length:=by omega
   rw[jo (by omega),kg]at hB
   subst hB;have:=af8 L D hL w z L 0 [] (by have:=z.log;omega) (by omega) rfl
   simp(disch:=omega) only[K1,h'];exact this
  have h':(k:Int)<w.seats.length:=by omega
  obtain⟨q1,q2,q3⟩:=z.seat _ (jA w.seats k h);generalize hc:ix w.seats (k:Int)=m at q1 q2 q3;have hw:=J5 L D hL m.inn m.who m.epoch m.keys m.own m.init m.tag (by omega) (by omega)
  have e0:(if m.inn=true then m.keys else[])=m.keys:=by
   cases hi:m.inn with
   |true=>rfl
   |false=>rw[q3 hi];rfl
  rw[e0]at hw;have e1:(⟨m.inn,m.who,m.keys,m.own,m.epoch,m.init,m.tag⟩:Member)=m:=rfl;simp only[rM]at hw;have:=ih (k+1) (A++[m]) (by omega) (by omega) (by rw[v3];rw[bP w.seats k h,hc]at hB;exact hB)
  simp(disch:=omega) only[K1,jv,aU,aJ,Nat.reduceAdd,VU,aW,aQ,↓aA,iL,kE,kF,kG,kH,kI,kJ,abJ,bL,h',hc,hw,e1,aF,aH,this]
theorem afA(hL:1099511627776<=L)(w:World)(z:WSz w):ev E L (D+3) 60 [.agg [.sl (w.seats.map rM),.sl (w.waits.map rWt),.sl (w.log.map rC),.sl (w.fresh.map rI),.sl (w.spy.map rS),.sl (w.stolen.map rSt),.sl (w.frames.map rF),.sl (w.said.map rI),.sl (w.wins.map rWs),.sl (w.told.map rT)]] []=some (.agg [.own (w.seats.map rM),.own (w.waits.map rWt),.own (w.log.map rC),.own (w.fresh.map rI),.own (w.spy.map rS),.own (w.stolen.map rSt),.own (w.frames.map rF),.own (w.said.map rI),.own (w.wins.map rWs),.own (w.told.map rT)],[]):=by
 rw[auP];simp only[KM];have z1:=z.waits;have z2:=z.fresh;have z3:=z.spy;have z4:=z.stolen;have z5:=z.frames;have z6:=z.said;have z7:=z.told;have:=af9 L D hL w z L 0 [] (by have:=z.seats;omega) (by omega) rfl
 simp(disch:=omega) only[K1,aU,iC,kM,mN,EI,EJ,mO,aQ,↓aA,eH,aF];exact this
end
end Kw.Sp
namespace Kw.Sp
open Go Go.Proofs
structure WI(w:World):Prop where
 seats8:w.seats.length=8
 fresh8:w.fresh.length=8
 said8:w.said.length=8
 wins8:w.wins.length=8
 log16:w.log.length<=16
 waitsL:w.waits.length<=16
 stolen12:w.stolen.length<=12
 spyL:w.spy.length<=31*w.stolen.length
 frames40:w.frames.length<=40
 told320:w.told.length<=320
 freshR:∀x∈w.fresh,0<=x/\x<=100
 saidR:∀x∈w.said,0<=x/\x<=999
 seat:∀m∈w.seats,(m.inn=true->m.keys.length=15)/\(m.inn=false->m.keys=[])/\m.own.length<=30/\m.tag.length<=600/\m.keys.length<=15
 cmt:∀c∈w.log,c.tag.length<=300/\c.keys.length<=1000/\c.boxes.length<=1000
 win:∀l∈w.wins,l.length<=w.told.length/\∀x∈l,(0<=x.top/\x.top<=999)/\x.seen.length<=w.told.length+1
theorem WI.sz{w:World}(z:WI w):WSz w where
 seats:=by have:=z.seats8;omega
 waits:=by have:=z.waitsL;omega
 log:=by have:=z.log16;omega
 fresh:=by have:=z.fresh8;omega
 spy:=by have:=z.spyL;have:=z.stolen12;omega
 stolen:=by have:=z.stolen12;omega
 frames:=by have:=z.frames40;omega
 said:=by have:=z.said8;omega
 wins:=by have:=z.wins8;omega
 told:=by have:=z.told320;omega
 seat:=fun m hm=>by obtain⟨a,b,c,d,e⟩:=z.seat m hm;exact⟨by omega,by omega,b⟩
 cmt:=fun c hc=>by obtain⟨a,b,d⟩:=z.cmt c hc;exact⟨b,d⟩
 win:=fun l hl=>by
  obtain⟨a,b⟩:=z.win l hl;have:=z.told320;exact⟨by omega,fun x hx=>by obtain⟨c,d⟩:=b x hx;exact⟨by omega,by omega⟩⟩
theorem ixm{A:Type} [Inhabited A](l:List A)(i:Int)(h0:0<=i)(h1:i<l.length):ix l i∈l:=by
 have h:i.toNat<l.length:=by omega
 have:ix l i=l[i.toNat]:=by simp[ix,h]
 rw[this];exact jt h
section
variable (L D:Nat)
theorem afB(hL:1099511627776<=L)(w:World)(z:WI w)(who pos:Int)(hw:aI who)(hp:0<=pos/\pos<w.log.length):ev E L (D+311) 99 [.agg [.own (w.seats.map rM),.own (w.waits.map rWt),.own (w.log.map rC),.own (w.fresh.map rI),.own (w.spy.map rS),.own (w.stolen.map rSt),.own (w.frames.map rF),.own (w.said.map rI),.own (w.wins.map rWs),.own (w.told.map rT)],.int .i64 who,.int .i64 pos] []=some (.agg [.own ((dN w who pos).seats.map rM),.own ((dN w who pos).waits.map rWt),.own ((dN w who pos).log.map rC),.own ((dN w who pos).fresh.map rI),.own ((dN w who pos).spy.map rS),.own ((dN w who pos).stolen.map rSt),.own ((dN w who pos).frames.map rF),.own ((dN w who pos).said.map rI),.own ((dN w who pos).wins.map rWs),.own ((dN w who pos).told.map rT)],[]):=by
 rw[auW];simp only[KM];have z8:=z.seats8;have w0:=hw.1;have w1:who<w.seats.length:=by have:=hw.2;omega
 have p0:=hp.1;have p1:=hp.2;obtain⟨a1,a2,a3,a4,a5⟩:=z.seat _ (ixm w.seats who w0 w1);obtain⟨b1,b2,b3⟩:=z.cmt _ (ixm w.log pos p0 p1);unfold dN;generalize hm:ix w.seats who=m at a1 a2 a3 a4 a5;generalize hc:ix w.log pos=c at b1 b2 b3;have h:=aaJ L D hL m.inn m.who m.epoch m.keys m.own m.init m.tag (by omega) c.sender c.tag c.name c.add c.remove c.leaf c.keys c.boxes c.wkey c.wik c.wis c.wsk c.wss (by omega)
 have e1:(⟨m.inn,m.who,m.keys,m.own,m.epoch,m.init,m.tag⟩:Member)=m:=rfl;have e2:(⟨c.sender,c.tag,c.name,c.add,c.remove,c.leaf,c.keys,c.boxes,c.wkey,c.wik,c.wis,c.wsk,c.wss⟩:Commit)=c:=rfl;rw[e1,e2]at h;simp only[rM]at h;generalize eB m c=r at h;have e3:(⟨r.1.inn,r.1.who,r.1.keys,r.1.own,r.1.epoch,r.1.init,r.1.tag⟩:Member)=r.1:=rfl;cases hr:r.2 with
 |false=>
  rw[hr]at h;simp(disch:=omega) only[K1,Int.reduceLE,Nat.reduceAdd,↓aA,iL,kE,kF,kG,kH,kI,kJ,iT,bV,bE,qA,bL,KG,KH,KI,KJ,KK,KL,KN,KO,KP,KQ,AH,AI,AJ,mX,nK,hm,hc,h,hr]
 |true=>
  rw[hr]at h;simp(disch:=omega) only[K1,Int.reduceLE,Nat.reduceAdd,↓aA,iL,kE,kF,kG,kH,kI,kJ,iT,bV,bE,qA,bL,KG,KH,KI,KJ,KK,KL,KN,KO,KP,KQ,AH,AI,AJ,mX,nK,hm,hc,h,hr,e3,kj]
  rfl
theorem aaQ(hL:1099511627776<=L)(w:World)(z:WI w)(who:Int)(hw:aI who):ev E L (D+311) 97 [.agg [.own (w.seats.map rM),.own (w.waits.map rWt),.own (w.log.map rC),.own (w.fresh.map rI),.own (w.spy.map rS),.own (w.stolen.map rSt),.own (w.frames.map rF),.own (w.said.map rI),.own (w.wins.map rWs),.own (w.told.map rT)],.int .i64 who] []=some (.agg [.own ((cR w who).seats.map rM),.own ((cR w who).waits.map rWt),.own ((cR w who).log.map rC),.own ((cR w who).fresh.map rI),.own ((cR w who).spy.map rS),.own ((cR w who).stolen.map rSt),.own ((cR w who).frames.map rF),.own ((cR w who).said.map rI),.own ((cR w who).wins.map rWs),.own ((cR w who).told.map rT)],[]):=by
 rw[auU];simp only[KM];have z8:=z.seats8;have zs:=z.spyL;have zt:=z.stolen12;have w0:=hw.1;have w1:who<w.seats.length:=by have:=hw.2;omega
 obtain⟨a1,a2,a3,a4,a5⟩:=z.seat _ (ixm w.seats who w0 w1);unfold cR;generalize hm:ix w.seats who=m at a1 a2 a3 a4 a5;have h:=U2 L D hL m.inn m.who m.epoch m.keys m.own m.init m.tag (by omega)
 have e1:(⟨m.inn,m.who,m.keys,m.own,m.epoch,m.init,m.tag⟩:Member)=m:=rfl;rw[e1]at h;have hk:(eZ m).length<=31:=by
  unfold eZ;split
  ·simp;omega
  ·simp
 cases hi:m.inn with
 |false=>
  simp(disch:=omega) only[K1,↓aA,iL,bE,bL,hm,hi];simp
 |true=>
  rw[hi]at h;by_cases h12:w.stolen.length=12
  ·have h12':(w.stolen.length:Int)=12:=by omega
   have hd:decide ((w.stolen.length:Int)=12)=true:=jd h12';simp(disch:=omega) only[K1,ww,↓aA,iL,bE,bL,hm,hi,hd];simp[h12]
  ·have h12':¬(w.stolen.length:Int)=12:=by omega
   simp(disch:=omega) only[K1,jv,aU,aJ,dW,ww,Nat.reduceAdd,iC,EJ,aW,aQ,↓aA,iL,kE,kF,kG,kH,kI,kJ,bE,bL,GT,hm,hi,h12',h,aF];simp[h12]
theorem akS(hL:1099511627776<=L)(w:World)(z:WI w)(who:Int)(hw:aI who)(x:S):ev E L (D+311) 98 [.agg [.own (w.seats.map rM),.own (w.waits.map rWt),.own (w.log.map rC),.own (w.fresh.map rI),.own (w.spy.map rS),.own (w.stolen.map rSt),.own (w.frames.map rF),.own (w.said.map rI),.own (w.wins.map rWs),.own (w.told.map rT)],.int .i64 who,.str (bs x)] []=some (.agg [.own ((eK w who x).seats.map rM),.own ((eK w who x).waits.map rWt),.own ((eK w who x).log.map rC),.own ((eK w who x).fresh.map rI),.own ((eK w who x).spy.map rS),.own ((eK w who x).stolen.map rSt),.own ((eK w who x).frames.map rF),.own ((eK w who x).said.map rI),.own ((eK w who x).wins.map rWs),.own ((eK w who x).told.map rT)],[]):=by
 rw[auV];simp only[KM];have z8:=z.seats8;have zs:=z.said8;have zf:=z.frames40;have w0:=hw.1;have w1:who<w.seats.length:=by have:=hw.2;omega
 have w2:who<w.said.length:=by have:=hw.2;omega
 obtain⟨a1,a2,a3,a4,a5⟩:=z.seat _ (ixm w.seats who w0 w1);obtain⟨s0,s1⟩:=z.saidR _ (ixm w.said who w0 w2);unfold eK;generalize hm:ix w.seats who=m at a1 a2 a3 a4 a5;generalize hs:ix w.said who=s at s0 s1;by_cases h40:w.frames.length=40
 ·have h':(w.frames.length:Int)=40:=by omega
  have hd:decide (¬(w.frames.length:Int)=40)=false:=ji (fun x=>x h')
  simp(disch:=omega) only[K1,aP,↓aA,hd];simp[h40]
 have h40':¬(w.frames.length:Int)=40:=by omega
 by_cases h999:s=999
 ·have hd:decide (s=999)=true:=jd h999;simp(disch:=omega) only[K1,↓aA,dU,bJ,aY,h40',hs,hd];simp[h999]
 rw[jc (fun x=>x.elim h40 h999)]
 have h:=aaL L D hL m.inn m.who m.epoch m.keys m.own m.init m.tag (by omega) (s+1) x
 have e1:(⟨m.inn,m.who,m.keys,m.own,m.epoch,m.init,m.tag⟩:Member)=m:=rfl;rw[e1]at h;cases hf:mZ m (s+1) x with
 |none=>
  rw[hf]at h;simp only[rF]at h;simp(disch:=omega) only[K1,jv,cS,aJ,Int.reduceLE,Nat.reduceAdd,mN,aW,aQ,↓aA,dU,cV,cW,bJ,kD,aY,iL,kE,kF,kG,kH,kI,kJ,bE,bL,NZ,h40',hs,h999,hm,aZ,h]
 |some f=>
  rw[hf]at h;simp only[rF]at h;have e3:(⟨f.src,f.key,f.n,f.text⟩:Frame)=f:=rfl;simp(disch:=omega) only[K1,jv,aU,aJ,Int.reduceLE,Nat.reduceAdd,mN,aW,aQ,↓aA,dU,cV,cW,bJ,kD,aY,iL,kE,kF,kG,kH,kI,kJ,bE,bL,NZ,h40',hs,h999,hm,aZ,h,e3,aF,kj]
  rfl
theorem akT(hL:1099511627776<=L)(w:World)(z:WI w)(who pos:Int)(hw:aI who)(hp:0<=pos/\pos<w.frames.length):ev E L (D+311) 101 [.agg [.own (w.seats.map rM),.own (w.waits.map rWt),.own (w.log.map rC),.own (w.fresh.map rI),.own (w.spy.map rS),.own (w.stolen.map rSt),.own (w.frames.map rF),.own (w.said.map rI),.own (w.wins.map rWs),.own (w.told.map rT)],.int .i64 who,.int .i64 pos] []=some (.agg [.own ((eL w who pos).seats.map rM),.own ((eL w who pos).waits.map rWt),.own ((eL w who pos).log.map rC),.own ((eL w who pos).fresh.map rI),.own ((eL w who pos).spy.map rS),.own ((eL w who pos).stolen.map rSt),.own ((eL w who pos).frames.map rF),.own ((eL w who pos).said.map rI),.own ((eL w who pos).wins.map rWs),.own ((eL w who pos).told.map rT)],[]):=by
 rw[apX];simp only[KM];have z8:=z.seats8;have z9:=z.wins8;have zt:=z.told320;have w0:=hw.1;have w1:who<w.seats.length:=by have:=hw.2;omega
 have w2:who<w.wins.length:=by have:=hw.2;omega
 have p0:=hp.1;have p1:=hp.2;obtain⟨a1,a2,a3,a4,a5⟩:=z.seat _ (ixm w.seats who w0 w1);obtain⟨q1,q2⟩:=z.sz.win _ (ixm w.wins who w0 w2);unfold eL;generalize hm:ix w.seats who=m at a1 a2 a3 a4 a5;generalize hs:ix w.wins who=s at q1 q2;generalize hf:ix w.frames pos=f;by_cases h320:w.told.length=320
 ·have h':(w.told.length:Int)=320:=by omega
  have hd:decide ((w.told.length:Int)=320)=true:=jd h';simp(disch:=omega) only[K1,↓aA,hd];simp[h320]
 have h320':¬(w.told.length:Int)=320:=by omega
 rw[jc h320];have h:=akQ L (D+1) hL m.inn m.who m.epoch m.keys m.own m.init m.tag a1 s (by omega) q2 f.src f.key f.n f.text
 have e1:(⟨m.inn,m.who,m.keys,m.own,m.epoch,m.init,m.tag⟩:Member)=m:=rfl;have e2:(⟨f.src,f.key,f.n,f.text⟩:Frame)=f:=rfl;rw[e1,e2]at h;cases hg:nM m s f with
 |none=>
  rw[hg]at h;simp(disch:=omega) only[K1,jv,cS,aJ,Int.reduceLE,Nat.reduceAdd,mO,aW,aQ,↓aA,iL,kE,kF,kG,kH,kI,kJ,bE,bL,abK,abL,abM,abN,CC,EH,nC,yJ,dF,dV,N0,eA,kA,h320',hm,hs,hf,h]
 |some x=>
  rw[hg]at h;simp(disch:=omega) only[K1,jv,aU,aJ,Int.reduceLE,Nat.reduceAdd,mO,aW,aQ,↓aA,iL,kE,kF,kG,kH,kI,kJ,bE,bL,abK,abL,abM,abN,CC,EH,nC,yJ,dF,dV,N0,eA,kA,h320',hm,hs,hf,h,aF,kj]
  rfl
end
end Kw.Sp
namespace Kw.Sp
open Go Go.Proofs
def jB(p:Nat):List Wait->Nat->List Wait
 |[],_=>[]
 |x::r,k=>(if k=p then[]else[x])++jB p r (k+1)
theorem GG(p:Nat):∀(l:List Wait) (k:Nat),p<k->jB p l k=l
 |[],_,_=>rfl
 |x::r,k,h=>by rw[jB,jc (by omega),GG p r (k+1) (by omega)];rfl
theorem D7(p:Nat):∀(l:List Wait) (k:Nat),k<=p->jB p l k=l.eraseIdx (p-k)
 |[],_,_=>by simp[jB]
 |x::r,k,h=>by
  rw[jB];by_cases e:k=p
  ·subst e;rw[je rfl,GG _ r (k+1) (by omega)];simp
  ·rw[jc e,D7 p r (k+1) (by omega),show p-k=(p-(k+1))+1 by omega];rfl
section
variable (L D:Nat)
theorem aaR(hL:1099511627776<=L)(w:World)(z:WSz w)(p:Nat):∀(n k:Nat) (acc:List Wait),w.waits.length-k<n->k<=w.waits.length->acc.length<=k->
 wU L D n (w.seats.map rM) (w.waits.map rWt) (w.log.map rC) (w.fresh.map rI) (w.spy.map rS) (w.stolen.map rSt) (w.frames.map rF) (w.said.map rI) (w.wins.map rWs) (w.told.map rT) [] [] [] [] [] [] [] [] [] [] (acc.map rWt) w.seats.length w.waits.length w.log.length w.fresh.length w.spy.length w.stolen.length w.frames.length w.said.length w.wins.length w.told.length 0 0 0 0 0 0 0 0 0 0 p acc.length k=some (.agg [.own (({w with waits:=acc++jB p (w.waits.drop k) k}).seats.map rM),.own (({w with waits:=acc++jB p (w.waits.drop k) k}).waits.map rWt),.own (({w with waits:=acc++jB p (w.waits.drop k) k}).log.map rC),.own (({w with waits:=acc++jB p (w.waits.drop k) k}).fresh.map rI),.own (({w with waits:=acc++jB p (w.waits.drop k) k}).spy.map rS),.own (({w with waits:=acc++jB p (w.waits.drop k) k}).stolen.map rSt),.own (({w with waits:=acc++jB p (w.waits.drop k) k}).frames.map rF),.own (({w with waits:=acc++jB p (w.waits.drop k) k}).said.map rI),.own (({w with waits:=acc++jB p (w.waits.drop k) k}).wins.map rWs),.own (({w with waits:=acc++jB p (w.waits.drop k) k}).told.map rT)],[]):=by
 intro n;induction n with
 |zero=>intro k acc h;omega
 |succ n ih=>
  intro k acc hn hk ha;rw[LB];simp only[KM];have z1:=z.waits;by_cases h:k<w.waits.length
  case neg=>
   have h':¬(k:Int)<w.waits.length:=by omega
   simp(disch:=omega) only[K1,↓aA,h'];rw[jo (by omega)];simp[jB]
  have h':(k:Int)<w.waits.length:=by omega
  rw[bP w.waits k h,jB];by_cases h1:k=p
  ·have h1':(k:Int)=p:=by omega
   have hd:decide (¬(k:Int)=p)=false:=ji (fun x=>x h1')
   have:=ih (k+1) acc (by omega) (by omega) (by omega)
   simp(disch:=omega) only[K1,aP,↓aA,h',hd,aH,this];rw[je h1];rfl
  ·have h1':¬(k:Int)=p:=by omega
   have:=ih (k+1) (acc++[ix w.waits (k:Int)]) (by omega) (by omega) (by simp;omega)
   have e1:(⟨(ix w.waits (k:Int)).who,(ix w.waits (k:Int)).pos,(ix w.waits (k:Int)).leaf,(ix w.waits (k:Int)).key⟩:Wait)=ix w.waits (k:Int):=rfl;simp(disch:=omega) only[K1,jv,aU,aJ,Nat.reduceAdd,EI,aW,aQ,↓aA,AK,AL,AM,AN,N1,kK,l8,h',h1',aF,e1,aH,this];rw[jc h1];simp
theorem afC(hL:1099511627776<=L)(w:World)(z:WSz w)(p:Nat):ev E L (D+1) 168 [.agg [.own (w.seats.map rM),.own (w.waits.map rWt),.own (w.log.map rC),.own (w.fresh.map rI),.own (w.spy.map rS),.own (w.stolen.map rSt),.own (w.frames.map rF),.own (w.said.map rI),.own (w.wins.map rWs),.own (w.told.map rT)],.int .i64 p] []=some (.agg [.own (({w with waits:=w.waits.eraseIdx p}).seats.map rM),.own (({w with waits:=w.waits.eraseIdx p}).waits.map rWt),.own (({w with waits:=w.waits.eraseIdx p}).log.map rC),.own (({w with waits:=w.waits.eraseIdx p}).fresh.map rI),.own (({w with waits:=w.waits.eraseIdx p}).spy.map rS),.own (({w with waits:=w.waits.eraseIdx p}).stolen.map rSt),.own (({w with waits:=w.waits.eraseIdx p}).frames.map rF),.own (({w with waits:=w.waits.eraseIdx p}).said.map rI),.own (({w with waits:=w.waits.eraseIdx p}).wins.map rWs),.own (({w with waits:=w.waits.eraseIdx p}).told.map rT)],[]):=by
 rw[aqE];have:=aaR L D hL w z p L 0 [] (by have:=z.waits;omega) (by omega) (by simp)
 simp only[K1];rw[qb,qf,D7 p _ 0 (by omega)]at this
 exact this
theorem aaS(hL:1099511627776<=L)(w:World)(z:WI w)(who pos:Int)(hw:aI who)(hp:0<=pos/\pos<w.log.length):∀(n k:Nat),w.waits.length-k<n->k<=w.waits.length->
 rN L (D+310) n (w.seats.map rM) (w.waits.map rWt) (w.log.map rC) (w.fresh.map rI) (w.spy.map rS) (w.stolen.map rSt) (w.frames.map rF) (w.said.map rI) (w.wins.map rWs) (w.told.map rT) [] [] [] [] [] [] [] [] [] [] w.seats.length w.waits.length w.log.length w.fresh.length w.spy.length w.stolen.length w.frames.length w.said.length w.wins.length w.told.length 0 0 0 0 0 0 0 0 0 0 who pos k=some (.agg [.own ((joinGo w who pos (w.waits.drop k) k).seats.map rM),.own ((joinGo w who pos (w.waits.drop k) k).waits.map rWt),.own ((joinGo w who pos (w.waits.drop k) k).log.map rC),.own ((joinGo w who pos (w.waits.drop k) k).fresh.map rI),.own ((joinGo w who pos (w.waits.drop k) k).spy.map rS),.own ((joinGo w who pos (w.waits.drop k) k).stolen.map rSt),.own ((joinGo w who pos (w.waits.drop k) k).frames.map rF),.own ((joinGo w who pos (w.waits.drop k) k).said.map rI),.own ((joinGo w who pos (w.waits.drop k) k).wins.map rWs),.own ((joinGo w who pos (w.waits.drop k) k).told.map rT)],[]):=by
 intro n;induction n with
 |zero=>intro k h;omega
 |succ n ih=>
  intro k hn hk;rw[K5];simp only[KM];have z1:=z.sz.waits;have z8:=z.seats8;have w0:=hw.1;have w1:who<w.seats.length:=by have:=hw.2;omega
  have p0:=hp.1;have p1:=hp.2;by_cases h:k<w.waits.length
  case neg=>
   have h':¬(k:Int)<w.waits.length:=by omega
   simp(disch:=omega) only[K1,↓aA,h'];rw[jo (by omega)];rfl
  have h':(k:Int)<w.waits.length:=by omega
  have next:=ih (k+1) (by omega) (by omega)
  rw[bP w.waits k h,joinGo];generalize hx:ix w.waits (k:Int)=x;by_cases h1:x.who=who
  case neg=>
   rw[jc (fun y=>h1 y.1)]
   simp(disch:=omega) only[K1,↓aA,AK,AL,AM,AN,kK,l8,h',hx,h1,aH,next]
  have hd1:decide (x.who=who)=true:=jd h1;by_cases h2:x.pos=pos
  case neg=>
   rw[jc (fun y=>h2 y.2)]
   simp(disch:=omega) only[K1,↓aA,AK,AL,AM,AN,kK,l8,h',hx,hd1,h2,aH,next]
  have hd2:decide (x.pos=pos)=true:=jd h2;rw[je ⟨h1,h2⟩];obtain⟨b1,b2,b3⟩:=z.cmt _ (ixm w.log pos p0 p1);generalize hc:ix w.log pos=c at b1 b2 b3;have hj:=aaK L D hL who x.leaf x.key c.sender c.tag c.name c.add c.remove c.leaf c.keys c.boxes c.wkey c.wik c.wis c.wsk c.wss (by omega)
  have e2:(⟨c.sender,c.tag,c.name,c.add,c.remove,c.leaf,c.keys,c.boxes,c.wkey,c.wik,c.wis,c.wsk,c.wss⟩:Commit)=c:=rfl;rw[e2]at hj;cases hm:iP who x.leaf x.key c with
  |none=>
   rw[hm]at hj;simp only[rM]at hj;simp(disch:=omega) only[K1,Int.reduceLE,Nat.reduceAdd,↓aA,iT,bV,bE,qA,bL,KG,KH,KI,KJ,KK,KL,KN,KO,KP,KQ,AH,AI,AJ,mX,nK,AK,AL,AM,AN,kK,l8,h',hx,hd1,hd2,hc,hj,aH,next]
  |some m=>
   rw[hm]at hj;simp only[rM]at hj;have e3:(⟨m.inn,m.who,m.keys,m.own,m.epoch,m.init,m.tag⟩:Member)=m:=rfl;have zz:WSz {w with seats:=dH w.seats who m}:={z.sz with
    seats:=by have:=z.sz.seats;simp[dH];omega
    seat:=fun q hq=>by
     rcases v5 hq with hq|hq
     ·exact z.sz.seat q hq
     ·subst hq;unfold iP at hm;split at hm
      ·rename_i g;cases hm;have hk:=dS (lU g.1).2.2.2.2.2.1;have hpl:=jO (treMeet (treLeaf who) (treLeaf c.sender)) c.wss;have htu:=cN (treMeet (treLeaf who) (treLeaf c.sender));refine⟨by simp[qI];omega,by simp[qI];omega,fun x=>by cases x⟩
      ·cases hm}
   have hg:=afC L (D+309) hL {w with seats:=dH w.seats who m} zz k
   simp only[dH]at hg;simp(disch:=omega) only[K1,Int.reduceLE,Nat.reduceAdd,↓aA,iT,bV,bE,qA,bL,KG,KH,KI,KJ,KK,KL,KN,KO,KP,KQ,AH,AI,AJ,mX,nK,AK,AL,AM,AN,kK,l8,h',hx,hd1,hd2,hc,hj,e3,kj,hg]
   rfl
theorem afD(hL:1099511627776<=L)(w:World)(z:WI w)(who pos:Int)(hw:aI who)(hp:0<=pos/\pos<w.log.length):ev E L (D+311) 100 [.agg [.own (w.seats.map rM),.own (w.waits.map rWt),.own (w.log.map rC),.own (w.fresh.map rI),.own (w.spy.map rS),.own (w.stolen.map rSt),.own (w.frames.map rF),.own (w.said.map rI),.own (w.wins.map rWs),.own (w.told.map rT)],.int .i64 who,.int .i64 pos] []=some (.agg [.own ((dC w who pos).seats.map rM),.own ((dC w who pos).waits.map rWt),.own ((dC w who pos).log.map rC),.own ((dC w who pos).fresh.map rI),.own ((dC w who pos).spy.map rS),.own ((dC w who pos).stolen.map rSt),.own ((dC w who pos).frames.map rF),.own ((dC w who pos).said.map rI),.own ((dC w who pos).wins.map rWs),.own ((dC w who pos).told.map rT)],[]):=by
 rw[apW];simp only[KM];have z8:=z.seats8;have w0:=hw.1;have w1:who<w.seats.length:=by have:=hw.2;omega
 unfold dC;cases hi:(ix w.seats who).inn with
 |true=>
  simp(disch:=omega) only[K1,↓aA,iL,bE,bL,hi]
 |false=>
  have:=aaS L D hL w z who pos hw hp L 0 (by have:=z.sz.waits;omega) (by omega)
  simp(disch:=omega) only[K1,↓aA,iL,bE,bL,hi];exact this
end
end Kw.Sp
namespace Kw.Sp
open Go Go.Proofs
section
variable (L D:Nat)
theorem VA(l:List Int)(i j v:Int)(P:Int->Prop)(hl:∀x∈l,P x)(hv:P v)(h0:0<=j)(h1:j<l.length):P (ix (dH l i v) j):=by
 have:=ixm (dH l i v) j h0 (by simp[dH];exact h1)
 rcases v5 this with h|h
 ·exact hl _ h
 ·rw[h];exact hv
theorem SI(hL:1099511627776<=L)(w:World)(z:WI w)(e:Event)(hw:aI e.who)(ha:inR e.add)(hlg:w.log.length≠16)(lf ky:S):
 rL L (D+310) (w.seats.map rM) (w.waits.map rWt) (w.log.map rC) (w.fresh.map rI) (w.spy.map rS) (w.stolen.map rSt) (w.frames.map rF) (w.said.map rI) (w.wins.map rWs) (w.told.map rT) [] [] [] [] [] [] [] [] [] [] w.seats.length w.waits.length w.log.length w.fresh.length w.spy.length w.stolen.length w.frames.length w.said.length w.wins.length w.told.length e.kind e.who e.add e.remove e.pos (bs e.text) 0 0 0 0 0 0 0 0 0 0 e.add w.log.length (bs lf) (bs ky) (bs (makKey lf)) (bs (makKey ky))=some (.agg [.own ((commitEnd w e lf ky).seats.map rM),.own ((commitEnd w e lf ky).waits.map rWt),.own ((commitEnd w e lf ky).log.map rC),.own ((commitEnd w e lf ky).fresh.map rI),.own ((commitEnd w e lf ky).spy.map rS),.own ((commitEnd w e lf ky).stolen.map rSt),.own ((commitEnd w e lf ky).frames.map rF),.own ((commitEnd w e lf ky).said.map rI),.own ((commitEnd w e lf ky).wins.map rWs),.own ((commitEnd w e lf ky).told.map rT)],[]):=by
 rw[RM];simp only[KM];have z8:=z.seats8;have zf:=z.fresh8;have zw:=z.waitsL;have zl:=z.log16;have w0:=hw.1;have w1:e.who<w.seats.length:=by have:=hw.2;omega
 have w2:e.who<w.fresh.length:=by have:=hw.2;omega
 obtain⟨a1,a2,a3,a4,a5⟩:=z.seat _ (ixm w.seats e.who w0 w1);obtain⟨f0,f1⟩:=z.freshR _ (ixm w.fresh e.who w0 w2);unfold commitEnd;generalize hm:ix w.seats e.who=m at a1 a2 a3 a4 a5;generalize hf:ix w.fresh e.who=f at f0 f1;have h:=SB L D hL m.inn m.who m.epoch m.keys m.own m.init m.tag (by omega) (aV e.who (f+1)) e.add e.remove (makKey lf) (makKey ky) (by omega)
 have e1:(⟨m.inn,m.who,m.keys,m.own,m.epoch,m.init,m.tag⟩:Member)=m:=rfl;rw[e1]at h;cases hc:iD m (aV e.who (f+1)) e.add e.remove (makKey lf) (makKey ky)with
 |none=>
  rw[hc]at h;simp only[rM,rC]at h;simp(disch:=omega) only[K1,Nat.reduceAdd,↓aA,dU,bJ,aY,iL,kE,kF,kG,kH,kI,kJ,bE,bL,hm,hf,aZ,rR _ _ hL,h]
 |some p=>
  obtain⟨x,c⟩:=p;rw[hc]at h;simp only[rM,rC]at h;have e2:(⟨x.inn,x.who,x.keys,x.own,x.epoch,x.init,x.tag⟩:Member)=x:=rfl;have e3:(⟨c.sender,c.tag,c.name,c.add,c.remove,c.leaf,c.keys,c.boxes,c.wkey,c.wik,c.wis,c.wsk,c.wss⟩:Commit)=c:=rfl;by_cases h0:0<=e.add
  ·have ha1:=ha.2;have w3:e.add< (w.fresh.set e.who.toNat (f+1)).length:=by rw[kj];omega
   have hr:=VA w.fresh e.who e.add (f+1) (fun x=>0<=x/\x<=1000) (fun x hx=>by have:=z.freshR x hx;omega) (by omega) h0 (by omega)
   unfold dH at hr;obtain⟨r0,r1⟩:=hr;simp(disch:=omega) only[K1,jv,aU,aJ,Int.reduceLE,Nat.reduceAdd,MH,EI,aW,aQ,↓aA,dU,cV,cW,bJ,kD,aY,iL,kE,kF,kG,kH,kI,kJ,iT,bV,bE,qA,bL,H2,N1,hm,hf,aZ,rR _ _ hL,h,e2,e3,aF,h0,kj]
   rfl
  ·simp(disch:=omega) only[K1,jv,aU,aJ,Int.reduceLE,Nat.reduceAdd,MH,aW,aQ,↓aA,dU,cV,cW,bJ,kD,aY,iL,kE,kF,kG,kH,kI,kJ,iT,bV,bE,qA,bL,H2,hm,hf,aZ,rR _ _ hL,h,e2,e3,aF,h0,kj]
   rfl
theorem VB(hL:1099511627776<=L)(w:World)(z:WI w)(e:Event)(hw:aI e.who):ev E L (D+311) 96 [.agg [.own (w.seats.map rM),.own (w.waits.map rWt),.own (w.log.map rC),.own (w.fresh.map rI),.own (w.spy.map rS),.own (w.stolen.map rSt),.own (w.frames.map rF),.own (w.said.map rI),.own (w.wins.map rWs),.own (w.told.map rT)],.agg [.int .i64 e.kind,.int .i64 e.who,.int .i64 e.add,.int .i64 e.remove,.int .i64 e.pos,.str (bs e.text)]] []=some (.agg [.own ((cA w e).seats.map rM),.own ((cA w e).waits.map rWt),.own ((cA w e).log.map rC),.own ((cA w e).fresh.map rI),.own ((cA w e).spy.map rS),.own ((cA w e).stolen.map rSt),.own ((cA w e).frames.map rF),.own ((cA w e).said.map rI),.own ((cA w e).wins.map rWs),.own ((cA w e).told.map rT)],[]):=by
 rw[auT];simp only[KM];have zf:=z.fresh8;have zl:=z.log16;have w0:=hw.1;have w2:e.who<w.fresh.length:=by have:=hw.2;omega
 obtain⟨f0,f1⟩:=z.freshR _ (ixm w.fresh e.who w0 w2);unfold cA;have hj:=fun ha hlg lf ky=>SI L D hL w z e hw ha hlg lf ky
 generalize hf:ix w.fresh e.who=f at f0 f1;by_cases h16:w.log.length=16
 ·have h':(w.log.length:Int)=16:=by omega
  have hd:decide (¬(w.log.length:Int)=16)=false:=ji (fun x=>x h')
  rw[je (.inl h16)];simp(disch:=omega) only[K1,aP,↓aA,hd]
 have h16':¬(w.log.length:Int)=16:=by omega
 by_cases h99:99<=f
 ·rw[je (.inr (.inl h99))];simp(disch:=omega) only[K1,↓aA,dU,bJ,aY,h16',hf,h99]
 by_cases ha: -1<=e.add/\e.add<=7
 case neg=>
  rw[je (.inr (.inr (.inl ha)))];simp(disch:=omega) only[K1,Int.reduceNeg,↓aA,dU,bJ,aY,h16',hf,h99,aL,ha]
 obtain⟨ha1,ha2⟩:=id ha;have mk0:makKey []=[]:=rfl;by_cases h0:0<=e.add
 ·have w3:e.add<w.fresh.length:=by omega
  obtain⟨g0,g1⟩:=z.freshR _ (ixm w.fresh e.add h0 w3);generalize hg:ix w.fresh e.add=g at g0 g1;by_cases h98:98<=g
  ·rw[je (.inr (.inr (.inr ⟨h0,h98⟩)))];simp(disch:=omega) only[K1,Int.reduceNeg,↓aA,dU,bJ,aY,h16',hf,h99,aL,ha1,ha2,h0,hg,h98]
  ·rw[jc (fun x=>x.elim h16 fun x=>x.elim h99 fun x=>x.elim (fun y=>y ha) fun y=>h98 y.2),je h0]
   simp(disch:=omega) only[K1,Int.reduceNeg,↓aA,dU,bJ,aY,h16',hf,h99,aL,ha1,ha2,h0,hg,h98,aZ,rR _ _ hL,dY _ _ hL,hj ha h16]
 ·rw[jc (fun x=>x.elim h16 fun x=>x.elim h99 fun x=>x.elim (fun y=>y ha) fun y=>h0 y.1),jc h0]
  have:=hj ha h16 [] [];rw[mk0]at this;simp(disch:=omega) only[K1,Int.reduceNeg,↓aA,dU,bJ,aY,h16',hf,h99,aL,ha1,ha2,h0,this]
theorem afE(hL:1099511627776<=L)(w:World)(z:WI w)(e:Event):ev E L (D+312) 59 [.agg [.own (w.seats.map rM),.own (w.waits.map rWt),.own (w.log.map rC),.own (w.fresh.map rI),.own (w.spy.map rS),.own (w.stolen.map rSt),.own (w.frames.map rF),.own (w.said.map rI),.own (w.wins.map rWs),.own (w.told.map rT)],.agg [.int .i64 e.kind,.int .i64 e.who,.int .i64 e.add,.int .i64 e.remove,.int .i64 e.pos,.str (bs e.text)]] []=some (.agg [.own ((step w e).seats.map rM),.own ((step w e).waits.map rWt),.own ((step w e).log.map rC),.own ((step w e).fresh.map rI),.own ((step w e).spy.map rS),.own ((step w e).stolen.map rSt),.own ((step w e).frames.map rF),.own ((step w e).said.map rI),.own ((step w e).wins.map rWs),.own ((step w e).told.map rT)],[]):=by
 rw[auO];simp only[KM];unfold step;by_cases hw:aI e.who
 case neg=>
  have h':¬(0<=e.who/\e.who<=7):=hw;rw[jc hw];simp only[K1,↓aA,aL,h']
 obtain⟨w0,w1⟩:=id hw;rw[je hw];by_cases k1:e.kind=1
 ·have hd:decide (e.kind=1)=true:=jd k1;rw[je k1];simp only[K1,Nat.reduceAdd,↓aA,aL,w0,w1,hd,VB _ _ hL w z e hw]
 rw[jc k1];by_cases k4:e.kind=4
 ·have hd:decide (e.kind=4)=true:=jd k4;rw[je k4];simp only[K1,Nat.reduceAdd,↓aA,aL,w0,w1,k1,hd,aaQ _ _ hL w z e.who hw]
 rw[jc k4];by_cases k5:e.kind=5
 ·have hd:decide (e.kind=5)=true:=jd k5;rw[je k5];simp only[K1,Nat.reduceAdd,↓aA,aL,w0,w1,k1,k4,hd,akS _ _ hL w z e.who hw]
 rw[jc k5];have hll:hJ .i64 (w.log.length:Int) 1=(w.log.length:Int)-1:=dR (by omega) (by have:=z.log16;omega)
 have hff:hJ .i64 (w.frames.length:Int) 1=(w.frames.length:Int)-1:=dR (by omega) (by have:=z.frames40;omega)
 by_cases k2:e.kind=2
 ·have hd:decide (e.kind=2)=true:=jd k2;rw[je k2];by_cases hp:0<=e.pos/\e.pos<w.log.length
  ·have p0:=hp.1;have p1:e.pos<=(w.log.length:Int)-1:=by omega
   rw[je hp];simp only[K1,Nat.reduceAdd,↓aA,aL,w0,w1,k1,k4,k5,hd,hll,p0,p1,afB _ _ hL w z e.who e.pos hw hp]
  ·rw[jc hp];by_cases p0:0<=e.pos
   ·have p1:¬e.pos<=(w.log.length:Int)-1:=by omega
    simp only[K1,and_false,↓aA,aL,w0,w1,k1,k4,k5,hd,hll,p0,p1]
   ·simp only[K1,yu,↓aA,aL,w0,w1,k1,k4,k5,hd,hll,p0]
 rw[jc k2];by_cases k3:e.kind=3
 ·have hd:decide (e.kind=3)=true:=jd k3;rw[je k3];by_cases hp:0<=e.pos/\e.pos<w.log.length
  ·have p0:=hp.1;have p1:e.pos<=(w.log.length:Int)-1:=by omega
   rw[je hp];simp only[K1,Nat.reduceAdd,↓aA,aL,w0,w1,k1,k4,k5,k2,hd,hll,p0,p1,afD _ _ hL w z e.who e.pos hw hp]
  ·rw[jc hp];by_cases p0:0<=e.pos
   ·have p1:¬e.pos<=(w.log.length:Int)-1:=by omega
    simp only[K1,and_false,↓aA,aL,w0,w1,k1,k4,k5,k2,hd,hll,p0,p1]
   ·simp only[K1,yu,↓aA,aL,w0,w1,k1,k4,k5,k2,hd,hll,p0]
 rw[jc k3];by_cases k6:e.kind=6
 ·have hd:decide (e.kind=6)=true:=jd k6;rw[je k6];by_cases hp:0<=e.pos/\e.pos<w.frames.length
  ·have p0:=hp.1;have p1:e.pos<=(w.frames.length:Int)-1:=by omega
   rw[je hp];simp only[K1,Nat.reduceAdd,↓aA,aL,w0,w1,k1,k4,k5,k2,k3,hd,hff,p0,p1,akT _ _ hL w z e.who e.pos hw hp]
  ·rw[jc hp];by_cases p0:0<=e.pos
   ·have p1:¬e.pos<=(w.frames.length:Int)-1:=by omega
    simp only[K1,and_false,↓aA,aL,w0,w1,k1,k4,k5,k2,k3,hd,hff,p0,p1]
   ·simp only[K1,yu,↓aA,aL,w0,w1,k1,k4,k5,k2,k3,hd,hff,p0]
 rw[jc k6];simp only[K1,↓aA,aL,w0,w1,k1,k4,k5,k2,k3,k6]
end
end Kw.Sp
namespace Kw.Sp
open Go Go.Proofs
structure WJ(w:World):Prop extends WI w where
 waitsLog:w.waits.length<=w.log.length
 nameL:∀c∈w.log,c.name.length<=300
theorem pig:∀(l p:List Int),l.Nodup->(∀x∈l,x∈p)->l.length<=p.length
 |[],_,_,_=>Nat.zero_le _
 |x::l,p,h,hs=>by
  have hx:=hs x (by simp)
  have h1:=wd.1 h;have h2:=pig l (p.erase x) h1.2 (fun y hy=>(List.mem_erase_of_ne (fun e=>h1.1 (by rw[<-e];exact hy))).2 (hs y (by simp[hy])))
  rw[List.length_erase_of_mem hx]at h2;have:=List.length_pos_of_mem hx;simp;omega
theorem BQ{m:Member}(h:fitsAll m=true){k:Nat}(hk:k<m.own.length):(m.own[k]).node∈pathOf m.who/\secOk (m.own[k]).sec=true/\dI (m.own.take k) (m.own[k]).node=[]:=by
 have:=ku.1 h k (qy.2 hk);unfold nL at this;rw[aM m.own k hk]at this;simp only[jg,jb]at this;exact⟨this.1,this.2.1,this.2.2.2.2⟩
theorem XJ{m:Member}(h:fitsAll m=true):m.own.length<=15:=by
 have h1:(m.own.map (·.node)).Nodup:=by
  show List.Pairwise _ _;rw[wb];intro i j hi hj hij e;simp only[jz]at hi hj;simp only[z0]at e;have h2:=(BQ h hj).2.2;unfold dI at h2;split at h2
  ·rename_i o ho;obtain⟨k,hk,hok⟩:=qc.1 (List.mem_of_mem_take (wy ho));have h3:=oH (BQ h hk).2.1;rw[hok,h2]at h3;simp at h3
  ·rename_i ho;have:=yr.1 ho (m.own[i]) (List.mem_take_iff_getElem.2 ⟨i,by omega,rfl⟩)
   simp[e]at this
 have h2:=pig _ _ h1 (fun x hx=>by
  obtain⟨o,ho,e⟩:=qe.1 hx;obtain⟨k,hk,hok⟩:=qc.1 ho;rw[<-e,<-hok];exact(BQ h hk).1)
 rw[jz]at h2;have:=eJ m.who;omega
def w9(m:Member):Prop:=(m.inn=true->m.keys.length=15)/\(m.inn=false->m.keys=[])/\m.own.length<=30/\m.tag.length<=600/\m.keys.length<=15
theorem y3:w9 bI:=⟨fun h=>(by cases h),fun _=>rfl,Nat.zero_le _,Nat.zero_le _,Nat.zero_le _⟩
theorem tD(n:Int)(s:S):(bG n s).length<=15:=by
 rw[jO];have:=cN n;omega
theorem y4{m:Member}(hi:m.inn=true)(hk:m.keys.length=15)(ho:m.own.length<=30)(ht:m.tag.length<=600):w9 m:=
 ⟨fun _=>hk,fun h=>(by rw[hi]at h;cases h),ho,ht,by omega⟩
theorem PM{m m':Member}{c:Commit}{f:S}{a r:Int}{lf ky:S}(h:iD m f a r lf ky=some (m',c)):
 w9 m'/\(c.tag.length<=300/\c.keys.length<=1000/\c.boxes.length<=1000)/\c.name.length<=300:=by
 unfold iD at h;split at h
 ·rename_i hc;cases h;unfold cI at hc;simp only[jg,jb]at hc;obtain⟨h1,h2,h3,h4,h5⟩:=hc;have hi:m.inn=true:=by
   unfold may at h3;simp only[jg]at h3;exact h3.1
  obtain⟨b1,b2,b3,b4,b5,b6,b7⟩:=mH h1 hi;have hk:=dS b2;have hk':(AB (baseT m.keys a r lf) m.who f).length=15:=by rw[J3,E9,hk]
  refine⟨y4 rfl hk' (by show(bG _ _).length<=30;have:=tD (treLeaf m.who) f;omega) (by show(m.tag++f).length<=600;simp;omega),⟨by show m.tag.length<=300;omega,by show(AB _ _ _).length<=1000;omega,?_⟩,by show f.length<=300;omega⟩
  show(boxesGo _ _ _).length<=1000;have hb:∀(ks:List S) (add:Int) (own:List Own),(boxesGo ks add own).length<=32*own.length:=by
   intro ks add own;induction own with
   |nil=>simp[boxesGo]
   |cons x l ih=>
    cases l with
    |nil=>simp[boxesGo]
    |cons y l=>
     have h1:=GI ks add y.sec (lH ks (bF x.node));have h2:=mU ks 5 (bF x.node).toNat;simp only[boxesGo,jl,jf]at ih⊢;unfold lH at h1;unfold lH;omega
  have:=hb (baseT m.keys a r lf) a (bG (treLeaf m.who) f);have:=tD (treLeaf m.who) f;omega
 ·cases h
theorem VC{m:Member}{c:Commit}(hm:w9 m):w9 (eB m c).1:=by
 unfold eB;split
 ·rename_i h;split
  ·rename_i ht;split
   ·exact y3
   ·split
    ·unfold hearPair;simp only;split
     ·exact hm
     ·split
      ·have hi:m.inn=true:=by
        unfold pF at ht;simp only[jg]at ht;exact ht.1
       obtain⟨b1,b2,b3,b4,b5,b6,b7⟩:=mH h.1 hi;obtain⟨c1,c2,c3,c4,c5,c6,c7⟩:=lU h.2;have:=XJ b3;refine y4 rfl (dS c6) ?_ ?_
       ·show(tG c.keys (oR m.own _)++bG _ _).length<=30;rw[jl];have h1:=E7 c.keys (oR m.own (bG (treMeet (treLeaf m.who) (treLeaf c.sender)) (bQ m.own c.boxes)));have h2:=E8 m.own (bG (treMeet (treLeaf m.who) (treLeaf c.sender)) (bQ m.own c.boxes));have h3:=tD (treMeet (treLeaf m.who) (treLeaf c.sender)) (bQ m.own c.boxes);omega
       ·show(m.tag++c.name).length<=600;rw[jl];omega
      ·exact hm
    ·exact hm
  ·exact hm
 ·exact y3
theorem VD{w:Int}{leaf key:S}{c:Commit}{m:Member}(h:iP w leaf key c=some m):w9 m:=by
 unfold iP at h;split at h
 ·rename_i hc;cases h;obtain⟨h1,h2,h3,h4,h5,h6,h7,h8,h9⟩:=hc;obtain⟨b1,b2,b3,b4,b5,b6,b7⟩:=mH h9 rfl;have:=XJ b3;exact y4 rfl (dS b2) (by omega) (by omega)
 ·cases h
theorem J6(n top:Int):∀(l:List Int) (d:Bool),(seenGo n top l d).length<=l.length+1
 |[],d=>by cases d<;>simp[seenGo]
 |x::l,d=>by
  have h1:=J6 n top l (d||decide (x<n));have hd:∀l:List Int,(seenGo n top l true).length<=l.length:=by
   intro l;induction l with
   |nil=>simp[seenGo]
   |cons y l ih=>simp only[seenGo,jl,jf,Bool.true_or];split<;>split<;>simp_all<;>omega
  simp only[seenGo,jl,jf];by_cases h:d=false/\x<n
  ·have h2:=hd l;have e:(d||decide (x<n))=true:=by simp[h.2]
   rw[e,je h];split<;>simp<;>omega
  ·rw[jc h];split<;>simp<;>omega
def afF(n:Nat)(x:Win):Prop:=(0<=x.top/\x.top<=999)/\x.seen.length<=n+1
theorem akU{f:Frame}(h:fraOk f=true):1<=f.n/\f.n<=999:=by
 unfold fraOk at h;simp only[jg,jb]at h;exact h.1.2.2.2
theorem aaT{m:Member}{wins x:List Win}{f:Frame}{n:Nat}(h:nM m wins f=some x)(hw:wins.length<=n/\∀y∈wins,afF n y):x.length<=n+1/\∀y∈x,afF (n+1) y:=by
 unfold nM at h;split at h
 ·rename_i hh;have hf:1<=f.n/\f.n<=999:=by
   unfold wE at hh;simp only[jg]at hh;exact akU hh.2.1
  have hup:∀y∈wins,afF (n+1) y:=fun y hy=>⟨(hw.2 y hy).1,by have:=(hw.2 y hy).2;omega⟩
  simp only at h;split at h
  ·cases h;refine⟨by simp;omega,fun y hy=>?_⟩
   rcases kf.1 hy with hy|hy
   ·exact hup y hy
   ·rw[qp.1 hy];exact⟨⟨by show 0<=f.n;omega,hf.2⟩,by simp⟩
  ·rename_i hk;split at h
   ·rename_i z hz;cases h;refine⟨by simp;omega,fun y hy=>?_⟩
    rcases v5 hy with hy|hy
    ·exact hup y hy
    ·rw[hy];rcases winAt_lt wins f.key 0 with h1|h1
     ·omega
     ·obtain⟨g1,g2⟩:=hw.2 _ (ixm wins _ (by omega) (by omega:winAt wins f.key 0<wins.length))
      unfold winTake at hz;split at hz
      ·cases hz
      ·cases hz;refine⟨⟨by show 0<=max _ _;omega,by show max _ _<=999;omega⟩,?_⟩
       show(seenGo _ _ _ _).length<=_;have:=J6 f.n (max (ix wins (winAt wins f.key 0)).top f.n) (ix wins (winAt wins f.key 0)).seen false;omega
   ·cases h
 ·cases h
theorem mem_set1{A:Type}{l:List A}{i:Int}{x y:A}(h:y∈dH l i x):y∈l\/y=x:=v5 h
theorem yA{A:Type}(l:List A)(i:Int)(x:A):(dH l i x).length=l.length:=by simp[dH]
theorem WJ.seatSet{w:World}(z:WJ w)(i:Int)(m:Member)(hm:w9 m):WJ {w with seats:=dH w.seats i m}:=
 {z with
  seats8:=by show(dH _ _ _).length=8;rw[yA];exact z.seats8
  seat:=fun y hy=>by rcases mem_set1 hy with h|h;exact z.seat y h;rw[h];exact hm}
theorem WJ.hear{w:World}(z:WJ w)(who pos:Int)(hw:aI who):WJ (dN w who pos):=by
 unfold dN;simp only;split
 ·exact z.seatSet _ _ (VC (z.seat _ (ixm w.seats who hw.1 (by rw[z.seats8];have:=hw.2;omega))))
 ·exact z
theorem WJ.joinGo{w:World}(z:WJ w)(who pos:Int):∀(l:List Wait) (k:Nat),WJ (joinGo w who pos l k)
 |[],_=>z
 |x::l,k=>by
  unfold Kw.joinGo;split
  ·split
   ·rename_i m hm;have z':=z.seatSet who m (VD hm);have hl:(w.waits.eraseIdx k).length<=w.waits.length:=List.Sublist.length_le (List.eraseIdx_sublist _ _);exact{z' with
     waitsL:=by have:=z.waitsL;show(w.waits.eraseIdx k).length<=16;omega
     waitsLog:=by have:=z.waitsLog;show(w.waits.eraseIdx k).length<=w.log.length;omega}
   ·exact WJ.joinGo z who pos l (k+1)
  ·exact WJ.joinGo z who pos l (k+1)
theorem WJ.join{w:World}(z:WJ w)(who pos:Int):WJ (dC w who pos):=by
 unfold dC;split
 ·exact z
 ·exact z.joinGo _ _ _ _
theorem WJ.steal{w:World}(z:WJ w)(who:Int)(hw:aI who):WJ (cR w who):=by
 unfold cR;split
 ·exact z
 ·rename_i h;obtain⟨a1,a2,a3,a4,a5⟩:=z.seat _ (ixm w.seats who hw.1 (by rw[z.seats8];have:=hw.2;omega))
  have hk:(eZ (ix w.seats who)).length<=31:=by
   unfold eZ;split
   ·simp;omega
   ·simp
  have h1:=z.stolen12;have h2:=z.spyL;exact{z with
   stolen12:=by show(w.stolen++_).length<=12;simp;omega
   spyL:=by show(w.spy++_).length<=31*(w.stolen++_).length;simp only[jl,jf,jk];omega}
theorem WJ.say{w:World}(z:WJ w)(who:Int)(x:S)(hw:aI who):WJ (eK w who x):=by
 unfold eK;split
 ·exact z
 ·rename_i h;split
  ·obtain⟨s0,s1⟩:=z.saidR _ (ixm w.said who hw.1 (by rw[z.said8];have:=hw.2;omega))
   have hf:=z.frames40;exact{z with
    frames40:=by show(w.frames++_).length<=40;simp;omega
    said8:=by show(dH _ _ _).length=8;rw[yA];exact z.said8
    saidR:=fun y hy=>by rcases mem_set1 hy with h|h;exact z.saidR y h;rw[h];omega}
  ·exact z
theorem WJ.get{w:World}(z:WJ w)(who pos:Int)(hw:aI who):WJ (eL w who pos):=by
 unfold eL;split
 ·exact z
 ·rename_i h;split
  ·rename_i x hx;have ht:=z.told320;have hx':=aaT hx (z.win _ (ixm w.wins who hw.1 (by rw[z.wins8];have:=hw.2;omega)))
   exact{z with
    told320:=by show(w.told++_).length<=320;simp;omega
    wins8:=by show(dH _ _ _).length=8;rw[yA];exact z.wins8
    win:=fun l hl=>by
     show l.length<=(w.told++_).length/\∀x∈l,_/\_<=(w.told++_).length+1;simp only[jl,jf,jk];rcases mem_set1 hl with h|h
     ·obtain⟨b1,b2⟩:=z.win l h;exact⟨by omega,fun y hy=>⟨(b2 y hy).1,by have:=(b2 y hy).2;omega⟩⟩
     ·rw[h];exact hx'}
  ·exact z
theorem WJ.commitEnd{w:World}(z:WJ w)(e:Event)(hw:aI e.who)(h16:w.log.length≠16)(h99:¬99<=ix w.fresh e.who)(ha: -1<=e.add/\e.add<=7)(h98:¬(0<=e.add/\98<=ix w.fresh e.add))(lf ky:S):WJ (commitEnd w e lf ky):=by
 unfold Kw.commitEnd;split
 ·exact z
 ·rename_i m c hc;obtain⟨c1,c2,c3⟩:=PM hc;have z':=z.seatSet e.who m c1;have hl:=z.log16;have hwl:=z.waitsLog;obtain⟨f0,f1⟩:=z.freshR _ (ixm w.fresh e.who hw.1 (by rw[z.fresh8];have:=hw.2;omega))
  have hf1:∀x∈dH w.fresh e.who (ix w.fresh e.who+1),0<=x/\x<=99\/x∈w.fresh:=fun x hx=>by
   rcases mem_set1 hx with h|h
   ·exact Or.inr h
   ·exact Or.inl (by omega)
  have hf2:∀x∈dH w.fresh e.who (ix w.fresh e.who+1),0<=x/\x<=100:=fun x hx=>by
   rcases hf1 x hx with h|h
   ·omega
   ·exact z.freshR x h
  exact{z' with
   log16:=by show(w.log++[c]).length<=16;simp;omega
   cmt:=fun y hy=>by
    rcases kf.1 hy with h|h
    ·exact z.cmt y h
    ·rw[qp.1 h];exact c2
   nameL:=fun y hy=>by
    rcases kf.1 hy with h|h
    ·exact z.nameL y h
    ·rw[qp.1 h];exact c3
   waitsL:=by
    show(if 0<=e.add then _ else _:List Wait).length<=16
    split<;>(try simp)<;>omega
   waitsLog:=by
    show(if 0<=e.add then _ else _:List Wait).length<=(w.log++[c]).length
    split<;>(try simp)<;>omega
   fresh8:=by
    show(if 0<=e.add then _ else _:List Int).length=8
    have:=z.fresh8;split<;>simp[yA]<;>omega
   freshR:=fun y hy=>by
    change y∈(if 0<=e.add then _ else _:List Int)at hy
    split at hy
    ·rename_i h0;rcases mem_set1 hy with h|h
     ·exact hf2 y h
     ·have h8:e.add< (dH w.fresh e.who (ix w.fresh e.who+1)).length:=by rw[yA,z.fresh8];omega
      have hb:0<=ix (dH w.fresh e.who (ix w.fresh e.who+1)) e.add/\ix (dH w.fresh e.who (ix w.fresh e.who+1)) e.add<=98:=by
       by_cases he:e.who=e.add
       ·have:ix (dH w.fresh e.who (ix w.fresh e.who+1)) e.add=ix w.fresh e.who+1:=by
         rw[<-he];have hlt:e.who.toNat<w.fresh.length:=by rw[z.fresh8];have:=hw.2;omega
         simp[ix,dH,hlt]
        rw[this];rw[<-he]at h98;have:=hw.1;omega
       ·have:ix (dH w.fresh e.who (ix w.fresh e.who+1)) e.add=ix w.fresh e.add:=by
         have hne:e.who.toNat≠e.add.toNat:=by have:=hw.1;omega
         simp[ix,dH,List.getElem?_set_ne hne]
        rw[this];obtain⟨g0,g1⟩:=z.freshR _ (ixm w.fresh e.add h0 (by rw[z.fresh8];omega))
        omega
      omega
    ·exact hf2 y hy}
theorem WJ.commit{w:World}(z:WJ w)(e:Event)(hw:aI e.who):WJ (cA w e):=by
 unfold cA;split
 ·exact z
 ·rename_i h;have h1:w.log.length≠16:=fun x=>h (Or.inl x)
  have h2:¬99<=ix w.fresh e.who:=fun x=>h (Or.inr (Or.inl x))
  have h3: -1<=e.add/\e.add<=7:=Decidable.byContradiction fun x=>h (Or.inr (Or.inr (Or.inl x)))
  have h4:¬(0<=e.add/\98<=ix w.fresh e.add):=fun x=>h (Or.inr (Or.inr (Or.inr x)))
  split
  ·exact z.commitEnd e hw h1 h2 h3 h4 _ _
  ·exact z.commitEnd e hw h1 h2 h3 h4 _ _
theorem WJ.step{w:World}(z:WJ w)(e:Event):WJ (step w e):=by
 unfold Kw.step;split
 ·rename_i hw;split
  ·exact z.commit e hw
  split
  ·exact z.steal _ hw
  split
  ·exact z.say _ _ hw
  split
  ·split
   ·exact z.hear _ _ hw
   ·exact z
  split
  ·split
   ·exact z.join _ _
   ·exact z
  split
  ·split
   ·exact z.get _ _ hw
   ·exact z
  ·exact z
 ·exact z
theorem WJ.new{who:Int}(hw:aI who):WJ (bR who):=by
 unfold bR;rw[je hw];have hs:∀m∈(List.range 8).map (fun(k:Nat)=>if(k:Int)=who then d8 who (aV who 1) (aV who 2)else bI),w9 m:=by
  intro m hm;obtain⟨k,_,rfl⟩:=qe.1 hm;split
  ·unfold d8;split
   ·exact y4 rfl (by show(AB _ _ _).length=15;rw[J3];rfl) (by show(bG _ _).length<=30;have:=tD (treLeaf who) (aV who 1);omega) (by simp)
   ·exact y3
  ·exact y3
 exact{
  seats8:=by simp
  fresh8:=by simp
  said8:=by simp
  wins8:=by simp
  log16:=by simp
  waitsL:=by simp
  stolen12:=by simp
  spyL:=by simp
  frames40:=by simp
  told320:=by simp
  freshR:=fun x hx=>by obtain⟨k,_,rfl⟩:=qe.1 hx;split<;>omega
  saidR:=fun x hx=>by rw[yv hx];omega
  seat:=hs
  cmt:=by simp
  win:=fun l hl=>by rw[yv hl];simp
  waitsLog:=by simp
  nameL:=by simp}
end Kw.Sp
namespace Kw.Sp
open Go Go.Proofs
def mix(l:S)(n:Int):Int:=(ix l (n%l.length)).toNat*131+(ix l ((n*7+3)%l.length)).toNat*1117+n*29+n/l.length*53
def pick(l:S)(n k:Int):Int:=if k<1 then 0 else if l=[]then 0 else if n<l.length then(ix l n).toNat%k else PS .i64 (mix l n) (mix l n/64)%k
theorem akV{a b:Int}(ha:0<=a/\a<4611686018427387904)(hb:0<=b/\b<4611686018427387904):0<=PS .i64 a b:=by
 unfold PS;obtain⟨a',rfl⟩:=kx ha.1;obtain⟨b',rfl⟩:=kx hb.1;have h1:(BitVec.ofInt IntKind.i64.bits (a':Int)^^^BitVec.ofInt IntKind.i64.bits (b':Int)).toNat=a'^^^b':=by
  show(BitVec.ofInt 64 (a':Int)^^^BitVec.ofInt 64 (b':Int)).toNat=_;rw[BitVec.toNat_xor,BitVec.ofInt_natCast,BitVec.ofInt_natCast,BitVec.toNat_ofNat,BitVec.toNat_ofNat,Nat.mod_eq_of_lt (by omega),Nat.mod_eq_of_lt (by omega)]
 rw[h1];have h2:a'^^^b'<2^62:=Nat.xor_lt_two_pow (by omega) (by omega)
 rw[show IntKind.wrap .i64 ((a'^^^b':Nat):Int)=((a'^^^b':Nat):Int)from wrap_i64 (by omega) (by omega)]
 omega
theorem mJ(l:S)(n:Int){k:Int}(hk:1<=k):0<=pick l n k/\pick l n k<k:=by
 unfold pick;rw[jc (by omega)]
 split
 ·omega
 ·split
  ·exact⟨Int.emod_nonneg _ (by omega),Int.emod_lt_of_pos _ (by omega)⟩
  ·exact⟨Int.emod_nonneg _ (by omega),Int.emod_lt_of_pos _ (by omega)⟩
theorem J7(b:UInt8):0<=(b.toNat:Int)/\(b.toNat:Int)<=255:=by have:=b.toNat_lt;omega
section
variable (L D:Nat)
theorem J8(l:S)(hl:l.length<=2000)(n k:Int)(hn:0<=n/\n<=1000000000):ev E L (D+1) 56 [.ptr (.imp 0) 0,.int .i64 k] [.cells [.sl (l.map rU),.int .i64 n]]=
 some (.int .i64 (pick l n k),[.cells [.sl (l.map rU),.int .i64 (n+1)]]):=by
 rw[auL];simp only[KM];have a1:bU .i64 n 1=n+1:=cL (by omega) (by omega)
 have a2:hJ .i64 (n+1) 1=n:=(cL (by omega) (by omega)).trans (by omega)
 unfold pick;by_cases hk:k<1
 ·simp only[K1,bC,Int.reduceEq,a1,a2,hk]
 by_cases h0:l=[]
 ·subst h0;simp only[K1,bC,Int.reduceEq,a1,a2,hk];rfl
 have hl0:0<l.length:=by cases l with|nil=>exact absurd rfl h0|cons _ _=>simp
 have e0:decide ((l.length:Int)=0)=false:=by rw[jh];omega
 have ek:decide (k=0)=false:=by rw[jh];omega
 have e64:decide ((64:Int)=0)=false:=rfl;by_cases hlt:n<l.length
 ·obtain⟨b0,b1⟩:=J7 (ix l n);have w1:m8 .i64 ((ix l n).toNat:Int)=(ix l n).toNat:=cL (by omega) (by omega)
  simp(disch:=omega) only[K1,asG,N2,a1,a2,hk,e0,ek,h0,hlt,N2,w1,nD]
 ·have m1:0<=n%l.length:=Int.emod_nonneg _ (by omega)
  have m2:n%l.length<l.length:=Int.emod_lt_of_pos _ (by omega)
  have m3:0<=(n*7+3)%l.length:=Int.emod_nonneg _ (by omega)
  have m4:(n*7+3)%l.length<l.length:=Int.emod_lt_of_pos _ (by omega)
  have q1:0<=n/l.length:=Int.ediv_nonneg (by omega) (by omega)
  have q2:n/l.length<=n:=Int.ediv_le_self _ (by omega)
  have r1:y8 n l.length=n%l.length:=nD (by omega)
  have r2:y8 (n*7+3) l.length=(n*7+3)%l.length:=nD (by omega)
  have u1:m7 .i64 n 7=n*7:=cL (by omega) (by omega)
  have u2:bU .i64 (n*7) 3=n*7+3:=cL (by omega) (by omega)
  have q:D9 .i64 n l.length=n/l.length:=l9 (by omega) (by omega) (by omega)
  obtain⟨b0,b1⟩:=J7 (ix l (n%l.length));obtain⟨d0,d1⟩:=J7 (ix l ((n*7+3)%l.length));have v1:m8 .i64 ((ix l (n%l.length)).toNat:Int)=(ix l (n%l.length)).toNat:=cL (by omega) (by omega)
  have v2:m8 .i64 ((ix l ((n*7+3)%l.length)).toNat:Int)=(ix l ((n*7+3)%l.length)).toNat:=cL (by omega) (by omega)
  have p1:m7 .i64 ((ix l (n%l.length)).toNat:Int) 131=(ix l (n%l.length)).toNat*131:=cL (by omega) (by omega)
  have p2:m7 .i64 ((ix l ((n*7+3)%l.length)).toNat:Int) 1117=(ix l ((n*7+3)%l.length)).toNat*1117:=cL (by omega) (by omega)
  have p3:m7 .i64 n 29=n*29:=cL (by omega) (by omega)
  have p4:m7 .i64 (n/l.length) 53=n/l.length*53:=cL (by omega) (by omega)
  have p5:bU .i64 (((ix l (n%l.length)).toNat:Int)*131) ((ix l ((n*7+3)%l.length)).toNat*1117)=(ix l (n%l.length)).toNat*131+(ix l ((n*7+3)%l.length)).toNat*1117:=cL (by omega) (by omega)
  have p6:bU .i64 (((ix l (n%l.length)).toNat:Int)*131+(ix l ((n*7+3)%l.length)).toNat*1117) (n*29)=(ix l (n%l.length)).toNat*131+(ix l ((n*7+3)%l.length)).toNat*1117+n*29:=cL (by omega) (by omega)
  have p7:bU .i64 (((ix l (n%l.length)).toNat:Int)*131+(ix l ((n*7+3)%l.length)).toNat*1117+n*29) (n/l.length*53)=mix l n:=cL (by omega) (by omega)
  have g0:0<=mix l n/\mix l n<=100000000000000:=by unfold mix;omega
  have p8:D9 .i64 (mix l n) 64=mix l n/64:=l9 (by omega) (by omega) (by omega)
  have gx:= @akV (mix l n) (mix l n/64) (by omega) (by omega)
  have p9:y8 (PS .i64 (mix l n) (mix l n/64)) k=PS .i64 (mix l n) (mix l n/64)%k:=nD gx;simp(disch:=omega) only[K1,Int.reduceEq,asG,N2,a1,a2,hk,e0,ek,h0,hlt,r1,r2,u1,u2,q,N2,v1,v2,p1,p2,p3,p4,p5,p6,p7,p8,p9]
end
end Kw.Sp
namespace Kw.Sp
open Go Go.Proofs
def Ge(l:S)(w:World)(n:Int)(x:Option (MV×List Obj)):Prop:=∃(e:Event) (n':Int),e.text.length<=10/\(n<=n'/\n'<=n+20)/\
 x=some (.agg [.int .i64 e.kind,.int .i64 e.who,.int .i64 e.add,.int .i64 e.remove,.int .i64 e.pos,.str (bs e.text)],[.cells [.sl (l.map rU),.int .i64 n'],.rows (w.seats.map rM),.rows (w.waits.map rWt),.rows (w.log.map rC),.rows (w.fresh.map rI),.rows (w.spy.map rS),.rows (w.stolen.map rSt),.rows (w.frames.map rF),.rows (w.said.map rI),.rows (w.wins.map rWs),.rows (w.told.map rT)])
theorem XK{l:S}{w:World}{n:Int}{c:Bool}{a b:Option (MV×List Obj)}(ha:Ge l w n a)(hb:Ge l w n b):Ge l w n (br c a b):=by cases c;exact hb;exact ha
theorem XL{l:S}{w:World}{n n':Int}(a b c d e:Int)(t:S)(h:n<=n'/\n'<=n+20)(ht:t.length<=10):
 Ge l w n (some (.agg [.int .i64 a,.int .i64 b,.int .i64 c,.int .i64 d,.int .i64 e,.str (bs t)],[.cells [.sl (l.map rU),.int .i64 n'],.rows (w.seats.map rM),.rows (w.waits.map rWt),.rows (w.log.map rC),.rows (w.fresh.map rI),.rows (w.spy.map rS),.rows (w.stolen.map rSt),.rows (w.frames.map rF),.rows (w.said.map rI),.rows (w.wins.map rWs),.rows (w.told.map rT)])):=⟨⟨a,b,c,d,e,t⟩,n',ht,h,rfl⟩
theorem av4(a b c:MV)(l:S)(n:Int):jP 1 [[a],[b],[c]] (pick l n 3)=some [if pick l n 3=0 then a else if pick l n 3=1 then b else c]:=by
 have:= @mJ l n 3 (by omega)
 generalize pick l n 3=k at*;have h:k=0\/k=1\/k=2:=by omega
 rcases h with rfl|rfl|rfl<;>rfl
theorem alE(a b c:MV)(l:S)(n:Int):hG [[a],[b],[c]] (pick l n 3)=some [if pick l n 3=0 then a else if pick l n 3=1 then b else c]:=by
 have:= @mJ l n 3 (by omega)
 generalize pick l n 3=k at*;have h:k=0\/k=1\/k=2:=by omega
 rcases h with rfl|rfl|rfl<;>rfl
theorem av5(a b c d:MV)(l:S)(n:Int):jP 1 [[a],[b],[c],[d]] (pick l n 4)=some [if pick l n 4=0 then a else if pick l n 4=1 then b else if pick l n 4=2 then c else d]:=by
 have:= @mJ l n 4 (by omega)
 generalize pick l n 4=k at*;have h:k=0\/k=1\/k=2\/k=3:=by omega
 rcases h with rfl|rfl|rfl|rfl<;>rfl
theorem alF(a b c d:MV)(l:S)(n:Int):hG [[a],[b],[c],[d]] (pick l n 4)=some [if pick l n 4=0 then a else if pick l n 4=1 then b else if pick l n 4=2 then c else d]:=by
 have:= @mJ l n 4 (by omega)
 generalize pick l n 4=k at*;have h:k=0\/k=1\/k=2\/k=3:=by omega
 rcases h with rfl|rfl|rfl|rfl<;>rfl
theorem SK(p q:Prop) [Decidable p] [Decidable q](a b c:Int):d9 .i64 (if p then .int .i64 a else if q then .int .i64 b else .int .i64 c)=some (if p then a else if q then b else c):=by
 split
 ·rfl
 ·split<;>rfl
theorem SL(p q:Prop) [Decidable p] [Decidable q](a b c:S):d6 (if p then .str (bs a)else if q then .str (bs b)else .str (bs c))=some (bs (if p then a else if q then b else c)):=by
 split
 ·rfl
 ·split<;>rfl
theorem SM(p q r:Prop) [Decidable p] [Decidable q] [Decidable r](a b c d:S):d6 (if p then .str (bs a)else if q then .str (bs b)else if r then .str (bs c)else .str (bs d))=some (bs (if p then a else if q then b else if r then c else d)):=by
 split
 ·rfl
 ·split
  ·rfl
  ·split<;>rfl
section
variable (L D:Nat)
theorem SN(l:S)(hl:l.length<=2000)(w:World)(z:WJ w)(n n0:Int)(hn:0<=n/\n<=1000000)(h0:n0<=n/\n<=n0+2)(i22 i23 i24 i25 i26:Int)(s27:ByteArray)(i28 i29 i30 i31 i32:Int)(x:S)(hx:x.length<=10):
 Ge l w n0 (DJ L (D+1) (w.seats.map rM) (w.waits.map rWt) (w.log.map rC) (w.fresh.map rI) (w.spy.map rS) (w.stolen.map rSt) (w.frames.map rF) (w.said.map rI) (w.wins.map rWs) (w.told.map rT) (l.map rU) n w.seats.length w.waits.length w.log.length w.fresh.length w.spy.length w.stolen.length w.frames.length w.said.length w.wins.length w.told.length i22 i23 i24 i25 i26 s27 i28 i29 i30 i31 i32 (bs x)):=by
 rw[UK];simp only[KM];have z1:w.waits.length<=16:=z.waitsL;by_cases hw:w.waits.length=0
 ·have e0:decide ((0:Int)<w.waits.length)=false:=by rw[jh];omega
  simp(disch:=omega) only[K1,jY,aJ,bM,Nat.reduceAdd,↓aA,J8,e0,av4,alE,av5,alF,SK,SL,SM,F9,GB,GC,GD,GA,↓KM]
  repeat' (first|exact XL _ _ _ _ _ _ (by omega) (by first|exact hx|decide|((repeat' split)<;>decide))|apply XK)
 ·have e0:decide ((0:Int)<w.waits.length)=true:=by rw[jb];omega
  have p0:∀k:Int,jP 4 (w.waits.map rWt) (pick l k w.waits.length)=some (rWt (ix w.waits (pick l k w.waits.length))):=fun k=>by
   have:= @mJ l k w.waits.length (by omega)
   exact l8 _ w.waits (by omega) (by omega)
  have p1:∀k:Int,hG (w.waits.map rWt) (pick l k w.waits.length)=some (rWt (ix w.waits (pick l k w.waits.length))):=fun k=>by
   have:= @mJ l k w.waits.length (by omega)
   exact kK w.waits _ (by omega) (by omega)
  simp(disch:=omega) only[K1,jY,aJ,bM,Nat.reduceAdd,↓aA,AK,AL,AM,AN,J8,p0,p1,e0,av4,alE,av5,alF,SK,SL,SM,F9,GB,GC,GD,GA,↓KM]
  repeat' (first|exact XL _ _ _ _ _ _ (by omega) (by first|exact hx|decide|((repeat' split)<;>decide))|apply XK)
theorem SO(l:S)(hl:l.length<=2000)(w:World)(z:WJ w)(n n0:Int)(hn:0<=n/\n<=1000000)(h0:n0<=n/\n<=n0+2)(i22 i23 i24 i25 i26:Int)(s27:ByteArray)(i28 i30 i31 i32:Int)(x:S)(hx:x.length<=10):∀(m k:Nat) (i29:Int),8-k<m->k<=8->0<=i29/\i29<=7->
 Ge l w n0 (G5 L (D+1) m (w.seats.map rM) (w.waits.map rWt) (w.log.map rC) (w.fresh.map rI) (w.spy.map rS) (w.stolen.map rSt) (w.frames.map rF) (w.said.map rI) (w.wins.map rWs) (w.told.map rT) (l.map rU) n w.seats.length w.waits.length w.log.length w.fresh.length w.spy.length w.stolen.length w.frames.length w.said.length w.wins.length w.told.length i22 i23 i24 i25 i26 s27 i28 i29 i30 i31 i32 (bs x) k)
 |0,_,_,h,_,_=>by omega
 |m+1,k,i29,h,hk,hi=>by
  rw[O9];simp only[KM];have hj:=SN L D l hl w z n n0 hn h0 i22 i23 i24 i25 i26 s27 i28 i29 i30 i31 i32 x hx;by_cases h8:k<8
  ·have h8':((k:Int)<8):=by omega
   have s8:=z.seats8;have ih:=SO l hl w z n n0 hn h0 i22 i23 i24 i25 i26 s27 i28 i30 i31 i32 x hx m (k+1) (y8 (bU .i64 i29 1) 8) (by omega) (by omega) (by
    have a:bU .i64 i29 1=i29+1:=cL (by omega) (by omega)
    rw[a,nD (by omega)];omega)
   have a1:bU .i64 (k:Int) 1=((k+1:Nat):Int):=(cL (by omega) (by omega)).trans (by omega)
   have e8:decide ((8:Int)=0)=false:=rfl;simp(disch:=omega) only[K1,cT,Int.reduceEq,↓aA,iL,bE,bL,h8',a1,bL,bE];exact XK hj ih
  ·have h8':¬((k:Int)<8):=by omega
   simp(disch:=omega) only[K1,h8'];exact hj
theorem akW(l:S)(hl:l.length<=2000)(w:World)(z:WJ w)(n:Int)(hn:0<=n/\n<=900000)(hL:1099511627776<=L):
 Ge l w n (ev E L (D+2) 58 [.ptr (.imp 0) 0,.agg [.ref (.imp 1) w.seats.length,.ref (.imp 2) w.waits.length,.ref (.imp 3) w.log.length,.ref (.imp 4) w.fresh.length,.ref (.imp 5) w.spy.length,.ref (.imp 6) w.stolen.length,.ref (.imp 7) w.frames.length,.ref (.imp 8) w.said.length,.ref (.imp 9) w.wins.length,.ref (.imp 10) w.told.length]] [.cells [.sl (l.map rU),.int .i64 n],.rows (w.seats.map rM),.rows (w.waits.map rWt),.rows (w.log.map rC),.rows (w.fresh.map rI),.rows (w.spy.map rS),.rows (w.stolen.map rSt),.rows (w.frames.map rF),.rows (w.said.map rI),.rows (w.wins.map rWs),.rows (w.told.map rT)]):=by
 have h:=auN L (D+1) (l.map rU) n (w.seats.map rM) (w.waits.map rWt) (w.log.map rC) (w.fresh.map rI) (w.spy.map rS) (w.stolen.map rSt) (w.frames.map rF) (w.said.map rI) (w.wins.map rWs) (w.told.map rT);simp only[KM]at h;simp(disch:=omega) only[K1,jY,bM,Int.reduceNeg,Nat.reduceAdd,J8]at h;rw[h];have:= @mJ l n 5 (by omega)
 have h1:=SO L D l hl w z (n+1+1) n (by omega) (by omega) 0 0 0 0 0 (bs []) 0 (-1) (-1) 0 [] (by decide) L 0 (pick l n 5) (by omega) (by omega) (by omega)
 have h2:=SN L D l hl w z (n+1+1) n (by omega) (by omega) 0 0 0 0 0 (bs []) 0 (pick l n 5) (-1) (-1) 0 [] (by decide)
 rw[show((0:Nat):Int)=0 from rfl]at h1
 exact XK h1 h2
end
end Kw.Sp
namespace Kw.Sp
open Go Go.Proofs
def D8(evs:List Event):Prop:=∀e∈evs,e.text.length<=10
theorem D8.app{a b:List Event}(ha:D8 a)(hb:D8 b):D8 (a++b):=fun e he=>(kf.1 he).elim (ha e) (hb e)
def Gp(l:S)(x:Option (MV×List Obj)):Prop:=∃(f:Int) (evs:List Event) (w:World) (n:Int),WJ w/\(0<=n/\n<=10000)/\(0<=f/\f<=7)/\(evs.length<=190/\D8 evs)/\
 x=some (.tup [.int .i64 f,.own (evs.map rE),.agg [.own (w.seats.map rM),.own (w.waits.map rWt),.own (w.log.map rC),.own (w.fresh.map rI),.own (w.spy.map rS),.own (w.stolen.map rSt),.own (w.frames.map rF),.own (w.said.map rI),.own (w.wins.map rWs),.own (w.told.map rT)]],[.cells [.sl (l.map rU),.int .i64 n]])
theorem alG{l:S}{c:Bool}{a b:Option (MV×List Obj)}(ha:Gp l a)(hb:Gp l b):Gp l (br c a b):=by cases c;exact hb;exact ha
section
variable (L D:Nat)
theorem yB(hL:1099511627776<=L)(l:S)(q0 q1 q2 q3 q4 q5 q6 q7 q8 q9:List Row)(j0 j1 j2 j3 j4 j5 j6 j7 j8 j9:Int)(f rounds n:Int)(n5:Nat)(b:List Event)(hb:b.length<=20)(hbo:D8 b)
 (H:∀(w:World) (evs:List Event),WJ w->evs.length<=190->D8 evs->Gp l (sX L (D+312) n5 q0 q1 q2 q3 q4 q5 q6 q7 q8 q9 (w.seats.map rM) (w.waits.map rWt) (w.log.map rC) (w.fresh.map rI) (w.spy.map rS) (w.stolen.map rSt) (w.frames.map rF) (w.said.map rI) (w.wins.map rWs) (w.told.map rT) (evs.map rE) (l.map rU) n j0 j1 j2 j3 j4 j5 j6 j7 j8 j9 w.seats.length w.waits.length w.log.length w.fresh.length w.spy.length w.stolen.length w.frames.length w.said.length w.wins.length w.told.length f evs.length (hJ .i64 rounds 1))):
 ∀(m k:Nat) (w:World) (evs:List Event),b.length-k<m->k<=b.length->WJ w->evs.length<=190->D8 evs->Gp l (oW L (D+312) m n5 q0 q1 q2 q3 q4 q5 q6 q7 q8 q9 (w.seats.map rM) (w.waits.map rWt) (w.log.map rC) (w.fresh.map rI) (w.spy.map rS) (w.stolen.map rSt) (w.frames.map rF) (w.said.map rI) (w.wins.map rWs) (w.told.map rT) (evs.map rE) (b.map rE) (l.map rU) n j0 j1 j2 j3 j4 j5 j6 j7 j8 j9 w.seats.length w.waits.length w.log.length w.fresh.length w.spy.length w.stolen.length w.frames.length w.said.length w.wins.length w.told.length f evs.length rounds b.length k)
 |0,_,_,_,h,_,_,_,_=>by omega
 |m+1,k,w,evs,h,hk,z,hv,ho=>by
  rw[K3];simp only[KM];by_cases h8:k<b.length
  ·have h8':decide ((k:Int)<b.length)=true:=by rw[jb];omega
   have a1:bU .i64 (k:Int) 1=((k+1:Nat):Int):=(cL (by omega) (by omega)).trans (by omega)
   by_cases h190:evs.length<190
   ·have h1:decide ((evs.length:Int)<190)=true:=by rw[jb];omega
    have ih:=yB hL l q0 q1 q2 q3 q4 q5 q6 q7 q8 q9 j0 j1 j2 j3 j4 j5 j6 j7 j8 j9 f rounds n n5 b hb hbo H m (k+1) (step w (ix b (k:Int))) (evs++[ix b (k:Int)]) (by omega) (by omega) (z.step _) (by simp;omega) (ho.app fun e he=>by rw[qp.1 he];exact hbo _ (by rw[aM b k h8];exact jt h8))
    have hs:=fun e=>afE L D hL w z.toWI e
    simp(disch:=omega) only[K1,jv,aU,aJ,Nat.reduceAdd,al3,aW,aQ,↓aA,asK,asL,asM,asN,asO,asP,alS,ag2,abQ,h8',h1,a1,aF,hs];exact ih
   ·have h1:decide ((evs.length:Int)<190)=false:=by rw[jh];omega
    simp(disch:=omega) only[K1,↓aA,h8',h1,a1];exact yB hL l q0 q1 q2 q3 q4 q5 q6 q7 q8 q9 j0 j1 j2 j3 j4 j5 j6 j7 j8 j9 f rounds n n5 b hb hbo H m (k+1) w evs (by omega) (by omega) z hv ho
  ·have h8':decide ((k:Int)<b.length)=false:=by rw[jh];omega
   simp(disch:=omega) only[K1,↓aA,h8'];exact H w evs z hv ho
theorem ev2(k p:Int):[[MV.int .i64 2,.int .i64 k,.int .i64 0,.int .i64 0,.int .i64 p,.str (bs [])],[.int .i64 3,.int .i64 k,.int .i64 0,.int .i64 0,.int .i64 p,.str (bs [])]]=[(⟨2,k,0,0,p,[]⟩:Event),⟨3,k,0,0,p,[]⟩].map rE:=(rfl)
theorem SP(hL:1099511627776<=L)(l:S)(q0 q1 q2 q3 q4 q5 q6 q7 q8 q9:List Row)(j0 j1 j2 j3 j4 j5 j6 j7 j8 j9:Int)(f rounds n:Int)(n5:Nat)(w:World)(z:WJ w)(evs:List Event)(hv:evs.length<=190)(ho:D8 evs)
 (H:∀(w:World) (evs:List Event),WJ w->evs.length<=190->D8 evs->Gp l (sX L (D+312) n5 q0 q1 q2 q3 q4 q5 q6 q7 q8 q9 (w.seats.map rM) (w.waits.map rWt) (w.log.map rC) (w.fresh.map rI) (w.spy.map rS) (w.stolen.map rSt) (w.frames.map rF) (w.said.map rI) (w.wins.map rWs) (w.told.map rT) (evs.map rE) (l.map rU) n j0 j1 j2 j3 j4 j5 j6 j7 j8 j9 w.seats.length w.waits.length w.log.length w.fresh.length w.spy.length w.stolen.length w.frames.length w.said.length w.wins.length w.told.length f evs.length (hJ .i64 rounds 1))):
 ∀(m k:Nat) (b:List Event),5-k<m->k<=5->b.length<=1+2*k->D8 b->Gp l (DH L (D+312) m n5 q0 q1 q2 q3 q4 q5 q6 q7 q8 q9 (w.seats.map rM) (w.waits.map rWt) (w.log.map rC) (w.fresh.map rI) (w.spy.map rS) (w.stolen.map rSt) (w.frames.map rF) (w.said.map rI) (w.wins.map rWs) (w.told.map rT) (evs.map rE) (b.map rE) (l.map rU) n j0 j1 j2 j3 j4 j5 j6 j7 j8 j9 w.seats.length w.waits.length w.log.length w.fresh.length w.spy.length w.stolen.length w.frames.length w.said.length w.wins.length w.told.length f evs.length rounds b.length k)
 |0,_,_,h,_,_,_=>by omega
 |m+1,k,b,h,hk,hb,hbo=>by
  rw[K2];simp only[KM];by_cases h8:k<5
  ·have h8':decide ((k:Int)<5)=true:=by rw[jb];omega
   have a1:bU .i64 (k:Int) 1=((k+1:Nat):Int):=(cL (by omega) (by omega)).trans (by omega)
   have ih:=SP hL l q0 q1 q2 q3 q4 q5 q6 q7 q8 q9 j0 j1 j2 j3 j4 j5 j6 j7 j8 j9 f rounds n n5 w z evs hv ho H m (k+1) (b++[⟨2,k,0,0,w.log.length,[]⟩,⟨3,k,0,0,w.log.length,[]⟩]) (by omega) (by omega) (by simp;omega) (hbo.app fun e he=>by simp at he;rcases he with rfl|rfl<;>exact Nat.zero_le _)
   simp(disch:=omega) only[K1,ev2,aU,dW,Nat.reduceAdd,al3,↓aA,h8',a1,aF];exact ih
  ·have h8':decide ((k:Int)<5)=false:=by rw[jh];omega
   simp(disch:=omega) only[K1,h8'];have:=yB L D hL l q0 q1 q2 q3 q4 q5 q6 q7 q8 q9 j0 j1 j2 j3 j4 j5 j6 j7 j8 j9 f rounds n n5 b (by omega) hbo H L 0 w evs (by omega) (by omega) z hv ho
   rw[show((0:Nat):Int)=0 from rfl]at this
   exact this
theorem SQ(hL:1099511627776<=L)(l:S)(hl:l.length<=2000)(q0 q1 q2 q3 q4 q5 q6 q7 q8 q9:List Row)(f:Int)(hf:0<=f/\f<=7):∀(m i:Nat) (n:Int) (j0 j1 j2 j3 j4 j5 j6 j7 j8 j9:Int) (w:World) (evs:List Event),i<m->0<=n->n+30*i<=5000->WJ w->evs.length<=190->D8 evs->Gp l (sX L (D+312) m q0 q1 q2 q3 q4 q5 q6 q7 q8 q9 (w.seats.map rM) (w.waits.map rWt) (w.log.map rC) (w.fresh.map rI) (w.spy.map rS) (w.stolen.map rSt) (w.frames.map rF) (w.said.map rI) (w.wins.map rWs) (w.told.map rT) (evs.map rE) (l.map rU) n j0 j1 j2 j3 j4 j5 j6 j7 j8 j9 w.seats.length w.waits.length w.log.length w.fresh.length w.spy.length w.stolen.length w.frames.length w.said.length w.wins.length w.told.length f evs.length i)
 |0,_,_,_,_,_,_,_,_,_,_,_,_,_,_,h,_,_,_,_,_=>by omega
 |m+1,i,n,j0,j1,j2,j3,j4,j5,j6,j7,j8,j9,w,evs,h,hn,hi,z,hv,ho=>by
  rw[O7];simp only[KM];by_cases h0:0<i
  ·have h0':decide ((0:Int)<i)=true:=by rw[jb];omega
   obtain⟨e,n',het,hn',he⟩:=akW L (D+310) l hl w z n (by omega) hL
   have he':ev E L (D+312) 58 [.ptr (.imp 0) 0,.agg [.ref (.imp 1) w.seats.length,.ref (.imp 2) w.waits.length,.ref (.imp 3) w.log.length,.ref (.imp 4) w.fresh.length,.ref (.imp 5) w.spy.length,.ref (.imp 6) w.stolen.length,.ref (.imp 7) w.frames.length,.ref (.imp 8) w.said.length,.ref (.imp 9) w.wins.length,.ref (.imp 10) w.told.length]] [.cells [.sl (l.map rU),.int .i64 n],.rows (w.seats.map rM),.rows (w.waits.map rWt),.rows (w.log.map rC),.rows (w.fresh.map rI),.rows (w.spy.map rS),.rows (w.stolen.map rSt),.rows (w.frames.map rF),.rows (w.said.map rI),.rows (w.wins.map rWs),.rows (w.told.map rT)]=_:=he;have hp:=J8 L (D+311) l hl;have a1:hJ .i64 (i:Int) 1=((i-1:Nat):Int):=(cL (by omega) (by omega)).trans (by omega)
   have H:∀(n:Int) (_:0<=n/\n<=n'+1) (j0 j1 j2 j3 j4 j5 j6 j7 j8 j9:Int) (w:World) (evs:List Event),WJ w->evs.length<=190->D8 evs->Gp l (sX L (D+312) m q0 q1 q2 q3 q4 q5 q6 q7 q8 q9 (w.seats.map rM) (w.waits.map rWt) (w.log.map rC) (w.fresh.map rI) (w.spy.map rS) (w.stolen.map rSt) (w.frames.map rF) (w.said.map rI) (w.wins.map rWs) (w.told.map rT) (evs.map rE) (l.map rU) n j0 j1 j2 j3 j4 j5 j6 j7 j8 j9 w.seats.length w.waits.length w.log.length w.fresh.length w.spy.length w.stolen.length w.frames.length w.said.length w.wins.length w.told.length f evs.length (hJ .i64 i 1)):=fun n h2 j0 j1 j2 j3 j4 j5 j6 j7 j8 j9 w evs z hv ho=>by
    rw[a1];exact SQ hL l hl q0 q1 q2 q3 q4 q5 q6 q7 q8 q9 f hf m (i-1) n j0 j1 j2 j3 j4 j5 j6 j7 j8 j9 w evs (by omega) (by omega) (by omega) z hv ho
   have g1:=fun(b:List Event) hb hbo=>yB L D hL l q0 q1 q2 q3 q4 q5 q6 q7 q8 q9 j0 j1 j2 j3 j4 j5 j6 j7 j8 j9 f i n' m b hb hbo (H n' (by omega) j0 j1 j2 j3 j4 j5 j6 j7 j8 j9) L 0 w evs (by omega) (by omega) z hv ho
   have g2:=fun(b:List Event) hb hbo=>yB L D hL l q0 q1 q2 q3 q4 q5 q6 q7 q8 q9 j0 j1 j2 j3 j4 j5 j6 j7 j8 j9 f i (n'+1) m b hb hbo (H (n'+1) (by omega) j0 j1 j2 j3 j4 j5 j6 j7 j8 j9) L 0 w evs (by omega) (by omega) z hv ho
   have g3:=fun(b:List Event) hb hbo=>SP L D hL l q0 q1 q2 q3 q4 q5 q6 q7 q8 q9 j0 j1 j2 j3 j4 j5 j6 j7 j8 j9 f i (n'+1) m w z evs hv ho (H (n'+1) (by omega) j0 j1 j2 j3 j4 j5 j6 j7 j8 j9) L 0 b (by omega) (by omega) hb hbo
   simp(disch:=omega) only[K1,ag3,jY,asR,bM,Nat.reduceAdd,↓aA,h0',he',hp,asQ];have h1e:D8 [e]:=fun x hx=>by rw[qp.1 hx];exact het
   refine alG (alG ?_ ?_) ?_
   ·exact g3 [e] (by simp) h1e
   ·exact g2 [e] (by simp) h1e
   ·exact g1 [e] (by simp) h1e
  ·have h0':decide ((0:Int)<i)=false:=by rw[jh];omega
   have hc:=afA L (D+309) hL w z.sz;simp(disch:=omega) only[K1,Nat.reduceAdd,↓aA,h0',hc];exact⟨f,evs,w,n,z,by omega,hf,⟨hv,ho⟩,rfl⟩
end
end Kw.Sp
namespace Kw.Sp
open Go Go.Proofs
section
variable (L D:Nat)
theorem t_Play(hL:1099511627776<=L)(l:S)(hl:l.length<=2000)(k:Int)(hk:1<=k/\k<=100):Gp l (ev E L (D+313) 18 [.ptr (.imp 0) 0,.int .i64 k] [.cells [.sl (l.map rU),.int .i64 0]]):=by
 have h:=auJ L (D+312) (l.map rU) 0 k;simp only[KM]at h;have hp:=J8 L (D+311) l hl;have hg:=af7 L (D+2) hL (pick l 0 5);obtain⟨k0,k1⟩:= @mJ l 0 5 (by omega)
 obtain⟨j0,j1⟩:= @mJ l (0+1) k (by omega)
 simp(disch:=omega) only[K1,jY,bM,Nat.reduceAdd,hp,hg]at h;rw[h];have h1:=SQ L D hL l hl [] [] [] [] [] [] [] [] [] [] (pick l 0 5) ⟨by omega,by omega⟩ L (pick l (0+1) k).toNat (0+1+1) 0 0 0 0 0 0 0 0 0 0 (bR (pick l 0 5)) [] (by omega) (by omega) (by omega) (WJ.new ⟨by omega,by omega⟩) (by simp) (fun e he=>by cases he)
 rw[wq j0]at h1;exact h1
theorem t_Open(l:S):ev E L (D+1) 19 [.sl (l.map rU)] []=some (.ptr (.imp 0) 0,[.cells [.sl ((l.take 2000).map rU),.int .i64 0]]):=by
 rw[auK];simp only[KM];by_cases h:2000<l.length
 ·have h':decide ((2000:Int)<l.length)=true:=by rw[jb];omega
  have h2:decide ((2000:Int)<=l.length)=true:=by rw[jb];omega
  simp(disch:=omega) only[K1,aU,Int.reduceLE,asT,asH,h',h2]
  rfl
 ·have h':decide ((2000:Int)<l.length)=false:=by rw[jh];omega
  simp(disch:=omega) only[K1,h'];rw[Jb (by omega)]
end
end Kw.Sp
namespace Kw
open Go Go.Proofs
section
variable (L D:Nat)
theorem avT(hL:1099511627776<=L)(l:S):∃(f:Int) (evs:List Event),(0<=f/\f<=7)/\evs.length<=190/\(∀e∈evs,e.text.length<=10)/\
 ev E L (D+314) 7 [.sl (l.map rU)] []=some (.tup [.int .i64 f,.sl (evs.map rE)],[]):=by
 obtain⟨f,evs,w,n,z,hn,hf,⟨he,ho⟩,h⟩:=Sp.t_Play L D hL (l.take 2000) (by rw[wm];omega) 60 ⟨by decide,by decide⟩
 refine⟨f,evs,hf,he,ho,?_⟩;rw[avP];simp only[KM];rw[Sp.t_Open L (D+312)];simp only[bnd_some',ab4,and_self,List.getD_cons_zero,KE,bM,jf,jk,ju,cellAt_zero,cellAt_succ,gSl_r,gInt_i];rw[h];simp only[bnd_some',jY,bM,jf,jk,ju,cellAt_zero,cellAt_succ,gSl_r,gInt_i,gTupN_if,gAggN_if,gOwn_r,iEq_self,br_true']
end
end Kw
namespace Kw
end Kw
namespace Kw
def EpS:Nat->S->Prop
 |0,s=>(aN s).op=1
 |n+1,s=>(aN s).op=4/\EpS n (aN s).a
theorem oF(a b:S):count (a++b)=count a+count b:=by unfold count;rw[List.filter_append,jl]
theorem JA{n:Nat}(h:n<=9):eX n≠59:=fun e=>by
 have:=iW h;rw[e]at this;have:(59:UInt8).toNat=59:=rfl;omega
theorem YM{n:Nat}(h:n<=7):letter n≠59:=fun e=>by
 have:=jJ h;rw[e]at this;have:(59:UInt8).toNat=59:=rfl;omega
theorem YN:count [59]=1:=rfl
theorem sU{c:UInt8}(h:c≠59):count [c]=0:=by
 unfold count;rw[List.filter_cons_of_neg (by simpa using h)]
 rfl
theorem EW{s:S}(h:(aN s).op=1):count s=1:=by
 unfold aN at h;cases hs:sec s with
 |none=>rw[hs]at h;exact absurd h (by decide)
 |some t=>
  rw[hs]at h;obtain⟨t1,t2,_⟩:=mC.1 hs;cases t with
  |new w n=>
   obtain⟨w7,n1,n99⟩:=t1;rw[t2];show count ([letter w]++(plain n++[59]))=1;rw[oF,oF,sU (YM w7),YN];by_cases h9:n<=9
   ·rw[sN h9,sU (JA h9)]
   ·rw[BB (by omega) n99]
    show 0+(count ([eX (n/10)]++[eX (n%10)])+1)=1;rw[oF,sU (JA (by omega)),sU (JA (by omega))]
  |next t=>exact absurd h (by show¬(2:Int)=1;decide)
  |key t=>exact absurd h (by show¬(3:Int)=1;decide)
  |epoch a b=>exact absurd h (by show¬(4:Int)=1;decide)
  |say w t=>exact absurd h (by show¬(5:Int)=1;decide)
  |room n t=>exact absurd h (by show¬(6:Int)=1;decide)
theorem T3{a b:S}(h:cE a b≠[]):(aN (cE a b)).op=4/\(aN (cE a b)).a=a:=by
 unfold cE at h⊢;split at h
 ·rename_i h1;rw[je h1];obtain⟨⟨h1,h2⟩,h3⟩:=h1;obtain⟨t,t1,t2,_⟩:=dG.1 h1;obtain⟨u,u1,u2,_⟩:=dG.1 h2;have e:sec (101::(a++b))=some (.epoch t u):=mC.2 ⟨⟨t1,u1⟩,by rw[t2,u2];rfl,by simp;omega⟩
  unfold aN;rw[e];exact⟨rfl,t2.symm⟩
 ·exact absurd rfl h
theorem EpS.next{n:Nat}{a b:S}(h:EpS n a)(hs:secOk (cE a b)=true):EpS (n+1) (cE a b):=by
 rw[CY,jb]at hs;obtain⟨h1,h2⟩:=T3 hs;exact⟨h1,by rw[h2];exact h⟩
def EpM(m:Member):Prop:=m.inn=true->m.epoch=(count m.tag:Nat)/\EpS (count m.tag) m.init
def EpC(c:Commit):Prop:=0<=c.add->EpS (count c.tag+1) c.wis
structure WE(w:World):Prop where
 mem:∀k:Nat,k<8->EpM (ix w.seats (k:Int))
 log:∀c∈w.log,EpC c
theorem EpM.no:EpM bI:=fun h=>by cases h
theorem WE.at{w:World}(z:WE w){i:Int}(hi:aI i):EpM (ix w.seats i):=by
 obtain⟨i0,i1⟩:=hi;obtain⟨k,rfl⟩:=kx i0;exact z.mem k (by omega)
theorem T4{l:List Member}{i:Int}{m:Member}(hl:l.length=8)(hi:aI i)(h:∀k:Nat,k<8->EpM (ix l (k:Int)))(hm:EpM m):∀k:Nat,k<8->EpM (ix (dH l i m) (k:Int)):=by
 obtain⟨i0,i1⟩:=hi;intro k hk;unfold dH;by_cases e:(k:Int)=i
 ·subst e;rw[pH _ _ _ i0 (by omega)]
  exact hm
 ·rw[oE _ _ _ _ i0 (by omega) e]
  exact h k hk
theorem T5{m:Member}{f:S}{a r:Int}{lf ky:S}(hm:EpM m)(h:cI m f a r lf ky=true):EpM (e6 m f a r lf ky):=by
 obtain⟨p1,p2,p3,_⟩:=mE h;obtain⟨e1,e2⟩:=hm p2;have hok:=(sT h).1;have hs:secOk (e6 m f a r lf ky).init=true:=(kO hok rfl).2.2.2.2.2.1;intro _;have hc:count (e6 m f a r lf ky).tag=count m.tag+1:=by
  show count (m.tag++f)=_;rw[oF,EW p3]
 rw[hc];refine⟨?_,e2.next hs⟩;show m.epoch+1=_;rw[e1];omega
theorem T6{m:Member}{f:S}{a r:Int}{lf ky:S}(hm:EpM m)(h:cI m f a r lf ky=true):EpC (jU m f a r lf ky):=by
 obtain⟨p1,p2,p3,_⟩:=mE h;obtain⟨e1,e2⟩:=hm p2;have hok:=(sT h).1;have hs:secOk (e6 m f a r lf ky).init=true:=(kO hok rfl).2.2.2.2.2.1;intro h0;have h0:0<=a:=h0;have e:(jU m f a r lf ky).wis=(e6 m f a r lf ky).init:=by
  unfold jU;simp only;rw[je h0]
 rw[e];exact e2.next hs
theorem hear_ep{m:Member}{c:Commit}(hm:EpM m)(h:(eB m c).2=true):EpM (eB m c).1:=by
 unfold eB at h⊢;split at h
 case isFalse=>cases h
 rename_i h1;rw[je h1];split at h
 case isFalse=>cases h
 rename_i h2;rw[je h2];split at h
 ·rename_i h3;rw[je h3];exact EpM.no
 ·rename_i h3;rw[jc h3];split at h
  case isFalse=>cases h
  rename_i h4;rw[je h4];unfold hearPair at h4⊢;simp only at h4⊢;split at h4
  ·cases h4
  ·rename_i h5;rw[jc h5];split at h4
   case isFalse=>cases h4
   rename_i h6;rw[je h6];unfold pF at h2;simp only[jg,jb]at h2;obtain⟨hi,⟨ht,_,_⟩,_⟩:=h2;obtain⟨e1,e2⟩:=hm hi;have hc:=h1.2;unfold dJ at hc;simp only[jg,jb]at hc;have hn:=EW hc.1.2.1;intro _;have hcn:count (qG m c (bQ m.own c.boxes)).tag=count m.tag+1:=by
    show count (m.tag++c.name)=_;rw[oF,hn]
   show(qG m c (bQ m.own c.boxes)).epoch=_/\EpS (count (qG m c (bQ m.own c.boxes)).tag) (qG m c (bQ m.own c.boxes)).init;rw[hcn];refine⟨?_,e2.next h4⟩;show m.epoch+1=_;rw[e1];omega
theorem join_ep{w:Int}{lf ky:S}{c:Commit}{m:Member}(hc:EpC c)(h:iP w lf ky c=some m):EpM m:=by
 unfold iP at h;split at h
 case isFalse=>cases h
 rename_i h1;cases h;have hn:=h1.1;unfold dJ at hn;simp only[jg,jb]at hn;have hn:=EW hn.1.2.1;intro _;have hcn:count (qI w lf c).tag=count c.tag+1:=by
  show count (c.tag++c.name)=_;rw[oF,hn]
 rw[hcn];exact⟨by show(count c.tag:Int)+1=_;omega,hc h1.2.1⟩
theorem WE.new{who:Int}(hw:aI who):WE (bR who):=by
 unfold bR;rw[je hw];refine⟨?_,by simp⟩
 intro k hk;rw[aM _ k (by simpa using hk)]
 simp only[z0,List.getElem_range];split
 ·intro hi;have h2:=EU (n:=2) hw (by decide) (by decide)
  unfold d8 at hi⊢;split at hi
  ·rename_i h;rw[je h];exact⟨rfl,h2.2⟩
  ·cases hi
 ·exact EpM.no
theorem WE.step{w:World}(g:WG w)(z:WE w)(e:Event):WE (step w e):=by
 unfold Kw.step;by_cases hw:aI e.who
 ·rw[je hw];split
  ·have hend:∀lf ky,WE (commitEnd w e lf ky):=fun lf ky=>by
    unfold commitEnd;split
    ·exact z
    ·rename_i m c hm;obtain⟨h1,h2,h3⟩:=wJ hm;refine⟨T4 g.seats hw z.mem ?_,fun d hd=>?_⟩
     ·rw[h2];exact T5 (z.at hw) h1
     ·rcases kf.1 hd with hd|hd
      ·exact z.log d hd
      ·rw[qp.1 hd,h3];exact T6 (z.at hw) h1
   unfold cA;split
   ·exact z
   ·split
    ·exact hend _ _
    ·exact hend _ _
  split
  ·unfold cR;split
   ·exact z
   ·exact⟨z.mem,z.log⟩
  split
  ·unfold eK;split
   ·exact z
   ·split
    ·exact⟨z.mem,z.log⟩
    ·exact z
  split
  ·split
   ·unfold dN;simp only;split
    ·rename_i h;exact⟨T4 g.seats hw z.mem (hear_ep (z.at hw) h),z.log⟩
    ·exact z
   ·exact z
  split
  ·split
   ·rename_i hp;have hc:=z.log _ (YL (l:=w.log) hp.1 hp.2);unfold dC;split
    ·exact z
    ·have:∀(l:List Wait) (k:Nat),WE (joinGo w e.who e.pos l k):=fun l=>by
      induction l with
      |nil=>intro k;exact z
      |cons x r ih=>
       intro k;rw[joinGo];split
       ·split
        ·rename_i m hm;exact⟨T4 g.seats hw z.mem (join_ep hc hm),z.log⟩
        ·exact ih (k+1)
       ·exact ih (k+1)
     exact this _ _
   ·exact z
  split
  ·split
   ·unfold eL;split
    ·exact z
    ·split
     ·exact⟨z.mem,z.log⟩
     ·exact z
   ·exact z
  ·exact z
 ·rw[jc hw];exact z
theorem WE.run{w:World}(g:WG w)(z:WE w)(l:List Event):WE (run w l):=by
 unfold Kw.run;induction l generalizing w with
 |nil=>exact z
 |cons e r ih=>exact ih (g.step e) (z.step g e)
end Kw
namespace Kw
open Go Go.Proofs
theorem made_len(s:S):(aN s).a.length<=s.length:=by
 unfold aN;cases h:sec s with
 |none=>exact Nat.zero_le _
 |some t=>
  obtain⟨_,e,_⟩:=mC.1 h;rw[e];cases t<;>simp[Sec.how,Sec.str]<;>omega
theorem cutS_cnt(s:S):(iS [] s).length=count s:=by
 rw[oK];unfold count;rw[List.count_eq_length_filter]
section
variable (L D:Nat)
theorem x_tags(s:S)(hs:s.length<=300):ev E L (D+1) 11 [.str (bs s)] []=some (.own ((iS [] s).map fun x=>[.str (bs x)]),[]):=by
 have h:E.ext 11=some abT:=rfl;have h3:abT [.str (bs s)]=some (.own ((iS [] s).map fun x=>[.str (bs x)])):=by
  unfold abT;simp only;rw[je (by show s.toArray.size<=_;simp;omega)]
  rfl
 unfold ev;rw[h];show(abT [.str (bs s)]).map _=_;rw[h3];rfl
theorem lp_ep2(hL:1099511627776<=L)(r0 r1 r2 r3 r4 r5 r6 r7 r8 r9:List Row)(b:Bool)(who:Int)(ks own:List Row)(init tag:S)(ht:tag.length<=300)(k:Int)(n8:Nat):∀(d:Nat) (s:S) (i n:Nat),s.length<=300->EpS d s->d<n->i+d=count tag->
 O1 L (D+318) n n8 r0 r1 r2 r3 r4 r5 r6 r7 r8 r9 b who ks own (count tag:Nat) (bs init) (bs tag) k (bs s) i=O0 L (D+318) n8 r0 r1 r2 r3 r4 r5 r6 r7 r8 r9 (bU .i64 k 1)
 |0,s,i,0,_,_,h,_=>by omega
 |0,s,i,n+1,hs,he,_,hi=>by
  rw[ak5];simp only[KM];have hm:=E3 L (D+13) hL s (by omega)
  have hx:=x_tags L (D+317) tag ht;have he:(aN s).op=1:=he;rw[he]at hm;have e1:iEq (1:Int) 4=false:=rfl;have e2:iEq (1:Int) 1=true:=rfl;have e3:iEq ((i:Nat):Int) ((count tag:Nat):Int)=true:=by rw[show i=count tag by omega];exact iEq_self _
  simp only[hm,hx,bnd_some',gAggN_if,jf,jk,ju,cellAt_zero,cellAt_succ,gInt_i,gStr_s,e1,br_false',gOwn_r,nrows_map,cutS_cnt,iEq_self,br_true',bNot_t,bNot_f,e3]
 |d+1,s,i,0,_,_,h,_=>by omega
 |d+1,s,i,n+1,hs,he,hn,hi=>by
  rw[ak5];simp only[KM];have hm:=E3 L (D+13) hL s (by omega)
  obtain⟨h1,h2⟩:=he;rw[h1]at hm;have e1:iEq (4:Int) 4=true:=rfl;have ha:bU .i64 (i:Int) 1=((i+1:Nat):Int):=aH _ (by
   have:count tag<=tag.length:=wa _ _;omega)
  simp only[hm,bnd_some',gAggN_if,jf,jk,ju,cellAt_zero,cellAt_succ,gInt_i,gStr_s,e1,br_true',ha];exact lp_ep2 hL r0 r1 r2 r3 r4 r5 r6 r7 r8 r9 b who ks own init tag ht k n8 d _ (i+1) n (jx (made_len s) hs) h2 (by omega) (by omega)
theorem lp_ep1(hL:1099511627776<=L)(w:World)(z:WG w)(y:WE w)(r1 r2 r3 r4 r5 r6 r7 r8 r9:List Row):∀(m k:Nat),8<m+k->k<=8->O0 L (D+318) m (w.seats.map rM) r1 r2 r3 r4 r5 r6 r7 r8 r9 k=some (.bool true,[])
 |0,k,h,hk=>by omega
 |m+1,k,h,hk=>by
  rw[al8];simp only[KM];by_cases hlt:k<8
  ·have g:iLt (k:Int) 8=true:=by rw[iLt_dec];exact jd (by omega)
   have z8:=z.seats;have u:=bL (k:Int) w.seats (by omega) (by omega)
   have a1:bU .i64 (k:Int) 1=((k+1:Nat):Int):=aH _ (by omega)
   have ih:=lp_ep1 hL w z y r1 r2 r3 r4 r5 r6 r7 r8 r9 m (k+1) (by omega) (by omega)
   have hm:=(z.mem k hlt).1;have he:=y.mem k hlt;generalize hx:ix w.seats (k:Int)=x at u hm he;have c0:nP (aD (rM x) 0)=some x.inn:=rfl;have c1:d9 .i64 (aD (rM x) 1)=some x.who:=rfl;have c2:gSl (aD (rM x) 2)=some (x.keys.map rS):=rfl;have c3:gSl (aD (rM x) 3)=some (x.own.map rO):=rfl;have c4:d9 .i64 (aD (rM x) 4)=some x.epoch:=rfl;have c5:d6 (aD (rM x) 5)=some (bs x.init):=rfl;have c6:d6 (aD (rM x) 6)=some (bs x.tag):=rfl;simp only[g,br_true',u,bnd_some',c0,c1,c2,c3,c4,c5,c6];cases hi:x.inn with
   |false=>simp only[bNot_f,br_true',a1];exact ih
   |true=>
    obtain⟨e1,e2⟩:=he hi;obtain⟨_,_,s1,s2⟩:=nF hm;have hct:count x.tag<=x.tag.length:=wa _ _;have h2:=lp_ep2 L D hL (w.seats.map rM) r1 r2 r3 r4 r5 r6 r7 r8 r9 true x.who (x.keys.map rS) (x.own.map rO) x.init x.tag s2 k m (count x.tag) x.init 0 L s1 e2 (by omega) (by omega)
    rw[show((0:Nat):Int)=0 from rfl]at h2
    simp only[bNot_t,br_false',e1];rw[h2,a1];exact ih
  ·have g:iLt (k:Int) 8=false:=by rw[iLt_dec];exact ji (by omega)
   have hk2:=avW L (D+10) hL;rw[g,br_false',hk2]
   rfl
theorem l_epoch(hL:1099511627776<=L)(l:S):ev E L (D+320) 3 [.sl (l.map rU)] []=some (.bool true,[]):=by
 rw[avV];simp only[KM];by_cases hb:iLt 1048576 (nrows (l.map rU))=true
 ·rw[hb,br_true']
 ·rw[Bool.not_eq_true]at hb;rw[hb,br_false'];obtain⟨f,evs,hf,he,ho,h⟩:=avT L (D+5) hL l;have hp:=avS L (D+1) hL f hf evs he ho;have z:WG (run (bR f) evs):=(WG.new hf).run evs;have y:WE (run (bR f) evs):=(WE.new hf).run (WG.new hf) evs;have hk:=akJ L (D+3) hL _ z;generalize run (bR f) evs=w at*;unfold wS at hp hk;rw[h];simp only[bnd_some',gTupN_if,jf,jk,ju,cellAt_zero,cellAt_succ,gInt_i,gSl_r];rw[hp];simp only[bnd_some',gAggN_if,jf,jk,ju,cellAt_zero,cellAt_succ,gSl_r];rw[hk];simp only[bnd_some',gBool_b,bNot_t,br_false'];exact lp_ep1 L (D+1) hL w z y _ _ _ _ _ _ _ _ _ L 0 (by omega) (by omega)
end
end Kw
