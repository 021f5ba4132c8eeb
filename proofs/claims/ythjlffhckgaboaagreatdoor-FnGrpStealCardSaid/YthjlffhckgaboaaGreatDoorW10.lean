import Derived.Test.YthjlffhckgaboaaGreatDoorW09
set_option linter.unusedVariables false
set_option linter.unusedSimpArgs false
set_option linter.unusedSectionVars false
namespace Kw
open Go Go.Proofs
theorem VC{A:Type} [Inhabited A](l:List A)(k:Nat)(h:k<l.length):l.drop k=ix l (k:Int)::l.drop (k+1):=by
 rw[aK l k h];exact qa h
theorem JL(r:List Row):DJ (.ownK r)=some r:=(rfl)
section
variable (L D:Nat)
theorem aA0(l:List Wait)(k:Nat)(hk:k<l.length):ev E L (D+1) 203 [.ownK (l.map rWt),.int .i64 (k:Int),.int .i64 ((k+1:Nat):Int)] []=some (.ownK ((l.eraseIdx k).map rWt),[]):=by
 have h:E.ext 203=some WR:=rfl;have h2:WR [.ownK (l.map rWt),.int .i64 (k:Int),.int .i64 ((k+1:Nat):Int)]=some (.ownK ((l.eraseIdx k).map rWt)):=by
  unfold WR;simp only;rw[GD,jd (by rw[kf];omega),Jf,je rfl,ki,ki,List.eraseIdx_eq_take_drop_succ,List.map_append,List.map_take,List.map_drop]
 unfold ev;simp only[h,h2]
 rfl
theorem aoN(hL:1099511627776<=L)(w:World)(z:WG w)(who pos kind add remove:Int)(text:ByteArray)(hw:aH who)(hp:0<=pos/\pos<w.log.length):∀(n k:Nat),w.waits.length-k<n->k<=w.waits.length->
 sM L (D+314) n (w.seats.map rM) (w.log.map rC) (w.fresh.map rI) (w.spy.map rS) (w.stolen.map rSt) (w.frames.map rF) (w.said.map rI) (w.wins.map rWs) (w.told.map rT) (w.waits.map rWt) (w.seats.length:Nat) (w.waits.length:Nat) (w.log.length:Nat) (w.fresh.length:Nat) (w.spy.length:Nat) (w.stolen.length:Nat) (w.frames.length:Nat) (w.said.length:Nat) (w.wins.length:Nat) (w.told.length:Nat) kind who add remove pos text (w.waits.length:Nat) (w.waits.length:Nat) k=some (.tup [],[.cells (wK (joinGo w who pos (w.waits.drop k) k))]):=by
 intro n;induction n with
 |zero=>intro k h;omega
 |succ n ih=>
  intro k hn hk;rw[M9];simp only[KM];have z1:=z.waits;have z8:=z.seats;have w0:=hw.1;have w1:who<w.seats.length:=by have:=hw.2;omega
  have p0:=hp.1;have p1:=hp.2;by_cases h:k<w.waits.length
  case neg=>
   have h':¬(k:Int)<w.waits.length:=by omega
   simp(disch:=omega) only[K1,↓aA,h'];rw[js (by omega)];rfl
  have h':(k:Int)<w.waits.length:=by omega
  have next:=ih (k+1) (by omega) (by omega)
  rw[VC w.waits k h,joinGo];have hxm:ix w.waits (k:Int)∈w.waits:=dU (by omega) (by omega)
  generalize hx:ix w.waits (k:Int)=x at hxm;obtain⟨_,_,x3,x4⟩:=z.waitsI x hxm;by_cases h1:x.who=who
  case neg=>
   rw[jc (fun y=>h1 y.1)]
   simp(disch:=omega) only[K1,↓aA,yI,yJ,yK,yL,kY,lH,h',hx,h1,aG,next]
  have hd1:decide (x.who=who)=true:=jd h1;by_cases h2:x.pos=pos
  case neg=>
   rw[jc (fun y=>h2 y.2)]
   simp(disch:=omega) only[K1,↓aA,yI,yJ,yK,yL,kY,lH,h',hx,hd1,h2,aG,next]
  have hd2:decide (x.pos=pos)=true:=jd h2;rw[je ⟨h1,h2⟩];have hco:=z.logI _ (dU p0 p1);have q0:0<=x.pos:=by omega
  have q1:x.pos<w.log.length:=by omega
  generalize hc:ix w.log pos=c at hco;have hc':ix w.log x.pos=c:=by rw[h2,hc]
  have hj:=adQ L D hL who x.leaf x.key c (MG hco) (by have:=bS x3;omega) (by have:=bS x4;omega)
  have e2:(⟨c.sender,c.tag,c.name,c.add,c.remove,c.leaf,c.keys,c.boxes,c.wkey,c.wik,c.wis,c.wsk,c.wss⟩:Commit)=c:=rfl;have hdel:=aA0 L (D+313) w.waits k h;cases hm:iR who x.leaf x.key c with
  |none=>
   rw[hm]at hj;simp only[rM,rC]at hj;simp(disch:=omega) only[K1,Int.reduceLE,Nat.reduceAdd,↓aA,jM,bZ,bG,sB,bM,ID,IE,IG,IH,II,IJ,IK,IL,IM,IO,wT,wU,wV,nS,mN,yI,yJ,yK,yL,kY,lH,h',hx,hd2,h1,hc',hj,aG,next]
  |some m=>
   rw[hm]at hj;simp only[rM,rC]at hj;have e3:(⟨m.inn,m.who,m.keys,m.own,m.epoch,m.init,m.tag⟩:Member)=m:=rfl;simp(disch:=omega) only[K1,Int.reduceLE,Nat.reduceAdd,↓aA,jM,bZ,bG,sB,bM,ID,IE,IG,IH,II,IJ,IK,IL,IM,IO,wT,wU,wV,nS,mN,yI,yJ,yK,yL,kY,lH,h',hx,hd2,h1,hc',hj,e3,ku,aG,hdel,JL]
   rfl
theorem awJ(hL:1099511627776<=L)(w:World)(z:WG w)(e:Event)(hw:aH e.who)(hp:0<=e.pos/\e.pos<w.log.length):ev E L (D+315) 117 [.ptr (.imp 0) 0,.agg [.int .i64 e.kind,.int .i64 e.who,.int .i64 e.add,.int .i64 e.remove,.int .i64 e.pos,.str (bs e.text)]] [.cells (wK w)]=some (.tup [],[.cells (wK (dF w e.who e.pos))]):=by
 unfold wK;rw[at7];simp only[KM];have z8:=z.seats;have z1:=z.waits;have w0:=hw.1;have w1:e.who<w.seats.length:=by have:=hw.2;omega
 unfold dF;have hl:=aoN L D hL w z e.who e.pos e.kind e.add e.remove (bs e.text) hw hp L 0 (by omega) (by omega)
 generalize hm:ix w.seats e.who=m;cases hi:m.inn with
 |true=>simp(disch:=omega) only[K1,↓aA,jA,bG,bM,hm,hi]
 |false=>
  simp(disch:=omega) only[K1,↓aA,jA,bG,bM,hm,hi];exact hl
end
end Kw
namespace Kw
open Go Go.Proofs
section
variable (L D:Nat)
set_option maxRecDepth 4000 in
theorem awK(hL:1099511627776<=L)(w:World)(z:WG w)(e:Event)(ht:e.text.length<=500000):ev E L (D+316) 62 [.ptr (.imp 0) 0,.agg [.int .i64 e.kind,.int .i64 e.who,.int .i64 e.add,.int .i64 e.remove,.int .i64 e.pos,.str (bs e.text)]] [.cells (wK w)]=some (.tup [],[.cells (wK (step w e))]):=by
 have hjo:=fun hw hp=>awJ L D hL w z e hw hp
 have hcm:=fun hw=>aiG L (D+2) hL w z e hw
 unfold wK at hjo hcm⊢;rw[az1];simp only[KM];rw[qY,kM];unfold step;by_cases hw:aH e.who
 case neg=>
  rw[jc hw,ji hw];simp(disch:=omega) only[K1,cZ,↓aA]
 rw[je hw,jd hw];have hcm:=hcm hw;have hjo:=hjo hw;have z8:=z.seats;have zs:=z.said;have zw:=z.wins;have zl:=z.log;have zf:=z.frames;have zt:=z.told;have zp:=z.spy;have zq:=z.stolen;have zg:=z.waits;have w0:=hw.1;have w1:e.who<w.seats.length:=by have:=hw.2;omega
 have w2:e.who<w.said.length:=by have:=hw.2;omega
 have w3:e.who<w.wins.length:=by have:=hw.2;omega
 have hmo:=z.seat (dU w0 w1);obtain⟨s0,s1⟩:=z.saidI _ (dU w0 w2);have hll:iS .i64 (w.log.length:Int) 1=(w.log.length:Int)-1:=d9 (by omega) (by omega)
 have hff:iS .i64 (w.frames.length:Int) 1=(w.frames.length:Int)-1:=d9 (by omega) (by omega)
 by_cases k1:e.kind=1
 ·have hd:decide (e.kind=1)=true:=jd k1;rw[je k1];simp(disch:=omega) only[K1,iG,cZ,bK,Nat.reduceAdd,↓aA,bM,kL,hll,hff,hd,hcm,JL]
 rw[jc k1];by_cases k4:e.kind=4
 ·have hd:decide (e.kind=4)=true:=jd k4;have k2:¬e.kind=2:=by omega
  have k3:¬e.kind=3:=by omega
  have k5:¬e.kind=5:=by omega
  have k6:¬e.kind=6:=by omega
  rw[je k4];unfold cF;have hkn:=L7 L (D+3) hL (ix w.seats e.who) (H8 hmo);have hkl:(cO (ix w.seats e.who)).length<=5:=by
   unfold cO;split
   ·have:=(oC hmo).2.1.1;simp;omega
   ·simp
  generalize hm:ix w.seats e.who=m at hkn hkl;simp only[rM]at hkn;cases hi:m.inn with
  |false=>
   rw[je (.inl rfl)];simp(disch:=omega) only[K1,cZ,jx,cN,aJ,Int.reduceLE,Nat.reduceAdd,iI,nE,CU,nF,aZ,aR,↓aA,d8,dD,dE,bJ,kX,aY,jA,kO,kP,kQ,kR,kS,kT,bZ,bG,bM,nD,dW,eC,eH,IZ,kU,kL,hll,hff,hd,k1,k2,k3,k5,k6,cQ,cR,cW,cX,hm,hi,↓KM]
  |true=>
   rw[hi]at hkn;by_cases h12:w.stolen.length=12
   ·have h':¬(w.stolen.length:Int)<12:=by omega
    rw[je (.inr h12)];simp(disch:=omega) only[K1,cZ,jx,cN,aJ,Int.reduceLE,Nat.reduceAdd,nE,nF,aZ,aR,↓aA,d8,dD,dE,bJ,kX,aY,jA,kO,kP,kQ,kR,kS,kT,bZ,bG,bM,nD,dW,eC,eH,kU,kL,hll,hff,hd,k1,k2,k3,k5,k6,cQ,cR,cW,cX,hm,hi,h',↓KM]
   ·have h':(w.stolen.length:Int)<12:=by omega
    rw[jc (fun x=>x.elim (fun y=>by cases y) h12)]
    simp(disch:=omega) only[K1,cZ,jx,aV,aJ,d7,Int.reduceLE,Nat.reduceAdd,iI,nE,CU,nF,aZ,aR,↓aA,d8,dD,dE,bJ,kX,aY,jA,kO,kP,kQ,kR,kS,kT,bZ,bG,bM,nD,dW,eC,eH,IZ,kU,kL,hll,hff,hd,k1,k2,k3,k5,k6,cQ,cR,cW,cX,hm,hi,h',hkn,aE,↓KM]
 rw[jc k4];by_cases k5:e.kind=5
 ·have hd:decide (e.kind=5)=true:=jd k5;have k2:¬e.kind=2:=by omega
  have k3:¬e.kind=3:=by omega
  have k6:¬e.kind=6:=by omega
  rw[je k5];unfold eM;by_cases h40:w.frames.length=40
  ·have h':¬(w.frames.length:Int)<40:=by omega
   rw[je (.inl h40)];simp(disch:=omega) only[K1,cZ,jx,cN,aJ,Int.reduceLE,Nat.reduceAdd,nE,nF,aZ,aR,↓aA,d8,dD,dE,bJ,kX,aY,jA,kO,kP,kQ,kR,kS,kT,bZ,bG,bM,nD,dW,eC,eH,kU,kL,hll,hff,hd,k1,k2,k3,k4,k6,cQ,cR,cW,cX,h',↓KM]
  have h':(w.frames.length:Int)<40:=by omega
  generalize hs:ix w.said e.who=n at s0 s1;by_cases h999:n=999
  ·have h2:¬n<999:=by omega
   rw[je (.inr h999)];simp(disch:=omega) only[K1,cZ,jx,cN,aJ,Int.reduceLE,Nat.reduceAdd,nE,nF,aZ,aR,↓aA,d8,dD,dE,bJ,kX,aY,jA,kO,kP,kQ,kR,kS,kT,bZ,bG,bM,nD,dW,eC,eH,kU,kL,hll,hff,hd,k1,k2,k3,k4,k6,cQ,cR,cW,cX,h',hs,h2,↓KM]
  have h2:n<999:=by omega
  rw[jc (fun x=>x.elim h40 h999)]
  have hfm:=adR L (D+1) hL (ix w.seats e.who) (H8 hmo) (n+1) e.text ht;generalize hm:ix w.seats e.who=m at hfm;cases hr:nU m (n+1) e.text with
  |none=>
   rw[hr]at hfm;simp only[rM]at hfm;simp(disch:=omega) only[K1,cZ,jx,cN,aJ,Int.reduceLE,Nat.reduceAdd,nE,nF,aZ,aR,↓aA,d8,dD,dE,bJ,kX,aY,jA,kO,kP,kQ,kR,kS,kT,bZ,bG,bM,QQ,nD,dW,eC,eH,kU,kL,hll,hff,hd,k1,k2,k3,k4,k6,cQ,cR,cW,cX,h',hs,h2,hm,bA,hfm,↓KM]
  |some f=>
   rw[hr]at hfm;simp only[rM,rF]at hfm;have e3:(⟨f.src,f.key,f.n,f.text⟩:Frame)=f:=rfl;simp(disch:=omega) only[K1,cZ,jx,aV,aJ,Int.reduceLE,Nat.reduceAdd,nE,nF,aZ,aR,↓aA,d8,dD,dE,bJ,kX,aY,jA,kO,kP,kQ,kR,kS,kT,bZ,bG,bM,QQ,nD,dW,eC,eH,kU,kL,hll,hff,hd,k1,k2,k3,k4,k6,cQ,cR,cW,cX,h',hs,h2,hm,bA,hfm,e3,aE,ku,↓KM]
   rfl
 rw[jc k5];by_cases k2:e.kind=2
 ·have hd:decide (e.kind=2)=true:=jd k2;have k3:¬e.kind=3:=by omega
  have k6:¬e.kind=6:=by omega
  rw[je k2];by_cases hp:0<=e.pos/\e.pos<w.log.length
  case neg=>
   have hf:(decide (0<=e.pos)&&decide (e.pos<=(w.log.length:Int)-1))=false:=by
    rw[yc];intro h;simp only[jg,jb]at h;exact hp ⟨h.1,by omega⟩
   rw[jc hp];simp(disch:=omega) only[K1,cZ,jx,cN,aJ,Int.reduceLE,Nat.reduceAdd,nE,nF,aZ,aR,↓aA,d8,dD,dE,bJ,kX,aY,jA,kO,kP,kQ,kR,kS,kT,bZ,bG,bM,nD,dW,eC,eH,kU,kL,hll,hff,hd,k1,k3,k4,k5,k6,cQ,cR,cW,cX,hf,↓KM]
  have hf:(decide (0<=e.pos)&&decide (e.pos<=(w.log.length:Int)-1))=true:=by
   rw[jd hp.1,jd (by omega:e.pos<=(w.log.length:Int)-1)];rfl
  obtain⟨p0,p1⟩:=id hp;rw[je hp];unfold dQ;have hco:=z.logI _ (dU p0 p1);have hh:=adP L (D+1) hL (ix w.seats e.who) (ix w.log e.pos) (H8 hmo) (MG hco);generalize hm:ix w.seats e.who=m at hh;generalize hc:ix w.log e.pos=c at hh;simp only[rM,rC]at hh;generalize dH m c=r at hh;have e3:(⟨r.1.inn,r.1.who,r.1.keys,r.1.own,r.1.epoch,r.1.init,r.1.tag⟩:Member)=r.1:=rfl;cases hr:r.2 with
  |false=>
   rw[hr]at hh;simp(disch:=omega) only[K1,cZ,Int.reduceLE,Nat.reduceAdd,↓aA,jA,kO,kP,kQ,kR,kS,kT,jM,bZ,bG,sB,bM,ID,IE,IG,IH,II,IJ,IK,IL,IM,IO,wT,wU,wV,nS,mN,kL,hll,hff,hd,k1,hf,cQ,hm,hc,hh,hr,↓KM]
  |true=>
   rw[hr]at hh;simp(disch:=omega) only[K1,cZ,Int.reduceLE,Nat.reduceAdd,↓aA,jA,kO,kP,kQ,kR,kS,kT,jM,bZ,bG,sB,bM,ID,IE,IG,IH,II,IJ,IK,IL,IM,IO,wT,wU,wV,nS,mN,kL,hll,hff,hd,k1,hf,cQ,hm,hc,hh,hr,e3,ku,↓KM]
   rfl
 rw[jc k2];by_cases k3:e.kind=3
 ·have hd:decide (e.kind=3)=true:=jd k3;have k6:¬e.kind=6:=by omega
  rw[je k3];by_cases hp:0<=e.pos/\e.pos<w.log.length
  case neg=>
   have hf:(decide (0<=e.pos)&&decide (e.pos<=(w.log.length:Int)-1))=false:=by
    rw[yc];intro h;simp only[jg,jb]at h;exact hp ⟨h.1,by omega⟩
   rw[jc hp];simp(disch:=omega) only[K1,cZ,jx,cN,aJ,Int.reduceLE,Nat.reduceAdd,nE,nF,aZ,aR,↓aA,d8,dD,dE,bJ,kX,aY,jA,kO,kP,kQ,kR,kS,kT,bZ,bG,bM,nD,dW,eC,eH,kU,kL,hll,hff,hd,k1,k2,k4,k5,k6,cQ,cR,cW,cX,hf,↓KM]
  have hf:(decide (0<=e.pos)&&decide (e.pos<=(w.log.length:Int)-1))=true:=by
   rw[jd hp.1,jd (by omega:e.pos<=(w.log.length:Int)-1)];rfl
  rw[je hp];have hjo:=hjo hp;simp(disch:=omega) only[K1,iG,cZ,jx,cN,aJ,bK,Int.reduceLE,Nat.reduceAdd,iI,CU,aZ,aR,↓aA,d8,bJ,aY,jA,kO,kP,kQ,kR,kS,kT,bZ,bG,bM,ID,IE,IG,IH,II,IJ,IK,IL,IM,IO,wT,wU,wV,nS,mN,IZ,kL,hll,hff,hd,k1,k2,hf,cQ,cR,hjo,JL,↓KM]
 rw[jc k3];by_cases k6:e.kind=6
 ·have hd:decide (e.kind=6)=true:=jd k6;rw[je k6];by_cases hp:0<=e.pos/\e.pos<w.frames.length
  case neg=>
   have hf:(decide (0<=e.pos)&&decide (e.pos<=(w.frames.length:Int)-1))=false:=by
    rw[yc];intro h;simp only[jg,jb]at h;exact hp ⟨h.1,by omega⟩
   rw[jc hp];simp(disch:=omega) only[K1,cZ,jx,cN,aJ,Int.reduceLE,Nat.reduceAdd,nE,nF,aZ,aR,↓aA,d8,dD,dE,bJ,kX,aY,jA,kO,kP,kQ,kR,kS,kT,bZ,bG,bM,nD,dW,eC,eH,kU,kL,hll,hff,hd,k1,k2,k3,k4,k5,cQ,cR,cW,cX,hf,↓KM]
  have hf:(decide (0<=e.pos)&&decide (e.pos<=(w.frames.length:Int)-1))=true:=by
   rw[jd hp.1,jd (by omega:e.pos<=(w.frames.length:Int)-1)];rfl
  obtain⟨p0,p1⟩:=id hp;rw[je hp];unfold eN;by_cases h320:w.told.length=320
  ·have h':¬(w.told.length:Int)<320:=by omega
   rw[je h320];simp(disch:=omega) only[K1,cZ,jx,cN,aJ,Int.reduceLE,Nat.reduceAdd,nE,nF,aZ,aR,↓aA,d8,dD,dE,bJ,kX,aY,jA,kO,kP,kQ,kR,kS,kT,bZ,bG,bM,ab8,ab9,abA,abB,DW,CT,nD,dW,eC,eH,kU,kL,hll,hff,hd,k1,k2,k3,k4,k5,cQ,cR,cW,cX,hf,h',↓KM]
  have h':(w.told.length:Int)<320:=by omega
  rw[jc h320];have hfo:=z.framesI _ (dU p0 p1);have hwm:=dU (l:=w.wins) w0 w3;have hg:=aiF L (D+2) hL (ix w.seats e.who) hmo (ix w.wins e.who) (z.winsI _ hwm) (by have:=z.winN _ hwm;omega) (ix w.frames e.pos) hfo
  generalize hm:ix w.seats e.who=m at hg;generalize hn:ix w.wins e.who=wn at hg;generalize hf2:ix w.frames e.pos=f at hg;cases hr:oL m wn f with
  |none=>
   rw[hr]at hg;simp only[rM,rF]at hg;simp(disch:=omega) only[K1,cZ,jx,cN,aJ,Int.reduceLE,Nat.reduceAdd,nE,nF,aZ,aR,↓aA,d8,dD,dE,bJ,kX,aY,jA,kO,kP,kQ,kR,kS,kT,bZ,bG,bM,ab8,ab9,abA,abB,DW,CT,nD,AX,dW,eC,QR,eH,kU,kL,hll,hff,hd,k1,k2,k3,k4,k5,cQ,cR,cW,cX,hf,h',hm,hn,hf2,hg,↓KM]
  |some y=>
   rw[hr]at hg;simp only[rM,rF]at hg;simp(disch:=omega) only[K1,cZ,jx,aV,aJ,Int.reduceLE,Nat.reduceAdd,nE,nF,aZ,aR,↓aA,d8,dD,dE,bJ,kX,aY,jA,kO,kP,kQ,kR,kS,kT,bZ,bG,bM,ab8,ab9,abA,abB,DW,CT,nD,AX,dW,eC,QR,eH,kU,kL,hll,hff,hd,k1,k2,k3,k4,k5,cQ,cR,cW,cX,hf,h',hm,hn,hf2,hg,aE,ku,↓KM]
   rfl
 rw[jc k6];simp(disch:=omega) only[K1,cZ,jx,cN,aJ,Int.reduceLE,Nat.reduceAdd,nE,nF,aZ,aR,↓aA,d8,dD,dE,bJ,kX,aY,jA,kO,kP,kQ,kR,kS,kT,bZ,bG,bM,nD,dW,eC,eH,kU,kL,hll,hff,k1,k2,k3,k4,k5,k6,cQ,cR,cW,cX,↓KM]
end
end Kw
namespace Kw
theorem W9{w:Int}(h:aH w):∃k:Fin 8,(k.val:Int)=w:=⟨⟨w.toNat,by obtain⟨a,b⟩:=h;omega⟩,by obtain⟨a,b⟩:=h;simp;omega⟩
def lO(a b:Int):List Int:=treMeet (treLeaf a) (treLeaf b)::bI (treMeet (treLeaf a) (treLeaf b))
theorem tZ{a b:Int}(ha:aH a)(hb:aH b):(∀n∈lO a b,n∈pathOf a)/\(∀n∈pathOf a,n∈pathOf b->n∈lO a b)/\(lO a b).Nodup/\(treLeaf a∈pathOf b->a=b)/\(lO a b).length<=4:=by
 obtain⟨i,rfl⟩:=W9 ha;obtain⟨j,rfl⟩:=W9 hb;have hall:∀i j:Fin 8,(∀n∈lO (i.val:Int) (j.val:Int),n∈pathOf (i.val:Int))/\(∀n∈pathOf (i.val:Int),n∈pathOf (j.val:Int)->n∈lO (i.val:Int) (j.val:Int))/\(lO (i.val:Int) (j.val:Int)).Nodup/\(treLeaf (i.val:Int)∈pathOf (j.val:Int)->(i.val:Int)=(j.val:Int))/\(lO (i.val:Int) (j.val:Int)).length<=4:=by decide+kernel
 exact hall i j
theorem kA{a:Int}(ha:aH a):(pathOf a).Nodup/\(∀n∈pathOf a,0<=n/\n<=14)/\treLeaf a∈pathOf a/\(pathOf a).length=4/\7<=treLeaf a/\treLeaf a<=14:=by
 obtain⟨i,rfl⟩:=W9 ha;have hall:∀i:Fin 8,(pathOf (i.val:Int)).Nodup/\(∀n∈pathOf (i.val:Int),0<=n/\n<=14)/\treLeaf (i.val:Int)∈pathOf (i.val:Int)/\(pathOf (i.val:Int)).length=4/\7<=treLeaf (i.val:Int)/\treLeaf (i.val:Int)<=14:=by decide+kernel
 exact hall i
theorem UG{n:Nat}(h:n<=99):(plain n).length<=2:=by
 unfold plain;split
 ·rw[jl];unfold plain;rw[dif_neg (by omega)];simp
 ·simp
theorem RD{s:S}(h:(aN s).op=1):s.length<=4/\secOk s=true:=by
 have hs:=agI h (by decide)
 refine⟨?_,hs⟩;unfold aN at h;obtain⟨t,h1,h2,h3⟩:=cK.1 hs;rw[iX.2 ⟨h1,h2,h3⟩]at h;cases t with
 |new w n=>
  rw[h2];have:=UG (n:=n) h1.2.2;simp only[Sec.str,jf,jl,jk];omega
 |next t=>exact absurd h (by show¬(2:Int)=1;decide)
 |key t=>exact absurd h (by show¬(3:Int)=1;decide)
 |epoch a b=>exact absurd h (by show¬(4:Int)=1;decide)
 |say w t=>exact absurd h (by show¬(5:Int)=1;decide)
 |room n t=>exact absurd h (by show¬(6:Int)=1;decide)
theorem agJ{s:S}(h:secOk s=true)(hl:1+s.length<=300):isKey (makKey s)=true/\makKey s≠[]:=by
 unfold makKey mk1;rw[je ⟨h,hl⟩];obtain⟨t,h1,h2,h3⟩:=cK.1 h;refine⟨?_,by simp⟩
 have e:sec ([107]++s)=some (.key t):=iX.2 ⟨h1,by rw[h2];rfl,by simp;omega⟩
 unfold isKey aN;rw[e]
 rfl
theorem oE{A:Type} [Inhabited A](l:List A)(n:Int)(x:A)(h0:0<=n)(h1:n<l.length):ix (l.set n.toNat x) n=x:=by
 obtain⟨k,rfl⟩:=kv h0;rw[ki,aK _ k (by rw[ku];omega)]
 simp
theorem nK{A:Type} [Inhabited A](l:List A)(n m:Int)(x:A)(h0:0<=n)(h1:0<=m)(hne:m≠n):ix (l.set n.toNat x) m=ix l m:=by
 obtain⟨k,rfl⟩:=kv h0;obtain⟨j,rfl⟩:=kv h1;unfold ix;rw[ki,ki];simp only[jr,Ja];rw[jc (by omega)]
theorem LG:∀(l:List Int) (s:S) (ks:List S),(mR l s ks).length=ks.length
 |[],_,_=>rfl
 |_::l,s,ks=>by rw[mR,LG l];simp
theorem PH:∀(p:List Int) (s:S) (ks:List S) (n:Int),(∀x∈p,0<=x)->0<=n->n∉p->ix (mR p s ks) n=ix ks n
 |[],_,_,_,_,_,_=>rfl
 |a::p,s,ks,n,hp,h0,hn=>by
  rw[mR,PH p _ _ n (fun x hx=>hp x (by simp[hx])) h0 (fun h=>hn (by simp[h])),nK _ _ _ _ (hp a (by simp)) h0 (fun e=>hn (by simp[e]))]
theorem LH:∀(p:List Int) (s:S) (ks:List S),p.Nodup->(∀x∈p,0<=x/\x<ks.length)->∀o∈pathGo p s,ix (mR p s ks) o.node=makKey o.sec
 |[],_,_,_,_,o,ho=>by cases ho
 |a::p,s,ks,hd,hp,o,ho=>by
  have e:pathGo (a::p) s=⟨a,s⟩::pathGo p (makNext s):=rfl;rw[e]at ho;rw[wz]at hd;obtain⟨a0,a1⟩:=hp a (by simp)
  rcases ko.1 ho with rfl|ho
  ·rw[mR,PH p _ _ _ (fun x hx=>(hp x (by simp[hx])).1) a0 hd.1,oE _ _ _ a0 a1]
  ·rw[mR];exact LH p _ _ hd.2 (fun x hx=>by rw[ku];exact hp x (by simp[hx])) o ho
theorem mem_setGo:∀(p:List Int) (s:S) (ks:List S) (x:S),x∈mR p s ks->x∈ks\/∃o∈pathGo p s,x=makKey o.sec
 |[],_,_,_,h=>.inl h
 |a::p,s,ks,x,h=>by
  rw[mR]at h;have e:pathGo (a::p) s=⟨a,s⟩::pathGo p (makNext s):=rfl;rw[e];rcases mem_setGo p _ _ x h with h|⟨o,ho,h⟩
  ·rcases qy h with h|h
   ·exact .inl h
   ·exact .inr ⟨_,qk ..,h⟩
  ·exact .inr ⟨o,kz _ ho,h⟩
theorem treOk_iff{ks:List S}:treOk ks=true↔ks.length=15/\∀s∈ks,s=[]\/isKey s=true:=by
 unfold treOk;simp only[jg,jb,kj,ya]
theorem wA{p:List Int}{s:S}(hs:secOk s=true)(hl:s.length+p.length<=299):∀o∈pathGo p s,secOk o.sec=true/\o.sec.length<=s.length+p.length/\isKey (makKey o.sec)=true/\makKey o.sec≠[]:=fun o ho=>by
 obtain⟨h1,h2⟩:=sH p s hs (by omega) o ho
 obtain⟨h3,h4⟩:=agJ h1 (by omega)
 exact⟨h1,h2,h3,h4⟩
theorem LI{ks:List S}{w:Int}{s:S}(h:treOk ks=true)(hs:secOk s=true)(hl:s.length+(pathOf w).length<=299):treOk (B5 ks w s)=true:=by
 rw[treOk_iff]at h⊢;refine⟨by unfold B5;rw[LG];exact h.1,fun x hx=>?_⟩
 rcases mem_setGo _ _ _ x hx with hx|⟨o,ho,rfl⟩
 ·exact h.2 x hx
 ·exact .inr (wA hs hl o ho).2.2.1
theorem mem_clr{ks:List S}{w:Int}{x:S}(h:x∈clr ks w):x∈ks\/x=[]:=by
 unfold clr at h;generalize pathOf w=p at h;induction p generalizing ks with
 |nil=>exact .inl h
 |cons n p ih=>
  rcases ih h with h|h
  ·rcases qy h with h|h
   ·exact .inl h
   ·exact .inr h
  ·exact .inr h
theorem agK(ks:List S)(w:Int):(clr ks w).length=ks.length:=by
 unfold clr;generalize pathOf w=p;induction p generalizing ks with
 |nil=>rfl
 |cons n ns ih=>simp[ih]
theorem agL(ks:List S)(w:Int)(hw:∀x∈pathOf w,0<=x){n:Int}(h0:0<=n):ix (clr ks w) n=if n∈pathOf w then[]else ix ks n:=by
 unfold clr;generalize pathOf w=p at hw⊢;induction p generalizing ks with
 |nil=>simp
 |cons a p ih=>
  show ix (p.foldl _ (ks.set a.toNat [])) n=_;have ih:=ih (ks.set a.toNat []) (fun x hx=>hw x (by simp[hx]))
  rw[ih];by_cases h1:n∈p
  ·rw[je h1,je (by simp[h1])]
  ·rw[jc h1];by_cases h2:n=a
   ·rw[je (by simp[h2])]
    subst h2;by_cases h3:n<ks.length
    ·exact oE _ _ _ h0 h3
    ·obtain⟨k,rfl⟩:=kv h0;unfold ix;rw[ki,jr,qo (by rw[ku];omega)]
     rfl
   ·rw[jc (by simp[h1,h2]),nK _ _ _ _ (hw a (by simp)) h0 h2]
theorem PJ{ks:List S}{w:Int}(h:treOk ks=true):treOk (clr ks w)=true:=by
 rw[treOk_iff]at h⊢;refine⟨by rw[agK];exact h.1,fun x hx=>?_⟩
 rcases mem_clr hx with hx|hx
 ·exact h.2 x hx
 ·exact .inl hx
theorem XA{ks:List S}{add remove:Int}{leaf:S}(h:treOk ks=true)(hl:0<=add->isKey leaf=true):treOk (baseT ks add remove leaf)=true:=by
 unfold baseT;simp only;have h1:treOk (if 0<=remove then clr ks remove else ks)=true:=by split;exact PJ h;exact h
 split
 ·rename_i h0;have h2:=PJ (w:=add) h1;rw[treOk_iff]at h2⊢;refine⟨by rw[ku];exact h2.1,fun x hx=>?_⟩
  rcases qy hx with hx|hx
  ·exact h2.2 x hx
  ·exact .inr (by rw[hx];exact hl h0)
 ·exact h1
theorem aa0{ks:List S}{add remove:Int}{leaf:S}{n:Int}(ha: -1<=add/\add<=7)(hr: -1<=remove/\remove<=7)(h0:0<=n)(hl:0<=add->n≠treLeaf add):
 ix (baseT ks add remove leaf) n=if(0<=remove/\n∈pathOf remove)\/(0<=add/\n∈pathOf add)then[]else ix ks n:=by
 unfold baseT;simp only;have h1:ix (if 0<=remove then clr ks remove else ks) n=if 0<=remove/\n∈pathOf remove then[]else ix ks n:=by
  by_cases h:0<=remove
  ·rw[je h,agL _ _ (fun x hx=>((kA ⟨h,hr.2⟩).2.1 x hx).1) h0]
   by_cases h2:n∈pathOf remove
   ·rw[je h2,je ⟨h,h2⟩]
   ·rw[jc h2,jc (fun x=>h2 x.2)]
  ·rw[jc h,jc (fun x=>h x.1)]
 generalize(if 0<=remove then clr ks remove else ks)=k1 at h1⊢
 by_cases h:0<=add
 ·have pf:=kA (a:=add) ⟨h,ha.2⟩;rw[je h,nK _ _ _ _ (by omega) h0 (hl h),agL _ _ (fun x hx=>(pf.2.1 x hx).1) h0,h1]
  by_cases h2:n∈pathOf add
  ·rw[je h2,je (.inr ⟨h,h2⟩)]
  ·rw[jc h2];by_cases h3:0<=remove/\n∈pathOf remove
   ·rw[je h3,je (.inl h3)]
   ·rw[jc h3,jc (fun x=>x.elim h3 fun y=>h2 y.2)]
 ·rw[jc h,h1];by_cases h3:0<=remove/\n∈pathOf remove
  ·rw[je h3,je (.inl h3)]
  ·rw[jc h3,jc (fun x=>x.elim h3 fun y=>h y.1)]
end Kw
namespace Kw
theorem UH{w:Int}{ks:List S}{own:List Own}{e:Int}{i t:S}(hw:aH w)(ht:treOk ks=true)(hnd:(own.map (·.node)).Nodup)
 (hin:∀o∈own,o.node∈pathOf w/\secOk o.sec=true/\ix ks o.node=makKey o.sec/\makKey o.sec≠[])
 (hall:∀n∈pathOf w,ix ks n=[]\/∃o∈own,o.node=n) (hl:ix ks (treLeaf w)≠[]) (he:0<=e/\e<=12) (hi:secOk i=true) (htl:t.length<=300):memOk ⟨true,w,ks,own,e,i,t⟩=true:=by
 unfold memOk;simp only[yk,qr,jg,jb];refine⟨hw,ht,?_,?_,he,hi,htl⟩
 ·unfold fitsAll;rw[kj];intro k hk;have hk:=v5.1 hk;simp only at hk;have ek:ix own (k:Int)=own[k]:=aK own k hk;obtain⟨h1,h2,h3,h4⟩:=hin own[k] (jt hk);unfold oK;simp only[jg,jb];rw[ek];refine⟨h1,h2,by rw[h3];exact h4,h3,?_⟩
  unfold dJ;have:(own.take k).find? (fun o=>o.node==(own[k]).node)=none:=by
   rw[Jh];intro o ho;obtain⟨j,hj,e⟩:=List.mem_take_iff_getElem.1 ho;have hj1:j<k:=by omega
   have hj2:j<own.length:=by omega
   intro hb;have hb:o.node=(own[k]).node:=by simpa using hb
   rw[<-e]at hb;have hp:=ww.1 hnd j k (by simpa using hj2) (by simpa using hk) hj1
   simp only[yw]at hp;exact hp hb
  rw[this]
 ·unfold yU;simp only[jg,kj,ya,jb];refine⟨fun n hn=>?_,hl⟩
  rcases hall n hn with h|⟨o,ho,e⟩
  ·exact .inl h
  ·right;unfold dJ;cases hf:own.find? (fun o=>o.node==n)with
   |none=>
    have:=Jh.1 hf o ho;simp[e]at this
   |some q=>exact mT (hin q (ye hf)).2.1
structure MemEl(m:Member):Prop where
 who:aH m.who
 tre:treOk m.keys=true
 nd:(m.own.map (·.node)).Nodup
 own:∀o∈m.own,o.node∈pathOf m.who/\secOk o.sec=true/\ix m.keys o.node=makKey o.sec/\makKey o.sec≠[]
 all:∀n∈pathOf m.who,ix m.keys n=[]\/∃o∈m.own,o.node=n
 leaf:ix m.keys (treLeaf m.who)≠[]
 ep:0<=m.epoch/\m.epoch<=12
 init:secOk m.init=true
 tag:m.tag.length<=300
theorem pU{m:Member}(h:memOk m=true)(hi:m.inn=true):MemEl m:=by
 unfold memOk at h;rw[hi]at h;simp only[yk,qr,jg,jb]at h;obtain⟨h1,h2,h3,h4,h5,h6,h7⟩:=h;have hf:∀(k:Nat) (hk:k<m.own.length),(m.own[k]).node∈pathOf m.who/\secOk (m.own[k]).sec=true/\ix m.keys (m.own[k]).node≠[]/\ix m.keys (m.own[k]).node=makKey (m.own[k]).sec/\dJ (m.own.take k) (m.own[k]).node=[]:=fun k hk=>by
  have:=kj.1 h3 k (v5.2 hk);unfold oK at this;rw[aK m.own k hk]at this;simpa only[jg,jb]using this
 unfold yU at h4;simp only[jg,kj,ya,jb]at h4;refine⟨h1,h2,?_,fun o ho=>?_,fun n hn=>?_,h4.2,h5,h6,h7⟩
 ·show List.Pairwise _ _;rw[ww];intro i j hi hj hij e;simp only[kf]at hi hj;simp only[yw]at e;have h2:=(hf j hj).2.2.2.2;unfold dJ at h2;split at h2
  ·rename_i o ho;obtain⟨k,hk,hok⟩:=qh.1 (List.mem_of_mem_take (ye ho));have h3:=(hf k hk).2.1;rw[hok]at h3;exact mT h3 h2
  ·rename_i ho;have:=Jh.1 ho (m.own[i]) (List.mem_take_iff_getElem.2 ⟨i,by omega,rfl⟩)
   simp[e]at this
 ·obtain⟨k,hk,rfl⟩:=qh.1 ho;obtain⟨a,b,c,d,_⟩:=hf k hk;exact⟨a,b,d,by rw[<-d];exact c⟩
 ·rcases h4.1 n hn with h|h
  ·exact .inl h
  ·right;unfold dJ at h;split at h
   ·rename_i o ho;exact⟨o,ye ho,by simpa using List.find?_some ho⟩
   ·exact absurd rfl h
theorem jH{m:Member}{fresh:S}{add remove:Int}{leaf key:S}(h:cH m fresh add remove leaf key=true):memOk m=true/\m.inn=true/\(aN fresh).op=1/\m.epoch<12/\bQ add m.who/\bQ remove m.who/\changes m.keys add remove=true/\twoKeys add leaf key=true/\m.tag.length+fresh.length<=300/\m.init.length<=280:=by
 unfold cH may at h;simp only[jg,jb]at h;obtain⟨h1,h2,⟨h3,⟨h4,h5,h6⟩,h7,h8⟩,h9,h10⟩:=h;exact⟨h1,h3,h2,h4,h5,h6,h7,h8,h9,h10⟩
theorem agM{own:List Own}(h:own≠[]):ix own ((own.length:Int)-1)∈own:=by
 have hp:=wu.2 h;have e:((own.length:Int)-1)=((own.length-1:Nat):Int):=by omega
 rw[e,aK own (own.length-1) (by omega)]
 exact jt _
theorem wB{m:Member}{fresh:S}{add remove:Int}{leaf key:S}(h:cH m fresh add remove leaf key=true):memOk (dG m fresh add remove leaf key)=true/\(∀o∈pathGo (pathOf m.who) fresh,secOk o.sec=true/\o.sec.length<=8)/\treOk (baseT m.keys add remove leaf)=true/\secOk (dG m fresh add remove leaf key).init=true:=by
 obtain⟨h1,h2,h3,h4,h5,h6,h7,h8,h9,h10⟩:=jH h;have z:=pU h1 h2;obtain⟨f1,f2⟩:=RD h3;obtain⟨p1,p2,p3,p4,_⟩:=kA z.who;have hb:treOk (baseT m.keys add remove leaf)=true:=XA z.tre fun h0=>by
  unfold twoKeys at h8;rw[jc (by omega)]at h8
  simp only[jg]at h8;exact h8.1
 have hps:=fun o ho=>wA (p:=pathOf m.who) f2 (by omega) o ho
 have hne:pathGo (pathOf m.who) fresh≠[]:=fun e=>by
  have:=wo List.length e;rw[show(pathGo (pathOf m.who) fresh).length=((pathGo (pathOf m.who) fresh).map (·.node)).length by simp,cT,p4]at this
  simp at this
 have hlast:=agM hne;have hi:secOk (bO m.init (makNext (ix (pathGo (pathOf m.who) fresh) (((pathGo (pathOf m.who) fresh).length:Int)-1)).sec))=true:=by
  obtain⟨l1,l2,_⟩:=hps _ hlast;obtain⟨n1,n2⟩:=Z9 l1 (by omega)
  rw[yZ];apply jd;unfold bO;rw[je ⟨⟨z.init,n1⟩,by omega⟩]
  simp
 have hin:=LH (pathOf m.who) fresh (baseT m.keys add remove leaf) p1 (fun x hx=>⟨(p2 x hx).1,by rw[(treOk_iff.1 hb).1];have:=(p2 x hx).2;omega⟩)
 have hnode:∀n∈pathOf m.who,∃o∈pathGo (pathOf m.who) fresh,o.node=n:=fun n hn=>by
  rw[<-cT (pathOf m.who) fresh]at hn;obtain⟨o,ho,e⟩:=qf.1 hn;exact⟨o,ho,e⟩
 refine⟨?_,fun o ho=>⟨(hps o ho).1,by have:=(hps o ho).2.1;omega⟩,hb,hi⟩
 unfold dG;refine UH z.who (LI hb f2 (by omega)) ?_ (fun o ho=>?_) (fun n hn=>.inr (hnode n hn)) ?_ ⟨by have:=z.ep.1;omega,by omega⟩ hi (by rw[jl];omega)
 ·show((pathGo (pathOf m.who) fresh).map (·.node)).Nodup;rw[cT];exact p1
 ·have ho:o∈pathGo (pathOf m.who) fresh:=ho;have hk:=hps o ho;refine⟨?_,hk.1,hin o ho,hk.2.2.2⟩;have:o.node∈(pathGo (pathOf m.who) fresh).map (·.node):=qf.2 ⟨o,ho,rfl⟩
  rwa [cT]at this
 ·obtain⟨o,ho,e⟩:=hnode _ p3;have:=hin o ho;rw[e]at this;show ix (mR (pathOf m.who) fresh (baseT m.keys add remove leaf)) (treLeaf m.who)≠[];rw[this];exact(hps o ho).2.2.2
theorem sJ(ks:List S):∀f n:Nat,(7<=n->(coverN f ks n).length<=1)/\(3<=n->(coverN f ks n).length<=2)/\(1<=n->(coverN f ks n).length<=4)
 |0,n=>by simp[coverN]
 |f+1,n=>by
  have e:coverN (f+1) ks n=if ix ks (n:Int)≠[]then[(n:Int)]else if 7<=n then[]else coverN f ks (2*n+1)++coverN f ks (2*n+2):=rfl
  have a:=sJ ks f (2*n+1);have b:=sJ ks f (2*n+2);rw[e];split
  ·simp
  ·split
   ·simp
   ·rw[jl];refine⟨fun h=>by omega,fun h=>?_,fun h=>?_⟩
    ·have:=a.1 (by omega);have:=b.1 (by omega);omega
    ·have:=a.2.1 (by omega);have:=b.2.1 (by omega);omega
theorem C4(ks:List S):∀f n:Nat,∀x∈coverN f ks n,ix ks x≠[]/\0<=x
 |0,n,x,h=>by simp[coverN]at h
 |f+1,n,x,h=>by
  have e:coverN (f+1) ks n=if ix ks (n:Int)≠[]then[(n:Int)]else if 7<=n then[]else coverN f ks (2*n+1)++coverN f ks (2*n+2):=rfl
  rw[e]at h;split at h
  ·rename_i h1;rw[qc.1 h];exact⟨h1,by omega⟩
  ·split at h
   ·cases h
   ·rcases jv.1 h with h|h
    ·exact C4 ks f _ x h
    ·exact C4 ks f _ x h
end Kw
namespace Kw
theorem ix_ne_mem{l:List S}{x:Int}(h:ix l x≠[]):ix l x∈l:=by
 unfold ix at h⊢;rw[jr]at h⊢;cases e:l[x.toNat]? with
 |none=>rw[e]at h;exact absurd rfl h
 |some s=>exact qi e
theorem akN{ks:List S}(h:treOk ks=true){x:Int}(hx:ix ks x≠[]):isKey (ix ks x)=true:=by
 rcases(treOk_iff.1 h).2 _ (ix_ne_mem hx)with e|e
 ·exact absurd e hx
 ·exact e
theorem UI{ks:List S}{add:Int}{sec:S}{cov:List Int}{b:Box}(h:b∈bL ks add sec cov):∃x∈cov,b=⟨ix ks x,sec⟩:=by
 unfold bL at h;obtain⟨x,hx,e⟩:=qf.1 h;exact⟨x,(wv.1 hx).1,e.symm⟩
theorem y3{ks:List S}{add:Int}:∀{own:List Own} {b:Box},b∈boxesGo ks add own->(∃x,b.key=ix ks x/\ix ks x≠[])/\∃o∈own,b.sec=o.sec
 |[],b,h=>by cases h
 |[_],b,h=>by cases h
 |a::c::r,b,h=>by
  have e:boxesGo ks add (a::c::r)=bL ks add c.sec (lW ks (bH a.node))++boxesGo ks add (c::r):=rfl;rw[e]at h;rcases jv.1 h with h|h
  ·obtain⟨x,hx,rfl⟩:=UI h;exact⟨⟨x,rfl,(C4 ks 5 _ x hx).1⟩,c,by simp,rfl⟩
  ·obtain⟨h1,o,ho,h2⟩:=y3 h;exact⟨h1,o,by simp[ho],h2⟩
theorem C5(ks:List S)(add:Int)(sec:S)(cov:List Int):(bL ks add sec cov).length<=cov.length:=by
 unfold bL;rw[kf];exact wq _ _
theorem XB{a:Int}(ha:aH a):∃p0 p1 p2 p3,pathOf a=[p0,p1,p2,p3]/\7<=(bH p0).toNat/\3<=(bH p1).toNat/\1<=(bH p2).toNat:=by
 obtain⟨i,rfl⟩:=W9 ha;have hall:∀i:Fin 8,7<=(bH ((pathOf (i.val:Int)).getD 0 0)).toNat/\3<=(bH ((pathOf (i.val:Int)).getD 1 0)).toNat/\1<=(bH ((pathOf (i.val:Int)).getD 2 0)).toNat/\(pathOf (i.val:Int)).length=4:=by decide+kernel
 obtain⟨h0,h1,h2,h4⟩:=hall i;generalize pathOf (i.val:Int)=p at h0 h1 h2 h4
 match p,h4 with
 |[a,b,c,d],_=>exact⟨a,b,c,d,rfl,h0,h1,h2⟩
theorem UJ{a:Int}(ha:aH a)(ks:List S)(add:Int)(s:S):(boxesGo ks add (pathGo (pathOf a) s)).length<=7:=by
 obtain⟨p0,p1,p2,p3,e,h0,h1,h2⟩:=XB ha;rw[e];show(bL ks add _ (coverN 5 ks (bH p0).toNat)++(bL ks add _ (coverN 5 ks (bH p1).toNat)++(bL ks add _ (coverN 5 ks (bH p2).toNat)++[]))).length<=7;simp only[jl,jk];have a1:=C5 ks add (makNext s) (coverN 5 ks (bH p0).toNat);have a2:=C5 ks add (makNext (makNext s)) (coverN 5 ks (bH p1).toNat);have a3:=C5 ks add (makNext (makNext (makNext s))) (coverN 5 ks (bH p2).toNat);have b1:=(sJ ks 5 (bH p0).toNat).1 h0;have b2:=(sJ ks 5 (bH p1).toNat).2.1 h1;have b3:=(sJ ks 5 (bH p2).toNat).2.2 h2;omega
theorem XC{m:Member}{fresh:S}{add remove:Int}{leaf key:S}(h:cH m fresh add remove leaf key=true):cP (eY m fresh add remove leaf key)=true:=by
 obtain⟨h1,h2,h3,h4,h5,h6,h7,h8,h9,h10⟩:=jH h;obtain⟨c1,c2,c3,c4⟩:=wB h;have z:=pU h1 h2;obtain⟨f1,f2⟩:=RD h3;obtain⟨p1,p2,p3,p4,_⟩:=kA z.who;have ht:treOk (B5 (baseT m.keys add remove leaf) m.who fresh)=true:=LI c3 f2 (by omega)
 have hbx:iQ (boxesGo (baseT m.keys add remove leaf) add (pathGo (pathOf m.who) fresh))=true:=by
  unfold iQ;simp only[jg,jb,kj];refine⟨by have:=UJ z.who (baseT m.keys add remove leaf) add fresh;omega,fun b hb=>?_⟩
  obtain⟨⟨x,e1,hx⟩,o,ho,e2⟩:=y3 hb;rw[e1,e2];exact⟨nJ (akN c3 hx),(c2 o ho).1⟩
 have hbl:=UJ z.who (baseT m.keys add remove leaf) add fresh;unfold cP eY;simp only[jg,jb];refine⟨⟨z.who,h3,h9,h5,h6⟩,ht,hbx,by show(boxesGo _ add (pathGo (pathOf m.who) fresh)).length<=20;omega,?_⟩
 unfold twoKeys at h8;by_cases h0:0<=add
 ·rw[jc (by omega)]at h8⊢
  simp only[jg,jb,je h0]at h8⊢;refine⟨h8.1,h8.2.1,⟨h8.2.2,trivial,trivial⟩,c4,?_⟩;have hm:=(tZ z.who ⟨h0,h5.2.1⟩).1 _ (qk ..);have hm2:=(I5 z.who ⟨h0,h5.2.1⟩).2;rw[<-hm2];have hne:=(LA (pathOf m.who) fresh f2 (by omega) (treMeet (treLeaf m.who) (treLeaf add)))
  show secOk (dJ (pathGo (pathOf m.who) fresh) (treMeet (treLeaf m.who) (treLeaf add)))=true;unfold dJ at hne⊢;split
  ·rename_i o ho;exact(c2 o (ye ho)).1
  ·rename_i ho;rw[ho]at hne;exact absurd hm (hne.1 rfl)
 ·rw[je (by omega)]at h8⊢
  obtain⟨e1,_⟩:=qu h8;simp only[jc h0];exact jd ⟨e1,trivial,trivial,trivial,trivial,trivial⟩
theorem pV{m m':Member}{c:Commit}{fresh:S}{add remove:Int}{leaf key:S}(h:iA m fresh add remove leaf key=some (m',c)):cH m fresh add remove leaf key=true/\m'=dG m fresh add remove leaf key/\c=eY m fresh add remove leaf key:=by
 unfold iA at h;split at h
 ·rename_i h1;cases h;exact⟨h1,rfl,rfl⟩
 ·cases h
theorem EK{m:Member}{c:Commit}(h:(dH m c).2=true):memOk (dH m c).1=true/\((dH m c).1.inn=true->m.inn=true/\(dH m c).1.who=m.who):=by
 rw[<-HU]at h⊢;unfold EI at h⊢;by_cases h1:memOk m=true
 case neg=>rw[jc h1]at h;cases h
 by_cases h2:cP c=true
 case neg=>rw[je h1,jc h2]at h;cases h
 by_cases h3:yY m c=true
 case neg=>rw[je h1,je h2,jc h3]at h;cases h
 rw[je h1,je h2,je h3]at h⊢;by_cases h4:c.remove=m.who
 case pos=>
  rw[je h4];exact⟨by decide+kernel,fun x=>by cases x⟩
 rw[jc h4]at h⊢;by_cases h5:wW m.own c.boxes 0<0
 case pos=>rw[je h5]at h;cases h
 rw[jc h5]at h⊢;simp only at h⊢;generalize(ix c.boxes (wW m.own c.boxes 0)).sec=s at h⊢;by_cases h6:(secOk s&&decide (s.length<=292))=true
 case neg=>rw[jc h6]at h;cases h
 rw[je h6]at h⊢;by_cases h7:eZ c.keys (pathGo (treMeet (treLeaf m.who) (treLeaf c.sender)::bI (treMeet (treLeaf m.who) (treLeaf c.sender))) s)=true
 case neg=>rw[jc h7]at h;cases h
 rw[je h7]at h⊢;by_cases h8:(HT m c s).init=[]
 case pos=>rw[je h8]at h;cases h
 rw[jc h8];have ht:=h3;rw[UB h1 h2]at ht;unfold oB EE at ht;simp only[jg,jb]at ht;obtain⟨hi,⟨ht1,ht2,ht3⟩,hle,hch,hft⟩:=ht;have z:=pU h1 hi;obtain⟨hs,hck,_,hca,hcr,htl⟩:=sI h2;have hct:treOk c.keys=true:=by
  unfold cP at h2;simp only[jg]at h2;exact h2.2.1
 simp only[jg,jb]at h6;obtain⟨hs1,hs2⟩:=h6;obtain⟨o1,o2,o3,o4,o5⟩:=tZ z.who hs;change eZ c.keys (pathGo (lO m.who c.sender) s)=true at h7;have hps:=fun o ho=>wA (p:=lO m.who c.sender) hs1 (by omega) o ho
 have hfr:∀o∈pathGo (lO m.who c.sender) s,ix c.keys o.node=makKey o.sec:=fun o ho=>by
  unfold eZ at h7;exact qu (kj.1 h7 o ho)
 obtain⟨q1,q2,q3,q4,_⟩:=kA z.who;have qs:=kA hs;have hnode:∀o∈pathGo (lO m.who c.sender) s,o.node∈lO m.who c.sender:=fun o ho=>by
  have:o.node∈(pathGo (lO m.who c.sender) s).map (·.node):=qf.2 ⟨o,ho,rfl⟩
  rwa [cT]at this
 have hkeep:∀n∈pathOf m.who,n∉lO m.who c.sender->ix c.keys n=[]\/ix c.keys n=ix m.keys n:=fun n hn hno=>by
  obtain⟨n0,n1⟩:=q2 n hn;have hns:n∉pathOf c.sender:=fun x=>hno (o2 n hn x)
  have e1:ix c.keys n=ix (lJ c.keys (pathOf c.sender) (baseT m.keys c.add c.remove c.leaf)) n:=wo (fun l=>ix l n) hft
  obtain⟨j,rfl⟩:=kv n0;have e2:=pR c.keys (pathOf c.sender) (baseT m.keys c.add c.remove c.leaf) j (fun x hx=>(qs.2.1 x hx).1) (by rw[tY,(treOk_iff.1 z.tre).1];omega)
  rw[jc hns,<-tX,<-tX]at e2;rw[e1,e2];have hadd:0<=c.add->((j:Nat):Int)≠treLeaf c.add:=fun h0 e=>by
   have hwa:aH c.add:=⟨h0,hca.2.1⟩;have:=(tZ hwa z.who).2.2.2.1 (by rw[<-e];exact hn)
   unfold changes at hch;simp only[jg,ya,jb]at hch;rcases hch.2 with h|h|h
   ·omega
   ·have hl:=z.leaf;unfold hasLeaf at h;rw[this]at h;rw[jd hl]at h;cases h
   ·exact h4 (by rw[<-h,this])
  rw[aa0 ⟨hca.1,hca.2.1⟩ ⟨hcr.1,hcr.2.1⟩ n0 hadd];split
  ·exact .inl rfl
  ·exact .inr rfl
 have hleaf:ix c.keys (treLeaf m.who)=ix m.keys (treLeaf m.who)\/treLeaf m.who∈lO m.who c.sender:=by
  by_cases hno:treLeaf m.who∈lO m.who c.sender
  ·exact .inr hno
  ·left;have hns:treLeaf m.who∉pathOf c.sender:=fun x=>hno (o2 _ q3 x)
   obtain⟨n0,n1⟩:=q2 _ q3;have e1:ix c.keys (treLeaf m.who)=ix (lJ c.keys (pathOf c.sender) (baseT m.keys c.add c.remove c.leaf)) (treLeaf m.who):=wo (fun l=>ix l (treLeaf m.who)) hft
   obtain⟨j,hj⟩:=kv n0;rw[hj]at e1 hns n1⊢;have e2:=pR c.keys (pathOf c.sender) (baseT m.keys c.add c.remove c.leaf) j (fun x hx=>(qs.2.1 x hx).1) (by rw[tY,(treOk_iff.1 z.tre).1];omega)
   rw[jc hns,<-tX,<-tX]at e2;rw[e1,e2];have hna:∀x,0<=x->x<=7->x≠m.who->((j:Nat):Int)∉pathOf x:=fun x x0 x7 xne hx=>by
    rw[<-hj]at hx;exact xne ((tZ z.who ⟨x0,x7⟩).2.2.2.1 hx).symm
   have hadd:0<=c.add->c.add≠m.who:=fun h0 e=>by
    unfold changes at hch;simp only[jg,ya,jb]at hch;rcases hch.2 with h|h|h
    ·omega
    ·have hl:=z.leaf;unfold hasLeaf at h;rw[e]at h;rw[jd hl]at h;cases h
    ·exact h4 (by rw[<-h,e])
   rw[aa0 ⟨hca.1,hca.2.1⟩ ⟨hcr.1,hcr.2.1⟩ (by omega) (fun h0 e=>hna _ h0 hca.2.1 (hadd h0) (by rw[e];exact(kA ⟨h0,hca.2.1⟩).2.2.1))]
   rw[jc];rintro(⟨x0,x1⟩|⟨x0,x1⟩)
   ·exact hna _ x0 hcr.2.1 h4 x1
   ·exact hna _ x0 hca.2.1 (hadd x0) x1
 have hinit:secOk (HT m c s).init=true:=by
  have:secOk (bO m.init (makNext (ix (pathGo (lO m.who c.sender) s) (((pathGo (lO m.who c.sender) s).length:Int)-1)).sec))=decide (bO m.init (makNext (ix (pathGo (lO m.who c.sender) s) (((pathGo (lO m.who c.sender) s).length:Int)-1)).sec)≠[]):=yZ _ _;exact this.trans (jd h8)
 refine⟨?_,fun _=>⟨hi,rfl⟩⟩
 unfold HT at hinit⊢;simp only at hinit⊢;change memOk ⟨true,m.who,c.keys,oS c.keys m.keys (lO m.who c.sender) m.own++pathGo (lO m.who c.sender) s,_,_,_⟩=true;have hkm:∀o∈oS c.keys m.keys (lO m.who c.sender) m.own,o∈m.own/\o.node∉lO m.who c.sender/\ix c.keys o.node=ix m.keys o.node:=fun o ho=>by
  unfold oS at ho;have:=wv.1 ho;simp only[jg,yu,jh,jb]at this;exact this
 refine UH z.who hct ?_ (fun o ho=>?_) (fun n hn=>?_) ?_ ⟨by have:=z.ep.1;omega,by omega⟩ hinit (by rw[jl,<-ht1];omega)
 ·rw[List.map_append,cT,qt];refine⟨?_,o3,?_⟩
  ·unfold oS;exact List.Pairwise.sublist (List.Sublist.map _ List.filter_sublist) z.nd
  ·intro a ha b hb e;obtain⟨o,ho,rfl⟩:=qf.1 ha;subst e;exact(hkm o ho).2.1 hb
 ·rcases jv.1 ho with ho|ho
  ·obtain⟨a,b,d⟩:=hkm o ho;obtain⟨e1,e2,e3,e4⟩:=z.own o a;exact⟨e1,e2,d.trans e3,e4⟩
  ·exact⟨o1 _ (hnode o ho),(hps o ho).1,hfr o ho,(hps o ho).2.2.2⟩
 ·by_cases hno:n∈lO m.who c.sender
  ·right;rw[<-cT (lO m.who c.sender) s]at hno;obtain⟨o,ho,e⟩:=qf.1 hno;exact⟨o,jn _ ho,e⟩
  ·by_cases hz:ix c.keys n=[]
   ·exact .inl hz
   ·right;have hk:=(hkeep n hn hno).resolve_left hz;rcases z.all n hn with h|⟨o,ho,e⟩
    ·exact absurd (hk.trans h) hz
    ·refine⟨o,jw _ ?_,e⟩;unfold oS;rw[wv];refine⟨ho,?_⟩;simp only[jg,yu,jh,jb];rw[e];exact⟨hno,hk⟩
 ·rcases hleaf with h|h
  ·rw[h];exact z.leaf
  ·rw[<-cT (lO m.who c.sender) s]at h;obtain⟨o,ho,e⟩:=qf.1 h;rw[<-e,hfr o ho];exact(hps o ho).2.2.2
end Kw
namespace Kw
theorem BF{w n:Int}(hw:aH w)(h1:1<=n)(h2:n<=99):secOk (aO w n)=true/\(aN (aO w n)).op=1:=by
 obtain⟨w0,w1⟩:=id hw;have e:sec (aO w n)=some (.new w.toNat n.toNat):=iX.2 ⟨⟨by omega,by omega,by omega⟩,by
  unfold aO;rw[je ⟨hw,h1,h2⟩]
  rfl,by
  unfold aO;rw[je ⟨hw,h1,h2⟩];have:=UG (n:=n.toNat) (by omega)
  simp only[jl,jf,jk,C0];omega⟩
 constructor
 ·unfold secOk;rw[e];rfl
 ·unfold aN;rw[e];rfl
theorem PK(x:Int)(r:List Int)(n:Int):jB (x::r) n=if n<x then x::jB r n else n::x::r:=by
 unfold jB;rw[List.takeWhile_cons,List.dropWhile_cons];by_cases h:n<x
 ·rw[je h,jd h];rfl
 ·rw[jc h,ji h];rfl
theorem mem_insL(l:List Int)(n x:Int):x∈jB l n↔x=n\/x∈l:=by
 induction l with
 |nil=>simp[jB]
 |cons a r ih=>
  rw[PK];split
  ·rw[ko,ih,ko];constructor
   ·rintro(h|h|h)
    ·exact .inr (.inl h)
    ·exact .inl h
    ·exact .inr (.inr h)
   ·rintro(h|h|h)
    ·exact .inr (.inl h)
    ·exact .inl h
    ·exact .inr (.inr h)
  ·rw[ko]
theorem ac1(l:List Int)(n:Int)(h:l.Pairwise (·> ·))(hn:n∉l):(jB l n).Pairwise (·> ·):=by
 induction l with
 |nil=>simp[jB]
 |cons a r ih=>
  rw[Jr]at h;rw[PK];have hne:n≠a:=fun e=>hn (by simp[e])
  split
  ·rename_i hlt;rw[Jr];refine⟨fun x hx=>?_,ih h.2 (fun y=>hn (by simp[y]))⟩
   rcases(mem_insL r n x).1 hx with rfl|hx
   ·exact hlt
   ·exact h.1 x hx
  ·rename_i hge;rw[Jr,Jr];refine⟨fun x hx=>?_,h⟩
   rcases ko.1 hx with rfl|hx
   ·show x<n;omega
   ·have:=h.1 x hx;show x<n;have:x<a:=this;omega
theorem agN{l:List Int}{M:Int}(h:l.Pairwise (·> ·))(hm:M∈l)(hle:∀x∈l,x<=M):ix l 0=M:=by
 cases l with
 |nil=>cases hm
 |cons a r=>
  show a=M;rw[Jr]at h;rcases ko.1 hm with e|hm
  ·exact e.symm
  ·have h1:M<a:=h.1 M hm;have h2:=hle a (by simp)
   omega
theorem GP{w:Win}:winOk w=true↔(aN w.key).op=5/\(1<=w.top/\w.top<=999)/\w.seen≠[]/\ix w.seen 0=w.top/\w.seen.Pairwise (·> ·)/\∀x∈w.seen,w.top-8<x/\1<=x:=by
 unfold winOk;simp only[jg,jb,kj,v5];constructor
 ·rintro⟨⟨h1,h2,h3,h4,h5⟩,h6⟩;have hstep:∀k:Nat,k+1<w.seen.length->ix w.seen ((k+1:Nat):Int)<ix w.seen (k:Int):=fun k hk=>by
   rcases h6 (k+1) hk with h|h
   ·omega
   ·rw[show k+1-1=k by omega]at h
    exact h.1
  have hlt:∀d i:Nat,i+d+1<w.seen.length->ix w.seen ((i+d+1:Nat):Int)<ix w.seen (i:Int):=fun d=>by
   induction d with
   |zero=>intro i hi;exact hstep i hi
   |succ d ih=>
    intro i hi;have a:=ih i (by omega)
    have b:=hstep (i+d+1) (by omega)
    rw[show i+(d+1)+1=i+d+1+1 by omega]
    omega
  refine⟨h1,⟨h2,h3⟩,h4,h5,?_,fun x hx=>?_⟩
  ·rw[ww];intro i j hi hj hij;have:=hlt (j-i-1) i (by omega)
   rw[show i+(j-i-1)+1=j by omega,aK _ i hi,aK _ j hj]at this
   exact this
  ·obtain⟨k,hk,rfl⟩:=qh.1 hx;rcases h6 k hk with h|h
   ·subst h;have e:w.seen[0]=w.top:=by rw[<-h5];exact(aK _ 0 hk).symm
    rw[e];omega
   ·rw[aK _ k hk]at h;exact h.2
 ·rintro⟨h1,⟨h2,h3⟩,h4,h5,h6,h7⟩;refine⟨⟨h1,h2,h3,h4,h5⟩,fun k hk=>?_⟩
  by_cases h0:k=0
  ·exact .inl h0
  ·right;rw[ww]at h6;have:=h6 (k-1) k (by omega) hk (by omega)
   rw[aK _ k hk,aK _ (k-1) (by omega)]
   exact⟨this,h7 _ (jt hk)⟩
theorem XD{w w':Win}{n:Int}(hw:winOk w=true)(h1:1<=n)(h2:n<=999)(h:winTake w n=some w'):winOk w'=true/\w'.key=w.key:=by
 rw[HW]at h;split at h
 ·cases h
 ·rename_i hb;cases h;obtain⟨k1,⟨k2,k3⟩,k4,k5,k6,k7⟩:=GP.1 hw;have hn:n∉w.seen:=fun x=>hb (.inl x)
  have ht:w.top∈w.seen:=by
   rw[<-k5];cases hs:w.seen with
   |nil=>exact absurd hs k4
   |cons a r=>exact qk ..
  have hd:=ac1 w.seen n k6 hn;have hle:∀x∈w.seen,x<=w.top:=fun x hx=>by
   cases hs:w.seen with
   |nil=>exact absurd hs k4
   |cons a r=>
    rw[hs]at k5 k6 hx;have e:a=w.top:=k5;rw[Jr]at k6;rcases ko.1 hx with rfl|hx
    ·omega
    ·have:x<a:=k6.1 x hx;omega
  have hmem:∀x,x∈(jB w.seen n).filter (fun x=>!decide (x<=max w.top n-8))↔(x=n\/x∈w.seen)/\max w.top n-8<x:=fun x=>by
   rw[wv,mem_insL];simp only[yu,jh];constructor
   ·rintro⟨a,b⟩;exact⟨a,by omega⟩
   ·rintro⟨a,b⟩;exact⟨a,by omega⟩
  have hmax:max w.top n∈(jB w.seen n).filter (fun x=>!decide (x<=max w.top n-8)):=by
   rw[hmem];refine⟨?_,by omega⟩
   rcases Int.le_total w.top n with h|h
   ·left;omega
   ·right;rw[Int.max_eq_left h];exact ht
  refine⟨GP.2 ⟨k1,⟨by show 1<=max w.top n;omega,by show max w.top n<=999;omega⟩,List.ne_nil_of_mem hmax,?_,hd.filter _,fun x hx=>?_⟩,rfl⟩
  ·show ix ((jB w.seen n).filter (fun x=>!decide (x<=max w.top n-8))) 0=max w.top n
   refine agN (hd.filter _) hmax fun x hx=>?_
   ·rcases((hmem x).1 hx).1 with rfl|h
    ·omega
    ·have:=hle x h;omega
  ·obtain⟨a,b⟩:=(hmem x).1 hx;refine⟨b,?_⟩;rcases a with rfl|a
   ·exact h1
   ·exact(k7 x a).2
theorem winAt_cases:∀(l:List Win) (key:S) (k:Nat),(∃j:Nat,∃h:j<l.length,winAt l key k=((k+j:Nat):Int)/\l[j].key=key)\/(winAt l key k= -1/\∀x∈l,x.key≠key)
 |[],_,_=>.inr ⟨rfl,by simp⟩
 |a::r,key,k=>by
  have e:winAt (a::r) key k=if a.key=key then(k:Int)else winAt r key (k+1):=rfl
  rw[e];by_cases h:a.key=key
  ·rw[je h];exact .inl ⟨0,by simp,by simp,h⟩
  ·rw[jc h];rcases winAt_cases r key (k+1)with⟨j,hj,h1,h2⟩|⟨h1,h2⟩
   ·exact .inl ⟨j+1,by simpa using hj,by rw[h1];congr 1;omega,h2⟩
   ·refine .inr ⟨h1,fun x hx=>?_⟩
    rcases ko.1 hx with rfl|hx
    ·exact h
    ·exact h2 x hx
theorem HX:∀(l:List Win) (k:Nat),(l.map (·.key)).Nodup->∀(j:Nat) (hj:j<l.length),winAt l l[j].key k=((k+j:Nat):Int)
 |[],_,_,j,hj=>by simp at hj
 |a::r,k,h,j,hj=>by
  rw[yh,wz]at h;have e:∀key,winAt (a::r) key k=if a.key=key then(k:Int)else winAt r key (k+1):=fun _=>rfl
  rw[e];cases j with
  |zero=>rw[je (by rfl)];rfl
  |succ j=>
   have hj':j<r.length:=by simpa using hj
   have hne:a.key≠r[j].key:=fun e=>h.1 (qf.2 ⟨r[j],jt hj',e.symm⟩)
   have e2:(a::r)[j+1]=r[j]:=rfl;rw[e2,jc hne,HX r (k+1) h.2 j hj']
   congr 1;omega
theorem HY:∀(l:List Win) (key:S) (k j:Nat),winAt l key k=((k+j:Nat):Int)->∀(i:Nat) (_:i<j) (hl:i<l.length),l[i].key≠key
 |[],_,_,_,_,_,_,hl=>by simp at hl
 |a::r,key,k,j,h,i,hi,hl=>by
  have e:winAt (a::r) key k=if a.key=key then(k:Int)else winAt r key (k+1):=rfl
  rw[e]at h;split at h
  ·omega
  ·rename_i hne;cases i with
   |zero=>exact hne
   |succ i=>exact HY r key (k+1) (j-1) (by rw[h];congr 1;omega) i (by omega) (by simpa using hl)
theorem C6{l:List Win}:pS l=true↔(∀x∈l,winOk x=true)/\(l.map (·.key)).Nodup:=by
 constructor
 ·intro h;refine⟨fun x hx=>pT h hx,?_⟩
  unfold pS at h;simp only[kj,v5,jg,jb]at h;show List.Pairwise _ _;rw[ww];intro i j hi hj hij e;simp only[kf]at hi hj;simp only[yw]at e;have h1:=(h j hj).2;rw[aK l j hj]at h1;exact HY l l[j].key 0 j (by rw[h1];congr 1;omega) i hij hi e
 ·rintro⟨h1,h2⟩;unfold pS;simp only[kj,v5,jg,jb];intro k hk;rw[aK l k hk];exact⟨h1 _ (jt hk),by rw[HX l 0 h2 k hk];congr 1;omega⟩
theorem XE{m:Member}{wins x:List Win}{f:Frame}(hw:pS wins=true)(h:oL m wins f=some x):pS x=true/\x.length<=wins.length+1:=by
 unfold oL at h;split at h
 case isFalse=>cases h
 rename_i hh;have hf:fraOk f=true:=by
  unfold yV at hh;simp only[jg]at hh;exact hh.2.1
 obtain⟨_,_,hsrc,f1,f2⟩:=oD hf;obtain⟨w1,w2⟩:=C6.1 hw;have hop:(aN f.key).op=5:=by
  unfold fraOk at hf;simp only[jg,jb]at hf;exact hf.1.2.1
 simp only at h;rcases winAt_cases wins f.key 0 with⟨j,hj,e,hk⟩|⟨e,hk⟩
 ·rw[e,jc (by omega)]at h
  have ei:ix wins ((0+j:Nat):Int)=wins[j]:=by rw[qx,aK wins j hj]
  rw[ei]at h;split at h
  case h_2=>cases h
  rename_i y hy;cases h;obtain⟨y1,y2⟩:=XD (w1 _ (jt hj)) f1 f2 hy;refine⟨C6.2 ⟨fun z hz=>?_,?_⟩,by rw[ku];omega⟩
  ·rcases qy hz with hz|hz
   ·exact w1 z hz
   ·rw[hz];exact y1
  ·rw[List.map_set,y2,show((0+j:Nat):Int).toNat=j by omega]
   have:(wins.map (·.key)).set j wins[j].key=wins.map (·.key):=by
    have:=List.set_getElem_self (show j< (wins.map (·.key)).length by simpa using hj)
    simpa using this
   rw[this];exact w2
 ·rw[e,je (by omega)]at h
  cases h;refine⟨C6.2 ⟨fun z hz=>?_,?_⟩,by simp⟩
  ·rcases jv.1 hz with hz|hz
   ·exact w1 z hz
   ·rw[qc.1 hz];exact GP.2 ⟨hop,⟨f1,f2⟩,by simp,rfl,by simp,fun x hx=>by
     have:=qc.1 hx;subst this;show f.n-8<f.n/\1<=f.n;omega⟩
  ·rw[List.map_append,qt];refine⟨w2,by simp,fun a ha b hb e=>?_⟩
   obtain⟨z,hz,rfl⟩:=qf.1 ha;rw[List.map_singleton,qc]at hb;exact hk z hz (by rw[e,hb])
theorem XF{m:Member}{n:Int}{text:S}{f:Frame}(h:nU m n text=some f):fraOk f=true:=by
 unfold nU at h;split at h
 case isFalse=>cases h
 rename_i hc;cases h;obtain⟨h1,h2,h3,h4,h5,h6⟩:=hc;have hw:=(lC h1 h2).1;obtain⟨s1,s2⟩:=UD hw h6;unfold fraOk;simp only[jg,jb];exact⟨⟨hw,s1,s2,h3,h4⟩,h5⟩
theorem y4{m:Member}(h:memOk m=true):(∀s∈cO m,secOk s=true)/\(cO m).length<=6:=by
 unfold cO;split
 ·rename_i hi;have z:=pU h hi.2;have hl:=(oC h).2.1.1;refine⟨fun s hs=>?_,by simp;omega⟩
  rcases jv.1 hs with hs|hs
  ·obtain⟨o,ho,rfl⟩:=qf.1 hs;exact(z.own o ho).2.1
  ·rw[qc.1 hs];exact z.init
 ·exact⟨by simp,by simp⟩
theorem UK{w:Int}(hw:aH w):memOk (dP w (aO w 1) (aO w 2))=true/\(dP w (aO w 1) (aO w 2)).who=w:=by
 obtain⟨i,rfl⟩:=W9 hw;have hall:∀i:Fin 8,memOk (dP (i.val:Int) (aO (i.val:Int) 1) (aO (i.val:Int) 2))=true/\(dP (i.val:Int) (aO (i.val:Int) 1) (aO (i.val:Int) 2)).who=(i.val:Int):=by decide+kernel
 exact hall i
end Kw
namespace Kw
theorem UL{A:Type} [Inhabited A]{l:List A}{n:Int}(h0:0<=n)(h1:n<l.length):ix l n∈l:=by
 obtain⟨k,rfl⟩:=kv h0;rw[aK l k (by omega)]
 exact jt _
theorem sK{A:Type}(l:List A)(i:Int)(x:A):(cA l i x).length=l.length:=by simp[cA]
theorem mem_set1'{A:Type}{l:List A}{i:Int}{x y:A}(h:y∈cA l i x):y∈l\/y=x:=qy h
theorem UM:memOk bC=true:=by decide+kernel
theorem WG.new{who:Int}(hw:aH who):WG (bN who):=by
 unfold bN;rw[je hw];obtain⟨f1,f2⟩:=UK hw;refine{seats:=by simp,fresh:=by simp,said:=by simp,wins:=by simp,log:=by simp,waits:=by simp,frames:=by simp,stolen:=by simp,spy:=by simp,told:=by simp,mem:=?_,freshI:=?_,saidI:=?_,winsI:=?_,logI:=by simp,waitsI:=by simp,spyI:=by simp,stolenI:=by simp,framesI:=by simp,toldI:=by simp,waitsLog:=by simp,winN:=?_,spyN:=by simp}
 ·intro k hk;rw[aK _ k (by simpa using hk)]
  simp only[yw,List.getElem_range];by_cases h:(k:Int)=who
  ·rw[je h];exact⟨f1,fun _=>by rw[f2,h]⟩
  ·rw[jc h];exact⟨UM,fun x=>by cases x⟩
 ·intro n hn;obtain⟨k,_,rfl⟩:=qf.1 hn;split<;>omega
 ·intro n hn;rw[yy hn];omega
 ·intro l hl;rw[yy hl];rfl
 ·intro l hl;rw[yy hl];simp
theorem agO{l:List Member}{i:Int}{m:Member}(hl:l.length=8)(hi:aH i)(h:∀k:Nat,k<8->memOk (ix l (k:Int))=true/\((ix l (k:Int)).inn=true->(ix l (k:Int)).who=k))(hm:memOk m=true)(hw:m.inn=true->m.who=i):
 ∀k:Nat,k<8->memOk (ix (cA l i m) (k:Int))=true/\((ix (cA l i m) (k:Int)).inn=true->(ix (cA l i m) (k:Int)).who=k):=by
 obtain⟨i0,i1⟩:=hi;intro k hk;unfold cA;by_cases e:(k:Int)=i
 ·subst e;rw[oE _ _ _ i0 (by omega)]
  exact⟨hm,hw⟩
 ·rw[nK _ _ _ _ i0 (by omega) e]
  exact h k hk
theorem WG.seatSet{w:World}(z:WG w){i:Int}{m:Member}(hi:aH i)(hm:memOk m=true)(hw:m.inn=true->m.who=i):WG {w with seats:=cA w.seats i m}:=
 {z with
  seats:=by show(cA _ _ _).length=8;rw[sK];exact z.seats
  mem:=agO z.seats hi z.mem hm hw}
theorem WG.at{w:World}(z:WG w){i:Int}(hi:aH i):memOk (ix w.seats i)=true/\((ix w.seats i).inn=true->(ix w.seats i).who=i):=by
 obtain⟨i0,i1⟩:=hi;obtain⟨k,rfl⟩:=kv i0;exact z.mem k (by omega)
theorem WG.hear{w:World}(z:WG w){who pos:Int}(hw:aH who):WG (dQ w who pos):=by
 unfold dQ;simp only;split
 ·rename_i h;obtain⟨h1,h2⟩:=EK h;exact z.seatSet hw h1 fun hi=>by
   obtain⟨a,b⟩:=h2 hi;rw[b,(z.at hw).2 a]
 ·exact z
theorem RE{w:Int}{leaf key:S}{c:Commit}{m:Member}(h:iR w leaf key c=some m):memOk m=true/\m.who=w/\m.inn=true:=by
 unfold iR at h;split at h
 ·rename_i hc;cases h;exact⟨hc.2.2.2.2.2.2.2.2,rfl,rfl⟩
 ·cases h
theorem WG.join{w:World}(z:WG w){who pos:Int}(hw:aH who):WG (dF w who pos):=by
 unfold dF;split
 ·exact z
 ·have:∀(l:List Wait) (k:Nat),WG (joinGo w who pos l k):=fun l=>by
   induction l with
   |nil=>intro k;exact z
   |cons x r ih=>
    intro k;rw[joinGo];split
    ·split
     ·rename_i m hm;obtain⟨h1,h2,_⟩:=RE hm;have z2:=z.seatSet hw h1 fun _=>h2
      have hle:(w.waits.eraseIdx k).length<=w.waits.length:=by rw[List.length_eraseIdx];split<;>omega
      exact{z2 with
       waits:=kb hle z.waits
       waitsLog:=kb hle z.waitsLog
       waitsI:=fun y hy=>z.waitsI y (List.mem_of_mem_eraseIdx hy)}
     ·exact ih (k+1)
    ·exact ih (k+1)
  exact this _ _
theorem WG.steal{w:World}(z:WG w){who:Int}(hw:aH who):WG (cF w who):=by
 unfold cF;split
 ·exact z
 ·rename_i h;obtain⟨h1,_⟩:=z.at hw;obtain⟨k1,k2⟩:=y4 h1;have h12:w.stolen.length≠12:=fun e=>h (.inr e)
  have a:=z.stolen;have b:=z.spyN;exact{z with
   stolen:=by show(w.stolen++_).length<=12;simp;omega
   spy:=by show(w.spy++_).length<=72;rw[jl];omega
   spyN:=by show(w.spy++_).length<=6*(w.stolen++_).length;rw[jl,jl];simp only[jf,jk];omega
   spyI:=fun s hs=>by
    rcases jv.1 hs with hs|hs
    ·exact z.spyI s hs
    ·exact k1 s hs
   stolenI:=fun x hx=>by
    rcases jv.1 hx with hx|hx
    ·exact z.stolenI x hx
    ·rw[qc.1 hx];exact⟨hw,(oC h1).2.2.2⟩}
theorem WG.say{w:World}(z:WG w){who:Int}{text:S}(hw:aH who):WG (eM w who text):=by
 unfold eM;split
 ·exact z
 ·rename_i h;split
  ·rename_i f hf;have hok:=XF hf;have h40:w.frames.length≠40:=fun e=>h (.inl e)
   have h999:ix w.said who≠999:=fun e=>h (.inr e)
   have a:=z.frames;have zs:=z.said;obtain⟨w0,w1⟩:=hw;obtain⟨s0,s1⟩:=z.saidI _ (UL (l:=w.said) w0 (by omega))
   exact{z with
    frames:=by show(w.frames++_).length<=40;simp;omega
    said:=by show(cA _ _ _).length=8;rw[sK];exact z.said
    saidI:=fun n hn=>by
     rcases mem_set1' hn with hn|hn
     ·exact z.saidI n hn
     ·rw[hn];omega
    framesI:=fun g hg=>by
     rcases jv.1 hg with hg|hg
     ·exact z.framesI g hg
     ·rw[qc.1 hg];exact hok
    toldI:=fun x hx=>by
     obtain⟨b1,b2,b3⟩:=z.toldI x hx;exact⟨b1,b2,by show x.pos< ((w.frames++_).length:Nat);rw[jl];omega⟩}
  ·exact z
theorem WG.get{w:World}(z:WG w){who pos:Int}(hw:aH who)(hp:0<=pos/\pos<w.frames.length):WG (eN w who pos):=by
 unfold eN;split
 ·exact z
 ·rename_i h;split
  ·rename_i x hx;obtain⟨w0,w1⟩:=id hw;have zw:=z.wins;have hm:=UL (l:=w.wins) w0 (by omega)
   obtain⟨x1,x2⟩:=XE (z.winsI _ hm) hx;have hn:=z.winN _ hm;have a:=z.told;exact{z with
    told:=by show(w.told++_).length<=320;simp;omega
    wins:=by show(cA _ _ _).length=8;rw[sK];exact z.wins
    winsI:=fun l hl=>by
     rcases mem_set1' hl with hl|hl
     ·exact z.winsI l hl
     ·rw[hl];exact x1
    winN:=fun l hl=>by
     show l.length<=(w.told++_).length;rw[jl];simp only[jf,jk];rcases mem_set1' hl with hl|hl
     ·have:=z.winN l hl;omega
     ·rw[hl];omega
    toldI:=fun y hy=>by
     rcases jv.1 hy with hy|hy
     ·exact z.toldI y hy
     ·rw[qc.1 hy];exact⟨hw,hp⟩}
  ·exact z
theorem WG.commitEnd{w:World}(z:WG w){e:Event}(hw:aH e.who)(h16:w.log.length≠16)(h99:¬99<=ix w.fresh e.who)(ha: -1<=e.add/\e.add<=7)(h98:¬(0<=e.add/\98<=ix w.fresh e.add))(lf ky:S)(hlf:0<=e.add->secOk lf=true/\secOk ky=true):WG (commitEnd w e lf ky):=by
 unfold Kw.commitEnd;split
 ·exact z
 ·rename_i m c hm;obtain⟨h1,h2,h3⟩:=pV hm;obtain⟨p1,p2,p3,p4,p5,_⟩:=jH h1;obtain⟨w0,w1⟩:=id hw;have zf:=z.fresh;have zl:=z.log;have zw:=z.waits;have zwl:=z.waitsLog;have hwho:=(z.at hw).2 p2;have hmo:memOk m=true:=by rw[h2];exact(wB h1).1
  have hmw:m.who=e.who:=by rw[h2];exact hwho
  have hco:cP c=true:=by rw[h3];exact XC h1
  obtain⟨f0,f1⟩:=z.freshI _ (UL (l:=w.fresh) w0 (by omega))
  have hF:∀n∈cA w.fresh e.who (ix w.fresh e.who+1),0<=n/\n<=99:=fun n hn=>by
   rcases mem_set1' hn with hn|hn
   ·exact z.freshI n hn
   ·rw[hn];omega
  have z2:=z.seatSet hw hmo fun _=>hmw
  have hlen:(w.log++[c]).length=w.log.length+1:=by simp
  exact{z2 with
   log:=by show(w.log++[c]).length<=16;omega
   logI:=fun d hd=>by
    rcases jv.1 hd with hd|hd
    ·exact z.logI d hd
    ·rw[qc.1 hd];exact hco
   fresh:=by
    show(if 0<=e.add then _ else _:List Int).length=8
    split<;>simp only[sK]<;>exact zf
   freshI:=fun n hn=>by
    change n∈(if 0<=e.add then _ else _:List Int)at hn
    split at hn
    ·rename_i h0;rcases mem_set1' hn with hn|hn
     ·exact hF n hn
     ·have hne:e.add≠e.who:=by
       rw[hwho]at p5;exact p5.2.2
      have:ix (cA w.fresh e.who (ix w.fresh e.who+1)) e.add=ix w.fresh e.add:=nK _ _ _ _ w0 h0 hne;rw[hn,this];obtain⟨g0,g1⟩:=z.freshI _ (UL (l:=w.fresh) h0 (by omega))
      have:¬98<=ix w.fresh e.add:=fun x=>h98 ⟨h0,x⟩
      omega
    ·exact hF n hn
   waits:=by
    show(if 0<=e.add then _ else _:List Wait).length<=16
    split
    ·rw[jl];simp only[jf,jk];omega
    ·exact zw
   waitsLog:=by
    show(if 0<=e.add then _ else _:List Wait).length<=(w.log++[c]).length
    split
    ·rw[jl];simp only[jf,jk];omega
    ·omega
   waitsI:=fun x hx=>by
    have hold:∀y∈w.waits,aH y.who/\(0<=y.pos/\y.pos< ((w.log++[c]).length:Nat))/\secOk y.leaf=true/\secOk y.key=true:=fun y hy=>by
     obtain⟨b1,⟨b2,b3⟩,b4⟩:=z.waitsI y hy;exact⟨b1,⟨b2,by omega⟩,b4⟩
    change x∈(if 0<=e.add then _ else _:List Wait)at hx
    split at hx
    ·rename_i h0;rcases jv.1 hx with hx|hx
     ·exact hold x hx
     ·rw[qc.1 hx];exact⟨⟨h0,ha.2⟩,⟨by show(0:Int)<=(w.log.length:Int);omega,by show(w.log.length:Int)< ((w.log++[c]).length:Nat);omega⟩,hlf h0⟩
    ·exact hold x hx}
theorem WG.commit{w:World}(z:WG w){e:Event}(hw:aH e.who):WG (bV w e):=by
 unfold bV;split
 ·exact z
 ·rename_i h;have h16:w.log.length≠16:=fun x=>h (.inl x)
  have h99:¬99<=ix w.fresh e.who:=fun x=>h (.inr (.inl x))
  have ha: -1<=e.add/\e.add<=7:=Decidable.byContradiction fun x=>h (.inr (.inr (.inl x)))
  have h98:¬(0<=e.add/\98<=ix w.fresh e.add):=fun x=>h (.inr (.inr (.inr x)))
  split
  ·rename_i h0;have zf:=z.fresh;obtain⟨g0,g1⟩:=z.freshI _ (UL (l:=w.fresh) h0 (by omega))
   have:¬98<=ix w.fresh e.add:=fun x=>h98 ⟨h0,x⟩
   exact z.commitEnd hw h16 h99 ha h98 _ _ fun _=>⟨(BF ⟨h0,ha.2⟩ (by omega) (by omega)).1,(BF ⟨h0,ha.2⟩ (by omega) (by omega)).1⟩
  ·rename_i h0;exact z.commitEnd hw h16 h99 ha h98 _ _ fun x=>absurd x h0
theorem WG.step{w:World}(z:WG w)(e:Event):WG (step w e):=by
 unfold Kw.step;by_cases hw:aH e.who
 ·rw[je hw];split
  ·exact z.commit hw
  split
  ·exact z.steal hw
  split
  ·exact z.say hw
  split
  ·split
   ·exact z.hear hw
   ·exact z
  split
  ·split
   ·exact z.join hw
   ·exact z
  split
  ·split
   ·rename_i hp;exact z.get hw hp
   ·exact z
  ·exact z
 ·rw[jc hw];exact z
def run(w:World)(l:List Event):World:=l.foldl step w
theorem WG.run{w:World}(z:WG w)(l:List Event):WG (run w l):=by
 unfold Kw.run;induction l generalizing w with
 |nil=>exact z
 |cons e r ih=>exact ih (z.step e)
end Kw
namespace Kw
open Go Go.Proofs
section
variable (L D:Nat)
theorem aiH(hL:1099511627776<=L)(evs:List Event)(hl:evs.length<=1000)(ht:∀e∈evs,e.text.length<=500000):∀(m k:Nat) (w:World),WG w->evs.length<m+k->k<=evs.length->
 JC L (D+316) m [] [] [] [] [] [] [] [] [] [] (w.seats.map rM) (w.log.map rC) (w.fresh.map rI) (w.spy.map rS) (w.stolen.map rSt) (w.frames.map rF) (w.said.map rI) (w.wins.map rWs) (w.told.map rT) (w.waits.map rWt) (nrows []) (nrows []) (nrows []) (nrows []) (nrows []) (nrows []) (nrows []) (nrows []) (nrows []) (nrows []) (w.seats.length:Nat) (w.waits.length:Nat) (w.log.length:Nat) (w.fresh.length:Nat) (w.spy.length:Nat) (w.stolen.length:Nat) (w.frames.length:Nat) (w.said.length:Nat) (w.wins.length:Nat) (w.told.length:Nat) (evs.map rE) (evs.length:Nat) k=some (.agg (wS (run w (evs.drop k))),[])
 |0,k,w,z,h,hk=>by omega
 |m+1,k,w,z,h,hk=>by
  rw[RY];simp only[KM];by_cases hlt:k<evs.length
  ·have h':(k:Int)<evs.length:=by omega
   have ih:=aiH hL evs hl ht m (k+1) (step w (ix evs (k:Int))) (z.step _) (by omega) (by omega)
   have hm:ix evs (k:Int)∈evs:=dU (by omega) (by omega)
   have hs:=awK L D hL w z (ix evs (k:Int)) (ht _ hm);have er:run w (evs.drop k)=run (step w (ix evs (k:Int))) (evs.drop (k+1)):=by
    rw[VC evs k hlt];rfl
   rw[er];unfold wK at hs;generalize hx:ix evs (k:Int)=x at hs ih;simp(disch:=omega) only[K1,iG,bK,Nat.reduceAdd,↓aA,ax8,ax9,axA,axB,axC,axD,afD,h',hx,hs,JL,aG];exact ih
  ·have h':¬(k:Int)<evs.length:=by omega
   have hc:=aaK L (D+311) hL w z.sz;unfold wS wO at hc;rw[wx (by omega)]
   simp(disch:=omega) only[K1,Nat.reduceAdd,↓aA,h',hc]
   rfl
theorem apR(hL:1099511627776<=L)(w:World)(z:WG w)(evs:List Event)(hl:evs.length<=200)(ht:∀e∈evs,e.text.length<=500000):
 ev E L (D+317) 20 [.agg (wS w),.sl (evs.map rE)] []=some (.agg (wS (run w evs)),[]):=by
 have hg:=SD L D hL w z;have hc:=aaK L (D+311) hL w z.sz;have hlp:=aiH L D hL evs (by omega) ht L 0 w z (by omega) (by omega)
 unfold wS at hg⊢;unfold wS wO at hc;have h':¬(200:Int)< (evs.length:Int):=by omega
 rw[ayB];simp only[KM];rw[hg];rw[qb]at hlp;simp only[bnd_some',gBool_b,bNot_t,bNot_f,br_true',nrows_map,iLt_dec];rw[ji h',br_false',hc];simp only[bnd_some',gAggN_if,jf,jk,ju,cellAt_zero,cellAt_succ,gOwn_r,nrows_map];exact hlp
theorem aoO(hL:1099511627776<=L)(w:World)(z:WG w)(e:Event)(ht:e.text.length<=500000):
 ev E L (D+318) 14 [.agg (wS w),.agg [.int .i64 e.kind,.int .i64 e.who,.int .i64 e.add,.int .i64 e.remove,.int .i64 e.pos,.str (bs e.text)]] []=some (.agg (wS (step w e)),[]):=by
 have h:=apR L D hL w z [e] (by simp) (fun x hx=>by rw[qc.1 hx];exact ht)
 have er:run w [e]=step w e:=rfl;rw[er]at h;have ee:([e]:List Event).map rE=[[MV.int .i64 e.kind,.int .i64 e.who,.int .i64 e.add,.int .i64 e.remove,.int .i64 e.pos,.str (bs e.text)]]:=rfl;rw[ee]at h;unfold wS at h⊢;rw[ay7];simp only[KM];rw[h];simp only[iEq_self,br_true',bnd_some',gAggN_if,jf,jk,ju,cellAt_zero,cellAt_succ,gSl_r]
end
end Kw
namespace Kw
open Go Go.Proofs
theorem aiI(b:Bool):bEq b b=true:=by cases b<;>rfl
section
variable (L D:Nat)
theorem YE(hL:1099511627776<=L)(l:List (Int))(hl:l.length<=1000000):ev E L (D+1) 49 [.sl (l.map rI),.sl (l.map rI)] []=some (.bool true,[]):=by
 rw[ayT];simp only[KM];have key1:=dT l.length (fun _=>true) (fun m k=>BH L (D+0) m (l.map rI) (l.map rI) k) (some (.bool true,[])) none (fun n k hk=>?_) (fun n=>?_) L 0 (by omega) (by omega)
 ·simp only[nrows_map,iEq_self,bNot_t,br_false'];refine Eq.trans key1 (by simp)
 ·show BH L (D+0) (n+1) _ _ _=_;rw[ES];simp only[KM];rw[je trivial];have h':(k:Int)<l.length:=by omega
  have hm:ix l (k:Int)∈l:=dU (by omega) (by omega)
  simp(disch:=omega) only[K1,↓aA,d8,aY,h',aG]
 ·show BH L (D+0) (n+1) _ _ _=_;rw[ES];simp only[KM];have h':¬(l.length:Int)<l.length:=by omega
  simp(disch:=omega) only[K1,h']
theorem SE(hL:1099511627776<=L)(l:List (S))(hl:l.length<=1000000):ev E L (D+1) 50 [.sl (l.map rS),.sl (l.map rS)] []=some (.bool true,[]):=by
 rw[ayU];simp only[KM];have key1:=dT l.length (fun _=>true) (fun m k=>BI L (D+0) m (l.map rS) (l.map rS) k) (some (.bool true,[])) none (fun n k hk=>?_) (fun n=>?_) L 0 (by omega) (by omega)
 ·simp only[nrows_map,iEq_self,bNot_t,br_false'];refine Eq.trans key1 (by simp)
 ·show BI L (D+0) (n+1) _ _ _=_;rw[ET];simp only[KM];rw[je trivial];have h':(k:Int)<l.length:=by omega
  have hm:ix l (k:Int)∈l:=dU (by omega) (by omega)
  simp(disch:=omega) only[K1,↓cD,dX,aW,h',aG]
 ·show BI L (D+0) (n+1) _ _ _=_;rw[ET];simp only[KM];have h':¬(l.length:Int)<l.length:=by omega
  simp(disch:=omega) only[K1,h']
theorem aoP(hL:1099511627776<=L)(l:List (Box))(hl:l.length<=1000000):ev E L (D+1) 90 [.sl (l.map rB),.sl (l.map rB)] []=some (.bool true,[]):=by
 rw[azH];simp only[KM];have key1:=dT l.length (fun _=>true) (fun m k=>BL L (D+0) m (l.map rB) (l.map rB) k) (some (.bool true,[])) none (fun n k hk=>?_) (fun n=>?_) L 0 (by omega) (by omega)
 ·simp only[nrows_map,iEq_self,bNot_t,br_false'];refine Eq.trans key1 (by simp)
 ·show BL L (D+0) (n+1) _ _ _=_;rw[E1];simp only[KM];rw[je trivial];have h':(k:Int)<l.length:=by omega
  have hm:ix l (k:Int)∈l:=dU (by omega) (by omega)
  simp(disch:=omega) only[K1,aV,↓cD,ab7,ak2,rH,h',aG]
 ·show BL L (D+0) (n+1) _ _ _=_;rw[E1];simp only[KM];have h':¬(l.length:Int)<l.length:=by omega
  simp(disch:=omega) only[K1,h']
theorem awL(hL:1099511627776<=L)(l:List (Win))(hl:l.length<=1000000)(hs:∀x∈l,x.seen.length<=1000000):ev E L (D+2) 53 [.sl (l.map rW),.sl (l.map rW)] []=some (.bool true,[]):=by
 rw[ayX];simp only[KM];have key1:=dT l.length (fun _=>true) (fun m k=>BK L (D+1) m (l.map rW) (l.map rW) k) (some (.bool true,[])) none (fun n k hk=>?_) (fun n=>?_) L 0 (by omega) (by omega)
 ·simp only[nrows_map,iEq_self,bNot_t,br_false'];refine Eq.trans key1 (by simp)
 ·show BK L (D+1) (n+1) _ _ _=_;rw[EV];simp only[KM];rw[je trivial];have h':(k:Int)<l.length:=by omega
  have hm:ix l (k:Int)∈l:=dU (by omega) (by omega)
  have hk:=YE L D hL (ix l (k:Int)).seen (hs _ hm);simp(disch:=omega) only[K1,↓aA,↓cD,abC,ak3,ak4,rJ,h',aG,hk]
 ·show BK L (D+1) (n+1) _ _ _=_;rw[EV];simp only[KM];have h':¬(l.length:Int)<l.length:=by omega
  simp(disch:=omega) only[K1,h']
theorem aiJ(hL:1099511627776<=L)(m:Member)(z:MB m):ev E L (D+2) 51 [.agg [.bool m.inn,.int .i64 m.who,.sl (m.keys.map rS),.sl (m.own.map rO),.int .i64 m.epoch,.str (bs m.init),.str (bs m.tag)],.agg [.bool m.inn,.int .i64 m.who,.sl (m.keys.map rS),.sl (m.own.map rO),.int .i64 m.epoch,.str (bs m.init),.str (bs m.tag)]] []=some (.bool true,[]):=by
 rw[ayV];simp only[KM];have h1:=SE L D hL m.keys z.keys;have zo:=z.own;have key1:=dT m.own.length (fun _=>true) (fun n k=>BJ L (D+1) n m.inn m.who (m.keys.map rS) (m.own.map rO) m.epoch (bs m.init) (bs m.tag) m.inn m.who (m.keys.map rS) (m.own.map rO) m.epoch (bs m.init) (bs m.tag) k) (some (.bool true,[])) none (fun n k hk=>?_) (fun n=>?_) L 0 (by omega) (by omega)
 ·simp only[aiI,bNot_t,bNot_f,br_true',br_false',iEq_self,h1,bnd_some',gBool_b,sEq_bs,Jp,nrows_map];refine Eq.trans key1 (by simp)
 ·show BJ L (D+1) (n+1) _ _ _ _ _ _ _ _ _ _ _ _ _ _ _=_;rw[EU];simp only[KM];rw[je trivial];have h':(k:Int)<m.own.length:=by omega
  simp(disch:=omega) only[K1,aV,↓aA,↓cD,M1,B3,dY,h',aG]
 ·show BJ L (D+1) (n+1) _ _ _ _ _ _ _ _ _ _ _ _ _ _ _=_;rw[EU];simp only[KM];have h':¬(m.own.length:Int)<m.own.length:=by omega
  simp(disch:=omega) only[K1,h']
theorem aiK(hL:1099511627776<=L)(c:Commit)(h1:c.keys.length<=1000000)(h2:c.boxes.length<=1000000):ev E L (D+2) 52 [.agg [.int .i64 c.sender,.str (bs c.tag),.str (bs c.name),.int .i64 c.add,.int .i64 c.remove,.str (bs c.leaf),.sl (c.keys.map rS),.sl (c.boxes.map rB),.str (bs c.wkey),.str (bs c.wik),.str (bs c.wis),.str (bs c.wsk),.str (bs c.wss)],.agg [.int .i64 c.sender,.str (bs c.tag),.str (bs c.name),.int .i64 c.add,.int .i64 c.remove,.str (bs c.leaf),.sl (c.keys.map rS),.sl (c.boxes.map rB),.str (bs c.wkey),.str (bs c.wik),.str (bs c.wis),.str (bs c.wsk),.str (bs c.wss)]] []=some (.bool true,[]):=by
 rw[ayW];simp only[KM];have k1:=SE L D hL c.keys h1;have k2:=aoP L D hL c.boxes h2;simp only[iEq_self,sEq_bs,Jp,br_true',k1,k2,bnd_some',gBool_b,cN]
theorem aoQ(hL:1099511627776<=L)(w:World)(z:WSzI w):mY L (D+3) L (w.seats.map rM) (w.waits.map rWt) (w.log.map rC) (w.fresh.map rI) (w.spy.map rS) (w.stolen.map rSt) (w.frames.map rF) (w.said.map rI) (w.wins.map rWs) (w.told.map rT) (w.seats.map rM) (w.waits.map rWt) (w.log.map rC) (w.fresh.map rI) (w.spy.map rS) (w.stolen.map rSt) (w.frames.map rF) (w.said.map rI) (w.wins.map rWs) (w.told.map rT) 0=(some (.bool true,[])):=by
 have hz:=z.told;refine Eq.trans (dT w.told.length (fun _=>true) (fun m k=>mY L (D+3) m (w.seats.map rM) (w.waits.map rWt) (w.log.map rC) (w.fresh.map rI) (w.spy.map rS) (w.stolen.map rSt) (w.frames.map rF) (w.said.map rI) (w.wins.map rWs) (w.told.map rT) (w.seats.map rM) (w.waits.map rWt) (w.log.map rC) (w.fresh.map rI) (w.spy.map rS) (w.stolen.map rSt) (w.frames.map rF) (w.said.map rI) (w.wins.map rWs) (w.told.map rT) k) (some (.bool true,[])) none (fun n k hk=>?_) (fun n=>?_) L 0 (by omega) (by omega)) (by simp)
 ·show mY L (D+3) (n+1) _ _ _ _ _ _ _ _ _ _ _ _ _ _ _ _ _ _ _ _ _=_;rw[CF];simp only[KM];rw[je trivial];have h':(k:Int)<w.told.length:=by omega
  have hm:ix w.told (k:Int)∈w.told:=dU (by omega) (by omega)
  simp(disch:=omega) only[K1,aV,↓aA,aA7,aA8,afC,h',aG]
 ·show mY L (D+3) (n+1) _ _ _ _ _ _ _ _ _ _ _ _ _ _ _ _ _ _ _ _ _=_;rw[CF];simp only[KM];have h':¬(w.told.length:Int)<w.told.length:=by omega
  simp(disch:=omega) only[K1,h']
theorem aoR(hL:1099511627776<=L)(w:World)(z:WSzI w):mX L (D+3) L (w.seats.map rM) (w.waits.map rWt) (w.log.map rC) (w.fresh.map rI) (w.spy.map rS) (w.stolen.map rSt) (w.frames.map rF) (w.said.map rI) (w.wins.map rWs) (w.told.map rT) (w.seats.map rM) (w.waits.map rWt) (w.log.map rC) (w.fresh.map rI) (w.spy.map rS) (w.stolen.map rSt) (w.frames.map rF) (w.said.map rI) (w.wins.map rWs) (w.told.map rT) 0=(mY L (D+3) L (w.seats.map rM) (w.waits.map rWt) (w.log.map rC) (w.fresh.map rI) (w.spy.map rS) (w.stolen.map rSt) (w.frames.map rF) (w.said.map rI) (w.wins.map rWs) (w.told.map rT) (w.seats.map rM) (w.waits.map rWt) (w.log.map rC) (w.fresh.map rI) (w.spy.map rS) (w.stolen.map rSt) (w.frames.map rF) (w.said.map rI) (w.wins.map rWs) (w.told.map rT) 0):=by
 have hz:=z.wins;refine Eq.trans (dT w.wins.length (fun _=>true) (fun m k=>mX L (D+3) m (w.seats.map rM) (w.waits.map rWt) (w.log.map rC) (w.fresh.map rI) (w.spy.map rS) (w.stolen.map rSt) (w.frames.map rF) (w.said.map rI) (w.wins.map rWs) (w.told.map rT) (w.seats.map rM) (w.waits.map rWt) (w.log.map rC) (w.fresh.map rI) (w.spy.map rS) (w.stolen.map rSt) (w.frames.map rF) (w.said.map rI) (w.wins.map rWs) (w.told.map rT) k) (mY L (D+3) L (w.seats.map rM) (w.waits.map rWt) (w.log.map rC) (w.fresh.map rI) (w.spy.map rS) (w.stolen.map rSt) (w.frames.map rF) (w.said.map rI) (w.wins.map rWs) (w.told.map rT) (w.seats.map rM) (w.waits.map rWt) (w.log.map rC) (w.fresh.map rI) (w.spy.map rS) (w.stolen.map rSt) (w.frames.map rF) (w.said.map rI) (w.wins.map rWs) (w.told.map rT) 0) none (fun n k hk=>?_) (fun n=>?_) L 0 (by omega) (by omega)) (by simp)
 ·show mX L (D+3) (n+1) _ _ _ _ _ _ _ _ _ _ _ _ _ _ _ _ _ _ _ _ _=_;rw[CE];simp only[KM];rw[je trivial];have h':(k:Int)<w.wins.length:=by omega
  have hm:ix w.wins (k:Int)∈w.wins:=dU (by omega) (by omega)
  have hk2:=awL L (D+1) hL (ix w.wins (k:Int)) (z.win _ hm).1 (z.win _ hm).2;simp(disch:=omega) only[K1,nD,eH,h',aG,hk2]
 ·show mX L (D+3) (n+1) _ _ _ _ _ _ _ _ _ _ _ _ _ _ _ _ _ _ _ _ _=_;rw[CE];simp only[KM];have h':¬(w.wins.length:Int)<w.wins.length:=by omega
  simp(disch:=omega) only[K1,h']
theorem aoS(hL:1099511627776<=L)(w:World)(z:WSzI w):mW L (D+3) L (w.seats.map rM) (w.waits.map rWt) (w.log.map rC) (w.fresh.map rI) (w.spy.map rS) (w.stolen.map rSt) (w.frames.map rF) (w.said.map rI) (w.wins.map rWs) (w.told.map rT) (w.seats.map rM) (w.waits.map rWt) (w.log.map rC) (w.fresh.map rI) (w.spy.map rS) (w.stolen.map rSt) (w.frames.map rF) (w.said.map rI) (w.wins.map rWs) (w.told.map rT) 0=(mX L (D+3) L (w.seats.map rM) (w.waits.map rWt) (w.log.map rC) (w.fresh.map rI) (w.spy.map rS) (w.stolen.map rSt) (w.frames.map rF) (w.said.map rI) (w.wins.map rWs) (w.told.map rT) (w.seats.map rM) (w.waits.map rWt) (w.log.map rC) (w.fresh.map rI) (w.spy.map rS) (w.stolen.map rSt) (w.frames.map rF) (w.said.map rI) (w.wins.map rWs) (w.told.map rT) 0):=by
 have hz:=z.frames;refine Eq.trans (dT w.frames.length (fun _=>true) (fun m k=>mW L (D+3) m (w.seats.map rM) (w.waits.map rWt) (w.log.map rC) (w.fresh.map rI) (w.spy.map rS) (w.stolen.map rSt) (w.frames.map rF) (w.said.map rI) (w.wins.map rWs) (w.told.map rT) (w.seats.map rM) (w.waits.map rWt) (w.log.map rC) (w.fresh.map rI) (w.spy.map rS) (w.stolen.map rSt) (w.frames.map rF) (w.said.map rI) (w.wins.map rWs) (w.told.map rT) k) (mX L (D+3) L (w.seats.map rM) (w.waits.map rWt) (w.log.map rC) (w.fresh.map rI) (w.spy.map rS) (w.stolen.map rSt) (w.frames.map rF) (w.said.map rI) (w.wins.map rWs) (w.told.map rT) (w.seats.map rM) (w.waits.map rWt) (w.log.map rC) (w.fresh.map rI) (w.spy.map rS) (w.stolen.map rSt) (w.frames.map rF) (w.said.map rI) (w.wins.map rWs) (w.told.map rT) 0) none (fun n k hk=>?_) (fun n=>?_) L 0 (by omega) (by omega)) (by simp)
 ·show mW L (D+3) (n+1) _ _ _ _ _ _ _ _ _ _ _ _ _ _ _ _ _ _ _ _ _=_;rw[CD];simp only[KM];rw[je trivial];have h':(k:Int)<w.frames.length:=by omega
  have hm:ix w.frames (k:Int)∈w.frames:=dU (by omega) (by omega)
  simp(disch:=omega) only[K1,aV,↓aA,↓cD,ab8,ab9,abA,abB,CT,h',aG]
 ·show mW L (D+3) (n+1) _ _ _ _ _ _ _ _ _ _ _ _ _ _ _ _ _ _ _ _ _=_;rw[CD];simp only[KM];have h':¬(w.frames.length:Int)<w.frames.length:=by omega
  simp(disch:=omega) only[K1,h']
theorem aoT(hL:1099511627776<=L)(w:World)(z:WSzI w):mV L (D+3) L (w.seats.map rM) (w.waits.map rWt) (w.log.map rC) (w.fresh.map rI) (w.spy.map rS) (w.stolen.map rSt) (w.frames.map rF) (w.said.map rI) (w.wins.map rWs) (w.told.map rT) (w.seats.map rM) (w.waits.map rWt) (w.log.map rC) (w.fresh.map rI) (w.spy.map rS) (w.stolen.map rSt) (w.frames.map rF) (w.said.map rI) (w.wins.map rWs) (w.told.map rT) 0=(mW L (D+3) L (w.seats.map rM) (w.waits.map rWt) (w.log.map rC) (w.fresh.map rI) (w.spy.map rS) (w.stolen.map rSt) (w.frames.map rF) (w.said.map rI) (w.wins.map rWs) (w.told.map rT) (w.seats.map rM) (w.waits.map rWt) (w.log.map rC) (w.fresh.map rI) (w.spy.map rS) (w.stolen.map rSt) (w.frames.map rF) (w.said.map rI) (w.wins.map rWs) (w.told.map rT) 0):=by
 have hz:=z.stolen;refine Eq.trans (dT w.stolen.length (fun _=>true) (fun m k=>mV L (D+3) m (w.seats.map rM) (w.waits.map rWt) (w.log.map rC) (w.fresh.map rI) (w.spy.map rS) (w.stolen.map rSt) (w.frames.map rF) (w.said.map rI) (w.wins.map rWs) (w.told.map rT) (w.seats.map rM) (w.waits.map rWt) (w.log.map rC) (w.fresh.map rI) (w.spy.map rS) (w.stolen.map rSt) (w.frames.map rF) (w.said.map rI) (w.wins.map rWs) (w.told.map rT) k) (mW L (D+3) L (w.seats.map rM) (w.waits.map rWt) (w.log.map rC) (w.fresh.map rI) (w.spy.map rS) (w.stolen.map rSt) (w.frames.map rF) (w.said.map rI) (w.wins.map rWs) (w.told.map rT) (w.seats.map rM) (w.waits.map rWt) (w.log.map rC) (w.fresh.map rI) (w.spy.map rS) (w.stolen.map rSt) (w.frames.map rF) (w.said.map rI) (w.wins.map rWs) (w.told.map rT) 0) none (fun n k hk=>?_) (fun n=>?_) L 0 (by omega) (by omega)) (by simp)
 ·show mV L (D+3) (n+1) _ _ _ _ _ _ _ _ _ _ _ _ _ _ _ _ _ _ _ _ _=_;rw[CC];simp only[KM];rw[je trivial];have h':(k:Int)<w.stolen.length:=by omega
  have hm:ix w.stolen (k:Int)∈w.stolen:=dU (by omega) (by omega)
  simp(disch:=omega) only[K1,aV,↓aA,↓cD,ax6,ax7,ZE,h',aG]
 ·show mV L (D+3) (n+1) _ _ _ _ _ _ _ _ _ _ _ _ _ _ _ _ _ _ _ _ _=_;rw[CC];simp only[KM];have h':¬(w.stolen.length:Int)<w.stolen.length:=by omega
  simp(disch:=omega) only[K1,h']
theorem aoU(hL:1099511627776<=L)(w:World)(z:WSzI w):mU L (D+3) L (w.seats.map rM) (w.waits.map rWt) (w.log.map rC) (w.fresh.map rI) (w.spy.map rS) (w.stolen.map rSt) (w.frames.map rF) (w.said.map rI) (w.wins.map rWs) (w.told.map rT) (w.seats.map rM) (w.waits.map rWt) (w.log.map rC) (w.fresh.map rI) (w.spy.map rS) (w.stolen.map rSt) (w.frames.map rF) (w.said.map rI) (w.wins.map rWs) (w.told.map rT) 0=(mV L (D+3) L (w.seats.map rM) (w.waits.map rWt) (w.log.map rC) (w.fresh.map rI) (w.spy.map rS) (w.stolen.map rSt) (w.frames.map rF) (w.said.map rI) (w.wins.map rWs) (w.told.map rT) (w.seats.map rM) (w.waits.map rWt) (w.log.map rC) (w.fresh.map rI) (w.spy.map rS) (w.stolen.map rSt) (w.frames.map rF) (w.said.map rI) (w.wins.map rWs) (w.told.map rT) 0):=by
 have hz:=z.waits;refine Eq.trans (dT w.waits.length (fun _=>true) (fun m k=>mU L (D+3) m (w.seats.map rM) (w.waits.map rWt) (w.log.map rC) (w.fresh.map rI) (w.spy.map rS) (w.stolen.map rSt) (w.frames.map rF) (w.said.map rI) (w.wins.map rWs) (w.told.map rT) (w.seats.map rM) (w.waits.map rWt) (w.log.map rC) (w.fresh.map rI) (w.spy.map rS) (w.stolen.map rSt) (w.frames.map rF) (w.said.map rI) (w.wins.map rWs) (w.told.map rT) k) (mV L (D+3) L (w.seats.map rM) (w.waits.map rWt) (w.log.map rC) (w.fresh.map rI) (w.spy.map rS) (w.stolen.map rSt) (w.frames.map rF) (w.said.map rI) (w.wins.map rWs) (w.told.map rT) (w.seats.map rM) (w.waits.map rWt) (w.log.map rC) (w.fresh.map rI) (w.spy.map rS) (w.stolen.map rSt) (w.frames.map rF) (w.said.map rI) (w.wins.map rWs) (w.told.map rT) 0) none (fun n k hk=>?_) (fun n=>?_) L 0 (by omega) (by omega)) (by simp)
 ·show mU L (D+3) (n+1) _ _ _ _ _ _ _ _ _ _ _ _ _ _ _ _ _ _ _ _ _=_;rw[CB];simp only[KM];rw[je trivial];have h':(k:Int)<w.waits.length:=by omega
  have hm:ix w.waits (k:Int)∈w.waits:=dU (by omega) (by omega)
  simp(disch:=omega) only[K1,aV,↓aA,↓cD,yI,yJ,yK,yL,lH,h',aG]
 ·show mU L (D+3) (n+1) _ _ _ _ _ _ _ _ _ _ _ _ _ _ _ _ _ _ _ _ _=_;rw[CB];simp only[KM];have h':¬(w.waits.length:Int)<w.waits.length:=by omega
  simp(disch:=omega) only[K1,h']
theorem awM(hL:1099511627776<=L)(w:World)(z:WSzI w):oZ L (D+3) L (w.seats.map rM) (w.waits.map rWt) (w.log.map rC) (w.fresh.map rI) (w.spy.map rS) (w.stolen.map rSt) (w.frames.map rF) (w.said.map rI) (w.wins.map rWs) (w.told.map rT) (w.seats.map rM) (w.waits.map rWt) (w.log.map rC) (w.fresh.map rI) (w.spy.map rS) (w.stolen.map rSt) (w.frames.map rF) (w.said.map rI) (w.wins.map rWs) (w.told.map rT) 0=(mU L (D+3) L (w.seats.map rM) (w.waits.map rWt) (w.log.map rC) (w.fresh.map rI) (w.spy.map rS) (w.stolen.map rSt) (w.frames.map rF) (w.said.map rI) (w.wins.map rWs) (w.told.map rT) (w.seats.map rM) (w.waits.map rWt) (w.log.map rC) (w.fresh.map rI) (w.spy.map rS) (w.stolen.map rSt) (w.frames.map rF) (w.said.map rI) (w.wins.map rWs) (w.told.map rT) 0):=by
 have hz:=z.log;refine Eq.trans (dT w.log.length (fun _=>true) (fun m k=>oZ L (D+3) m (w.seats.map rM) (w.waits.map rWt) (w.log.map rC) (w.fresh.map rI) (w.spy.map rS) (w.stolen.map rSt) (w.frames.map rF) (w.said.map rI) (w.wins.map rWs) (w.told.map rT) (w.seats.map rM) (w.waits.map rWt) (w.log.map rC) (w.fresh.map rI) (w.spy.map rS) (w.stolen.map rSt) (w.frames.map rF) (w.said.map rI) (w.wins.map rWs) (w.told.map rT) k) (mU L (D+3) L (w.seats.map rM) (w.waits.map rWt) (w.log.map rC) (w.fresh.map rI) (w.spy.map rS) (w.stolen.map rSt) (w.frames.map rF) (w.said.map rI) (w.wins.map rWs) (w.told.map rT) (w.seats.map rM) (w.waits.map rWt) (w.log.map rC) (w.fresh.map rI) (w.spy.map rS) (w.stolen.map rSt) (w.frames.map rF) (w.said.map rI) (w.wins.map rWs) (w.told.map rT) 0) none (fun n k hk=>?_) (fun n=>?_) L 0 (by omega) (by omega)) (by simp)
 ·show oZ L (D+3) (n+1) _ _ _ _ _ _ _ _ _ _ _ _ _ _ _ _ _ _ _ _ _=_;rw[EO];simp only[KM];rw[je trivial];have h':(k:Int)<w.log.length:=by omega
  have hm:ix w.log (k:Int)∈w.log:=dU (by omega) (by omega)
  have hk2:=aiK L (D+1) hL (ix w.log (k:Int)) (z.cmt _ hm).1 (z.cmt _ hm).2;simp(disch:=omega) only[K1,ID,IE,IG,IH,II,IJ,IK,IL,IM,IO,wT,wU,wV,mN,h',aG,hk2]
 ·show oZ L (D+3) (n+1) _ _ _ _ _ _ _ _ _ _ _ _ _ _ _ _ _ _ _ _ _=_;rw[EO];simp only[KM];have h':¬(w.log.length:Int)<w.log.length:=by omega
  simp(disch:=omega) only[K1,h']
theorem awN(hL:1099511627776<=L)(w:World)(z:WSzI w):wD L (D+3) L (w.seats.map rM) (w.waits.map rWt) (w.log.map rC) (w.fresh.map rI) (w.spy.map rS) (w.stolen.map rSt) (w.frames.map rF) (w.said.map rI) (w.wins.map rWs) (w.told.map rT) (w.seats.map rM) (w.waits.map rWt) (w.log.map rC) (w.fresh.map rI) (w.spy.map rS) (w.stolen.map rSt) (w.frames.map rF) (w.said.map rI) (w.wins.map rWs) (w.told.map rT) 0=(oZ L (D+3) L (w.seats.map rM) (w.waits.map rWt) (w.log.map rC) (w.fresh.map rI) (w.spy.map rS) (w.stolen.map rSt) (w.frames.map rF) (w.said.map rI) (w.wins.map rWs) (w.told.map rT) (w.seats.map rM) (w.waits.map rWt) (w.log.map rC) (w.fresh.map rI) (w.spy.map rS) (w.stolen.map rSt) (w.frames.map rF) (w.said.map rI) (w.wins.map rWs) (w.told.map rT) 0):=by
 have hz:=z.seats;refine Eq.trans (dT w.seats.length (fun _=>true) (fun m k=>wD L (D+3) m (w.seats.map rM) (w.waits.map rWt) (w.log.map rC) (w.fresh.map rI) (w.spy.map rS) (w.stolen.map rSt) (w.frames.map rF) (w.said.map rI) (w.wins.map rWs) (w.told.map rT) (w.seats.map rM) (w.waits.map rWt) (w.log.map rC) (w.fresh.map rI) (w.spy.map rS) (w.stolen.map rSt) (w.frames.map rF) (w.said.map rI) (w.wins.map rWs) (w.told.map rT) k) (oZ L (D+3) L (w.seats.map rM) (w.waits.map rWt) (w.log.map rC) (w.fresh.map rI) (w.spy.map rS) (w.stolen.map rSt) (w.frames.map rF) (w.said.map rI) (w.wins.map rWs) (w.told.map rT) (w.seats.map rM) (w.waits.map rWt) (w.log.map rC) (w.fresh.map rI) (w.spy.map rS) (w.stolen.map rSt) (w.frames.map rF) (w.said.map rI) (w.wins.map rWs) (w.told.map rT) 0) none (fun n k hk=>?_) (fun n=>?_) L 0 (by omega) (by omega)) (by simp)
 ·show wD L (D+3) (n+1) _ _ _ _ _ _ _ _ _ _ _ _ _ _ _ _ _ _ _ _ _=_;rw[EN];simp only[KM];rw[je trivial];have h':(k:Int)<w.seats.length:=by omega
  have hm:ix w.seats (k:Int)∈w.seats:=dU (by omega) (by omega)
  have hk2:=aiJ L (D+1) hL (ix w.seats (k:Int)) (z.mem _ hm);simp(disch:=omega) only[K1,jA,kO,kP,kQ,kR,kS,kT,bM,h',aG,hk2]
 ·show wD L (D+3) (n+1) _ _ _ _ _ _ _ _ _ _ _ _ _ _ _ _ _ _ _ _ _=_;rw[EN];simp only[KM];have h':¬(w.seats.length:Int)<w.seats.length:=by omega
  simp(disch:=omega) only[K1,h']
theorem aoV(hL:1099511627776<=L)(w:World)(z:WSzI w):ev E L (D+4) 13 [.agg (wS w),.agg (wS w)] []=some (.bool true,[]):=by
 unfold wS;rw[ay6];simp only[KM];have h1:=YE L (D+2) hL w.fresh z.fresh;have h2:=SE L (D+2) hL w.spy z.spy;have h3:=YE L (D+2) hL w.said z.said;simp only[iEq_self,bNot_t,bNot_f,br_true',br_false',h1,h2,h3,bnd_some',gBool_b];exact(awN L D hL w z).trans ((awM L D hL w z).trans ((aoU L D hL w z).trans ((aoT L D hL w z).trans ((aoS L D hL w z).trans ((aoR L D hL w z).trans (aoQ L D hL w z))))))
end
end Kw
namespace Kw
end Kw
namespace Kw
open Go Go.Proofs
section
variable (L D:Nat)
theorem aAT(hL:1099511627776<=L):ev E L (D+308) 12 [] []=some (.bool true,[]):=by
 have h:secOk [65,49,59]=true:=by decide+kernel
 have h2:=jI L (D+1) hL [65,49,59] (by simp)
 rw[h]at h2;rw[ay5];simp only[KM];rw[h2]
 rfl
theorem awO(hL:1099511627776<=L)(f:Int)(hf:aH f)(evs:List Event)(hl:evs.length<=190)(ht:∀e∈evs,e.text.length<=10):
 ev E L (D+318) 8 [.int .i64 f,.sl (evs.map rE)] []=some (.agg (wS (run (bN f) evs)),[]):=by
 have h1:=ai3 L (D+3) hL f;have h2:=apR L D hL (bN f) (WG.new hf) evs (by omega) (fun e he=>kb (ht e he) (by omega))
 unfold wS at h2⊢;rw[aAO];simp only[KM];rw[h1];simp only[bnd_some',gAggN_if,jf,jk,ju,cellAt_zero,cellAt_succ,gSl_r,h2]
end
end Kw
namespace Kw
end Kw
namespace Kw
def EpS:Nat->S->Prop
 |0,s=>(aN s).op=1
 |n+1,s=>(aN s).op=4/\EpS n (aN s).a
theorem kK(a b:S):count (a++b)=count a+count b:=by unfold count;rw[List.filter_append,jl]
theorem LJ{n:Nat}(h:n<=9):hD n≠59:=fun e=>by
 have:=eR h;rw[e]at this;have:(59:UInt8).toNat=59:=rfl;omega
theorem ac2{n:Nat}(h:n<=7):letter n≠59:=fun e=>by
 have:=jG h;rw[e]at this;have:(59:UInt8).toNat=59:=rfl;omega
theorem ac3:count [59]=1:=rfl
theorem wC{c:UInt8}(h:c≠59):count [c]=0:=by
 unfold count;rw[List.filter_cons_of_neg (by simpa using h)]
 rfl
theorem pD{s:S}(h:(aN s).op=1):count s=1:=by
 unfold aN at h;cases hs:sec s with
 |none=>rw[hs]at h;exact absurd h (by decide)
 |some t=>
  rw[hs]at h;obtain⟨t1,t2,_⟩:=iX.1 hs;cases t with
  |new w n=>
   obtain⟨w7,n1,n99⟩:=t1;rw[t2];show count ([letter w]++(plain n++[59]))=1;rw[kK,kK,wC (ac2 w7),ac3];by_cases h9:n<=9
   ·rw[nI h9,wC (LJ h9)]
   ·rw[yT (by omega) n99]
    show 0+(count ([hD (n/10)]++[hD (n%10)])+1)=1;rw[kK,wC (LJ (by omega)),wC (LJ (by omega))]
  |next t=>exact absurd h (by show¬(2:Int)=1;decide)
  |key t=>exact absurd h (by show¬(3:Int)=1;decide)
  |epoch a b=>exact absurd h (by show¬(4:Int)=1;decide)
  |say w t=>exact absurd h (by show¬(5:Int)=1;decide)
  |room n t=>exact absurd h (by show¬(6:Int)=1;decide)
theorem XG{a b:S}(h:bO a b≠[]):(aN (bO a b)).op=4/\(aN (bO a b)).a=a:=by
 unfold bO at h⊢;split at h
 ·rename_i h1;rw[je h1];obtain⟨⟨h1,h2⟩,h3⟩:=h1;obtain⟨t,t1,t2,_⟩:=cK.1 h1;obtain⟨u,u1,u2,_⟩:=cK.1 h2;have e:sec (101::(a++b))=some (.epoch t u):=iX.2 ⟨⟨t1,u1⟩,by rw[t2,u2];rfl,by simp;omega⟩
  unfold aN;rw[e];exact⟨rfl,t2.symm⟩
 ·exact absurd rfl h
theorem EpS.next{n:Nat}{a b:S}(h:EpS n a)(hs:secOk (bO a b)=true):EpS (n+1) (bO a b):=by
 rw[yZ,jb]at hs;obtain⟨h1,h2⟩:=XG hs;exact⟨h1,by rw[h2];exact h⟩
def EpM(m:Member):Prop:=m.inn=true->m.epoch=(count m.tag:Nat)/\EpS (count m.tag) m.init
def EpC(c:Commit):Prop:=0<=c.add->EpS (count c.tag+1) c.wis
structure WE(w:World):Prop where
 mem:∀k:Nat,k<8->EpM (ix w.seats (k:Int))
 log:∀c∈w.log,EpC c
theorem EpM.no:EpM bC:=fun h=>by cases h
theorem WE.at{w:World}(z:WE w){i:Int}(hi:aH i):EpM (ix w.seats i):=by
 obtain⟨i0,i1⟩:=hi;obtain⟨k,rfl⟩:=kv i0;exact z.mem k (by omega)
theorem XH{l:List Member}{i:Int}{m:Member}(hl:l.length=8)(hi:aH i)(h:∀k:Nat,k<8->EpM (ix l (k:Int)))(hm:EpM m):∀k:Nat,k<8->EpM (ix (cA l i m) (k:Int)):=by
 obtain⟨i0,i1⟩:=hi;intro k hk;unfold cA;by_cases e:(k:Int)=i
 ·subst e;rw[oE _ _ _ i0 (by omega)]
  exact hm
 ·rw[nK _ _ _ _ i0 (by omega) e]
  exact h k hk
theorem XI{m:Member}{f:S}{a r:Int}{lf ky:S}(hm:EpM m)(h:cH m f a r lf ky=true):EpM (dG m f a r lf ky):=by
 obtain⟨p1,p2,p3,_⟩:=jH h;obtain⟨e1,e2⟩:=hm p2;have hok:=(wB h).1;have hs:secOk (dG m f a r lf ky).init=true:=(lC hok rfl).2.2.2.2.2.1;intro _;have hc:count (dG m f a r lf ky).tag=count m.tag+1:=by
  show count (m.tag++f)=_;rw[kK,pD p3]
 rw[hc];refine⟨?_,e2.next hs⟩;show m.epoch+1=_;rw[e1];omega
theorem XJ{m:Member}{f:S}{a r:Int}{lf ky:S}(hm:EpM m)(h:cH m f a r lf ky=true):EpC (eY m f a r lf ky):=by
 obtain⟨p1,p2,p3,_⟩:=jH h;obtain⟨e1,e2⟩:=hm p2;have hok:=(wB h).1;have hs:secOk (dG m f a r lf ky).init=true:=(lC hok rfl).2.2.2.2.2.1;intro h0;have h0:0<=a:=h0;have e:(eY m f a r lf ky).wis=(dG m f a r lf ky).init:=by
  unfold eY;simp only;rw[je h0]
 rw[e];exact e2.next hs
theorem hear_ep{m:Member}{c:Commit}(hm:EpM m)(h:(dH m c).2=true):EpM (dH m c).1:=by
 unfold dH at h⊢;split at h
 case isFalse=>cases h
 rename_i h1;rw[je h1];split at h
 case isFalse=>cases h
 rename_i h2;rw[je h2];split at h
 ·rename_i h3;rw[je h3];exact EpM.no
 ·rename_i h3;rw[jc h3];split at h
  case isFalse=>cases h
  rename_i h4;rw[je h4];unfold hearPair at h4⊢;simp only at h4⊢;split at h4
  ·cases h4
  ·rename_i h5;rw[jc h5];split at h4
   case isFalse=>cases h4
   rename_i h6;rw[je h6];unfold oB at h2;simp only[jg,jb]at h2;obtain⟨hi,⟨ht,_,_⟩,_⟩:=h2;obtain⟨e1,e2⟩:=hm hi;have hc:=h1.2;unfold cP at hc;simp only[jg,jb]at hc;have hn:=pD hc.1.2.1;intro _;have hcn:count (mS m c (bP m.own c.boxes)).tag=count m.tag+1:=by
    show count (m.tag++c.name)=_;rw[kK,hn]
   show(mS m c (bP m.own c.boxes)).epoch=_/\EpS (count (mS m c (bP m.own c.boxes)).tag) (mS m c (bP m.own c.boxes)).init;rw[hcn];refine⟨?_,e2.next h4⟩;show m.epoch+1=_;rw[e1];omega
theorem join_ep{w:Int}{lf ky:S}{c:Commit}{m:Member}(hc:EpC c)(h:iR w lf ky c=some m):EpM m:=by
 unfold iR at h;split at h
 case isFalse=>cases h
 rename_i h1;cases h;have hn:=h1.1;unfold cP at hn;simp only[jg,jb]at hn;have hn:=pD hn.1.2.1;intro _;have hcn:count (pP w lf c).tag=count c.tag+1:=by
  show count (c.tag++c.name)=_;rw[kK,hn]
 rw[hcn];exact⟨by show(count c.tag:Int)+1=_;omega,hc h1.2.1⟩
theorem WE.new{who:Int}(hw:aH who):WE (bN who):=by
 unfold bN;rw[je hw];refine⟨?_,by simp⟩
 intro k hk;rw[aK _ k (by simpa using hk)]
 simp only[yw,List.getElem_range];split
 ·intro hi;have h2:=BF (n:=2) hw (by decide) (by decide)
  unfold dP at hi⊢;split at hi
  ·rename_i h;rw[je h];exact⟨rfl,h2.2⟩
  ·cases hi
 ·exact EpM.no
theorem WE.step{w:World}(g:WG w)(z:WE w)(e:Event):WE (step w e):=by
 unfold Kw.step;by_cases hw:aH e.who
 ·rw[je hw];split
  ·have hend:∀lf ky,WE (commitEnd w e lf ky):=fun lf ky=>by
    unfold commitEnd;split
    ·exact z
    ·rename_i m c hm;obtain⟨h1,h2,h3⟩:=pV hm;refine⟨XH g.seats hw z.mem ?_,fun d hd=>?_⟩
     ·rw[h2];exact XI (z.at hw) h1
     ·rcases jv.1 hd with hd|hd
      ·exact z.log d hd
      ·rw[qc.1 hd,h3];exact XJ (z.at hw) h1
   unfold bV;split
   ·exact z
   ·split
    ·exact hend _ _
    ·exact hend _ _
  split
  ·unfold cF;split
   ·exact z
   ·exact⟨z.mem,z.log⟩
  split
  ·unfold eM;split
   ·exact z
   ·split
    ·exact⟨z.mem,z.log⟩
    ·exact z
  split
  ·split
   ·unfold dQ;simp only;split
    ·rename_i h;exact⟨XH g.seats hw z.mem (hear_ep (z.at hw) h),z.log⟩
    ·exact z
   ·exact z
  split
  ·split
   ·rename_i hp;have hc:=z.log _ (UL (l:=w.log) hp.1 hp.2);unfold dF;split
    ·exact z
    ·have:∀(l:List Wait) (k:Nat),WE (joinGo w e.who e.pos l k):=fun l=>by
      induction l with
      |nil=>intro k;exact z
      |cons x r ih=>
       intro k;rw[joinGo];split
       ·split
        ·rename_i m hm;exact⟨XH g.seats hw z.mem (join_ep hc hm),z.log⟩
        ·exact ih (k+1)
       ·exact ih (k+1)
     exact this _ _
   ·exact z
  split
  ·split
   ·unfold eN;split
    ·exact z
    ·split
     ·exact⟨z.mem,z.log⟩
     ·exact z
   ·exact z
  ·exact z
 ·rw[jc hw];exact z
theorem WE.run{w:World}(g:WG w)(z:WE w)(l:List Event):WE (run w l):=by
 unfold Kw.run;induction l generalizing w with
 |nil=>exact z
 |cons e r ih=>exact ih (g.step e) (z.step g e)
end Kw
namespace Kw
def mkS(k:S->Bool):Sec->Bool
 | .new w n=>k (Sec.new w n).str
 | .next t=>k (Sec.next t).str||mkS k t
 | .key t=>k (Sec.key t).str||mkS k t
 | .epoch a b=>k (Sec.epoch a b).str||(mkS k a&&mkS k b)
 | .say w t=>k (Sec.say w t).str||mkS k t
 | .room n t=>k (Sec.room n t).str||mkS k t
def inS(l:List S)(s:S):Bool:=decide (s∈l)
def dR(l:List S)(s:S):Bool:=match sec s with|some t=>mkS (inS l) t|none=>false
def qG(out:List S)(s:S):List S:=if s∈out then out else out++[s]
def onceS(known:List S):List S:=known.foldl qG []
def hG(out:List S)(b:Box):List S:=if b.sec∈out then out else if dR out b.key=true then out++[b.sec]else out
def dK(boxes:List Box)(out:List S):List S:=boxes.foldl hG out
def wX(boxes:List Box):Nat->List S->List S
 |0,out=>out
 |f+1,out=>if(dK boxes out).length>out.length then wX boxes f (dK boxes out)else dK boxes out
def hY(known:List S)(boxes:List Box):List S:=wX boxes (boxes.length+1) (onceS known)
def rK(c:Commit):List Box:=c.boxes++if 0<=c.add then[⟨c.wik,c.wis⟩,⟨c.wsk,c.wss⟩]else[]
def cY(w:World):List Box:=w.log.flatMap rK
def C7(known:List S)(boxes:List Box)(s:S):Bool:=secOk s&&dR (hY known boxes) s
def eW(w:World):List S:=hY w.spy (cY w)
def C8(w:World)(s:S):Bool:=C7 w.spy (cY w) s
theorem agP{k:S->Bool}{t:Sec}(h:k t.str=true):mkS k t=true:=by cases t<;>simp[mkS,h]
theorem qT{l:List S}{s:S}:dR l s=true↔∃t:Sec,t.wf/\s=t.str/\s.length<=300/\mkS (inS l) t=true:=by
 unfold dR;constructor
 ·intro h;split at h
  ·rename_i t e;obtain⟨a,b,c⟩:=iX.1 e;exact⟨t,a,b,c,h⟩
  ·cases h
 ·rintro⟨t,a,b,c,h⟩;rw[iX.2 ⟨a,b,c⟩];exact h
theorem M5{l l':List S}(h:∀s∈l,secOk s=true->dR l' s=true){s:S}(hs:dR l s=true):dR l' s=true:=by
 obtain⟨t,a,b,c,hm⟩:=qT.1 hs;subst b;have:∀t:Sec,t.wf->t.str.length<=300->mkS (inS l) t=true->mkS (inS l') t=true:=by
  intro t;have key:∀t:Sec,t.wf->t.str.length<=300->inS l t.str=true->mkS (inS l') t=true:=fun t hw hl hi=>by
   have:=h _ (qu hi) (cK.2 ⟨t,hw,rfl,hl⟩);obtain⟨u,u1,u2,_,u4⟩:=qT.1 this;rw[Sec.str_inj hw u1 u2];exact u4
  induction t with
  |new w n=>exact fun hw hl hm=>key _ hw hl hm
  |next t ih|key t ih=>
   intro hw hl hm;rcases ya _ _▸hm with hm|hm
   ·exact key _ hw hl hm
   ·simp[mkS,ih hw (by simp[Sec.str]at hl;omega) hm]
  |say _ t ih=>
   intro hw hl hm;rcases ya _ _▸hm with hm|hm
   ·exact key _ hw hl hm
   ·simp[mkS,ih hw.2 (by simp[Sec.str]at hl;omega) hm]
  |room _ t ih=>
   intro hw hl hm;rcases ya _ _▸hm with hm|hm
   ·exact key _ hw hl hm
   ·simp[mkS,ih hw.2.2 (by simp[Sec.str]at hl;omega) hm]
  |epoch a b ha hb=>
   intro hw hl hm;have hl':1+(a.str.length+b.str.length)<=300:=by simp[Sec.str]at hl;omega
   rcases ya _ _▸hm with hm|hm
   ·exact key _ hw hl hm
   ·rw[jg]at hm;simp[mkS,ha hw.1 (by omega) hm.1,hb hw.2 (by omega) hm.2]
 exact qT.2 ⟨t,a,rfl,c,this t a c hm⟩
theorem oY{l:List S}{s:S}(h:s∈l)(hs:secOk s=true):dR l s=true:=by
 obtain⟨t,a,b,c⟩:=cK.1 hs;subst b;exact qT.2 ⟨t,a,rfl,c,agP (jd h)⟩
theorem RF{l l':List S}(h:∀s∈l,s∈l'){s:S}(hs:dR l s=true):dR l' s=true:=M5 (fun x hx hk=>oY (h x hx) hk) hs
theorem agQ{out:List S}{a s:S}:s∈qG out a↔s∈out\/s=a:=by
 unfold qG;split
 ·rename_i h;exact⟨.inl,fun e=>e.elim id fun e=>e▸h⟩
 ·simp
theorem GQ{l:List S}{s:S}:s∈onceS l↔s∈l:=by
 have:∀(l out:List S),s∈l.foldl qG out↔s∈out\/s∈l:=fun l=>by
  induction l with
  |nil=>simp
  |cons a l ih=>intro out;rw[List.foldl_cons,ih,agQ,ko,or_assoc]
 rw[onceS,this];simp
def XK(boxes:List Box)(K:S->Prop):Prop:=∀b∈boxes,∀l:List S,(∀s∈l,K s)->dR l b.key=true->K b.sec
theorem ac4{K:S->Prop}{b:Box}{out:List S}(h:∀s∈out,K s)(hc:∀l:List S,(∀s∈l,K s)->dR l b.key=true->K b.sec):∀s∈hG out b,K s:=by
 unfold hG;split
 ·exact h
 ·split
  ·rename_i hm;intro s hs;rcases jv.1 hs with hs|hs
   ·exact h s hs
   ·rw[qc.1 hs];exact hc out h hm
  ·exact h
theorem PL(out:List S)(b:Box):∃l,hG out b=out++l:=by
 unfold hG;split
 ·exact⟨[],by simp⟩
 ·split
  ·exact⟨_,rfl⟩
  ·exact⟨[],by simp⟩
theorem EL:∀(boxes:List Box) (out:List S),∃l,dK boxes out=out++l
 |[],out=>⟨[],by simp[dK]⟩
 |b::r,out=>by
  obtain⟨l,h⟩:=PL out b;obtain⟨l',h'⟩:=EL r (out++l);exact⟨l++l',by show dK r (hG out b)=_;rw[h,h',qm]⟩
theorem LK{K:S->Prop}:∀{boxes:List Box} {out:List S},XK boxes K->(∀s∈out,K s)->∀s∈dK boxes out,K s
 |[],_,_,h=>h
 |b::r,_,hc,h=>LK (boxes:=r) (fun x hx=>hc x (kz b hx)) (ac4 h (hc b qk))
theorem pass_from:∀{boxes:List Box} {out:List S} {s:S},s∈dK boxes out->s∈out\/∃b∈boxes,b.sec=s
 |[],_,_,h=>.inl h
 |b::r,out,s,h=>by
  rcases pass_from (boxes:=r) (out:=hG out b) h with h|⟨x,hx,e⟩
  ·unfold hG at h;split at h
   ·exact .inl h
   ·split at h
    ·rcases jv.1 h with h|h
     ·exact .inl h
     ·exact .inr ⟨b,qk,(qc.1 h).symm⟩
    ·exact .inl h
  ·exact .inr ⟨x,kz _ hx,e⟩
theorem UN:∀{boxes:List Box} {out:List S},¬(dK boxes out).length>out.length->dK boxes out=out/\∀b∈boxes,dR out b.key=true->b.sec∈out
 |[],out,_=>⟨rfl,by simp⟩
 |b::r,out,h=>by
  have h':¬(dK r (hG out b)).length>out.length:=h;obtain⟨l,e⟩:=PL out b;obtain⟨l',e'⟩:=EL r (hG out b);have l0:l=[]:=by
   rw[e',e]at h';simp at h';exact h'.1
  have eb:hG out b=out:=by rw[e,l0,ka]
  rw[eb]at h';obtain⟨i1,i2⟩:=UN (boxes:=r) (out:=out) h';refine⟨by show dK r (hG out b)=_;rw[eb,i1],fun x hx hm=>?_⟩
  rcases ko.1 hx with rfl|hx
  ·unfold hG at eb;split at eb
   ·assumption
   ·simp[hm]at eb
  ·exact i2 x hx hm
def nL(boxes:List Box)(out:List S):Nat:=(boxes.filter fun b=>decide (b.sec∉out)).length
theorem aa1{boxes:List Box}{out out':List S}(h:∀s∈out,s∈out'):nL boxes out'<=nL boxes out:=by
 unfold nL;induction boxes with
 |nil=>simp
 |cons b r ih=>
  simp only[yx];by_cases h1:b.sec∈out
  ·simpa [h1,h _ h1]using ih
  ·by_cases h2:b.sec∈out'
   ·simp[h1,h2];simp at ih;omega
   ·simpa [h1,h2]using ih
theorem aa2{boxes:List Box}{out out':List S}(h:∀s∈out,s∈out'){b:Box}(hb:b∈boxes)(h1:b.sec∉out)(h2:b.sec∈out'):nL boxes out'<nL boxes out:=by
 induction boxes with
 |nil=>cases hb
 |cons x r ih=>
  have hle:=aa1 (boxes:=r) h;unfold nL at*;simp only[yx];rcases ko.1 hb with rfl|hb
  ·simp[h1,h2];simp at hle;omega
  ·have:=ih hb;by_cases h3:x.sec∈out
   ·simpa [h3,h _ h3]using this
   ·by_cases h4:x.sec∈out'
    ·simp[h3,h4];simp at this;omega
    ·simpa [h3,h4]using this
theorem PM{boxes:List Box}{out:List S}(h:(dK boxes out).length>out.length):nL boxes (dK boxes out)<nL boxes out:=by
 have:∀(r:List Box) (o:List S),(∀b∈r,b∈boxes)->(dK r o).length>o.length->nL boxes (dK r o)<nL boxes o:=fun r=>by
  induction r with
  |nil=>intro o _ h;exact absurd h (yz _)
  |cons b r ih=>
   intro o hb h;have h':(dK r (hG o b)).length>o.length:=h;show nL boxes (dK r (hG o b))<_;obtain⟨l',e'⟩:=EL r (hG o b);have hsub:∀s∈hG o b,s∈dK r (hG o b):=fun s hs=>by rw[e'];exact jw _ hs
   by_cases hg:hG o b=o
   ·rw[hg]at h'⊢;exact ih o (fun x hx=>hb x (kz _ hx)) h'
   ·have hn:b.sec∉o/\hG o b=o++[b.sec]:=by
     unfold hG at hg⊢;split
     ·rename_i hm;rw[je hm]at hg;exact absurd rfl hg
     ·rename_i hm;rw[jc hm]at hg;split
      ·exact⟨hm,rfl⟩
      ·rename_i hk;rw[jc hk]at hg;exact absurd rfl hg
    refine Nat.lt_of_le_of_lt (aa1 hsub) ?_;rw[hn.2];exact aa2 (fun s hs=>jw _ hs) (hb b qk) hn.1 (by simp)
 exact this boxes out (fun b h=>h) h
theorem openN_spec{boxes:List Box}:∀{f:Nat} {out:List S},nL boxes out<f->
 (∀s∈out,s∈wX boxes f out)/\(∀K:S->Prop,XK boxes K->(∀s∈out,K s)->∀s∈wX boxes f out,K s)/\
 (∀s∈wX boxes f out,s∈out\/∃b∈boxes,b.sec=s)/\(∀b∈boxes,dR (wX boxes f out) b.key=true->b.sec∈wX boxes f out)
 |0,_,h=>absurd h (Nat.not_lt_zero _)
 |f+1,out,h=>by
  obtain⟨l,e⟩:=EL boxes out;have hsub:∀s∈out,s∈dK boxes out:=fun s hs=>by rw[e];exact jw _ hs
  unfold wX;split
  ·rename_i hg;have hf:nL boxes (dK boxes out)<f:=by have:=PM hg;omega
   obtain⟨a1,a2,a3,a4⟩:=openN_spec hf;refine⟨fun s hs=>a1 s (hsub s hs),fun K hK ho=>a2 K hK (LK hK ho),fun s hs=>?_,a4⟩
   rcases a3 s hs with hs|hs
   ·exact pass_from hs
   ·exact .inr hs
  ·rename_i hg;obtain⟨e1,e2⟩:=UN hg;exact⟨hsub,fun K hK ho=>LK hK ho,fun s hs=>pass_from hs,by rw[e1];exact e2⟩
theorem shut_len(boxes:List Box)(out:List S):nL boxes out<boxes.length+1:=Nat.lt_succ_of_le (wq _ _)
theorem pW{known:List S}{boxes:List Box}{s:S}(h:s∈known):s∈hY known boxes:=(openN_spec (shut_len boxes (onceS known))).1 s (GQ.2 h)
theorem LL{known:List S}{boxes:List Box}{K:S->Prop}(hK:XK boxes K)(h:∀s∈known,K s):∀s∈hY known boxes,K s:=
 (openN_spec (shut_len boxes (onceS known))).2.1 K hK fun s hs=>h s (GQ.1 hs)
theorem opened_from{known:List S}{boxes:List Box}{s:S}(h:s∈hY known boxes):s∈known\/∃b∈boxes,b.sec=s:=by
 rcases(openN_spec (shut_len boxes (onceS known))).2.2.1 s h with h|h
 ·exact .inl (GQ.1 h)
 ·exact .inr h
theorem M6{known:List S}{boxes:List Box}{b:Box}(hb:b∈boxes)(h:dR (hY known boxes) b.key=true):b.sec∈hY known boxes:=(openN_spec (shut_len boxes (onceS known))).2.2.2 b hb h
theorem HZ{k k':List S}{bs bs':List Box}(hk:∀s∈k,s∈hY k' bs')(hb:∀b∈bs,b∈bs'):∀s∈hY k bs,s∈hY k' bs':=
 LL (fun b hx l hl hm=>M6 (hb b hx) (RF hl hm)) hk
end Kw
