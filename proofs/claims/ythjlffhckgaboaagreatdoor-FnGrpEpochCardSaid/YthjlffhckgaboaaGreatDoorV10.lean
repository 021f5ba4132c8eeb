import Derived.Test.YthjlffhckgaboaaGreatDoorV09
set_option linter.unusedVariables false
set_option linter.unusedSimpArgs false
set_option linter.unusedSectionVars false
namespace Kw
open Go Go.Proofs
section
variable (L D:Nat)
set_option maxRecDepth 4000 in
theorem as5(hL:1099511627776<=L)(w:World)(z:WG w)(e:Event)(ht:e.text.length<=500000):ev E L (D+316) 62 [.ptr (.imp 0) 0,.agg [.int .i64 e.kind,.int .i64 e.who,.int .i64 e.add,.int .i64 e.remove,.int .i64 e.pos,.str (bs e.text)]] [.cells (wK w)]=some (.tup [],[.cells (wK (step w e))]):=by
 have hjo:=fun hw hp=>as4 L D hL w z e hw hp
 have hcm:=fun hw=>aeO L (D+2) hL w z e hw
 unfold wK at hjo hcm⊢;rw[au2];simp only[KM];rw[pM,jX];unfold step;by_cases hw:aI e.who
 case neg=>
  rw[jc hw,ji hw];simp(disch:=omega) only[K1,cT,↓aA]
 rw[je hw,jd hw];have hcm:=hcm hw;have hjo:=hjo hw;have z8:=z.seats;have zs:=z.said;have zw:=z.wins;have zl:=z.log;have zf:=z.frames;have zt:=z.told;have zp:=z.spy;have zq:=z.stolen;have zg:=z.waits;have w0:=hw.1;have w1:e.who<w.seats.length:=by have:=hw.2;omega
 have w2:e.who<w.said.length:=by have:=hw.2;omega
 have w3:e.who<w.wins.length:=by have:=hw.2;omega
 have hmo:=z.seat (jA w0 w1);obtain⟨s0,s1⟩:=z.saidI _ (jA w0 w2);have hll:hJ .i64 (w.log.length:Int) 1=(w.log.length:Int)-1:=dR (by omega) (by omega)
 have hff:hJ .i64 (w.frames.length:Int) 1=(w.frames.length:Int)-1:=dR (by omega) (by omega)
 by_cases k1:e.kind=1
 ·have hd:decide (e.kind=1)=true:=jd k1;rw[je k1];simp(disch:=omega) only[K1,jY,cT,bM,Nat.reduceAdd,↓aA,bL,jW,hll,hff,hd,hcm,HB]
 rw[jc k1];by_cases k4:e.kind=4
 ·have hd:decide (e.kind=4)=true:=jd k4;have k2:¬e.kind=2:=by omega
  have k3:¬e.kind=3:=by omega
  have k5:¬e.kind=5:=by omega
  have k6:¬e.kind=6:=by omega
  rw[je k4];unfold cR;have hkn:=UT L (D+3) hL (ix w.seats e.who) (JX hmo);have hkl:(eZ (ix w.seats e.who)).length<=5:=by
   unfold eZ;split
   ·have:=(nF hmo).2.1.1;simp;omega
   ·simp
  generalize hm:ix w.seats e.who=m at hkn hkl;simp only[rM]at hkn;cases hi:m.inn with
  |false=>
   rw[je (.inl rfl)];simp(disch:=omega) only[K1,cT,jv,cS,aJ,Int.reduceLE,Nat.reduceAdd,iC,mN,EJ,mO,aW,aQ,↓aA,dU,cV,cW,bJ,kD,aY,iL,kE,kF,kG,kH,kI,kJ,bV,bE,bL,nC,dF,dV,eA,GT,kA,jW,hll,hff,hd,k1,k2,k3,k5,k6,cJ,cK,cP,cQ,hm,hi,↓KM]
  |true=>
   rw[hi]at hkn;by_cases h12:w.stolen.length=12
   ·have h':¬(w.stolen.length:Int)<12:=by omega
    rw[je (.inr h12)];simp(disch:=omega) only[K1,cT,jv,cS,aJ,Int.reduceLE,Nat.reduceAdd,mN,mO,aW,aQ,↓aA,dU,cV,cW,bJ,kD,aY,iL,kE,kF,kG,kH,kI,kJ,bV,bE,bL,nC,dF,dV,eA,kA,jW,hll,hff,hd,k1,k2,k3,k5,k6,cJ,cK,cP,cQ,hm,hi,h',↓KM]
   ·have h':(w.stolen.length:Int)<12:=by omega
    rw[jc (fun x=>x.elim (fun y=>by cases y) h12)]
    simp(disch:=omega) only[K1,cT,jv,aU,aJ,dW,Int.reduceLE,Nat.reduceAdd,iC,mN,EJ,mO,aW,aQ,↓aA,dU,cV,cW,bJ,kD,aY,iL,kE,kF,kG,kH,kI,kJ,bV,bE,bL,nC,dF,dV,eA,GT,kA,jW,hll,hff,hd,k1,k2,k3,k5,k6,cJ,cK,cP,cQ,hm,hi,h',hkn,aF,↓KM]
 rw[jc k4];by_cases k5:e.kind=5
 ·have hd:decide (e.kind=5)=true:=jd k5;have k2:¬e.kind=2:=by omega
  have k3:¬e.kind=3:=by omega
  have k6:¬e.kind=6:=by omega
  rw[je k5];unfold eK;by_cases h40:w.frames.length=40
  ·have h':¬(w.frames.length:Int)<40:=by omega
   rw[je (.inl h40)];simp(disch:=omega) only[K1,cT,jv,cS,aJ,Int.reduceLE,Nat.reduceAdd,mN,mO,aW,aQ,↓aA,dU,cV,cW,bJ,kD,aY,iL,kE,kF,kG,kH,kI,kJ,bV,bE,bL,nC,dF,dV,eA,kA,jW,hll,hff,hd,k1,k2,k3,k4,k6,cJ,cK,cP,cQ,h',↓KM]
  have h':(w.frames.length:Int)<40:=by omega
  generalize hs:ix w.said e.who=n at s0 s1;by_cases h999:n=999
  ·have h2:¬n<999:=by omega
   rw[je (.inr h999)];simp(disch:=omega) only[K1,cT,jv,cS,aJ,Int.reduceLE,Nat.reduceAdd,mN,mO,aW,aQ,↓aA,dU,cV,cW,bJ,kD,aY,iL,kE,kF,kG,kH,kI,kJ,bV,bE,bL,nC,dF,dV,eA,kA,jW,hll,hff,hd,k1,k2,k3,k4,k6,cJ,cK,cP,cQ,h',hs,h2,↓KM]
  have h2:n<999:=by omega
  rw[jc (fun x=>x.elim h40 h999)]
  have hfm:=aa2 L (D+1) hL (ix w.seats e.who) (JX hmo) (n+1) e.text ht;generalize hm:ix w.seats e.who=m at hfm;cases hr:mZ m (n+1) e.text with
  |none=>
   rw[hr]at hfm;simp only[rM]at hfm;simp(disch:=omega) only[K1,cT,jv,cS,aJ,Int.reduceLE,Nat.reduceAdd,mN,mO,aW,aQ,↓aA,dU,cV,cW,bJ,kD,aY,iL,kE,kF,kG,kH,kI,kJ,bV,bE,bL,NZ,nC,dF,dV,eA,kA,jW,hll,hff,hd,k1,k2,k3,k4,k6,cJ,cK,cP,cQ,h',hs,h2,hm,aZ,hfm,↓KM]
  |some f=>
   rw[hr]at hfm;simp only[rM,rF]at hfm;have e3:(⟨f.src,f.key,f.n,f.text⟩:Frame)=f:=rfl;simp(disch:=omega) only[K1,cT,jv,aU,aJ,Int.reduceLE,Nat.reduceAdd,mN,mO,aW,aQ,↓aA,dU,cV,cW,bJ,kD,aY,iL,kE,kF,kG,kH,kI,kJ,bV,bE,bL,NZ,nC,dF,dV,eA,kA,jW,hll,hff,hd,k1,k2,k3,k4,k6,cJ,cK,cP,cQ,h',hs,h2,hm,aZ,hfm,e3,aF,kj,↓KM]
   rfl
 rw[jc k5];by_cases k2:e.kind=2
 ·have hd:decide (e.kind=2)=true:=jd k2;have k3:¬e.kind=3:=by omega
  have k6:¬e.kind=6:=by omega
  rw[je k2];by_cases hp:0<=e.pos/\e.pos<w.log.length
  case neg=>
   have hf:(decide (0<=e.pos)&&decide (e.pos<=(w.log.length:Int)-1))=false:=by
    rw[wg];intro h;simp only[jg,jb]at h;exact hp ⟨h.1,by omega⟩
   rw[jc hp];simp(disch:=omega) only[K1,cT,jv,cS,aJ,Int.reduceLE,Nat.reduceAdd,mN,mO,aW,aQ,↓aA,dU,cV,cW,bJ,kD,aY,iL,kE,kF,kG,kH,kI,kJ,bV,bE,bL,nC,dF,dV,eA,kA,jW,hll,hff,hd,k1,k3,k4,k5,k6,cJ,cK,cP,cQ,hf,↓KM]
  have hf:(decide (0<=e.pos)&&decide (e.pos<=(w.log.length:Int)-1))=true:=by
   rw[jd hp.1,jd (by omega:e.pos<=(w.log.length:Int)-1)];rfl
  obtain⟨p0,p1⟩:=id hp;rw[je hp];unfold dN;have hco:=z.logI _ (jA p0 p1);have hh:=aa0 L (D+1) hL (ix w.seats e.who) (ix w.log e.pos) (JX hmo) (JY hco);generalize hm:ix w.seats e.who=m at hh;generalize hc:ix w.log e.pos=c at hh;simp only[rM,rC]at hh;generalize eB m c=r at hh;have e3:(⟨r.1.inn,r.1.who,r.1.keys,r.1.own,r.1.epoch,r.1.init,r.1.tag⟩:Member)=r.1:=rfl;cases hr:r.2 with
  |false=>
   rw[hr]at hh;simp(disch:=omega) only[K1,cT,Int.reduceLE,Nat.reduceAdd,↓aA,iL,kE,kF,kG,kH,kI,kJ,iT,bV,bE,qA,bL,KG,KH,KI,KJ,KK,KL,KN,KO,KP,KQ,AH,AI,AJ,mX,nK,jW,hll,hff,hd,k1,hf,cJ,hm,hc,hh,hr,↓KM]
  |true=>
   rw[hr]at hh;simp(disch:=omega) only[K1,cT,Int.reduceLE,Nat.reduceAdd,↓aA,iL,kE,kF,kG,kH,kI,kJ,iT,bV,bE,qA,bL,KG,KH,KI,KJ,KK,KL,KN,KO,KP,KQ,AH,AI,AJ,mX,nK,jW,hll,hff,hd,k1,hf,cJ,hm,hc,hh,hr,e3,kj,↓KM]
   rfl
 rw[jc k2];by_cases k3:e.kind=3
 ·have hd:decide (e.kind=3)=true:=jd k3;have k6:¬e.kind=6:=by omega
  rw[je k3];by_cases hp:0<=e.pos/\e.pos<w.log.length
  case neg=>
   have hf:(decide (0<=e.pos)&&decide (e.pos<=(w.log.length:Int)-1))=false:=by
    rw[wg];intro h;simp only[jg,jb]at h;exact hp ⟨h.1,by omega⟩
   rw[jc hp];simp(disch:=omega) only[K1,cT,jv,cS,aJ,Int.reduceLE,Nat.reduceAdd,mN,mO,aW,aQ,↓aA,dU,cV,cW,bJ,kD,aY,iL,kE,kF,kG,kH,kI,kJ,bV,bE,bL,nC,dF,dV,eA,kA,jW,hll,hff,hd,k1,k2,k4,k5,k6,cJ,cK,cP,cQ,hf,↓KM]
  have hf:(decide (0<=e.pos)&&decide (e.pos<=(w.log.length:Int)-1))=true:=by
   rw[jd hp.1,jd (by omega:e.pos<=(w.log.length:Int)-1)];rfl
  rw[je hp];have hjo:=hjo hp;simp(disch:=omega) only[K1,jY,cT,jv,cS,aJ,bM,Int.reduceLE,Nat.reduceAdd,iC,EJ,aW,aQ,↓aA,dU,bJ,aY,iL,kE,kF,kG,kH,kI,kJ,bV,bE,bL,KG,KH,KI,KJ,KK,KL,KN,KO,KP,KQ,AH,AI,AJ,mX,nK,GT,jW,hll,hff,hd,k1,k2,hf,cJ,cK,hjo,HB,↓KM]
 rw[jc k3];by_cases k6:e.kind=6
 ·have hd:decide (e.kind=6)=true:=jd k6;rw[je k6];by_cases hp:0<=e.pos/\e.pos<w.frames.length
  case neg=>
   have hf:(decide (0<=e.pos)&&decide (e.pos<=(w.frames.length:Int)-1))=false:=by
    rw[wg];intro h;simp only[jg,jb]at h;exact hp ⟨h.1,by omega⟩
   rw[jc hp];simp(disch:=omega) only[K1,cT,jv,cS,aJ,Int.reduceLE,Nat.reduceAdd,mN,mO,aW,aQ,↓aA,dU,cV,cW,bJ,kD,aY,iL,kE,kF,kG,kH,kI,kJ,bV,bE,bL,nC,dF,dV,eA,kA,jW,hll,hff,hd,k1,k2,k3,k4,k5,cJ,cK,cP,cQ,hf,↓KM]
  have hf:(decide (0<=e.pos)&&decide (e.pos<=(w.frames.length:Int)-1))=true:=by
   rw[jd hp.1,jd (by omega:e.pos<=(w.frames.length:Int)-1)];rfl
  obtain⟨p0,p1⟩:=id hp;rw[je hp];unfold eL;by_cases h320:w.told.length=320
  ·have h':¬(w.told.length:Int)<320:=by omega
   rw[je h320];simp(disch:=omega) only[K1,cT,jv,cS,aJ,Int.reduceLE,Nat.reduceAdd,mN,mO,aW,aQ,↓aA,dU,cV,cW,bJ,kD,aY,iL,kE,kF,kG,kH,kI,kJ,bV,bE,bL,abK,abL,abM,abN,CC,EH,nC,dF,dV,eA,kA,jW,hll,hff,hd,k1,k2,k3,k4,k5,cJ,cK,cP,cQ,hf,h',↓KM]
  have h':(w.told.length:Int)<320:=by omega
  rw[jc h320];have hfo:=z.framesI _ (jA p0 p1);have hwm:=jA (l:=w.wins) w0 w3;have hg:=aeN L (D+2) hL (ix w.seats e.who) hmo (ix w.wins e.who) (z.winsI _ hwm) (by have:=z.winN _ hwm;omega) (ix w.frames e.pos) hfo
  generalize hm:ix w.seats e.who=m at hg;generalize hn:ix w.wins e.who=wn at hg;generalize hf2:ix w.frames e.pos=f at hg;cases hr:nM m wn f with
  |none=>
   rw[hr]at hg;simp only[rM,rF]at hg;simp(disch:=omega) only[K1,cT,jv,cS,aJ,Int.reduceLE,Nat.reduceAdd,mN,mO,aW,aQ,↓aA,dU,cV,cW,bJ,kD,aY,iL,kE,kF,kG,kH,kI,kJ,bV,bE,bL,abK,abL,abM,abN,CC,EH,nC,yJ,dF,dV,N0,eA,kA,jW,hll,hff,hd,k1,k2,k3,k4,k5,cJ,cK,cP,cQ,hf,h',hm,hn,hf2,hg,↓KM]
  |some y=>
   rw[hr]at hg;simp only[rM,rF]at hg;simp(disch:=omega) only[K1,cT,jv,aU,aJ,Int.reduceLE,Nat.reduceAdd,mN,mO,aW,aQ,↓aA,dU,cV,cW,bJ,kD,aY,iL,kE,kF,kG,kH,kI,kJ,bV,bE,bL,abK,abL,abM,abN,CC,EH,nC,yJ,dF,dV,N0,eA,kA,jW,hll,hff,hd,k1,k2,k3,k4,k5,cJ,cK,cP,cQ,hf,h',hm,hn,hf2,hg,aF,kj,↓KM]
   rfl
 rw[jc k6];simp(disch:=omega) only[K1,cT,jv,cS,aJ,Int.reduceLE,Nat.reduceAdd,mN,mO,aW,aQ,↓aA,dU,cV,cW,bJ,kD,aY,iL,kE,kF,kG,kH,kI,kJ,bV,bE,bL,nC,dF,dV,eA,kA,jW,hll,hff,k1,k2,k3,k4,k5,k6,cJ,cK,cP,cQ,↓KM]
end
end Kw
namespace Kw
theorem acV{w:Int}(h:aI w):∃k:Fin 8,(k.val:Int)=w:=⟨⟨w.toNat,by obtain⟨a,b⟩:=h;omega⟩,by obtain⟨a,b⟩:=h;simp;omega⟩
def mD(a b:Int):List Int:=treMeet (treLeaf a) (treLeaf b)::bH (treMeet (treLeaf a) (treLeaf b))
theorem sR{a b:Int}(ha:aI a)(hb:aI b):(∀n∈mD a b,n∈pathOf a)/\(∀n∈pathOf a,n∈pathOf b->n∈mD a b)/\(mD a b).Nodup/\(treLeaf a∈pathOf b->a=b)/\(mD a b).length<=4:=by
 obtain⟨i,rfl⟩:=acV ha;obtain⟨j,rfl⟩:=acV hb;have hall:∀i j:Fin 8,(∀n∈mD (i.val:Int) (j.val:Int),n∈pathOf (i.val:Int))/\(∀n∈pathOf (i.val:Int),n∈pathOf (j.val:Int)->n∈mD (i.val:Int) (j.val:Int))/\(mD (i.val:Int) (j.val:Int)).Nodup/\(treLeaf (i.val:Int)∈pathOf (j.val:Int)->(i.val:Int)=(j.val:Int))/\(mD (i.val:Int) (j.val:Int)).length<=4:=by decide+kernel
 exact hall i j
theorem kZ{a:Int}(ha:aI a):(pathOf a).Nodup/\(∀n∈pathOf a,0<=n/\n<=14)/\treLeaf a∈pathOf a/\(pathOf a).length=4/\7<=treLeaf a/\treLeaf a<=14:=by
 obtain⟨i,rfl⟩:=acV ha;have hall:∀i:Fin 8,(pathOf (i.val:Int)).Nodup/\(∀n∈pathOf (i.val:Int),0<=n/\n<=14)/\treLeaf (i.val:Int)∈pathOf (i.val:Int)/\(pathOf (i.val:Int)).length=4/\7<=treLeaf (i.val:Int)/\treLeaf (i.val:Int)<=14:=by decide+kernel
 exact hall i
theorem RA{n:Nat}(h:n<=99):(plain n).length<=2:=by
 unfold plain;split
 ·rw[jl];unfold plain;rw[dif_neg (by omega)];simp
 ·simp
theorem acW{s:S}(h:(aN s).op=1):s.length<=4/\secOk s=true:=by
 have hs:=acU h (by decide)
 refine⟨?_,hs⟩;unfold aN at h;obtain⟨t,h1,h2,h3⟩:=dG.1 hs;rw[mC.2 ⟨h1,h2,h3⟩]at h;cases t with
 |new w n=>
  rw[h2];have:=RA (n:=n) h1.2.2;simp only[Sec.str,jf,jl,jk];omega
 |next t=>exact absurd h (by show¬(2:Int)=1;decide)
 |key t=>exact absurd h (by show¬(3:Int)=1;decide)
 |epoch a b=>exact absurd h (by show¬(4:Int)=1;decide)
 |say w t=>exact absurd h (by show¬(5:Int)=1;decide)
 |room n t=>exact absurd h (by show¬(6:Int)=1;decide)
theorem amC{s:S}(h:secOk s=true)(hl:1+s.length<=300):isKey (makKey s)=true/\makKey s≠[]:=by
 unfold makKey mk1;rw[je ⟨h,hl⟩];obtain⟨t,h1,h2,h3⟩:=dG.1 h;refine⟨?_,by simp⟩
 have e:sec ([107]++s)=some (.key t):=mC.2 ⟨h1,by rw[h2];rfl,by simp;omega⟩
 unfold isKey aN;rw[e]
 rfl
theorem pH{A:Type} [Inhabited A](l:List A)(n:Int)(x:A)(h0:0<=n)(h1:n<l.length):ix (l.set n.toNat x) n=x:=by
 obtain⟨k,rfl⟩:=kx h0;rw[ki,aM _ k (by rw[kj];omega)]
 simp
theorem oE{A:Type} [Inhabited A](l:List A)(n m:Int)(x:A)(h0:0<=n)(h1:0<=m)(hne:m≠n):ix (l.set n.toNat x) m=ix l m:=by
 obtain⟨k,rfl⟩:=kx h0;obtain⟨j,rfl⟩:=kx h1;unfold ix;rw[ki,ki];simp only[js,yk];rw[jc (by omega)]
theorem I8:∀(l:List Int) (s:S) (ks:List S),(mP l s ks).length=ks.length
 |[],_,_=>rfl
 |_::l,s,ks=>by rw[mP,I8 l];simp
theorem M1:∀(p:List Int) (s:S) (ks:List S) (n:Int),(∀x∈p,0<=x)->0<=n->n∉p->ix (mP p s ks) n=ix ks n
 |[],_,_,_,_,_,_=>rfl
 |a::p,s,ks,n,hp,h0,hn=>by
  rw[mP,M1 p _ _ n (fun x hx=>hp x (by simp[hx])) h0 (fun h=>hn (by simp[h])),oE _ _ _ _ (hp a (by simp)) h0 (fun e=>hn (by simp[e]))]
theorem RB:∀(p:List Int) (s:S) (ks:List S),p.Nodup->(∀x∈p,0<=x/\x<ks.length)->∀o∈pathGo p s,ix (mP p s ks) o.node=makKey o.sec
 |[],_,_,_,_,o,ho=>by cases ho
 |a::p,s,ks,hd,hp,o,ho=>by
  have e:pathGo (a::p) s=⟨a,s⟩::pathGo p (makNext s):=rfl;rw[e]at ho;rw[wd]at hd;obtain⟨a0,a1⟩:=hp a (by simp)
  rcases kw.1 ho with rfl|ho
  ·rw[mP,M1 p _ _ _ (fun x hx=>(hp x (by simp[hx])).1) a0 hd.1,pH _ _ _ a0 a1]
  ·rw[mP];exact RB p _ _ hd.2 (fun x hx=>by rw[kj];exact hp x (by simp[hx])) o ho
theorem mem_setGo:∀(p:List Int) (s:S) (ks:List S) (x:S),x∈mP p s ks->x∈ks\/∃o∈pathGo p s,x=makKey o.sec
 |[],_,_,_,h=>.inl h
 |a::p,s,ks,x,h=>by
  rw[mP]at h;have e:pathGo (a::p) s=⟨a,s⟩::pathGo p (makNext s):=rfl;rw[e];rcases mem_setGo p _ _ x h with h|⟨o,ho,h⟩
  ·rcases v5 h with h|h
   ·exact .inl h
   ·exact .inr ⟨_,yh ..,h⟩
  ·exact .inr ⟨o,qj _ ho,h⟩
theorem treOk_iff{ks:List S}:treOk ks=true↔ks.length=15/\∀s∈ks,s=[]\/isKey s=true:=by
 unfold treOk;simp only[jg,jb,ku,yf]
theorem sS{p:List Int}{s:S}(hs:secOk s=true)(hl:s.length+p.length<=299):∀o∈pathGo p s,secOk o.sec=true/\o.sec.length<=s.length+p.length/\isKey (makKey o.sec)=true/\makKey o.sec≠[]:=fun o ho=>by
 obtain⟨h1,h2⟩:=qP p s hs (by omega) o ho
 obtain⟨h3,h4⟩:=amC h1 (by omega)
 exact⟨h1,h2,h3,h4⟩
theorem I9{ks:List S}{w:Int}{s:S}(h:treOk ks=true)(hs:secOk s=true)(hl:s.length+(pathOf w).length<=299):treOk (AB ks w s)=true:=by
 rw[treOk_iff]at h⊢;refine⟨by unfold AB;rw[I8];exact h.1,fun x hx=>?_⟩
 rcases mem_setGo _ _ _ x hx with hx|⟨o,ho,rfl⟩
 ·exact h.2 x hx
 ·exact .inr (sS hs hl o ho).2.2.1
theorem mem_clr{ks:List S}{w:Int}{x:S}(h:x∈clr ks w):x∈ks\/x=[]:=by
 unfold clr at h;generalize pathOf w=p at h;induction p generalizing ks with
 |nil=>exact .inl h
 |cons n p ih=>
  rcases ih h with h|h
  ·rcases v5 h with h|h
   ·exact .inl h
   ·exact .inr h
  ·exact .inr h
theorem acX(ks:List S)(w:Int):(clr ks w).length=ks.length:=by
 unfold clr;generalize pathOf w=p;induction p generalizing ks with
 |nil=>rfl
 |cons n ns ih=>simp[ih]
theorem acY(ks:List S)(w:Int)(hw:∀x∈pathOf w,0<=x){n:Int}(h0:0<=n):ix (clr ks w) n=if n∈pathOf w then[]else ix ks n:=by
 unfold clr;generalize pathOf w=p at hw⊢;induction p generalizing ks with
 |nil=>simp
 |cons a p ih=>
  show ix (p.foldl _ (ks.set a.toNat [])) n=_;have ih:=ih (ks.set a.toNat []) (fun x hx=>hw x (by simp[hx]))
  rw[ih];by_cases h1:n∈p
  ·rw[je h1,je (by simp[h1])]
  ·rw[jc h1];by_cases h2:n=a
   ·rw[je (by simp[h2])]
    subst h2;by_cases h3:n<ks.length
    ·exact pH _ _ _ h0 h3
    ·obtain⟨k,rfl⟩:=kx h0;unfold ix;rw[ki,js,ql (by rw[kj];omega)]
     rfl
   ·rw[jc (by simp[h1,h2]),oE _ _ _ _ (hw a (by simp)) h0 h2]
theorem M2{ks:List S}{w:Int}(h:treOk ks=true):treOk (clr ks w)=true:=by
 rw[treOk_iff]at h⊢;refine⟨by rw[acX];exact h.1,fun x hx=>?_⟩
 rcases mem_clr hx with hx|hx
 ·exact h.2 x hx
 ·exact .inl hx
theorem TX{ks:List S}{add remove:Int}{leaf:S}(h:treOk ks=true)(hl:0<=add->isKey leaf=true):treOk (baseT ks add remove leaf)=true:=by
 unfold baseT;simp only;have h1:treOk (if 0<=remove then clr ks remove else ks)=true:=by split;exact M2 h;exact h
 split
 ·rename_i h0;have h2:=M2 (w:=add) h1;rw[treOk_iff]at h2⊢;refine⟨by rw[kj];exact h2.1,fun x hx=>?_⟩
  rcases v5 hx with hx|hx
  ·exact h2.2 x hx
  ·exact .inr (by rw[hx];exact hl h0)
 ·exact h1
theorem WT{ks:List S}{add remove:Int}{leaf:S}{n:Int}(ha: -1<=add/\add<=7)(hr: -1<=remove/\remove<=7)(h0:0<=n)(hl:0<=add->n≠treLeaf add):
 ix (baseT ks add remove leaf) n=if(0<=remove/\n∈pathOf remove)\/(0<=add/\n∈pathOf add)then[]else ix ks n:=by
 unfold baseT;simp only;have h1:ix (if 0<=remove then clr ks remove else ks) n=if 0<=remove/\n∈pathOf remove then[]else ix ks n:=by
  by_cases h:0<=remove
  ·rw[je h,acY _ _ (fun x hx=>((kZ ⟨h,hr.2⟩).2.1 x hx).1) h0]
   by_cases h2:n∈pathOf remove
   ·rw[je h2,je ⟨h,h2⟩]
   ·rw[jc h2,jc (fun x=>h2 x.2)]
  ·rw[jc h,jc (fun x=>h x.1)]
 generalize(if 0<=remove then clr ks remove else ks)=k1 at h1⊢
 by_cases h:0<=add
 ·have pf:=kZ (a:=add) ⟨h,ha.2⟩;rw[je h,oE _ _ _ _ (by omega) h0 (hl h),acY _ _ (fun x hx=>(pf.2.1 x hx).1) h0,h1]
  by_cases h2:n∈pathOf add
  ·rw[je h2,je (.inr ⟨h,h2⟩)]
  ·rw[jc h2];by_cases h3:0<=remove/\n∈pathOf remove
   ·rw[je h3,je (.inl h3)]
   ·rw[jc h3,jc (fun x=>x.elim h3 fun y=>h2 y.2)]
 ·rw[jc h,h1];by_cases h3:0<=remove/\n∈pathOf remove
  ·rw[je h3,je (.inl h3)]
  ·rw[jc h3,jc (fun x=>x.elim h3 fun y=>h y.1)]
end Kw
namespace Kw
theorem RC{w:Int}{ks:List S}{own:List Own}{e:Int}{i t:S}(hw:aI w)(ht:treOk ks=true)(hnd:(own.map (·.node)).Nodup)
 (hin:∀o∈own,o.node∈pathOf w/\secOk o.sec=true/\ix ks o.node=makKey o.sec/\makKey o.sec≠[])
 (hall:∀n∈pathOf w,ix ks n=[]\/∃o∈own,o.node=n) (hl:ix ks (treLeaf w)≠[]) (he:0<=e/\e<=12) (hi:secOk i=true) (htl:t.length<=300):memOk ⟨true,w,ks,own,e,i,t⟩=true:=by
 unfold memOk;simp only[ww,qn,jg,jb];refine⟨hw,ht,?_,?_,he,hi,htl⟩
 ·unfold fitsAll;rw[ku];intro k hk;have hk:=qy.1 hk;simp only at hk;have ek:ix own (k:Int)=own[k]:=aM own k hk;obtain⟨h1,h2,h3,h4⟩:=hin own[k] (jt hk);unfold nL;simp only[jg,jb];rw[ek];refine⟨h1,h2,by rw[h3];exact h4,h3,?_⟩
  unfold dI;have:(own.take k).find? (fun o=>o.node==(own[k]).node)=none:=by
   rw[yr];intro o ho;obtain⟨j,hj,e⟩:=List.mem_take_iff_getElem.1 ho;have hj1:j<k:=by omega
   have hj2:j<own.length:=by omega
   intro hb;have hb:o.node=(own[k]).node:=by simpa using hb
   rw[<-e]at hb;have hp:=wb.1 hnd j k (by simpa using hj2) (by simpa using hk) hj1
   simp only[z0]at hp;exact hp hb
  rw[this]
 ·unfold wD;simp only[jg,ku,yf,jb];refine⟨fun n hn=>?_,hl⟩
  rcases hall n hn with h|⟨o,ho,e⟩
  ·exact .inl h
  ·right;unfold dI;cases hf:own.find? (fun o=>o.node==n)with
   |none=>
    have:=yr.1 hf o ho;simp[e]at this
   |some q=>exact qK (hin q (wy hf)).2.1
structure MemEl(m:Member):Prop where
 who:aI m.who
 tre:treOk m.keys=true
 nd:(m.own.map (·.node)).Nodup
 own:∀o∈m.own,o.node∈pathOf m.who/\secOk o.sec=true/\ix m.keys o.node=makKey o.sec/\makKey o.sec≠[]
 all:∀n∈pathOf m.who,ix m.keys n=[]\/∃o∈m.own,o.node=n
 leaf:ix m.keys (treLeaf m.who)≠[]
 ep:0<=m.epoch/\m.epoch<=12
 init:secOk m.init=true
 tag:m.tag.length<=300
theorem C1{m:Member}(h:memOk m=true)(hi:m.inn=true):MemEl m:=by
 unfold memOk at h;rw[hi]at h;simp only[ww,qn,jg,jb]at h;obtain⟨h1,h2,h3,h4,h5,h6,h7⟩:=h;have hf:∀(k:Nat) (hk:k<m.own.length),(m.own[k]).node∈pathOf m.who/\secOk (m.own[k]).sec=true/\ix m.keys (m.own[k]).node≠[]/\ix m.keys (m.own[k]).node=makKey (m.own[k]).sec/\dI (m.own.take k) (m.own[k]).node=[]:=fun k hk=>by
  have:=ku.1 h3 k (qy.2 hk);unfold nL at this;rw[aM m.own k hk]at this;simpa only[jg,jb]using this
 unfold wD at h4;simp only[jg,ku,yf,jb]at h4;refine⟨h1,h2,?_,fun o ho=>?_,fun n hn=>?_,h4.2,h5,h6,h7⟩
 ·show List.Pairwise _ _;rw[wb];intro i j hi hj hij e;simp only[jz]at hi hj;simp only[z0]at e;have h2:=(hf j hj).2.2.2.2;unfold dI at h2;split at h2
  ·rename_i o ho;obtain⟨k,hk,hok⟩:=qc.1 (List.mem_of_mem_take (wy ho));have h3:=(hf k hk).2.1;rw[hok]at h3;exact qK h3 h2
  ·rename_i ho;have:=yr.1 ho (m.own[i]) (List.mem_take_iff_getElem.2 ⟨i,by omega,rfl⟩)
   simp[e]at this
 ·obtain⟨k,hk,rfl⟩:=qc.1 ho;obtain⟨a,b,c,d,_⟩:=hf k hk;exact⟨a,b,d,by rw[<-d];exact c⟩
 ·rcases h4.1 n hn with h|h
  ·exact .inl h
  ·right;unfold dI at h;split at h
   ·rename_i o ho;exact⟨o,wy ho,by simpa using List.find?_some ho⟩
   ·exact absurd rfl h
theorem mE{m:Member}{fresh:S}{add remove:Int}{leaf key:S}(h:cI m fresh add remove leaf key=true):memOk m=true/\m.inn=true/\(aN fresh).op=1/\m.epoch<12/\bN add m.who/\bN remove m.who/\changes m.keys add remove=true/\twoKeys add leaf key=true/\m.tag.length+fresh.length<=300/\m.init.length<=280:=by
 unfold cI may at h;simp only[jg,jb]at h;obtain⟨h1,h2,⟨h3,⟨h4,h5,h6⟩,h7,h8⟩,h9,h10⟩:=h;exact⟨h1,h3,h2,h4,h5,h6,h7,h8,h9,h10⟩
theorem acZ{own:List Own}(h:own≠[]):ix own ((own.length:Int)-1)∈own:=by
 have hp:=v9.2 h;have e:((own.length:Int)-1)=((own.length-1:Nat):Int):=by omega
 rw[e,aM own (own.length-1) (by omega)]
 exact jt _
theorem sT{m:Member}{fresh:S}{add remove:Int}{leaf key:S}(h:cI m fresh add remove leaf key=true):memOk (e6 m fresh add remove leaf key)=true/\(∀o∈pathGo (pathOf m.who) fresh,secOk o.sec=true/\o.sec.length<=8)/\treOk (baseT m.keys add remove leaf)=true/\secOk (e6 m fresh add remove leaf key).init=true:=by
 obtain⟨h1,h2,h3,h4,h5,h6,h7,h8,h9,h10⟩:=mE h;have z:=C1 h1 h2;obtain⟨f1,f2⟩:=acW h3;obtain⟨p1,p2,p3,p4,_⟩:=kZ z.who;have hb:treOk (baseT m.keys add remove leaf)=true:=TX z.tre fun h0=>by
  unfold twoKeys at h8;rw[jc (by omega)]at h8
  simp only[jg]at h8;exact h8.1
 have hps:=fun o ho=>sS (p:=pathOf m.who) f2 (by omega) o ho
 have hne:pathGo (pathOf m.who) fresh≠[]:=fun e=>by
  have:=wo List.length e;rw[show(pathGo (pathOf m.who) fresh).length=((pathGo (pathOf m.who) fresh).map (·.node)).length by simp,cM,p4]at this
  simp at this
 have hlast:=acZ hne;have hi:secOk (cE m.init (makNext (ix (pathGo (pathOf m.who) fresh) (((pathGo (pathOf m.who) fresh).length:Int)-1)).sec))=true:=by
  obtain⟨l1,l2,_⟩:=hps _ hlast;obtain⟨n1,n2⟩:=WS l1 (by omega)
  rw[CY];apply jd;unfold cE;rw[je ⟨⟨z.init,n1⟩,by omega⟩]
  simp
 have hin:=RB (pathOf m.who) fresh (baseT m.keys add remove leaf) p1 (fun x hx=>⟨(p2 x hx).1,by rw[(treOk_iff.1 hb).1];have:=(p2 x hx).2;omega⟩)
 have hnode:∀n∈pathOf m.who,∃o∈pathGo (pathOf m.who) fresh,o.node=n:=fun n hn=>by
  rw[<-cM (pathOf m.who) fresh]at hn;obtain⟨o,ho,e⟩:=qe.1 hn;exact⟨o,ho,e⟩
 refine⟨?_,fun o ho=>⟨(hps o ho).1,by have:=(hps o ho).2.1;omega⟩,hb,hi⟩
 unfold e6;refine RC z.who (I9 hb f2 (by omega)) ?_ (fun o ho=>?_) (fun n hn=>.inr (hnode n hn)) ?_ ⟨by have:=z.ep.1;omega,by omega⟩ hi (by rw[jl];omega)
 ·show((pathGo (pathOf m.who) fresh).map (·.node)).Nodup;rw[cM];exact p1
 ·have ho:o∈pathGo (pathOf m.who) fresh:=ho;have hk:=hps o ho;refine⟨?_,hk.1,hin o ho,hk.2.2.2⟩;have:o.node∈(pathGo (pathOf m.who) fresh).map (·.node):=qe.2 ⟨o,ho,rfl⟩
  rwa [cM]at this
 ·obtain⟨o,ho,e⟩:=hnode _ p3;have:=hin o ho;rw[e]at this;show ix (mP (pathOf m.who) fresh (baseT m.keys add remove leaf)) (treLeaf m.who)≠[];rw[this];exact(hps o ho).2.2.2
theorem qQ(ks:List S):∀f n:Nat,(7<=n->(coverN f ks n).length<=1)/\(3<=n->(coverN f ks n).length<=2)/\(1<=n->(coverN f ks n).length<=4)
 |0,n=>by simp[coverN]
 |f+1,n=>by
  have e:coverN (f+1) ks n=if ix ks (n:Int)≠[]then[(n:Int)]else if 7<=n then[]else coverN f ks (2*n+1)++coverN f ks (2*n+2):=rfl
  have a:=qQ ks f (2*n+1);have b:=qQ ks f (2*n+2);rw[e];split
  ·simp
  ·split
   ·simp
   ·rw[jl];refine⟨fun h=>by omega,fun h=>?_,fun h=>?_⟩
    ·have:=a.1 (by omega);have:=b.1 (by omega);omega
    ·have:=a.2.1 (by omega);have:=b.2.1 (by omega);omega
theorem BG(ks:List S):∀f n:Nat,∀x∈coverN f ks n,ix ks x≠[]/\0<=x
 |0,n,x,h=>by simp[coverN]at h
 |f+1,n,x,h=>by
  have e:coverN (f+1) ks n=if ix ks (n:Int)≠[]then[(n:Int)]else if 7<=n then[]else coverN f ks (2*n+1)++coverN f ks (2*n+2):=rfl
  rw[e]at h;split at h
  ·rename_i h1;rw[qp.1 h];exact⟨h1,by omega⟩
  ·split at h
   ·cases h
   ·rcases kf.1 h with h|h
    ·exact BG ks f _ x h
    ·exact BG ks f _ x h
end Kw
namespace Kw
theorem ix_ne_mem{l:List S}{x:Int}(h:ix l x≠[]):ix l x∈l:=by
 unfold ix at h⊢;rw[js]at h⊢;cases e:l[x.toNat]? with
 |none=>rw[e]at h;exact absurd rfl h
 |some s=>exact qg e
theorem agL{ks:List S}(h:treOk ks=true){x:Int}(hx:ix ks x≠[]):isKey (ix ks x)=true:=by
 rcases(treOk_iff.1 h).2 _ (ix_ne_mem hx)with e|e
 ·exact absurd e hx
 ·exact e
theorem RD{ks:List S}{add:Int}{sec:S}{cov:List Int}{b:Box}(h:b∈bK ks add sec cov):∃x∈cov,b=⟨ix ks x,sec⟩:=by
 unfold bK at h;obtain⟨x,hx,e⟩:=qe.1 h;exact⟨x,(wl.1 hx).1,e.symm⟩
theorem F5{ks:List S}{add:Int}:∀{own:List Own} {b:Box},b∈boxesGo ks add own->(∃x,b.key=ix ks x/\ix ks x≠[])/\∃o∈own,b.sec=o.sec
 |[],b,h=>by cases h
 |[_],b,h=>by cases h
 |a::c::r,b,h=>by
  have e:boxesGo ks add (a::c::r)=bK ks add c.sec (lH ks (bF a.node))++boxesGo ks add (c::r):=rfl;rw[e]at h;rcases kf.1 h with h|h
  ·obtain⟨x,hx,rfl⟩:=RD h;exact⟨⟨x,rfl,(BG ks 5 _ x hx).1⟩,c,by simp,rfl⟩
  ·obtain⟨h1,o,ho,h2⟩:=F5 h;exact⟨h1,o,by simp[ho],h2⟩
theorem BH(ks:List S)(add:Int)(sec:S)(cov:List Int):(bK ks add sec cov).length<=cov.length:=by
 unfold bK;rw[jz];exact wa _ _
theorem TY{a:Int}(ha:aI a):∃p0 p1 p2 p3,pathOf a=[p0,p1,p2,p3]/\7<=(bF p0).toNat/\3<=(bF p1).toNat/\1<=(bF p2).toNat:=by
 obtain⟨i,rfl⟩:=acV ha;have hall:∀i:Fin 8,7<=(bF ((pathOf (i.val:Int)).getD 0 0)).toNat/\3<=(bF ((pathOf (i.val:Int)).getD 1 0)).toNat/\1<=(bF ((pathOf (i.val:Int)).getD 2 0)).toNat/\(pathOf (i.val:Int)).length=4:=by decide+kernel
 obtain⟨h0,h1,h2,h4⟩:=hall i;generalize pathOf (i.val:Int)=p at h0 h1 h2 h4
 match p,h4 with
 |[a,b,c,d],_=>exact⟨a,b,c,d,rfl,h0,h1,h2⟩
theorem RE{a:Int}(ha:aI a)(ks:List S)(add:Int)(s:S):(boxesGo ks add (pathGo (pathOf a) s)).length<=7:=by
 obtain⟨p0,p1,p2,p3,e,h0,h1,h2⟩:=TY ha;rw[e];show(bK ks add _ (coverN 5 ks (bF p0).toNat)++(bK ks add _ (coverN 5 ks (bF p1).toNat)++(bK ks add _ (coverN 5 ks (bF p2).toNat)++[]))).length<=7;simp only[jl,jk];have a1:=BH ks add (makNext s) (coverN 5 ks (bF p0).toNat);have a2:=BH ks add (makNext (makNext s)) (coverN 5 ks (bF p1).toNat);have a3:=BH ks add (makNext (makNext (makNext s))) (coverN 5 ks (bF p2).toNat);have b1:=(qQ ks 5 (bF p0).toNat).1 h0;have b2:=(qQ ks 5 (bF p1).toNat).2.1 h1;have b3:=(qQ ks 5 (bF p2).toNat).2.2 h2;omega
theorem TZ{m:Member}{fresh:S}{add remove:Int}{leaf key:S}(h:cI m fresh add remove leaf key=true):dJ (jU m fresh add remove leaf key)=true:=by
 obtain⟨h1,h2,h3,h4,h5,h6,h7,h8,h9,h10⟩:=mE h;obtain⟨c1,c2,c3,c4⟩:=sT h;have z:=C1 h1 h2;obtain⟨f1,f2⟩:=acW h3;obtain⟨p1,p2,p3,p4,_⟩:=kZ z.who;have ht:treOk (AB (baseT m.keys add remove leaf) m.who fresh)=true:=I9 c3 f2 (by omega)
 have hbx:jV (boxesGo (baseT m.keys add remove leaf) add (pathGo (pathOf m.who) fresh))=true:=by
  unfold jV;simp only[jg,jb,ku];refine⟨by have:=RE z.who (baseT m.keys add remove leaf) add fresh;omega,fun b hb=>?_⟩
  obtain⟨⟨x,e1,hx⟩,o,ho,e2⟩:=F5 hb;rw[e1,e2];exact⟨oD (agL c3 hx),(c2 o ho).1⟩
 have hbl:=RE z.who (baseT m.keys add remove leaf) add fresh;unfold dJ jU;simp only[jg,jb];refine⟨⟨z.who,h3,h9,h5,h6⟩,ht,hbx,by show(boxesGo _ add (pathGo (pathOf m.who) fresh)).length<=20;omega,?_⟩
 unfold twoKeys at h8;by_cases h0:0<=add
 ·rw[jc (by omega)]at h8⊢
  simp only[jg,jb,je h0]at h8⊢;refine⟨h8.1,h8.2.1,⟨h8.2.2,trivial,trivial⟩,c4,?_⟩;have hm:=(sR z.who ⟨h0,h5.2.1⟩).1 _ (yh ..);have hm2:=(GY z.who ⟨h0,h5.2.1⟩).2;rw[<-hm2];have hne:=(I3 (pathOf m.who) fresh f2 (by omega) (treMeet (treLeaf m.who) (treLeaf add)))
  show secOk (dI (pathGo (pathOf m.who) fresh) (treMeet (treLeaf m.who) (treLeaf add)))=true;unfold dI at hne⊢;split
  ·rename_i o ho;exact(c2 o (wy ho)).1
  ·rename_i ho;rw[ho]at hne;exact absurd hm (hne.1 rfl)
 ·rw[je (by omega)]at h8⊢
  obtain⟨e1,_⟩:=qw h8;simp only[jc h0];exact jd ⟨e1,trivial,trivial,trivial,trivial,trivial⟩
theorem wJ{m m':Member}{c:Commit}{fresh:S}{add remove:Int}{leaf key:S}(h:iD m fresh add remove leaf key=some (m',c)):cI m fresh add remove leaf key=true/\m'=e6 m fresh add remove leaf key/\c=jU m fresh add remove leaf key:=by
 unfold iD at h;split at h
 ·rename_i h1;cases h;exact⟨h1,rfl,rfl⟩
 ·cases h
theorem OO{m:Member}{c:Commit}(h:(eB m c).2=true):memOk (eB m c).1=true/\((eB m c).1.inn=true->m.inn=true/\(eB m c).1.who=m.who):=by
 rw[<-FZ]at h⊢;unfold CZ at h⊢;by_cases h1:memOk m=true
 case neg=>rw[jc h1]at h;cases h
 by_cases h2:dJ c=true
 case neg=>rw[je h1,jc h2]at h;cases h
 by_cases h3:wH m c=true
 case neg=>rw[je h1,je h2,jc h3]at h;cases h
 rw[je h1,je h2,je h3]at h⊢;by_cases h4:c.remove=m.who
 case pos=>
  rw[je h4];exact⟨by decide+kernel,fun x=>by cases x⟩
 rw[jc h4]at h⊢;by_cases h5:tH m.own c.boxes 0<0
 case pos=>rw[je h5]at h;cases h
 rw[jc h5]at h⊢;simp only at h⊢;generalize(ix c.boxes (tH m.own c.boxes 0)).sec=s at h⊢;by_cases h6:(secOk s&&decide (s.length<=292))=true
 case neg=>rw[jc h6]at h;cases h
 rw[je h6]at h⊢;by_cases h7:iO c.keys (pathGo (treMeet (treLeaf m.who) (treLeaf c.sender)::bH (treMeet (treLeaf m.who) (treLeaf c.sender))) s)=true
 case neg=>rw[jc h7]at h;cases h
 rw[je h7]at h⊢;by_cases h8:(FY m c s).init=[]
 case pos=>rw[je h8]at h;cases h
 rw[jc h8];have ht:=h3;rw[Q4 h1 h2]at ht;unfold pF CU at ht;simp only[jg,jb]at ht;obtain⟨hi,⟨ht1,ht2,ht3⟩,hle,hch,hft⟩:=ht;have z:=C1 h1 hi;obtain⟨hs,hck,_,hca,hcr,htl⟩:=wI h2;have hct:treOk c.keys=true:=by
  unfold dJ at h2;simp only[jg]at h2;exact h2.2.1
 simp only[jg,jb]at h6;obtain⟨hs1,hs2⟩:=h6;obtain⟨o1,o2,o3,o4,o5⟩:=sR z.who hs;change iO c.keys (pathGo (mD m.who c.sender) s)=true at h7;have hps:=fun o ho=>sS (p:=mD m.who c.sender) hs1 (by omega) o ho
 have hfr:∀o∈pathGo (mD m.who c.sender) s,ix c.keys o.node=makKey o.sec:=fun o ho=>by
  unfold iO at h7;exact qw (ku.1 h7 o ho)
 obtain⟨q1,q2,q3,q4,_⟩:=kZ z.who;have qs:=kZ hs;have hnode:∀o∈pathGo (mD m.who c.sender) s,o.node∈mD m.who c.sender:=fun o ho=>by
  have:o.node∈(pathGo (mD m.who c.sender) s).map (·.node):=qe.2 ⟨o,ho,rfl⟩
  rwa [cM]at this
 have hkeep:∀n∈pathOf m.who,n∉mD m.who c.sender->ix c.keys n=[]\/ix c.keys n=ix m.keys n:=fun n hn hno=>by
  obtain⟨n0,n1⟩:=q2 n hn;have hns:n∉pathOf c.sender:=fun x=>hno (o2 n hn x)
  have e1:ix c.keys n=ix (kU c.keys (pathOf c.sender) (baseT m.keys c.add c.remove c.leaf)) n:=wo (fun l=>ix l n) hft
  obtain⟨j,rfl⟩:=kx n0;have e2:=oT c.keys (pathOf c.sender) (baseT m.keys c.add c.remove c.leaf) j (fun x hx=>(qs.2.1 x hx).1) (by rw[BF,(treOk_iff.1 z.tre).1];omega)
  rw[jc hns,<-sQ,<-sQ]at e2;rw[e1,e2];have hadd:0<=c.add->((j:Nat):Int)≠treLeaf c.add:=fun h0 e=>by
   have hwa:aI c.add:=⟨h0,hca.2.1⟩;have:=(sR hwa z.who).2.2.2.1 (by rw[<-e];exact hn)
   unfold changes at hch;simp only[jg,yf,jb]at hch;rcases hch.2 with h|h|h
   ·omega
   ·have hl:=z.leaf;unfold hasLeaf at h;rw[this]at h;rw[jd hl]at h;cases h
   ·exact h4 (by rw[<-h,this])
  rw[WT ⟨hca.1,hca.2.1⟩ ⟨hcr.1,hcr.2.1⟩ n0 hadd];split
  ·exact .inl rfl
  ·exact .inr rfl
 have hleaf:ix c.keys (treLeaf m.who)=ix m.keys (treLeaf m.who)\/treLeaf m.who∈mD m.who c.sender:=by
  by_cases hno:treLeaf m.who∈mD m.who c.sender
  ·exact .inr hno
  ·left;have hns:treLeaf m.who∉pathOf c.sender:=fun x=>hno (o2 _ q3 x)
   obtain⟨n0,n1⟩:=q2 _ q3;have e1:ix c.keys (treLeaf m.who)=ix (kU c.keys (pathOf c.sender) (baseT m.keys c.add c.remove c.leaf)) (treLeaf m.who):=wo (fun l=>ix l (treLeaf m.who)) hft
   obtain⟨j,hj⟩:=kx n0;rw[hj]at e1 hns n1⊢;have e2:=oT c.keys (pathOf c.sender) (baseT m.keys c.add c.remove c.leaf) j (fun x hx=>(qs.2.1 x hx).1) (by rw[BF,(treOk_iff.1 z.tre).1];omega)
   rw[jc hns,<-sQ,<-sQ]at e2;rw[e1,e2];have hna:∀x,0<=x->x<=7->x≠m.who->((j:Nat):Int)∉pathOf x:=fun x x0 x7 xne hx=>by
    rw[<-hj]at hx;exact xne ((sR z.who ⟨x0,x7⟩).2.2.2.1 hx).symm
   have hadd:0<=c.add->c.add≠m.who:=fun h0 e=>by
    unfold changes at hch;simp only[jg,yf,jb]at hch;rcases hch.2 with h|h|h
    ·omega
    ·have hl:=z.leaf;unfold hasLeaf at h;rw[e]at h;rw[jd hl]at h;cases h
    ·exact h4 (by rw[<-h,e])
   rw[WT ⟨hca.1,hca.2.1⟩ ⟨hcr.1,hcr.2.1⟩ (by omega) (fun h0 e=>hna _ h0 hca.2.1 (hadd h0) (by rw[e];exact(kZ ⟨h0,hca.2.1⟩).2.2.1))]
   rw[jc];rintro(⟨x0,x1⟩|⟨x0,x1⟩)
   ·exact hna _ x0 hcr.2.1 h4 x1
   ·exact hna _ x0 hca.2.1 (hadd x0) x1
 have hinit:secOk (FY m c s).init=true:=by
  have:secOk (cE m.init (makNext (ix (pathGo (mD m.who c.sender) s) (((pathGo (mD m.who c.sender) s).length:Int)-1)).sec))=decide (cE m.init (makNext (ix (pathGo (mD m.who c.sender) s) (((pathGo (mD m.who c.sender) s).length:Int)-1)).sec)≠[]):=CY _ _;exact this.trans (jd h8)
 refine⟨?_,fun _=>⟨hi,rfl⟩⟩
 unfold FY at hinit⊢;simp only at hinit⊢;change memOk ⟨true,m.who,c.keys,nT c.keys m.keys (mD m.who c.sender) m.own++pathGo (mD m.who c.sender) s,_,_,_⟩=true;have hkm:∀o∈nT c.keys m.keys (mD m.who c.sender) m.own,o∈m.own/\o.node∉mD m.who c.sender/\ix c.keys o.node=ix m.keys o.node:=fun o ho=>by
  unfold nT at ho;have:=wl.1 ho;simp only[jg,ye,jh,jb]at this;exact this
 refine RC z.who hct ?_ (fun o ho=>?_) (fun n hn=>?_) ?_ ⟨by have:=z.ep.1;omega,by omega⟩ hinit (by rw[jl,<-ht1];omega)
 ·rw[List.map_append,cM,qo];refine⟨?_,o3,?_⟩
  ·unfold nT;exact List.Pairwise.sublist (List.Sublist.map _ List.filter_sublist) z.nd
  ·intro a ha b hb e;obtain⟨o,ho,rfl⟩:=qe.1 ha;subst e;exact(hkm o ho).2.1 hb
 ·rcases kf.1 ho with ho|ho
  ·obtain⟨a,b,d⟩:=hkm o ho;obtain⟨e1,e2,e3,e4⟩:=z.own o a;exact⟨e1,e2,d.trans e3,e4⟩
  ·exact⟨o1 _ (hnode o ho),(hps o ho).1,hfr o ho,(hps o ho).2.2.2⟩
 ·by_cases hno:n∈mD m.who c.sender
  ·right;rw[<-cM (mD m.who c.sender) s]at hno;obtain⟨o,ho,e⟩:=qe.1 hno;exact⟨o,jr _ ho,e⟩
  ·by_cases hz:ix c.keys n=[]
   ·exact .inl hz
   ·right;have hk:=(hkeep n hn hno).resolve_left hz;rcases z.all n hn with h|⟨o,ho,e⟩
    ·exact absurd (hk.trans h) hz
    ·refine⟨o,kb _ ?_,e⟩;unfold nT;rw[wl];refine⟨ho,?_⟩;simp only[jg,ye,jh,jb];rw[e];exact⟨hno,hk⟩
 ·rcases hleaf with h|h
  ·rw[h];exact z.leaf
  ·rw[<-cM (mD m.who c.sender) s]at h;obtain⟨o,ho,e⟩:=qe.1 h;rw[<-e,hfr o ho];exact(hps o ho).2.2.2
end Kw
namespace Kw
theorem EU{w n:Int}(hw:aI w)(h1:1<=n)(h2:n<=99):secOk (aV w n)=true/\(aN (aV w n)).op=1:=by
 obtain⟨w0,w1⟩:=id hw;have e:sec (aV w n)=some (.new w.toNat n.toNat):=mC.2 ⟨⟨by omega,by omega,by omega⟩,by
  unfold aV;rw[je ⟨hw,h1,h2⟩]
  rfl,by
  unfold aV;rw[je ⟨hw,h1,h2⟩];have:=RA (n:=n.toNat) (by omega)
  simp only[jl,jf,jk,CR];omega⟩
 constructor
 ·unfold secOk;rw[e];rfl
 ·unfold aN;rw[e];rfl
theorem M3(x:Int)(r:List Int)(n:Int):iH (x::r) n=if n<x then x::iH r n else n::x::r:=by
 unfold iH;rw[List.takeWhile_cons,List.dropWhile_cons];by_cases h:n<x
 ·rw[je h,jd h];rfl
 ·rw[jc h,ji h];rfl
theorem mem_insL(l:List Int)(n x:Int):x∈iH l n↔x=n\/x∈l:=by
 induction l with
 |nil=>simp[iH]
 |cons a r ih=>
  rw[M3];split
  ·rw[kw,ih,kw];constructor
   ·rintro(h|h|h)
    ·exact .inr (.inl h)
    ·exact .inl h
    ·exact .inr (.inr h)
   ·rintro(h|h|h)
    ·exact .inr (.inl h)
    ·exact .inl h
    ·exact .inr (.inr h)
  ·rw[kw]
theorem YK(l:List Int)(n:Int)(h:l.Pairwise (·> ·))(hn:n∉l):(iH l n).Pairwise (·> ·):=by
 induction l with
 |nil=>simp[iH]
 |cons a r ih=>
  rw[Je]at h;rw[M3];have hne:n≠a:=fun e=>hn (by simp[e])
  split
  ·rename_i hlt;rw[Je];refine⟨fun x hx=>?_,ih h.2 (fun y=>hn (by simp[y]))⟩
   rcases(mem_insL r n x).1 hx with rfl|hx
   ·exact hlt
   ·exact h.1 x hx
  ·rename_i hge;rw[Je,Je];refine⟨fun x hx=>?_,h⟩
   rcases kw.1 hx with rfl|hx
   ·show x<n;omega
   ·have:=h.1 x hx;show x<n;have:x<a:=this;omega
theorem ad0{l:List Int}{M:Int}(h:l.Pairwise (·> ·))(hm:M∈l)(hle:∀x∈l,x<=M):ix l 0=M:=by
 cases l with
 |nil=>cases hm
 |cons a r=>
  show a=M;rw[Je]at h;rcases kw.1 hm with e|hm
  ·exact e.symm
  ·have h1:M<a:=h.1 M hm;have h2:=hle a (by simp)
   omega
theorem EV{w:Win}:winOk w=true↔(aN w.key).op=5/\(1<=w.top/\w.top<=999)/\w.seen≠[]/\ix w.seen 0=w.top/\w.seen.Pairwise (·> ·)/\∀x∈w.seen,w.top-8<x/\1<=x:=by
 unfold winOk;simp only[jg,jb,ku,qy];constructor
 ·rintro⟨⟨h1,h2,h3,h4,h5⟩,h6⟩;have hstep:∀k:Nat,k+1<w.seen.length->ix w.seen ((k+1:Nat):Int)<ix w.seen (k:Int):=fun k hk=>by
   rcases h6 (k+1) hk with h|h
   ·omega
   ·rw[show k+1-1=k by omega]at h
    exact h.1
  have hlt:∀d i:Nat,i+d+1<w.seen.length->ix w.seen ((i+d+1:Nat):Int)<ix w.seen (i:Int):=fun d=>by
   induction d with
   |zero=>intro i hi;exact hstep i hi
   |succ d ih=>
    intro i hi;have a:=ih i (by omega)
    have b:=hstep (i+d+1) (by omega)
    rw[show i+(d+1)+1=i+d+1+1 by omega]
    omega
  refine⟨h1,⟨h2,h3⟩,h4,h5,?_,fun x hx=>?_⟩
  ·rw[wb];intro i j hi hj hij;have:=hlt (j-i-1) i (by omega)
   rw[show i+(j-i-1)+1=j by omega,aM _ i hi,aM _ j hj]at this
   exact this
  ·obtain⟨k,hk,rfl⟩:=qc.1 hx;rcases h6 k hk with h|h
   ·subst h;have e:w.seen[0]=w.top:=by rw[<-h5];exact(aM _ 0 hk).symm
    rw[e];omega
   ·rw[aM _ k hk]at h;exact h.2
 ·rintro⟨h1,⟨h2,h3⟩,h4,h5,h6,h7⟩;refine⟨⟨h1,h2,h3,h4,h5⟩,fun k hk=>?_⟩
  by_cases h0:k=0
  ·exact .inl h0
  ·right;rw[wb]at h6;have:=h6 (k-1) k (by omega) hk (by omega)
   rw[aM _ k hk,aM _ (k-1) (by omega)]
   exact⟨this,h7 _ (jt hk)⟩
theorem T0{w w':Win}{n:Int}(hw:winOk w=true)(h1:1<=n)(h2:n<=999)(h:winTake w n=some w'):winOk w'=true/\w'.key=w.key:=by
 rw[F4]at h;split at h
 ·cases h
 ·rename_i hb;cases h;obtain⟨k1,⟨k2,k3⟩,k4,k5,k6,k7⟩:=EV.1 hw;have hn:n∉w.seen:=fun x=>hb (.inl x)
  have ht:w.top∈w.seen:=by
   rw[<-k5];cases hs:w.seen with
   |nil=>exact absurd hs k4
   |cons a r=>exact yh ..
  have hd:=YK w.seen n k6 hn;have hle:∀x∈w.seen,x<=w.top:=fun x hx=>by
   cases hs:w.seen with
   |nil=>exact absurd hs k4
   |cons a r=>
    rw[hs]at k5 k6 hx;have e:a=w.top:=k5;rw[Je]at k6;rcases kw.1 hx with rfl|hx
    ·omega
    ·have:x<a:=k6.1 x hx;omega
  have hmem:∀x,x∈(iH w.seen n).filter (fun x=>!decide (x<=max w.top n-8))↔(x=n\/x∈w.seen)/\max w.top n-8<x:=fun x=>by
   rw[wl,mem_insL];simp only[ye,jh];constructor
   ·rintro⟨a,b⟩;exact⟨a,by omega⟩
   ·rintro⟨a,b⟩;exact⟨a,by omega⟩
  have hmax:max w.top n∈(iH w.seen n).filter (fun x=>!decide (x<=max w.top n-8)):=by
   rw[hmem];refine⟨?_,by omega⟩
   rcases Int.le_total w.top n with h|h
   ·left;omega
   ·right;rw[Int.max_eq_left h];exact ht
  refine⟨EV.2 ⟨k1,⟨by show 1<=max w.top n;omega,by show max w.top n<=999;omega⟩,List.ne_nil_of_mem hmax,?_,hd.filter _,fun x hx=>?_⟩,rfl⟩
  ·show ix ((iH w.seen n).filter (fun x=>!decide (x<=max w.top n-8))) 0=max w.top n
   refine ad0 (hd.filter _) hmax fun x hx=>?_
   ·rcases((hmem x).1 hx).1 with rfl|h
    ·omega
    ·have:=hle x h;omega
  ·obtain⟨a,b⟩:=(hmem x).1 hx;refine⟨b,?_⟩;rcases a with rfl|a
   ·exact h1
   ·exact(k7 x a).2
theorem winAt_cases:∀(l:List Win) (key:S) (k:Nat),(∃j:Nat,∃h:j<l.length,winAt l key k=((k+j:Nat):Int)/\l[j].key=key)\/(winAt l key k= -1/\∀x∈l,x.key≠key)
 |[],_,_=>.inr ⟨rfl,by simp⟩
 |a::r,key,k=>by
  have e:winAt (a::r) key k=if a.key=key then(k:Int)else winAt r key (k+1):=rfl
  rw[e];by_cases h:a.key=key
  ·rw[je h];exact .inl ⟨0,by simp,by simp,h⟩
  ·rw[jc h];rcases winAt_cases r key (k+1)with⟨j,hj,h1,h2⟩|⟨h1,h2⟩
   ·exact .inl ⟨j+1,by simpa using hj,by rw[h1];congr 1;omega,h2⟩
   ·refine .inr ⟨h1,fun x hx=>?_⟩
    rcases kw.1 hx with rfl|hx
    ·exact h
    ·exact h2 x hx
theorem F6:∀(l:List Win) (k:Nat),(l.map (·.key)).Nodup->∀(j:Nat) (hj:j<l.length),winAt l l[j].key k=((k+j:Nat):Int)
 |[],_,_,j,hj=>by simp at hj
 |a::r,k,h,j,hj=>by
  rw[wt,wd]at h;have e:∀key,winAt (a::r) key k=if a.key=key then(k:Int)else winAt r key (k+1):=fun _=>rfl
  rw[e];cases j with
  |zero=>rw[je (by rfl)];rfl
  |succ j=>
   have hj':j<r.length:=by simpa using hj
   have hne:a.key≠r[j].key:=fun e=>h.1 (qe.2 ⟨r[j],jt hj',e.symm⟩)
   have e2:(a::r)[j+1]=r[j]:=rfl;rw[e2,jc hne,F6 r (k+1) h.2 j hj']
   congr 1;omega
theorem F7:∀(l:List Win) (key:S) (k j:Nat),winAt l key k=((k+j:Nat):Int)->∀(i:Nat) (_:i<j) (hl:i<l.length),l[i].key≠key
 |[],_,_,_,_,_,_,hl=>by simp at hl
 |a::r,key,k,j,h,i,hi,hl=>by
  have e:winAt (a::r) key k=if a.key=key then(k:Int)else winAt r key (k+1):=rfl
  rw[e]at h;split at h
  ·omega
  ·rename_i hne;cases i with
   |zero=>exact hne
   |succ i=>exact F7 r key (k+1) (j-1) (by rw[h];congr 1;omega) i (by omega) (by simpa using hl)
theorem BI{l:List Win}:oU l=true↔(∀x∈l,winOk x=true)/\(l.map (·.key)).Nodup:=by
 constructor
 ·intro h;refine⟨fun x hx=>oV h hx,?_⟩
  unfold oU at h;simp only[ku,qy,jg,jb]at h;show List.Pairwise _ _;rw[wb];intro i j hi hj hij e;simp only[jz]at hi hj;simp only[z0]at e;have h1:=(h j hj).2;rw[aM l j hj]at h1;exact F7 l l[j].key 0 j (by rw[h1];congr 1;omega) i hij hi e
 ·rintro⟨h1,h2⟩;unfold oU;simp only[ku,qy,jg,jb];intro k hk;rw[aM l k hk];exact⟨h1 _ (jt hk),by rw[F6 l 0 h2 k hk];congr 1;omega⟩
theorem T1{m:Member}{wins x:List Win}{f:Frame}(hw:oU wins=true)(h:nM m wins f=some x):oU x=true/\x.length<=wins.length+1:=by
 unfold nM at h;split at h
 case isFalse=>cases h
 rename_i hh;have hf:fraOk f=true:=by
  unfold wE at hh;simp only[jg]at hh;exact hh.2.1
 obtain⟨_,_,hsrc,f1,f2⟩:=nG hf;obtain⟨w1,w2⟩:=BI.1 hw;have hop:(aN f.key).op=5:=by
  unfold fraOk at hf;simp only[jg,jb]at hf;exact hf.1.2.1
 simp only at h;rcases winAt_cases wins f.key 0 with⟨j,hj,e,hk⟩|⟨e,hk⟩
 ·rw[e,jc (by omega)]at h
  have ei:ix wins ((0+j:Nat):Int)=wins[j]:=by rw[qu,aM wins j hj]
  rw[ei]at h;split at h
  case h_2=>cases h
  rename_i y hy;cases h;obtain⟨y1,y2⟩:=T0 (w1 _ (jt hj)) f1 f2 hy;refine⟨BI.2 ⟨fun z hz=>?_,?_⟩,by rw[kj];omega⟩
  ·rcases v5 hz with hz|hz
   ·exact w1 z hz
   ·rw[hz];exact y1
  ·rw[List.map_set,y2,show((0+j:Nat):Int).toNat=j by omega]
   have:(wins.map (·.key)).set j wins[j].key=wins.map (·.key):=by
    have:=List.set_getElem_self (show j< (wins.map (·.key)).length by simpa using hj)
    simpa using this
   rw[this];exact w2
 ·rw[e,je (by omega)]at h
  cases h;refine⟨BI.2 ⟨fun z hz=>?_,?_⟩,by simp⟩
  ·rcases kf.1 hz with hz|hz
   ·exact w1 z hz
   ·rw[qp.1 hz];exact EV.2 ⟨hop,⟨f1,f2⟩,by simp,rfl,by simp,fun x hx=>by
     have:=qp.1 hx;subst this;show f.n-8<f.n/\1<=f.n;omega⟩
  ·rw[List.map_append,qo];refine⟨w2,by simp,fun a ha b hb e=>?_⟩
   obtain⟨z,hz,rfl⟩:=qe.1 ha;rw[List.map_singleton,qp]at hb;exact hk z hz (by rw[e,hb])
theorem T2{m:Member}{n:Int}{text:S}{f:Frame}(h:mZ m n text=some f):fraOk f=true:=by
 unfold mZ at h;split at h
 case isFalse=>cases h
 rename_i hc;cases h;obtain⟨h1,h2,h3,h4,h5,h6⟩:=hc;have hw:=(kO h1 h2).1;obtain⟨s1,s2⟩:=Q7 hw h6;unfold fraOk;simp only[jg,jb];exact⟨⟨hw,s1,s2,h3,h4⟩,h5⟩
theorem RF{m:Member}(h:memOk m=true):(∀s∈eZ m,secOk s=true)/\(eZ m).length<=6:=by
 unfold eZ;split
 ·rename_i hi;have z:=C1 h hi.2;have hl:=(nF h).2.1.1;refine⟨fun s hs=>?_,by simp;omega⟩
  rcases kf.1 hs with hs|hs
  ·obtain⟨o,ho,rfl⟩:=qe.1 hs;exact(z.own o ho).2.1
  ·rw[qp.1 hs];exact z.init
 ·exact⟨by simp,by simp⟩
theorem RG{w:Int}(hw:aI w):memOk (d8 w (aV w 1) (aV w 2))=true/\(d8 w (aV w 1) (aV w 2)).who=w:=by
 obtain⟨i,rfl⟩:=acV hw;have hall:∀i:Fin 8,memOk (d8 (i.val:Int) (aV (i.val:Int) 1) (aV (i.val:Int) 2))=true/\(d8 (i.val:Int) (aV (i.val:Int) 1) (aV (i.val:Int) 2)).who=(i.val:Int):=by decide+kernel
 exact hall i
end Kw
namespace Kw
theorem YL{A:Type} [Inhabited A]{l:List A}{n:Int}(h0:0<=n)(h1:n<l.length):ix l n∈l:=by
 obtain⟨k,rfl⟩:=kx h0;rw[aM l k (by omega)]
 exact jt _
theorem yU{A:Type}(l:List A)(i:Int)(x:A):(dH l i x).length=l.length:=by simp[dH]
theorem mem_set1'{A:Type}{l:List A}{i:Int}{x y:A}(h:y∈dH l i x):y∈l\/y=x:=v5 h
theorem RH:memOk bI=true:=by decide+kernel
theorem WG.new{who:Int}(hw:aI who):WG (bR who):=by
 unfold bR;rw[je hw];obtain⟨f1,f2⟩:=RG hw;refine{seats:=by simp,fresh:=by simp,said:=by simp,wins:=by simp,log:=by simp,waits:=by simp,frames:=by simp,stolen:=by simp,spy:=by simp,told:=by simp,mem:=?_,freshI:=?_,saidI:=?_,winsI:=?_,logI:=by simp,waitsI:=by simp,spyI:=by simp,stolenI:=by simp,framesI:=by simp,toldI:=by simp,waitsLog:=by simp,winN:=?_,spyN:=by simp}
 ·intro k hk;rw[aM _ k (by simpa using hk)]
  simp only[z0,List.getElem_range];by_cases h:(k:Int)=who
  ·rw[je h];exact⟨f1,fun _=>by rw[f2,h]⟩
  ·rw[jc h];exact⟨RH,fun x=>by cases x⟩
 ·intro n hn;obtain⟨k,_,rfl⟩:=qe.1 hn;split<;>omega
 ·intro n hn;rw[yv hn];omega
 ·intro l hl;rw[yv hl];rfl
 ·intro l hl;rw[yv hl];simp
theorem ad1{l:List Member}{i:Int}{m:Member}(hl:l.length=8)(hi:aI i)(h:∀k:Nat,k<8->memOk (ix l (k:Int))=true/\((ix l (k:Int)).inn=true->(ix l (k:Int)).who=k))(hm:memOk m=true)(hw:m.inn=true->m.who=i):
 ∀k:Nat,k<8->memOk (ix (dH l i m) (k:Int))=true/\((ix (dH l i m) (k:Int)).inn=true->(ix (dH l i m) (k:Int)).who=k):=by
 obtain⟨i0,i1⟩:=hi;intro k hk;unfold dH;by_cases e:(k:Int)=i
 ·subst e;rw[pH _ _ _ i0 (by omega)]
  exact⟨hm,hw⟩
 ·rw[oE _ _ _ _ i0 (by omega) e]
  exact h k hk
theorem WG.seatSet{w:World}(z:WG w){i:Int}{m:Member}(hi:aI i)(hm:memOk m=true)(hw:m.inn=true->m.who=i):WG {w with seats:=dH w.seats i m}:=
 {z with
  seats:=by show(dH _ _ _).length=8;rw[yU];exact z.seats
  mem:=ad1 z.seats hi z.mem hm hw}
theorem WG.at{w:World}(z:WG w){i:Int}(hi:aI i):memOk (ix w.seats i)=true/\((ix w.seats i).inn=true->(ix w.seats i).who=i):=by
 obtain⟨i0,i1⟩:=hi;obtain⟨k,rfl⟩:=kx i0;exact z.mem k (by omega)
theorem WG.hear{w:World}(z:WG w){who pos:Int}(hw:aI who):WG (dN w who pos):=by
 unfold dN;simp only;split
 ·rename_i h;obtain⟨h1,h2⟩:=OO h;exact z.seatSet hw h1 fun hi=>by
   obtain⟨a,b⟩:=h2 hi;rw[b,(z.at hw).2 a]
 ·exact z
theorem OP{w:Int}{leaf key:S}{c:Commit}{m:Member}(h:iP w leaf key c=some m):memOk m=true/\m.who=w/\m.inn=true:=by
 unfold iP at h;split at h
 ·rename_i hc;cases h;exact⟨hc.2.2.2.2.2.2.2.2,rfl,rfl⟩
 ·cases h
theorem WG.join{w:World}(z:WG w){who pos:Int}(hw:aI who):WG (dC w who pos):=by
 unfold dC;split
 ·exact z
 ·have:∀(l:List Wait) (k:Nat),WG (joinGo w who pos l k):=fun l=>by
   induction l with
   |nil=>intro k;exact z
   |cons x r ih=>
    intro k;rw[joinGo];split
    ·split
     ·rename_i m hm;obtain⟨h1,h2,_⟩:=OP hm;have z2:=z.seatSet hw h1 fun _=>h2
      have hle:(w.waits.eraseIdx k).length<=w.waits.length:=by rw[List.length_eraseIdx];split<;>omega
      exact{z2 with
       waits:=jx hle z.waits
       waitsLog:=jx hle z.waitsLog
       waitsI:=fun y hy=>z.waitsI y (List.mem_of_mem_eraseIdx hy)}
     ·exact ih (k+1)
    ·exact ih (k+1)
  exact this _ _
theorem WG.steal{w:World}(z:WG w){who:Int}(hw:aI who):WG (cR w who):=by
 unfold cR;split
 ·exact z
 ·rename_i h;obtain⟨h1,_⟩:=z.at hw;obtain⟨k1,k2⟩:=RF h1;have h12:w.stolen.length≠12:=fun e=>h (.inr e)
  have a:=z.stolen;have b:=z.spyN;exact{z with
   stolen:=by show(w.stolen++_).length<=12;simp;omega
   spy:=by show(w.spy++_).length<=72;rw[jl];omega
   spyN:=by show(w.spy++_).length<=6*(w.stolen++_).length;rw[jl,jl];simp only[jf,jk];omega
   spyI:=fun s hs=>by
    rcases kf.1 hs with hs|hs
    ·exact z.spyI s hs
    ·exact k1 s hs
   stolenI:=fun x hx=>by
    rcases kf.1 hx with hx|hx
    ·exact z.stolenI x hx
    ·rw[qp.1 hx];exact⟨hw,(nF h1).2.2.2⟩}
theorem WG.say{w:World}(z:WG w){who:Int}{text:S}(hw:aI who):WG (eK w who text):=by
 unfold eK;split
 ·exact z
 ·rename_i h;split
  ·rename_i f hf;have hok:=T2 hf;have h40:w.frames.length≠40:=fun e=>h (.inl e)
   have h999:ix w.said who≠999:=fun e=>h (.inr e)
   have a:=z.frames;have zs:=z.said;obtain⟨w0,w1⟩:=hw;obtain⟨s0,s1⟩:=z.saidI _ (YL (l:=w.said) w0 (by omega))
   exact{z with
    frames:=by show(w.frames++_).length<=40;simp;omega
    said:=by show(dH _ _ _).length=8;rw[yU];exact z.said
    saidI:=fun n hn=>by
     rcases mem_set1' hn with hn|hn
     ·exact z.saidI n hn
     ·rw[hn];omega
    framesI:=fun g hg=>by
     rcases kf.1 hg with hg|hg
     ·exact z.framesI g hg
     ·rw[qp.1 hg];exact hok
    toldI:=fun x hx=>by
     obtain⟨b1,b2,b3⟩:=z.toldI x hx;exact⟨b1,b2,by show x.pos< ((w.frames++_).length:Nat);rw[jl];omega⟩}
  ·exact z
theorem WG.get{w:World}(z:WG w){who pos:Int}(hw:aI who)(hp:0<=pos/\pos<w.frames.length):WG (eL w who pos):=by
 unfold eL;split
 ·exact z
 ·rename_i h;split
  ·rename_i x hx;obtain⟨w0,w1⟩:=id hw;have zw:=z.wins;have hm:=YL (l:=w.wins) w0 (by omega)
   obtain⟨x1,x2⟩:=T1 (z.winsI _ hm) hx;have hn:=z.winN _ hm;have a:=z.told;exact{z with
    told:=by show(w.told++_).length<=320;simp;omega
    wins:=by show(dH _ _ _).length=8;rw[yU];exact z.wins
    winsI:=fun l hl=>by
     rcases mem_set1' hl with hl|hl
     ·exact z.winsI l hl
     ·rw[hl];exact x1
    winN:=fun l hl=>by
     show l.length<=(w.told++_).length;rw[jl];simp only[jf,jk];rcases mem_set1' hl with hl|hl
     ·have:=z.winN l hl;omega
     ·rw[hl];omega
    toldI:=fun y hy=>by
     rcases kf.1 hy with hy|hy
     ·exact z.toldI y hy
     ·rw[qp.1 hy];exact⟨hw,hp⟩}
  ·exact z
theorem WG.commitEnd{w:World}(z:WG w){e:Event}(hw:aI e.who)(h16:w.log.length≠16)(h99:¬99<=ix w.fresh e.who)(ha: -1<=e.add/\e.add<=7)(h98:¬(0<=e.add/\98<=ix w.fresh e.add))(lf ky:S)(hlf:0<=e.add->secOk lf=true/\secOk ky=true):WG (commitEnd w e lf ky):=by
 unfold Kw.commitEnd;split
 ·exact z
 ·rename_i m c hm;obtain⟨h1,h2,h3⟩:=wJ hm;obtain⟨p1,p2,p3,p4,p5,_⟩:=mE h1;obtain⟨w0,w1⟩:=id hw;have zf:=z.fresh;have zl:=z.log;have zw:=z.waits;have zwl:=z.waitsLog;have hwho:=(z.at hw).2 p2;have hmo:memOk m=true:=by rw[h2];exact(sT h1).1
  have hmw:m.who=e.who:=by rw[h2];exact hwho
  have hco:dJ c=true:=by rw[h3];exact TZ h1
  obtain⟨f0,f1⟩:=z.freshI _ (YL (l:=w.fresh) w0 (by omega))
  have hF:∀n∈dH w.fresh e.who (ix w.fresh e.who+1),0<=n/\n<=99:=fun n hn=>by
   rcases mem_set1' hn with hn|hn
   ·exact z.freshI n hn
   ·rw[hn];omega
  have z2:=z.seatSet hw hmo fun _=>hmw
  have hlen:(w.log++[c]).length=w.log.length+1:=by simp
  exact{z2 with
   log:=by show(w.log++[c]).length<=16;omega
   logI:=fun d hd=>by
    rcases kf.1 hd with hd|hd
    ·exact z.logI d hd
    ·rw[qp.1 hd];exact hco
   fresh:=by
    show(if 0<=e.add then _ else _:List Int).length=8
    split<;>simp only[yU]<;>exact zf
   freshI:=fun n hn=>by
    change n∈(if 0<=e.add then _ else _:List Int)at hn
    split at hn
    ·rename_i h0;rcases mem_set1' hn with hn|hn
     ·exact hF n hn
     ·have hne:e.add≠e.who:=by
       rw[hwho]at p5;exact p5.2.2
      have:ix (dH w.fresh e.who (ix w.fresh e.who+1)) e.add=ix w.fresh e.add:=oE _ _ _ _ w0 h0 hne;rw[hn,this];obtain⟨g0,g1⟩:=z.freshI _ (YL (l:=w.fresh) h0 (by omega))
      have:¬98<=ix w.fresh e.add:=fun x=>h98 ⟨h0,x⟩
      omega
    ·exact hF n hn
   waits:=by
    show(if 0<=e.add then _ else _:List Wait).length<=16
    split
    ·rw[jl];simp only[jf,jk];omega
    ·exact zw
   waitsLog:=by
    show(if 0<=e.add then _ else _:List Wait).length<=(w.log++[c]).length
    split
    ·rw[jl];simp only[jf,jk];omega
    ·omega
   waitsI:=fun x hx=>by
    have hold:∀y∈w.waits,aI y.who/\(0<=y.pos/\y.pos< ((w.log++[c]).length:Nat))/\secOk y.leaf=true/\secOk y.key=true:=fun y hy=>by
     obtain⟨b1,⟨b2,b3⟩,b4⟩:=z.waitsI y hy;exact⟨b1,⟨b2,by omega⟩,b4⟩
    change x∈(if 0<=e.add then _ else _:List Wait)at hx
    split at hx
    ·rename_i h0;rcases kf.1 hx with hx|hx
     ·exact hold x hx
     ·rw[qp.1 hx];exact⟨⟨h0,ha.2⟩,⟨by show(0:Int)<=(w.log.length:Int);omega,by show(w.log.length:Int)< ((w.log++[c]).length:Nat);omega⟩,hlf h0⟩
    ·exact hold x hx}
theorem WG.commit{w:World}(z:WG w){e:Event}(hw:aI e.who):WG (cA w e):=by
 unfold cA;split
 ·exact z
 ·rename_i h;have h16:w.log.length≠16:=fun x=>h (.inl x)
  have h99:¬99<=ix w.fresh e.who:=fun x=>h (.inr (.inl x))
  have ha: -1<=e.add/\e.add<=7:=Decidable.byContradiction fun x=>h (.inr (.inr (.inl x)))
  have h98:¬(0<=e.add/\98<=ix w.fresh e.add):=fun x=>h (.inr (.inr (.inr x)))
  split
  ·rename_i h0;have zf:=z.fresh;obtain⟨g0,g1⟩:=z.freshI _ (YL (l:=w.fresh) h0 (by omega))
   have:¬98<=ix w.fresh e.add:=fun x=>h98 ⟨h0,x⟩
   exact z.commitEnd hw h16 h99 ha h98 _ _ fun _=>⟨(EU ⟨h0,ha.2⟩ (by omega) (by omega)).1,(EU ⟨h0,ha.2⟩ (by omega) (by omega)).1⟩
  ·rename_i h0;exact z.commitEnd hw h16 h99 ha h98 _ _ fun x=>absurd x h0
theorem WG.step{w:World}(z:WG w)(e:Event):WG (step w e):=by
 unfold Kw.step;by_cases hw:aI e.who
 ·rw[je hw];split
  ·exact z.commit hw
  split
  ·exact z.steal hw
  split
  ·exact z.say hw
  split
  ·split
   ·exact z.hear hw
   ·exact z
  split
  ·split
   ·exact z.join hw
   ·exact z
  split
  ·split
   ·rename_i hp;exact z.get hw hp
   ·exact z
  ·exact z
 ·rw[jc hw];exact z
def run(w:World)(l:List Event):World:=l.foldl step w
theorem WG.run{w:World}(z:WG w)(l:List Event):WG (run w l):=by
 unfold Kw.run;induction l generalizing w with
 |nil=>exact z
 |cons e r ih=>exact ih (z.step e)
end Kw
namespace Kw
open Go Go.Proofs
section
variable (L D:Nat)
theorem aeP(hL:1099511627776<=L)(evs:List Event)(hl:evs.length<=1000)(ht:∀e∈evs,e.text.length<=500000):∀(m k:Nat) (w:World),WG w->evs.length<m+k->k<=evs.length->
 G3 L (D+316) m [] [] [] [] [] [] [] [] [] [] (w.seats.map rM) (w.log.map rC) (w.fresh.map rI) (w.spy.map rS) (w.stolen.map rSt) (w.frames.map rF) (w.said.map rI) (w.wins.map rWs) (w.told.map rT) (w.waits.map rWt) (nrows []) (nrows []) (nrows []) (nrows []) (nrows []) (nrows []) (nrows []) (nrows []) (nrows []) (nrows []) (w.seats.length:Nat) (w.waits.length:Nat) (w.log.length:Nat) (w.fresh.length:Nat) (w.spy.length:Nat) (w.stolen.length:Nat) (w.frames.length:Nat) (w.said.length:Nat) (w.wins.length:Nat) (w.told.length:Nat) (evs.map rE) (evs.length:Nat) k=some (.agg (wS (run w (evs.drop k))),[])
 |0,k,w,z,h,hk=>by omega
 |m+1,k,w,z,h,hk=>by
  rw[O3];simp only[KM];by_cases hlt:k<evs.length
  ·have h':(k:Int)<evs.length:=by omega
   have ih:=aeP hL evs hl ht m (k+1) (step w (ix evs (k:Int))) (z.step _) (by omega) (by omega)
   have hm:ix evs (k:Int)∈evs:=jA (by omega) (by omega)
   have hs:=as5 L D hL w z (ix evs (k:Int)) (ht _ hm);have er:run w (evs.drop k)=run (step w (ix evs (k:Int))) (evs.drop (k+1)):=by
    rw[R1 evs k hlt];rfl
   rw[er];unfold wK at hs;generalize hx:ix evs (k:Int)=x at hs ih;simp(disch:=omega) only[K1,jY,bM,Nat.reduceAdd,↓aA,asK,asL,asM,asN,asO,asP,abQ,h',hx,hs,HB,aH];exact ih
  ·have h':¬(k:Int)<evs.length:=by omega
   have hc:=XC L (D+311) hL w z.sz;unfold wS wO at hc;rw[yn (by omega)]
   simp(disch:=omega) only[K1,Nat.reduceAdd,↓aA,h',hc]
   rfl
theorem av1(hL:1099511627776<=L)(w:World)(z:WG w)(evs:List Event)(hl:evs.length<=200)(ht:∀e∈evs,e.text.length<=500000):
 ev E L (D+317) 20 [.agg (wS w),.sl (evs.map rE)] []=some (.agg (wS (run w evs)),[]):=by
 have hg:=akJ L D hL w z;have hc:=XC L (D+311) hL w z.sz;have hlp:=aeP L D hL evs (by omega) ht L 0 w z (by omega) (by omega)
 unfold wS at hg⊢;unfold wS wO at hc;have h':¬(200:Int)< (evs.length:Int):=by omega
 rw[atJ];simp only[KM];rw[hg];rw[qb]at hlp;simp only[bnd_some',gBool_b,bNot_t,bNot_f,br_true',nrows_map,iLt_dec];rw[ji h',br_false',hc];simp only[bnd_some',gAggN_if,jf,jk,ju,cellAt_zero,cellAt_succ,gOwn_r,nrows_map];exact hlp
end
end Kw
namespace Kw
open Go Go.Proofs
section
variable (L D:Nat)
end
end Kw
namespace Kw
end Kw
namespace Kw
open Go Go.Proofs
section
variable (L D:Nat)
theorem avW(hL:1099511627776<=L):ev E L (D+308) 12 [] []=some (.bool true,[]):=by
 have h:secOk [65,49,59]=true:=by decide+kernel
 have h2:=jG L (D+1) hL [65,49,59] (by simp)
 rw[h]at h2;rw[atH];simp only[KM];rw[h2]
 rfl
theorem avS(hL:1099511627776<=L)(f:Int)(hf:aI f)(evs:List Event)(hl:evs.length<=190)(ht:∀e∈evs,e.text.length<=10):
 ev E L (D+318) 8 [.int .i64 f,.sl (evs.map rE)] []=some (.agg (wS (run (bR f) evs)),[]):=by
 have h1:=aeB L (D+3) hL f;have h2:=av1 L D hL (bR f) (WG.new hf) evs (by omega) (fun e he=>jx (ht e he) (by omega))
 unfold wS at h2⊢;rw[avN];simp only[KM];rw[h1];simp only[bnd_some',gAggN_if,jf,jk,ju,cellAt_zero,cellAt_succ,gSl_r,h2]
end
end Kw
