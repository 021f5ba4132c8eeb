import Derived.Test.YthjlffhckgaboaaGreatDoorS13
set_option linter.unusedVariables false
set_option linter.unusedSimpArgs false
set_option linter.unusedSectionVars false
namespace Kw.Sp
open Go Go.Proofs
section
variable (L D:Nat)
theorem gQ(hL:1099511627776<=L)(c0:Int)(c1 c2:S)(c3 c4:Int)(c5:S)(c6:List S)(c7:List Box)(c8 c9 c10 c11 c12:S)(ht:c1.length<=1000000000):ev E L (D+307) 226 [.agg [.int .i64 c0,.str (bs c1),.str (bs c2),.int .i64 c3,.int .i64 c4,.str (bs c5),.sl (c6.map rS),.sl (c7.map rB),.str (bs c8),.str (bs c9),.str (bs c10),.str (bs c11),.str (bs c12)]] []=some (.bool (eO ⟨c0,c1,c2,c3,c4,c5,c6,c7,c8,c9,c10,c11,c12⟩),[]):=by
 rw[ah8];unfold eO;by_cases h1:aR c0
 case neg=>
  have h1':¬(0<=c0/\c0<=7):=h1;simp only[K1,aY,h1'];simp[h1]
 obtain⟨h1a,h1b⟩:=id h1;by_cases h2:secOk c2=true
 case neg=>
  have:¬(bK c2).op=1:=fun e=>h2 (aaT e)
  simp only[K1,aY,h1a,h1b,bC _ _ hL,h2];simp[this]
 obtain⟨u,hu⟩:=qt.1 (show(sec c2).isSome=true from h2)
 have hm:bK c2=u.how:=by unfold bK;rw[hu]
 have hfl:=(LD hu).2.2.2;by_cases h3:u.how.op=1
 case neg=>simp only[K1,bD,iH,kT,bJ,not_true_eq_false,not_false_eq_true,Int.reduceNeg,Nat.reduceAdd,aY,h1a,h1b,bC _ _ hL,h2,dC _ _ hL c2 u hu,gK,h3];simp[hm,h3]
 by_cases h4:c1.length+c2.length<=300
 case neg=>
  have h4':(300:Int)< (c1.length:Int)+c2.length:=by omega
  simp(disch:=omega) only[K1,Nat.reduceAdd,↓aB,aY,h1a,h1b,bC _ _ hL,h2,dC _ _ hL c2 u hu,gK,h3,bT,h4'];simp[h4]
 have h4':¬(300:Int)< (c1.length:Int)+c2.length:=by omega
 by_cases h5: -1<=c3/\c3<=7
 case neg=>
  have hs:¬cN c3 c0:=fun⟨x,y,_⟩=>h5 ⟨x,y⟩
  simp(disch:=omega) only[K1,Int.reduceNeg,Nat.reduceAdd,↓aB,aY,h1a,h1b,bC _ _ hL,h2,dC _ _ hL c2 u hu,gK,h3,bT,h4',h5];simp[hs]
 obtain⟨h5a,h5b⟩:=id h5;by_cases h6: -1<=c4/\c4<=7
 case neg=>
  have hs:¬cN c4 c0:=fun⟨x,y,_⟩=>h6 ⟨x,y⟩
  simp(disch:=omega) only[K1,Int.reduceNeg,Nat.reduceAdd,↓aB,aY,h1a,h1b,bC _ _ hL,h2,dC _ _ hL c2 u hu,gK,h3,bT,h4',h5a,h5b,h6];simp[hs]
 obtain⟨h6a,h6b⟩:=id h6;by_cases h7:c3=c0
 ·have hs:¬cN c3 c0:=fun⟨_,_,z⟩=>z h7
  have hd:decide (¬c3=c0)=false:=jh (fun x=>x h7)
  simp(disch:=omega) only[K1,bD,Int.reduceNeg,Nat.reduceAdd,↓aB,aY,h1a,h1b,bC _ _ hL,h2,dC _ _ hL c2 u hu,gK,h3,bT,h4',h5a,h5b,h6a,h6b,hd];simp[hs]
 by_cases h8:c4=c0
 ·have hs:¬cN c4 c0:=fun⟨_,_,z⟩=>z h8
  have hd:decide (c4=c0)=true:=jc h8;simp(disch:=omega) only[K1,Int.reduceNeg,Nat.reduceAdd,↓aB,aY,h1a,h1b,bC _ _ hL,h2,dC _ _ hL c2 u hu,gK,h3,bT,h4',h5a,h5b,h6a,h6b,h7,hd];simp[hs]
 have first:decide (aR c0/\(bK c2).op=1/\c1.length+c2.length<=300/\cN c3 c0/\cN c4 c0)=true:=jc ⟨h1,by rw[hm];exact h3,h4,⟨h5a,h5b,h7⟩,⟨h6a,h6b,h8⟩⟩
 simp only[first,jw];by_cases h9:treOk c6=true
 case neg=>
  simp(disch:=omega) only[K1,Int.reduceNeg,Nat.reduceAdd,↓aB,aY,h1a,h1b,bC _ _ hL,h2,dC _ _ hL c2 u hu,gK,h3,bT,h4',h5a,h5b,h6a,h6b,h7,h8,fK _ _ hL,h9];simp[h9]
 by_cases h10:iK c7=true
 case neg=>
  simp(disch:=omega) only[K1,Int.reduceNeg,Nat.reduceAdd,↓aB,aY,h1a,h1b,bC _ _ hL,h2,dC _ _ hL c2 u hu,gK,h3,bT,h4',h5a,h5b,h6a,h6b,h7,h8,fK _ _ hL,h9,gH _ _ hL,h10];simp[h9]
 by_cases h11:c7.length<=20
 case neg=>
  have h11':(20:Int)<c7.length:=by omega
  simp(disch:=omega) only[K1,Int.reduceNeg,Nat.reduceAdd,↓aB,aY,h1a,h1b,bC _ _ hL,h2,dC _ _ hL c2 u hu,gK,h3,bT,h4',h5a,h5b,h6a,h6b,h7,h8,fK _ _ hL,h9,gH _ _ hL,h10,h11'];simp[h11]
 have h11':¬(20:Int)<c7.length:=by omega
 by_cases h12:c3<0
 ·by_cases h13:c5=[]
  ·simp(disch:=omega) only[K1,kT,bJ,true_and,Int.reduceNeg,Nat.reduceAdd,↓aB,↓cW,aY,h1a,h1b,bC _ _ hL,h2,dC _ _ hL c2 u hu,gK,h3,bT,h4',h5a,h5b,h6a,h6b,h7,h8,fK _ _ hL,h9,gH _ _ hL,h10,h11',h12,h13];simp[h11,Bool.and_assoc]
  ·simp(disch:=omega) only[K1,wt,Int.reduceNeg,Nat.reduceAdd,↓aB,aY,h1a,h1b,bC _ _ hL,h2,dC _ _ hL c2 u hu,gK,h3,bT,h4',h5a,h5b,h6a,h6b,h7,h8,fK _ _ hL,h9,gH _ _ hL,h10,h11',h12,h13];simp[h11]
 by_cases k1:isKey c5=true
 case neg=>
  simp(disch:=omega) only[K1,bD,Int.reduceNeg,Nat.reduceAdd,↓aB,aY,h1a,h1b,bC _ _ hL,h2,dC _ _ hL c2 u hu,gK,h3,bT,h4',h5a,h5b,h6a,h6b,h7,h8,fK _ _ hL,h9,gH _ _ hL,h10,h11',h12,l8 _ _ hL,k1];simp[h11]
 by_cases k2:isKey c8=true
 case neg=>
  simp(disch:=omega) only[K1,bD,Int.reduceNeg,Nat.reduceAdd,↓aB,aY,h1a,h1b,bC _ _ hL,h2,dC _ _ hL c2 u hu,gK,h3,bT,h4',h5a,h5b,h6a,h6b,h7,h8,fK _ _ hL,h9,gH _ _ hL,h10,h11',h12,l8 _ _ hL,k1,k2];simp[h11]
 by_cases k3:c5=c8
 ·have hd:decide (¬c5=c8)=false:=jh (fun x=>x k3)
  simp(disch:=omega) only[K1,bD,Int.reduceNeg,Nat.reduceAdd,↓aB,aY,h1a,h1b,bC _ _ hL,h2,dC _ _ hL c2 u hu,gK,h3,bT,h4',h5a,h5b,h6a,h6b,h7,h8,fK _ _ hL,h9,gH _ _ hL,h10,h11',h12,l8 _ _ hL,k1,k2,hd];simp[h11,k3]
 by_cases k4:c9=c8
 case neg=>
  simp(disch:=omega) only[K1,wt,and_false,Int.reduceNeg,Nat.reduceAdd,↓aB,aY,h1a,h1b,bC _ _ hL,h2,dC _ _ hL c2 u hu,gK,h3,bT,h4',h5a,h5b,h6a,h6b,h7,h8,fK _ _ hL,h9,gH _ _ hL,h10,h11',h12,l8 _ _ hL,k1,k2,k3,k4];simp[h11]
 by_cases k5:c11=c8
 case neg=>
  have hd4:decide (c9=c8)=true:=jc k4;simp(disch:=omega) only[K1,and_false,Int.reduceNeg,Nat.reduceAdd,↓aB,aY,h1a,h1b,bC _ _ hL,h2,dC _ _ hL c2 u hu,gK,h3,bT,h4',h5a,h5b,h6a,h6b,h7,h8,fK _ _ hL,h9,gH _ _ hL,h10,h11',h12,l8 _ _ hL,k1,k2,k3,hd4,k5];simp[h11]
 have hd4:decide (c9=c8)=true:=jc k4;have hd5:decide (c11=c8)=true:=jc k5;by_cases k6:secOk c10=true
 ·simp(disch:=omega) only[K1,Int.reduceNeg,Nat.reduceAdd,↓aB,aY,h1a,h1b,bC _ _ hL,h2,dC _ _ hL c2 u hu,gK,h3,bT,h4',h5a,h5b,h6a,h6b,h7,h8,fK _ _ hL,h9,gH _ _ hL,h10,h11',h12,l8 _ _ hL,k1,k2,k3,hd4,hd5,k6];simp[h11,k3,k4,k5]
 ·simp(disch:=omega) only[K1,Int.reduceNeg,Nat.reduceAdd,↓aB,aY,h1a,h1b,bC _ _ hL,h2,dC _ _ hL c2 u hu,gK,h3,bT,h4',h5a,h5b,h6a,h6b,h7,h8,fK _ _ hL,h9,gH _ _ hL,h10,h11',h12,l8 _ _ hL,k1,k2,k3,hd4,hd5,k6];simp[h11,k3,k4,k5]
theorem WH(c0:Int)(c1 c2:S)(c3 c4:Int)(c5:S)(c6:List S)(c7:List Box)(c8 c9 c10 c11 c12:S)(hL:1099511627776<=L)(h6:c6.length=15)(hs:aR c0)(path:List Int)(hp:∀x∈path,0<=x/\x<=14)(hpl:path.length<=100):∀(n k:Nat) (ks:List S),path.length-k<n->k<=path.length->ks.length=15->
 zI L (D+1) n (ks.map rS) (path.map rI) c0 (bs c1) (bs c2) c3 c4 (bs c5) (c6.map rS) (c7.map rB) (bs c8) (bs c9) (bs c10) (bs c11) (bs c12) ks.length path.length k=some (.bool (decide (c6=jM c6 (path.drop k) ks)),[]):=by
 intro n;induction n with
 |zero=>intro k ks h;omega
 |succ n ih=>
  intro k ks hn hk h15;rw[HN];by_cases h:k<path.length
  ·have h':(k:Int)<path.length:=by omega
   obtain⟨x0,x1⟩:=hp (ix path (k:Int)) (by rw[aZ path k h];exact jr h)
   have g1:ix path (k:Int)<c6.length:=by omega
   have g2:ix path (k:Int)<ks.length:=by omega
   have:=ih (k+1) (ks.set (ix path (k:Int)).toNat (ix c6 (ix path (k:Int)))) (by omega) (by omega) (by simp;exact h15)
   rw[kf]at this;rw[cO path k h];simp(disch:=omega) only[K1,Int.reduceLE,↓aB,eU,nJ,nK,iG,D1,bQ,eK,cG,bR,h',aO,this]
   rfl
  ·have h':¬(k:Int)<path.length:=by omega
   simp(disch:=omega) only[K1,↓aB,h',aaU _ _ hL];rw[jm (by omega)];rfl
theorem kN{c:Commit}(h:eO c=true):aR c.sender/\(bK c.name).op=1/\c.tag.length+c.name.length<=300/\cN c.add c.sender/\cN c.remove c.sender/\treOk c.keys=true/\iK c.boxes=true/\c.boxes.length<=20:=by
 unfold eO at h;simp only[jf,ja]at h;exact⟨h.1.1,h.1.2.1,h.1.2.2.1,h.1.2.2.2.1,h.1.2.2.2.2,h.2.1,h.2.2.1,h.2.2.2.1⟩
theorem JC{a b:Int}(h:cN a b):inR a:=⟨h.1,h.2.1⟩
theorem aaX(hL:1099511627776<=L)(b:Bool)(w e:Int)(ks:List S)(own:List Own)(i t:S)(h15:ks.length=15)(c0:Int)(c1 c2:S)(c3 c4:Int)(c5:S)(c6:List S)(c7:List Box)(c8 c9 c10 c11 c12:S)(h6:c6.length=15)(hs:aR c0)(ha:inR c3)(hr:inR c4):ev E L (D+5) 272 [.agg [.bool b,.int .i64 w,.sl (ks.map rS),.sl (own.map rO),.int .i64 e,.str (bs i),.str (bs t)],.agg [.int .i64 c0,.str (bs c1),.str (bs c2),.int .i64 c3,.int .i64 c4,.str (bs c5),.sl (c6.map rS),.sl (c7.map rB),.str (bs c8),.str (bs c9),.str (bs c10),.str (bs c11),.str (bs c12)]] []=some (.bool (x6 ⟨b,w,ks,own,e,i,t⟩ ⟨c0,c1,c2,c3,c4,c5,c6,c7,c8,c9,c10,c11,c12⟩),[]):=by
 rw[ahR];have hb15:(baseT ks c3 c4 c5).length=15:=by rw[BB];exact h15
 have hlen:=dK (treLeaf c0);simp(disch:=omega) only[K1,bJ,eG,Nat.reduceAdd,jE,↓aB,uE,GI _ _ hL ks h15 c3 c4 c5 ha hr,bV,vH _ _ hL,H9,aJ];have:=WH L (D+3) c0 c1 c2 c3 c4 c5 c6 c7 c8 c9 c10 c11 c12 hL h6 hs (pathOf c0) (pathOf_rng hs) (by have:=fI c0;omega) L 0 (baseT ks c3 c4 c5) (by have:=fI c0;omega) (by omega) hb15
 rw[show((0:Nat):Int)=0 from rfl,kw]at this
 exact this
theorem WL(hL:1099511627776<=L)(b:Bool)(w e:Int)(ks:List S)(own:List Own)(i t:S)(hm:memOk ⟨b,w,ks,own,e,i,t⟩=true)(c0:Int)(c1 c2:S)(c3 c4:Int)(c5:S)(c6:List S)(c7:List Box)(c8 c9 c10 c11 c12:S)(hc:eO ⟨c0,c1,c2,c3,c4,c5,c6,c7,c8,c9,c10,c11,c12⟩=true):ev E L (D+6) 227 [.agg [.bool b,.int .i64 w,.sl (ks.map rS),.sl (own.map rO),.int .i64 e,.str (bs i),.str (bs t)],.agg [.int .i64 c0,.str (bs c1),.str (bs c2),.int .i64 c3,.int .i64 c4,.str (bs c5),.sl (c6.map rS),.sl (c7.map rB),.str (bs c8),.str (bs c9),.str (bs c10),.str (bs c11),.str (bs c12)]] []=some (.bool (pB ⟨b,w,ks,own,e,i,t⟩ ⟨c0,c1,c2,c3,c4,c5,c6,c7,c8,c9,c10,c11,c12⟩),[]):=by
 rw[ah9];unfold pB;obtain⟨q1,q2,q3,q4,q5,q6,q7,q8⟩:=kN hc;simp only at q1 q2 q3 q4 q5 q6 q7 q8;cases b with
 |false=>simp only[K1];simp
 |true=>
  obtain⟨g1,g2,g3,g4,g5,g6,g7⟩:=lF hm rfl;simp only at g1 g2 g5;have h15:=eM g2;have hlf:∀x:Int,aR x->0<=treLeaf x/\treLeaf x<ks.length:=fun x hx=>by have:=e9 hx;omega
  obtain⟨l1,l2⟩:=hlf c0 q1;by_cases h1:c1=t
  case neg=>simp only[K1,wt,h1];simp[h1]
  have hd1:decide (c1=t)=true:=jc h1;by_cases h2:12<=e
  ·have:¬e<12:=by omega
   simp only[K1,hd1,h2];simp[this]
  have h2':e<12:=by omega
  by_cases h3:c0=w
  ·have hd3:decide (¬c0=w)=false:=jh (fun x=>x h3)
   simp only[K1,bD,hd1,h2,hd3];simp[h3]
  have hfst:decide (c1=t/\e<12/\c0≠w)=true:=jc ⟨h1,h2',h3⟩;simp only[hfst,jw];by_cases h4:ix ks (treLeaf c0)=[]
  ·have hd4:decide (ix ks (treLeaf c0)=[])=true:=jc h4;simp(disch:=omega) only[K1,eU,bQ,hd1,h2,h3,bV,hd4];simp[hasLeaf,h4]
  have htree:=aaX L D hL true w e ks own i t h15 c0 c1 c2 c3 c4 c5 c6 c7 c8 c9 c10 c11 c12 (eM q6) q1 (JC q4) (JC q5);unfold changes;by_cases h5:0<=c4
  ·obtain⟨r1,r2⟩:=hlf c4 ⟨h5,q5.2.1⟩;have h5':¬c4<0:=by omega
   by_cases h6:ix ks (treLeaf c4)=[]
   ·have hd6:decide (¬ix ks (treLeaf c4)=[])=false:=jh (fun x=>x h6)
    simp(disch:=omega) only[K1,bD,eU,bQ,hd1,h2,h3,bV,h4,h5,hd6];simp[hasLeaf,h5',h6]
   by_cases h7:0<=c3
   ·obtain⟨a1,a2⟩:=hlf c3 ⟨h7,q4.2.1⟩;have h7':¬c3<0:=by omega
    by_cases h8:c3=c4
    ·have hd8:decide (¬c3=c4)=false:=jh (fun x=>x h8)
     simp(disch:=omega) only[K1,bD,eU,bQ,hd1,h2,h3,bV,h4,h5,h6,h7,hd8,htree];simp[hasLeaf,h4,h6,h8]
    ·by_cases h9:ix ks (treLeaf c3)=[]
     ·have hd9:decide (¬ix ks (treLeaf c3)=[])=false:=jh (fun x=>x h9)
      simp(disch:=omega) only[K1,bD,eU,bQ,hd1,h2,h3,bV,h4,h5,h6,h7,h8,hd9,htree];simp[hasLeaf,h4,h6,h9]
     ·simp(disch:=omega) only[K1,eU,bQ,hd1,h2,h3,bV,h4,h5,h6,h7,h8,h9];simp[hasLeaf,h4,h6,h9,h7']
   ·have h7':c3<0:=by omega
    simp(disch:=omega) only[K1,eU,bQ,hd1,h2,h3,bV,h4,h5,h6,h7,htree];simp[hasLeaf,h4,h6,h7']
  ·have h5':c4<0:=by omega
   by_cases h7:0<=c3
   ·obtain⟨a1,a2⟩:=hlf c3 ⟨h7,q4.2.1⟩;have h7':¬c3<0:=by omega
    have h8:¬c3=c4:=by omega
    by_cases h9:ix ks (treLeaf c3)=[]
    ·have hd9:decide (¬ix ks (treLeaf c3)=[])=false:=jh (fun x=>x h9)
     simp(disch:=omega) only[K1,bD,eU,bQ,hd1,h2,h3,bV,h4,h5,h7,h8,hd9,htree];simp[hasLeaf,h4,h9,h5']
    ·simp(disch:=omega) only[K1,eU,bQ,hd1,h2,h3,bV,h4,h5,h7,h8,h9];simp[hasLeaf,h9,h7']
   ·have h7':c3<0:=by omega
    simp(disch:=omega) only[K1,eU,bQ,hd1,h2,h3,bV,h4,h5,h7,htree];simp[hasLeaf,h4,h5',h7']
theorem HX{m:Member}(h:fitsAll m=true):∀o∈m.own,o.node∈pathOf m.who:=by
 intro o ho;unfold fitsAll at h;rw[ko]at h;obtain⟨k,hk,rfl⟩:=kx.1 ho;have:=h k (qp.2 hk);unfold mM at this;simp only[jf,ja]at this;have h1:=this.1
 rwa [aZ m.own k hk]at h1
theorem N3{m:Member}(h:memOk m=true)(hi:m.inn=true):rJ m.own:=fun o ho=>by
 obtain⟨g1,_,g3,_⟩:=lF h hi;exact pathOf_rng g1 _ (HX g3 o ho)
theorem HY(n:Int)(h:fN n)(s:S):rJ (cD n s):=fun o ho=>by
 have:o.node∈(cD n s).map (·.node):=wg ho;rw[show(cD n s).map (·.node)=n::cF n from rL _ _]at this
 rcases kh.1 this with e|e
 ·rw[e];exact h
 ·exact kM _ _ e
theorem GB:∀(f a b:Nat),a<=14->b<=14->meetN f a b<=14
 |0,_,_,h,_=>h
 |f+1,a,b,h,h'=>by
  rw[meetN];split
  ·exact h
  split
  ·exact GB f _ _ (by omega) h'
  ·exact GB f _ _ h (by omega)
theorem WM{a b:Int}(ha:fN a)(hb:fN b):fN (treMeet a b):=by
 unfold treMeet;rw[jd ⟨ha,hb⟩];have:=GB 30 a.toNat b.toNat (by have:=ha.1;have:=ha.2;omega) (by have:=hb.1;have:=hb.2;omega)
 exact⟨by omega,by omega⟩
theorem JD{w:Int}(h:aR w):fN (treLeaf w):=by have:=e9 h;exact⟨by omega,by omega⟩
theorem A9(ks:List S)(own:List Own):(rP ks own).length<=own.length:=qz _ _
theorem BA(own path:List Own):(mT own path).length<=own.length:=qz _ _
theorem aaY(hL:1099511627776<=L)(b:Bool)(w e:Int)(ks:List S)(own:List Own)(i t:S)(hm:memOk ⟨b,w,ks,own,e,i,t⟩=true)(hb:b=true)(hl:own.length<=1000000)(c0:Int)(c1 c2:S)(c3 c4:Int)(c5:S)(c6:List S)(c7:List Box)(c8 c9 c10 c11 c12:S)(hc:eO ⟨c0,c1,c2,c3,c4,c5,c6,c7,c8,c9,c10,c11,c12⟩=true):ev E L (D+309) 228 [.agg [.bool b,.int .i64 w,.sl (ks.map rS),.sl (own.map rO),.int .i64 e,.str (bs i),.str (bs t)],.agg [.int .i64 c0,.str (bs c1),.str (bs c2),.int .i64 c3,.int .i64 c4,.str (bs c5),.sl (c6.map rS),.sl (c7.map rB),.str (bs c8),.str (bs c9),.str (bs c10),.str (bs c11),.str (bs c12)]] []=
 some (.tup [.agg (rM (hearPair ⟨b,w,ks,own,e,i,t⟩ ⟨c0,c1,c2,c3,c4,c5,c6,c7,c8,c9,c10,c11,c12⟩).1),.bool (hearPair ⟨b,w,ks,own,e,i,t⟩ ⟨c0,c1,c2,c3,c4,c5,c6,c7,c8,c9,c10,c11,c12⟩).2],[]):=by
 rw[ahA];subst hb;obtain⟨q1,q2,q3,q4,q5,q6,q7,q8⟩:=kN hc;simp only at q1 q2 q3 q4 q5 q6 q7 q8;obtain⟨g1,g2,g3,g4,g5,g6,g7⟩:=lF hm rfl;simp only at g1 g2 g5 g6 g7;have h15:=eM q6;have hmeet:=WM (JD g1) (JD q1);unfold hearPair;simp only;have hfind:=aaV L D hL true w e (ks.map rS) own (bs i) (bs t) hl c7 (by omega)
 by_cases h1:cX own c7=[]
 ·rw[jd (.inl h1)];have hd:decide (¬cX own c7=[])=false:=jh (fun x=>x h1)
  simp(disch:=omega) only[K1,bD,bJ,gF,bF,↓aB,hfind,hd,aJ,rM]
 by_cases h2:292< (cX own c7).length
 ·rw[jd (.inr h2)];have h2':(292:Int)< (cX own c7).length:=by omega
  simp(disch:=omega) only[K1,bJ,gF,bF,↓aB,hfind,h1,h2',aJ,rM]
 rw[jb (fun x=>x.elim h1 h2)]
 have h2':¬(292:Int)< (cX own c7).length:=by omega
 have hpl:=iC (treMeet (treLeaf w) (treLeaf c0)) (cX own c7);have htu:=dK (treMeet (treLeaf w) (treLeaf c0));have hnodes:=HY _ hmeet (cX own c7);have hlast0:(0:Int)<=((cD (treMeet (treLeaf w) (treLeaf c0)) (cX own c7)).length:Int)-1:=by omega
 have hlast1:((cD (treMeet (treLeaf w) (treLeaf c0)) (cX own c7)).length:Int)-1< (cD (treMeet (treLeaf w) (treLeaf c0)) (cX own c7)).length:=by omega
 have hfresh:=WE L D hL (cD (treMeet (treLeaf w) (treLeaf c0)) (cX own c7)) hnodes (by omega) c6 h15
 have hund:=WF L (D+306) hL true w e (ks.map rS) own (bs i) (bs t) hl (cD (treMeet (treLeaf w) (treLeaf c0)) (cX own c7)) (by omega)
 have hul:=BA own (cD (treMeet (treLeaf w) (treLeaf c0)) (cX own c7));have hkept:=aaW L D hL false 0 0 [] (mT own (cD (treMeet (treLeaf w) (treLeaf c0)) (cX own c7))) (fun o ho=>N3 hm rfl o (vd.1 ho).1) (bs []) (bs []) (by omega) c6 h15
 have hkl:=A9 c6 (mT own (cD (treMeet (treLeaf w) (treLeaf c0)) (cX own c7)));by_cases h3:gP c6 (cD (treMeet (treLeaf w) (treLeaf c0)) (cX own c7))=true
 case neg=>
  rw[jb h3];simp(disch:=omega) only[K1,bJ,gF,bF,↓aB,fF,hfind,h1,h2',aJ,bV,qA _ _ hL,nZ _ _ hL,hfresh,h3,rM]
 rw[jd h3];simp(disch:=omega) only[K1,bJ,d7,eG,gF,mS,bF,↓aB,vM,eD,fF,hfind,h1,h2',aJ,bV,qA _ _ hL,nZ _ _ hL,hfresh,h3,eL,bT,pZ _ _ hL,wZ _ _ hL,hund,hkept,bC _ _ hL];simp[x8,rM]
theorem GC(hL:1099511627776<=L)(b:Bool)(w e:Int)(ks:List S)(own:List Own)(i t:S)(hk:ks.length<=1000000)(ho:own.length<=1000000):ev E L (D+2) 102 [.agg [.bool b,.int .i64 w,.sl (ks.map rS),.sl (own.map rO),.int .i64 e,.str (bs i),.str (bs t)]] []=some (.agg (rM ⟨b,w,if b=true then ks else[],own,e,i,t⟩),[]):=by
 rw[agF];cases b with
 |false=>simp(disch:=omega) only[K1,bJ,Nat.reduceAdd,mS,bF,↓aB,fF,uE,aJ,rM,List.map_nil]
 |true=>simp(disch:=omega) only[K1,bJ,Nat.reduceAdd,mS,bF,↓aB,fF,uE,aJ,rM]
theorem WN{m:Member}(h:memOk m=true)(hi:m.inn=false):m=cI:=by
 unfold memOk at h;rw[jd hi]at h;simp only[ja]at h;obtain⟨a1,a2,a3,a4,a5,a6⟩:=h;cases m;simp only at hi a1 a2 a3 a4 a5 a6;subst hi a1 a2 a3 a4 a5 a6
 rfl
theorem QR{m:Member}(h:memOk m=true):m.keys.length<=15/\(if m.inn=true then m.keys else[])=m.keys:=by
 cases hi:m.inn with
 |false=>rw[WN h hi];simp[cI]
 |true=>
  have:=eM (lF h hi).2.1;simp;omega
theorem WO(hL:1099511627776<=L)(b:Bool)(w e:Int)(ks:List S)(own:List Own)(i t:S)(hl:own.length<=900000)(c0:Int)(c1 c2:S)(c3 c4:Int)(c5:S)(c6:List S)(c7:List Box)(c8 c9 c10 c11 c12:S)(ht:c1.length<=1000000000):ev E L (D+310) 166 [.agg [.bool b,.int .i64 w,.sl (ks.map rS),.sl (own.map rO),.int .i64 e,.str (bs i),.str (bs t)],.agg [.int .i64 c0,.str (bs c1),.str (bs c2),.int .i64 c3,.int .i64 c4,.str (bs c5),.sl (c6.map rS),.sl (c7.map rB),.str (bs c8),.str (bs c9),.str (bs c10),.str (bs c11),.str (bs c12)]] []=
 some (.tup [.agg (rM (f8 ⟨b,w,ks,own,e,i,t⟩ ⟨c0,c1,c2,c3,c4,c5,c6,c7,c8,c9,c10,c11,c12⟩).1),.bool (f8 ⟨b,w,ks,own,e,i,t⟩ ⟨c0,c1,c2,c3,c4,c5,c6,c7,c8,c9,c10,c11,c12⟩).2],[]):=by
 rw[agT];unfold f8;by_cases h1:memOk ⟨b,w,ks,own,e,i,t⟩=true
 case neg=>
  rw[jb (fun x=>h1 x.1)]
  simp(disch:=omega) only[K1,d9 _ _ hL,h1,iR]
 by_cases h2:eO ⟨c0,c1,c2,c3,c4,c5,c6,c7,c8,c9,c10,c11,c12⟩=true
 case neg=>
  rw[jb (fun x=>h2 x.2)]
  simp(disch:=omega) only[K1,d9 _ _ hL,h1,gQ _ _ hL,h2,iR]
 rw[jd ⟨h1,h2⟩];have htk:=WL L (D+303) hL b w e ks own i t h1 c0 c1 c2 c3 c4 c5 c6 c7 c8 c9 c10 c11 c12 h2;obtain⟨kl,ke⟩:=QR h1;simp only at kl ke;have hsame:=GC L (D+307) hL b w e ks own i t (by omega) (by omega)
 rw[ke]at hsame;simp only[rM]at hsame;by_cases h3:pB ⟨b,w,ks,own,e,i,t⟩ ⟨c0,c1,c2,c3,c4,c5,c6,c7,c8,c9,c10,c11,c12⟩=true
 case neg=>
  rw[jb h3];simp(disch:=omega) only[K1,Nat.reduceAdd,d9 _ _ hL,h1,gQ _ _ hL,h2,htk,h3,hsame,rM]
 rw[jd h3];have hb:b=true:=by unfold pB at h3;simp only[jf]at h3;exact h3.1
 by_cases h4:c4=w
 ·rw[jd h4];have hd:decide (c4=w)=true:=jc h4;simp(disch:=omega) only[K1,d9 _ _ hL,h1,gQ _ _ hL,h2,htk,h3,hd,iR]
 rw[jb h4];have hh:=aaY L D hL b w e ks own i t h1 hb (by omega) c0 c1 c2 c3 c4 c5 c6 c7 c8 c9 c10 c11 c12 h2
 simp only[rM]at hh;by_cases h5:(hearPair ⟨b,w,ks,own,e,i,t⟩ ⟨c0,c1,c2,c3,c4,c5,c6,c7,c8,c9,c10,c11,c12⟩).2=true
 case neg=>
  rw[jb h5];simp(disch:=omega) only[K1,Nat.reduceAdd,d9 _ _ hL,h1,gQ _ _ hL,h2,htk,h3,h4,hh,h5,hsame,rM]
 rw[jd h5];have hx:(hearPair ⟨b,w,ks,own,e,i,t⟩ ⟨c0,c1,c2,c3,c4,c5,c6,c7,c8,c9,c10,c11,c12⟩).1.inn=true/\(hearPair ⟨b,w,ks,own,e,i,t⟩ ⟨c0,c1,c2,c3,c4,c5,c6,c7,c8,c9,c10,c11,c12⟩).1.keys.length<=1000000/\(hearPair ⟨b,w,ks,own,e,i,t⟩ ⟨c0,c1,c2,c3,c4,c5,c6,c7,c8,c9,c10,c11,c12⟩).1.own.length<=1000000:=by
  have h15:=eM (kN h2).2.2.2.2.2.1;simp only at h15;unfold hearPair at h5⊢;simp only at h5⊢;split at h5
  ·cases h5
  ·rename_i g;rw[jb g];split at h5
   ·rename_i g';rw[jd g'];have e1:=BA own (cD (treMeet (treLeaf w) (treLeaf c0)) (cX own c7));have e2:=A9 c6 (mT own (cD (treMeet (treLeaf w) (treLeaf c0)) (cX own c7)));have e3:=iC (treMeet (treLeaf w) (treLeaf c0)) (cX own c7);have e4:=dK (treMeet (treLeaf w) (treLeaf c0));simp only[x8,jk];refine⟨trivial,by omega,by omega⟩
   ·cases h5
 generalize hearPair ⟨b,w,ks,own,e,i,t⟩ ⟨c0,c1,c2,c3,c4,c5,c6,c7,c8,c9,c10,c11,c12⟩=p at hx h5 hh⊢;have hs2:=GC L (D+307) hL p.1.inn p.1.who p.1.epoch p.1.keys p.1.own p.1.init p.1.tag hx.2.1 hx.2.2;rw[hx.1]at hs2 hh;simp only[rM,js]at hs2;simp(disch:=omega) only[K1,Nat.reduceAdd,d9 _ _ hL,h1,gQ _ _ hL,h2,htk,h3,h4,hh,h5,hs2,rM,hx.1]
theorem QS(s:S)(hs:s.length<=1000000000):∀(n k c:Nat),s.length-k<n->k<=s.length->c<=k->tS L D n (bs s) c k=some (.int .i64 ((c+count (s.drop k):Nat):Int),[]):=by
 intro n;induction n with
 |zero=>intro k c h;omega
 |succ n ih=>
  intro k c hn hk hc;rw[HC];by_cases h:k<s.length
  ·have h':(k:Int)<s.length:=by omega
   rw[cO s k h];have hb:=toNat_lt (ix s k);by_cases h1:((ix s (k:Int)).toNat:Int)=59
   ·have hd:decide (((ix s (k:Int)).toNat:Int)=59)=true:=jc h1;simp(disch:=omega) only[K1,h',eQ,hd,aO,ih (k+1) (c+1) (by omega) (by omega) (by omega)]
    have e1:ix s (k:Int)=59:=UInt8.toNat_inj.1 (by have:(59:UInt8).toNat=59:=rfl;omega)
    congr 4
    unfold count;rw[List.filter_cons_of_pos (by simp[e1])]
    simp;omega
   ·simp(disch:=omega) only[K1,h',eQ,h1,aO,ih (k+1) c (by omega) (by omega) (by omega)]
    have e1:¬ix s (k:Int)=59:=fun e=>h1 (by rw[e];rfl)
    unfold count;rw[List.filter_cons_of_neg (by simp[e1])]
  ·have h':¬(k:Int)<s.length:=by omega
   simp(disch:=omega) only[K1,h'];rw[jm (by omega)];rfl
theorem JE(hL:1099511627776<=L)(s:S)(hs:s.length<=1000000000):ev E L (D+1) 230 [.str (bs s)] []=some (.int .i64 (count s:Nat),[]):=by
 rw[ahC];have:=QS L D s hs L 0 0 (by omega) (by omega) (by omega)
 rw[kw,qr]at this;exact this
theorem aaZ(s:S):count s<=s.length:=qz _ _
theorem WP(hL:1099511627776<=L)(w:Int)(leaf key:S)(c0:Int)(c1 c2:S)(c3 c4:Int)(c5:S)(c6:List S)(c7:List Box)(c8 c9 c10 c11 c12:S)(ht:c1.length<=1000000000):ev E L (D+310) 167 [.int .i64 w,.str (bs leaf),.str (bs key),.agg [.int .i64 c0,.str (bs c1),.str (bs c2),.int .i64 c3,.int .i64 c4,.str (bs c5),.sl (c6.map rS),.sl (c7.map rB),.str (bs c8),.str (bs c9),.str (bs c10),.str (bs c11),.str (bs c12)]] []=
 some (.tup (match iL w leaf key ⟨c0,c1,c2,c3,c4,c5,c6,c7,c8,c9,c10,c11,c12⟩with|some x=>[.agg (rM x),.bool true]|none=>[.agg (rM cI),.bool false]),[]):=by
 rw[agU];unfold iL;have no:∀P:Prop,∀[Decidable P],¬P->(match(if P then some (rQ w leaf ⟨c0,c1,c2,c3,c4,c5,c6,c7,c8,c9,c10,c11,c12⟩)else none)with|some x=>[MV.agg (rM x),.bool true]|none=>[.agg (rM cI),.bool false])=[.agg (rM cI),.bool false]:=fun P _ h=>by rw[jb h]
 by_cases h1:eO ⟨c0,c1,c2,c3,c4,c5,c6,c7,c8,c9,c10,c11,c12⟩=true
 case neg=>rw[no _ (fun x=>h1 x.1)];simp(disch:=omega) only[K1,gQ _ _ hL,h1,iR]
 obtain⟨q1,q2,q3,q4,q5,q6,q7,q8⟩:=kN h1;simp only at q1 q2 q3 q4 q5 q6 q7 q8;by_cases h2:c3<0
 ·rw[no _ (fun x=>by have:=x.2.1;simp only at this;omega)];simp(disch:=omega) only[K1,gQ _ _ hL,h1,h2,iR]
 by_cases h3:c3=w
 case neg=>rw[no _ (fun x=>h3 x.2.2.1)];simp(disch:=omega) only[K1,gQ _ _ hL,h1,h2,h3,iR]
 have hd3:decide (¬c3=w)=false:=jh (fun x=>x h3)
 by_cases h4:secOk leaf=true
 case neg=>rw[no _ (fun x=>h4 x.2.2.2.1)];simp(disch:=omega) only[K1,bD,gQ _ _ hL,h1,h2,hd3,bC _ _ hL,h4,iR]
 by_cases h5:secOk key=true
 case neg=>rw[no _ (fun x=>h5 x.2.2.2.2.1)];simp(disch:=omega) only[K1,bD,gQ _ _ hL,h1,h2,hd3,bC _ _ hL,h4,h5,iR]
 by_cases h6:makKey leaf=c5
 case neg=>rw[no _ (fun x=>h6 x.2.2.2.2.2.1)];simp(disch:=omega) only[K1,bD,gQ _ _ hL,h1,h2,hd3,bC _ _ hL,h4,h5,eT _ _ hL,h6,iR]
 have hd6:decide (¬makKey leaf=c5)=false:=jh (fun x=>x h6)
 by_cases h7:makKey key=c8
 case neg=>rw[no _ (fun x=>h7 x.2.2.2.2.2.2.1)];simp(disch:=omega) only[K1,bD,gQ _ _ hL,h1,h2,hd3,bC _ _ hL,h4,h5,eT _ _ hL,hd6,h7,iR]
 have hd7:decide (¬makKey key=c8)=false:=jh (fun x=>x h7)
 have h15:=eM q6;by_cases h8:c12.length<=292
 case neg=>
  have h8':(292:Int)<c12.length:=by omega
  rw[no _ (fun x=>h8 x.2.2.2.2.2.2.2.1)];simp(disch:=omega) only[K1,bD,bJ,gF,bF,↓aB,gQ _ _ hL,h1,h2,hd3,bC _ _ hL,h4,h5,eT _ _ hL,hd6,hd7,aJ,h8',iR]
 have h8':¬(292:Int)<c12.length:=by omega
 have hpl:=iC (treMeet (treLeaf w) (treLeaf c0)) c12;have htu:=dK (treMeet (treLeaf w) (treLeaf c0));have hcnt:=aaZ c1;have hok:=d9 L D hL true w (count c1+1) c6 (⟨treLeaf w,leaf⟩::cD (treMeet (treLeaf w) (treLeaf c0)) c12) c10 (c1++c2) (by rw[je];omega)
 have hjm:rQ w leaf ⟨c0,c1,c2,c3,c4,c5,c6,c7,c8,c9,c10,c11,c12⟩=⟨true,w,c6,⟨treLeaf w,leaf⟩::cD (treMeet (treLeaf w) (treLeaf c0)) c12,count c1+1,c10,c1++c2⟩:=rfl;have hcons:[(⟨treLeaf w,leaf⟩:Own)]++cD (treMeet (treLeaf w) (treLeaf c0)) c12=⟨treLeaf w,leaf⟩::cD (treMeet (treLeaf w) (treLeaf c0)) c12:=rfl;by_cases h9:memOk (rQ w leaf ⟨c0,c1,c2,c3,c4,c5,c6,c7,c8,c9,c10,c11,c12⟩)=true
 ·rw[jd ⟨h1,by simp only;omega,h3,h4,h5,h6,h7,h8,h9⟩]
  rw[hjm]at h9;simp(disch:=omega) only[K1,bD,bJ,d7,eG,Nat.reduceAdd,gF,mS,bF,↓aB,fF,gQ _ _ hL,h1,h2,hd3,bC _ _ hL,h4,h5,eT _ _ hL,hd6,hd7,aJ,h8',bV,qA _ _ hL,nZ _ _ hL,XN,JE _ _ hL,bT,hcons,hok,h9,rM,hjm]
 ·rw[no _ (fun x=>h9 x.2.2.2.2.2.2.2.2)]
  rw[hjm]at h9;simp(disch:=omega) only[K1,bD,bJ,d7,eG,Nat.reduceAdd,gF,mS,bF,↓aB,fF,gQ _ _ hL,h1,h2,hd3,bC _ _ hL,h4,h5,eT _ _ hL,hd6,hd7,aJ,h8',bV,qA _ _ hL,nZ _ _ hL,XN,JE _ _ hL,bT,hcons,hok,h9,iR]
end
end Kw.Sp
namespace Kw.Sp
open Go Go.Proofs
section
variable (L D:Nat)
theorem QT(s:S)(hs:s.length<=1000000):∀(n k:Nat),s.length-k<n->k<=s.length->zE L D n (bs s) k=some (.bool ((s.drop k).all fun b=>decide (97<=b.toNat/\b.toNat<=122)),[]):=by
 intro n;induction n with
 |zero=>intro k h;omega
 |succ n ih=>
  intro k hn hk;rw[HB];by_cases h:k<s.length
  ·have h':(k:Int)<s.length:=by omega
   rw[cO s k h,va];have e:=ih (k+1) (by omega) (by omega)
   by_cases h1:((ix s (k:Int)).toNat:Int)<97
   ·have:¬97<=(ix s (k:Int)).toNat:=by omega
    simp(disch:=omega) only[K1,h',eQ,h1];simp[this]
   ·by_cases h2:(122:Int)< (ix s (k:Int)).toNat
    ·have:¬(ix s (k:Int)).toNat<=122:=by omega
     simp(disch:=omega) only[K1,h',eQ,h1,h2];simp[this]
    ·have hh:97<=(ix s (k:Int)).toNat/\(ix s (k:Int)).toNat<=122:=by omega
     simp(disch:=omega) only[K1,h',eQ,h1,h2,aO,e];simp[hh]
  ·have h':¬(k:Int)<s.length:=by omega
   simp(disch:=omega) only[K1,h'];rw[jm (by omega)];rfl
theorem vE(hL:1099511627776<=L)(s:S):ev E L (D+1) 224 [.str (bs s)] []=some (.bool (l7 s),[]):=by
 rw[ah6];unfold l7;by_cases h:s.length<=8
 ·have h':¬(8:Int)<s.length:=by omega
  have:=QT L D s (by omega) L 0 (by omega) (by omega)
  rw[show((0:Nat):Int)=0 from rfl,kw]at this
  simp only[K1,h',this];simp[h]
 ·have h':(8:Int)<s.length:=by omega
  simp only[K1,h'];simp[h]
theorem DF(hL:1099511627776<=L)(f0:Int)(f1:S)(f2:Int)(f3:S):ev E L (D+306) 277 [.agg [.int .i64 f0,.str (bs f1),.int .i64 f2,.str (bs f3)]] []=some (.bool (fraOk ⟨f0,f1,f2,f3⟩),[]):=by
 rw[ahW];unfold fraOk;by_cases h1:aR f0
 case neg=>
  have h1':¬(0<=f0/\f0<=7):=h1;simp only[K1,aY,h1'];simp[h1]
 obtain⟨h1a,h1b⟩:=id h1;by_cases h2:secOk f1=true
 case neg=>
  have:¬(bK f1).op=5:=fun e=>by rw[jR.2 (by simpa using h2)]at e;cases e
  simp only[K1,aY,h1a,h1b,bC _ _ hL,h2];simp[this]
 obtain⟨u,hu⟩:=qt.1 (show(sec f1).isSome=true from h2)
 have hm:bK f1=u.how:=by unfold bK;rw[hu]
 by_cases h3:u.how.op=5
 case neg=>simp only[K1,Nat.reduceAdd,aY,h1a,h1b,bC _ _ hL,h2,dC _ _ hL f1 u hu,gK,h3];simp[hm,h3]
 have hd3:decide (u.how.op=5)=true:=jc h3;by_cases h4:u.how.who=f0
 case neg=>simp only[K1,Nat.reduceAdd,aY,h1a,h1b,bC _ _ hL,h2,dC _ _ hL f1 u hu,gK,hd3,h4];simp[hm,h4]
 have hd4:decide (u.how.who=f0)=true:=jc h4;by_cases h5:1<=f2/\f2<=999
 case neg=>
  simp only[K1,and_false,Nat.reduceAdd,aY,h1a,h1b,bC _ _ hL,h2,dC _ _ hL f1 u hu,gK,hd3,hd4,h5];have:¬(aR f0/\(bK f1).op=5/\(bK f1).who=f0/\1<=f2/\f2<=999):=fun x=>h5 x.2.2.2
  simp[this]
 obtain⟨h5a,h5b⟩:=id h5;have hall:(aR f0/\(bK f1).op=5/\(bK f1).who=f0/\1<=f2/\f2<=999):=⟨h1,by rw[hm];exact h3,by rw[hm];exact h4,h5⟩
 simp only[K1,Nat.reduceAdd,aY,h1a,h1b,bC _ _ hL,h2,dC _ _ hL f1 u hu,gK,hd3,hd4,h5a,h5b,vE _ _ hL];simp[hall]
def DG:Frame:=⟨0,[],0,[]⟩
theorem WQ(hL:1099511627776<=L)(b:Bool)(w e:Int)(ks:List S)(own:List Own)(i t:S)(hl:own.length<=1000000)(n:Int)(x:S):ev E L (D+310) 165 [.agg [.bool b,.int .i64 w,.sl (ks.map rS),.sl (own.map rO),.int .i64 e,.str (bs i),.str (bs t)],.int .i64 n,.str (bs x)] []=
 some (.tup (match jN ⟨b,w,ks,own,e,i,t⟩ n x with|some f=>[.agg (rF f),.bool true]|none=>[.agg (rF DG),.bool false]),[]):=by
 rw[agS];unfold jN;have no:∀P:Prop,∀[Decidable P],¬P->(match(if P then some (⟨w,eE i w,n,x⟩:Frame)else none)with|some f=>[MV.agg (rF f),.bool true]|none=>[.agg (rF DG),.bool false])=[.agg (rF DG),.bool false]:=fun P _ h=>by rw[jb h]
 have hno:rF DG=[.int .i64 0,.str (bs []),.int .i64 0,.str (bs [])]:=rfl;by_cases h1:memOk ⟨b,w,ks,own,e,i,t⟩=true
 case neg=>rw[no _ (fun x=>h1 x.1)];simp only[K1,d9 _ _ hL b w e ks own i t hl,h1,hno]
 cases b with
 |false=>rw[no _ (fun x=>by cases x.2.1)];simp only[K1,d9 _ _ hL false w e ks own i t hl,h1,hno]
 |true=>
  by_cases h2:1<=n/\n<=999
  case neg=>rw[no _ (fun x=>h2 ⟨x.2.2.1,x.2.2.2.1⟩)];simp only[K1,d9 _ _ hL true w e ks own i t hl,h1,aY,h2,hno]
  obtain⟨h2a,h2b⟩:=id h2;by_cases h3:l7 x=true
  case neg=>rw[no _ (fun x=>h3 x.2.2.2.2.1)];simp only[K1,d9 _ _ hL true w e ks own i t hl,h1,aY,h2a,h2b,vE _ _ hL,h3,hno]
  by_cases h4:eE i w=[]
  ·have hd:decide (eE i w=[])=true:=jc h4;rw[no _ (fun x=>x.2.2.2.2.2 h4)];simp only[K1,d9 _ _ hL true w e ks own i t hl,h1,aY,h2a,h2b,vE _ _ hL,h3,GG _ _ hL,hd,hno]
  ·rw[jd ⟨h1,rfl,h2a,h2b,h3,h4⟩];simp only[K1,d9 _ _ hL true w e ks own i t hl,h1,aY,h2a,h2b,vE _ _ hL,h3,GG _ _ hL,h4,rF]
theorem WR(seen:List Int)(m top:Int)(ht: -1000000<=top/\top<=1000000)(hl:seen.length<=1000000):∀(n k:Nat) (d:Bool) (acc:List Int),seen.length-k<n->k<=seen.length->acc.length+2*seen.length<=10000000+2*k->
 lE L D n (acc.map rI) (seen.map rI) m top acc.length d k=some (.sl ((acc++seenGo m top (seen.drop k) d).map rI),[]):=by
 intro n;induction n with
 |zero=>intro k d acc h;omega
 |succ n ih=>
  intro k d acc hn hk hb;rw[HU];by_cases h:k<seen.length
  case neg=>
   have h':¬(k:Int)<seen.length:=by omega
   rw[jm (by omega)]
   cases d with
   |false=>simp(disch:=omega) only[K1,bJ,eG,Nat.reduceAdd,jE,↓aB,h',H9,aJ];simp[seenGo]
   |true=>simp(disch:=omega) only[K1,↓aB,h'];simp[seenGo]
  have h':(k:Int)<seen.length:=by omega
  rw[cO seen k h,seenGo];have hs:bB .i64 top 8=top-8:=eL (by omega) (by omega)
  cases d with
  |true=>
   by_cases h2:top-8<ix seen (k:Int)
   ·have:=ih (k+1) true (acc++[ix seen (k:Int)]) (by omega) (by omega) (by simp;omega)
    simp(disch:=omega) only[K1,jt,bJ,aW,wt,vm,Nat.reduceAdd,jE,bS,bF,↓aB,eK,JU,bR,h',hs,h2,aO,aJ,this];simp
   ·have:=ih (k+1) true acc (by omega) (by omega) (by omega)
    simp(disch:=omega) only[K1,wt,vm,eK,bR,h',hs,h2,aO,this];simp
  |false=>
   by_cases h1:ix seen (k:Int)<m
   ·by_cases h2:top-8<ix seen (k:Int)
    ·have:=ih (k+1) true (acc++[m]++[ix seen (k:Int)]) (by omega) (by omega) (by simp;omega)
     have hx:(acc++[m]).length=acc.length+1:=by simp
     simp(disch:=omega) only[K1,jt,bJ,aW,Nat.reduceAdd,jE,bS,bF,↓aB,eK,JU,bR,h',hs,h1,h2,aO,aJ,this];simp[h1]
    ·have:=ih (k+1) true (acc++[m]) (by omega) (by omega) (by simp;omega)
     simp(disch:=omega) only[K1,jt,bJ,aW,Nat.reduceAdd,jE,bS,bF,↓aB,eK,JU,bR,h',hs,h1,h2,aO,aJ,this];simp[h1]
   ·by_cases h2:top-8<ix seen (k:Int)
    ·have:=ih (k+1) false (acc++[ix seen (k:Int)]) (by omega) (by omega) (by simp;omega)
     simp(disch:=omega) only[K1,jt,bJ,aW,and_false,Nat.reduceAdd,jE,bS,bF,↓aB,eK,JU,bR,h',hs,h1,h2,aO,aJ,this];simp[h1]
    ·have:=ih (k+1) false acc (by omega) (by omega) (by omega)
     simp(disch:=omega) only[K1,and_false,eK,bR,h',hs,h1,h2,aO,this];simp[h1]
theorem ab0(hL:1099511627776<=L)(seen:List Int)(m top:Int)(ht: -1000000<=top/\top<=1000000)(hl:seen.length<=1000000):ev E L (D+1) 279 [.sl (seen.map rI),.int .i64 m,.int .i64 top] []=some (.sl ((seenGo m top seen false).map rI),[]):=by
 rw[ahY];exact WR L D seen m top ht hl L 0 false [] (by omega) (by omega) (by simp;omega)
theorem adE(a b:Int):CL a b=max a b:=by unfold CL;omega
theorem ab1(hL:1099511627776<=L)(key:S)(top:Int)(seen:List Int)(n:Int)(ht: -1000000<=top/\top<=1000000)(hn: -1000000<=n/\n<=1000000)(hl:seen.length<=1000000):ev E L (D+2) 233 [.agg [.str (bs key),.int .i64 top,.sl (seen.map rI)],.int .i64 n] []=
 some (.tup (match winTake ⟨key,top,seen⟩ n with|some x=>[.agg (rW x),.bool true]|none=>[.agg (rW ⟨key,top,seen⟩),.bool false]),[]):=by
 rw[ahF];unfold winTake;have hs:bB .i64 top 8=top-8:=eL (by omega) (by omega)
 by_cases h1:n<=top-8
 ·rw[jd (.inl h1)];simp only[K1,hs,h1,rW]
 ·by_cases h2:n∈seen
  ·rw[jd (.inr h2)];simp only[K1,hs,h1,Q0 _ _ hL seen n hl,h2,rW]
  ·rw[jb (fun x=>x.elim h1 h2)]
   have hsn:=ab0 L D hL seen n (max top n) (by omega) hl
   simp only[K1,hs,h1,Q0 _ _ hL seen n hl,h2,adE,hsn,rW]
theorem adF(wins:List Win)(key:S)(hl:wins.length<=1000000):∀(n k:Nat),wins.length-k<n->k<=wins.length->zF L D n (wins.map rW) (bs key) k=some (.int .i64 (winAt (wins.drop k) key k),[]):=by
 intro n;induction n with
 |zero=>intro k h;omega
 |succ n ih=>
  intro k hn hk;rw[HD];by_cases h:k<wins.length
  ·have h':(k:Int)<wins.length:=by omega
   rw[cO wins k h,winAt];by_cases h1:(ix wins (k:Int)).key=key
   ·have hd:decide ((ix wins (k:Int)).key=key)=true:=jc h1;rw[jd h1];simp(disch:=omega) only[K1,TX,oP,h',hd]
   ·rw[jb h1];simp(disch:=omega) only[K1,TX,oP,h',h1,aO,ih (k+1) (by omega) (by omega)]
  ·have h':¬(k:Int)<wins.length:=by omega
   simp(disch:=omega) only[K1,Int.reduceNeg,h'];rw[jm (by omega)];rfl
theorem aiT(hL:1099511627776<=L)(wins:List Win)(key:S)(hl:wins.length<=1000000):ev E L (D+1) 232 [.sl (wins.map rW),.str (bs key)] []=some (.int .i64 (winAt wins key 0),[]):=by
 rw[ahE];exact adF L D wins key hl L 0 (by omega) (by omega)
theorem winAt_lt:∀(l:List Win) (key:S) (k:Nat),winAt l key k<0\/((k:Int)<=winAt l key k/\winAt l key k<k+l.length)
 |[],_,_=>.inl (by simp[winAt])
 |w::r,key,k=>by
  unfold winAt;split
  ·right;simp;omega
  ·rcases winAt_lt r key (k+1)with h|h
   ·exact .inl h
   ·right;simp;omega
theorem WS(hL:1099511627776<=L)(b:Bool)(w e:Int)(ks:List S)(own:List Own)(i t:S)(h15:b=true->ks.length=15)(f0:Int)(f1:S)(f2:Int)(f3:S):ev E L (D+308) 231 [.agg [.bool b,.int .i64 w,.sl (ks.map rS),.sl (own.map rO),.int .i64 e,.str (bs i),.str (bs t)],.agg [.int .i64 f0,.str (bs f1),.int .i64 f2,.str (bs f3)]] []=some (.bool (tC ⟨b,w,ks,own,e,i,t⟩ ⟨f0,f1,f2,f3⟩),[]):=by
 rw[ahD];unfold tC;cases b with
 |false=>simp only[K1,bD,dR];simp
 |true=>
  have h15:=h15 rfl;by_cases h1:fraOk ⟨f0,f1,f2,f3⟩=true
  case neg=>simp only[K1,bD,dR,DF _ _ hL,h1];simp[h1]
  have hw:aR f0:=by
   unfold fraOk at h1;simp only[jf,ja]at h1;exact h1.1.1
  obtain⟨l1,l2⟩:=e9 hw;have hlt:treLeaf f0<ks.length:=by omega
  by_cases h2:f0=w
  ·have hd:decide (¬f0=w)=false:=jh (fun x=>x h2)
   simp only[K1,bD,DF _ _ hL,h1,hd];simp[h2]
  by_cases h3:ix ks (treLeaf f0)=[]
  ·have hd:decide (¬ix ks (treLeaf f0)=[])=false:=jh (fun x=>x h3)
   simp(disch:=omega) only[K1,bD,eU,bQ,DF _ _ hL,h1,h2,bV,hd];simp[hasLeaf,h3]
  simp(disch:=omega) only[K1,eU,bQ,DF _ _ hL,h1,h2,bV,h3,GG _ _ hL];simp[hasLeaf,h3,h2]
def N4(wins:List Win):Prop:=∀x∈wins,(-1000000<=x.top/\x.top<=1000000)/\x.seen.length<=1000
theorem N5{wins:List Win}(h:N4 wins){k:Int}(h0:0<=k)(h1:k<wins.length):(-1000000<=(ix wins k).top/\(ix wins k).top<=1000000)/\(ix wins k).seen.length<=1000:=by
 have:ix wins k=wins[k.toNat]'(by omega):=by simp[ix,(by omega:k.toNat<wins.length)]
 rw[this];exact h _ (jr _)
theorem alK{f0:Int}{f1:S}{f2:Int}{f3:S}(h:fraOk ⟨f0,f1,f2,f3⟩=true):aR f0/\1<=f2/\f2<=999:=by
 unfold fraOk at h;simp only[jf,ja]at h;exact⟨h.1.1,h.1.2.2.2⟩
theorem adG(hL:1099511627776<=L)(b:Bool)(w e:Int)(ks:List S)(own:List Own)(i t:S)(h15:b=true->ks.length=15)(wins:List Win)(hwl:wins.length<=100000)(hwb:N4 wins)(f0:Int)(f1:S)(f2:Int)(f3:S):ev E L (D+309) 169 [.agg [.bool b,.int .i64 w,.sl (ks.map rS),.sl (own.map rO),.int .i64 e,.str (bs i),.str (bs t)],.sl (wins.map rW),.agg [.int .i64 f0,.str (bs f1),.int .i64 f2,.str (bs f3)]] []=
 some (.tup (match mN ⟨b,w,ks,own,e,i,t⟩ wins ⟨f0,f1,f2,f3⟩with|some x=>[.sl (x.map rW),.bool true]|none=>[.sl ((if tC ⟨b,w,ks,own,e,i,t⟩ ⟨f0,f1,f2,f3⟩=true/\0<=winAt wins f1 0 then wins.set (winAt wins f1 0).toNat (ix wins (winAt wins f1 0))else wins).map rW),.bool false]),[]):=by
 rw[agW];unfold mN;have hh:=WS L D hL b w e ks own i t h15 f0 f1 f2 f3;by_cases h1:tC ⟨b,w,ks,own,e,i,t⟩ ⟨f0,f1,f2,f3⟩=true
 case neg=>
  rw[jb h1];simp only[K1,wt,hh,h1]
 rw[jd h1];have hfr:fraOk ⟨f0,f1,f2,f3⟩=true:=by
  unfold tC at h1;simp only[jf]at h1;exact h1.2.1
 obtain⟨_,n1,n2⟩:=alK hfr;have hat:=aiT L (D+307) hL wins f1 (by omega)
 simp only;by_cases h2:winAt wins f1 0<0
 ·rw[jd h2];have e1:[[MV.str (bs f1),.int .i64 f2,.sl [[.int .i64 f2]]]]=[(⟨f1,f2,[f2]⟩:Win)].map rW:=rfl;simp(disch:=omega) only[K1,bJ,aW,eG,Nat.reduceAdd,ED,bF,↓aB,fF,hh,h1,hat,h2,e1,aJ]
 ·rw[jb h2];rcases winAt_lt wins f1 0 with h3|h3
  ·exact absurd h3 h2
  obtain⟨p1,p2⟩:=h3;have p2':winAt wins f1 0<wins.length:=by omega
  have p1':0<=winAt wins f1 0:=by omega
  obtain⟨t1,t2⟩:=N5 hwb p1' p2';have htk:=ab1 L (D+306) hL (ix wins (winAt wins f1 0)).key (ix wins (winAt wins f1 0)).top (ix wins (winAt wins f1 0)).seen f2 t1 (by omega) (by omega)
  have e1:(⟨(ix wins (winAt wins f1 0)).key,(ix wins (winAt wins f1 0)).top,(ix wins (winAt wins f1 0)).seen⟩:Win)=ix wins (winAt wins f1 0):=rfl;rw[e1]at htk;cases e2:winTake (ix wins (winAt wins f1 0)) f2 with
  |none=>
   rw[e2]at htk;simp only[rW]at htk;simp(disch:=omega) only[K1,bJ,true_and,Int.reduceLE,Nat.reduceAdd,ED,bF,↓aB,TX,ac1,ac2,LQ,LR,CU,adS,oP,fF,hh,h1,hat,h2,htk,aJ,e1,kf];simp[p1']
  |some x=>
   rw[e2]at htk;simp only[rW]at htk;have e3:(⟨x.key,x.top,x.seen⟩:Win)=x:=rfl;simp(disch:=omega) only[K1,bJ,Int.reduceLE,Nat.reduceAdd,ED,bF,↓aB,TX,ac1,ac2,LQ,LR,CU,adS,oP,fF,hh,h1,hat,h2,htk,aJ,e3,kf]
theorem WT(wins:List Win)(hl:wins.length<=100000)(hb:N4 wins):∀(n k:Nat) (acc:List Win),wins.length-k<n->k<=wins.length->acc.length+wins.length<=1000000+k->y8 L D n (acc.map rW) (wins.map rW) acc.length k=some (.sl ((acc++wins.drop k).map rW),[]):=by
 intro n;induction n with
 |zero=>intro k acc h;omega
 |succ n ih=>
  intro k acc hn hk hc;rw[G4];by_cases h:k<wins.length
  ·have h':(k:Int)<wins.length:=by omega
   obtain⟨_,t2⟩:=N5 hb (by omega) h'
   rw[cO wins k h];have:=ih (k+1) (acc++[ix wins (k:Int)]) (by omega) (by omega) (by simp;omega)
   have e1:(⟨(ix wins (k:Int)).key,(ix wins (k:Int)).top,(ix wins (k:Int)).seen⟩:Win)=ix wins (k:Int):=rfl;simp(disch:=omega) only[K1,jt,bJ,aW,Nat.reduceAdd,jE,ED,bS,bF,↓aB,TX,ac1,ac2,aeD,oP,fF,h',aO,aJ,e1,this];simp
  ·have h':¬(k:Int)<wins.length:=by omega
   simp(disch:=omega) only[K1,↓aB,h'];rw[jm (by omega),jz]
theorem ab2(hL:1099511627776<=L)(wins:List Win)(hl:wins.length<=100000)(hb:N4 wins):ev E L (D+1) 104 [.sl (wins.map rW)] []=some (.sl (wins.map rW),[]):=by
 rw[agH];exact WT L D wins hl hb L 0 [] (by omega) (by omega) (by simp;omega)
end
end Kw.Sp
namespace Kw.Sp
open Go Go.Proofs
section
variable (L D:Nat)
def m9(w:Int)(k:Nat):Member:=if(k:Int)=w then fH w (bP w 1) (bP w 2)else cI
def lG(w:Int)(k:Nat):Int:=if(k:Int)=w then 2 else 0
theorem N6{A:Type}(k:Nat)(x:A):List.replicate k x++[x]=List.replicate (k+1) x:=by rw[List.replicate_succ']
theorem WU(hL:1099511627776<=L)(w:Int)(hw:aR w):∀(n k:Nat),8-k<n->k<=8->
 y6 L (D+309) n [] [] [] [] [] [] [] [] [] [] (((List.range k).map (m9 w)).map rM) [] [] (((List.range k).map (lG w)).map rI) [] [] [] ((List.replicate k (0:Int)).map rI) ((List.replicate k ([]:List Win)).map rWs) [] 0 0 0 0 0 0 0 0 0 0 k 0 0 k 0 0 0 k k 0 w k=
 some (.agg [.own ((cP w).seats.map rM),.own ((cP w).waits.map rWt),.own ((cP w).log.map rC),.own ((cP w).fresh.map rI),.own ((cP w).spy.map rS),.own ((cP w).stolen.map rSt),.own ((cP w).frames.map rF),.own ((cP w).said.map rI),.own ((cP w).wins.map rWs),.own ((cP w).told.map rT)],[]):=by
 intro n;induction n with
 |zero=>intro k h;omega
 |succ n ih=>
  intro k hn hk;rw[KU];have l1:((List.range k).map (m9 w)).length=k:=by simp
  have l2:((List.range k).map (lG w)).length=k:=by simp
  have l3:(List.replicate k (0:Int)).length=k:=by simp
  have l4:(List.replicate k ([]:List Win)).length=k:=by simp
  by_cases h:k<8
  case neg=>
   have h':¬(k:Int)<8:=by omega
   have e8:k=8:=by omega
   have hg:cP w=⟨(List.range 8).map (m9 w),[],[],(List.range 8).map (lG w),[],[],[],List.replicate 8 0,List.replicate 8 [],[]⟩:=by
    unfold cP;rw[jd hw];rfl
   rw[hg];simp(disch:=omega) only[K1,↓aB,h',l1,l2,l3,l4];rw[e8];rfl
  have h':(k:Int)<8:=by omega
  have e:=ih (k+1) (by omega) (by omega)
  have s1:(List.range k).map (m9 w)++[m9 w k]=(List.range (k+1)).map (m9 w):=by simp[List.range_succ]
  have s2:(List.range k).map (lG w)++[lG w k]=(List.range (k+1)).map (lG w):=by simp[List.range_succ]
  have s3:=N6 k (0:Int);have s4:=N6 k ([]:List Win);have m1:((List.range (k+1)).map (m9 w)).length=k+1:=by simp
  have m2:((List.range (k+1)).map (lG w)).length=k+1:=by simp
  have m3:(List.replicate (k+1) (0:Int)).length=k+1:=by simp
  have m4:(List.replicate (k+1) ([]:List Win)).length=k+1:=by simp
  have w1:[[MV.sl []]]=[([]:List Win)].map rWs:=rfl;by_cases hk1:(k:Int)=w
  ·have f1:m9 w k=fH w (bP w 1) (bP w 2):=jd hk1;have f2:lG w k=2:=jd hk1;have hmf:=QL L D hL w (bP w 1) (bP w 2);rw[f1]at s1;rw[f2]at s2;simp only[rM]at hmf;generalize fH w (bP w 1) (bP w 2)=m at hmf s1;have e1:(⟨m.inn,m.who,m.keys,m.own,m.epoch,m.init,m.tag⟩:Member)=m:=rfl;have hd:decide ((k:Int)=w)=true:=jc hk1;simp(disch:=omega) only[K1,jt,bJ,aW,eG,Nat.reduceAdd,jE,RF,JZ,bS,bF,↓aB,XP,h',hd,pY _ _ hL,hmf,e1,H9,w1,l1,l2,l3,l4,aJ,s1,s2,s3,s4,m1,m2,m3,m4,aO,e]
  ·have f1:m9 w k=cI:=jb hk1;have f2:lG w k=0:=jb hk1;rw[f1]at s1;rw[f2]at s2;have e1:[[MV.bool false,.int .i64 0,.sl [],.sl [],.int .i64 0,.str (bs []),.str (bs [])]]=[cI].map rM:=rfl;simp(disch:=omega) only[K1,bJ,eG,Nat.reduceAdd,jE,RF,JZ,↓aB,h',hk1,e1,H9,w1,l1,l2,l3,l4,aJ,s1,s2,s3,s4,m1,m2,m3,m4,aO,e]
theorem ab3(hL:1099511627776<=L)(w:Int):ev E L (D+310) 57 [.int .i64 w] []=
 some (.agg [.own ((cP w).seats.map rM),.own ((cP w).waits.map rWt),.own ((cP w).log.map rC),.own ((cP w).fresh.map rI),.own ((cP w).spy.map rS),.own ((cP w).stolen.map rSt),.own ((cP w).frames.map rF),.own ((cP w).said.map rI),.own ((cP w).wins.map rWs),.own ((cP w).told.map rT)],[]):=by
 rw[al3];by_cases hw:aR w
 ·obtain⟨h1,h2⟩:=id hw;simp only[K1,aY,h1,h2];exact WU L D hL w hw L 0 (by omega) (by omega)
 ·have h1:¬(0<=w/\w<=7):=hw;simp only[K1,aY,h1];unfold cP;rw[jb hw];rfl
theorem adH(c0:Int)(c1 c2:S)(c3 c4:Int)(c5:S)(c6:List S)(c7:List Box)(c8 c9 c10 c11 c12:S)(h1:c6.length<=1000000)(h2:c7.length<=1000000):ev E L (D+1) 103 [.agg [.int .i64 c0,.str (bs c1),.str (bs c2),.int .i64 c3,.int .i64 c4,.str (bs c5),.sl (c6.map rS),.sl (c7.map rB),.str (bs c8),.str (bs c9),.str (bs c10),.str (bs c11),.str (bs c12)]] []=some (.agg (rC ⟨c0,c1,c2,c3,c4,c5,c6,c7,c8,c9,c10,c11,c12⟩),[]):=by
 rw[agG];simp(disch:=omega) only[K1,bJ,gF,IB,bF,↓aB,fF,aJ,rC]
end
end Kw.Sp
namespace Kw.Sp
open Go Go.Proofs
structure WSz(w:World):Prop where
 seats:w.seats.length<=1000
 waits:w.waits.length<=100000
 log:w.log.length<=1000
 fresh:w.fresh.length<=1000
 spy:w.spy.length<=100000
 stolen:w.stolen.length<=100000
 frames:w.frames.length<=100000
 said:w.said.length<=1000
 wins:w.wins.length<=1000
 told:w.told.length<=100000
 seat:∀m∈w.seats,m.keys.length<=1000/\m.own.length<=1000/\(m.inn=false->m.keys=[])
 cmt:∀c∈w.log,c.keys.length<=1000/\c.boxes.length<=1000
 win:∀l∈w.wins,l.length<=1000/\N4 l
theorem dY{A:Type} [Inhabited A](l:List A)(k:Nat)(h:k<l.length):ix l (k:Int)∈l:=by rw[aZ l k h];exact jr h
section
variable (L D:Nat)
theorem F3(hL:1099511627776<=L)(w:World)(z:WSz w):∀(n k:Nat) (B:List (List Win)),w.wins.length-k<n->k<=w.wins.length->B++w.wins.drop k=w.wins->
 y7 L (D+2) n [] [] [] [] [] [] [] [] [] [] (w.seats.map rM) (w.waits.map rWt) (w.log.map rC) (w.fresh.map rI) (w.spy.map rS) (w.stolen.map rSt) (w.frames.map rF) (w.said.map rI) (B.map rWs) (w.told.map rT) (w.seats.map rM) (w.waits.map rWt) (w.log.map rC) (w.fresh.map rI) (w.spy.map rS) (w.stolen.map rSt) (w.frames.map rF) (w.said.map rI) (w.wins.map rWs) (w.told.map rT) 0 0 0 0 0 0 0 0 0 0 w.seats.length w.waits.length w.log.length w.fresh.length w.spy.length w.stolen.length w.frames.length w.said.length B.length w.told.length k=some (.agg [.own (w.seats.map rM),.own (w.waits.map rWt),.own (w.log.map rC),.own (w.fresh.map rI),.own (w.spy.map rS),.own (w.stolen.map rSt),.own (w.frames.map rF),.own (w.said.map rI),.own (w.wins.map rWs),.own (w.told.map rT)],[]):=by
 intro n;induction n with
 |zero=>intro k B h;omega
 |succ n ih=>
  intro k B hn hk hB;rw[G0];have hBl:=vg List.length hB;rw[jk,wz]at hBl;have z9:=z.wins;by_cases h:k<w.wins.length
  case neg=>
   have h':¬(k:Int)<w.wins.length:=by omega
   rw[jm (by omega),jz]at hB
   subst hB;simp(disch:=omega) only[K1,↓aB,h']
  have h':(k:Int)<w.wins.length:=by omega
  obtain⟨q1,q2⟩:=z.win _ (dY w.wins k h);have hw:=ab2 L (D+1) hL (ix w.wins (k:Int)) (by omega) q2
  have e1:[[MV.sl ((ix w.wins (k:Int)).map rW)]]=[ix w.wins (k:Int)].map rWs:=rfl;have:=ih (k+1) (B++[ix w.wins (k:Int)]) (by omega) (by omega) (by rw[qy];rw[cO w.wins k h]at hB;exact hB)
  simp(disch:=omega) only[K1,bJ,eG,Nat.reduceAdd,JZ,↓aB,lJ,eW,h',hw,e1,aJ,aO,this]
theorem ab4(hL:1099511627776<=L)(w:World)(z:WSz w):∀(n k:Nat) (C:List Commit),w.log.length-k<n->k<=w.log.length->C++w.log.drop k=w.log->
 C6 L (D+2) n [] [] [] [] [] [] [] [] [] [] (w.seats.map rM) (w.waits.map rWt) (C.map rC) (w.fresh.map rI) (w.spy.map rS) (w.stolen.map rSt) (w.frames.map rF) (w.said.map rI) [] (w.told.map rT) (w.seats.map rM) (w.waits.map rWt) (w.log.map rC) (w.fresh.map rI) (w.spy.map rS) (w.stolen.map rSt) (w.frames.map rF) (w.said.map rI) (w.wins.map rWs) (w.told.map rT) 0 0 0 0 0 0 0 0 0 0 w.seats.length w.waits.length C.length w.fresh.length w.spy.length w.stolen.length w.frames.length w.said.length 0 w.told.length k=some (.agg [.own (w.seats.map rM),.own (w.waits.map rWt),.own (w.log.map rC),.own (w.fresh.map rI),.own (w.spy.map rS),.own (w.stolen.map rSt),.own (w.frames.map rF),.own (w.said.map rI),.own (w.wins.map rWs),.own (w.told.map rT)],[]):=by
 intro n;induction n with
 |zero=>intro k C h;omega
 |succ n ih=>
  intro k C hn hk hB;rw[KW];have hBl:=vg List.length hB;rw[jk,wz]at hBl;have z9:=z.log;by_cases h:k<w.log.length
  case neg=>
   have h':¬(k:Int)<w.log.length:=by omega
   rw[jm (by omega),jz]at hB
   subst hB;have:=F3 L D hL w z L 0 [] (by have:=z.wins;omega) (by omega) rfl
   simp(disch:=omega) only[K1,h'];exact this
  have h':(k:Int)<w.log.length:=by omega
  obtain⟨q1,q2⟩:=z.cmt _ (dY w.log k h);generalize hc:ix w.log (k:Int)=c at q1 q2;have hw:=adH L (D+1) c.sender c.tag c.name c.add c.remove c.leaf c.keys c.boxes c.wkey c.wik c.wis c.wsk c.wss (by omega) (by omega)
  have e1:(⟨c.sender,c.tag,c.name,c.add,c.remove,c.leaf,c.keys,c.boxes,c.wkey,c.wik,c.wis,c.wsk,c.wss⟩:Commit)=c:=rfl;have e2:[rC c]=[c].map rC:=rfl;simp only[rC]at hw;have:=ih (k+1) (C++[c]) (by omega) (by omega) (by rw[qy];rw[cO w.log k h,hc]at hB;exact hB)
  simp(disch:=omega) only[K1,jt,bJ,aW,Nat.reduceAdd,IC,bS,bF,↓aB,D2,D3,D4,D5,D6,D7,D8,D9,EA,EB,sM,sN,sO,EC,lP,h',hc,hw,e1,aJ,aO,this]
theorem ab5(hL:1099511627776<=L)(w:World)(z:WSz w):∀(n k:Nat) (A:List Member),w.seats.length-k<n->k<=w.seats.length->A++w.seats.drop k=w.seats->
 C5 L (D+2) n [] [] [] [] [] [] [] [] [] [] (A.map rM) (w.waits.map rWt) [] (w.fresh.map rI) (w.spy.map rS) (w.stolen.map rSt) (w.frames.map rF) (w.said.map rI) [] (w.told.map rT) (w.seats.map rM) (w.waits.map rWt) (w.log.map rC) (w.fresh.map rI) (w.spy.map rS) (w.stolen.map rSt) (w.frames.map rF) (w.said.map rI) (w.wins.map rWs) (w.told.map rT) 0 0 0 0 0 0 0 0 0 0 A.length w.waits.length 0 w.fresh.length w.spy.length w.stolen.length w.frames.length w.said.length 0 w.told.length k=some (.agg [.own (w.seats.map rM),.own (w.waits.map rWt),.own (w.log.map rC),.own (w.fresh.map rI),.own (w.spy.map rS),.own (w.stolen.map rSt),.own (w.frames.map rF),.own (w.said.map rI),.own (w.wins.map rWs),.own (w.told.map rT)],[]):=by
 intro n;induction n with
 |zero=>intro k A h;omega
 |succ n ih=>
  intro k A hn hk hB;rw[KV];have hBl:=vg List.length hB;rw[jk,wz]at hBl;have z9:=z.seats;by_cases h:k<w.seats.length
  case neg=>
   have h':¬(k:Int)<w.seats.length:=by omega
   rw[jm (by omega),jz]at hB
   subst hB;have:=ab4 L D hL w z L 0 [] (by have:=z.log;omega) (by omega) rfl
   simp(disch:=omega) only[K1,h'];exact this
  have h':(k:Int)<w.seats.length:=by omega
  obtain⟨q1,q2,q3⟩:=z.seat _ (dY w.seats k h);generalize hc:ix w.seats (k:Int)=m at q1 q2 q3;have hw:=GC L D hL m.inn m.who m.epoch m.keys m.own m.init m.tag (by omega) (by omega)
  have e0:(if m.inn=true then m.keys else[])=m.keys:=by
   cases hi:m.inn with
   |true=>rfl
   |false=>rw[q3 hi];rfl
  rw[e0]at hw;have e1:(⟨m.inn,m.who,m.keys,m.own,m.epoch,m.init,m.tag⟩:Member)=m:=rfl;simp only[rM]at hw;have:=ih (k+1) (A++[m]) (by omega) (by omega) (by rw[qy];rw[cO w.seats k h,hc]at hB;exact hB)
  simp(disch:=omega) only[K1,jt,bJ,aW,Nat.reduceAdd,RF,bS,bF,↓aB,gI,iS,iT,iU,iV,iW,iX,XP,cJ,h',hc,hw,e1,aJ,aO,this]
theorem ab6(hL:1099511627776<=L)(w:World)(z:WSz w):ev E L (D+3) 60 [.agg [.sl (w.seats.map rM),.sl (w.waits.map rWt),.sl (w.log.map rC),.sl (w.fresh.map rI),.sl (w.spy.map rS),.sl (w.stolen.map rSt),.sl (w.frames.map rF),.sl (w.said.map rI),.sl (w.wins.map rWs),.sl (w.told.map rT)]] []=some (.agg [.own (w.seats.map rM),.own (w.waits.map rWt),.own (w.log.map rC),.own (w.fresh.map rI),.own (w.spy.map rS),.own (w.stolen.map rSt),.own (w.frames.map rF),.own (w.said.map rI),.own (w.wins.map rWs),.own (w.told.map rT)],[]):=by
 rw[al5];have z1:=z.waits;have z2:=z.fresh;have z3:=z.spy;have z4:=z.stolen;have z5:=z.frames;have z6:=z.said;have z7:=z.told;have:=ab5 L D hL w z L 0 [] (by have:=z.seats;omega) (by omega) rfl
 simp(disch:=omega) only[K1,bJ,gF,jE,lK,AD,AE,lL,bF,↓aB,fF,aJ];exact this
end
end Kw.Sp
namespace Kw.Sp
open Go Go.Proofs
structure WI(w:World):Prop where
 seats8:w.seats.length=8
 fresh8:w.fresh.length=8
 said8:w.said.length=8
 wins8:w.wins.length=8
 log16:w.log.length<=16
 waitsL:w.waits.length<=16
 stolen12:w.stolen.length<=12
 spyL:w.spy.length<=31*w.stolen.length
 frames40:w.frames.length<=40
 told320:w.told.length<=320
 freshR:∀x∈w.fresh,0<=x/\x<=100
 saidR:∀x∈w.said,0<=x/\x<=999
 seat:∀m∈w.seats,(m.inn=true->m.keys.length=15)/\(m.inn=false->m.keys=[])/\m.own.length<=30/\m.tag.length<=600/\m.keys.length<=15
 cmt:∀c∈w.log,c.tag.length<=300/\c.keys.length<=1000/\c.boxes.length<=1000
 win:∀l∈w.wins,l.length<=w.told.length/\∀x∈l,(0<=x.top/\x.top<=999)/\x.seen.length<=w.told.length+1
theorem WI.sz{w:World}(z:WI w):WSz w where
 seats:=by have:=z.seats8;omega
 waits:=by have:=z.waitsL;omega
 log:=by have:=z.log16;omega
 fresh:=by have:=z.fresh8;omega
 spy:=by have:=z.spyL;have:=z.stolen12;omega
 stolen:=by have:=z.stolen12;omega
 frames:=by have:=z.frames40;omega
 said:=by have:=z.said8;omega
 wins:=by have:=z.wins8;omega
 told:=by have:=z.told320;omega
 seat:=fun m hm=>by obtain⟨a,b,c,d,e⟩:=z.seat m hm;exact⟨by omega,by omega,b⟩
 cmt:=fun c hc=>by obtain⟨a,b,d⟩:=z.cmt c hc;exact⟨b,d⟩
 win:=fun l hl=>by
  obtain⟨a,b⟩:=z.win l hl;have:=z.told320;exact⟨by omega,fun x hx=>by obtain⟨c,d⟩:=b x hx;exact⟨by omega,by omega⟩⟩
theorem ixm{A:Type} [Inhabited A](l:List A)(i:Int)(h0:0<=i)(h1:i<l.length):ix l i∈l:=by
 have h:i.toNat<l.length:=by omega
 have:ix l i=l[i.toNat]:=by simp[ix,h]
 rw[this];exact jr h
section
variable (L D:Nat)
theorem ab7(hL:1099511627776<=L)(w:World)(z:WI w)(who pos:Int)(hw:aR who)(hp:0<=pos/\pos<w.log.length):ev E L (D+311) 99 [.agg [.own (w.seats.map rM),.own (w.waits.map rWt),.own (w.log.map rC),.own (w.fresh.map rI),.own (w.spy.map rS),.own (w.stolen.map rSt),.own (w.frames.map rF),.own (w.said.map rI),.own (w.wins.map rWs),.own (w.told.map rT)],.int .i64 who,.int .i64 pos] []=some (.agg [.own ((eR w who pos).seats.map rM),.own ((eR w who pos).waits.map rWt),.own ((eR w who pos).log.map rC),.own ((eR w who pos).fresh.map rI),.own ((eR w who pos).spy.map rS),.own ((eR w who pos).stolen.map rSt),.own ((eR w who pos).frames.map rF),.own ((eR w who pos).said.map rI),.own ((eR w who pos).wins.map rWs),.own ((eR w who pos).told.map rT)],[]):=by
 rw[alB];have z8:=z.seats8;have w0:=hw.1;have w1:who<w.seats.length:=by have:=hw.2;omega
 have p0:=hp.1;have p1:=hp.2;obtain⟨a1,a2,a3,a4,a5⟩:=z.seat _ (ixm w.seats who w0 w1);obtain⟨b1,b2,b3⟩:=z.cmt _ (ixm w.log pos p0 p1);unfold eR;generalize hm:ix w.seats who=m at a1 a2 a3 a4 a5;generalize hc:ix w.log pos=c at b1 b2 b3;have h:=WO L D hL m.inn m.who m.epoch m.keys m.own m.init m.tag (by omega) c.sender c.tag c.name c.add c.remove c.leaf c.keys c.boxes c.wkey c.wik c.wis c.wsk c.wss (by omega)
 have e1:(⟨m.inn,m.who,m.keys,m.own,m.epoch,m.init,m.tag⟩:Member)=m:=rfl;have e2:(⟨c.sender,c.tag,c.name,c.add,c.remove,c.leaf,c.keys,c.boxes,c.wkey,c.wik,c.wis,c.wsk,c.wss⟩:Commit)=c:=rfl;rw[e1,e2]at h;simp only[rM]at h;generalize f8 m c=r at h;have e3:(⟨r.1.inn,r.1.who,r.1.keys,r.1.own,r.1.epoch,r.1.init,r.1.tag⟩:Member)=r.1:=rfl;cases hr:r.2 with
 |false=>
  rw[hr]at h;simp(disch:=omega) only[K1,Int.reduceLE,Nat.reduceAdd,↓aB,gI,iS,iT,iU,iV,iW,iX,gR,cS,cB,oZ,cJ,D2,D3,D4,D5,D6,D7,D8,D9,EA,EB,sM,sN,sO,lY,lP,hm,hc,h,hr]
 |true=>
  rw[hr]at h;simp(disch:=omega) only[K1,Int.reduceLE,Nat.reduceAdd,↓aB,gI,iS,iT,iU,iV,iW,iX,gR,cS,cB,oZ,cJ,D2,D3,D4,D5,D6,D7,D8,D9,EA,EB,sM,sN,sO,lY,lP,hm,hc,h,hr,e3,kf]
  rfl
theorem WV(hL:1099511627776<=L)(w:World)(z:WI w)(who:Int)(hw:aR who):ev E L (D+311) 97 [.agg [.own (w.seats.map rM),.own (w.waits.map rWt),.own (w.log.map rC),.own (w.fresh.map rI),.own (w.spy.map rS),.own (w.stolen.map rSt),.own (w.frames.map rF),.own (w.said.map rI),.own (w.wins.map rWs),.own (w.told.map rT)],.int .i64 who] []=some (.agg [.own ((dP w who).seats.map rM),.own ((dP w who).waits.map rWt),.own ((dP w who).log.map rC),.own ((dP w who).fresh.map rI),.own ((dP w who).spy.map rS),.own ((dP w who).stolen.map rSt),.own ((dP w who).frames.map rF),.own ((dP w who).said.map rI),.own ((dP w who).wins.map rWs),.own ((dP w who).told.map rT)],[]):=by
 rw[al9];have z8:=z.seats8;have zs:=z.spyL;have zt:=z.stolen12;have w0:=hw.1;have w1:who<w.seats.length:=by have:=hw.2;omega
 obtain⟨a1,a2,a3,a4,a5⟩:=z.seat _ (ixm w.seats who w0 w1);unfold dP;generalize hm:ix w.seats who=m at a1 a2 a3 a4 a5;have h:=QM L D hL m.inn m.who m.epoch m.keys m.own m.init m.tag (by omega)
 have e1:(⟨m.inn,m.who,m.keys,m.own,m.epoch,m.init,m.tag⟩:Member)=m:=rfl;rw[e1]at h;have hk:(fW m).length<=31:=by
  unfold fW;split
  ·simp;omega
  ·simp
 cases hi:m.inn with
 |false=>
  simp(disch:=omega) only[K1,↓aB,gI,cB,cJ,hm,hi];simp
 |true=>
  rw[hi]at h;by_cases h12:w.stolen.length=12
  ·have h12':(w.stolen.length:Int)=12:=by omega
   have hd:decide ((w.stolen.length:Int)=12)=true:=jc h12';simp(disch:=omega) only[K1,vm,↓aB,gI,cB,cJ,hm,hi,hd];simp[h12]
  ·have h12':¬(w.stolen.length:Int)=12:=by omega
   simp(disch:=omega) only[K1,jt,bJ,aW,eG,vm,Nat.reduceAdd,gF,AE,bS,bF,↓aB,gI,iS,iT,iU,iV,iW,iX,cB,cJ,CV,hm,hi,h12',h,aJ];simp[h12]
theorem adI(hL:1099511627776<=L)(w:World)(z:WI w)(who:Int)(hw:aR who)(x:S):ev E L (D+311) 98 [.agg [.own (w.seats.map rM),.own (w.waits.map rWt),.own (w.log.map rC),.own (w.fresh.map rI),.own (w.spy.map rS),.own (w.stolen.map rSt),.own (w.frames.map rF),.own (w.said.map rI),.own (w.wins.map rWs),.own (w.told.map rT)],.int .i64 who,.str (bs x)] []=some (.agg [.own ((fJ w who x).seats.map rM),.own ((fJ w who x).waits.map rWt),.own ((fJ w who x).log.map rC),.own ((fJ w who x).fresh.map rI),.own ((fJ w who x).spy.map rS),.own ((fJ w who x).stolen.map rSt),.own ((fJ w who x).frames.map rF),.own ((fJ w who x).said.map rI),.own ((fJ w who x).wins.map rWs),.own ((fJ w who x).told.map rT)],[]):=by
 rw[alA];have z8:=z.seats8;have zs:=z.said8;have zf:=z.frames40;have w0:=hw.1;have w1:who<w.seats.length:=by have:=hw.2;omega
 have w2:who<w.said.length:=by have:=hw.2;omega
 obtain⟨a1,a2,a3,a4,a5⟩:=z.seat _ (ixm w.seats who w0 w1);obtain⟨s0,s1⟩:=z.saidR _ (ixm w.said who w0 w2);unfold fJ;generalize hm:ix w.seats who=m at a1 a2 a3 a4 a5;generalize hs:ix w.said who=s at s0 s1;by_cases h40:w.frames.length=40
 ·have h':(w.frames.length:Int)=40:=by omega
  have hd:decide (¬(w.frames.length:Int)=40)=false:=jh (fun x=>x h')
  simp(disch:=omega) only[K1,bD,↓aB,hd];simp[h40]
 have h40':¬(w.frames.length:Int)=40:=by omega
 by_cases h999:s=999
 ·have hd:decide (s=999)=true:=jc h999;simp(disch:=omega) only[K1,↓aB,eK,cG,bR,h40',hs,hd];simp[h999]
 rw[jb (fun x=>x.elim h40 h999)]
 have h:=WQ L D hL m.inn m.who m.epoch m.keys m.own m.init m.tag (by omega) (s+1) x
 have e1:(⟨m.inn,m.who,m.keys,m.own,m.epoch,m.init,m.tag⟩:Member)=m:=rfl;rw[e1]at h;cases hf:jN m (s+1) x with
 |none=>
  rw[hf]at h;simp only[rF]at h;simp(disch:=omega) only[K1,jt,dE,aW,Int.reduceLE,Nat.reduceAdd,lK,bS,bF,↓aB,eK,dU,dV,cG,jB,bR,gI,iS,iT,iU,iV,iW,iX,cB,cJ,JV,h40',hs,h999,hm,bT,h]
 |some f=>
  rw[hf]at h;simp only[rF]at h;have e3:(⟨f.src,f.key,f.n,f.text⟩:Frame)=f:=rfl;simp(disch:=omega) only[K1,jt,bJ,aW,Int.reduceLE,Nat.reduceAdd,lK,bS,bF,↓aB,eK,dU,dV,cG,jB,bR,gI,iS,iT,iU,iV,iW,iX,cB,cJ,JV,h40',hs,h999,hm,bT,h,e3,aJ,kf]
  rfl
theorem adJ(hL:1099511627776<=L)(w:World)(z:WI w)(who pos:Int)(hw:aR who)(hp:0<=pos/\pos<w.frames.length):ev E L (D+311) 101 [.agg [.own (w.seats.map rM),.own (w.waits.map rWt),.own (w.log.map rC),.own (w.fresh.map rI),.own (w.spy.map rS),.own (w.stolen.map rSt),.own (w.frames.map rF),.own (w.said.map rI),.own (w.wins.map rWs),.own (w.told.map rT)],.int .i64 who,.int .i64 pos] []=some (.agg [.own ((fX w who pos).seats.map rM),.own ((fX w who pos).waits.map rWt),.own ((fX w who pos).log.map rC),.own ((fX w who pos).fresh.map rI),.own ((fX w who pos).spy.map rS),.own ((fX w who pos).stolen.map rSt),.own ((fX w who pos).frames.map rF),.own ((fX w who pos).said.map rI),.own ((fX w who pos).wins.map rWs),.own ((fX w who pos).told.map rT)],[]):=by
 rw[agE];have z8:=z.seats8;have z9:=z.wins8;have zt:=z.told320;have w0:=hw.1;have w1:who<w.seats.length:=by have:=hw.2;omega
 have w2:who<w.wins.length:=by have:=hw.2;omega
 have p0:=hp.1;have p1:=hp.2;obtain⟨a1,a2,a3,a4,a5⟩:=z.seat _ (ixm w.seats who w0 w1);obtain⟨q1,q2⟩:=z.sz.win _ (ixm w.wins who w0 w2);unfold fX;generalize hm:ix w.seats who=m at a1 a2 a3 a4 a5;generalize hs:ix w.wins who=s at q1 q2;generalize hf:ix w.frames pos=f;by_cases h320:w.told.length=320
 ·have h':(w.told.length:Int)=320:=by omega
  have hd:decide ((w.told.length:Int)=320)=true:=jc h';simp(disch:=omega) only[K1,↓aB,hd];simp[h320]
 have h320':¬(w.told.length:Int)=320:=by omega
 rw[jb h320];have h:=adG L (D+1) hL m.inn m.who m.epoch m.keys m.own m.init m.tag a1 s (by omega) q2 f.src f.key f.n f.text
 have e1:(⟨m.inn,m.who,m.keys,m.own,m.epoch,m.init,m.tag⟩:Member)=m:=rfl;have e2:(⟨f.src,f.key,f.n,f.text⟩:Frame)=f:=rfl;rw[e1,e2]at h;cases hg:mN m s f with
 |none=>
  rw[hg]at h;simp(disch:=omega) only[K1,jt,dE,aW,Int.reduceLE,Nat.reduceAdd,lL,bS,bF,↓aB,gI,iS,iT,iU,iV,iW,iX,cB,cJ,TT,TU,TV,TW,xJ,wG,lJ,uL,eA,eP,JW,eW,iY,h320',hm,hs,hf,h]
 |some x=>
  rw[hg]at h;simp(disch:=omega) only[K1,jt,bJ,aW,Int.reduceLE,Nat.reduceAdd,lL,bS,bF,↓aB,gI,iS,iT,iU,iV,iW,iX,cB,cJ,TT,TU,TV,TW,xJ,wG,lJ,uL,eA,eP,JW,eW,iY,h320',hm,hs,hf,h,aJ,kf]
  rfl
end
end Kw.Sp
namespace Kw.Sp
open Go Go.Proofs
def gX(p:Nat):List Wait->Nat->List Wait
 |[],_=>[]
 |x::r,k=>(if k=p then[]else[x])++gX p r (k+1)
theorem CJ(p:Nat):∀(l:List Wait) (k:Nat),p<k->gX p l k=l
 |[],_,_=>rfl
 |x::r,k,h=>by rw[gX,jb (by omega),CJ p r (k+1) (by omega)];rfl
theorem zU(p:Nat):∀(l:List Wait) (k:Nat),k<=p->gX p l k=l.eraseIdx (p-k)
 |[],_,_=>by simp[gX]
 |x::r,k,h=>by
  rw[gX];by_cases e:k=p
  ·subst e;rw[jd rfl,CJ _ r (k+1) (by omega)];simp
  ·rw[jb e,zU p r (k+1) (by omega),show p-k=(p-(k+1))+1 by omega];rfl
section
variable (L D:Nat)
theorem WW(hL:1099511627776<=L)(w:World)(z:WSz w)(p:Nat):∀(n k:Nat) (acc:List Wait),w.waits.length-k<n->k<=w.waits.length->acc.length<=k->
 tQ L D n (w.seats.map rM) (w.waits.map rWt) (w.log.map rC) (w.fresh.map rI) (w.spy.map rS) (w.stolen.map rSt) (w.frames.map rF) (w.said.map rI) (w.wins.map rWs) (w.told.map rT) [] [] [] [] [] [] [] [] [] [] (acc.map rWt) w.seats.length w.waits.length w.log.length w.fresh.length w.spy.length w.stolen.length w.frames.length w.said.length w.wins.length w.told.length 0 0 0 0 0 0 0 0 0 0 p acc.length k=some (.agg [.own (({w with waits:=acc++gX p (w.waits.drop k) k}).seats.map rM),.own (({w with waits:=acc++gX p (w.waits.drop k) k}).waits.map rWt),.own (({w with waits:=acc++gX p (w.waits.drop k) k}).log.map rC),.own (({w with waits:=acc++gX p (w.waits.drop k) k}).fresh.map rI),.own (({w with waits:=acc++gX p (w.waits.drop k) k}).spy.map rS),.own (({w with waits:=acc++gX p (w.waits.drop k) k}).stolen.map rSt),.own (({w with waits:=acc++gX p (w.waits.drop k) k}).frames.map rF),.own (({w with waits:=acc++gX p (w.waits.drop k) k}).said.map rI),.own (({w with waits:=acc++gX p (w.waits.drop k) k}).wins.map rWs),.own (({w with waits:=acc++gX p (w.waits.drop k) k}).told.map rT)],[]):=by
 intro n;induction n with
 |zero=>intro k acc h;omega
 |succ n ih=>
  intro k acc hn hk ha;rw[G9];have z1:=z.waits;by_cases h:k<w.waits.length
  case neg=>
   have h':¬(k:Int)<w.waits.length:=by omega
   simp(disch:=omega) only[K1,↓aB,h'];rw[jm (by omega)];simp[gX]
  have h':(k:Int)<w.waits.length:=by omega
  rw[cO w.waits k h,gX];by_cases h1:k=p
  ·have h1':(k:Int)=p:=by omega
   have hd:decide (¬(k:Int)=p)=false:=jh (fun x=>x h1')
   have:=ih (k+1) acc (by omega) (by omega) (by omega)
   simp(disch:=omega) only[K1,bD,↓aB,h',hd,aO,this];rw[jd h1];rfl
  ·have h1':¬(k:Int)=p:=by omega
   have:=ih (k+1) (acc++[ix w.waits (k:Int)]) (by omega) (by omega) (by simp;omega)
   have e1:(⟨(ix w.waits (k:Int)).who,(ix w.waits (k:Int)).pos,(ix w.waits (k:Int)).leaf,(ix w.waits (k:Int)).key⟩:Wait)=ix w.waits (k:Int):=rfl;simp(disch:=omega) only[K1,jt,bJ,aW,Nat.reduceAdd,AD,bS,bF,↓aB,sP,sQ,sR,sS,JX,jC,jJ,h',h1',aJ,e1,aO,this];rw[jb h1];simp
theorem ab8(hL:1099511627776<=L)(w:World)(z:WSz w)(p:Nat):ev E L (D+1) 168 [.agg [.own (w.seats.map rM),.own (w.waits.map rWt),.own (w.log.map rC),.own (w.fresh.map rI),.own (w.spy.map rS),.own (w.stolen.map rSt),.own (w.frames.map rF),.own (w.said.map rI),.own (w.wins.map rWs),.own (w.told.map rT)],.int .i64 p] []=some (.agg [.own (({w with waits:=w.waits.eraseIdx p}).seats.map rM),.own (({w with waits:=w.waits.eraseIdx p}).waits.map rWt),.own (({w with waits:=w.waits.eraseIdx p}).log.map rC),.own (({w with waits:=w.waits.eraseIdx p}).fresh.map rI),.own (({w with waits:=w.waits.eraseIdx p}).spy.map rS),.own (({w with waits:=w.waits.eraseIdx p}).stolen.map rSt),.own (({w with waits:=w.waits.eraseIdx p}).frames.map rF),.own (({w with waits:=w.waits.eraseIdx p}).said.map rI),.own (({w with waits:=w.waits.eraseIdx p}).wins.map rWs),.own (({w with waits:=w.waits.eraseIdx p}).told.map rT)],[]):=by
 rw[agV];have:=WW L D hL w z p L 0 [] (by have:=z.waits;omega) (by omega) (by simp)
 simp only[K1];rw[kw,qc,zU p _ 0 (by omega)]at this
 exact this
theorem WX(hL:1099511627776<=L)(w:World)(z:WI w)(who pos:Int)(hw:aR who)(hp:0<=pos/\pos<w.log.length):∀(n k:Nat),w.waits.length-k<n->k<=w.waits.length->
 pU L (D+310) n (w.seats.map rM) (w.waits.map rWt) (w.log.map rC) (w.fresh.map rI) (w.spy.map rS) (w.stolen.map rSt) (w.frames.map rF) (w.said.map rI) (w.wins.map rWs) (w.told.map rT) [] [] [] [] [] [] [] [] [] [] w.seats.length w.waits.length w.log.length w.fresh.length w.spy.length w.stolen.length w.frames.length w.said.length w.wins.length w.told.length 0 0 0 0 0 0 0 0 0 0 who pos k=some (.agg [.own ((joinGo w who pos (w.waits.drop k) k).seats.map rM),.own ((joinGo w who pos (w.waits.drop k) k).waits.map rWt),.own ((joinGo w who pos (w.waits.drop k) k).log.map rC),.own ((joinGo w who pos (w.waits.drop k) k).fresh.map rI),.own ((joinGo w who pos (w.waits.drop k) k).spy.map rS),.own ((joinGo w who pos (w.waits.drop k) k).stolen.map rSt),.own ((joinGo w who pos (w.waits.drop k) k).frames.map rF),.own ((joinGo w who pos (w.waits.drop k) k).said.map rI),.own ((joinGo w who pos (w.waits.drop k) k).wins.map rWs),.own ((joinGo w who pos (w.waits.drop k) k).told.map rT)],[]):=by
 intro n;induction n with
 |zero=>intro k h;omega
 |succ n ih=>
  intro k hn hk;rw[G3];have z1:=z.sz.waits;have z8:=z.seats8;have w0:=hw.1;have w1:who<w.seats.length:=by have:=hw.2;omega
  have p0:=hp.1;have p1:=hp.2;by_cases h:k<w.waits.length
  case neg=>
   have h':¬(k:Int)<w.waits.length:=by omega
   simp(disch:=omega) only[K1,↓aB,h'];rw[jm (by omega)];rfl
  have h':(k:Int)<w.waits.length:=by omega
  have next:=ih (k+1) (by omega) (by omega)
  rw[cO w.waits k h,joinGo];generalize hx:ix w.waits (k:Int)=x;by_cases h1:x.who=who
  case neg=>
   rw[jb (fun y=>h1 y.1)]
   simp(disch:=omega) only[K1,↓aB,sP,sQ,sR,sS,jC,jJ,h',hx,h1,aO,next]
  have hd1:decide (x.who=who)=true:=jc h1;by_cases h2:x.pos=pos
  case neg=>
   rw[jb (fun y=>h2 y.2)]
   simp(disch:=omega) only[K1,↓aB,sP,sQ,sR,sS,jC,jJ,h',hx,hd1,h2,aO,next]
  have hd2:decide (x.pos=pos)=true:=jc h2;rw[jd ⟨h1,h2⟩];obtain⟨b1,b2,b3⟩:=z.cmt _ (ixm w.log pos p0 p1);generalize hc:ix w.log pos=c at b1 b2 b3;have hj:=WP L D hL who x.leaf x.key c.sender c.tag c.name c.add c.remove c.leaf c.keys c.boxes c.wkey c.wik c.wis c.wsk c.wss (by omega)
  have e2:(⟨c.sender,c.tag,c.name,c.add,c.remove,c.leaf,c.keys,c.boxes,c.wkey,c.wik,c.wis,c.wsk,c.wss⟩:Commit)=c:=rfl;rw[e2]at hj;cases hm:iL who x.leaf x.key c with
  |none=>
   rw[hm]at hj;simp only[rM]at hj;simp(disch:=omega) only[K1,Int.reduceLE,Nat.reduceAdd,↓aB,gR,cS,cB,oZ,cJ,D2,D3,D4,D5,D6,D7,D8,D9,EA,EB,sM,sN,sO,lY,lP,sP,sQ,sR,sS,jC,jJ,h',hx,hd1,hd2,hc,hj,aO,next]
  |some m=>
   rw[hm]at hj;simp only[rM]at hj;have e3:(⟨m.inn,m.who,m.keys,m.own,m.epoch,m.init,m.tag⟩:Member)=m:=rfl;have zz:WSz {w with seats:=eI w.seats who m}:={z.sz with
    seats:=by have:=z.sz.seats;simp[eI];omega
    seat:=fun q hq=>by
     rcases qw hq with hq|hq
     ·exact z.sz.seat q hq
     ·subst hq;unfold iL at hm;split at hm
      ·rename_i g;cases hm;have hk:=eM (kN g.1).2.2.2.2.2.1;have hpl:=iC (treMeet (treLeaf who) (treLeaf c.sender)) c.wss;have htu:=dK (treMeet (treLeaf who) (treLeaf c.sender));refine⟨by simp[rQ];omega,by simp[rQ];omega,fun x=>by cases x⟩
      ·cases hm}
   have hg:=ab8 L (D+309) hL {w with seats:=eI w.seats who m} zz k
   simp only[eI]at hg;simp(disch:=omega) only[K1,Int.reduceLE,Nat.reduceAdd,↓aB,gR,cS,cB,oZ,cJ,D2,D3,D4,D5,D6,D7,D8,D9,EA,EB,sM,sN,sO,lY,lP,sP,sQ,sR,sS,jC,jJ,h',hx,hd1,hd2,hc,hj,e3,kf,hg]
   rfl
theorem ab9(hL:1099511627776<=L)(w:World)(z:WI w)(who pos:Int)(hw:aR who)(hp:0<=pos/\pos<w.log.length):ev E L (D+311) 100 [.agg [.own (w.seats.map rM),.own (w.waits.map rWt),.own (w.log.map rC),.own (w.fresh.map rI),.own (w.spy.map rS),.own (w.stolen.map rSt),.own (w.frames.map rF),.own (w.said.map rI),.own (w.wins.map rWs),.own (w.told.map rT)],.int .i64 who,.int .i64 pos] []=some (.agg [.own ((d8 w who pos).seats.map rM),.own ((d8 w who pos).waits.map rWt),.own ((d8 w who pos).log.map rC),.own ((d8 w who pos).fresh.map rI),.own ((d8 w who pos).spy.map rS),.own ((d8 w who pos).stolen.map rSt),.own ((d8 w who pos).frames.map rF),.own ((d8 w who pos).said.map rI),.own ((d8 w who pos).wins.map rWs),.own ((d8 w who pos).told.map rT)],[]):=by
 rw[agD];have z8:=z.seats8;have w0:=hw.1;have w1:who<w.seats.length:=by have:=hw.2;omega
 unfold d8;cases hi:(ix w.seats who).inn with
 |true=>
  simp(disch:=omega) only[K1,↓aB,gI,cB,cJ,hi]
 |false=>
  have:=WX L D hL w z who pos hw hp L 0 (by have:=z.sz.waits;omega) (by omega)
  simp(disch:=omega) only[K1,↓aB,gI,cB,cJ,hi];exact this
end
end Kw.Sp
namespace Kw.Sp
open Go Go.Proofs
section
variable (L D:Nat)
theorem QU(l:List Int)(i j v:Int)(P:Int->Prop)(hl:∀x∈l,P x)(hv:P v)(h0:0<=j)(h1:j<l.length):P (ix (eI l i v) j):=by
 have:=ixm (eI l i v) j h0 (by simp[eI];exact h1)
 rcases qw this with h|h
 ·exact hl _ h
 ·rw[h];exact hv
theorem N7(hL:1099511627776<=L)(w:World)(z:WI w)(e:Event)(hw:aR e.who)(ha:inR e.add)(hlg:w.log.length≠16)(lf ky:S):
 pW L (D+310) (w.seats.map rM) (w.waits.map rWt) (w.log.map rC) (w.fresh.map rI) (w.spy.map rS) (w.stolen.map rSt) (w.frames.map rF) (w.said.map rI) (w.wins.map rWs) (w.told.map rT) [] [] [] [] [] [] [] [] [] [] w.seats.length w.waits.length w.log.length w.fresh.length w.spy.length w.stolen.length w.frames.length w.said.length w.wins.length w.told.length e.kind e.who e.add e.remove e.pos (bs e.text) 0 0 0 0 0 0 0 0 0 0 e.add w.log.length (bs lf) (bs ky) (bs (makKey lf)) (bs (makKey ky))=some (.agg [.own ((commitEnd w e lf ky).seats.map rM),.own ((commitEnd w e lf ky).waits.map rWt),.own ((commitEnd w e lf ky).log.map rC),.own ((commitEnd w e lf ky).fresh.map rI),.own ((commitEnd w e lf ky).spy.map rS),.own ((commitEnd w e lf ky).stolen.map rSt),.own ((commitEnd w e lf ky).frames.map rF),.own ((commitEnd w e lf ky).said.map rI),.own ((commitEnd w e lf ky).wins.map rWs),.own ((commitEnd w e lf ky).told.map rT)],[]):=by
 rw[ND];have z8:=z.seats8;have zf:=z.fresh8;have zw:=z.waitsL;have zl:=z.log16;have w0:=hw.1;have w1:e.who<w.seats.length:=by have:=hw.2;omega
 have w2:e.who<w.fresh.length:=by have:=hw.2;omega
 obtain⟨a1,a2,a3,a4,a5⟩:=z.seat _ (ixm w.seats e.who w0 w1);obtain⟨f0,f1⟩:=z.freshR _ (ixm w.fresh e.who w0 w2);unfold commitEnd;generalize hm:ix w.seats e.who=m at a1 a2 a3 a4 a5;generalize hf:ix w.fresh e.who=f at f0 f1;have h:=N0 L D hL m.inn m.who m.epoch m.keys m.own m.init m.tag (by omega) (bP e.who (f+1)) e.add e.remove (makKey lf) (makKey ky) (by omega)
 have e1:(⟨m.inn,m.who,m.keys,m.own,m.epoch,m.init,m.tag⟩:Member)=m:=rfl;rw[e1]at h;cases hc:fC m (bP e.who (f+1)) e.add e.remove (makKey lf) (makKey ky)with
 |none=>
  rw[hc]at h;simp only[rM,rC]at h;simp(disch:=omega) only[K1,Nat.reduceAdd,↓aB,eK,cG,bR,gI,iS,iT,iU,iV,iW,iX,cB,cJ,hm,hf,bT,pY _ _ hL,h]
 |some p=>
  obtain⟨x,c⟩:=p;rw[hc]at h;simp only[rM,rC]at h;have e2:(⟨x.inn,x.who,x.keys,x.own,x.epoch,x.init,x.tag⟩:Member)=x:=rfl;have e3:(⟨c.sender,c.tag,c.name,c.add,c.remove,c.leaf,c.keys,c.boxes,c.wkey,c.wik,c.wis,c.wsk,c.wss⟩:Commit)=c:=rfl;by_cases h0:0<=e.add
  ·have ha1:=ha.2;have w3:e.add< (w.fresh.set e.who.toNat (f+1)).length:=by rw[kf];omega
   have hr:=QU w.fresh e.who e.add (f+1) (fun x=>0<=x/\x<=1000) (fun x hx=>by have:=z.freshR x hx;omega) (by omega) h0 (by omega)
   unfold eI at hr;obtain⟨r0,r1⟩:=hr;simp(disch:=omega) only[K1,jt,bJ,aW,Int.reduceLE,Nat.reduceAdd,IC,AD,bS,bF,↓aB,eK,dU,dV,cG,jB,bR,gI,iS,iT,iU,iV,iW,iX,gR,cS,cB,oZ,cJ,EC,JX,hm,hf,bT,pY _ _ hL,h,e2,e3,aJ,h0,kf]
   rfl
  ·simp(disch:=omega) only[K1,jt,bJ,aW,Int.reduceLE,Nat.reduceAdd,IC,bS,bF,↓aB,eK,dU,dV,cG,jB,bR,gI,iS,iT,iU,iV,iW,iX,gR,cS,cB,oZ,cJ,EC,hm,hf,bT,pY _ _ hL,h,e2,e3,aJ,h0,kf]
   rfl
theorem QV(hL:1099511627776<=L)(w:World)(z:WI w)(e:Event)(hw:aR e.who):ev E L (D+311) 96 [.agg [.own (w.seats.map rM),.own (w.waits.map rWt),.own (w.log.map rC),.own (w.fresh.map rI),.own (w.spy.map rS),.own (w.stolen.map rSt),.own (w.frames.map rF),.own (w.said.map rI),.own (w.wins.map rWs),.own (w.told.map rT)],.agg [.int .i64 e.kind,.int .i64 e.who,.int .i64 e.add,.int .i64 e.remove,.int .i64 e.pos,.str (bs e.text)]] []=some (.agg [.own ((cU w e).seats.map rM),.own ((cU w e).waits.map rWt),.own ((cU w e).log.map rC),.own ((cU w e).fresh.map rI),.own ((cU w e).spy.map rS),.own ((cU w e).stolen.map rSt),.own ((cU w e).frames.map rF),.own ((cU w e).said.map rI),.own ((cU w e).wins.map rWs),.own ((cU w e).told.map rT)],[]):=by
 rw[alC];have zf:=z.fresh8;have zl:=z.log16;have w0:=hw.1;have w2:e.who<w.fresh.length:=by have:=hw.2;omega
 obtain⟨f0,f1⟩:=z.freshR _ (ixm w.fresh e.who w0 w2);unfold cU;have hj:=fun ha hlg lf ky=>N7 L D hL w z e hw ha hlg lf ky
 generalize hf:ix w.fresh e.who=f at f0 f1;by_cases h16:w.log.length=16
 ·have h':(w.log.length:Int)=16:=by omega
  have hd:decide (¬(w.log.length:Int)=16)=false:=jh (fun x=>x h')
  rw[jd (.inl h16)];simp(disch:=omega) only[K1,bD,↓aB,hd]
 have h16':¬(w.log.length:Int)=16:=by omega
 by_cases h99:99<=f
 ·rw[jd (.inr (.inl h99))];simp(disch:=omega) only[K1,↓aB,eK,cG,bR,h16',hf,h99]
 by_cases ha: -1<=e.add/\e.add<=7
 case neg=>
  rw[jd (.inr (.inr (.inl ha)))];simp(disch:=omega) only[K1,Int.reduceNeg,↓aB,eK,cG,bR,h16',hf,h99,aY,ha]
 obtain⟨ha1,ha2⟩:=id ha;have mk0:makKey []=[]:=rfl;by_cases h0:0<=e.add
 ·have w3:e.add<w.fresh.length:=by omega
  obtain⟨g0,g1⟩:=z.freshR _ (ixm w.fresh e.add h0 w3);generalize hg:ix w.fresh e.add=g at g0 g1;by_cases h98:98<=g
  ·rw[jd (.inr (.inr (.inr ⟨h0,h98⟩)))];simp(disch:=omega) only[K1,Int.reduceNeg,↓aB,eK,cG,bR,h16',hf,h99,aY,ha1,ha2,h0,hg,h98]
  ·rw[jb (fun x=>x.elim h16 fun x=>x.elim h99 fun x=>x.elim (fun y=>y ha) fun y=>h98 y.2),jd h0]
   simp(disch:=omega) only[K1,Int.reduceNeg,↓aB,eK,cG,bR,h16',hf,h99,aY,ha1,ha2,h0,hg,h98,bT,pY _ _ hL,eT _ _ hL,hj ha h16]
 ·rw[jb (fun x=>x.elim h16 fun x=>x.elim h99 fun x=>x.elim (fun y=>y ha) fun y=>h0 y.1),jb h0]
  have:=hj ha h16 [] [];rw[mk0]at this;simp(disch:=omega) only[K1,Int.reduceNeg,↓aB,eK,cG,bR,h16',hf,h99,aY,ha1,ha2,h0,this]
theorem abA(hL:1099511627776<=L)(w:World)(z:WI w)(e:Event):ev E L (D+312) 59 [.agg [.own (w.seats.map rM),.own (w.waits.map rWt),.own (w.log.map rC),.own (w.fresh.map rI),.own (w.spy.map rS),.own (w.stolen.map rSt),.own (w.frames.map rF),.own (w.said.map rI),.own (w.wins.map rWs),.own (w.told.map rT)],.agg [.int .i64 e.kind,.int .i64 e.who,.int .i64 e.add,.int .i64 e.remove,.int .i64 e.pos,.str (bs e.text)]] []=some (.agg [.own ((step w e).seats.map rM),.own ((step w e).waits.map rWt),.own ((step w e).log.map rC),.own ((step w e).fresh.map rI),.own ((step w e).spy.map rS),.own ((step w e).stolen.map rSt),.own ((step w e).frames.map rF),.own ((step w e).said.map rI),.own ((step w e).wins.map rWs),.own ((step w e).told.map rT)],[]):=by
 rw[al4];unfold step;by_cases hw:aR e.who
 case neg=>
  have h':¬(0<=e.who/\e.who<=7):=hw;rw[jb hw];simp only[K1,↓aB,aY,h']
 obtain⟨w0,w1⟩:=id hw;rw[jd hw];by_cases k1:e.kind=1
 ·have hd:decide (e.kind=1)=true:=jc k1;rw[jd k1];simp only[K1,Nat.reduceAdd,↓aB,aY,w0,w1,hd,QV _ _ hL w z e hw]
 rw[jb k1];by_cases k4:e.kind=4
 ·have hd:decide (e.kind=4)=true:=jc k4;rw[jd k4];simp only[K1,Nat.reduceAdd,↓aB,aY,w0,w1,k1,hd,WV _ _ hL w z e.who hw]
 rw[jb k4];by_cases k5:e.kind=5
 ·have hd:decide (e.kind=5)=true:=jc k5;rw[jd k5];simp only[K1,Nat.reduceAdd,↓aB,aY,w0,w1,k1,k4,hd,adI _ _ hL w z e.who hw]
 rw[jb k5];have hll:bB .i64 (w.log.length:Int) 1=(w.log.length:Int)-1:=eL (by omega) (by have:=z.log16;omega)
 have hff:bB .i64 (w.frames.length:Int) 1=(w.frames.length:Int)-1:=eL (by omega) (by have:=z.frames40;omega)
 by_cases k2:e.kind=2
 ·have hd:decide (e.kind=2)=true:=jc k2;rw[jd k2];by_cases hp:0<=e.pos/\e.pos<w.log.length
  ·have p0:=hp.1;have p1:e.pos<=(w.log.length:Int)-1:=by omega
   rw[jd hp];simp only[K1,Nat.reduceAdd,↓aB,aY,w0,w1,k1,k4,k5,hd,hll,p0,p1,ab7 _ _ hL w z e.who e.pos hw hp]
  ·rw[jb hp];by_cases p0:0<=e.pos
   ·have p1:¬e.pos<=(w.log.length:Int)-1:=by omega
    simp only[K1,and_false,↓aB,aY,w0,w1,k1,k4,k5,hd,hll,p0,p1]
   ·simp only[K1,wt,↓aB,aY,w0,w1,k1,k4,k5,hd,hll,p0]
 rw[jb k2];by_cases k3:e.kind=3
 ·have hd:decide (e.kind=3)=true:=jc k3;rw[jd k3];by_cases hp:0<=e.pos/\e.pos<w.log.length
  ·have p0:=hp.1;have p1:e.pos<=(w.log.length:Int)-1:=by omega
   rw[jd hp];simp only[K1,Nat.reduceAdd,↓aB,aY,w0,w1,k1,k4,k5,k2,hd,hll,p0,p1,ab9 _ _ hL w z e.who e.pos hw hp]
  ·rw[jb hp];by_cases p0:0<=e.pos
   ·have p1:¬e.pos<=(w.log.length:Int)-1:=by omega
    simp only[K1,and_false,↓aB,aY,w0,w1,k1,k4,k5,k2,hd,hll,p0,p1]
   ·simp only[K1,wt,↓aB,aY,w0,w1,k1,k4,k5,k2,hd,hll,p0]
 rw[jb k3];by_cases k6:e.kind=6
 ·have hd:decide (e.kind=6)=true:=jc k6;rw[jd k6];by_cases hp:0<=e.pos/\e.pos<w.frames.length
  ·have p0:=hp.1;have p1:e.pos<=(w.frames.length:Int)-1:=by omega
   rw[jd hp];simp only[K1,Nat.reduceAdd,↓aB,aY,w0,w1,k1,k4,k5,k2,k3,hd,hff,p0,p1,adJ _ _ hL w z e.who e.pos hw hp]
  ·rw[jb hp];by_cases p0:0<=e.pos
   ·have p1:¬e.pos<=(w.frames.length:Int)-1:=by omega
    simp only[K1,and_false,↓aB,aY,w0,w1,k1,k4,k5,k2,k3,hd,hff,p0,p1]
   ·simp only[K1,wt,↓aB,aY,w0,w1,k1,k4,k5,k2,k3,hd,hff,p0]
 rw[jb k6];simp only[K1,↓aB,aY,w0,w1,k1,k4,k5,k2,k3,k6]
end
end Kw.Sp
namespace Kw.Sp
open Go Go.Proofs
structure WJ(w:World):Prop extends WI w where
 waitsLog:w.waits.length<=w.log.length
 nameL:∀c∈w.log,c.name.length<=300
theorem pig:∀(l p:List Int),l.Nodup->(∀x∈l,x∈p)->l.length<=p.length
 |[],_,_,_=>Nat.zero_le _
 |x::l,p,h,hs=>by
  have hx:=hs x (by simp)
  have h1:=v9.1 h;have h2:=pig l (p.erase x) h1.2 (fun y hy=>(List.mem_erase_of_ne (fun e=>h1.1 (by rw[<-e];exact hy))).2 (hs y (by simp[hy])))
  rw[List.length_erase_of_mem hx]at h2;have:=List.length_pos_of_mem hx;simp;omega
theorem wY{m:Member}(h:fitsAll m=true){k:Nat}(hk:k<m.own.length):(m.own[k]).node∈pathOf m.who/\secOk (m.own[k]).sec=true/\eB (m.own.take k) (m.own[k]).node=[]:=by
 have:=ko.1 h k (qp.2 hk);unfold mM at this;rw[aZ m.own k hk]at this;simp only[jf,ja]at this;exact⟨this.1,this.2.1,this.2.2.2.2⟩
theorem TH{m:Member}(h:fitsAll m=true):m.own.length<=15:=by
 have h1:(m.own.map (·.node)).Nodup:=by
  show List.Pairwise _ _;rw[v3];intro i j hi hj hij e;simp only[kb]at hi hj;simp only[yh]at e;have h2:=(wY h hj).2.2;unfold eB at h2;split at h2
  ·rename_i o ho;obtain⟨k,hk,hok⟩:=kx.1 (List.mem_of_mem_take (vo ho));have h3:=nG (wY h hk).2.1;rw[hok,h2]at h3;simp at h3
  ·rename_i ho;have:=wq.1 ho (m.own[i]) (List.mem_take_iff_getElem.2 ⟨i,by omega,rfl⟩)
   simp[e]at this
 have h2:=pig _ _ h1 (fun x hx=>by
  obtain⟨o,ho,e⟩:=qb.1 hx;obtain⟨k,hk,hok⟩:=kx.1 ho;rw[<-e,<-hok];exact(wY h hk).1)
 rw[kb]at h2;have:=fI m.who;omega
def uA(m:Member):Prop:=(m.inn=true->m.keys.length=15)/\(m.inn=false->m.keys=[])/\m.own.length<=30/\m.tag.length<=600/\m.keys.length<=15
theorem vF:uA cI:=⟨fun h=>(by cases h),fun _=>rfl,Nat.zero_le _,Nat.zero_le _,Nat.zero_le _⟩
theorem rK(n:Int)(s:S):(cD n s).length<=15:=by
 rw[iC];have:=dK n;omega
theorem vG{m:Member}(hi:m.inn=true)(hk:m.keys.length=15)(ho:m.own.length<=30)(ht:m.tag.length<=600):uA m:=
 ⟨fun _=>hk,fun h=>(by rw[hi]at h;cases h),ho,ht,by omega⟩
theorem LB{m m':Member}{c:Commit}{f:S}{a r:Int}{lf ky:S}(h:fC m f a r lf ky=some (m',c)):
 uA m'/\(c.tag.length<=300/\c.keys.length<=1000/\c.boxes.length<=1000)/\c.name.length<=300:=by
 unfold fC at h;split at h
 ·rename_i hc;cases h;unfold cT at hc;simp only[jf,ja]at hc;obtain⟨h1,h2,h3,h4,h5⟩:=hc;have hi:m.inn=true:=by
   unfold may at h3;simp only[jf]at h3;exact h3.1
  obtain⟨b1,b2,b3,b4,b5,b6,b7⟩:=lF h1 hi;have hk:=eM b2;have hk':(vO (baseT m.keys a r lf) m.who f).length=15:=by rw[GA,BB,hk]
  refine⟨vG rfl hk' (by show(cD _ _).length<=30;have:=rK (treLeaf m.who) f;omega) (by show(m.tag++f).length<=600;simp;omega),⟨by show m.tag.length<=300;omega,by show(vO _ _ _).length<=1000;omega,?_⟩,by show f.length<=300;omega⟩
  show(boxesGo _ _ _).length<=1000;have hb:∀(ks:List S) (add:Int) (own:List Own),(boxesGo ks add own).length<=32*own.length:=by
   intro ks add own;induction own with
   |nil=>simp[boxesGo]
   |cons x l ih=>
    cases l with
    |nil=>simp[boxesGo]
    |cons y l=>
     have h1:=CK ks add y.sec (kA ks (cC x.node));have h2:=lV ks 5 (cC x.node).toNat;simp only[boxesGo,jk,je]at ih⊢;unfold kA at h1;unfold kA;omega
  have:=hb (baseT m.keys a r lf) a (cD (treLeaf m.who) f);have:=rK (treLeaf m.who) f;omega
 ·cases h
theorem QW{m:Member}{c:Commit}(hm:uA m):uA (f8 m c).1:=by
 unfold f8;split
 ·rename_i h;split
  ·rename_i ht;split
   ·exact vF
   ·split
    ·unfold hearPair;simp only;split
     ·exact hm
     ·split
      ·have hi:m.inn=true:=by
        unfold pB at ht;simp only[jf]at ht;exact ht.1
       obtain⟨b1,b2,b3,b4,b5,b6,b7⟩:=lF h.1 hi;obtain⟨c1,c2,c3,c4,c5,c6,c7⟩:=kN h.2;have:=TH b3;refine vG rfl (eM c6) ?_ ?_
       ·show(rP c.keys (mT m.own _)++cD _ _).length<=30;rw[jk];have h1:=A9 c.keys (mT m.own (cD (treMeet (treLeaf m.who) (treLeaf c.sender)) (cX m.own c.boxes)));have h2:=BA m.own (cD (treMeet (treLeaf m.who) (treLeaf c.sender)) (cX m.own c.boxes));have h3:=rK (treMeet (treLeaf m.who) (treLeaf c.sender)) (cX m.own c.boxes);omega
       ·show(m.tag++c.name).length<=600;rw[jk];omega
      ·exact hm
    ·exact hm
  ·exact hm
 ·exact vF
theorem QX{w:Int}{leaf key:S}{c:Commit}{m:Member}(h:iL w leaf key c=some m):uA m:=by
 unfold iL at h;split at h
 ·rename_i hc;cases h;obtain⟨h1,h2,h3,h4,h5,h6,h7,h8,h9⟩:=hc;obtain⟨b1,b2,b3,b4,b5,b6,b7⟩:=lF h9 rfl;have:=TH b3;exact vG rfl (eM b2) (by omega) (by omega)
 ·cases h
theorem GD(n top:Int):∀(l:List Int) (d:Bool),(seenGo n top l d).length<=l.length+1
 |[],d=>by cases d<;>simp[seenGo]
 |x::l,d=>by
  have h1:=GD n top l (d||decide (x<n));have hd:∀l:List Int,(seenGo n top l true).length<=l.length:=by
   intro l;induction l with
   |nil=>simp[seenGo]
   |cons y l ih=>simp only[seenGo,jk,je,Bool.true_or];split<;>split<;>simp_all<;>omega
  simp only[seenGo,jk,je];by_cases h:d=false/\x<n
  ·have h2:=hd l;have e:(d||decide (x<n))=true:=by simp[h.2]
   rw[e,jd h];split<;>simp<;>omega
  ·rw[jb h];split<;>simp<;>omega
def abB(n:Nat)(x:Win):Prop:=(0<=x.top/\x.top<=999)/\x.seen.length<=n+1
theorem adK{f:Frame}(h:fraOk f=true):1<=f.n/\f.n<=999:=by
 unfold fraOk at h;simp only[jf,ja]at h;exact h.1.2.2.2
theorem WY{m:Member}{wins x:List Win}{f:Frame}{n:Nat}(h:mN m wins f=some x)(hw:wins.length<=n/\∀y∈wins,abB n y):x.length<=n+1/\∀y∈x,abB (n+1) y:=by
 unfold mN at h;split at h
 ·rename_i hh;have hf:1<=f.n/\f.n<=999:=by
   unfold tC at hh;simp only[jf]at hh;exact adK hh.2.1
  have hup:∀y∈wins,abB (n+1) y:=fun y hy=>⟨(hw.2 y hy).1,by have:=(hw.2 y hy).2;omega⟩
  simp only at h;split at h
  ·cases h;refine⟨by simp;omega,fun y hy=>?_⟩
   rcases jy.1 hy with hy|hy
   ·exact hup y hy
   ·rw[qk.1 hy];exact⟨⟨by show 0<=f.n;omega,hf.2⟩,by simp⟩
  ·rename_i hk;split at h
   ·rename_i z hz;cases h;refine⟨by simp;omega,fun y hy=>?_⟩
    rcases qw hy with hy|hy
    ·exact hup y hy
    ·rw[hy];rcases winAt_lt wins f.key 0 with h1|h1
     ·omega
     ·obtain⟨g1,g2⟩:=hw.2 _ (ixm wins _ (by omega) (by omega:winAt wins f.key 0<wins.length))
      unfold winTake at hz;split at hz
      ·cases hz
      ·cases hz;refine⟨⟨by show 0<=max _ _;omega,by show max _ _<=999;omega⟩,?_⟩
       show(seenGo _ _ _ _).length<=_;have:=GD f.n (max (ix wins (winAt wins f.key 0)).top f.n) (ix wins (winAt wins f.key 0)).seen false;omega
   ·cases h
 ·cases h
theorem mem_set1{A:Type}{l:List A}{i:Int}{x y:A}(h:y∈eI l i x):y∈l\/y=x:=qw h
theorem uB{A:Type}(l:List A)(i:Int)(x:A):(eI l i x).length=l.length:=by simp[eI]
theorem WJ.seatSet{w:World}(z:WJ w)(i:Int)(m:Member)(hm:uA m):WJ {w with seats:=eI w.seats i m}:=
 {z with
  seats8:=by show(eI _ _ _).length=8;rw[uB];exact z.seats8
  seat:=fun y hy=>by rcases mem_set1 hy with h|h;exact z.seat y h;rw[h];exact hm}
theorem WJ.hear{w:World}(z:WJ w)(who pos:Int)(hw:aR who):WJ (eR w who pos):=by
 unfold eR;simp only;split
 ·exact z.seatSet _ _ (QW (z.seat _ (ixm w.seats who hw.1 (by rw[z.seats8];have:=hw.2;omega))))
 ·exact z
theorem WJ.joinGo{w:World}(z:WJ w)(who pos:Int):∀(l:List Wait) (k:Nat),WJ (joinGo w who pos l k)
 |[],_=>z
 |x::l,k=>by
  unfold Kw.joinGo;split
  ·split
   ·rename_i m hm;have z':=z.seatSet who m (QX hm);have hl:(w.waits.eraseIdx k).length<=w.waits.length:=List.Sublist.length_le (List.eraseIdx_sublist _ _);exact{z' with
     waitsL:=by have:=z.waitsL;show(w.waits.eraseIdx k).length<=16;omega
     waitsLog:=by have:=z.waitsLog;show(w.waits.eraseIdx k).length<=w.log.length;omega}
   ·exact WJ.joinGo z who pos l (k+1)
  ·exact WJ.joinGo z who pos l (k+1)
theorem WJ.join{w:World}(z:WJ w)(who pos:Int):WJ (d8 w who pos):=by
 unfold d8;split
 ·exact z
 ·exact z.joinGo _ _ _ _
theorem WJ.steal{w:World}(z:WJ w)(who:Int)(hw:aR who):WJ (dP w who):=by
 unfold dP;split
 ·exact z
 ·rename_i h;obtain⟨a1,a2,a3,a4,a5⟩:=z.seat _ (ixm w.seats who hw.1 (by rw[z.seats8];have:=hw.2;omega))
  have hk:(fW (ix w.seats who)).length<=31:=by
   unfold fW;split
   ·simp;omega
   ·simp
  have h1:=z.stolen12;have h2:=z.spyL;exact{z with
   stolen12:=by show(w.stolen++_).length<=12;simp;omega
   spyL:=by show(w.spy++_).length<=31*(w.stolen++_).length;simp only[jk,je,jj];omega}
theorem WJ.say{w:World}(z:WJ w)(who:Int)(x:S)(hw:aR who):WJ (fJ w who x):=by
 unfold fJ;split
 ·exact z
 ·rename_i h;split
  ·obtain⟨s0,s1⟩:=z.saidR _ (ixm w.said who hw.1 (by rw[z.said8];have:=hw.2;omega))
   have hf:=z.frames40;exact{z with
    frames40:=by show(w.frames++_).length<=40;simp;omega
    said8:=by show(eI _ _ _).length=8;rw[uB];exact z.said8
    saidR:=fun y hy=>by rcases mem_set1 hy with h|h;exact z.saidR y h;rw[h];omega}
  ·exact z
theorem WJ.get{w:World}(z:WJ w)(who pos:Int)(hw:aR who):WJ (fX w who pos):=by
 unfold fX;split
 ·exact z
 ·rename_i h;split
  ·rename_i x hx;have ht:=z.told320;have hx':=WY hx (z.win _ (ixm w.wins who hw.1 (by rw[z.wins8];have:=hw.2;omega)))
   exact{z with
    told320:=by show(w.told++_).length<=320;simp;omega
    wins8:=by show(eI _ _ _).length=8;rw[uB];exact z.wins8
    win:=fun l hl=>by
     show l.length<=(w.told++_).length/\∀x∈l,_/\_<=(w.told++_).length+1;simp only[jk,je,jj];rcases mem_set1 hl with h|h
     ·obtain⟨b1,b2⟩:=z.win l h;exact⟨by omega,fun y hy=>⟨(b2 y hy).1,by have:=(b2 y hy).2;omega⟩⟩
     ·rw[h];exact hx'}
  ·exact z
theorem WJ.commitEnd{w:World}(z:WJ w)(e:Event)(hw:aR e.who)(h16:w.log.length≠16)(h99:¬99<=ix w.fresh e.who)(ha: -1<=e.add/\e.add<=7)(h98:¬(0<=e.add/\98<=ix w.fresh e.add))(lf ky:S):WJ (commitEnd w e lf ky):=by
 unfold Kw.commitEnd;split
 ·exact z
 ·rename_i m c hc;obtain⟨c1,c2,c3⟩:=LB hc;have z':=z.seatSet e.who m c1;have hl:=z.log16;have hwl:=z.waitsLog;obtain⟨f0,f1⟩:=z.freshR _ (ixm w.fresh e.who hw.1 (by rw[z.fresh8];have:=hw.2;omega))
  have hf1:∀x∈eI w.fresh e.who (ix w.fresh e.who+1),0<=x/\x<=99\/x∈w.fresh:=fun x hx=>by
   rcases mem_set1 hx with h|h
   ·exact Or.inr h
   ·exact Or.inl (by omega)
  have hf2:∀x∈eI w.fresh e.who (ix w.fresh e.who+1),0<=x/\x<=100:=fun x hx=>by
   rcases hf1 x hx with h|h
   ·omega
   ·exact z.freshR x h
  exact{z' with
   log16:=by show(w.log++[c]).length<=16;simp;omega
   cmt:=fun y hy=>by
    rcases jy.1 hy with h|h
    ·exact z.cmt y h
    ·rw[qk.1 h];exact c2
   nameL:=fun y hy=>by
    rcases jy.1 hy with h|h
    ·exact z.nameL y h
    ·rw[qk.1 h];exact c3
   waitsL:=by
    show(if 0<=e.add then _ else _:List Wait).length<=16
    split<;>(try simp)<;>omega
   waitsLog:=by
    show(if 0<=e.add then _ else _:List Wait).length<=(w.log++[c]).length
    split<;>(try simp)<;>omega
   fresh8:=by
    show(if 0<=e.add then _ else _:List Int).length=8
    have:=z.fresh8;split<;>simp[uB]<;>omega
   freshR:=fun y hy=>by
    change y∈(if 0<=e.add then _ else _:List Int)at hy
    split at hy
    ·rename_i h0;rcases mem_set1 hy with h|h
     ·exact hf2 y h
     ·have h8:e.add< (eI w.fresh e.who (ix w.fresh e.who+1)).length:=by rw[uB,z.fresh8];omega
      have hb:0<=ix (eI w.fresh e.who (ix w.fresh e.who+1)) e.add/\ix (eI w.fresh e.who (ix w.fresh e.who+1)) e.add<=98:=by
       by_cases he:e.who=e.add
       ·have:ix (eI w.fresh e.who (ix w.fresh e.who+1)) e.add=ix w.fresh e.who+1:=by
         rw[<-he];have hlt:e.who.toNat<w.fresh.length:=by rw[z.fresh8];have:=hw.2;omega
         simp[ix,eI,hlt]
        rw[this];rw[<-he]at h98;have:=hw.1;omega
       ·have:ix (eI w.fresh e.who (ix w.fresh e.who+1)) e.add=ix w.fresh e.add:=by
         have hne:e.who.toNat≠e.add.toNat:=by have:=hw.1;omega
         simp[ix,eI,List.getElem?_set_ne hne]
        rw[this];obtain⟨g0,g1⟩:=z.freshR _ (ixm w.fresh e.add h0 (by rw[z.fresh8];omega))
        omega
      omega
    ·exact hf2 y hy}
theorem WJ.commit{w:World}(z:WJ w)(e:Event)(hw:aR e.who):WJ (cU w e):=by
 unfold cU;split
 ·exact z
 ·rename_i h;have h1:w.log.length≠16:=fun x=>h (Or.inl x)
  have h2:¬99<=ix w.fresh e.who:=fun x=>h (Or.inr (Or.inl x))
  have h3: -1<=e.add/\e.add<=7:=Decidable.byContradiction fun x=>h (Or.inr (Or.inr (Or.inl x)))
  have h4:¬(0<=e.add/\98<=ix w.fresh e.add):=fun x=>h (Or.inr (Or.inr (Or.inr x)))
  split
  ·exact z.commitEnd e hw h1 h2 h3 h4 _ _
  ·exact z.commitEnd e hw h1 h2 h3 h4 _ _
theorem WJ.step{w:World}(z:WJ w)(e:Event):WJ (step w e):=by
 unfold Kw.step;split
 ·rename_i hw;split
  ·exact z.commit e hw
  split
  ·exact z.steal _ hw
  split
  ·exact z.say _ _ hw
  split
  ·split
   ·exact z.hear _ _ hw
   ·exact z
  split
  ·split
   ·exact z.join _ _
   ·exact z
  split
  ·split
   ·exact z.get _ _ hw
   ·exact z
  ·exact z
 ·exact z
theorem WJ.new{who:Int}(hw:aR who):WJ (cP who):=by
 unfold cP;rw[jd hw];have hs:∀m∈(List.range 8).map (fun(k:Nat)=>if(k:Int)=who then fH who (bP who 1) (bP who 2)else cI),uA m:=by
  intro m hm;obtain⟨k,_,rfl⟩:=qb.1 hm;split
  ·unfold fH;split
   ·exact vG rfl (by show(vO _ _ _).length=15;rw[GA];rfl) (by show(cD _ _).length<=30;have:=rK (treLeaf who) (bP who 1);omega) (by simp)
   ·exact vF
  ·exact vF
 exact{
  seats8:=by simp
  fresh8:=by simp
  said8:=by simp
  wins8:=by simp
  log16:=by simp
  waitsL:=by simp
  stolen12:=by simp
  spyL:=by simp
  frames40:=by simp
  told320:=by simp
  freshR:=fun x hx=>by obtain⟨k,_,rfl⟩:=qb.1 hx;split<;>omega
  saidR:=fun x hx=>by rw[wu hx];omega
  seat:=hs
  cmt:=by simp
  win:=fun l hl=>by rw[wu hl];simp
  waitsLog:=by simp
  nameL:=by simp}
end Kw.Sp
namespace Kw.Sp
open Go Go.Proofs
def mix(l:S)(n:Int):Int:=(ix l (n%l.length)).toNat*131+(ix l ((n*7+3)%l.length)).toNat*1117+n*29+n/l.length*53
def pick(l:S)(n k:Int):Int:=if k<1 then 0 else if l=[]then 0 else if n<l.length then(ix l n).toNat%k else LG .i64 (mix l n) (mix l n/64)%k
theorem adL{a b:Int}(ha:0<=a/\a<4611686018427387904)(hb:0<=b/\b<4611686018427387904):0<=LG .i64 a b:=by
 unfold LG;obtain⟨a',rfl⟩:=kv ha.1;obtain⟨b',rfl⟩:=kv hb.1;have h1:(BitVec.ofInt IntKind.i64.bits (a':Int)^^^BitVec.ofInt IntKind.i64.bits (b':Int)).toNat=a'^^^b':=by
  show(BitVec.ofInt 64 (a':Int)^^^BitVec.ofInt 64 (b':Int)).toNat=_;rw[BitVec.toNat_xor,BitVec.ofInt_natCast,BitVec.ofInt_natCast,BitVec.toNat_ofNat,BitVec.toNat_ofNat,Nat.mod_eq_of_lt (by omega),Nat.mod_eq_of_lt (by omega)]
 rw[h1];have h2:a'^^^b'<2^62:=Nat.xor_lt_two_pow (by omega) (by omega)
 rw[show IntKind.wrap .i64 ((a'^^^b':Nat):Int)=((a'^^^b':Nat):Int)from wrap_i64 (by omega) (by omega)]
 omega
theorem lH(l:S)(n:Int){k:Int}(hk:1<=k):0<=pick l n k/\pick l n k<k:=by
 unfold pick;rw[jb (by omega)]
 split
 ·omega
 ·split
  ·exact⟨Int.emod_nonneg _ (by omega),Int.emod_lt_of_pos _ (by omega)⟩
  ·exact⟨Int.emod_nonneg _ (by omega),Int.emod_lt_of_pos _ (by omega)⟩
theorem GE(b:UInt8):0<=(b.toNat:Int)/\(b.toNat:Int)<=255:=by have:=b.toNat_lt;omega
section
variable (L D:Nat)
theorem GF(l:S)(hl:l.length<=2000)(n k:Int)(hn:0<=n/\n<=1000000000):ev E L (D+1) 56 [.ptr (.imp 0) 0,.int .i64 k] [.cells [.sl (l.map rU),.int .i64 n]]=
 some (.int .i64 (pick l n k),[.cells [.sl (l.map rU),.int .i64 (n+1)]]):=by
 rw[al2];have a1:aG .i64 n 1=n+1:=dI (by omega) (by omega)
 have a2:bB .i64 (n+1) 1=n:=(dI (by omega) (by omega)).trans (by omega)
 unfold pick;by_cases hk:k<1
 ·simp only[K1,bX,Int.reduceEq,a1,a2,hk]
 by_cases h0:l=[]
 ·subst h0;simp only[K1,bX,Int.reduceEq,a1,a2,hk];rfl
 have hl0:0<l.length:=by cases l with|nil=>exact absurd rfl h0|cons _ _=>simp
 have e0:decide ((l.length:Int)=0)=false:=by rw[jg];omega
 have ek:decide (k=0)=false:=by rw[jg];omega
 have e64:decide ((64:Int)=0)=false:=rfl;by_cases hlt:n<l.length
 ·obtain⟨b0,b1⟩:=GE (ix l n);have w1:dQ .i64 ((ix l n).toNat:Int)=(ix l n).toNat:=dI (by omega) (by omega)
  simp(disch:=omega) only[K1,aj2,JY,a1,a2,hk,e0,ek,h0,hlt,JY,w1,mE]
 ·have m1:0<=n%l.length:=Int.emod_nonneg _ (by omega)
  have m2:n%l.length<l.length:=Int.emod_lt_of_pos _ (by omega)
  have m3:0<=(n*7+3)%l.length:=Int.emod_nonneg _ (by omega)
  have m4:(n*7+3)%l.length<l.length:=Int.emod_lt_of_pos _ (by omega)
  have q1:0<=n/l.length:=Int.ediv_nonneg (by omega) (by omega)
  have q2:n/l.length<=n:=Int.ediv_le_self _ (by omega)
  have r1:rY n l.length=n%l.length:=mE (by omega)
  have r2:rY (n*7+3) l.length=(n*7+3)%l.length:=mE (by omega)
  have u1:l9 .i64 n 7=n*7:=dI (by omega) (by omega)
  have u2:aG .i64 (n*7) 3=n*7+3:=dI (by omega) (by omega)
  have q:iD .i64 n l.length=n/l.length:=kU (by omega) (by omega) (by omega)
  obtain⟨b0,b1⟩:=GE (ix l (n%l.length));obtain⟨d0,d1⟩:=GE (ix l ((n*7+3)%l.length));have v1:dQ .i64 ((ix l (n%l.length)).toNat:Int)=(ix l (n%l.length)).toNat:=dI (by omega) (by omega)
  have v2:dQ .i64 ((ix l ((n*7+3)%l.length)).toNat:Int)=(ix l ((n*7+3)%l.length)).toNat:=dI (by omega) (by omega)
  have p1:l9 .i64 ((ix l (n%l.length)).toNat:Int) 131=(ix l (n%l.length)).toNat*131:=dI (by omega) (by omega)
  have p2:l9 .i64 ((ix l ((n*7+3)%l.length)).toNat:Int) 1117=(ix l ((n*7+3)%l.length)).toNat*1117:=dI (by omega) (by omega)
  have p3:l9 .i64 n 29=n*29:=dI (by omega) (by omega)
  have p4:l9 .i64 (n/l.length) 53=n/l.length*53:=dI (by omega) (by omega)
  have p5:aG .i64 (((ix l (n%l.length)).toNat:Int)*131) ((ix l ((n*7+3)%l.length)).toNat*1117)=(ix l (n%l.length)).toNat*131+(ix l ((n*7+3)%l.length)).toNat*1117:=dI (by omega) (by omega)
  have p6:aG .i64 (((ix l (n%l.length)).toNat:Int)*131+(ix l ((n*7+3)%l.length)).toNat*1117) (n*29)=(ix l (n%l.length)).toNat*131+(ix l ((n*7+3)%l.length)).toNat*1117+n*29:=dI (by omega) (by omega)
  have p7:aG .i64 (((ix l (n%l.length)).toNat:Int)*131+(ix l ((n*7+3)%l.length)).toNat*1117+n*29) (n/l.length*53)=mix l n:=dI (by omega) (by omega)
  have g0:0<=mix l n/\mix l n<=100000000000000:=by unfold mix;omega
  have p8:iD .i64 (mix l n) 64=mix l n/64:=kU (by omega) (by omega) (by omega)
  have gx:= @adL (mix l n) (mix l n/64) (by omega) (by omega)
  have p9:rY (LG .i64 (mix l n) (mix l n/64)) k=LG .i64 (mix l n) (mix l n/64)%k:=mE gx;simp(disch:=omega) only[K1,Int.reduceEq,aj2,JY,a1,a2,hk,e0,ek,h0,hlt,r1,r2,u1,u2,q,JY,v1,v2,p1,p2,p3,p4,p5,p6,p7,p8,p9]
end
end Kw.Sp
