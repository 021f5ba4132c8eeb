import Derived.Test.YthjlffhckgaboaaGreatDoorS09
set_option linter.unusedVariables false
set_option linter.unusedSimpArgs false
set_option linter.unusedSectionVars false
namespace Kw
open Go Go.Proofs
section
variable (L D:Nat)
set_option maxRecDepth 8000 in
theorem V1(hL:1099511627776<=L)(m:Member)(c:Commit)(z:MB m)(zc:CBd c):
 ev E L (D+314) 116 [.agg (rM m),.agg (rC c)] []=some (.tup [.agg (rM (f8 m c).1),.bool (f8 m c).2],[]):=by
 rw[<-B5];have hmo:=rH L (D+2) hL m z;have hco:=KY L (D+2) hL c zc;have hcp:=SR L (D+310) m z;have hgo:=ai9 L (D+305) hL m c;unfold yC;by_cases h1:memOk m=true
 case neg=>
  obtain⟨b,w,ks,own,e,i,t⟩:=m;obtain⟨c0,c1,c2,c3,c4,c5,c6,c7,c8,c9,c10,c11,c12⟩:=c;change ev E L (D+313) 22 [.agg [.bool b,.int .i64 w,.sl (ks.map rS),.sl (own.map rO),.int .i64 e,.str (bs i),.str (bs t)]] []=_ at hmo;show ev E L (D+314) 116 [.agg [.bool b,.int .i64 w,.sl (ks.map rS),.sl (own.map rO),.int .i64 e,.str (bs i),.str (bs t)],.agg [.int .i64 c0,.str (bs c1),.str (bs c2),.int .i64 c3,.int .i64 c4,.str (bs c5),.sl (c6.map rS),.sl (c7.map rB),.str (bs c8),.str (bs c9),.str (bs c10),.str (bs c11),.str (bs c12)]] []=_;rw[P6,hmo,jb h1,show memOk _=false from qu.2 h1]
  rfl
 by_cases h2:eO c=true
 case neg=>
  obtain⟨b,w,ks,own,e,i,t⟩:=m;obtain⟨c0,c1,c2,c3,c4,c5,c6,c7,c8,c9,c10,c11,c12⟩:=c;change ev E L (D+313) 22 [.agg [.bool b,.int .i64 w,.sl (ks.map rS),.sl (own.map rO),.int .i64 e,.str (bs i),.str (bs t)]] []=_ at hmo;change ev E L (D+313) 32 [.agg [.int .i64 c0,.str (bs c1),.str (bs c2),.int .i64 c3,.int .i64 c4,.str (bs c5),.sl (c6.map rS),.sl (c7.map rB),.str (bs c8),.str (bs c9),.str (bs c10),.str (bs c11),.str (bs c12)]] []=_ at hco;show ev E L (D+314) 116 [.agg [.bool b,.int .i64 w,.sl (ks.map rS),.sl (own.map rO),.int .i64 e,.str (bs i),.str (bs t)],.agg [.int .i64 c0,.str (bs c1),.str (bs c2),.int .i64 c3,.int .i64 c4,.str (bs c5),.sl (c6.map rS),.sl (c7.map rB),.str (bs c8),.str (bs c9),.str (bs c10),.str (bs c11),.str (bs c12)]] []=_;rw[P6,hmo,jd h1,h1,jb h2];simp only[aA,aI,bI,bW,aC];rw[hco,show eO _=false from qu.2 h2]
  rfl
 rw[jd h1,jd h2];obtain⟨hs,hck,hbo,hca,hcr,_⟩:=tG h2;have hgo:=hgo (fun hi=>(mG h1 hi).2.1) hs hck ⟨hca.1,hca.2.1⟩ ⟨hcr.1,hcr.2.1⟩
 have hmk:=fun hi=>mG h1 hi
 have hgi:tF m c=true->m.inn=true:=fun h=>by
  unfold tF at h;simp only[jf]at h;exact h.1
 obtain⟨b,w,ks,own,e,i,t⟩:=m;obtain⟨c0,c1,c2,c3,c4,c5,c6,c7,c8,c9,c10,c11,c12⟩:=c;obtain⟨z1,z2,z3,z4,z5,z6⟩:=z;obtain⟨zc1,zc2,zc3,zc4,zc5,zc6,zc7,_,_,_,_,_⟩:=zc;simp only at z1 z2 z3 z4 z5 z6 zc1 zc2 zc3 zc4 zc5 zc6 zc7 hs hck hca hcr hmk hgi hbo;change ev E L (D+313) 22 [.agg [.bool b,.int .i64 w,.sl (ks.map rS),.sl (own.map rO),.int .i64 e,.str (bs i),.str (bs t)]] []=_ at hmo;change ev E L (D+313) 32 [.agg [.int .i64 c0,.str (bs c1),.str (bs c2),.int .i64 c3,.int .i64 c4,.str (bs c5),.sl (c6.map rS),.sl (c7.map rB),.str (bs c8),.str (bs c9),.str (bs c10),.str (bs c11),.str (bs c12)]] []=_ at hco;change ev E L (D+313) 113 [.agg [.bool b,.int .i64 w,.sl (ks.map rS),.sl (own.map rO),.int .i64 e,.str (bs i),.str (bs t)]] []=some (.agg [.bool b,.int .i64 w,.sl (ks.map rS),.sl (own.map rO),.int .i64 e,.str (bs i),.str (bs t)],[])at hcp;change ev E L (D+313) 191 [.agg [.bool b,.int .i64 w,.sl (ks.map rS),.sl (own.map rO),.int .i64 e,.str (bs i),.str (bs t)],.agg [.int .i64 c0,.str (bs c1),.str (bs c2),.int .i64 c3,.int .i64 c4,.str (bs c5),.sl (c6.map rS),.sl (c7.map rB),.str (bs c8),.str (bs c9),.str (bs c10),.str (bs c11),.str (bs c12)]] []=_ at hgo;show ev E L (D+314) 116 [.agg [.bool b,.int .i64 w,.sl (ks.map rS),.sl (own.map rO),.int .i64 e,.str (bs i),.str (bs t)],.agg [.int .i64 c0,.str (bs c1),.str (bs c2),.int .i64 c3,.int .i64 c4,.str (bs c5),.sl (c6.map rS),.sl (c7.map rB),.str (bs c8),.str (bs c9),.str (bs c10),.str (bs c11),.str (bs c12)]] []=_;rw[P6,hmo,h1];simp only[aA,aI,bI,bW,aC,hco,h2,aD,hcp,gAggN_if,je,jj,js,aP,aV,bL,bM,eY,hgo];by_cases h3:tF ⟨b,w,ks,own,e,i,t⟩ ⟨c0,c1,c2,c3,c4,c5,c6,c7,c8,c9,c10,c11,c12⟩=true
 case neg=>
  rw[jb h3,show tF _ _=false from qu.2 h3]
  rfl
 rw[jd h3,h3,bI,aD,cK];by_cases h4:c4=w
 case pos=>rw[jc h4,aC,jd h4];rfl
 rw[jh h4,aD,jb h4];obtain⟨hw,hkk,hft,_,hep,_,htl⟩:=hmk (hgi h3);have hbx:=acY L D hL b w e ks own i t c7 zc6 z4 z3;simp only[hbx,aA,iQ,cM,je,jj,js,aP,aV,aI,bL,bM,eY];rcases boxIx_or own c7 0 with⟨j,hj,hx,_⟩|⟨hx,_⟩
 case inr=>
  rw[hx,jd (by omega)];rfl
 have ge:iLt ((0+j:Nat):Int) 0=false:=by rw[aN];exact jh (by omega)
 rw[hx,jb (by omega),ge,bW,aC]
 have u:=qI ((0+j:Nat):Int) c7 (by omega) (by omega)
 have ei:ix c7 ((0+j:Nat):Int)=c7[j]:=by rw[qr,aZ c7 j hj]
 rw[ei]at u⊢;have hbm:=zc7 _ (jr hj);have hsh:=LA L (D+6) hL c7[j].sec (by omega)
 obtain⟨s,es⟩:∃s,s=c7[j].sec:=⟨_,rfl⟩;have bj:e6 (aH (rB c7[j]) 1)=some (bs s):=by rw[es];rfl
 rw[<-es]at hbm hsh⊢;simp only[u,aA,bj,hsh,aI];by_cases h5:(secOk s&&decide (s.length<=292))=true
 case neg=>
  rw[jb h5,show(secOk s&&decide (s.length<=292))=false from qu.2 h5];rfl
 rw[jd h5,h5,bI,aD];have h5':=h5;simp only[jf,ja]at h5';obtain⟨hs1,hs2⟩:=h5';have m1:=oQ L (D+312) w hw;have m2:=oQ L (D+312) c0 hs;have m3:=QH L (D+310) hL (treLeaf w) (treLeaf c0);have hmi:=(C0 hw hs).1;have hmr:=pathOf_rng hw _ hmi;unfold B4;simp only;generalize treMeet (treLeaf w) (treLeaf c0)=nd at m3 hmr⊢;have m4:=TD L (D+309) hL nd;have hul:=AP nd;have hur:∀q∈nd::cF nd,0<=q/\q<=14:=fun q hq=>by
  rcases kh.1 hq with rfl|hq
  ·exact hmr
  ·exact kM q hq
 have m5:=DE L (D+3) hL (nd::cF nd) s (by simp) (by simp only[je];omega) (by omega)
 have hpl:=wX (nd::cF nd) s;have hpo:=pD (nd::cF nd) s hs1 (by simp only[je];omega)
 have hpn:∀o∈pathGo (nd::cF nd) s,0<=o.node/\o.node<=14:=fun o ho=>by
  have e:=dJ (nd::cF nd) s;exact hur _ (by rw[<-e];exact qb.2 ⟨o,ho,rfl⟩)
 have hnl:(nd::cF nd).length<=4:=by simp only[je];omega
 have hnp:1<=(nd::cF nd).length:=by simp
 generalize(nd::cF nd)=nodes at m4 m5 hpl hpo hpn hnl hnp⊢;generalize pathGo nodes s=fr at m5 hpl hpo hpn⊢;have m6:=acW L (D+1) hL fr c6 (fun o ho=>⟨(hpn o ho).1,by have:=(hpn o ho).2;omega⟩) (by omega) (fun o ho=>by have:=(hpo o ho).2;omega) (by omega)
 simp only[m1,m2,m3,m4,m5,m6,aA,bL,eY,aI];by_cases h6:gP c6 fr=true
 case neg=>rw[jb h6,show gP c6 fr=false from qu.2 h6];rfl
 rw[jd h6,h6,bI,aD];have hcl:=dX L (D+312) (F:=48) (sz:=1) rfl (c6.map rS) (gF _) (by simp;omega)
 have hft2:bH (sLen (bs t)) (sLen (bs c2)) 1=true:=aJ _ _ _ (by rw[cE,cE];omega)
 have hon:∀o∈own,0<=o.node/\o.node<=14:=fun o ho=>by
  obtain⟨k,hk,rfl⟩:=kx.1 ho;have h1:=ko.1 hft k (qp.2 hk);unfold mM at h1;simp only[jf,ja]at h1;have e:ix own (k:Int)=own[k]:=aZ own k hk;rw[e]at h1;exact pathOf_rng hw _ h1.1
 simp only[hcl,aA,eC,hft2,aC,aF];refine Eq.trans (SX L D hL c6 ks hck hkk nodes (by omega) fr own z3 hon _ _ _ _ _ _ _ _ _ _ _ _ _ _ _ _ _ _ _ _ _ _ _ _ _ _ _ _ _ _ _ _ _ _ _ _ _ _ _ _ _ L 0 [] (by omega) (by omega) (kg _)) ?_
 obtain⟨q,hq⟩:∃q,L+0-own.length=q+1:=⟨L+0-own.length-1,by omega⟩
 conv=>lhs;arg 3;rw[hq]
 rw[tL];have g:iLt (own.length:Int) (own.length:Int)=false:=by rw[aN,jg];omega
 have hkl:(mU c6 ks nodes own).length<=own.length:=qz _ _;rw[kw,qc];generalize mU c6 ks nodes own=kp at hkl⊢;have f1:bH (kp.length:Int) (fr.length:Int) 24=true:=aJ _ _ _ (by omega)
 have c1:aM (kp.map rO) (fr.map rO)=(kp++fr).map rO:=eG ..;have hc2:=dX L (D+312) (F:=188) (sz:=2) rfl ((kp++fr).map rO) (mS _) (by simp;omega)
 have s1:bB .i64 (fr.length:Int) 1=(fr.length:Int)-1:=eL (by omega) (by omega)
 have u9:=eD ((fr.length:Int)-1) fr (by omega) (by omega)
 have bo:∀o:Own,e6 (aH (rO o) 1)=some (bs o.sec):=fun _=>rfl
 have hlast:(ix fr ((fr.length:Int)-1)).sec.length<=400:=by
  have e:ix fr ((fr.length:Int)-1)=fr[fr.length-1]'(by omega):=by
   rw[show((fr.length:Int)-1)=((fr.length-1:Nat):Int) by omega,aZ]
  rw[e];have:=(hpo _ (jr (h:=(by omega:fr.length-1<fr.length)))).2
  omega
 have hn:=A0 L (D+5) hL (ix fr ((fr.length:Int)-1)).sec (by omega)
 have hme:=F6 L (D+5) hL i (makNext (ix fr ((fr.length:Int)-1)).sec) (by have:=cY (hmk (hgi h3)).2.2.2.2.2.1;omega) (ku (mJ _) (by omega))
 have ae:aG .i64 e 1=e+1:=by rw[bT (by omega) (by omega)]
 simp only[g,aD,aF,aU,mS,f1,dE,aC,c1,hc2,aA,eC,s1,u9,bo,hn,bM,hme,dH,d7,ae];by_cases h7:eH i (makNext (ix fr ((fr.length:Int)-1)).sec)=[]
 ·rw[jd h7,jc h7,aC]
  rfl
 ·rw[jb h7,jh h7,aD]
  rfl
end
end Kw
namespace Kw
open Go Go.Proofs
theorem aiA{b rest:Bool}{A R:MV×List Obj}{X:Option (MV×List Obj)}(h:b=true->X=some (if rest=true then A else R)):br (bNot b) (some R) X=some (if(b&&rest)=true then A else R):=by
 cases b with
 |false=>rfl
 |true=>rw[h rfl];rfl
theorem FY(a b:Int):bNot (iLt a b)=decide (b<=a):=by
 rw[aN];by_cases h:a<b
 ·rw[jc h,jh (by omega)];rfl
 ·rw[jh h,jc (by omega)];rfl
section
variable (L D:Nat)
theorem acZ(s:S):ev E L (D+1) 149 [.str (bs s),.str (bs [59])] []=some (.int .i64 (count s:Nat),[]):=by
 have h:E.ext 149=some wI:=rfl;have h2:wI [.str (bs s),.str (bs [59])]=some (.int .i64 (count s:Nat)):=by
  show some (MV.int .i64 ((bs s).data.toList.count 59:Nat))=_;have:(bs s).data.toList=s:=rfl;rw[this];unfold count;rw[List.count_eq_length_filter]
 unfold ev;simp only[h,h2]
 rfl
set_option maxRecDepth 8000 in
theorem V2(hL:1099511627776<=L)(w:Int)(lf key:S)(c:Commit)(zc:CBd c)(hl:lf.length<=500000)(hk:key.length<=500000):
 ev E L (D+314) 202 [.int .i64 w,.str (bs lf),.str (bs key),.agg (rC c)] []=some (match iL w lf key c with|some x=>(.tup [.agg (rM x),.bool true],[])|none=>(.tup [.agg (rM cI),.bool false],[])):=by
 rw[<-MW];have e0:(match yD w lf key c with|some x=>((.tup [.agg (rM x),.bool true],[]):MV×List Obj)|none=>(.tup [.agg (rM cI),.bool false],[]))=if(eO c&&(decide (0<=c.add)&&(decide (c.add=w)&&(decide (makKey lf=c.leaf)&&(decide (makKey key=c.wkey)&&((secOk c.wss&&decide (c.wss.length<=292))&&memOk (rQ w lf c)))))))=true then(.tup [.agg (rM (rQ w lf c)),.bool true],[])else(.tup [.agg (rM cI),.bool false],[]):=by
  unfold yD;split
  ·rename_i h;split at h
   ·rename_i h2;rw[jd h2];cases h;rfl
   ·cases h
  ·rename_i h;split at h
   ·cases h
   ·rename_i h2;rw[jb h2]
 rw[e0];have hco:=KY L (D+2) hL c zc;have hck:=fun h=>tG (c:=c) h
 obtain⟨c0,c1,c2,c3,c4,c5,c6,c7,c8,c9,c10,c11,c12⟩:=c;obtain⟨zc1,zc2,zc3,zc4,zc5,zc6,zc7,zc8,zc9,zc10,zc11,zc12⟩:=zc;simp only at zc1 zc2 zc3 zc4 zc5 zc6 zc7 zc8 zc9 zc10 zc11 zc12;change ev E L (D+313) 32 [.agg [.int .i64 c0,.str (bs c1),.str (bs c2),.int .i64 c3,.int .i64 c4,.str (bs c5),.sl (c6.map rS),.sl (c7.map rB),.str (bs c8),.str (bs c9),.str (bs c10),.str (bs c11),.str (bs c12)]] []=_ at hco;show ev E L (D+314) 202 [.int .i64 w,.str (bs lf),.str (bs key),.agg [.int .i64 c0,.str (bs c1),.str (bs c2),.int .i64 c3,.int .i64 c4,.str (bs c5),.sl (c6.map rS),.sl (c7.map rB),.str (bs c8),.str (bs c9),.str (bs c10),.str (bs c11),.str (bs c12)]] []=_;rw[ag2,hco];simp only[aA,aI];refine jT fun k1=>?_
 obtain⟨hs,hkl,_,hsa,_,htl⟩:=hck k1;simp only at hs hkl hsa htl;rw[FY];refine K2 fun k2=>?_
 have k2:=qo k2;rw[cK];refine jT fun k3=>?_
 have k3:=qo k3;subst k3;have hw:aR c3:=⟨k2,hsa.2.1⟩;rw[nY L (D+5) hL lf (by omega)]
 simp only[aA,bM,dH];refine jT fun _=>?_
 rw[nY L (D+5) hL key (by omega)]
 simp only[aA,bM,dH];refine jT fun _=>?_
 rw[LA L (D+6) hL c12 (by omega)]
 simp only[aA,aI];refine aiA fun k4=>?_
 simp only[jf,ja]at k4;obtain⟨hs1,hs2⟩:=k4;have hcl:=dX L (D+312) (F:=48) (sz:=1) rfl (c6.map rS) (gF _) (by simp;omega)
 have hct:=acZ L (D+312) c1;have hcn:count c1<=c1.length:=qz _ _;have m1:=oQ L (D+312) c3 hw;have m2:=oQ L (D+312) c0 hs;have m3:=QH L (D+310) hL (treLeaf c3) (treLeaf c0);have hmr:=pathOf_rng hw _ (C0 hw hs).1;have ej:rQ c3 lf ⟨c0,c1,c2,c3,c4,c5,c6,c7,c8,c9,c10,c11,c12⟩=⟨true,c3,c6,⟨treLeaf c3,lf⟩::pathGo (treMeet (treLeaf c3) (treLeaf c0)::cF (treMeet (treLeaf c3) (treLeaf c0))) c12,count c1+1,c10,c1++c2⟩:=rfl;rw[ej];generalize treMeet (treLeaf c3) (treLeaf c0)=nd at m3 hmr⊢;have m4:=TD L (D+309) hL nd;have hul:=AP nd;have m5:=DE L (D+3) hL (nd::cF nd) c12 (by simp) (by simp only[je];omega) (by omega)
 have hpl:=wX (nd::cF nd) c12;have hpo:=pD (nd::cF nd) c12 hs1 (by simp only[je];omega)
 have hnl:(nd::cF nd).length<=4:=by simp only[je];omega
 generalize(nd::cF nd)=nodes at m4 m5 hpl hpo hnl⊢;generalize pathGo nodes c12=fr at m5 hpl hpo⊢;have er:[[MV.int .i64 (treLeaf c3),MV.str (bs lf)]]=([⟨treLeaf c3,lf⟩]:List Own).map rO:=rfl;have f1:bH (((([⟨treLeaf c3,lf⟩]:List Own).length:Nat):Int)) (fr.length:Int) 24=true:=aJ _ _ _ (by simp only[je,jj];omega)
 have cc:aM (([⟨treLeaf c3,lf⟩]:List Own).map rO) (fr.map rO)=((⟨treLeaf c3,lf⟩::fr:List Own)).map rO:=eG rO [⟨treLeaf c3,lf⟩] fr;have hc2:=dX L (D+312) (F:=188) (sz:=2) rfl ((⟨treLeaf c3,lf⟩::fr:List Own).map rO) (mS _) (by simp;omega)
 have hft:bH (sLen (bs c1)) (sLen (bs c2)) 1=true:=aJ _ _ _ (by rw[cE,cE];omega)
 have ae:aG .i64 ((count c1:Nat):Int) 1=((count c1:Nat):Int)+1:=by rw[bT (by omega) (by omega)]
 have hmo:=rH L (D+2) hL ⟨true,c3,c6,⟨treLeaf c3,lf⟩::fr,(count c1:Nat)+1,c10,c1++c2⟩ ⟨zc4,zc5,by simp only[je];omega,fun o ho=>by
  rcases kh.1 ho with rfl|ho
  ·exact hl
  ·have:=(hpo o ho).2;omega,zc10,by simp only[jk];omega⟩
 change ev E L (D+313) 22 [.agg [.bool true,.int .i64 c3,.sl (c6.map rS),.sl ((⟨treLeaf c3,lf⟩::fr:List Own).map rO),.int .i64 ((count c1:Nat)+1),.str (bs c10),.str (bs (c1++c2))]] []=_ at hmo;simp only[hcl,hct,m1,m2,m3,m4,m5,aA,eC,bL,eY,hft,aC,er,aU,mS,aF,f1,dE,cc,hc2,ae,d7,hmo,aI];cases memOk ⟨true,c3,c6,⟨treLeaf c3,lf⟩::fr,(count c1:Nat)+1,c10,c1++c2⟩with
 |false=>rfl
 |true=>rfl
theorem V3(hL:1099511627776<=L)(m:Member)(z:MB m)(n:Int)(text:S)(ht:text.length<=500000):
 ev E L (D+314) 118 [.agg (rM m),.int .i64 n,.str (bs text)] []=some (match jN m n text with|some x=>(.tup [.agg (rF x),.bool true],[])|none=>(.tup [.agg [.int .i64 0,.str (bs []),.int .i64 0,.str (bs [])],.bool false],[])):=by
 have hmo:=rH L (D+2) hL m z;have e0:(match jN m n text with|some x=>((.tup [.agg (rF x),.bool true],[]):MV×List Obj)|none=>(.tup [.agg [.int .i64 0,.str (bs []),.int .i64 0,.str (bs [])],.bool false],[]))=if(memOk m&&(m.inn&&fraOk ⟨m.who,eE m.init m.who,n,text⟩))=true then(.tup [.agg (rF ⟨m.who,eE m.init m.who,n,text⟩),.bool true],[])else(.tup [.agg [.int .i64 0,.str (bs []),.int .i64 0,.str (bs [])],.bool false],[]):=by
  have hc:(memOk m&&(m.inn&&fraOk ⟨m.who,eE m.init m.who,n,text⟩))=true↔(memOk m=true/\m.inn=true/\1<=n/\n<=999/\l7 text=true/\eE m.init m.who≠[]):=by
   unfold fraOk;simp only[jf,ja];constructor
   ·rintro⟨h1,h2,⟨h3,h4,h5,h6,h7⟩,h8⟩;refine⟨h1,h2,h6,h7,h8,fun h=>?_⟩
    rw[h]at h4;revert h4;decide+kernel
   ·rintro⟨h1,h2,h3,h4,h5,h6⟩;obtain⟨hw,_,_,_,_,hi,_⟩:=mG h1 h2;have hs:=MX hw h6;exact⟨h1,h2,⟨hw,hs.1,hs.2,h3,h4⟩,h5⟩
  unfold jN;by_cases h:(memOk m&&(m.inn&&fraOk ⟨m.who,eE m.init m.who,n,text⟩))=true
  ·rw[jd h,jd (hc.1 h)]
  ·rw[jb h,jb (fun x=>h (hc.2 x))]
 rw[e0];obtain⟨b,w,ks,own,e,i,t⟩:=m;obtain⟨z1,z2,z3,z4,z5,z6⟩:=z;simp only at z1 z2 z3 z4 z5 z6;change ev E L (D+313) 22 [.agg [.bool b,.int .i64 w,.sl (ks.map rS),.sl (own.map rO),.int .i64 e,.str (bs i),.str (bs t)]] []=_ at hmo;show ev E L (D+314) 118 [.agg [.bool b,.int .i64 w,.sl (ks.map rS),.sl (own.map rO),.int .i64 e,.str (bs i),.str (bs t)],.int .i64 n,.str (bs text)] []=_;rw[afC,NS L (D+5) hL i w z5];simp only[aA,bM];rw[hmo];simp only[aA,aI];refine jT fun _=>?_
 refine jT fun _=>?_
 have hsl:(eE i w).length<=300:=by
  unfold eE;split
  ·exact DC _ _
  ·simp
 have hf:=KZ L (D+2) hL ⟨w,eE i w,n,text⟩ (by show(eE i w).length<=_;omega) ht
 change ev E L (D+313) 43 [.agg [.int .i64 w,.str (bs (eE i w)),.int .i64 n,.str (bs text)]] []=_ at hf;simp only[hf,aA,aI];cases fraOk ⟨w,eE i w,n,text⟩with
 |false=>rfl
 |true=>rfl
end
end Kw
namespace Kw
theorem B6(n top:Int):∀l:List Int,seenGo n top l true=l.filter fun x=>!decide (x<=top-8)
 |[]=>rfl
 |x::r=>by
  have e:seenGo n top (x::r) true=(if true=false/\x<n then[n]else[])++(if top-8<x then[x]else[])++seenGo n top r (true||decide (x<n)):=rfl
  rw[e,Bool.true_or,B6 n top r,ya];by_cases h:top-8<x
  ·rw[jd h,jh (by omega:¬x<=top-8)];simp
  ·rw[jb h,jc (by omega:x<=top-8)];simp
theorem FD(n top:Int)(ht:top-8<n):∀l:List Int,n∉l->seenGo n top l false=(gJ l n).filter fun x=>!decide (x<=top-8)
 |[],_=>by
  have e:gJ [] n=[n]:=rfl;rw[e,ya,jh (by omega:¬n<=top-8)]
  rfl
 |x::r,h=>by
  have e:seenGo n top (x::r) false=(if false=false/\x<n then[n]else[])++(if top-8<x then[x]else[])++seenGo n top r (false||decide (x<n)):=rfl
  have hne:x≠n:=fun e=>h (by simp[e])
  rw[e,Bool.false_or];by_cases hx:x<n
  ·have e2:gJ (x::r) n=n::x::r:=by
    unfold gJ;rw[List.takeWhile_cons,List.dropWhile_cons,jh (by omega:¬n<x)];rfl
   rw[jd ⟨rfl,hx⟩,jc hx,B6,e2,ya,jh (by omega:¬n<=top-8),ya]
   by_cases h2:top-8<x
   ·rw[jd h2,jh (by omega:¬x<=top-8)];simp
   ·rw[jb h2,jc (by omega:x<=top-8)];simp
  ·have e2:gJ (x::r) n=x::gJ r n:=by
    unfold gJ;rw[List.takeWhile_cons,List.dropWhile_cons,jc (by omega:n<x)];rfl
   rw[jb (fun y=>hx y.2),jh hx,FD n top ht r (fun y=>h (by simp[y])),e2,ya]
   by_cases h2:top-8<x
   ·rw[jd h2,jh (by omega:¬x<=top-8)];simp
   ·rw[jb h2,jc (by omega:x<=top-8)];simp
theorem B7(w:Win)(n:Int):winTake w n=if n∈w.seen\/n<=w.top-8 then none else some ⟨w.key,max w.top n,(gJ w.seen n).filter fun x=>!decide (x<=max w.top n-8)⟩:=by
 unfold winTake;by_cases h:n∈w.seen\/n<=w.top-8
 ·rw[jd h,jd (h.symm)]
 ·rw[jb h,jb (fun x=>h x.symm),FD n (max w.top n) (by omega) w.seen (fun x=>h (.inl x))]
def nS(wins:List Win):Bool:=(List.range wins.length).all fun k=>winOk (ix wins (k:Int))&&decide (winAt wins (ix wins (k:Int)).key 0=k)
structure WOk(w:World):Prop where
 seats:w.seats.length=8
 fresh:w.fresh.length=8
 said:w.said.length=8
 wins:w.wins.length=8
 log:w.log.length<=16
 waits:w.waits.length<=16
 frames:w.frames.length<=40
 stolen:w.stolen.length<=12
 spy:w.spy.length<=72
 told:w.told.length<=320
 mem:∀k:Nat,k<8->memOk (ix w.seats (k:Int))=true/\((ix w.seats (k:Int)).inn=true->(ix w.seats (k:Int)).who=k)
 freshI:∀n∈w.fresh,0<=n/\n<=99
 saidI:∀n∈w.said,0<=n/\n<=999
 winsI:∀l∈w.wins,nS l=true
 logI:∀c∈w.log,eO c=true
 waitsI:∀x∈w.waits,aR x.who/\(0<=x.pos/\x.pos<w.log.length)/\secOk x.leaf=true/\secOk x.key=true
 spyI:∀s∈w.spy,secOk s=true
 stolenI:∀x∈w.stolen,aR x.who/\x.tag.length<=300
 framesI:∀f∈w.frames,fraOk f=true
 toldI:∀x∈w.told,aR x.who/\(0<=x.pos/\x.pos<w.frames.length)
end Kw
namespace Kw
open Go Go.Proofs
theorem dW(N:Nat)(p:Nat->Bool)(F:Nat->Int->Option (MV×List Obj))(fin bad:Option (MV×List Obj))
 (h1:∀(n k:Nat),k<N->F (n+1) (k:Nat)=if p k=true then F n ((k+1:Nat):Int)else bad)
 (h2:∀n:Nat,F (n+1) (N:Nat)=fin):∀m k:Nat,N<m+k->k<=N->F m (k:Nat)=if(List.range' k (N-k)).all p=true then fin else bad
 |0,k,h,hk=>by omega
 |m+1,k,h,hk=>by
  by_cases hlt:k<N
  ·rw[h1 m k hlt,dW N p F fin bad h1 h2 m (k+1) (by omega) (by omega)]
   rw[show N-k=(N-(k+1))+1 by omega,List.range'_succ,va]
   cases p k with
   |true=>rw[jw,jd rfl]
   |false=>rw[wd,jb (by simp),jb (by simp)]
  ·have e:k=N:=by omega
   subst e;rw[h2 m,Nat.sub_self];rfl
section
variable (L D:Nat)
theorem ad0(hL:1099511627776<=L)(x:Win)(hk:x.key.length<=500000)(hs:x.seen.length<=1000000):ev E L (D+306) 72 [.agg [.str (bs x.key),.int .i64 x.top,.sl (x.seen.map rI)]] []=some (.bool (winOk x),[]):=by
 obtain⟨key,top,seen⟩:=x;simp only at hk hs⊢;have e:winOk ⟨key,top,seen⟩=(decide ((bK key).op=5)&&((decide (1<=top)&&decide (top<=999))&&(decide (seen≠[])&&(decide (ix seen 0=top)&&(List.range seen.length).all fun k=>decide (1<=ix seen (k:Int))&&(decide (top-8<ix seen (k:Int))&&decide (k=0\/ix seen (k:Int)<ix seen ((k-1:Nat):Int))))))):=by
  unfold winOk;apply vr.2;simp only[jf,ja,ko,qp];constructor
  ·rintro⟨⟨h1,h2,h3,h4,h5⟩,h6⟩;refine⟨h1,⟨h2,h3⟩,h4,h5,fun k hk=>?_⟩
   rcases h6 k hk with h|h
   ·subst h;exact⟨by rw[show((0:Nat):Int)=0 from rfl,h5];omega,by rw[show((0:Nat):Int)=0 from rfl,h5];omega,.inl rfl⟩
   ·exact⟨h.2.2,h.2.1,.inr h.1⟩
  ·rintro⟨h1,⟨h2,h3⟩,h4,h5,h6⟩;refine⟨⟨h1,h2,h3,h4,h5⟩,fun k hk=>?_⟩
   obtain⟨a,b,c⟩:=h6 k hk;rcases c with c|c
   ·exact .inl c
   ·exact .inr ⟨c,b,a⟩
 rw[e,akQ,AZ L D hL key (by omega)]
 simp only[aA,gAggN_if,je,jj,js,aP,aV,bL,bM,cK];refine nX fun _=>?_
 rw[iO];simp only[aA,aI];refine nX fun ht=>?_
 simp only[jf,ja]at ht;have guard1:∀{b:Bool} {X:Option (MV×List Obj)} {r:Bool},(b=true->X=some (.bool r,[]))->br b X (some (.bool false,[]))=some (.bool (b&&r),[]):=fun{b} {X} {r} h=>by
  cases b with
  |false=>rfl
  |true=>rw[h rfl];rfl
 have e1:bNot (decide (nrows (seen.map rI)=0))=decide (seen≠[]):=by
  rw[aF];cases seen with
  |nil=>rfl
  |cons a r=>rw[jh (by simp only[je];omega)];rfl
 rw[e1];refine guard1 fun hne=>?_
 have hne:=qo hne;have hpos:0<seen.length:=qx.2 hne;have u0:=bR (0:Int) seen (by omega) (by omega)
 have ci:∀n:Int,fA .i64 (aH (rI n) 0)=some n:=fun _=>rfl
 simp only[u0,aA,ci];cases decide (ix seen 0=top)with
 |false=>rfl
 |true=>
  rw[bI,aD,jw,aF];have key1:=dW seen.length (fun k=>decide (1<=ix seen (k:Int))&&(decide (top-8<ix seen (k:Int))&&decide (k=0\/ix seen (k:Int)<ix seen ((k-1:Nat):Int)))) (fun m k=>qY L (D+305) m (bs key) top (seen.map rI) (seen.map rI) seen.length k) (some (.bool true,[])) (some (.bool false,[])) (fun n k hk=>?_) (fun n=>?_) L 0 (by omega) (by omega)
  ·rw[Nat.sub_zero,<-List.range_eq_range']at key1;refine Eq.trans key1 ?_;split
   ·rename_i h;rw[h]
   ·rename_i h;rw[qu.2 h]
  ·show qY L (D+305) (n+1) _ _ _ _ _ _=_;rw[yT];have g:iLt (k:Int) (seen.length:Int)=true:=by rw[aN,ja];omega
   have a1:aG .i64 (k:Int) 1=((k+1:Nat):Int):=aO _ (by omega)
   have a2:bB .i64 top 8=top-8:=eL (by omega) (by omega)
   have u:=bR (k:Int) seen (by omega) (by omega)
   have c2:bNot (iLe (ix seen (k:Int)) (top-8))=decide (top-8<ix seen (k:Int)):=by
    rw[cH];by_cases h:top-8<ix seen (k:Int)
    ·rw[jc h,jh (by omega)];rfl
    ·rw[jh h,jc (by omega)];rfl
   simp only[g,aC,u,aA,ci,FY,a2,c2,a1];cases decide (1<=ix seen (k:Int))with
   |false=>rfl
   |true=>
    rw[aC,jw];cases decide (top-8<ix seen (k:Int))with
    |false=>rfl
    |true=>
     rw[aC,jw];by_cases h0:k=0
     ·have g0:iLt 0 (k:Int)=false:=by rw[aN,jg];omega
      rw[g0,aD,jd (jc (.inl h0))]
     ·have g0:iLt 0 (k:Int)=true:=by rw[aN,ja];omega
      have a3:bB .i64 (k:Int) 1=((k-1:Nat):Int):=by rw[eL (by omega) (by omega)];omega
      have u2:=bR ((k-1:Nat):Int) seen (by omega) (by omega)
      simp only[g0,aC,a3,u2,aA,ci,cH];by_cases h1:ix seen (k:Int)<ix seen ((k-1:Nat):Int)
      ·rw[jh (by omega),aD,jd (jc (.inr h1))]
      ·rw[jc (by omega),aC,jb]
       intro h;rcases qo h with h|h
       ·exact h0 h
       ·exact h1 h
  ·show qY L (D+305) (n+1) _ _ _ _ _ _=_;rw[yT];have g:iLt (seen.length:Int) (seen.length:Int)=false:=by rw[aN,jg];omega
   rw[g,aD]
theorem DA:∀(l:List Win) (key:S) (k:Nat),winAt l key k=rA (fun w=>decide (w.key=key)) l k
 |[],_,_=>rfl
 |a::r,key,k=>by
  have ih:=DA r key (k+1);show(if a.key=key then(k:Int)else winAt r key (k+1))=if decide (a.key=key)=true then(k:Int)else rA _ r (k+1)
  rw[ih];simp only[ja]
theorem S7(hL:1099511627776<=L)(wins:List Win)(key:S)(hl:wins.length<=1000000):ev E L (D+3) 73 [.sl (wins.map rW),.str (bs key)] []=some (.int .i64 (winAt wins key 0),[]):=by
 rw[akR,VJ,aF,DA];have key1:=fY wins (fun w=>decide (w.key=key)) [.cells [.str (bs key)]] (fun m k=>kE L (D+1) m (bs key) (wins.map rW) wins.length k) (fun n k hk=>?_) (fun n=>?_) L 0 (by omega) (by omega)
 ·refine Eq.trans (vg (fun x=>bnd x _) key1) ?_
  rfl
 ·show kE L (D+1) (n+1) _ _ _ _=_;rw[pM];have g:iLt (k:Int) (wins.length:Int)=true:=by rw[aN,ja];omega
  have a1:aG .i64 (k:Int) 1=((k+1:Nat):Int):=aO _ (by omega)
  have u:=oP (k:Int) wins (by omega) (by omega)
  rw[aZ wins k hk]at u;have c0:∀o:Win,e6 (aH (rW o) 0)=some (bs o.key):=fun _=>rfl
  have c1:∀o:Win,fA .i64 (aH (rW o) 1)=some o.top:=fun _=>rfl
  have c2:∀o:Win,gSl (aH (rW o) 2)=some (o.seen.map rI):=fun _=>rfl
  simp only[g,aC,u,aA,c0,c1,c2,afO,dH,iQ,cM,je,jj,js,aP,bM,aI,a1];rw[bX]
 ·show kE L (D+1) (n+1) _ _ _ _=_;rw[pM];have g:iLt (wins.length:Int) (wins.length:Int)=false:=by rw[aN,jg];omega
  rw[g,aD]
theorem NM(hL:1099511627776<=L)(wins:List Win)(hl:wins.length<=1000000)(hb:∀x∈wins,x.key.length<=500000/\x.seen.length<=1000000):ev E L (D+307) 29 [.sl (wins.map rW)] []=some (.bool (nS wins),[]):=by
 rw[ak1,aF];have key1:=dW wins.length (fun k=>winOk (ix wins (k:Int))&&decide (winAt wins (ix wins (k:Int)).key 0=k)) (fun m k=>uX L (D+306) m (wins.map rW) (wins.map rW) wins.length k) (some (.bool true,[])) (some (.bool false,[])) (fun n k hk=>?_) (fun n=>?_) L 0 (by omega) (by omega)
 ·rw[Nat.sub_zero,<-List.range_eq_range']at key1;refine Eq.trans key1 ?_;unfold nS;split
  ·rename_i h;rw[h]
  ·rename_i h;rw[qu.2 h]
 ·show uX L (D+306) (n+1) _ _ _ _=_;rw[yL];have g:iLt (k:Int) (wins.length:Int)=true:=by rw[aN,ja];omega
  have a1:aG .i64 (k:Int) 1=((k+1:Nat):Int):=aO _ (by omega)
  have u:=oP (k:Int) wins (by omega) (by omega)
  have hm:ix wins (k:Int)∈wins:=by rw[aZ wins k hk];exact jr hk
  have c0:∀o:Win,e6 (aH (rW o) 0)=some (bs o.key):=fun _=>rfl
  have c1:∀o:Win,fA .i64 (aH (rW o) 1)=some o.top:=fun _=>rfl
  have c2:∀o:Win,gSl (aH (rW o) 2)=some (o.seen.map rI):=fun _=>rfl
  have h1:=ad0 L D hL (ix wins (k:Int)) (hb _ hm).1 (hb _ hm).2;have h2:=S7 L (D+303) hL wins (ix wins (k:Int)).key hl;simp only[g,aC,u,aA,c0,c1,c2,h1,h2,aI,bL,cK,a1];cases winOk (ix wins (k:Int))with
  |false=>rfl
  |true=>
   simp only[bI,bW,aC,jw,ja];by_cases h3:winAt wins (ix wins (k:Int)).key 0=k
   ·rw[jd h3,jc h3];rfl
   ·rw[jb h3,jh h3];rfl
 ·show uX L (D+306) (n+1) _ _ _ _=_;rw[yL];have g:iLt (wins.length:Int) (wins.length:Int)=false:=by rw[aN,jg];omega
  rw[g,aD]
theorem oL{A:Type} [Inhabited A](l:List A)(k:Nat):l.set k (ix l (k:Int))=l:=by
 by_cases h:k<l.length
 ·rw[aZ l k h];exact List.set_getElem_self h
 ·exact List.set_eq_of_length_le (by omega)
theorem NN(wins:List Win)(hl:wins.length<=1000000)(hb:∀x∈wins,x.seen.length<=1000000):∀m k:Nat,wins.length<m+k->k<=wins.length->
 yV L (D+1) m (wins.map rW) wins.length (wins.map rW) wins.length k=some (.own (wins.map rW),[])
 |0,k,h,hk=>by omega
 |m+1,k,h,hk=>by
  rw[GR];by_cases hlt:k<wins.length
  ·have g:iLt (k:Int) (wins.length:Int)=true:=by rw[aN,ja];omega
   have a1:aG .i64 (k:Int) 1=((k+1:Nat):Int):=aO _ (by omega)
   have u:=oP (k:Int) wins (by omega) (by omega)
   have u2:=CU wins (k:Int) (by omega) (by omega)
   have hm:ix wins (k:Int)∈wins:=by rw[aZ wins k hlt];exact jr hlt
   have c0:∀o:Win,e6 (aH (rW o) 0)=some (bs o.key):=fun _=>rfl
   have c1:∀o:Win,fA .i64 (aH (rW o) 1)=some o.top:=fun _=>rfl
   have c2:∀o:Win,gSl (aH (rW o) 2)=some (o.seen.map rI):=fun _=>rfl
   have hc:=dX L D (F:=108) (sz:=1) rfl ((ix wins (k:Int)).seen.map rI) (jE _) (by rw[kb];have:=hb _ hm;omega)
   have lr:iLe 3 (cA (rW (ix wins (k:Int))))=true:=rfl;have sr:setRow (rW (ix wins (k:Int))) 2 [MV.sl ((ix wins (k:Int)).seen.map rI)]=rW (ix wins (k:Int)):=rfl;have st:setR (wins.map rW) (k:Int) (rW (ix wins (k:Int)))=wins.map rW:=by rw[fT rW,ki,oL]
   simp only[g,aC,u,u2,aA,c0,c1,c2,hc,eC,aF,aU,lr,sr,st,a1];exact NN wins hl hb m (k+1) (by omega) (by omega)
  ·have g:iLt (k:Int) (wins.length:Int)=false:=by rw[aN,jg];omega
   rw[g,aD,aF,aU,aC]
theorem S8(hL:1099511627776<=L)(wins:List Win)(hl:wins.length<=1000000)(hb:∀x∈wins,x.seen.length<=1000000):ev E L (D+2) 114 [.sl (wins.map rW)] []=some (.own (wins.map rW),[]):=by
 rw[af9,dX L D (F:=189) (sz:=3) rfl (wins.map rW) (ED _) (by rw[kb];omega)]
 simp only[aA,eC,aF];exact NN L D wins hl hb L 0 (by omega) (by omega)
end
end Kw
namespace Kw
open Go Go.Proofs
structure WSzI(w:World):Prop where
 seats:w.seats.length<=1000000
 waits:w.waits.length<=1000000
 log:w.log.length<=1000000
 fresh:w.fresh.length<=1000000
 spy:w.spy.length<=1000000
 stolen:w.stolen.length<=1000000
 frames:w.frames.length<=1000000
 said:w.said.length<=1000000
 wins:w.wins.length<=1000000
 told:w.told.length<=1000000
 mem:∀m∈w.seats,MB m
 cmt:∀c∈w.log,c.keys.length<=1000000/\c.boxes.length<=1000000
 win:∀l∈w.wins,l.length<=1000000/\∀x∈l,x.seen.length<=1000000
def wS(w:World):List MV:=[.sl (w.seats.map rM),.sl (w.waits.map rWt),.sl (w.log.map rC),.sl (w.fresh.map rI),.sl (w.spy.map rS),.sl (w.stolen.map rSt),.sl (w.frames.map rF),.sl (w.said.map rI),.sl (w.wins.map rWs),.sl (w.told.map rT)]
def wO(w:World):List MV:=[.own (w.seats.map rM),.own (w.waits.map rWt),.own (w.log.map rC),.own (w.fresh.map rI),.own (w.spy.map rS),.own (w.stolen.map rSt),.own (w.frames.map rF),.own (w.said.map rI),.own (w.wins.map rWs),.own (w.told.map rT)]
def wK(w:World):List MV:=[.own (w.seats.map rM),.ownK (w.waits.map rWt),.own (w.log.map rC),.own (w.fresh.map rI),.own (w.spy.map rS),.own (w.stolen.map rSt),.own (w.frames.map rF),.own (w.said.map rI),.own (w.wins.map rWs),.own (w.told.map rT)]
section
variable (L D:Nat)
theorem V5(hL:1099511627776<=L)(w:World)(z:WSzI w):lD L (D+4) L [] [] [] [] [] [] [] [] [] [] (w.seats.map rM) (w.waits.map rWt) (w.log.map rC) (w.fresh.map rI) (w.spy.map rS) (w.stolen.map rSt) (w.frames.map rF) (w.said.map rI) (w.wins.map rWs) (w.told.map rT) (nrows []) (nrows []) (nrows []) (nrows []) (nrows []) (nrows []) (nrows []) (nrows []) (nrows []) (nrows []) (w.seats.length:Nat) (w.waits.length:Nat) (w.log.length:Nat) (w.fresh.length:Nat) (w.spy.length:Nat) (w.stolen.length:Nat) (w.frames.length:Nat) (w.said.length:Nat) (w.wins.length:Nat) (w.told.length:Nat) (w.wins.map rWs) (w.wins.length:Nat) 0=some (.agg (wO w),[]):=by
 refine Eq.trans (dW w.wins.length (fun _=>true) (fun m k=>lD L (D+4) m [] [] [] [] [] [] [] [] [] [] (w.seats.map rM) (w.waits.map rWt) (w.log.map rC) (w.fresh.map rI) (w.spy.map rS) (w.stolen.map rSt) (w.frames.map rF) (w.said.map rI) (w.wins.map rWs) (w.told.map rT) (nrows []) (nrows []) (nrows []) (nrows []) (nrows []) (nrows []) (nrows []) (nrows []) (nrows []) (nrows []) (w.seats.length:Nat) (w.waits.length:Nat) (w.log.length:Nat) (w.fresh.length:Nat) (w.spy.length:Nat) (w.stolen.length:Nat) (w.frames.length:Nat) (w.said.length:Nat) (w.wins.length:Nat) (w.told.length:Nat) (w.wins.map rWs) (w.wins.length:Nat) k) (some (.agg (wO w),[])) none (fun n k hk=>?_) (fun n=>?_) L 0 (by have:=z.wins;omega) (by omega)) (by simp)
 ·show lD L (D+4) (n+1) _ _ _ _ _ _ _ _ _ _ _ _ _ _ _ _ _ _ _ _ _ _ _ _ _ _ _ _ _ _ _ _ _ _ _ _ _ _ _ _ _ _ _=_;rw[vZ,jd rfl];have hw:=z.wins;have g:iLt (k:Int) (w.wins.length:Int)=true:=by rw[aN,ja];omega
  have a1:aG .i64 (k:Int) 1=((k+1:Nat):Int):=aO _ (by omega)
  have u:=eW (k:Int) w.wins (by omega) (by omega)
  have u2:=eP w.wins (k:Int) (by omega) (by omega)
  have hm:ix w.wins (k:Int)∈w.wins:=by rw[aZ w.wins k hk];exact jr hk
  have hc:=S8 L (D+2) hL (ix w.wins (k:Int)) (z.win _ hm).1 (z.win _ hm).2;have s0:∀l:List Win,gSl (aH (rWs l) 0)=some (l.map rW):=fun _=>rfl
  have lr:iLe 1 (cA (rWs (ix w.wins (k:Int))))=true:=rfl;have sr:setRow (rWs (ix w.wins (k:Int))) 0 [MV.sl ((ix w.wins (k:Int)).map rW)]=rWs (ix w.wins (k:Int)):=rfl;have st:setR (w.wins.map rWs) (k:Int) (rWs (ix w.wins (k:Int)))=w.wins.map rWs:=by rw[fT rWs,ki,oL]
  simp only[g,aC,u,u2,aA,s0,hc,eC,aF,aU,lr,sr,st,a1]
 ·show lD L (D+4) (n+1) _ _ _ _ _ _ _ _ _ _ _ _ _ _ _ _ _ _ _ _ _ _ _ _ _ _ _ _ _ _ _ _ _ _ _ _ _ _ _ _ _ _ _=_;rw[vZ];have g:iLt (w.wins.length:Int) (w.wins.length:Int)=false:=by rw[aN,jg];omega
  simp only[g,aD,aF,aU,aC]
  rfl
theorem aaE(hL:1099511627776<=L)(w:World)(z:WSzI w):m7 L (D+4) L [] [] [] [] [] [] [] [] [] [] (w.seats.map rM) (w.waits.map rWt) (w.log.map rC) (w.fresh.map rI) (w.spy.map rS) (w.stolen.map rSt) (w.frames.map rF) (w.said.map rI) (w.wins.map rWs) (w.told.map rT) (w.seats.map rM) (w.waits.map rWt) (w.log.map rC) (w.fresh.map rI) (w.spy.map rS) (w.stolen.map rSt) (w.frames.map rF) (w.said.map rI) (w.wins.map rWs) (w.told.map rT) (nrows []) (nrows []) (nrows []) (nrows []) (nrows []) (nrows []) (nrows []) (nrows []) (nrows []) (nrows []) (w.seats.length:Nat) (w.waits.length:Nat) (w.log.length:Nat) (w.fresh.length:Nat) (w.spy.length:Nat) (w.stolen.length:Nat) (w.frames.length:Nat) (w.said.length:Nat) (w.wins.length:Nat) (w.told.length:Nat) (w.log.map rC) (w.log.length:Nat) 0=lD L (D+4) L [] [] [] [] [] [] [] [] [] [] (w.seats.map rM) (w.waits.map rWt) (w.log.map rC) (w.fresh.map rI) (w.spy.map rS) (w.stolen.map rSt) (w.frames.map rF) (w.said.map rI) (w.wins.map rWs) (w.told.map rT) (nrows []) (nrows []) (nrows []) (nrows []) (nrows []) (nrows []) (nrows []) (nrows []) (nrows []) (nrows []) (w.seats.length:Nat) (w.waits.length:Nat) (w.log.length:Nat) (w.fresh.length:Nat) (w.spy.length:Nat) (w.stolen.length:Nat) (w.frames.length:Nat) (w.said.length:Nat) (w.wins.length:Nat) (w.told.length:Nat) (w.wins.map rWs) (nrows (w.wins.map rWs)) 0:=by
 refine Eq.trans (dW w.log.length (fun _=>true) (fun m k=>m7 L (D+4) m [] [] [] [] [] [] [] [] [] [] (w.seats.map rM) (w.waits.map rWt) (w.log.map rC) (w.fresh.map rI) (w.spy.map rS) (w.stolen.map rSt) (w.frames.map rF) (w.said.map rI) (w.wins.map rWs) (w.told.map rT) (w.seats.map rM) (w.waits.map rWt) (w.log.map rC) (w.fresh.map rI) (w.spy.map rS) (w.stolen.map rSt) (w.frames.map rF) (w.said.map rI) (w.wins.map rWs) (w.told.map rT) (nrows []) (nrows []) (nrows []) (nrows []) (nrows []) (nrows []) (nrows []) (nrows []) (nrows []) (nrows []) (w.seats.length:Nat) (w.waits.length:Nat) (w.log.length:Nat) (w.fresh.length:Nat) (w.spy.length:Nat) (w.stolen.length:Nat) (w.frames.length:Nat) (w.said.length:Nat) (w.wins.length:Nat) (w.told.length:Nat) (w.log.map rC) (w.log.length:Nat) k) (lD L (D+4) L [] [] [] [] [] [] [] [] [] [] (w.seats.map rM) (w.waits.map rWt) (w.log.map rC) (w.fresh.map rI) (w.spy.map rS) (w.stolen.map rSt) (w.frames.map rF) (w.said.map rI) (w.wins.map rWs) (w.told.map rT) (nrows []) (nrows []) (nrows []) (nrows []) (nrows []) (nrows []) (nrows []) (nrows []) (nrows []) (nrows []) (w.seats.length:Nat) (w.waits.length:Nat) (w.log.length:Nat) (w.fresh.length:Nat) (w.spy.length:Nat) (w.stolen.length:Nat) (w.frames.length:Nat) (w.said.length:Nat) (w.wins.length:Nat) (w.told.length:Nat) (w.wins.map rWs) (nrows (w.wins.map rWs)) 0) none (fun n k hk=>?_) (fun n=>?_) L 0 (by have:=z.log;omega) (by omega)) (by simp)
 ·show m7 L (D+4) (n+1) _ _ _ _ _ _ _ _ _ _ _ _ _ _ _ _ _ _ _ _ _ _ _ _ _ _ _ _ _ _ _ _ _ _ _ _ _ _ _ _ _ _ _ _ _ _ _ _ _ _ _ _ _=_;rw[yR,jd rfl];have hw:=z.log;have g:iLt (k:Int) (w.log.length:Int)=true:=by rw[aN,ja];omega
  have a1:aG .i64 (k:Int) 1=((k+1:Nat):Int):=aO _ (by omega)
  have u:=lP (k:Int) w.log (by omega) (by omega)
  have u2:=lY w.log (k:Int) (by omega) (by omega)
  have hm:ix w.log (k:Int)∈w.log:=by rw[aZ w.log k hk];exact jr hk
  obtain⟨z1,z2⟩:=z.cmt _ hm;have h1:=dX L (D+3) (F:=48) (sz:=1) rfl ((ix w.log (k:Int)).keys.map rS) (gF _) (by rw[kb];omega)
  have h2:=dX L (D+3) (F:=92) (sz:=2) rfl ((ix w.log (k:Int)).boxes.map rB) (IB _) (by rw[kb];omega)
  have c0:∀c:Commit,fA .i64 (aH (rC c) 0)=some c.sender:=fun _=>rfl
  have c1:∀c:Commit,e6 (aH (rC c) 1)=some (bs c.tag):=fun _=>rfl
  have c2:∀c:Commit,e6 (aH (rC c) 2)=some (bs c.name):=fun _=>rfl
  have c3:∀c:Commit,fA .i64 (aH (rC c) 3)=some c.add:=fun _=>rfl
  have c4:∀c:Commit,fA .i64 (aH (rC c) 4)=some c.remove:=fun _=>rfl
  have c5:∀c:Commit,e6 (aH (rC c) 5)=some (bs c.leaf):=fun _=>rfl
  have c6:∀c:Commit,gSl (aH (rC c) 6)=some (c.keys.map rS):=fun _=>rfl
  have c7:∀c:Commit,gSl (aH (rC c) 7)=some (c.boxes.map rB):=fun _=>rfl
  have c8:∀c:Commit,e6 (aH (rC c) 8)=some (bs c.wkey):=fun _=>rfl
  have c9:∀c:Commit,e6 (aH (rC c) 9)=some (bs c.wik):=fun _=>rfl
  have c10:∀c:Commit,e6 (aH (rC c) 10)=some (bs c.wis):=fun _=>rfl
  have c11:∀c:Commit,e6 (aH (rC c) 11)=some (bs c.wsk):=fun _=>rfl
  have c12:∀c:Commit,e6 (aH (rC c) 12)=some (bs c.wss):=fun _=>rfl
  have lr:iLe 7 (cA (rC (ix w.log (k:Int))))=true:=rfl;have lr2:iLe 8 (cA (rC (ix w.log (k:Int))))=true:=rfl;have sr:setRow (rC (ix w.log (k:Int))) 6 [MV.sl ((ix w.log (k:Int)).keys.map rS)]=rC (ix w.log (k:Int)):=rfl;have sr2:setRow (rC (ix w.log (k:Int))) 7 [MV.sl ((ix w.log (k:Int)).boxes.map rB)]=rC (ix w.log (k:Int)):=rfl;have st:setR (w.log.map rC) (k:Int) (rC (ix w.log (k:Int)))=w.log.map rC:=by rw[fT rC,ki,oL]
  simp only[g,aC,u,u2,aA,c0,c1,c2,c3,c4,c5,c6,c7,c8,c9,c10,c11,c12,h1,h2,eC,aF,aU,lr,lr2,sr,sr2,st,a1]
 ·show m7 L (D+4) (n+1) _ _ _ _ _ _ _ _ _ _ _ _ _ _ _ _ _ _ _ _ _ _ _ _ _ _ _ _ _ _ _ _ _ _ _ _ _ _ _ _ _ _ _ _ _ _ _ _ _ _ _ _ _=_;rw[yR];have g:iLt (w.log.length:Int) (w.log.length:Int)=false:=by rw[aN,jg];omega
  rw[g,aD]
theorem F3(hL:1099511627776<=L)(w:World)(z:WSzI w):qX L (D+4) L [] [] [] [] [] [] [] [] [] [] (w.seats.map rM) (w.waits.map rWt) (w.log.map rC) (w.fresh.map rI) (w.spy.map rS) (w.stolen.map rSt) (w.frames.map rF) (w.said.map rI) (w.wins.map rWs) (w.told.map rT) (w.seats.map rM) (w.waits.map rWt) (w.log.map rC) (w.fresh.map rI) (w.spy.map rS) (w.stolen.map rSt) (w.frames.map rF) (w.said.map rI) (w.wins.map rWs) (w.told.map rT) (nrows []) (nrows []) (nrows []) (nrows []) (nrows []) (nrows []) (nrows []) (nrows []) (nrows []) (nrows []) (w.seats.length:Nat) (w.waits.length:Nat) (w.log.length:Nat) (w.fresh.length:Nat) (w.spy.length:Nat) (w.stolen.length:Nat) (w.frames.length:Nat) (w.said.length:Nat) (w.wins.length:Nat) (w.told.length:Nat) (w.seats.map rM) (w.seats.length:Nat) 0=m7 L (D+4) L [] [] [] [] [] [] [] [] [] [] (w.seats.map rM) (w.waits.map rWt) (w.log.map rC) (w.fresh.map rI) (w.spy.map rS) (w.stolen.map rSt) (w.frames.map rF) (w.said.map rI) (w.wins.map rWs) (w.told.map rT) (w.seats.map rM) (w.waits.map rWt) (w.log.map rC) (w.fresh.map rI) (w.spy.map rS) (w.stolen.map rSt) (w.frames.map rF) (w.said.map rI) (w.wins.map rWs) (w.told.map rT) (nrows []) (nrows []) (nrows []) (nrows []) (nrows []) (nrows []) (nrows []) (nrows []) (nrows []) (nrows []) (w.seats.length:Nat) (w.waits.length:Nat) (w.log.length:Nat) (w.fresh.length:Nat) (w.spy.length:Nat) (w.stolen.length:Nat) (w.frames.length:Nat) (w.said.length:Nat) (w.wins.length:Nat) (w.told.length:Nat) (w.log.map rC) (nrows (w.log.map rC)) 0:=by
 refine Eq.trans (dW w.seats.length (fun _=>true) (fun m k=>qX L (D+4) m [] [] [] [] [] [] [] [] [] [] (w.seats.map rM) (w.waits.map rWt) (w.log.map rC) (w.fresh.map rI) (w.spy.map rS) (w.stolen.map rSt) (w.frames.map rF) (w.said.map rI) (w.wins.map rWs) (w.told.map rT) (w.seats.map rM) (w.waits.map rWt) (w.log.map rC) (w.fresh.map rI) (w.spy.map rS) (w.stolen.map rSt) (w.frames.map rF) (w.said.map rI) (w.wins.map rWs) (w.told.map rT) (nrows []) (nrows []) (nrows []) (nrows []) (nrows []) (nrows []) (nrows []) (nrows []) (nrows []) (nrows []) (w.seats.length:Nat) (w.waits.length:Nat) (w.log.length:Nat) (w.fresh.length:Nat) (w.spy.length:Nat) (w.stolen.length:Nat) (w.frames.length:Nat) (w.said.length:Nat) (w.wins.length:Nat) (w.told.length:Nat) (w.seats.map rM) (w.seats.length:Nat) k) (m7 L (D+4) L [] [] [] [] [] [] [] [] [] [] (w.seats.map rM) (w.waits.map rWt) (w.log.map rC) (w.fresh.map rI) (w.spy.map rS) (w.stolen.map rSt) (w.frames.map rF) (w.said.map rI) (w.wins.map rWs) (w.told.map rT) (w.seats.map rM) (w.waits.map rWt) (w.log.map rC) (w.fresh.map rI) (w.spy.map rS) (w.stolen.map rSt) (w.frames.map rF) (w.said.map rI) (w.wins.map rWs) (w.told.map rT) (nrows []) (nrows []) (nrows []) (nrows []) (nrows []) (nrows []) (nrows []) (nrows []) (nrows []) (nrows []) (w.seats.length:Nat) (w.waits.length:Nat) (w.log.length:Nat) (w.fresh.length:Nat) (w.spy.length:Nat) (w.stolen.length:Nat) (w.frames.length:Nat) (w.said.length:Nat) (w.wins.length:Nat) (w.told.length:Nat) (w.log.map rC) (nrows (w.log.map rC)) 0) none (fun n k hk=>?_) (fun n=>?_) L 0 (by have:=z.seats;omega) (by omega)) (by simp)
 ·show qX L (D+4) (n+1) _ _ _ _ _ _ _ _ _ _ _ _ _ _ _ _ _ _ _ _ _ _ _ _ _ _ _ _ _ _ _ _ _ _ _ _ _ _ _ _ _ _ _ _ _ _ _ _ _ _ _ _ _=_;rw[yQ,jd rfl];have hw:=z.seats;have g:iLt (k:Int) (w.seats.length:Int)=true:=by rw[aN,ja];omega
  have a1:aG .i64 (k:Int) 1=((k+1:Nat):Int):=aO _ (by omega)
  have u:=cJ (k:Int) w.seats (by omega) (by omega)
  have u2:=cB w.seats (k:Int) (by omega) (by omega)
  have hm:ix w.seats (k:Int)∈w.seats:=by rw[aZ w.seats k hk];exact jr hk
  have h1:=SR L (D+1) (ix w.seats (k:Int)) (z.mem _ hm);have st:setR (w.seats.map rM) (k:Int) (rM (ix w.seats (k:Int)))=w.seats.map rM:=by rw[fT rM,ki,oL]
  generalize ix w.seats (k:Int)=q at u u2 h1 st;obtain⟨b,wh,ks,own,e,i,t⟩:=q;change aL 7 (w.seats.map rM) (k:Int)=some [.bool b,.int .i64 wh,.sl (ks.map rS),.sl (own.map rO),.int .i64 e,.str (bs i),.str (bs t)]at u;change aS (w.seats.map rM) (k:Int)=some [.bool b,.int .i64 wh,.sl (ks.map rS),.sl (own.map rO),.int .i64 e,.str (bs i),.str (bs t)]at u2;change ev E L (D+4) 113 [.agg [.bool b,.int .i64 wh,.sl (ks.map rS),.sl (own.map rO),.int .i64 e,.str (bs i),.str (bs t)]] []=some (.agg [.bool b,.int .i64 wh,.sl (ks.map rS),.sl (own.map rO),.int .i64 e,.str (bs i),.str (bs t)],[])at h1;change setR (w.seats.map rM) (k:Int) [.bool b,.int .i64 wh,.sl (ks.map rS),.sl (own.map rO),.int .i64 e,.str (bs i),.str (bs t)]=_ at st;have lr:iLe 7 (cA [MV.bool b,.int .i64 wh,.sl (ks.map rS),.sl (own.map rO),.int .i64 e,.str (bs i),.str (bs t)])=true:=rfl;have sr:setRow [MV.bool b,.int .i64 wh,.sl (ks.map rS),.sl (own.map rO),.int .i64 e,.str (bs i),.str (bs t)] 0 [MV.bool b,.int .i64 wh,.sl (ks.map rS),.sl (own.map rO),.int .i64 e,.str (bs i),.str (bs t)]=[.bool b,.int .i64 wh,.sl (ks.map rS),.sl (own.map rO),.int .i64 e,.str (bs i),.str (bs t)]:=rfl;simp only[g,aC,u,u2,aA,aP,aV,aI,bL,eY,bM,h1,gAggN_if,je,jj,js,aF,aU,lr,sr,st,a1]
 ·show qX L (D+4) (n+1) _ _ _ _ _ _ _ _ _ _ _ _ _ _ _ _ _ _ _ _ _ _ _ _ _ _ _ _ _ _ _ _ _ _ _ _ _ _ _ _ _ _ _ _ _ _ _ _ _ _ _ _ _=_;rw[yQ];have g:iLt (w.seats.length:Int) (w.seats.length:Int)=false:=by rw[aN,jg];omega
  rw[g,aD]
theorem S9(hL:1099511627776<=L)(w:World)(z:WSzI w):ev E L (D+5) 61 [.agg (wS w)] []=some (.agg (wO w),[]):=by
 unfold wS;rw[akH];have c0:=dX L (D+3) (F:=105) (sz:=7) rfl (w.seats.map rM) (RF _) (by rw[kb];have:=z.seats;omega)
 have c1:=dX L (D+3) (F:=106) (sz:=4) rfl (w.waits.map rWt) (AD _) (by rw[kb];have:=z.waits;omega)
 have c2:=dX L (D+3) (F:=107) (sz:=13) rfl (w.log.map rC) (IC _) (by rw[kb];have:=z.log;omega)
 have c3:=dX L (D+3) (F:=108) (sz:=1) rfl (w.fresh.map rI) (jE _) (by rw[kb];have:=z.fresh;omega)
 have c4:=dX L (D+3) (F:=48) (sz:=1) rfl (w.spy.map rS) (gF _) (by rw[kb];have:=z.spy;omega)
 have c5:=dX L (D+3) (F:=109) (sz:=2) rfl (w.stolen.map rSt) (AE _) (by rw[kb];have:=z.stolen;omega)
 have c6:=dX L (D+3) (F:=110) (sz:=4) rfl (w.frames.map rF) (lK _) (by rw[kb];have:=z.frames;omega)
 have c7:=dX L (D+3) (F:=108) (sz:=1) rfl (w.said.map rI) (jE _) (by rw[kb];have:=z.said;omega)
 have c8:=dX L (D+3) (F:=111) (sz:=1) rfl (w.wins.map rWs) (JZ _) (by rw[kb];have:=z.wins;omega)
 have c9:=dX L (D+3) (F:=112) (sz:=2) rfl (w.told.map rT) (lL _) (by rw[kb];have:=z.told;omega)
 simp only[c0,c1,c2,c3,c4,c5,c6,c7,c8,c9,aA,eC,aF];have k3:=F3 L D hL w z;have k8:=aaE L D hL w z;have k13:=V5 L D hL w z;rw[aF]at k3 k8;exact k3.trans (k8.trans k13)
end
end Kw
namespace Kw
open Go Go.Proofs
section
variable (L D:Nat)
theorem aiB(hL:1099511627776<=L)(l:List (Int))(hl:l.length<=1000000)(hx:∀x∈l,ev E L D 24 [.int .i64 x] []=some (.bool false,[])):
 ev E L (D+3) 23 [.sl (l.map rI),.fn 24 []] []=some (.bool false,[]):=by
 rw[ZK,ZT,VG,aF];have key1:=fY l (fun _=>false) [] (fun m k=>kB L D m (l.map rI) l.length k) (fun n k hk=>?_) (fun n=>?_) L 0 (by omega) (by omega)
 ·have h0:=gG (fun _:Int=>false) (l.drop 0) 0
  have h1:(l.drop 0).any (fun _=>false)=false:=by simp
  rw[h1]at h0;rw[show((0:Nat):Int)=0 from rfl]at key1
  skip
  simp only[key1,aA,bL,gS,aI];rw[h0]
 ·show kB L D (n+1) _ _ _=_;rw[pJ];have g:iLt (k:Int) (l.length:Int)=true:=by rw[aN,ja];omega
  have a1:aG .i64 (k:Int) 1=((k+1:Nat):Int):=aO _ (by omega)
  have u:=bR (k:Int) l (by omega) (by omega)
  rw[aZ l k hk]at u;have c0:∀x:Int,fA .i64 (aH (rI x) 0)=some x:=fun _=>rfl
  have h:=hx l[k] (jr hk);simp only[g,aC,u,aA,c0,h,aI,aD,a1,qa,ql]
 ·show kB L D (n+1) _ _ _=_;rw[pJ];have g:iLt (l.length:Int) (l.length:Int)=false:=by rw[aN,jg];omega
  rw[g,aD]
theorem aiC(hL:1099511627776<=L)(l:List (Int))(hl:l.length<=1000000)(hx:∀x∈l,ev E L D 26 [.int .i64 x] []=some (.bool false,[])):
 ev E L (D+3) 23 [.sl (l.map rI),.fn 26 []] []=some (.bool false,[]):=by
 rw[ZL,ZU,VH,aF];have key1:=fY l (fun _=>false) [] (fun m k=>kC L D m (l.map rI) l.length k) (fun n k hk=>?_) (fun n=>?_) L 0 (by omega) (by omega)
 ·have h0:=gG (fun _:Int=>false) (l.drop 0) 0
  have h1:(l.drop 0).any (fun _=>false)=false:=by simp
  rw[h1]at h0;rw[show((0:Nat):Int)=0 from rfl]at key1
  skip
  simp only[key1,aA,bL,gS,aI];rw[h0]
 ·show kC L D (n+1) _ _ _=_;rw[pK];have g:iLt (k:Int) (l.length:Int)=true:=by rw[aN,ja];omega
  have a1:aG .i64 (k:Int) 1=((k+1:Nat):Int):=aO _ (by omega)
  have u:=bR (k:Int) l (by omega) (by omega)
  rw[aZ l k hk]at u;have c0:∀x:Int,fA .i64 (aH (rI x) 0)=some x:=fun _=>rfl
  have h:=hx l[k] (jr hk);simp only[g,aC,u,aA,c0,h,aI,aD,a1,qa,ql]
 ·show kC L D (n+1) _ _ _=_;rw[pK];have g:iLt (l.length:Int) (l.length:Int)=false:=by rw[aN,jg];omega
  rw[g,aD]
theorem aiD(hL:1099511627776<=L)(l:List (List Win))(hl:l.length<=1000000)(hx:∀x∈l,ev E L D 28 [.sl (x.map rW)] []=some (.bool false,[])):
 ev E L (D+3) 27 [.sl (l.map rWs),.fn 28 []] []=some (.bool false,[]):=by
 rw[ZM,ZV,VI,aF];have key1:=fY l (fun _=>false) [] (fun m k=>kD L D m (l.map rWs) l.length k) (fun n k hk=>?_) (fun n=>?_) L 0 (by omega) (by omega)
 ·have h0:=gG (fun _:List Win=>false) (l.drop 0) 0
  have h1:(l.drop 0).any (fun _=>false)=false:=by simp
  rw[h1]at h0;rw[show((0:Nat):Int)=0 from rfl]at key1
  skip
  simp only[key1,aA,bL,gS,aI];rw[h0]
 ·show kD L D (n+1) _ _ _=_;rw[pL];have g:iLt (k:Int) (l.length:Int)=true:=by rw[aN,ja];omega
  have a1:aG .i64 (k:Int) 1=((k+1:Nat):Int):=aO _ (by omega)
  have u:=eW (k:Int) l (by omega) (by omega)
  rw[aZ l k hk]at u;have c0:∀x:List Win,gSl (aH (rWs x) 0)=some (x.map rW):=fun _=>rfl
  have h:=hx l[k] (jr hk);simp only[g,aC,u,aA,c0,h,aI,aD,a1,qa,ql]
 ·show kD L D (n+1) _ _ _=_;rw[pL];have g:iLt (l.length:Int) (l.length:Int)=false:=by rw[aN,jg];omega
  rw[g,aD]
theorem aiE(hL:1099511627776<=L)(l:List (Commit))(hl:l.length<=1000000)(hx:∀x∈l,ev E L D 31 [.agg [.int .i64 x.sender,.str (bs x.tag),.str (bs x.name),.int .i64 x.add,.int .i64 x.remove,.str (bs x.leaf),.sl (x.keys.map rS),.sl (x.boxes.map rB),.str (bs x.wkey),.str (bs x.wik),.str (bs x.wis),.str (bs x.wsk),.str (bs x.wss)]] []=some (.bool false,[])):
 ev E L (D+3) 30 [.sl (l.map rC),.fn 31 []] []=some (.bool false,[]):=by
 rw[ZN,ZW,VK,aF];have key1:=fY l (fun _=>false) [] (fun m k=>kF L D m (l.map rC) l.length k) (fun n k hk=>?_) (fun n=>?_) L 0 (by omega) (by omega)
 ·have h0:=gG (fun _:Commit=>false) (l.drop 0) 0
  have h1:(l.drop 0).any (fun _=>false)=false:=by simp
  rw[h1]at h0;rw[show((0:Nat):Int)=0 from rfl]at key1
  skip
  simp only[key1,aA,bL,gS,aI];rw[h0]
 ·show kF L D (n+1) _ _ _=_;rw[pN];have g:iLt (k:Int) (l.length:Int)=true:=by rw[aN,ja];omega
  have a1:aG .i64 (k:Int) 1=((k+1:Nat):Int):=aO _ (by omega)
  have u:=lP (k:Int) l (by omega) (by omega)
  rw[aZ l k hk]at u;have c0:∀x:Commit,fA .i64 (aH (rC x) 0)=some x.sender:=fun _=>rfl
  have c1:∀x:Commit,e6 (aH (rC x) 1)=some (bs x.tag):=fun _=>rfl
  have c2:∀x:Commit,e6 (aH (rC x) 2)=some (bs x.name):=fun _=>rfl
  have c3:∀x:Commit,fA .i64 (aH (rC x) 3)=some x.add:=fun _=>rfl
  have c4:∀x:Commit,fA .i64 (aH (rC x) 4)=some x.remove:=fun _=>rfl
  have c5:∀x:Commit,e6 (aH (rC x) 5)=some (bs x.leaf):=fun _=>rfl
  have c6:∀x:Commit,gSl (aH (rC x) 6)=some (x.keys.map rS):=fun _=>rfl
  have c7:∀x:Commit,gSl (aH (rC x) 7)=some (x.boxes.map rB):=fun _=>rfl
  have c8:∀x:Commit,e6 (aH (rC x) 8)=some (bs x.wkey):=fun _=>rfl
  have c9:∀x:Commit,e6 (aH (rC x) 9)=some (bs x.wik):=fun _=>rfl
  have c10:∀x:Commit,e6 (aH (rC x) 10)=some (bs x.wis):=fun _=>rfl
  have c11:∀x:Commit,e6 (aH (rC x) 11)=some (bs x.wsk):=fun _=>rfl
  have c12:∀x:Commit,e6 (aH (rC x) 12)=some (bs x.wss):=fun _=>rfl
  have h:=hx l[k] (jr hk);simp only[g,aC,u,aA,c0,c1,c2,c3,c4,c5,c6,c7,c8,c9,c10,c11,c12,h,aI,aD,a1,qa,ql]
 ·show kF L D (n+1) _ _ _=_;rw[pN];have g:iLt (l.length:Int) (l.length:Int)=false:=by rw[aN,jg];omega
  rw[g,aD]
theorem aiF(hL:1099511627776<=L)(l:List (S))(hl:l.length<=1000000)(hx:∀x∈l,ev E L D 38 [.str (bs x)] []=some (.bool false,[])):
 ev E L (D+3) 37 [.sl (l.map rS),.fn 38 []] []=some (.bool false,[]):=by
 rw[ZP,ZY,VN,aF];have key1:=fY l (fun _=>false) [] (fun m k=>kH L D m (l.map rS) l.length k) (fun n k hk=>?_) (fun n=>?_) L 0 (by omega) (by omega)
 ·have h0:=gG (fun _:S=>false) (l.drop 0) 0
  have h1:(l.drop 0).any (fun _=>false)=false:=by simp
  rw[h1]at h0;rw[show((0:Nat):Int)=0 from rfl]at key1
  skip
  simp only[key1,aA,bL,gS,aI];rw[h0]
 ·show kH L D (n+1) _ _ _=_;rw[pP];have g:iLt (k:Int) (l.length:Int)=true:=by rw[aN,ja];omega
  have a1:aG .i64 (k:Int) 1=((k+1:Nat):Int):=aO _ (by omega)
  have u:=bQ (k:Int) l (by omega) (by omega)
  rw[aZ l k hk]at u;have c0:∀x:S,e6 (aH (rS x) 0)=some (bs x):=fun _=>rfl
  have h:=hx l[k] (jr hk);simp only[g,aC,u,aA,c0,h,aI,aD,a1,qa,ql]
 ·show kH L D (n+1) _ _ _=_;rw[pP];have g:iLt (l.length:Int) (l.length:Int)=false:=by rw[aN,jg];omega
  rw[g,aD]
theorem aiG(hL:1099511627776<=L)(l:List (Steal))(hl:l.length<=1000000)(hx:∀x∈l,ev E L D 40 [.agg [.int .i64 x.who,.str (bs x.tag)]] []=some (.bool false,[])):
 ev E L (D+3) 39 [.sl (l.map rSt),.fn 40 []] []=some (.bool false,[]):=by
 rw[ZQ,Z2,VQ,aF];have key1:=fY l (fun _=>false) [] (fun m k=>kI L D m (l.map rSt) l.length k) (fun n k hk=>?_) (fun n=>?_) L 0 (by omega) (by omega)
 ·have h0:=gG (fun _:Steal=>false) (l.drop 0) 0
  have h1:(l.drop 0).any (fun _=>false)=false:=by simp
  rw[h1]at h0;rw[show((0:Nat):Int)=0 from rfl]at key1
  skip
  simp only[key1,aA,bL,gS,aI];rw[h0]
 ·show kI L D (n+1) _ _ _=_;rw[pQ];have g:iLt (k:Int) (l.length:Int)=true:=by rw[aN,ja];omega
  have a1:aG .i64 (k:Int) 1=((k+1:Nat):Int):=aO _ (by omega)
  have u:=RE (k:Int) l (by omega) (by omega)
  rw[aZ l k hk]at u;have c0:∀x:Steal,fA .i64 (aH (rSt x) 0)=some x.who:=fun _=>rfl
  have c1:∀x:Steal,e6 (aH (rSt x) 1)=some (bs x.tag):=fun _=>rfl
  have h:=hx l[k] (jr hk);simp only[g,aC,u,aA,c0,c1,h,aI,aD,a1,qa,ql]
 ·show kI L D (n+1) _ _ _=_;rw[pQ];have g:iLt (l.length:Int) (l.length:Int)=false:=by rw[aN,jg];omega
  rw[g,aD]
theorem aiH(hL:1099511627776<=L)(l:List (Frame))(hl:l.length<=1000000)(hx:∀x∈l,ev E L D 42 [.agg [.int .i64 x.src,.str (bs x.key),.int .i64 x.n,.str (bs x.text)]] []=some (.bool false,[])):
 ev E L (D+3) 41 [.sl (l.map rF),.fn 42 []] []=some (.bool false,[]):=by
 rw[ZR,Z3,VR,aF];have key1:=fY l (fun _=>false) [] (fun m k=>kJ L D m (l.map rF) l.length k) (fun n k hk=>?_) (fun n=>?_) L 0 (by omega) (by omega)
 ·have h0:=gG (fun _:Frame=>false) (l.drop 0) 0
  have h1:(l.drop 0).any (fun _=>false)=false:=by simp
  rw[h1]at h0;rw[show((0:Nat):Int)=0 from rfl]at key1
  skip
  simp only[key1,aA,bL,gS,aI];rw[h0]
 ·show kJ L D (n+1) _ _ _=_;rw[pR];have g:iLt (k:Int) (l.length:Int)=true:=by rw[aN,ja];omega
  have a1:aG .i64 (k:Int) 1=((k+1:Nat):Int):=aO _ (by omega)
  have u:=wG (k:Int) l (by omega) (by omega)
  rw[aZ l k hk]at u;have c0:∀x:Frame,fA .i64 (aH (rF x) 0)=some x.src:=fun _=>rfl
  have c1:∀x:Frame,e6 (aH (rF x) 1)=some (bs x.key):=fun _=>rfl
  have c2:∀x:Frame,fA .i64 (aH (rF x) 2)=some x.n:=fun _=>rfl
  have c3:∀x:Frame,e6 (aH (rF x) 3)=some (bs x.text):=fun _=>rfl
  have h:=hx l[k] (jr hk);simp only[g,aC,u,aA,c0,c1,c2,c3,h,aI,aD,a1,qa,ql]
 ·show kJ L D (n+1) _ _ _=_;rw[pR];have g:iLt (l.length:Int) (l.length:Int)=false:=by rw[aN,jg];omega
  rw[g,aD]
theorem aiI(hL:1099511627776<=L)(w:World)(l:List (Wait))(hl:l.length<=1000000)(hx:∀x∈l,ev E L D 34 [.agg [.int .i64 x.who,.int .i64 x.pos,.str (bs x.leaf),.str (bs x.key)],.ptr (.imp 0) 0] [.cells (wS w)]=some (.bool false,[.cells (wS w)])):
 ev E L (D+3) 33 [.sl (l.map rWt),.fn 34 [.ptr (.imp 0) 0]] [.cells (wS w)]=some (.bool false,[.cells (wS w)]):=by
 unfold wS at hx⊢;rw[ZO,ZX,VM,aF];have key1:=fY l (fun _=>false) [.cells (wS w)] (fun m k=>kG L D m (w.seats.map rM) (w.waits.map rWt) (w.log.map rC) (w.fresh.map rI) (w.spy.map rS) (w.stolen.map rSt) (w.frames.map rF) (w.said.map rI) (w.wins.map rWs) (w.told.map rT) (l.map rWt) l.length k) (fun n k hk=>?_) (fun n=>?_) L 0 (by omega) (by omega)
 ·have h0:=gG (fun _:Wait=>false) (l.drop 0) 0
  have h1:(l.drop 0).any (fun _=>false)=false:=by simp
  rw[h1]at h0;rw[show((0:Nat):Int)=0 from rfl]at key1
  unfold wS at key1;simp only[key1,aA,bL,iQ,cM,je,jj,js,aP,aV,eY,gS,aI];rw[h0]
 ·show kG L D (n+1) _ _ _ _ _ _ _ _ _ _ _ _ _=_;rw[pO];have g:iLt (k:Int) (l.length:Int)=true:=by rw[aN,ja];omega
  have a1:aG .i64 (k:Int) 1=((k+1:Nat):Int):=aO _ (by omega)
  have u:=jJ (k:Int) l (by omega) (by omega)
  rw[aZ l k hk]at u;have c0:∀x:Wait,fA .i64 (aH (rWt x) 0)=some x.who:=fun _=>rfl
  have c1:∀x:Wait,fA .i64 (aH (rWt x) 1)=some x.pos:=fun _=>rfl
  have c2:∀x:Wait,e6 (aH (rWt x) 2)=some (bs x.leaf):=fun _=>rfl
  have c3:∀x:Wait,e6 (aH (rWt x) 3)=some (bs x.key):=fun _=>rfl
  have h:=hx l[k] (jr hk);simp only[g,aC,u,aA,c0,c1,c2,c3,h,iQ,cM,je,jj,js,aP,aV,eY,aI,aD,a1,qa,ql]
 ·show kG L D (n+1) _ _ _ _ _ _ _ _ _ _ _ _ _=_;rw[pO];have g:iLt (l.length:Int) (l.length:Int)=false:=by rw[aN,jg];omega
  rw[g,aD];rfl
theorem aiJ(hL:1099511627776<=L)(w:World)(l:List (Told))(hl:l.length<=1000000)(hx:∀x∈l,ev E L D 45 [.agg [.int .i64 x.who,.int .i64 x.pos],.ptr (.imp 0) 0] [.cells (wS w)]=some (.bool false,[.cells (wS w)])):
 ev E L (D+3) 44 [.sl (l.map rT),.fn 45 [.ptr (.imp 0) 0]] [.cells (wS w)]=some (.bool false,[.cells (wS w)]):=by
 unfold wS at hx⊢;rw[ZS,Z4,VS,aF];have key1:=fY l (fun _=>false) [.cells (wS w)] (fun m k=>kK L D m (w.seats.map rM) (w.waits.map rWt) (w.log.map rC) (w.fresh.map rI) (w.spy.map rS) (w.stolen.map rSt) (w.frames.map rF) (w.said.map rI) (w.wins.map rWs) (w.told.map rT) (l.map rT) l.length k) (fun n k hk=>?_) (fun n=>?_) L 0 (by omega) (by omega)
 ·have h0:=gG (fun _:Told=>false) (l.drop 0) 0
  have h1:(l.drop 0).any (fun _=>false)=false:=by simp
  rw[h1]at h0;rw[show((0:Nat):Int)=0 from rfl]at key1
  unfold wS at key1;simp only[key1,aA,bL,iQ,cM,je,jj,js,aP,aV,eY,gS,aI];rw[h0]
 ·show kK L D (n+1) _ _ _ _ _ _ _ _ _ _ _ _ _=_;rw[pS];have g:iLt (k:Int) (l.length:Int)=true:=by rw[aN,ja];omega
  have a1:aG .i64 (k:Int) 1=((k+1:Nat):Int):=aO _ (by omega)
  have u:=XR (k:Int) l (by omega) (by omega)
  rw[aZ l k hk]at u;have c0:∀x:Told,fA .i64 (aH (rT x) 0)=some x.who:=fun _=>rfl
  have c1:∀x:Told,fA .i64 (aH (rT x) 1)=some x.pos:=fun _=>rfl
  have h:=hx l[k] (jr hk);simp only[g,aC,u,aA,c0,c1,h,iQ,cM,je,jj,js,aP,aV,eY,aI,aD,a1,qa,ql]
 ·show kK L D (n+1) _ _ _ _ _ _ _ _ _ _ _ _ _=_;rw[pS];have g:iLt (l.length:Int) (l.length:Int)=false:=by rw[aN,jg];omega
  rw[g,aD];rfl
end
end Kw
namespace Kw
theorem FE(keys:List S)(own:List Own):∀(p:List Int) (many:Nat),wN keys own p many=true->own.length<=many+p.length
 |[],many,h=>by
  have:decide (many=own.length)=true:=h;have:=qo this;simp;omega
 |n::ns,many,h=>by
  have e:wN keys own (n::ns) many=if ix keys n=[]then wN keys own ns many else if hY own n 0<0 then false else if makKey (ix own (hY own n 0)).sec=ix keys n then wN keys own ns (many+1)else false:=rfl
  rw[e]at h;split at h
  ·have:=FE keys own ns many h;simp only[je];omega
  ·split at h
   ·cases h
   ·split at h
    ·have:=FE keys own ns (many+1) h;simp only[je];omega
    ·cases h
theorem MY{w:Int}(h:aR w):(pathOf w).length=4:=by
 obtain⟨h0,h1⟩:=h;have hall:∀k:Fin 8,(pathOf (k.val:Int)).length=4:=by decide+kernel
 have:=hall ⟨w.toNat,by omega⟩
 simpa only[vh h0]using this
theorem nE{s:S}(h:isKey s=true):secOk s=true:=by
 unfold isKey at h;cases hs:secOk s with
 |true=>rfl
 |false=>
  have:=jR.2 hs;rw[this]at h;exact absurd (qo h) (by decide)
theorem YV{s:S}{n:Int}(h:(bK s).op=n)(hn:n≠0):secOk s=true:=by
 cases hs:secOk s with
 |true=>rfl
 |false=>exact absurd (jR.2 hs) (by rw[h];exact hn)
theorem eM{ks:List S}(h:treOk ks=true):ks.length=15/\∀s∈ks,s.length<=300:=by
 unfold treOk at h;simp only[jf,ja,ko,vz]at h;refine⟨h.1,fun s hs=>?_⟩
 rcases h.2 s hs with e|e
 ·rw[e];simp
 ·exact cY (nE e)
theorem mH{m:Member}(h:memOk m=true):(m.keys.length<=15/\∀s∈m.keys,s.length<=300)/\(m.own.length<=4/\∀o∈m.own,secOk o.sec=true)/\m.init.length<=300/\m.tag.length<=300:=by
 cases hi:m.inn with
 |false=>
  unfold memOk at h;rw[hi,jd rfl]at h;obtain⟨_,h2,h3,_,h5,h6⟩:=qo h;rw[h2,h3,h5,h6];simp
 |true=>
  have h2:=h;rw[<-IY]at h2;unfold KF at h2;rw[hi]at h2;simp only[vm,ql,jf,ja]at h2;obtain⟨hw,ht,_,hin,htl,_,hg⟩:=h2;obtain⟨t1,t2⟩:=eM ht;have h4:=FE _ _ _ _ hg;rw[MY hw]at h4;refine⟨⟨by omega,t2⟩,⟨by omega,fun o ho=>?_⟩,cY hin,htl⟩
  obtain⟨_,_,hf,_⟩:=mG h hi;obtain⟨k,hk,rfl⟩:=kx.1 ho;have h1:=ko.1 hf k (qp.2 hk);unfold mM at h1;simp only[jf,ja]at h1;rw[aZ m.own k hk]at h1;exact h1.2.1
theorem MZ{c:Commit}(h:eO c=true):(c.tag.length<=300/\c.name.length<=300/\c.leaf.length<=300)/\(c.keys.length=15/\∀s∈c.keys,s.length<=300)/\(c.boxes.length<=20/\∀b∈c.boxes,b.key.length<=300/\b.sec.length<=300)/\c.wkey.length<=300/\c.wik.length<=300/\c.wis.length<=300/\c.wsk.length<=300/\c.wss.length<=300:=by
 unfold eO at h;simp only[jf,ja]at h;obtain⟨⟨_,_,h3,_,_⟩,h6,h7,h8,h9⟩:=h;have hb:∀b∈c.boxes,b.key.length<=300/\b.sec.length<=300:=fun b hb=>by
  unfold iK at h7;simp only[jf,ko]at h7;have:=h7.2 b hb;exact⟨cY this.1,cY this.2⟩
 refine⟨⟨by omega,by omega,?_⟩,eM h6,⟨h8,hb⟩,?_⟩
 ·split at h9
  ·obtain⟨e,_⟩:=qo h9;rw[e];simp
  ·simp only[jf]at h9;exact cY (nE h9.1)
 ·split at h9
  ·obtain⟨_,e1,e2,e3,e4,e5⟩:=qo h9;rw[e1,e2,e3,e4,e5];simp
  ·simp only[jf,ja]at h9;obtain⟨_,k2,⟨_,k4,k5⟩,k6,k7⟩:=h9;rw[k4,k5];exact⟨cY (nE k2),cY (nE k2),cY k6,cY (nE k2),cY k7⟩
theorem mI{f:Frame}(h:fraOk f=true):f.key.length<=300/\f.text.length<=8/\aR f.src/\1<=f.n/\f.n<=999:=by
 unfold fraOk l7 at h;simp only[jf,ja]at h;obtain⟨⟨h1,h2,_,h4,h5⟩,h6,_⟩:=h;exact⟨cY (YV h2 (by decide)),h6,h1,h4,h5⟩
theorem FF{w:Win}(h:winOk w=true):∀k:Nat,k<w.seen.length->ix w.seen (k:Int)<=w.top-k/\w.top-8<ix w.seen (k:Int)
 |0,hk=>by
  unfold winOk at h;simp only[jf,ja]at h;have e:ix w.seen ((0:Nat):Int)=w.top:=h.1.2.2.2.2;rw[e];omega
 |k+1,hk=>by
  have ih:=FF h k (by omega)
  unfold winOk at h;simp only[jf,ja,ko,qp]at h;have:=h.2 (k+1) hk;rcases this with e|⟨h1,h2,_⟩
  ·omega
  ·rw[show k+1-1=k by omega]at h1
   omega
theorem oF{w:Win}(h:winOk w=true):w.key.length<=300/\1<=w.top/\w.top<=999/\0<w.seen.length/\w.seen.length<=8:=by
 have h2:=h;unfold winOk at h2;simp only[jf,ja]at h2;obtain⟨⟨k1,k2,k3,k4,_⟩,_⟩:=h2;refine⟨cY (YV k1 (by decide)),k2,k3,qx.2 k4,?_⟩
 refine Nat.le_of_not_lt fun hlt=>?_
 have:=FF h 8 hlt;omega
theorem nT{l:List Win}(h:nS l=true){x:Win}(hx:x∈l):winOk x=true:=by
 unfold nS at h;simp only[ko,qp,jf]at h;obtain⟨k,hk,rfl⟩:=kx.1 hx;have:=(h k hk).1
 rwa [aZ l k hk]at this
structure WG(w:World):Prop extends WOk w where
 waitsLog:w.waits.length<=w.log.length
 winN:∀l∈w.wins,l.length<=w.told.length
 spyN:w.spy.length<=6*w.stolen.length
end Kw
namespace Kw
open Go Go.Proofs
theorem F4{m:Member}(h:memOk m=true):MB m:=by
 obtain⟨⟨h1,h2⟩,⟨h3,h4⟩,h5,h6⟩:=mH h;exact⟨by omega,fun s hs=>ku (h2 s hs) (by omega),by omega,fun o ho=>ku (cY (h4 o ho)) (by omega),by omega,by omega⟩
theorem F5{c:Commit}(h:eO c=true):CBd c:=by
 obtain⟨⟨h1,h2,h3⟩,⟨h4,h5⟩,⟨h6,h7⟩,h8,h9,h10,h11,h12⟩:=MZ h;exact⟨by omega,by omega,by omega,by omega,fun s hs=>ku (h5 s hs) (by omega),by omega,fun b hb=>⟨ku (h7 b hb).1 (by omega),ku (h7 b hb).2 (by omega)⟩,by omega,by omega,by omega,by omega,by omega⟩
theorem dY{A:Type} [Inhabited A]{l:List A}{n:Int}(h0:0<=n)(h1:n<l.length):ix l n∈l:=by
 obtain⟨k,rfl⟩:=kv h0;rw[aZ l k (by omega)]
 exact jr _
theorem WOk.seat{w:World}(z:WOk w){m:Member}(h:m∈w.seats):memOk m=true:=by
 obtain⟨k,hk,rfl⟩:=kx.1 h;have:=(z.mem k (by have:=z.seats;omega)).1
 rwa [aZ w.seats k hk]at this
theorem WG.sz{w:World}(z:WG w):WSzI w where
 seats:=by have:=z.seats;omega
 waits:=by have:=z.waits;omega
 log:=by have:=z.log;omega
 fresh:=by have:=z.fresh;omega
 spy:=by have:=z.spy;omega
 stolen:=by have:=z.stolen;omega
 frames:=by have:=z.frames;omega
 said:=by have:=z.said;omega
 wins:=by have:=z.wins;omega
 told:=by have:=z.told;omega
 mem:=fun m hm=>F4 (z.seat hm)
 cmt:=fun c hc=>⟨(F5 (z.logI c hc)).keys,(F5 (z.logI c hc)).boxes⟩
 win:=fun l hl=>⟨by have:=z.winN l hl;have:=z.told;omega,fun x hx=>by have:=(oF (nT (z.winsI l hl) hx)).2.2.2.2;omega⟩
section
variable (L D:Nat)
set_option maxRecDepth 4000 in
theorem TA(hL:1099511627776<=L)(w:World)(z:WG w):ev E L (D+316) 9 [.agg (wS w)] []=some (.bool true,[]):=by
 have a24:=aiB L (D+312) hL w.fresh (by have:=z.fresh;omega) (fun x hx=>by
  rw[ajX,iO];obtain⟨h0,h1⟩:=z.freshI x hx;rw[jc h0,jc h1];rfl)
 have a26:=aiC L (D+312) hL w.said (by have:=z.said;omega) (fun x hx=>by
  rw[ajZ,iO];obtain⟨h0,h1⟩:=z.saidI x hx;rw[jc h0,jc h1];rfl)
 have a28:=aiD L (D+312) hL w.wins (by have:=z.wins;omega) (fun x hx=>by
  have h:=z.winsI x hx;rw[ak0,NM L (D+4) hL x (by have:=z.winN x hx;have:=z.told;omega) (fun y hy=>by have:=oF (nT h hy);omega),h];rfl)
 have a31:=aiE L (D+312) hL w.log (by have:=z.log;omega) (fun x hx=>by
  have h:=z.logI x hx;have hc:=KY L D hL x (F5 h);rw[h]at hc;rw[ak2];change ev E L (D+311) 32 [.agg [.int .i64 x.sender,.str (bs x.tag),.str (bs x.name),.int .i64 x.add,.int .i64 x.remove,.str (bs x.leaf),.sl (x.keys.map rS),.sl (x.boxes.map rB),.str (bs x.wkey),.str (bs x.wik),.str (bs x.wis),.str (bs x.wsk),.str (bs x.wss)]] []=_ at hc;rw[hc];rfl)
 have a38:=aiF L (D+312) hL w.spy (by have:=z.spy;omega) (fun x hx=>by
  have h:=z.spyI x hx;rw[ak7,hD L (D+5) hL x (by have:=cY h;omega),h];rfl)
 have a40:=aiG L (D+312) hL w.stolen (by have:=z.stolen;omega) (fun x hx=>by
  obtain⟨h0,h1⟩:=z.stolenI x hx;rw[ak8,oK,iP,jc h0];simp only[aA,aI,bI,bW,aC,cE,aN];rw[jh (by omega)])
 have a42:=aiH L (D+312) hL w.frames (by have:=z.frames;omega) (fun x hx=>by
  have h:=z.framesI x hx;have hs:=mI h;have hf:=KZ L D hL x (by omega) (by omega)
  rw[h]at hf;change ev E L (D+311) 43 [.agg [.int .i64 x.src,.str (bs x.key),.int .i64 x.n,.str (bs x.text)]] []=_ at hf;rw[ak9,hf];rfl)
 have a34:=aiI L (D+312) hL w w.waits (by have:=z.waits;omega) (fun x hx=>by
  obtain⟨h0,⟨h1,h2⟩,h3,h4⟩:=z.waitsI x hx;unfold wS;have hl:=z.log;have es:bB .i64 (w.log.length:Int) 1=(w.log.length:Int)-1:=eL (by omega) (by omega)
  rw[ak4,oK,iP,jc h0];simp only[aA,aI,bI,bW,aC,aF,es,iO];rw[jc h1,jc (by omega:x.pos<=(w.log.length:Int)-1)]
  simp only[Bool.and_self,bI,bW,aC,hD L (D+5) hL x.leaf (by have:=cY h3;omega),hD L (D+5) hL x.key (by have:=cY h4;omega),h3,h4,aA,aI])
 have a45:=aiJ L (D+312) hL w w.told (by have:=z.told;omega) (fun x hx=>by
  obtain⟨h0,h1,h2⟩:=z.toldI x hx;unfold wS;have hl:=z.frames;have es:bB .i64 (w.frames.length:Int) 1=(w.frames.length:Int)-1:=eL (by omega) (by omega)
  rw[akB,oK,iP,jc h0];simp only[aA,aI,bI,bW,aC,aF,es,iO];rw[jc h1,jc (by omega:x.pos<=(w.frames.length:Int)-1)]
  rfl)
 unfold wS at a34 a45⊢;have g1:∀(a b:Nat),a<=b->bNot (iLt (b:Int) (a:Int))=true:=fun a b h=>by rw[FY];exact jc (by omega)
 have e1:=z.seats;have e2:=z.fresh;have e3:=z.said;have e4:=z.wins;have h5:=g1 _ 16 z.log;have h6:=g1 _ 16 z.waits;have h7:=g1 _ 40 z.frames;have h8:=g1 _ 12 z.stolen;have h9:=g1 _ 72 z.spy;have h10:iLt 320 (w.told.length:Int)=false:=by rw[aN];exact jh (by have:=z.told;omega)
 have k1:iEq (w.seats.length:Int) 8=true:=by rw[e1];rfl
 have k2:iEq (w.fresh.length:Int) 8=true:=by rw[e2];rfl
 have k3:iEq (w.said.length:Int) 8=true:=by rw[e3];rfl
 have k4:iEq (w.wins.length:Int) 8=true:=by rw[e4];rfl
 rw[am8];simp only[aF,k1,k2,k3,k4,bI,bW,aC,show∀n:Nat,iLt 16 (n:Int)=iLt ((16:Nat):Int) n from fun _=>rfl,show∀n:Nat,iLt 40 (n:Int)=iLt ((40:Nat):Int) n from fun _=>rfl,show∀n:Nat,iLt 12 (n:Int)=iLt ((12:Nat):Int) n from fun _=>rfl,show∀n:Nat,iLt 72 (n:Int)=iLt ((72:Nat):Int) n from fun _=>rfl,h5,h6,h7,h8,h9,h10,aD]
 refine Eq.trans (dW w.seats.length (fun _=>true) (fun m k=>wU L (D+315) m (w.seats.map rM) (w.waits.map rWt) (w.log.map rC) (w.fresh.map rI) (w.spy.map rS) (w.stolen.map rSt) (w.frames.map rF) (w.said.map rI) (w.wins.map rWs) (w.told.map rT) (w.seats.map rM) w.seats.length k) (some (.bool true,[])) none (fun n k hk=>?_) (fun n=>?_) L 0 (by omega) (by omega)) (by simp)
 ·show wU L (D+315) (n+1) _ _ _ _ _ _ _ _ _ _ _ _ _=_;rw[CB,jd rfl];have g:iLt (k:Int) (w.seats.length:Int)=true:=by rw[aN,ja];omega
  have a1:aG .i64 (k:Int) 1=((k+1:Nat):Int):=aO _ (by omega)
  have u:=cJ (k:Int) w.seats (by omega) (by omega)
  obtain⟨hm,hwho⟩:=z.mem k (by omega)
  have h1:=rH L (D+4) hL (ix w.seats (k:Int)) (F4 hm);rw[hm]at h1;generalize ix w.seats (k:Int)=q at u h1 hwho;obtain⟨b,wh,ks,own,e,i,t⟩:=q;change aL 7 (w.seats.map rM) (k:Int)=some [.bool b,.int .i64 wh,.sl (ks.map rS),.sl (own.map rO),.int .i64 e,.str (bs i),.str (bs t)]at u;change ev E L (D+315) 22 [.agg [.bool b,.int .i64 wh,.sl (ks.map rS),.sl (own.map rO),.int .i64 e,.str (bs i),.str (bs t)]] []=_ at h1;simp only[g,aC,u,aA,aP,aV,aI,bL,eY,bM,h1,bI,bW,a1];cases b with
  |false=>rw[aD]
  |true=>
   have:wh=(k:Int):=hwho rfl;rw[aC,this,aU,bI,aD]
 ·show wU L (D+315) (n+1) _ _ _ _ _ _ _ _ _ _ _ _ _=_;rw[CB];have g:iLt (w.seats.length:Int) (w.seats.length:Int)=false:=by rw[aN,jg];omega
  simp only[g,aD,a24,a26,a28,a31,a38,a40,a42,a34,a45,aA,aI,bW,aC,iQ,cM,je,jj,js,aP,aV,eY]
end
end Kw
namespace Kw
open Go Go.Proofs
theorem I8:∀l:List Int,EJ (l.map rI)=some l
 |[]=>rfl
 |n::r=>by
  show(EJ (r.map rI)).bind (fun l=>some (n::l))=some (n::r)
  rw[I8 r];rfl
section
variable (L D:Nat)
theorem aiK(w:Win)(hw:winOk w=true)(n:Int)(h1:1<=n)(h2:n<=999):ev E L (D+1) 205 [.agg [.str (bs w.key),.int .i64 w.top,.sl (w.seen.map rI)],.int .i64 n] []=
 some (match winTake w n with|some x=>(.tup [.agg (rW x),.bool true],[])|none=>(.tup [.agg [.str (bs w.key),.int .i64 (max w.top n),.sl (w.seen.map rI)],.bool false],[])):=by
 obtain⟨_,t1,t2,s1,s2⟩:=oF hw;have h:E.ext 205=some BM:=rfl;have h3:BM [.agg [.str (bs w.key),.int .i64 w.top,.sl (w.seen.map rI)],.int .i64 n]=some (match winTake w n with|some x=>.tup [.agg (rW x),.bool true]|none=>.tup [.agg [.str (bs w.key),.int .i64 (max w.top n),.sl (w.seen.map rI)],.bool false]):=by
  unfold BM;simp only;rw[I8];simp only[jv];rw[jd ⟨qx.1 s1,by omega,by omega,by omega,by omega,by omega⟩,B7]
  by_cases hb:n∈w.seen\/n<=w.top-8
  ·rw[jd hb,jd hb]
  ·rw[jb hb,jb hb]
   rfl
 unfold ev;simp only[h,h3];cases winTake w n<;>rfl
theorem aaF(hL:1099511627776<=L)(m:Member)(hm:memOk m=true)(wins:List Win)(hw:nS wins=true)(hl:wins.length<=1000)(f:Frame)(hf:fraOk f=true):
 ev E L (D+313) 119 [.agg (rM m),.sl (wins.map rW),.agg (rF f)] []=some (match mN m wins f with|some x=>(.tup [.sl (x.map rW),.bool true],[])|none=>(.tup [.sl (wins.map rW),.bool false],[])):=by
 have hmo:=rH L (D+1) hL m (F4 hm);have hfo:=KZ L (D+1) hL f (by have:=mI hf;omega) (by have:=mI hf;omega)
 obtain⟨_,_,hfw,f1,f2⟩:=mI hf;have hmk:=fun hi=>mG hm hi
 have hinit:=(mH hm).2.2.1;have e0:(match mN m wins f with|some x=>((.tup [.sl (x.map rW),.bool true],[]):MV×List Obj)|none=>(.tup [.sl (wins.map rW),.bool false],[]))=if tC m f=true then(if winAt wins f.key 0<0 then(.tup [.sl ((wins++[(⟨f.key,f.n,[f.n]⟩:Win)]).map rW),.bool true],[])else match winTake (ix wins (winAt wins f.key 0)) f.n with|some x=>(.tup [.sl ((wins.set (winAt wins f.key 0).toNat x).map rW),.bool true],[])|none=>(.tup [.sl (wins.map rW),.bool false],[]))else(.tup [.sl (wins.map rW),.bool false],[]):=by
  unfold mN;simp only;by_cases h1:tC m f=true
  ·rw[jd h1,jd h1];by_cases h2:winAt wins f.key 0<0
   ·rw[jd h2,jd h2]
   ·rw[jb h2,jb h2];cases winTake (ix wins (winAt wins f.key 0)) f.n<;>rfl
  ·rw[jb h1,jb h1]
 rw[e0];unfold tC;obtain⟨b,w,ks,own,e,i,t⟩:=m;obtain⟨src,key,n,text⟩:=f;simp only at hfw f1 f2 hmk hinit;rw[hm]at hmo;rw[hf]at hfo;change ev E L (D+312) 22 [.agg [.bool b,.int .i64 w,.sl (ks.map rS),.sl (own.map rO),.int .i64 e,.str (bs i),.str (bs t)]] []=_ at hmo;change ev E L (D+312) 43 [.agg [.int .i64 src,.str (bs key),.int .i64 n,.str (bs text)]] []=_ at hfo;show ev E L (D+313) 119 [.agg [.bool b,.int .i64 w,.sl (ks.map rS),.sl (own.map rO),.int .i64 e,.str (bs i),.str (bs t)],.sl (wins.map rW),.agg [.int .i64 src,.str (bs key),.int .i64 n,.str (bs text)]] []=_;have hwm:=fun x hx=>oF (nT (x:=x) hw hx)
 have hwo:=NM L (D+5) hL wins (by omega) (fun x hx=>by have:=hwm x hx;omega)
 rw[hw]at hwo;have hcp:=S8 L (D+310) hL wins (by omega) (fun x hx=>by have:=hwm x hx;omega)
 rw[afD,hmo];simp only[aA,aI,bI,bW,aC,aD,hwo,hcp,eC,aU];refine jT fun hb=>?_
 subst hb;obtain⟨hww,hkl,_⟩:=hmk rfl;rw[hfo,hf];simp only[aA,aI,bI,bW,aC,jw];have en:bNot (iEq src w)=decide (src≠w):=by rw[cK,bD]
 rw[en];refine K2 fun hne=>?_
 rw[NU L (D+309) ks hkl src,jc hfw,jw];simp only[aA,aI];refine jT fun hle=>?_
 have hms:=NS L (D+4) hL i src (by omega)
 simp only[hms,aA,bM,dH];by_cases hk:key=eE i src
 case neg=>rw[jh hk];rfl
 rw[jc hk,bI,aD,jd rfl,S7 L (D+309) hL wins key (by omega)]
 simp only[aA,bL];rw[aN];rcases idxP_cases (fun w:Win=>decide (w.key=key)) wins 0 with⟨j,hj,hat,_⟩|hat
 ·rw[DA,hat,jh (by omega),aD,jb (by omega)]
  have u:=oP ((0+j:Nat):Int) wins (by omega) (by omega)
  have u2:=CU wins ((0+j:Nat):Int) (by omega) (by omega)
  have hmem:ix wins ((0+j:Nat):Int)∈wins:=dY (by omega) (by omega)
  have hok:=nT hw hmem;generalize ix wins ((0+j:Nat):Int)=x at u u2 hok⊢;have c0:∀o:Win,e6 (aH (rW o) 0)=some (bs o.key):=fun _=>rfl
  have c1:∀o:Win,fA .i64 (aH (rW o) 1)=some o.top:=fun _=>rfl
  have c2:∀o:Win,gSl (aH (rW o) 2)=some (o.seen.map rI):=fun _=>rfl
  have htk:=aiK L (D+311) x hok n f1 f2;simp only[u,aA,c0,c1,c2,htk];cases hwt:winTake x n with
  |none=>rfl
  |some y=>
   have ga:bE 3 (.agg (rW y))=some (rW y):=rfl;have lr:iLe 3 (cA (rW x))=true:=rfl;have sr:setRow (rW x) 0 [MV.str (bs y.key),.int .i64 y.top,.sl (y.seen.map rI)]=rW y:=rfl;have st:setR (wins.map rW) ((0+j:Nat):Int) (rW y)=(wins.set (((0+j:Nat):Int)).toNat y).map rW:=fT rW _ _ _;simp only[gTupN_if,je,jj,js,aA,aP,aV,ga,c0,c1,c2,aI,aC,u2,lr,sr,st,aF,kf,aU]
 ·rw[DA,hat,jc (by omega),aC,jd (by omega)]
  have er:[[MV.str (bs key),.int .i64 n,.sl [[MV.int .i64 n]]]]=[rW (⟨key,n,[n]⟩:Win)]:=rfl;have q1:okR 3 [rW (⟨key,n,[n]⟩:Win)]=true:=rfl;have q2:bH (wins.length:Int) (nrows [rW (⟨key,n,[n]⟩:Win)]) 48=true:=aJ _ _ _ (by show((wins.length:Int)+1)*48<=_;omega)
  have q3:aM (wins.map rW) [rW (⟨key,n,[n]⟩:Win)]=(wins++[(⟨key,n,[n]⟩:Win)]).map rW:=dD rW wins _;have hc:=dX L (D+311) (F:=189) (sz:=3) rfl ((wins++[(⟨key,n,[n]⟩:Win)]).map rW) (ED _) (by rw[kb,jk];simp;omega)
  simp only[er,aC,aF,ED,q1,q2,q3,dE,hc,aA,eC]
end
end Kw
namespace Kw
open Go Go.Proofs
theorem NP(l:List Int)(i j v:Int)(P:Int->Prop)(hl:∀x∈l,P x)(hv:P v)(h0:0<=j)(h1:j<l.length):P (ix (eI l i v) j):=by
 have hm:ix (eI l i v) j∈eI l i v:=dY h0 (by unfold eI;rw[kf];exact h1)
 rcases qw hm with h|h
 ·exact hl _ h
 ·rw[h];exact hv
theorem AY(w n:Int):(bP w n).length<=300:=by
 unfold bP;split
 ·rename_i h;rw[wW (by omega) (by omega)]
  unfold CO;split<;>simp[xY]
 ·simp
section
variable (L D:Nat)
theorem V6(hL:1099511627776<=L)(w:World)(z:WG w)(e:Event)(hw:aR e.who)(ha: -1<=e.add/\e.add<=7)(lf ky:S)(X:World)(hX:X=commitEnd w e lf ky):
 (∃m f,ix w.seats e.who=m/\ix w.fresh e.who=f/\(0<=f/\f<=99)/\
  ((fC m (bP e.who (f+1)) e.add e.remove (makKey lf) (makKey ky)=none/\X=w/\ev E L (D+312) 190 [.agg [.bool m.inn,.int .i64 m.who,.sl (m.keys.map rS),.sl (m.own.map rO),.int .i64 m.epoch,.str (bs m.init),.str (bs m.tag)],.str (bs (bP e.who (f+1))),.int .i64 e.add,.int .i64 e.remove,.str (bs (makKey lf)),.str (bs (makKey ky))] []=some (.tup [.agg (rM cI),.agg (rC o9),.bool false],[]))\/
   ∃x c,fC m (bP e.who (f+1)) e.add e.remove (makKey lf) (makKey ky)=some (x,c)/\X={w with seats:=eI w.seats e.who x,log:=w.log++[c],fresh:=if 0<=e.add then eI (eI w.fresh e.who (f+1)) e.add (ix (eI w.fresh e.who (f+1)) e.add+2)else eI w.fresh e.who (f+1),waits:=if 0<=e.add then w.waits++[⟨e.add,w.log.length,lf,ky⟩]else w.waits}/\
    ev E L (D+312) 190 [.agg [.bool m.inn,.int .i64 m.who,.sl (m.keys.map rS),.sl (m.own.map rO),.int .i64 m.epoch,.str (bs m.init),.str (bs m.tag)],.str (bs (bP e.who (f+1))),.int .i64 e.add,.int .i64 e.remove,.str (bs (makKey lf)),.str (bs (makKey ky))] []=some (.tup [.agg (rM x),.agg (rC c),.bool true],[]))):=by
 have w1:e.who<w.seats.length:=by have:=hw.2;have:=z.seats;omega
 have w2:e.who<w.fresh.length:=by have:=hw.2;have:=z.fresh;omega
 have hm:=z.seat (dY hw.1 w1);refine⟨_,_,rfl,rfl,z.freshI _ (dY hw.1 w2),?_⟩;subst hX;unfold commitEnd;have h:=NK L D hL (ix w.seats e.who) (F4 hm) (bP e.who (ix w.fresh e.who+1)) e.add e.remove (makKey lf) (makKey ky) (ku (AY _ _) (by omega)) (ku (F8 _) (by omega)) (ku (F8 _) (by omega))
 unfold fC;by_cases h2:cT (ix w.seats e.who) (bP e.who (ix w.fresh e.who+1)) e.add e.remove (makKey lf) (makKey ky)=true
 ·right;rw[jd h2]at h⊢;exact⟨_,_,rfl,rfl,h⟩
 ·left;rw[jb h2]at h⊢;exact⟨rfl,rfl,h⟩
theorem aaG(hL:1099511627776<=L)(w:World)(z:WG w)(e:Event)(hw:aR e.who):ev E L (D+313) 115 [.ptr (.imp 0) 0,.agg [.int .i64 e.kind,.int .i64 e.who,.int .i64 e.add,.int .i64 e.remove,.int .i64 e.pos,.str (bs e.text)]] [.cells (wK w)]=some (.tup [],[.cells (wK (cU w e))]):=by
 unfold wK;rw[afA];have zf:=z.fresh;have zl:=z.log;have zw:=z.waits;have zs:=z.seats;have w0:=hw.1;have w1:e.who<w.seats.length:=by have:=hw.2;omega
 have w2:e.who<w.fresh.length:=by have:=hw.2;omega
 have hcm:=fun ha lf ky=>V6 L D hL w z e hw ha lf ky (commitEnd w e lf ky) rfl
 obtain⟨f0,f1⟩:=z.freshI _ (dY w0 w2);unfold cU;by_cases h16:w.log.length=16
 ·have h':(w.log.length:Int)=16:=by omega
  have hd:decide (¬(w.log.length:Int)=16)=false:=jh (fun x=>x h')
  rw[jd (.inl h16)];simp(disch:=omega) only[K1,JP_115_5_eq,bD,↓aB,hd]
 have h16':¬(w.log.length:Int)=16:=by omega
 generalize hf:ix w.fresh e.who=f at f0 f1 hcm;by_cases h99:99<=f
 ·rw[jd (.inr (.inl h99))];simp(disch:=omega) only[K1,JP_115_5_eq,↓aB,eK,cG,bR,h16',hf,h99]
 by_cases ha: -1<=e.add/\e.add<=7
 case neg=>
  rw[jd (.inr (.inr (.inl ha)))];have:(decide (-1<=e.add)&&decide (e.add<=7))=false:=by
   rw[qu];intro h;simp only[JP_115_5_eq,jf,ja]at h;exact ha h
  simp(disch:=omega) only[K1,JP_115_5_eq,Int.reduceNeg,↓aB,eK,cG,bR,h16',hf,h99,iO,this]
 obtain⟨ha1,ha2⟩:=id ha;have mk0:makKey []=[]:=rfl;have hin:(decide (-1<=e.add)&&decide (e.add<=7))=true:=by rw[jc ha1,jc ha2];rfl
 have mkn:=fun w n=>F7 L (D+309) w n
 have mkk:=fun s h=>nY L (D+4) hL s h
 by_cases h0:0<=e.add
 ·have w3:e.add<w.fresh.length:=by omega
  obtain⟨g0,g1⟩:=z.freshI _ (dY h0 w3);by_cases h98:98<=ix w.fresh e.add
  ·rw[jd (.inr (.inr (.inr ⟨h0,h98⟩)))];simp(disch:=omega) only[K1,JP_115_5_eq,Int.reduceNeg,↓aB,eK,cG,bR,h16',hf,h99,iO,hin,h0,h98]
  ·rw[jb (fun x=>x.elim h16 fun x=>x.elim h99 fun x=>x.elim (fun y=>y ha) fun y=>h98 y.2),jd h0]
   have hr:=NP w.fresh e.who e.add (f+1) (fun x=>0<=x/\x<=1000) (fun x hx=>by have:=z.freshI x hx;omega) (by omega) h0 (by omega)
   unfold eI at hr;obtain⟨r0,r1⟩:=hr;have w4:e.add< (w.fresh.set e.who.toNat (f+1)).length:=by rw[kf];omega
   have n1:=AY e.add (ix w.fresh e.add+1);have n2:=AY e.add (ix w.fresh e.add+2);obtain⟨m,f',hm,hf',_,hcs⟩:=hcm ha (bP e.add (ix w.fresh e.add+1)) (bP e.add (ix w.fresh e.add+2));have:f'=f:=hf'.symm;subst this;rcases hcs with⟨_,hX,h⟩|⟨x,c,_,hX,h⟩
   ·rw[hX];simp only[JP_115_5_eq,rM,rC]at h;simp(disch:=omega) only[K1,JP_115_5_eq,Int.reduceNeg,Nat.reduceAdd,↓aB,eK,cG,bR,gI,iS,iT,iU,iV,iW,iX,cB,cJ,h16',hm,hf,h99,iO,hin,h0,h98,bT,mkn,mkk,h]
   ·rw[hX];simp only[JP_115_5_eq,rM,rC]at h;have e2:(⟨x.inn,x.who,x.keys,x.own,x.epoch,x.init,x.tag⟩:Member)=x:=rfl;have e3:(⟨c.sender,c.tag,c.name,c.add,c.remove,c.leaf,c.keys,c.boxes,c.wkey,c.wik,c.wis,c.wsk,c.wss⟩:Commit)=c:=rfl;simp(disch:=omega) only[K1,JP_115_5_eq,jt,bJ,aW,Int.reduceLE,Int.reduceNeg,Nat.reduceAdd,IC,AD,bS,bF,↓aB,eK,dU,dV,cG,jB,bR,gI,iS,iT,iU,iV,iW,iX,gR,cS,cB,oZ,cJ,EC,JX,h16',hm,hf,h99,iO,hin,h0,h98,bT,mkn,mkk,h,e2,e3,aJ,kf]
    rfl
 ·rw[jb (fun x=>x.elim h16 fun x=>x.elim h99 fun x=>x.elim (fun y=>y ha) fun y=>h0 y.1),jb h0]
  obtain⟨m,f',hm,hf',_,hcs⟩:=hcm ha [] [];have:f'=f:=hf'.symm;subst this;have mkk0:=mkk [] (by simp)
  rcases hcs with⟨_,hX,h⟩|⟨x,c,_,hX,h⟩
  ·rw[hX];simp only[JP_115_5_eq,rM,rC]at h;simp(disch:=omega) only[K1,JP_115_5_eq,Int.reduceNeg,Nat.reduceAdd,↓aB,eK,cG,bR,gI,iS,iT,iU,iV,iW,iX,cB,cJ,h16',hm,hf,h99,iO,hin,h0,bT,mkn,mkk0,h]
  ·rw[hX];simp only[JP_115_5_eq,rM,rC]at h;have e2:(⟨x.inn,x.who,x.keys,x.own,x.epoch,x.init,x.tag⟩:Member)=x:=rfl;have e3:(⟨c.sender,c.tag,c.name,c.add,c.remove,c.leaf,c.keys,c.boxes,c.wkey,c.wik,c.wis,c.wsk,c.wss⟩:Commit)=c:=rfl;simp(disch:=omega) only[K1,JP_115_5_eq,jt,bJ,aW,Int.reduceLE,Int.reduceNeg,Nat.reduceAdd,IC,bS,bF,↓aB,eK,dU,dV,cG,jB,bR,gI,iS,iT,iU,iV,iW,iX,gR,cS,cB,oZ,cJ,EC,h16',hm,hf,h99,iO,hin,h0,bT,mkn,mkk0,h,e2,e3,aJ,kf]
   rfl
end
end Kw
namespace Kw
open Go Go.Proofs
theorem NQ{A:Type} [Inhabited A](l:List A)(k:Nat)(h:k<l.length):l.drop k=ix l (k:Int)::l.drop (k+1):=by
 rw[aZ l k h];exact kz h
theorem DB(r:List Row):w8 (.ownK r)=some r:=(rfl)
section
variable (L D:Nat)
theorem alH(l:List Wait)(k:Nat)(hk:k<l.length):ev E L (D+1) 203 [.ownK (l.map rWt),.int .i64 (k:Int),.int .i64 ((k+1:Nat):Int)] []=some (.ownK ((l.eraseIdx k).map rWt),[]):=by
 have h:E.ext 203=some OZ:=rfl;have h2:OZ [.ownK (l.map rWt),.int .i64 (k:Int),.int .i64 ((k+1:Nat):Int)]=some (.ownK ((l.eraseIdx k).map rWt)):=by
  unfold OZ;simp only;rw[AD,jc (by rw[kb];omega),Bool.and_self,jd rfl,ki,ki,List.eraseIdx_eq_take_drop_succ,List.map_append,List.map_take,List.map_drop]
 unfold ev;simp only[h,h2]
 rfl
theorem ad1(hL:1099511627776<=L)(w:World)(z:WG w)(who pos kind add remove:Int)(text:ByteArray)(hw:aR who)(hp:0<=pos/\pos<w.log.length):∀(n k:Nat),w.waits.length-k<n->k<=w.waits.length->
 pG L (D+314) n (w.seats.map rM) (w.log.map rC) (w.fresh.map rI) (w.spy.map rS) (w.stolen.map rSt) (w.frames.map rF) (w.said.map rI) (w.wins.map rWs) (w.told.map rT) (w.waits.map rWt) (w.seats.length:Nat) (w.waits.length:Nat) (w.log.length:Nat) (w.fresh.length:Nat) (w.spy.length:Nat) (w.stolen.length:Nat) (w.frames.length:Nat) (w.said.length:Nat) (w.wins.length:Nat) (w.told.length:Nat) kind who add remove pos text (w.waits.length:Nat) (w.waits.length:Nat) k=some (.tup [],[.cells (wK (joinGo w who pos (w.waits.drop k) k))]):=by
 intro n;induction n with
 |zero=>intro k h;omega
 |succ n ih=>
  intro k hn hk;rw[GS];have z1:=z.waits;have z8:=z.seats;have w0:=hw.1;have w1:who<w.seats.length:=by have:=hw.2;omega
  have p0:=hp.1;have p1:=hp.2;by_cases h:k<w.waits.length
  case neg=>
   have h':¬(k:Int)<w.waits.length:=by omega
   simp(disch:=omega) only[K1,↓aB,h'];rw[jm (by omega)];rfl
  have h':(k:Int)<w.waits.length:=by omega
  have next:=ih (k+1) (by omega) (by omega)
  rw[NQ w.waits k h,joinGo];have hxm:ix w.waits (k:Int)∈w.waits:=dY (by omega) (by omega)
  generalize hx:ix w.waits (k:Int)=x at hxm;obtain⟨_,_,x3,x4⟩:=z.waitsI x hxm;by_cases h1:x.who=who
  case neg=>
   rw[jb (fun y=>h1 y.1)]
   simp(disch:=omega) only[K1,↓aB,sP,sQ,sR,sS,jC,jJ,h',hx,h1,aO,next]
  have hd1:decide (x.who=who)=true:=jc h1;by_cases h2:x.pos=pos
  case neg=>
   rw[jb (fun y=>h2 y.2)]
   simp(disch:=omega) only[K1,↓aB,sP,sQ,sR,sS,jC,jJ,h',hx,hd1,h2,aO,next]
  have hd2:decide (x.pos=pos)=true:=jc h2;rw[jd ⟨h1,h2⟩];have hco:=z.logI _ (dY p0 p1);have q0:0<=x.pos:=by omega
  have q1:x.pos<w.log.length:=by omega
  generalize hc:ix w.log pos=c at hco;have hc':ix w.log x.pos=c:=by rw[h2,hc]
  have hj:=V2 L D hL who x.leaf x.key c (F5 hco) (by have:=cY x3;omega) (by have:=cY x4;omega)
  have e2:(⟨c.sender,c.tag,c.name,c.add,c.remove,c.leaf,c.keys,c.boxes,c.wkey,c.wik,c.wis,c.wsk,c.wss⟩:Commit)=c:=rfl;have hdel:=alH L (D+313) w.waits k h;cases hm:iL who x.leaf x.key c with
  |none=>
   rw[hm]at hj;simp only[rM,rC]at hj;simp(disch:=omega) only[K1,Int.reduceLE,Nat.reduceAdd,↓aB,gR,cS,cB,oZ,cJ,D2,D3,D4,D5,D6,D7,D8,D9,EA,EB,sM,sN,sO,lY,lP,sP,sQ,sR,sS,jC,jJ,h',hx,hd2,h1,hc',hj,aO,next]
  |some m=>
   rw[hm]at hj;simp only[rM,rC]at hj;have e3:(⟨m.inn,m.who,m.keys,m.own,m.epoch,m.init,m.tag⟩:Member)=m:=rfl;simp(disch:=omega) only[K1,Int.reduceLE,Nat.reduceAdd,↓aB,gR,cS,cB,oZ,cJ,D2,D3,D4,D5,D6,D7,D8,D9,EA,EB,sM,sN,sO,lY,lP,sP,sQ,sR,sS,jC,jJ,h',hx,hd2,h1,hc',hj,e3,kf,aO,hdel,DB]
   rfl
theorem aiL(hL:1099511627776<=L)(w:World)(z:WG w)(e:Event)(hw:aR e.who)(hp:0<=e.pos/\e.pos<w.log.length):ev E L (D+315) 117 [.ptr (.imp 0) 0,.agg [.int .i64 e.kind,.int .i64 e.who,.int .i64 e.add,.int .i64 e.remove,.int .i64 e.pos,.str (bs e.text)]] [.cells (wK w)]=some (.tup [],[.cells (wK (d8 w e.who e.pos))]):=by
 unfold wK;rw[afB];have z8:=z.seats;have z1:=z.waits;have w0:=hw.1;have w1:e.who<w.seats.length:=by have:=hw.2;omega
 unfold d8;have hl:=ad1 L D hL w z e.who e.pos e.kind e.add e.remove (bs e.text) hw hp L 0 (by omega) (by omega)
 generalize hm:ix w.seats e.who=m;cases hi:m.inn with
 |true=>simp(disch:=omega) only[K1,↓aB,gI,cB,cJ,hm,hi]
 |false=>
  simp(disch:=omega) only[K1,↓aB,gI,cB,cJ,hm,hi];exact hl
end
end Kw
namespace Kw
open Go Go.Proofs
section
variable (L D:Nat)
set_option maxRecDepth 4000 in
theorem aiM(hL:1099511627776<=L)(w:World)(z:WG w)(e:Event)(ht:e.text.length<=500000):ev E L (D+316) 62 [.ptr (.imp 0) 0,.agg [.int .i64 e.kind,.int .i64 e.who,.int .i64 e.add,.int .i64 e.remove,.int .i64 e.pos,.str (bs e.text)]] [.cells (wK w)]=some (.tup [],[.cells (wK (step w e))]):=by
 have hjo:=fun hw hp=>aiL L D hL w z e hw hp
 have hcm:=fun hw=>aaG L (D+2) hL w z e hw
 unfold wK at hjo hcm⊢;rw[akI,oK,iP];unfold step;by_cases hw:aR e.who
 case neg=>
  rw[jb hw,jh hw];simp(disch:=omega) only[K1,dR,↓aB]
 rw[jd hw,jc hw];have hcm:=hcm hw;have hjo:=hjo hw;have z8:=z.seats;have zs:=z.said;have zw:=z.wins;have zl:=z.log;have zf:=z.frames;have zt:=z.told;have zp:=z.spy;have zq:=z.stolen;have zg:=z.waits;have w0:=hw.1;have w1:e.who<w.seats.length:=by have:=hw.2;omega
 have w2:e.who<w.said.length:=by have:=hw.2;omega
 have w3:e.who<w.wins.length:=by have:=hw.2;omega
 have hmo:=z.seat (dY w0 w1);obtain⟨s0,s1⟩:=z.saidI _ (dY w0 w2);have hll:bB .i64 (w.log.length:Int) 1=(w.log.length:Int)-1:=eL (by omega) (by omega)
 have hff:bB .i64 (w.frames.length:Int) 1=(w.frames.length:Int)-1:=eL (by omega) (by omega)
 by_cases k1:e.kind=1
 ·have hd:decide (e.kind=1)=true:=jc k1;rw[jd k1];simp(disch:=omega) only[K1,iQ,dR,cM,Nat.reduceAdd,↓aB,cJ,iO,hll,hff,hd,hcm,DB]
 rw[jb k1];by_cases k4:e.kind=4
 ·have hd:decide (e.kind=4)=true:=jc k4;have k2:¬e.kind=2:=by omega
  have k3:¬e.kind=3:=by omega
  have k5:¬e.kind=5:=by omega
  have k6:¬e.kind=6:=by omega
  rw[jd k4];unfold dP;have hkn:=QC L (D+3) hL (ix w.seats e.who) (F4 hmo);have hkl:(fW (ix w.seats e.who)).length<=5:=by
   unfold fW;split
   ·have:=(mH hmo).2.1.1;simp;omega
   ·simp
  generalize hm:ix w.seats e.who=m at hkn hkl;simp only[rM]at hkn;cases hi:m.inn with
  |false=>
   rw[jd (.inl rfl)];simp(disch:=omega) only[K1,dR,jt,dE,aW,Int.reduceLE,Nat.reduceAdd,gF,lK,AE,lL,bS,bF,↓aB,eK,dU,dV,cG,jB,bR,gI,iS,iT,iU,iV,iW,iX,cS,cB,cJ,lJ,eA,eP,eW,CV,iY,iO,hll,hff,hd,k1,k2,k3,k5,k6,dF,dG,dM,dN,hm,hi]
  |true=>
   rw[hi]at hkn;by_cases h12:w.stolen.length=12
   ·have h':¬(w.stolen.length:Int)<12:=by omega
    rw[jd (.inr h12)];simp(disch:=omega) only[K1,dR,jt,dE,aW,Int.reduceLE,Nat.reduceAdd,lK,lL,bS,bF,↓aB,eK,dU,dV,cG,jB,bR,gI,iS,iT,iU,iV,iW,iX,cS,cB,cJ,lJ,eA,eP,eW,iY,iO,hll,hff,hd,k1,k2,k3,k5,k6,dF,dG,dM,dN,hm,hi,h']
   ·have h':(w.stolen.length:Int)<12:=by omega
    rw[jb (fun x=>x.elim (fun y=>by cases y) h12)]
    simp(disch:=omega) only[K1,dR,jt,bJ,aW,eG,Int.reduceLE,Nat.reduceAdd,gF,lK,AE,lL,bS,bF,↓aB,eK,dU,dV,cG,jB,bR,gI,iS,iT,iU,iV,iW,iX,cS,cB,cJ,lJ,eA,eP,eW,CV,iY,iO,hll,hff,hd,k1,k2,k3,k5,k6,dF,dG,dM,dN,hm,hi,h',hkn,aJ]
 rw[jb k4];by_cases k5:e.kind=5
 ·have hd:decide (e.kind=5)=true:=jc k5;have k2:¬e.kind=2:=by omega
  have k3:¬e.kind=3:=by omega
  have k6:¬e.kind=6:=by omega
  rw[jd k5];unfold fJ;by_cases h40:w.frames.length=40
  ·have h':¬(w.frames.length:Int)<40:=by omega
   rw[jd (.inl h40)];simp(disch:=omega) only[K1,dR,jt,dE,aW,Int.reduceLE,Nat.reduceAdd,lK,lL,bS,bF,↓aB,eK,dU,dV,cG,jB,bR,gI,iS,iT,iU,iV,iW,iX,cS,cB,cJ,lJ,eA,eP,eW,iY,iO,hll,hff,hd,k1,k2,k3,k4,k6,dF,dG,dM,dN,h']
  have h':(w.frames.length:Int)<40:=by omega
  generalize hs:ix w.said e.who=n at s0 s1;by_cases h999:n=999
  ·have h2:¬n<999:=by omega
   rw[jd (.inr h999)];simp(disch:=omega) only[K1,dR,jt,dE,aW,Int.reduceLE,Nat.reduceAdd,lK,lL,bS,bF,↓aB,eK,dU,dV,cG,jB,bR,gI,iS,iT,iU,iV,iW,iX,cS,cB,cJ,lJ,eA,eP,eW,iY,iO,hll,hff,hd,k1,k2,k3,k4,k6,dF,dG,dM,dN,h',hs,h2]
  have h2:n<999:=by omega
  rw[jb (fun x=>x.elim h40 h999)]
  have hfm:=V3 L (D+1) hL (ix w.seats e.who) (F4 hmo) (n+1) e.text ht;generalize hm:ix w.seats e.who=m at hfm;cases hr:jN m (n+1) e.text with
  |none=>
   rw[hr]at hfm;simp only[rM]at hfm;simp(disch:=omega) only[K1,dR,jt,dE,aW,Int.reduceLE,Nat.reduceAdd,lK,lL,bS,bF,↓aB,eK,dU,dV,cG,jB,bR,gI,iS,iT,iU,iV,iW,iX,cS,cB,cJ,JV,lJ,eA,eP,eW,iY,iO,hll,hff,hd,k1,k2,k3,k4,k6,dF,dG,dM,dN,h',hs,h2,hm,bT,hfm]
  |some f=>
   rw[hr]at hfm;simp only[rM,rF]at hfm;have e3:(⟨f.src,f.key,f.n,f.text⟩:Frame)=f:=rfl;simp(disch:=omega) only[K1,dR,jt,bJ,aW,Int.reduceLE,Nat.reduceAdd,lK,lL,bS,bF,↓aB,eK,dU,dV,cG,jB,bR,gI,iS,iT,iU,iV,iW,iX,cS,cB,cJ,JV,lJ,eA,eP,eW,iY,iO,hll,hff,hd,k1,k2,k3,k4,k6,dF,dG,dM,dN,h',hs,h2,hm,bT,hfm,e3,aJ,kf]
   rfl
 rw[jb k5];by_cases k2:e.kind=2
 ·have hd:decide (e.kind=2)=true:=jc k2;have k3:¬e.kind=3:=by omega
  have k6:¬e.kind=6:=by omega
  rw[jd k2];by_cases hp:0<=e.pos/\e.pos<w.log.length
  case neg=>
   have hf:(decide (0<=e.pos)&&decide (e.pos<=(w.log.length:Int)-1))=false:=by
    rw[qu];intro h;simp only[jf,ja]at h;exact hp ⟨h.1,by omega⟩
   rw[jb hp];simp(disch:=omega) only[K1,dR,jt,dE,aW,Int.reduceLE,Nat.reduceAdd,lK,lL,bS,bF,↓aB,eK,dU,dV,cG,jB,bR,gI,iS,iT,iU,iV,iW,iX,cS,cB,cJ,lJ,eA,eP,eW,iY,iO,hll,hff,hd,k1,k3,k4,k5,k6,dF,dG,dM,dN,hf]
  have hf:(decide (0<=e.pos)&&decide (e.pos<=(w.log.length:Int)-1))=true:=by
   rw[jc hp.1,jc (by omega:e.pos<=(w.log.length:Int)-1)];rfl
  obtain⟨p0,p1⟩:=id hp;rw[jd hp];unfold eR;have hco:=z.logI _ (dY p0 p1);have hh:=V1 L (D+1) hL (ix w.seats e.who) (ix w.log e.pos) (F4 hmo) (F5 hco);generalize hm:ix w.seats e.who=m at hh;generalize hc:ix w.log e.pos=c at hh;simp only[rM,rC]at hh;generalize f8 m c=r at hh;have e3:(⟨r.1.inn,r.1.who,r.1.keys,r.1.own,r.1.epoch,r.1.init,r.1.tag⟩:Member)=r.1:=rfl;cases hr:r.2 with
  |false=>
   rw[hr]at hh;simp(disch:=omega) only[K1,dR,Int.reduceLE,Nat.reduceAdd,↓aB,gI,iS,iT,iU,iV,iW,iX,gR,cS,cB,oZ,cJ,D2,D3,D4,D5,D6,D7,D8,D9,EA,EB,sM,sN,sO,lY,lP,iO,hll,hff,hd,k1,hf,dF,hm,hc,hh,hr]
  |true=>
   rw[hr]at hh;simp(disch:=omega) only[K1,dR,Int.reduceLE,Nat.reduceAdd,↓aB,gI,iS,iT,iU,iV,iW,iX,gR,cS,cB,oZ,cJ,D2,D3,D4,D5,D6,D7,D8,D9,EA,EB,sM,sN,sO,lY,lP,iO,hll,hff,hd,k1,hf,dF,hm,hc,hh,hr,e3,kf]
   rfl
 rw[jb k2];by_cases k3:e.kind=3
 ·have hd:decide (e.kind=3)=true:=jc k3;have k6:¬e.kind=6:=by omega
  rw[jd k3];by_cases hp:0<=e.pos/\e.pos<w.log.length
  case neg=>
   have hf:(decide (0<=e.pos)&&decide (e.pos<=(w.log.length:Int)-1))=false:=by
    rw[qu];intro h;simp only[jf,ja]at h;exact hp ⟨h.1,by omega⟩
   rw[jb hp];simp(disch:=omega) only[K1,dR,jt,dE,aW,Int.reduceLE,Nat.reduceAdd,lK,lL,bS,bF,↓aB,eK,dU,dV,cG,jB,bR,gI,iS,iT,iU,iV,iW,iX,cS,cB,cJ,lJ,eA,eP,eW,iY,iO,hll,hff,hd,k1,k2,k4,k5,k6,dF,dG,dM,dN,hf]
  have hf:(decide (0<=e.pos)&&decide (e.pos<=(w.log.length:Int)-1))=true:=by
   rw[jc hp.1,jc (by omega:e.pos<=(w.log.length:Int)-1)];rfl
  rw[jd hp];have hjo:=hjo hp;simp(disch:=omega) only[K1,iQ,dR,jt,dE,aW,cM,Int.reduceLE,Nat.reduceAdd,gF,AE,bS,bF,↓aB,eK,cG,bR,gI,iS,iT,iU,iV,iW,iX,cS,cB,cJ,D2,D3,D4,D5,D6,D7,D8,D9,EA,EB,sM,sN,sO,lY,lP,CV,iO,hll,hff,hd,k1,k2,hf,dF,dG,hjo,DB]
 rw[jb k3];by_cases k6:e.kind=6
 ·have hd:decide (e.kind=6)=true:=jc k6;rw[jd k6];by_cases hp:0<=e.pos/\e.pos<w.frames.length
  case neg=>
   have hf:(decide (0<=e.pos)&&decide (e.pos<=(w.frames.length:Int)-1))=false:=by
    rw[qu];intro h;simp only[jf,ja]at h;exact hp ⟨h.1,by omega⟩
   rw[jb hp];simp(disch:=omega) only[K1,dR,jt,dE,aW,Int.reduceLE,Nat.reduceAdd,lK,lL,bS,bF,↓aB,eK,dU,dV,cG,jB,bR,gI,iS,iT,iU,iV,iW,iX,cS,cB,cJ,lJ,eA,eP,eW,iY,iO,hll,hff,hd,k1,k2,k3,k4,k5,dF,dG,dM,dN,hf]
  have hf:(decide (0<=e.pos)&&decide (e.pos<=(w.frames.length:Int)-1))=true:=by
   rw[jc hp.1,jc (by omega:e.pos<=(w.frames.length:Int)-1)];rfl
  obtain⟨p0,p1⟩:=id hp;rw[jd hp];unfold fX;by_cases h320:w.told.length=320
  ·have h':¬(w.told.length:Int)<320:=by omega
   rw[jd h320];simp(disch:=omega) only[K1,dR,jt,dE,aW,Int.reduceLE,Nat.reduceAdd,lK,lL,bS,bF,↓aB,eK,dU,dV,cG,jB,bR,gI,iS,iT,iU,iV,iW,iX,cS,cB,cJ,TT,TU,TV,TW,xJ,wG,lJ,eA,eP,eW,iY,iO,hll,hff,hd,k1,k2,k3,k4,k5,dF,dG,dM,dN,hf,h']
  have h':(w.told.length:Int)<320:=by omega
  rw[jb h320];have hfo:=z.framesI _ (dY p0 p1);have hwm:=dY (l:=w.wins) w0 w3;have hg:=aaF L (D+2) hL (ix w.seats e.who) hmo (ix w.wins e.who) (z.winsI _ hwm) (by have:=z.winN _ hwm;omega) (ix w.frames e.pos) hfo
  generalize hm:ix w.seats e.who=m at hg;generalize hn:ix w.wins e.who=wn at hg;generalize hf2:ix w.frames e.pos=f at hg;cases hr:mN m wn f with
  |none=>
   rw[hr]at hg;simp only[rM,rF]at hg;simp(disch:=omega) only[K1,dR,jt,dE,aW,Int.reduceLE,Nat.reduceAdd,lK,lL,bS,bF,↓aB,eK,dU,dV,cG,jB,bR,gI,iS,iT,iU,iV,iW,iX,cS,cB,cJ,TT,TU,TV,TW,xJ,wG,lJ,uL,eA,eP,JW,eW,iY,iO,hll,hff,hd,k1,k2,k3,k4,k5,dF,dG,dM,dN,hf,h',hm,hn,hf2,hg]
  |some y=>
   rw[hr]at hg;simp only[rM,rF]at hg;simp(disch:=omega) only[K1,dR,jt,bJ,aW,Int.reduceLE,Nat.reduceAdd,lK,lL,bS,bF,↓aB,eK,dU,dV,cG,jB,bR,gI,iS,iT,iU,iV,iW,iX,cS,cB,cJ,TT,TU,TV,TW,xJ,wG,lJ,uL,eA,eP,JW,eW,iY,iO,hll,hff,hd,k1,k2,k3,k4,k5,dF,dG,dM,dN,hf,h',hm,hn,hf2,hg,aJ,kf]
   rfl
 rw[jb k6];simp(disch:=omega) only[K1,dR,jt,dE,aW,Int.reduceLE,Nat.reduceAdd,lK,lL,bS,bF,↓aB,eK,dU,dV,cG,jB,bR,gI,iS,iT,iU,iV,iW,iX,cS,cB,cJ,lJ,eA,eP,eW,iY,iO,hll,hff,k1,k2,k3,k4,k5,k6,dF,dG,dM,dN]
end
end Kw
namespace Kw
theorem YW{w:Int}(h:aR w):∃k:Fin 8,(k.val:Int)=w:=⟨⟨w.toNat,by obtain⟨a,b⟩:=h;omega⟩,by obtain⟨a,b⟩:=h;simp;omega⟩
def kX(a b:Int):List Int:=treMeet (treLeaf a) (treLeaf b)::cF (treMeet (treLeaf a) (treLeaf b))
theorem qT{a b:Int}(ha:aR a)(hb:aR b):(∀n∈kX a b,n∈pathOf a)/\(∀n∈pathOf a,n∈pathOf b->n∈kX a b)/\(kX a b).Nodup/\(treLeaf a∈pathOf b->a=b)/\(kX a b).length<=4:=by
 obtain⟨i,rfl⟩:=YW ha;obtain⟨j,rfl⟩:=YW hb;have hall:∀i j:Fin 8,(∀n∈kX (i.val:Int) (j.val:Int),n∈pathOf (i.val:Int))/\(∀n∈pathOf (i.val:Int),n∈pathOf (j.val:Int)->n∈kX (i.val:Int) (j.val:Int))/\(kX (i.val:Int) (j.val:Int)).Nodup/\(treLeaf (i.val:Int)∈pathOf (j.val:Int)->(i.val:Int)=(j.val:Int))/\(kX (i.val:Int) (j.val:Int)).length<=4:=by decide+kernel
 exact hall i j
theorem jS{a:Int}(ha:aR a):(pathOf a).Nodup/\(∀n∈pathOf a,0<=n/\n<=14)/\treLeaf a∈pathOf a/\(pathOf a).length=4/\7<=treLeaf a/\treLeaf a<=14:=by
 obtain⟨i,rfl⟩:=YW ha;have hall:∀i:Fin 8,(pathOf (i.val:Int)).Nodup/\(∀n∈pathOf (i.val:Int),0<=n/\n<=14)/\treLeaf (i.val:Int)∈pathOf (i.val:Int)/\(pathOf (i.val:Int)).length=4/\7<=treLeaf (i.val:Int)/\treLeaf (i.val:Int)<=14:=by decide+kernel
 exact hall i
theorem M0{n:Nat}(h:n<=99):(plain n).length<=2:=by
 unfold plain;split
 ·rw[jk];unfold plain;rw[dif_neg (by omega)];simp
 ·simp
theorem YX{s:S}(h:(bK s).op=1):s.length<=4/\secOk s=true:=by
 have hs:=YV h (by decide)
 refine⟨?_,hs⟩;unfold bK at h;obtain⟨t,h1,h2,h3⟩:=eX.1 hs;rw[nN.2 ⟨h1,h2,h3⟩]at h;cases t with
 |new w n=>
  rw[h2];have:=M0 (n:=n) h1.2.2;simp only[Sec.str,je,jk,jj];omega
 |next t=>exact absurd h (by show¬(2:Int)=1;decide)
 |key t=>exact absurd h (by show¬(3:Int)=1;decide)
 |epoch a b=>exact absurd h (by show¬(4:Int)=1;decide)
 |say w t=>exact absurd h (by show¬(5:Int)=1;decide)
 |room n t=>exact absurd h (by show¬(6:Int)=1;decide)
theorem af3{s:S}(h:secOk s=true)(hl:1+s.length<=300):isKey (makKey s)=true/\makKey s≠[]:=by
 unfold makKey mk1;rw[jd ⟨h,hl⟩];obtain⟨t,h1,h2,h3⟩:=eX.1 h;refine⟨?_,by simp⟩
 have e:sec ([107]++s)=some (.key t):=nN.2 ⟨h1,by rw[h2];rfl,by simp;omega⟩
 unfold isKey bK;rw[e]
 rfl
theorem tH{A:Type} [Inhabited A](l:List A)(n:Int)(x:A)(h0:0<=n)(h1:n<l.length):ix (l.set n.toNat x) n=x:=by
 obtain⟨k,rfl⟩:=kv h0;rw[ki,aZ _ k (by rw[kf];omega)]
 simp
theorem pE{A:Type} [Inhabited A](l:List A)(n m:Int)(x:A)(h0:0<=n)(h1:0<=m)(hne:m≠n):ix (l.set n.toNat x) m=ix l m:=by
 obtain⟨k,rfl⟩:=kv h0;obtain⟨j,rfl⟩:=kv h1;unfold ix;rw[ki,ki];simp only[jo,we];rw[jb (by omega)]
theorem FH:∀(l:List Int) (s:S) (ks:List S),(lM l s ks).length=ks.length
 |[],_,_=>rfl
 |_::l,s,ks=>by rw[lM,FH l];simp
theorem IZ:∀(p:List Int) (s:S) (ks:List S) (n:Int),(∀x∈p,0<=x)->0<=n->n∉p->ix (lM p s ks) n=ix ks n
 |[],_,_,_,_,_,_=>rfl
 |a::p,s,ks,n,hp,h0,hn=>by
  rw[lM,IZ p _ _ n (fun x hx=>hp x (by simp[hx])) h0 (fun h=>hn (by simp[h])),pE _ _ _ _ (hp a (by simp)) h0 (fun e=>hn (by simp[e]))]
theorem M1:∀(p:List Int) (s:S) (ks:List S),p.Nodup->(∀x∈p,0<=x/\x<ks.length)->∀o∈pathGo p s,ix (lM p s ks) o.node=makKey o.sec
 |[],_,_,_,_,o,ho=>by cases ho
 |a::p,s,ks,hd,hp,o,ho=>by
  have e:pathGo (a::p) s=⟨a,s⟩::pathGo p (makNext s):=rfl;rw[e]at ho;rw[v9]at hd;obtain⟨a0,a1⟩:=hp a (by simp)
  rcases kh.1 ho with rfl|ho
  ·rw[lM,IZ p _ _ _ (fun x hx=>(hp x (by simp[hx])).1) a0 hd.1,tH _ _ _ a0 a1]
  ·rw[lM];exact M1 p _ _ hd.2 (fun x hx=>by rw[kf];exact hp x (by simp[hx])) o ho
theorem mem_setGo:∀(p:List Int) (s:S) (ks:List S) (x:S),x∈lM p s ks->x∈ks\/∃o∈pathGo p s,x=makKey o.sec
 |[],_,_,_,h=>.inl h
 |a::p,s,ks,x,h=>by
  rw[lM]at h;have e:pathGo (a::p) s=⟨a,s⟩::pathGo p (makNext s):=rfl;rw[e];rcases mem_setGo p _ _ x h with h|⟨o,ho,h⟩
  ·rcases qw h with h|h
   ·exact .inl h
   ·exact .inr ⟨_,wb ..,h⟩
  ·exact .inr ⟨o,qg _ ho,h⟩
theorem treOk_iff{ks:List S}:treOk ks=true↔ks.length=15/\∀s∈ks,s=[]\/isKey s=true:=by
 unfold treOk;simp only[jf,ja,ko,vz]
theorem qU{p:List Int}{s:S}(hs:secOk s=true)(hl:s.length+p.length<=299):∀o∈pathGo p s,secOk o.sec=true/\o.sec.length<=s.length+p.length/\isKey (makKey o.sec)=true/\makKey o.sec≠[]:=fun o ho=>by
 obtain⟨h1,h2⟩:=pD p s hs (by omega) o ho
 obtain⟨h3,h4⟩:=af3 h1 (by omega)
 exact⟨h1,h2,h3,h4⟩
theorem FI{ks:List S}{w:Int}{s:S}(h:treOk ks=true)(hs:secOk s=true)(hl:s.length+(pathOf w).length<=299):treOk (vO ks w s)=true:=by
 rw[treOk_iff]at h⊢;refine⟨by unfold vO;rw[FH];exact h.1,fun x hx=>?_⟩
 rcases mem_setGo _ _ _ x hx with hx|⟨o,ho,rfl⟩
 ·exact h.2 x hx
 ·exact .inr (qU hs hl o ho).2.2.1
theorem mem_clr{ks:List S}{w:Int}{x:S}(h:x∈clr ks w):x∈ks\/x=[]:=by
 unfold clr at h;generalize pathOf w=p at h;induction p generalizing ks with
 |nil=>exact .inl h
 |cons n p ih=>
  rcases ih h with h|h
  ·rcases qw h with h|h
   ·exact .inl h
   ·exact .inr h
  ·exact .inr h
theorem YY(ks:List S)(w:Int):(clr ks w).length=ks.length:=by
 unfold clr;generalize pathOf w=p;induction p generalizing ks with
 |nil=>rfl
 |cons n ns ih=>simp[ih]
theorem YZ(ks:List S)(w:Int)(hw:∀x∈pathOf w,0<=x){n:Int}(h0:0<=n):ix (clr ks w) n=if n∈pathOf w then[]else ix ks n:=by
 unfold clr;generalize pathOf w=p at hw⊢;induction p generalizing ks with
 |nil=>simp
 |cons a p ih=>
  show ix (p.foldl _ (ks.set a.toNat [])) n=_;have ih:=ih (ks.set a.toNat []) (fun x hx=>hw x (by simp[hx]))
  rw[ih];by_cases h1:n∈p
  ·rw[jd h1,jd (by simp[h1])]
  ·rw[jb h1];by_cases h2:n=a
   ·rw[jd (by simp[h2])]
    subst h2;by_cases h3:n<ks.length
    ·exact tH _ _ _ h0 h3
    ·obtain⟨k,rfl⟩:=kv h0;unfold ix;rw[ki,jo,qi (by rw[kf];omega)]
     rfl
   ·rw[jb (by simp[h1,h2]),pE _ _ _ _ (hw a (by simp)) h0 h2]
theorem I0{ks:List S}{w:Int}(h:treOk ks=true):treOk (clr ks w)=true:=by
 rw[treOk_iff]at h⊢;refine⟨by rw[YY];exact h.1,fun x hx=>?_⟩
 rcases mem_clr hx with hx|hx
 ·exact h.2 x hx
 ·exact .inl hx
theorem PG{ks:List S}{add remove:Int}{leaf:S}(h:treOk ks=true)(hl:0<=add->isKey leaf=true):treOk (baseT ks add remove leaf)=true:=by
 unfold baseT;simp only;have h1:treOk (if 0<=remove then clr ks remove else ks)=true:=by split;exact I0 h;exact h
 split
 ·rename_i h0;have h2:=I0 (w:=add) h1;rw[treOk_iff]at h2⊢;refine⟨by rw[kf];exact h2.1,fun x hx=>?_⟩
  rcases qw hx with hx|hx
  ·exact h2.2 x hx
  ·exact .inr (by rw[hx];exact hl h0)
 ·exact h1
theorem SA{ks:List S}{add remove:Int}{leaf:S}{n:Int}(ha: -1<=add/\add<=7)(hr: -1<=remove/\remove<=7)(h0:0<=n)(hl:0<=add->n≠treLeaf add):
 ix (baseT ks add remove leaf) n=if(0<=remove/\n∈pathOf remove)\/(0<=add/\n∈pathOf add)then[]else ix ks n:=by
 unfold baseT;simp only;have h1:ix (if 0<=remove then clr ks remove else ks) n=if 0<=remove/\n∈pathOf remove then[]else ix ks n:=by
  by_cases h:0<=remove
  ·rw[jd h,YZ _ _ (fun x hx=>((jS ⟨h,hr.2⟩).2.1 x hx).1) h0]
   by_cases h2:n∈pathOf remove
   ·rw[jd h2,jd ⟨h,h2⟩]
   ·rw[jb h2,jb (fun x=>h2 x.2)]
  ·rw[jb h,jb (fun x=>h x.1)]
 generalize(if 0<=remove then clr ks remove else ks)=k1 at h1⊢
 by_cases h:0<=add
 ·have pf:=jS (a:=add) ⟨h,ha.2⟩;rw[jd h,pE _ _ _ _ (by omega) h0 (hl h),YZ _ _ (fun x hx=>(pf.2.1 x hx).1) h0,h1]
  by_cases h2:n∈pathOf add
  ·rw[jd h2,jd (.inr ⟨h,h2⟩)]
  ·rw[jb h2];by_cases h3:0<=remove/\n∈pathOf remove
   ·rw[jd h3,jd (.inl h3)]
   ·rw[jb h3,jb (fun x=>x.elim h3 fun y=>h2 y.2)]
 ·rw[jb h,h1];by_cases h3:0<=remove/\n∈pathOf remove
  ·rw[jd h3,jd (.inl h3)]
  ·rw[jb h3,jb (fun x=>x.elim h3 fun y=>h y.1)]
end Kw
