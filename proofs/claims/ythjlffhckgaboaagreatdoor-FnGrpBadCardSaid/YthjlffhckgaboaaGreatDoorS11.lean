import Derived.Test.YthjlffhckgaboaaGreatDoorS10
set_option linter.unusedVariables false
set_option linter.unusedSimpArgs false
set_option linter.unusedSectionVars false
namespace Kw
theorem M2{w:Int}{ks:List S}{own:List Own}{e:Int}{i t:S}(hw:aR w)(ht:treOk ks=true)(hnd:(own.map (·.node)).Nodup)
 (hin:∀o∈own,o.node∈pathOf w/\secOk o.sec=true/\ix ks o.node=makKey o.sec/\makKey o.sec≠[])
 (hall:∀n∈pathOf w,ix ks n=[]\/∃o∈own,o.node=n) (hl:ix ks (treLeaf w)≠[]) (he:0<=e/\e<=12) (hi:secOk i=true) (htl:t.length<=300):memOk ⟨true,w,ks,own,e,i,t⟩=true:=by
 unfold memOk;simp only[vm,ql,jf,ja];refine⟨hw,ht,?_,?_,he,hi,htl⟩
 ·unfold fitsAll;rw[ko];intro k hk;have hk:=qp.1 hk;simp only at hk;have ek:ix own (k:Int)=own[k]:=aZ own k hk;obtain⟨h1,h2,h3,h4⟩:=hin own[k] (jr hk);unfold mM;simp only[jf,ja];rw[ek];refine⟨h1,h2,by rw[h3];exact h4,h3,?_⟩
  unfold eB;have:(own.take k).find? (fun o=>o.node==(own[k]).node)=none:=by
   rw[wq];intro o ho;obtain⟨j,hj,e⟩:=List.mem_take_iff_getElem.1 ho;have hj1:j<k:=by omega
   have hj2:j<own.length:=by omega
   intro hb;have hb:o.node=(own[k]).node:=by simpa using hb
   rw[<-e]at hb;have hp:=v3.1 hnd j k (by simpa using hj2) (by simpa using hk) hj1
   simp only[yh]at hp;exact hp hb
  rw[this]
 ·unfold tB;simp only[jf,ko,vz,ja];refine⟨fun n hn=>?_,hl⟩
  rcases hall n hn with h|⟨o,ho,e⟩
  ·exact .inl h
  ·right;unfold eB;cases hf:own.find? (fun o=>o.node==n)with
   |none=>
    have:=wq.1 hf o ho;simp[e]at this
   |some q=>exact pC (hin q (vo hf)).2.1
structure MemEl(m:Member):Prop where
 who:aR m.who
 tre:treOk m.keys=true
 nd:(m.own.map (·.node)).Nodup
 own:∀o∈m.own,o.node∈pathOf m.who/\secOk o.sec=true/\ix m.keys o.node=makKey o.sec/\makKey o.sec≠[]
 all:∀n∈pathOf m.who,ix m.keys n=[]\/∃o∈m.own,o.node=n
 leaf:ix m.keys (treLeaf m.who)≠[]
 ep:0<=m.epoch/\m.epoch<=12
 init:secOk m.init=true
 tag:m.tag.length<=300
theorem yE{m:Member}(h:memOk m=true)(hi:m.inn=true):MemEl m:=by
 unfold memOk at h;rw[hi]at h;simp only[vm,ql,jf,ja]at h;obtain⟨h1,h2,h3,h4,h5,h6,h7⟩:=h;have hf:∀(k:Nat) (hk:k<m.own.length),(m.own[k]).node∈pathOf m.who/\secOk (m.own[k]).sec=true/\ix m.keys (m.own[k]).node≠[]/\ix m.keys (m.own[k]).node=makKey (m.own[k]).sec/\eB (m.own.take k) (m.own[k]).node=[]:=fun k hk=>by
  have:=ko.1 h3 k (qp.2 hk);unfold mM at this;rw[aZ m.own k hk]at this;simpa only[jf,ja]using this
 unfold tB at h4;simp only[jf,ko,vz,ja]at h4;refine⟨h1,h2,?_,fun o ho=>?_,fun n hn=>?_,h4.2,h5,h6,h7⟩
 ·show List.Pairwise _ _;rw[v3];intro i j hi hj hij e;simp only[kb]at hi hj;simp only[yh]at e;have h2:=(hf j hj).2.2.2.2;unfold eB at h2;split at h2
  ·rename_i o ho;obtain⟨k,hk,hok⟩:=kx.1 (List.mem_of_mem_take (vo ho));have h3:=(hf k hk).2.1;rw[hok]at h3;exact pC h3 h2
  ·rename_i ho;have:=wq.1 ho (m.own[i]) (List.mem_take_iff_getElem.2 ⟨i,by omega,rfl⟩)
   simp[e]at this
 ·obtain⟨k,hk,rfl⟩:=kx.1 ho;obtain⟨a,b,c,d,_⟩:=hf k hk;exact⟨a,b,d,by rw[<-d];exact c⟩
 ·rcases h4.1 n hn with h|h
  ·exact .inl h
  ·right;unfold eB at h;split at h
   ·rename_i o ho;exact⟨o,vo ho,by simpa using List.find?_some ho⟩
   ·exact absurd rfl h
theorem iM{m:Member}{fresh:S}{add remove:Int}{leaf key:S}(h:cT m fresh add remove leaf key=true):memOk m=true/\m.inn=true/\(bK fresh).op=1/\m.epoch<12/\cN add m.who/\cN remove m.who/\changes m.keys add remove=true/\twoKeys add leaf key=true/\m.tag.length+fresh.length<=300/\m.init.length<=280:=by
 unfold cT may at h;simp only[jf,ja]at h;obtain⟨h1,h2,⟨h3,⟨h4,h5,h6⟩,h7,h8⟩,h9,h10⟩:=h;exact⟨h1,h3,h2,h4,h5,h6,h7,h8,h9,h10⟩
theorem Y0{own:List Own}(h:own≠[]):ix own ((own.length:Int)-1)∈own:=by
 have hp:=qx.2 h;have e:((own.length:Int)-1)=((own.length-1:Nat):Int):=by omega
 rw[e,aZ own (own.length-1) (by omega)]
 exact jr _
theorem FJ{m:Member}{fresh:S}{add remove:Int}{leaf key:S}(h:cT m fresh add remove leaf key=true):memOk (jL m fresh add remove leaf key)=true/\(∀o∈pathGo (pathOf m.who) fresh,secOk o.sec=true/\o.sec.length<=8)/\treOk (baseT m.keys add remove leaf)=true/\secOk (jL m fresh add remove leaf key).init=true:=by
 obtain⟨h1,h2,h3,h4,h5,h6,h7,h8,h9,h10⟩:=iM h;have z:=yE h1 h2;obtain⟨f1,f2⟩:=YX h3;obtain⟨p1,p2,p3,p4,_⟩:=jS z.who;have hb:treOk (baseT m.keys add remove leaf)=true:=PG z.tre fun h0=>by
  unfold twoKeys at h8;rw[jb (by omega)]at h8
  simp only[jf]at h8;exact h8.1
 have hps:=fun o ho=>qU (p:=pathOf m.who) f2 (by omega) o ho
 have hne:pathGo (pathOf m.who) fresh≠[]:=fun e=>by
  have:=vg List.length e;rw[show(pathGo (pathOf m.who) fresh).length=((pathGo (pathOf m.who) fresh).map (·.node)).length by simp,dJ,p4]at this
  simp at this
 have hlast:=Y0 hne;have hi:secOk (eH m.init (makNext (ix (pathGo (pathOf m.who) fresh) (((pathGo (pathOf m.who) fresh).length:Int)-1)).sec))=true:=by
  obtain⟨l1,l2,_⟩:=hps _ hlast;obtain⟨n1,n2⟩:=R9 l1 (by omega)
  rw[FC];apply jc;unfold eH;rw[jd ⟨⟨z.init,n1⟩,by omega⟩]
  simp
 have hin:=M1 (pathOf m.who) fresh (baseT m.keys add remove leaf) p1 (fun x hx=>⟨(p2 x hx).1,by rw[(treOk_iff.1 hb).1];have:=(p2 x hx).2;omega⟩)
 have hnode:∀n∈pathOf m.who,∃o∈pathGo (pathOf m.who) fresh,o.node=n:=fun n hn=>by
  rw[<-dJ (pathOf m.who) fresh]at hn;obtain⟨o,ho,e⟩:=qb.1 hn;exact⟨o,ho,e⟩
 refine⟨?_,fun o ho=>⟨(hps o ho).1,by have:=(hps o ho).2.1;omega⟩,hb,hi⟩
 unfold jL;refine M2 z.who (FI hb f2 (by omega)) ?_ (fun o ho=>?_) (fun n hn=>.inr (hnode n hn)) ?_ ⟨by have:=z.ep.1;omega,by omega⟩ hi (by rw[jk];omega)
 ·show((pathGo (pathOf m.who) fresh).map (·.node)).Nodup;rw[dJ];exact p1
 ·have ho:o∈pathGo (pathOf m.who) fresh:=ho;have hk:=hps o ho;refine⟨?_,hk.1,hin o ho,hk.2.2.2⟩;have:o.node∈(pathGo (pathOf m.who) fresh).map (·.node):=qb.2 ⟨o,ho,rfl⟩
  rwa [dJ]at this
 ·obtain⟨o,ho,e⟩:=hnode _ p3;have:=hin o ho;rw[e]at this;show ix (lM (pathOf m.who) fresh (baseT m.keys add remove leaf)) (treLeaf m.who)≠[];rw[this];exact(hps o ho).2.2.2
theorem pF(ks:List S):∀f n:Nat,(7<=n->(coverN f ks n).length<=1)/\(3<=n->(coverN f ks n).length<=2)/\(1<=n->(coverN f ks n).length<=4)
 |0,n=>by simp[coverN]
 |f+1,n=>by
  have e:coverN (f+1) ks n=if ix ks (n:Int)≠[]then[(n:Int)]else if 7<=n then[]else coverN f ks (2*n+1)++coverN f ks (2*n+2):=rfl
  have a:=pF ks f (2*n+1);have b:=pF ks f (2*n+2);rw[e];split
  ·simp
  ·split
   ·simp
   ·rw[jk];refine⟨fun h=>by omega,fun h=>?_,fun h=>?_⟩
    ·have:=a.1 (by omega);have:=b.1 (by omega);omega
    ·have:=a.2.1 (by omega);have:=b.2.1 (by omega);omega
theorem wQ(ks:List S):∀f n:Nat,∀x∈coverN f ks n,ix ks x≠[]/\0<=x
 |0,n,x,h=>by simp[coverN]at h
 |f+1,n,x,h=>by
  have e:coverN (f+1) ks n=if ix ks (n:Int)≠[]then[(n:Int)]else if 7<=n then[]else coverN f ks (2*n+1)++coverN f ks (2*n+2):=rfl
  rw[e]at h;split at h
  ·rename_i h1;rw[qk.1 h];exact⟨h1,by omega⟩
  ·split at h
   ·cases h
   ·rcases jy.1 h with h|h
    ·exact wQ ks f _ x h
    ·exact wQ ks f _ x h
end Kw
namespace Kw
theorem ix_ne_mem{l:List S}{x:Int}(h:ix l x≠[]):ix l x∈l:=by
 unfold ix at h⊢;rw[jo]at h⊢;cases e:l[x.toNat]? with
 |none=>rw[e]at h;exact absurd rfl h
 |some s=>exact qd e
theorem acL{ks:List S}(h:treOk ks=true){x:Int}(hx:ix ks x≠[]):isKey (ix ks x)=true:=by
 rcases(treOk_iff.1 h).2 _ (ix_ne_mem hx)with e|e
 ·exact absurd e hx
 ·exact e
theorem M3{ks:List S}{add:Int}{sec:S}{cov:List Int}{b:Box}(h:b∈cL ks add sec cov):∃x∈cov,b=⟨ix ks x,sec⟩:=by
 unfold cL at h;obtain⟨x,hx,e⟩:=qb.1 h;exact⟨x,(vd.1 hx).1,e.symm⟩
theorem B8{ks:List S}{add:Int}:∀{own:List Own} {b:Box},b∈boxesGo ks add own->(∃x,b.key=ix ks x/\ix ks x≠[])/\∃o∈own,b.sec=o.sec
 |[],b,h=>by cases h
 |[_],b,h=>by cases h
 |a::c::r,b,h=>by
  have e:boxesGo ks add (a::c::r)=cL ks add c.sec (kA ks (cC a.node))++boxesGo ks add (c::r):=rfl;rw[e]at h;rcases jy.1 h with h|h
  ·obtain⟨x,hx,rfl⟩:=M3 h;exact⟨⟨x,rfl,(wQ ks 5 _ x hx).1⟩,c,by simp,rfl⟩
  ·obtain⟨h1,o,ho,h2⟩:=B8 h;exact⟨h1,o,by simp[ho],h2⟩
theorem wR(ks:List S)(add:Int)(sec:S)(cov:List Int):(cL ks add sec cov).length<=cov.length:=by
 unfold cL;rw[kb];exact qz _ _
theorem PH{a:Int}(ha:aR a):∃p0 p1 p2 p3,pathOf a=[p0,p1,p2,p3]/\7<=(cC p0).toNat/\3<=(cC p1).toNat/\1<=(cC p2).toNat:=by
 obtain⟨i,rfl⟩:=YW ha;have hall:∀i:Fin 8,7<=(cC ((pathOf (i.val:Int)).getD 0 0)).toNat/\3<=(cC ((pathOf (i.val:Int)).getD 1 0)).toNat/\1<=(cC ((pathOf (i.val:Int)).getD 2 0)).toNat/\(pathOf (i.val:Int)).length=4:=by decide+kernel
 obtain⟨h0,h1,h2,h4⟩:=hall i;generalize pathOf (i.val:Int)=p at h0 h1 h2 h4
 match p,h4 with
 |[a,b,c,d],_=>exact⟨a,b,c,d,rfl,h0,h1,h2⟩
theorem M4{a:Int}(ha:aR a)(ks:List S)(add:Int)(s:S):(boxesGo ks add (pathGo (pathOf a) s)).length<=7:=by
 obtain⟨p0,p1,p2,p3,e,h0,h1,h2⟩:=PH ha;rw[e];show(cL ks add _ (coverN 5 ks (cC p0).toNat)++(cL ks add _ (coverN 5 ks (cC p1).toNat)++(cL ks add _ (coverN 5 ks (cC p2).toNat)++[]))).length<=7;simp only[jk,jj];have a1:=wR ks add (makNext s) (coverN 5 ks (cC p0).toNat);have a2:=wR ks add (makNext (makNext s)) (coverN 5 ks (cC p1).toNat);have a3:=wR ks add (makNext (makNext (makNext s))) (coverN 5 ks (cC p2).toNat);have b1:=(pF ks 5 (cC p0).toNat).1 h0;have b2:=(pF ks 5 (cC p1).toNat).2.1 h1;have b3:=(pF ks 5 (cC p2).toNat).2.2 h2;omega
theorem PI{m:Member}{fresh:S}{add remove:Int}{leaf key:S}(h:cT m fresh add remove leaf key=true):eO (lZ m fresh add remove leaf key)=true:=by
 obtain⟨h1,h2,h3,h4,h5,h6,h7,h8,h9,h10⟩:=iM h;obtain⟨c1,c2,c3,c4⟩:=FJ h;have z:=yE h1 h2;obtain⟨f1,f2⟩:=YX h3;obtain⟨p1,p2,p3,p4,_⟩:=jS z.who;have ht:treOk (vO (baseT m.keys add remove leaf) m.who fresh)=true:=FI c3 f2 (by omega)
 have hbx:iK (boxesGo (baseT m.keys add remove leaf) add (pathGo (pathOf m.who) fresh))=true:=by
  unfold iK;simp only[jf,ja,ko];refine⟨by have:=M4 z.who (baseT m.keys add remove leaf) add fresh;omega,fun b hb=>?_⟩
  obtain⟨⟨x,e1,hx⟩,o,ho,e2⟩:=B8 hb;rw[e1,e2];exact⟨nE (acL c3 hx),(c2 o ho).1⟩
 have hbl:=M4 z.who (baseT m.keys add remove leaf) add fresh;unfold eO lZ;simp only[jf,ja];refine⟨⟨z.who,h3,h9,h5,h6⟩,ht,hbx,by show(boxesGo _ add (pathGo (pathOf m.who) fresh)).length<=20;omega,?_⟩
 unfold twoKeys at h8;by_cases h0:0<=add
 ·rw[jb (by omega)]at h8⊢
  simp only[jf,ja,jd h0]at h8⊢;refine⟨h8.1,h8.2.1,⟨h8.2.2,trivial,trivial⟩,c4,?_⟩;have hm:=(qT z.who ⟨h0,h5.2.1⟩).1 _ (wb ..);have hm2:=(C0 z.who ⟨h0,h5.2.1⟩).2;rw[<-hm2];have hne:=(E9 (pathOf m.who) fresh f2 (by omega) (treMeet (treLeaf m.who) (treLeaf add)))
  show secOk (eB (pathGo (pathOf m.who) fresh) (treMeet (treLeaf m.who) (treLeaf add)))=true;unfold eB at hne⊢;split
  ·rename_i o ho;exact(c2 o (vo ho)).1
  ·rename_i ho;rw[ho]at hne;exact absurd hm (hne.1 rfl)
 ·rw[jd (by omega)]at h8⊢
  obtain⟨e1,_⟩:=qo h8;simp only[jb h0];exact jc ⟨e1,trivial,trivial,trivial,trivial,trivial⟩
theorem FK{m m':Member}{c:Commit}{fresh:S}{add remove:Int}{leaf key:S}(h:fC m fresh add remove leaf key=some (m',c)):cT m fresh add remove leaf key=true/\m'=jL m fresh add remove leaf key/\c=lZ m fresh add remove leaf key:=by
 unfold fC at h;split at h
 ·rename_i h1;cases h;exact⟨h1,rfl,rfl⟩
 ·cases h
theorem KI{m:Member}{c:Commit}(h:(f8 m c).2=true):memOk (f8 m c).1=true/\((f8 m c).1.inn=true->m.inn=true/\(f8 m c).1.who=m.who):=by
 rw[<-B5]at h⊢;unfold yC at h⊢;by_cases h1:memOk m=true
 case neg=>rw[jb h1]at h;cases h
 by_cases h2:eO c=true
 case neg=>rw[jd h1,jb h2]at h;cases h
 by_cases h3:tF m c=true
 case neg=>rw[jd h1,jd h2,jb h3]at h;cases h
 rw[jd h1,jd h2,jd h3]at h⊢;by_cases h4:c.remove=m.who
 case pos=>
  rw[jd h4];exact⟨by decide+kernel,fun x=>by cases x⟩
 rw[jb h4]at h⊢;by_cases h5:rR m.own c.boxes 0<0
 case pos=>rw[jd h5]at h;cases h
 rw[jb h5]at h⊢;simp only at h⊢;generalize(ix c.boxes (rR m.own c.boxes 0)).sec=s at h⊢;by_cases h6:(secOk s&&decide (s.length<=292))=true
 case neg=>rw[jb h6]at h;cases h
 rw[jd h6]at h⊢;by_cases h7:gP c.keys (pathGo (treMeet (treLeaf m.who) (treLeaf c.sender)::cF (treMeet (treLeaf m.who) (treLeaf c.sender))) s)=true
 case neg=>rw[jb h7]at h;cases h
 rw[jd h7]at h⊢;by_cases h8:(B4 m c s).init=[]
 case pos=>rw[jd h8]at h;cases h
 rw[jb h8];have ht:=h3;rw[MT h1 h2]at ht;unfold pB x6 at ht;simp only[jf,ja]at ht;obtain⟨hi,⟨ht1,ht2,ht3⟩,hle,hch,hft⟩:=ht;have z:=yE h1 hi;obtain⟨hs,hck,_,hca,hcr,htl⟩:=tG h2;have hct:treOk c.keys=true:=by
  unfold eO at h2;simp only[jf]at h2;exact h2.2.1
 simp only[jf,ja]at h6;obtain⟨hs1,hs2⟩:=h6;obtain⟨o1,o2,o3,o4,o5⟩:=qT z.who hs;change gP c.keys (pathGo (kX m.who c.sender) s)=true at h7;have hps:=fun o ho=>qU (p:=kX m.who c.sender) hs1 (by omega) o ho
 have hfr:∀o∈pathGo (kX m.who c.sender) s,ix c.keys o.node=makKey o.sec:=fun o ho=>by
  unfold gP at h7;exact qo (ko.1 h7 o ho)
 obtain⟨q1,q2,q3,q4,_⟩:=jS z.who;have qs:=jS hs;have hnode:∀o∈pathGo (kX m.who c.sender) s,o.node∈kX m.who c.sender:=fun o ho=>by
  have:o.node∈(pathGo (kX m.who c.sender) s).map (·.node):=qb.2 ⟨o,ho,rfl⟩
  rwa [dJ]at this
 have hkeep:∀n∈pathOf m.who,n∉kX m.who c.sender->ix c.keys n=[]\/ix c.keys n=ix m.keys n:=fun n hn hno=>by
  obtain⟨n0,n1⟩:=q2 n hn;have hns:n∉pathOf c.sender:=fun x=>hno (o2 n hn x)
  have e1:ix c.keys n=ix (jM c.keys (pathOf c.sender) (baseT m.keys c.add c.remove c.leaf)) n:=vg (fun l=>ix l n) hft
  obtain⟨j,rfl⟩:=kv n0;have e2:=nR c.keys (pathOf c.sender) (baseT m.keys c.add c.remove c.leaf) j (fun x hx=>(qs.2.1 x hx).1) (by rw[wP,(treOk_iff.1 z.tre).1];omega)
  rw[jb hns,<-qS,<-qS]at e2;rw[e1,e2];have hadd:0<=c.add->((j:Nat):Int)≠treLeaf c.add:=fun h0 e=>by
   have hwa:aR c.add:=⟨h0,hca.2.1⟩;have:=(qT hwa z.who).2.2.2.1 (by rw[<-e];exact hn)
   unfold changes at hch;simp only[jf,vz,ja]at hch;rcases hch.2 with h|h|h
   ·omega
   ·have hl:=z.leaf;unfold hasLeaf at h;rw[this]at h;rw[jc hl]at h;cases h
   ·exact h4 (by rw[<-h,this])
  rw[SA ⟨hca.1,hca.2.1⟩ ⟨hcr.1,hcr.2.1⟩ n0 hadd];split
  ·exact .inl rfl
  ·exact .inr rfl
 have hleaf:ix c.keys (treLeaf m.who)=ix m.keys (treLeaf m.who)\/treLeaf m.who∈kX m.who c.sender:=by
  by_cases hno:treLeaf m.who∈kX m.who c.sender
  ·exact .inr hno
  ·left;have hns:treLeaf m.who∉pathOf c.sender:=fun x=>hno (o2 _ q3 x)
   obtain⟨n0,n1⟩:=q2 _ q3;have e1:ix c.keys (treLeaf m.who)=ix (jM c.keys (pathOf c.sender) (baseT m.keys c.add c.remove c.leaf)) (treLeaf m.who):=vg (fun l=>ix l (treLeaf m.who)) hft
   obtain⟨j,hj⟩:=kv n0;rw[hj]at e1 hns n1⊢;have e2:=nR c.keys (pathOf c.sender) (baseT m.keys c.add c.remove c.leaf) j (fun x hx=>(qs.2.1 x hx).1) (by rw[wP,(treOk_iff.1 z.tre).1];omega)
   rw[jb hns,<-qS,<-qS]at e2;rw[e1,e2];have hna:∀x,0<=x->x<=7->x≠m.who->((j:Nat):Int)∉pathOf x:=fun x x0 x7 xne hx=>by
    rw[<-hj]at hx;exact xne ((qT z.who ⟨x0,x7⟩).2.2.2.1 hx).symm
   have hadd:0<=c.add->c.add≠m.who:=fun h0 e=>by
    unfold changes at hch;simp only[jf,vz,ja]at hch;rcases hch.2 with h|h|h
    ·omega
    ·have hl:=z.leaf;unfold hasLeaf at h;rw[e]at h;rw[jc hl]at h;cases h
    ·exact h4 (by rw[<-h,e])
   rw[SA ⟨hca.1,hca.2.1⟩ ⟨hcr.1,hcr.2.1⟩ (by omega) (fun h0 e=>hna _ h0 hca.2.1 (hadd h0) (by rw[e];exact(jS ⟨h0,hca.2.1⟩).2.2.1))]
   rw[jb];rintro(⟨x0,x1⟩|⟨x0,x1⟩)
   ·exact hna _ x0 hcr.2.1 h4 x1
   ·exact hna _ x0 hca.2.1 (hadd x0) x1
 have hinit:secOk (B4 m c s).init=true:=by
  have:secOk (eH m.init (makNext (ix (pathGo (kX m.who c.sender) s) (((pathGo (kX m.who c.sender) s).length:Int)-1)).sec))=decide (eH m.init (makNext (ix (pathGo (kX m.who c.sender) s) (((pathGo (kX m.who c.sender) s).length:Int)-1)).sec)≠[]):=FC _ _;exact this.trans (jc h8)
 refine⟨?_,fun _=>⟨hi,rfl⟩⟩
 unfold B4 at hinit⊢;simp only at hinit⊢;change memOk ⟨true,m.who,c.keys,mU c.keys m.keys (kX m.who c.sender) m.own++pathGo (kX m.who c.sender) s,_,_,_⟩=true;have hkm:∀o∈mU c.keys m.keys (kX m.who c.sender) m.own,o∈m.own/\o.node∉kX m.who c.sender/\ix c.keys o.node=ix m.keys o.node:=fun o ho=>by
  unfold mU at ho;have:=vd.1 ho;simp only[jf,vy,jg,ja]at this;exact this
 refine M2 z.who hct ?_ (fun o ho=>?_) (fun n hn=>?_) ?_ ⟨by have:=z.ep.1;omega,by omega⟩ hinit (by rw[jk,<-ht1];omega)
 ·rw[List.map_append,dJ,qj];refine⟨?_,o3,?_⟩
  ·unfold mU;exact List.Pairwise.sublist (List.Sublist.map _ List.filter_sublist) z.nd
  ·intro a ha b hb e;obtain⟨o,ho,rfl⟩:=qb.1 ha;subst e;exact(hkm o ho).2.1 hb
 ·rcases jy.1 ho with ho|ho
  ·obtain⟨a,b,d⟩:=hkm o ho;obtain⟨e1,e2,e3,e4⟩:=z.own o a;exact⟨e1,e2,d.trans e3,e4⟩
  ·exact⟨o1 _ (hnode o ho),(hps o ho).1,hfr o ho,(hps o ho).2.2.2⟩
 ·by_cases hno:n∈kX m.who c.sender
  ·right;rw[<-dJ (kX m.who c.sender) s]at hno;obtain⟨o,ho,e⟩:=qb.1 hno;exact⟨o,jn _ ho,e⟩
  ·by_cases hz:ix c.keys n=[]
   ·exact .inl hz
   ·right;have hk:=(hkeep n hn hno).resolve_left hz;rcases z.all n hn with h|⟨o,ho,e⟩
    ·exact absurd (hk.trans h) hz
    ·refine⟨o,jx _ ?_,e⟩;unfold mU;rw[vd];refine⟨ho,?_⟩;simp only[jf,vy,jg,ja];rw[e];exact⟨hno,hk⟩
 ·rcases hleaf with h|h
  ·rw[h];exact z.leaf
  ·rw[<-dJ (kX m.who c.sender) s]at h;obtain⟨o,ho,e⟩:=qb.1 h;rw[<-e,hfr o ho];exact(hps o ho).2.2.2
end Kw
namespace Kw
theorem I1{w n:Int}(hw:aR w)(h1:1<=n)(h2:n<=99):secOk (bP w n)=true/\(bK (bP w n)).op=1:=by
 obtain⟨w0,w1⟩:=id hw;have e:sec (bP w n)=some (.new w.toNat n.toNat):=nN.2 ⟨⟨by omega,by omega,by omega⟩,by
  unfold bP;rw[jd ⟨hw,h1,h2⟩]
  rfl,by
  unfold bP;rw[jd ⟨hw,h1,h2⟩];have:=M0 (n:=n.toNat) (by omega)
  simp only[jk,je,jj,xY];omega⟩
 constructor
 ·unfold secOk;rw[e];rfl
 ·unfold bK;rw[e];rfl
theorem I2(x:Int)(r:List Int)(n:Int):gJ (x::r) n=if n<x then x::gJ r n else n::x::r:=by
 unfold gJ;rw[List.takeWhile_cons,List.dropWhile_cons];by_cases h:n<x
 ·rw[jd h,jc h];rfl
 ·rw[jb h,jh h];rfl
theorem mem_insL(l:List Int)(n x:Int):x∈gJ l n↔x=n\/x∈l:=by
 induction l with
 |nil=>simp[gJ]
 |cons a r ih=>
  rw[I2];split
  ·rw[kh,ih,kh];constructor
   ·rintro(h|h|h)
    ·exact .inr (.inl h)
    ·exact .inl h
    ·exact .inr (.inr h)
   ·rintro(h|h|h)
    ·exact .inr (.inl h)
    ·exact .inl h
    ·exact .inr (.inr h)
  ·rw[kh]
theorem UM(l:List Int)(n:Int)(h:l.Pairwise (·> ·))(hn:n∉l):(gJ l n).Pairwise (·> ·):=by
 induction l with
 |nil=>simp[gJ]
 |cons a r ih=>
  rw[yf]at h;rw[I2];have hne:n≠a:=fun e=>hn (by simp[e])
  split
  ·rename_i hlt;rw[yf];refine⟨fun x hx=>?_,ih h.2 (fun y=>hn (by simp[y]))⟩
   rcases(mem_insL r n x).1 hx with rfl|hx
   ·exact hlt
   ·exact h.1 x hx
  ·rename_i hge;rw[yf,yf];refine⟨fun x hx=>?_,h⟩
   rcases kh.1 hx with rfl|hx
   ·show x<n;omega
   ·have:=h.1 x hx;show x<n;have:x<a:=this;omega
theorem Y1{l:List Int}{M:Int}(h:l.Pairwise (·> ·))(hm:M∈l)(hle:∀x∈l,x<=M):ix l 0=M:=by
 cases l with
 |nil=>cases hm
 |cons a r=>
  show a=M;rw[yf]at h;rcases kh.1 hm with e|hm
  ·exact e.symm
  ·have h1:M<a:=h.1 M hm;have h2:=hle a (by simp)
   omega
theorem AQ{w:Win}:winOk w=true↔(bK w.key).op=5/\(1<=w.top/\w.top<=999)/\w.seen≠[]/\ix w.seen 0=w.top/\w.seen.Pairwise (·> ·)/\∀x∈w.seen,w.top-8<x/\1<=x:=by
 unfold winOk;simp only[jf,ja,ko,qp];constructor
 ·rintro⟨⟨h1,h2,h3,h4,h5⟩,h6⟩;have hstep:∀k:Nat,k+1<w.seen.length->ix w.seen ((k+1:Nat):Int)<ix w.seen (k:Int):=fun k hk=>by
   rcases h6 (k+1) hk with h|h
   ·omega
   ·rw[show k+1-1=k by omega]at h
    exact h.1
  have hlt:∀d i:Nat,i+d+1<w.seen.length->ix w.seen ((i+d+1:Nat):Int)<ix w.seen (i:Int):=fun d=>by
   induction d with
   |zero=>intro i hi;exact hstep i hi
   |succ d ih=>
    intro i hi;have a:=ih i (by omega)
    have b:=hstep (i+d+1) (by omega)
    rw[show i+(d+1)+1=i+d+1+1 by omega]
    omega
  refine⟨h1,⟨h2,h3⟩,h4,h5,?_,fun x hx=>?_⟩
  ·rw[v3];intro i j hi hj hij;have:=hlt (j-i-1) i (by omega)
   rw[show i+(j-i-1)+1=j by omega,aZ _ i hi,aZ _ j hj]at this
   exact this
  ·obtain⟨k,hk,rfl⟩:=kx.1 hx;rcases h6 k hk with h|h
   ·subst h;have e:w.seen[0]=w.top:=by rw[<-h5];exact(aZ _ 0 hk).symm
    rw[e];omega
   ·rw[aZ _ k hk]at h;exact h.2
 ·rintro⟨h1,⟨h2,h3⟩,h4,h5,h6,h7⟩;refine⟨⟨h1,h2,h3,h4,h5⟩,fun k hk=>?_⟩
  by_cases h0:k=0
  ·exact .inl h0
  ·right;rw[v3]at h6;have:=h6 (k-1) k (by omega) hk (by omega)
   rw[aZ _ k hk,aZ _ (k-1) (by omega)]
   exact⟨this,h7 _ (jr hk)⟩
theorem PJ{w w':Win}{n:Int}(hw:winOk w=true)(h1:1<=n)(h2:n<=999)(h:winTake w n=some w'):winOk w'=true/\w'.key=w.key:=by
 rw[B7]at h;split at h
 ·cases h
 ·rename_i hb;cases h;obtain⟨k1,⟨k2,k3⟩,k4,k5,k6,k7⟩:=AQ.1 hw;have hn:n∉w.seen:=fun x=>hb (.inl x)
  have ht:w.top∈w.seen:=by
   rw[<-k5];cases hs:w.seen with
   |nil=>exact absurd hs k4
   |cons a r=>exact wb ..
  have hd:=UM w.seen n k6 hn;have hle:∀x∈w.seen,x<=w.top:=fun x hx=>by
   cases hs:w.seen with
   |nil=>exact absurd hs k4
   |cons a r=>
    rw[hs]at k5 k6 hx;have e:a=w.top:=k5;rw[yf]at k6;rcases kh.1 hx with rfl|hx
    ·omega
    ·have:x<a:=k6.1 x hx;omega
  have hmem:∀x,x∈(gJ w.seen n).filter (fun x=>!decide (x<=max w.top n-8))↔(x=n\/x∈w.seen)/\max w.top n-8<x:=fun x=>by
   rw[vd,mem_insL];simp only[vy,jg];constructor
   ·rintro⟨a,b⟩;exact⟨a,by omega⟩
   ·rintro⟨a,b⟩;exact⟨a,by omega⟩
  have hmax:max w.top n∈(gJ w.seen n).filter (fun x=>!decide (x<=max w.top n-8)):=by
   rw[hmem];refine⟨?_,by omega⟩
   rcases Int.le_total w.top n with h|h
   ·left;omega
   ·right;rw[Int.max_eq_left h];exact ht
  refine⟨AQ.2 ⟨k1,⟨by show 1<=max w.top n;omega,by show max w.top n<=999;omega⟩,List.ne_nil_of_mem hmax,?_,hd.filter _,fun x hx=>?_⟩,rfl⟩
  ·show ix ((gJ w.seen n).filter (fun x=>!decide (x<=max w.top n-8))) 0=max w.top n
   refine Y1 (hd.filter _) hmax fun x hx=>?_
   ·rcases((hmem x).1 hx).1 with rfl|h
    ·omega
    ·have:=hle x h;omega
  ·obtain⟨a,b⟩:=(hmem x).1 hx;refine⟨b,?_⟩;rcases a with rfl|a
   ·exact h1
   ·exact(k7 x a).2
theorem winAt_cases:∀(l:List Win) (key:S) (k:Nat),(∃j:Nat,∃h:j<l.length,winAt l key k=((k+j:Nat):Int)/\l[j].key=key)\/(winAt l key k= -1/\∀x∈l,x.key≠key)
 |[],_,_=>.inr ⟨rfl,by simp⟩
 |a::r,key,k=>by
  have e:winAt (a::r) key k=if a.key=key then(k:Int)else winAt r key (k+1):=rfl
  rw[e];by_cases h:a.key=key
  ·rw[jd h];exact .inl ⟨0,by simp,by simp,h⟩
  ·rw[jb h];rcases winAt_cases r key (k+1)with⟨j,hj,h1,h2⟩|⟨h1,h2⟩
   ·exact .inl ⟨j+1,by simpa using hj,by rw[h1];congr 1;omega,h2⟩
   ·refine .inr ⟨h1,fun x hx=>?_⟩
    rcases kh.1 hx with rfl|hx
    ·exact h
    ·exact h2 x hx
theorem B9:∀(l:List Win) (k:Nat),(l.map (·.key)).Nodup->∀(j:Nat) (hj:j<l.length),winAt l l[j].key k=((k+j:Nat):Int)
 |[],_,_,j,hj=>by simp at hj
 |a::r,k,h,j,hj=>by
  rw[vi,v9]at h;have e:∀key,winAt (a::r) key k=if a.key=key then(k:Int)else winAt r key (k+1):=fun _=>rfl
  rw[e];cases j with
  |zero=>rw[jd (by rfl)];rfl
  |succ j=>
   have hj':j<r.length:=by simpa using hj
   have hne:a.key≠r[j].key:=fun e=>h.1 (qb.2 ⟨r[j],jr hj',e.symm⟩)
   have e2:(a::r)[j+1]=r[j]:=rfl;rw[e2,jb hne,B9 r (k+1) h.2 j hj']
   congr 1;omega
theorem CA:∀(l:List Win) (key:S) (k j:Nat),winAt l key k=((k+j:Nat):Int)->∀(i:Nat) (_:i<j) (hl:i<l.length),l[i].key≠key
 |[],_,_,_,_,_,_,hl=>by simp at hl
 |a::r,key,k,j,h,i,hi,hl=>by
  have e:winAt (a::r) key k=if a.key=key then(k:Int)else winAt r key (k+1):=rfl
  rw[e]at h;split at h
  ·omega
  ·rename_i hne;cases i with
   |zero=>exact hne
   |succ i=>exact CA r key (k+1) (j-1) (by rw[h];congr 1;omega) i (by omega) (by simpa using hl)
theorem wT{l:List Win}:nS l=true↔(∀x∈l,winOk x=true)/\(l.map (·.key)).Nodup:=by
 constructor
 ·intro h;refine⟨fun x hx=>nT h hx,?_⟩
  unfold nS at h;simp only[ko,qp,jf,ja]at h;show List.Pairwise _ _;rw[v3];intro i j hi hj hij e;simp only[kb]at hi hj;simp only[yh]at e;have h1:=(h j hj).2;rw[aZ l j hj]at h1;exact CA l l[j].key 0 j (by rw[h1];congr 1;omega) i hij hi e
 ·rintro⟨h1,h2⟩;unfold nS;simp only[ko,qp,jf,ja];intro k hk;rw[aZ l k hk];exact⟨h1 _ (jr hk),by rw[B9 l 0 h2 k hk];congr 1;omega⟩
theorem PK{m:Member}{wins x:List Win}{f:Frame}(hw:nS wins=true)(h:mN m wins f=some x):nS x=true/\x.length<=wins.length+1:=by
 unfold mN at h;split at h
 case isFalse=>cases h
 rename_i hh;have hf:fraOk f=true:=by
  unfold tC at hh;simp only[jf]at hh;exact hh.2.1
 obtain⟨_,_,hsrc,f1,f2⟩:=mI hf;obtain⟨w1,w2⟩:=wT.1 hw;have hop:(bK f.key).op=5:=by
  unfold fraOk at hf;simp only[jf,ja]at hf;exact hf.1.2.1
 simp only at h;rcases winAt_cases wins f.key 0 with⟨j,hj,e,hk⟩|⟨e,hk⟩
 ·rw[e,jb (by omega)]at h
  have ei:ix wins ((0+j:Nat):Int)=wins[j]:=by rw[qr,aZ wins j hj]
  rw[ei]at h;split at h
  case h_2=>cases h
  rename_i y hy;cases h;obtain⟨y1,y2⟩:=PJ (w1 _ (jr hj)) f1 f2 hy;refine⟨wT.2 ⟨fun z hz=>?_,?_⟩,by rw[kf];omega⟩
  ·rcases qw hz with hz|hz
   ·exact w1 z hz
   ·rw[hz];exact y1
  ·rw[List.map_set,y2,show((0+j:Nat):Int).toNat=j by omega]
   have:(wins.map (·.key)).set j wins[j].key=wins.map (·.key):=by
    have:=List.set_getElem_self (show j< (wins.map (·.key)).length by simpa using hj)
    simpa using this
   rw[this];exact w2
 ·rw[e,jd (by omega)]at h
  cases h;refine⟨wT.2 ⟨fun z hz=>?_,?_⟩,by simp⟩
  ·rcases jy.1 hz with hz|hz
   ·exact w1 z hz
   ·rw[qk.1 hz];exact AQ.2 ⟨hop,⟨f1,f2⟩,by simp,rfl,by simp,fun x hx=>by
     have:=qk.1 hx;subst this;show f.n-8<f.n/\1<=f.n;omega⟩
  ·rw[List.map_append,qj];refine⟨w2,by simp,fun a ha b hb e=>?_⟩
   obtain⟨z,hz,rfl⟩:=qb.1 ha;rw[List.map_singleton,qk]at hb;exact hk z hz (by rw[e,hb])
theorem PL{m:Member}{n:Int}{text:S}{f:Frame}(h:jN m n text=some f):fraOk f=true:=by
 unfold jN at h;split at h
 case isFalse=>cases h
 rename_i hc;cases h;obtain⟨h1,h2,h3,h4,h5,h6⟩:=hc;have hw:=(mG h1 h2).1;obtain⟨s1,s2⟩:=MX hw h6;unfold fraOk;simp only[jf,ja];exact⟨⟨hw,s1,s2,h3,h4⟩,h5⟩
theorem M5{m:Member}(h:memOk m=true):(∀s∈fW m,secOk s=true)/\(fW m).length<=6:=by
 unfold fW;split
 ·rename_i hi;have z:=yE h hi.2;have hl:=(mH h).2.1.1;refine⟨fun s hs=>?_,by simp;omega⟩
  rcases jy.1 hs with hs|hs
  ·obtain⟨o,ho,rfl⟩:=qb.1 hs;exact(z.own o ho).2.1
  ·rw[qk.1 hs];exact z.init
 ·exact⟨by simp,by simp⟩
theorem M6{w:Int}(hw:aR w):memOk (fH w (bP w 1) (bP w 2))=true/\(fH w (bP w 1) (bP w 2)).who=w:=by
 obtain⟨i,rfl⟩:=YW hw;have hall:∀i:Fin 8,memOk (fH (i.val:Int) (bP (i.val:Int) 1) (bP (i.val:Int) 2))=true/\(fH (i.val:Int) (bP (i.val:Int) 1) (bP (i.val:Int) 2)).who=(i.val:Int):=by decide+kernel
 exact hall i
end Kw
namespace Kw
theorem Y2{A:Type} [Inhabited A]{l:List A}{n:Int}(h0:0<=n)(h1:n<l.length):ix l n∈l:=by
 obtain⟨k,rfl⟩:=kv h0;rw[aZ l k (by omega)]
 exact jr _
theorem uW{A:Type}(l:List A)(i:Int)(x:A):(eI l i x).length=l.length:=by simp[eI]
theorem mem_set1'{A:Type}{l:List A}{i:Int}{x y:A}(h:y∈eI l i x):y∈l\/y=x:=qw h
theorem M7:memOk cI=true:=by decide+kernel
theorem WG.new{who:Int}(hw:aR who):WG (cP who):=by
 unfold cP;rw[jd hw];obtain⟨f1,f2⟩:=M6 hw;refine{seats:=by simp,fresh:=by simp,said:=by simp,wins:=by simp,log:=by simp,waits:=by simp,frames:=by simp,stolen:=by simp,spy:=by simp,told:=by simp,mem:=?_,freshI:=?_,saidI:=?_,winsI:=?_,logI:=by simp,waitsI:=by simp,spyI:=by simp,stolenI:=by simp,framesI:=by simp,toldI:=by simp,waitsLog:=by simp,winN:=?_,spyN:=by simp}
 ·intro k hk;rw[aZ _ k (by simpa using hk)]
  simp only[yh,List.getElem_range];by_cases h:(k:Int)=who
  ·rw[jd h];exact⟨f1,fun _=>by rw[f2,h]⟩
  ·rw[jb h];exact⟨M7,fun x=>by cases x⟩
 ·intro n hn;obtain⟨k,_,rfl⟩:=qb.1 hn;split<;>omega
 ·intro n hn;rw[wu hn];omega
 ·intro l hl;rw[wu hl];rfl
 ·intro l hl;rw[wu hl];simp
theorem Y3{l:List Member}{i:Int}{m:Member}(hl:l.length=8)(hi:aR i)(h:∀k:Nat,k<8->memOk (ix l (k:Int))=true/\((ix l (k:Int)).inn=true->(ix l (k:Int)).who=k))(hm:memOk m=true)(hw:m.inn=true->m.who=i):
 ∀k:Nat,k<8->memOk (ix (eI l i m) (k:Int))=true/\((ix (eI l i m) (k:Int)).inn=true->(ix (eI l i m) (k:Int)).who=k):=by
 obtain⟨i0,i1⟩:=hi;intro k hk;unfold eI;by_cases e:(k:Int)=i
 ·subst e;rw[tH _ _ _ i0 (by omega)]
  exact⟨hm,hw⟩
 ·rw[pE _ _ _ _ i0 (by omega) e]
  exact h k hk
theorem WG.seatSet{w:World}(z:WG w){i:Int}{m:Member}(hi:aR i)(hm:memOk m=true)(hw:m.inn=true->m.who=i):WG {w with seats:=eI w.seats i m}:=
 {z with
  seats:=by show(eI _ _ _).length=8;rw[uW];exact z.seats
  mem:=Y3 z.seats hi z.mem hm hw}
theorem WG.at{w:World}(z:WG w){i:Int}(hi:aR i):memOk (ix w.seats i)=true/\((ix w.seats i).inn=true->(ix w.seats i).who=i):=by
 obtain⟨i0,i1⟩:=hi;obtain⟨k,rfl⟩:=kv i0;exact z.mem k (by omega)
theorem WG.hear{w:World}(z:WG w){who pos:Int}(hw:aR who):WG (eR w who pos):=by
 unfold eR;simp only;split
 ·rename_i h;obtain⟨h1,h2⟩:=KI h;exact z.seatSet hw h1 fun hi=>by
   obtain⟨a,b⟩:=h2 hi;rw[b,(z.at hw).2 a]
 ·exact z
theorem KJ{w:Int}{leaf key:S}{c:Commit}{m:Member}(h:iL w leaf key c=some m):memOk m=true/\m.who=w/\m.inn=true:=by
 unfold iL at h;split at h
 ·rename_i hc;cases h;exact⟨hc.2.2.2.2.2.2.2.2,rfl,rfl⟩
 ·cases h
theorem WG.join{w:World}(z:WG w){who pos:Int}(hw:aR who):WG (d8 w who pos):=by
 unfold d8;split
 ·exact z
 ·have:∀(l:List Wait) (k:Nat),WG (joinGo w who pos l k):=fun l=>by
   induction l with
   |nil=>intro k;exact z
   |cons x r ih=>
    intro k;rw[joinGo];split
    ·split
     ·rename_i m hm;obtain⟨h1,h2,_⟩:=KJ hm;have z2:=z.seatSet hw h1 fun _=>h2
      have hle:(w.waits.eraseIdx k).length<=w.waits.length:=by rw[List.length_eraseIdx];split<;>omega
      exact{z2 with
       waits:=ku hle z.waits
       waitsLog:=ku hle z.waitsLog
       waitsI:=fun y hy=>z.waitsI y (List.mem_of_mem_eraseIdx hy)}
     ·exact ih (k+1)
    ·exact ih (k+1)
  exact this _ _
theorem WG.steal{w:World}(z:WG w){who:Int}(hw:aR who):WG (dP w who):=by
 unfold dP;split
 ·exact z
 ·rename_i h;obtain⟨h1,_⟩:=z.at hw;obtain⟨k1,k2⟩:=M5 h1;have h12:w.stolen.length≠12:=fun e=>h (.inr e)
  have a:=z.stolen;have b:=z.spyN;exact{z with
   stolen:=by show(w.stolen++_).length<=12;simp;omega
   spy:=by show(w.spy++_).length<=72;rw[jk];omega
   spyN:=by show(w.spy++_).length<=6*(w.stolen++_).length;rw[jk,jk];simp only[je,jj];omega
   spyI:=fun s hs=>by
    rcases jy.1 hs with hs|hs
    ·exact z.spyI s hs
    ·exact k1 s hs
   stolenI:=fun x hx=>by
    rcases jy.1 hx with hx|hx
    ·exact z.stolenI x hx
    ·rw[qk.1 hx];exact⟨hw,(mH h1).2.2.2⟩}
theorem WG.say{w:World}(z:WG w){who:Int}{text:S}(hw:aR who):WG (fJ w who text):=by
 unfold fJ;split
 ·exact z
 ·rename_i h;split
  ·rename_i f hf;have hok:=PL hf;have h40:w.frames.length≠40:=fun e=>h (.inl e)
   have h999:ix w.said who≠999:=fun e=>h (.inr e)
   have a:=z.frames;have zs:=z.said;obtain⟨w0,w1⟩:=hw;obtain⟨s0,s1⟩:=z.saidI _ (Y2 (l:=w.said) w0 (by omega))
   exact{z with
    frames:=by show(w.frames++_).length<=40;simp;omega
    said:=by show(eI _ _ _).length=8;rw[uW];exact z.said
    saidI:=fun n hn=>by
     rcases mem_set1' hn with hn|hn
     ·exact z.saidI n hn
     ·rw[hn];omega
    framesI:=fun g hg=>by
     rcases jy.1 hg with hg|hg
     ·exact z.framesI g hg
     ·rw[qk.1 hg];exact hok
    toldI:=fun x hx=>by
     obtain⟨b1,b2,b3⟩:=z.toldI x hx;exact⟨b1,b2,by show x.pos< ((w.frames++_).length:Nat);rw[jk];omega⟩}
  ·exact z
theorem WG.get{w:World}(z:WG w){who pos:Int}(hw:aR who)(hp:0<=pos/\pos<w.frames.length):WG (fX w who pos):=by
 unfold fX;split
 ·exact z
 ·rename_i h;split
  ·rename_i x hx;obtain⟨w0,w1⟩:=id hw;have zw:=z.wins;have hm:=Y2 (l:=w.wins) w0 (by omega)
   obtain⟨x1,x2⟩:=PK (z.winsI _ hm) hx;have hn:=z.winN _ hm;have a:=z.told;exact{z with
    told:=by show(w.told++_).length<=320;simp;omega
    wins:=by show(eI _ _ _).length=8;rw[uW];exact z.wins
    winsI:=fun l hl=>by
     rcases mem_set1' hl with hl|hl
     ·exact z.winsI l hl
     ·rw[hl];exact x1
    winN:=fun l hl=>by
     show l.length<=(w.told++_).length;rw[jk];simp only[je,jj];rcases mem_set1' hl with hl|hl
     ·have:=z.winN l hl;omega
     ·rw[hl];omega
    toldI:=fun y hy=>by
     rcases jy.1 hy with hy|hy
     ·exact z.toldI y hy
     ·rw[qk.1 hy];exact⟨hw,hp⟩}
  ·exact z
theorem WG.commitEnd{w:World}(z:WG w){e:Event}(hw:aR e.who)(h16:w.log.length≠16)(h99:¬99<=ix w.fresh e.who)(ha: -1<=e.add/\e.add<=7)(h98:¬(0<=e.add/\98<=ix w.fresh e.add))(lf ky:S)(hlf:0<=e.add->secOk lf=true/\secOk ky=true):WG (commitEnd w e lf ky):=by
 unfold Kw.commitEnd;split
 ·exact z
 ·rename_i m c hm;obtain⟨h1,h2,h3⟩:=FK hm;obtain⟨p1,p2,p3,p4,p5,_⟩:=iM h1;obtain⟨w0,w1⟩:=id hw;have zf:=z.fresh;have zl:=z.log;have zw:=z.waits;have zwl:=z.waitsLog;have hwho:=(z.at hw).2 p2;have hmo:memOk m=true:=by rw[h2];exact(FJ h1).1
  have hmw:m.who=e.who:=by rw[h2];exact hwho
  have hco:eO c=true:=by rw[h3];exact PI h1
  obtain⟨f0,f1⟩:=z.freshI _ (Y2 (l:=w.fresh) w0 (by omega))
  have hF:∀n∈eI w.fresh e.who (ix w.fresh e.who+1),0<=n/\n<=99:=fun n hn=>by
   rcases mem_set1' hn with hn|hn
   ·exact z.freshI n hn
   ·rw[hn];omega
  have z2:=z.seatSet hw hmo fun _=>hmw
  have hlen:(w.log++[c]).length=w.log.length+1:=by simp
  exact{z2 with
   log:=by show(w.log++[c]).length<=16;omega
   logI:=fun d hd=>by
    rcases jy.1 hd with hd|hd
    ·exact z.logI d hd
    ·rw[qk.1 hd];exact hco
   fresh:=by
    show(if 0<=e.add then _ else _:List Int).length=8
    split<;>simp only[uW]<;>exact zf
   freshI:=fun n hn=>by
    change n∈(if 0<=e.add then _ else _:List Int)at hn
    split at hn
    ·rename_i h0;rcases mem_set1' hn with hn|hn
     ·exact hF n hn
     ·have hne:e.add≠e.who:=by
       rw[hwho]at p5;exact p5.2.2
      have:ix (eI w.fresh e.who (ix w.fresh e.who+1)) e.add=ix w.fresh e.add:=pE _ _ _ _ w0 h0 hne;rw[hn,this];obtain⟨g0,g1⟩:=z.freshI _ (Y2 (l:=w.fresh) h0 (by omega))
      have:¬98<=ix w.fresh e.add:=fun x=>h98 ⟨h0,x⟩
      omega
    ·exact hF n hn
   waits:=by
    show(if 0<=e.add then _ else _:List Wait).length<=16
    split
    ·rw[jk];simp only[je,jj];omega
    ·exact zw
   waitsLog:=by
    show(if 0<=e.add then _ else _:List Wait).length<=(w.log++[c]).length
    split
    ·rw[jk];simp only[je,jj];omega
    ·omega
   waitsI:=fun x hx=>by
    have hold:∀y∈w.waits,aR y.who/\(0<=y.pos/\y.pos< ((w.log++[c]).length:Nat))/\secOk y.leaf=true/\secOk y.key=true:=fun y hy=>by
     obtain⟨b1,⟨b2,b3⟩,b4⟩:=z.waitsI y hy;exact⟨b1,⟨b2,by omega⟩,b4⟩
    change x∈(if 0<=e.add then _ else _:List Wait)at hx
    split at hx
    ·rename_i h0;rcases jy.1 hx with hx|hx
     ·exact hold x hx
     ·rw[qk.1 hx];exact⟨⟨h0,ha.2⟩,⟨by show(0:Int)<=(w.log.length:Int);omega,by show(w.log.length:Int)< ((w.log++[c]).length:Nat);omega⟩,hlf h0⟩
    ·exact hold x hx}
theorem WG.commit{w:World}(z:WG w){e:Event}(hw:aR e.who):WG (cU w e):=by
 unfold cU;split
 ·exact z
 ·rename_i h;have h16:w.log.length≠16:=fun x=>h (.inl x)
  have h99:¬99<=ix w.fresh e.who:=fun x=>h (.inr (.inl x))
  have ha: -1<=e.add/\e.add<=7:=Decidable.byContradiction fun x=>h (.inr (.inr (.inl x)))
  have h98:¬(0<=e.add/\98<=ix w.fresh e.add):=fun x=>h (.inr (.inr (.inr x)))
  split
  ·rename_i h0;have zf:=z.fresh;obtain⟨g0,g1⟩:=z.freshI _ (Y2 (l:=w.fresh) h0 (by omega))
   have:¬98<=ix w.fresh e.add:=fun x=>h98 ⟨h0,x⟩
   exact z.commitEnd hw h16 h99 ha h98 _ _ fun _=>⟨(I1 ⟨h0,ha.2⟩ (by omega) (by omega)).1,(I1 ⟨h0,ha.2⟩ (by omega) (by omega)).1⟩
  ·rename_i h0;exact z.commitEnd hw h16 h99 ha h98 _ _ fun x=>absurd x h0
theorem WG.step{w:World}(z:WG w)(e:Event):WG (step w e):=by
 unfold Kw.step;by_cases hw:aR e.who
 ·rw[jd hw];split
  ·exact z.commit hw
  split
  ·exact z.steal hw
  split
  ·exact z.say hw
  split
  ·split
   ·exact z.hear hw
   ·exact z
  split
  ·split
   ·exact z.join hw
   ·exact z
  split
  ·split
   ·rename_i hp;exact z.get hw hp
   ·exact z
  ·exact z
 ·rw[jb hw];exact z
def run(w:World)(l:List Event):World:=l.foldl step w
theorem WG.run{w:World}(z:WG w)(l:List Event):WG (run w l):=by
 unfold Kw.run;induction l generalizing w with
 |nil=>exact z
 |cons e r ih=>exact ih (z.step e)
end Kw
namespace Kw
open Go Go.Proofs
section
variable (L D:Nat)
theorem aaH(hL:1099511627776<=L)(evs:List Event)(hl:evs.length<=1000)(ht:∀e∈evs,e.text.length<=500000):∀(m k:Nat) (w:World),WG w->evs.length<m+k->k<=evs.length->
 C3 L (D+316) m [] [] [] [] [] [] [] [] [] [] (w.seats.map rM) (w.log.map rC) (w.fresh.map rI) (w.spy.map rS) (w.stolen.map rSt) (w.frames.map rF) (w.said.map rI) (w.wins.map rWs) (w.told.map rT) (w.waits.map rWt) (nrows []) (nrows []) (nrows []) (nrows []) (nrows []) (nrows []) (nrows []) (nrows []) (nrows []) (nrows []) (w.seats.length:Nat) (w.waits.length:Nat) (w.log.length:Nat) (w.fresh.length:Nat) (w.spy.length:Nat) (w.stolen.length:Nat) (w.frames.length:Nat) (w.said.length:Nat) (w.wins.length:Nat) (w.told.length:Nat) (evs.map rE) (evs.length:Nat) k=some (.agg (wS (run w (evs.drop k))),[])
 |0,k,w,z,h,hk=>by omega
 |m+1,k,w,z,h,hk=>by
  rw[KP];by_cases hlt:k<evs.length
  ·have h':(k:Int)<evs.length:=by omega
   have ih:=aaH hL evs hl ht m (k+1) (step w (ix evs (k:Int))) (z.step _) (by omega) (by omega)
   have hm:ix evs (k:Int)∈evs:=dY (by omega) (by omega)
   have hs:=aiM L D hL w z (ix evs (k:Int)) (ht _ hm);have er:run w (evs.drop k)=run (step w (ix evs (k:Int))) (evs.drop (k+1)):=by
    rw[NQ evs k hlt];rfl
   rw[er];unfold wK at hs;generalize hx:ix evs (k:Int)=x at hs ih;simp(disch:=omega) only[K1,iQ,cM,Nat.reduceAdd,↓aB,aeE,aeF,aeG,aeH,aeI,aeJ,OW,h',hx,hs,DB,aO];exact ih
  ·have h':¬(k:Int)<evs.length:=by omega
   have hc:=S9 L (D+311) hL w z.sz;unfold wS wO at hc;rw[wk (by omega)]
   simp(disch:=omega) only[K1,Nat.reduceAdd,↓aB,h',hc]
   rfl
theorem ae1(hL:1099511627776<=L)(w:World)(z:WG w)(evs:List Event)(hl:evs.length<=200)(ht:∀e∈evs,e.text.length<=500000):
 ev E L (D+317) 20 [.agg (wS w),.sl (evs.map rE)] []=some (.agg (wS (run w evs)),[]):=by
 have hg:=TA L D hL w z;have hc:=S9 L (D+311) hL w z.sz;have hlp:=aaH L D hL evs (by omega) ht L 0 w z (by omega) (by omega)
 unfold wS at hg⊢;unfold wS wO at hc;have h':¬(200:Int)< (evs.length:Int):=by omega
 rw[ajU,hg];rw[kw]at hlp;simp only[aA,aI,bI,bW,aC,aF,aN];rw[jh h',aD,hc];simp only[aA,gAggN_if,je,jj,js,aP,aV,eC,aF];exact hlp
theorem ad2(hL:1099511627776<=L)(w:World)(z:WG w)(e:Event)(ht:e.text.length<=500000):
 ev E L (D+318) 14 [.agg (wS w),.agg [.int .i64 e.kind,.int .i64 e.who,.int .i64 e.add,.int .i64 e.remove,.int .i64 e.pos,.str (bs e.text)]] []=some (.agg (wS (step w e)),[]):=by
 have h:=ae1 L D hL w z [e] (by simp) (fun x hx=>by rw[qk.1 hx];exact ht)
 have er:run w [e]=step w e:=rfl;rw[er]at h;have ee:([e]:List Event).map rE=[[MV.int .i64 e.kind,.int .i64 e.who,.int .i64 e.add,.int .i64 e.remove,.int .i64 e.pos,.str (bs e.text)]]:=rfl;rw[ee]at h;unfold wS at h⊢;rw[ajS,h];simp only[aU,aC,aA,gAggN_if,je,jj,js,aP,aV,eY]
end
end Kw
namespace Kw
open Go Go.Proofs
theorem aaI(b:Bool):bEq b b=true:=by cases b<;>rfl
section
variable (L D:Nat)
theorem QG(hL:1099511627776<=L)(l:List (Int))(hl:l.length<=1000000):ev E L (D+1) 49 [.sl (l.map rI),.sl (l.map rI)] []=some (.bool true,[]):=by
 rw[akC];have key1:=dW l.length (fun _=>true) (fun m k=>uY L (D+0) m (l.map rI) (l.map rI) k) (some (.bool true,[])) none (fun n k hk=>?_) (fun n=>?_) L 0 (by omega) (by omega)
 ·simp only[aF,aU,bI,aD];refine Eq.trans key1 (by simp)
 ·show uY L (D+0) (n+1) _ _ _=_;rw[yM,jd rfl];have h':(k:Int)<l.length:=by omega
  have hm:ix l (k:Int)∈l:=dY (by omega) (by omega)
  simp(disch:=omega) only[K1,↓aB,eK,bR,h',aO]
 ·show uY L (D+0) (n+1) _ _ _=_;rw[yM];have h':¬(l.length:Int)<l.length:=by omega
  simp(disch:=omega) only[K1,h']
theorem K3(hL:1099511627776<=L)(l:List (S))(hl:l.length<=1000000):ev E L (D+1) 50 [.sl (l.map rS),.sl (l.map rS)] []=some (.bool true,[]):=by
 rw[akD];have key1:=dW l.length (fun _=>true) (fun m k=>uZ L (D+0) m (l.map rS) (l.map rS) k) (some (.bool true,[])) none (fun n k hk=>?_) (fun n=>?_) L 0 (by omega) (by omega)
 ·simp only[aF,aU,bI,aD];refine Eq.trans key1 (by simp)
 ·show uZ L (D+0) (n+1) _ _ _=_;rw[yN,jd rfl];have h':(k:Int)<l.length:=by omega
  have hm:ix l (k:Int)∈l:=dY (by omega) (by omega)
  simp(disch:=omega) only[K1,↓cW,eU,bQ,h',aO]
 ·show uZ L (D+0) (n+1) _ _ _=_;rw[yN];have h':¬(l.length:Int)<l.length:=by omega
  simp(disch:=omega) only[K1,h']
theorem ad3(hL:1099511627776<=L)(l:List (Box))(hl:l.length<=1000000):ev E L (D+1) 90 [.sl (l.map rB),.sl (l.map rB)] []=some (.bool true,[]):=by
 rw[akZ];have key1:=dW l.length (fun _=>true) (fun m k=>vA L (D+0) m (l.map rB) (l.map rB) k) (some (.bool true,[])) none (fun n k hk=>?_) (fun n=>?_) L 0 (by omega) (by omega)
 ·simp only[aF,aU,bI,aD];refine Eq.trans key1 (by simp)
 ·show vA L (D+0) (n+1) _ _ _=_;rw[yU,jd rfl];have h':(k:Int)<l.length:=by omega
  have hm:ix l (k:Int)∈l:=dY (by omega) (by omega)
  simp(disch:=omega) only[K1,bJ,↓cW,TS,ac0,qI,h',aO]
 ·show vA L (D+0) (n+1) _ _ _=_;rw[yU];have h':¬(l.length:Int)<l.length:=by omega
  simp(disch:=omega) only[K1,h']
theorem aiN(hL:1099511627776<=L)(l:List (Win))(hl:l.length<=1000000)(hs:∀x∈l,x.seen.length<=1000000):ev E L (D+2) 53 [.sl (l.map rW),.sl (l.map rW)] []=some (.bool true,[]):=by
 rw[akG];have key1:=dW l.length (fun _=>true) (fun m k=>u7 L (D+1) m (l.map rW) (l.map rW) k) (some (.bool true,[])) none (fun n k hk=>?_) (fun n=>?_) L 0 (by omega) (by omega)
 ·simp only[aF,aU,bI,aD];refine Eq.trans key1 (by simp)
 ·show u7 L (D+1) (n+1) _ _ _=_;rw[yP,jd rfl];have h':(k:Int)<l.length:=by omega
  have hm:ix l (k:Int)∈l:=dY (by omega) (by omega)
  have hk:=QG L D hL (ix l (k:Int)).seen (hs _ hm);simp(disch:=omega) only[K1,↓aB,↓cW,TX,ac1,ac2,oP,h',aO,hk]
 ·show u7 L (D+1) (n+1) _ _ _=_;rw[yP];have h':¬(l.length:Int)<l.length:=by omega
  simp(disch:=omega) only[K1,h']
theorem aaJ(hL:1099511627776<=L)(m:Member)(z:MB m):ev E L (D+2) 51 [.agg [.bool m.inn,.int .i64 m.who,.sl (m.keys.map rS),.sl (m.own.map rO),.int .i64 m.epoch,.str (bs m.init),.str (bs m.tag)],.agg [.bool m.inn,.int .i64 m.who,.sl (m.keys.map rS),.sl (m.own.map rO),.int .i64 m.epoch,.str (bs m.init),.str (bs m.tag)]] []=some (.bool true,[]):=by
 rw[akE];have h1:=K3 L D hL m.keys z.keys;have zo:=z.own;have key1:=dW m.own.length (fun _=>true) (fun n k=>u6 L (D+1) n m.inn m.who (m.keys.map rS) (m.own.map rO) m.epoch (bs m.init) (bs m.tag) m.inn m.who (m.keys.map rS) (m.own.map rO) m.epoch (bs m.init) (bs m.tag) k) (some (.bool true,[])) none (fun n k hk=>?_) (fun n=>?_) L 0 (by omega) (by omega)
 ·simp only[aaI,bI,bW,aC,aD,aU,h1,aA,aI,dH,yd,aF];refine Eq.trans key1 (by simp)
 ·show u6 L (D+1) (n+1) _ _ _ _ _ _ _ _ _ _ _ _ _ _ _=_;rw[yO,jd rfl];have h':(k:Int)<m.own.length:=by omega
  simp(disch:=omega) only[K1,bJ,↓aB,↓cW,GN,vM,eD,h',aO]
 ·show u6 L (D+1) (n+1) _ _ _ _ _ _ _ _ _ _ _ _ _ _ _=_;rw[yO];have h':¬(m.own.length:Int)<m.own.length:=by omega
  simp(disch:=omega) only[K1,h']
theorem aaK(hL:1099511627776<=L)(c:Commit)(h1:c.keys.length<=1000000)(h2:c.boxes.length<=1000000):ev E L (D+2) 52 [.agg [.int .i64 c.sender,.str (bs c.tag),.str (bs c.name),.int .i64 c.add,.int .i64 c.remove,.str (bs c.leaf),.sl (c.keys.map rS),.sl (c.boxes.map rB),.str (bs c.wkey),.str (bs c.wik),.str (bs c.wis),.str (bs c.wsk),.str (bs c.wss)],.agg [.int .i64 c.sender,.str (bs c.tag),.str (bs c.name),.int .i64 c.add,.int .i64 c.remove,.str (bs c.leaf),.sl (c.keys.map rS),.sl (c.boxes.map rB),.str (bs c.wkey),.str (bs c.wik),.str (bs c.wis),.str (bs c.wsk),.str (bs c.wss)]] []=some (.bool true,[]):=by
 rw[akF];have k1:=K3 L D hL c.keys h1;have k2:=ad3 L D hL c.boxes h2;simp only[aU,dH,yd,aC,k1,k2,aA,aI,dE]
theorem ad4(hL:1099511627776<=L)(w:World)(z:WSzI w):lC L (D+3) L (w.seats.map rM) (w.waits.map rWt) (w.log.map rC) (w.fresh.map rI) (w.spy.map rS) (w.stolen.map rSt) (w.frames.map rF) (w.said.map rI) (w.wins.map rWs) (w.told.map rT) (w.seats.map rM) (w.waits.map rWt) (w.log.map rC) (w.fresh.map rI) (w.spy.map rS) (w.stolen.map rSt) (w.frames.map rF) (w.said.map rI) (w.wins.map rWs) (w.told.map rT) 0=(some (.bool true,[])):=by
 have hz:=z.told;refine Eq.trans (dW w.told.length (fun _=>true) (fun m k=>lC L (D+3) m (w.seats.map rM) (w.waits.map rWt) (w.log.map rC) (w.fresh.map rI) (w.spy.map rS) (w.stolen.map rSt) (w.frames.map rF) (w.said.map rI) (w.wins.map rWs) (w.told.map rT) (w.seats.map rM) (w.waits.map rWt) (w.log.map rC) (w.fresh.map rI) (w.spy.map rS) (w.stolen.map rSt) (w.frames.map rF) (w.said.map rI) (w.wins.map rWs) (w.told.map rT) k) (some (.bool true,[])) none (fun n k hk=>?_) (fun n=>?_) L 0 (by omega) (by omega)) (by simp)
 ·show lC L (D+3) (n+1) _ _ _ _ _ _ _ _ _ _ _ _ _ _ _ _ _ _ _ _ _=_;rw[vY,jd rfl];have h':(k:Int)<w.told.length:=by omega
  have hm:ix w.told (k:Int)∈w.told:=dY (by omega) (by omega)
  simp(disch:=omega) only[K1,bJ,↓aB,alO,alP,XR,h',aO]
 ·show lC L (D+3) (n+1) _ _ _ _ _ _ _ _ _ _ _ _ _ _ _ _ _ _ _ _ _=_;rw[vY];have h':¬(w.told.length:Int)<w.told.length:=by omega
  simp(disch:=omega) only[K1,h']
theorem ad5(hL:1099511627776<=L)(w:World)(z:WSzI w):lB L (D+3) L (w.seats.map rM) (w.waits.map rWt) (w.log.map rC) (w.fresh.map rI) (w.spy.map rS) (w.stolen.map rSt) (w.frames.map rF) (w.said.map rI) (w.wins.map rWs) (w.told.map rT) (w.seats.map rM) (w.waits.map rWt) (w.log.map rC) (w.fresh.map rI) (w.spy.map rS) (w.stolen.map rSt) (w.frames.map rF) (w.said.map rI) (w.wins.map rWs) (w.told.map rT) 0=(lC L (D+3) L (w.seats.map rM) (w.waits.map rWt) (w.log.map rC) (w.fresh.map rI) (w.spy.map rS) (w.stolen.map rSt) (w.frames.map rF) (w.said.map rI) (w.wins.map rWs) (w.told.map rT) (w.seats.map rM) (w.waits.map rWt) (w.log.map rC) (w.fresh.map rI) (w.spy.map rS) (w.stolen.map rSt) (w.frames.map rF) (w.said.map rI) (w.wins.map rWs) (w.told.map rT) 0):=by
 have hz:=z.wins;refine Eq.trans (dW w.wins.length (fun _=>true) (fun m k=>lB L (D+3) m (w.seats.map rM) (w.waits.map rWt) (w.log.map rC) (w.fresh.map rI) (w.spy.map rS) (w.stolen.map rSt) (w.frames.map rF) (w.said.map rI) (w.wins.map rWs) (w.told.map rT) (w.seats.map rM) (w.waits.map rWt) (w.log.map rC) (w.fresh.map rI) (w.spy.map rS) (w.stolen.map rSt) (w.frames.map rF) (w.said.map rI) (w.wins.map rWs) (w.told.map rT) k) (lC L (D+3) L (w.seats.map rM) (w.waits.map rWt) (w.log.map rC) (w.fresh.map rI) (w.spy.map rS) (w.stolen.map rSt) (w.frames.map rF) (w.said.map rI) (w.wins.map rWs) (w.told.map rT) (w.seats.map rM) (w.waits.map rWt) (w.log.map rC) (w.fresh.map rI) (w.spy.map rS) (w.stolen.map rSt) (w.frames.map rF) (w.said.map rI) (w.wins.map rWs) (w.told.map rT) 0) none (fun n k hk=>?_) (fun n=>?_) L 0 (by omega) (by omega)) (by simp)
 ·show lB L (D+3) (n+1) _ _ _ _ _ _ _ _ _ _ _ _ _ _ _ _ _ _ _ _ _=_;rw[vX,jd rfl];have h':(k:Int)<w.wins.length:=by omega
  have hm:ix w.wins (k:Int)∈w.wins:=dY (by omega) (by omega)
  have hk2:=aiN L (D+1) hL (ix w.wins (k:Int)) (z.win _ hm).1 (z.win _ hm).2;simp(disch:=omega) only[K1,lJ,eW,h',aO,hk2]
 ·show lB L (D+3) (n+1) _ _ _ _ _ _ _ _ _ _ _ _ _ _ _ _ _ _ _ _ _=_;rw[vX];have h':¬(w.wins.length:Int)<w.wins.length:=by omega
  simp(disch:=omega) only[K1,h']
theorem ad6(hL:1099511627776<=L)(w:World)(z:WSzI w):lA L (D+3) L (w.seats.map rM) (w.waits.map rWt) (w.log.map rC) (w.fresh.map rI) (w.spy.map rS) (w.stolen.map rSt) (w.frames.map rF) (w.said.map rI) (w.wins.map rWs) (w.told.map rT) (w.seats.map rM) (w.waits.map rWt) (w.log.map rC) (w.fresh.map rI) (w.spy.map rS) (w.stolen.map rSt) (w.frames.map rF) (w.said.map rI) (w.wins.map rWs) (w.told.map rT) 0=(lB L (D+3) L (w.seats.map rM) (w.waits.map rWt) (w.log.map rC) (w.fresh.map rI) (w.spy.map rS) (w.stolen.map rSt) (w.frames.map rF) (w.said.map rI) (w.wins.map rWs) (w.told.map rT) (w.seats.map rM) (w.waits.map rWt) (w.log.map rC) (w.fresh.map rI) (w.spy.map rS) (w.stolen.map rSt) (w.frames.map rF) (w.said.map rI) (w.wins.map rWs) (w.told.map rT) 0):=by
 have hz:=z.frames;refine Eq.trans (dW w.frames.length (fun _=>true) (fun m k=>lA L (D+3) m (w.seats.map rM) (w.waits.map rWt) (w.log.map rC) (w.fresh.map rI) (w.spy.map rS) (w.stolen.map rSt) (w.frames.map rF) (w.said.map rI) (w.wins.map rWs) (w.told.map rT) (w.seats.map rM) (w.waits.map rWt) (w.log.map rC) (w.fresh.map rI) (w.spy.map rS) (w.stolen.map rSt) (w.frames.map rF) (w.said.map rI) (w.wins.map rWs) (w.told.map rT) k) (lB L (D+3) L (w.seats.map rM) (w.waits.map rWt) (w.log.map rC) (w.fresh.map rI) (w.spy.map rS) (w.stolen.map rSt) (w.frames.map rF) (w.said.map rI) (w.wins.map rWs) (w.told.map rT) (w.seats.map rM) (w.waits.map rWt) (w.log.map rC) (w.fresh.map rI) (w.spy.map rS) (w.stolen.map rSt) (w.frames.map rF) (w.said.map rI) (w.wins.map rWs) (w.told.map rT) 0) none (fun n k hk=>?_) (fun n=>?_) L 0 (by omega) (by omega)) (by simp)
 ·show lA L (D+3) (n+1) _ _ _ _ _ _ _ _ _ _ _ _ _ _ _ _ _ _ _ _ _=_;rw[vW,jd rfl];have h':(k:Int)<w.frames.length:=by omega
  have hm:ix w.frames (k:Int)∈w.frames:=dY (by omega) (by omega)
  simp(disch:=omega) only[K1,bJ,↓aB,↓cW,TT,TU,TV,TW,wG,h',aO]
 ·show lA L (D+3) (n+1) _ _ _ _ _ _ _ _ _ _ _ _ _ _ _ _ _ _ _ _ _=_;rw[vW];have h':¬(w.frames.length:Int)<w.frames.length:=by omega
  simp(disch:=omega) only[K1,h']
theorem ad7(hL:1099511627776<=L)(w:World)(z:WSzI w):kZ L (D+3) L (w.seats.map rM) (w.waits.map rWt) (w.log.map rC) (w.fresh.map rI) (w.spy.map rS) (w.stolen.map rSt) (w.frames.map rF) (w.said.map rI) (w.wins.map rWs) (w.told.map rT) (w.seats.map rM) (w.waits.map rWt) (w.log.map rC) (w.fresh.map rI) (w.spy.map rS) (w.stolen.map rSt) (w.frames.map rF) (w.said.map rI) (w.wins.map rWs) (w.told.map rT) 0=(lA L (D+3) L (w.seats.map rM) (w.waits.map rWt) (w.log.map rC) (w.fresh.map rI) (w.spy.map rS) (w.stolen.map rSt) (w.frames.map rF) (w.said.map rI) (w.wins.map rWs) (w.told.map rT) (w.seats.map rM) (w.waits.map rWt) (w.log.map rC) (w.fresh.map rI) (w.spy.map rS) (w.stolen.map rSt) (w.frames.map rF) (w.said.map rI) (w.wins.map rWs) (w.told.map rT) 0):=by
 have hz:=z.stolen;refine Eq.trans (dW w.stolen.length (fun _=>true) (fun m k=>kZ L (D+3) m (w.seats.map rM) (w.waits.map rWt) (w.log.map rC) (w.fresh.map rI) (w.spy.map rS) (w.stolen.map rSt) (w.frames.map rF) (w.said.map rI) (w.wins.map rWs) (w.told.map rT) (w.seats.map rM) (w.waits.map rWt) (w.log.map rC) (w.fresh.map rI) (w.spy.map rS) (w.stolen.map rSt) (w.frames.map rF) (w.said.map rI) (w.wins.map rWs) (w.told.map rT) k) (lA L (D+3) L (w.seats.map rM) (w.waits.map rWt) (w.log.map rC) (w.fresh.map rI) (w.spy.map rS) (w.stolen.map rSt) (w.frames.map rF) (w.said.map rI) (w.wins.map rWs) (w.told.map rT) (w.seats.map rM) (w.waits.map rWt) (w.log.map rC) (w.fresh.map rI) (w.spy.map rS) (w.stolen.map rSt) (w.frames.map rF) (w.said.map rI) (w.wins.map rWs) (w.told.map rT) 0) none (fun n k hk=>?_) (fun n=>?_) L 0 (by omega) (by omega)) (by simp)
 ·show kZ L (D+3) (n+1) _ _ _ _ _ _ _ _ _ _ _ _ _ _ _ _ _ _ _ _ _=_;rw[vV,jd rfl];have h':(k:Int)<w.stolen.length:=by omega
  have hm:ix w.stolen (k:Int)∈w.stolen:=dY (by omega) (by omega)
  simp(disch:=omega) only[K1,bJ,↓aB,↓cW,aj6,aj7,RE,h',aO]
 ·show kZ L (D+3) (n+1) _ _ _ _ _ _ _ _ _ _ _ _ _ _ _ _ _ _ _ _ _=_;rw[vV];have h':¬(w.stolen.length:Int)<w.stolen.length:=by omega
  simp(disch:=omega) only[K1,h']
theorem ad8(hL:1099511627776<=L)(w:World)(z:WSzI w):kY L (D+3) L (w.seats.map rM) (w.waits.map rWt) (w.log.map rC) (w.fresh.map rI) (w.spy.map rS) (w.stolen.map rSt) (w.frames.map rF) (w.said.map rI) (w.wins.map rWs) (w.told.map rT) (w.seats.map rM) (w.waits.map rWt) (w.log.map rC) (w.fresh.map rI) (w.spy.map rS) (w.stolen.map rSt) (w.frames.map rF) (w.said.map rI) (w.wins.map rWs) (w.told.map rT) 0=(kZ L (D+3) L (w.seats.map rM) (w.waits.map rWt) (w.log.map rC) (w.fresh.map rI) (w.spy.map rS) (w.stolen.map rSt) (w.frames.map rF) (w.said.map rI) (w.wins.map rWs) (w.told.map rT) (w.seats.map rM) (w.waits.map rWt) (w.log.map rC) (w.fresh.map rI) (w.spy.map rS) (w.stolen.map rSt) (w.frames.map rF) (w.said.map rI) (w.wins.map rWs) (w.told.map rT) 0):=by
 have hz:=z.waits;refine Eq.trans (dW w.waits.length (fun _=>true) (fun m k=>kY L (D+3) m (w.seats.map rM) (w.waits.map rWt) (w.log.map rC) (w.fresh.map rI) (w.spy.map rS) (w.stolen.map rSt) (w.frames.map rF) (w.said.map rI) (w.wins.map rWs) (w.told.map rT) (w.seats.map rM) (w.waits.map rWt) (w.log.map rC) (w.fresh.map rI) (w.spy.map rS) (w.stolen.map rSt) (w.frames.map rF) (w.said.map rI) (w.wins.map rWs) (w.told.map rT) k) (kZ L (D+3) L (w.seats.map rM) (w.waits.map rWt) (w.log.map rC) (w.fresh.map rI) (w.spy.map rS) (w.stolen.map rSt) (w.frames.map rF) (w.said.map rI) (w.wins.map rWs) (w.told.map rT) (w.seats.map rM) (w.waits.map rWt) (w.log.map rC) (w.fresh.map rI) (w.spy.map rS) (w.stolen.map rSt) (w.frames.map rF) (w.said.map rI) (w.wins.map rWs) (w.told.map rT) 0) none (fun n k hk=>?_) (fun n=>?_) L 0 (by omega) (by omega)) (by simp)
 ·show kY L (D+3) (n+1) _ _ _ _ _ _ _ _ _ _ _ _ _ _ _ _ _ _ _ _ _=_;rw[vU,jd rfl];have h':(k:Int)<w.waits.length:=by omega
  have hm:ix w.waits (k:Int)∈w.waits:=dY (by omega) (by omega)
  simp(disch:=omega) only[K1,bJ,↓aB,↓cW,sP,sQ,sR,sS,jJ,h',aO]
 ·show kY L (D+3) (n+1) _ _ _ _ _ _ _ _ _ _ _ _ _ _ _ _ _ _ _ _ _=_;rw[vU];have h':¬(w.waits.length:Int)<w.waits.length:=by omega
  simp(disch:=omega) only[K1,h']
theorem aiO(hL:1099511627776<=L)(w:World)(z:WSzI w):m0 L (D+3) L (w.seats.map rM) (w.waits.map rWt) (w.log.map rC) (w.fresh.map rI) (w.spy.map rS) (w.stolen.map rSt) (w.frames.map rF) (w.said.map rI) (w.wins.map rWs) (w.told.map rT) (w.seats.map rM) (w.waits.map rWt) (w.log.map rC) (w.fresh.map rI) (w.spy.map rS) (w.stolen.map rSt) (w.frames.map rF) (w.said.map rI) (w.wins.map rWs) (w.told.map rT) 0=(kY L (D+3) L (w.seats.map rM) (w.waits.map rWt) (w.log.map rC) (w.fresh.map rI) (w.spy.map rS) (w.stolen.map rSt) (w.frames.map rF) (w.said.map rI) (w.wins.map rWs) (w.told.map rT) (w.seats.map rM) (w.waits.map rWt) (w.log.map rC) (w.fresh.map rI) (w.spy.map rS) (w.stolen.map rSt) (w.frames.map rF) (w.said.map rI) (w.wins.map rWs) (w.told.map rT) 0):=by
 have hz:=z.log;refine Eq.trans (dW w.log.length (fun _=>true) (fun m k=>m0 L (D+3) m (w.seats.map rM) (w.waits.map rWt) (w.log.map rC) (w.fresh.map rI) (w.spy.map rS) (w.stolen.map rSt) (w.frames.map rF) (w.said.map rI) (w.wins.map rWs) (w.told.map rT) (w.seats.map rM) (w.waits.map rWt) (w.log.map rC) (w.fresh.map rI) (w.spy.map rS) (w.stolen.map rSt) (w.frames.map rF) (w.said.map rI) (w.wins.map rWs) (w.told.map rT) k) (kY L (D+3) L (w.seats.map rM) (w.waits.map rWt) (w.log.map rC) (w.fresh.map rI) (w.spy.map rS) (w.stolen.map rSt) (w.frames.map rF) (w.said.map rI) (w.wins.map rWs) (w.told.map rT) (w.seats.map rM) (w.waits.map rWt) (w.log.map rC) (w.fresh.map rI) (w.spy.map rS) (w.stolen.map rSt) (w.frames.map rF) (w.said.map rI) (w.wins.map rWs) (w.told.map rT) 0) none (fun n k hk=>?_) (fun n=>?_) L 0 (by omega) (by omega)) (by simp)
 ·show m0 L (D+3) (n+1) _ _ _ _ _ _ _ _ _ _ _ _ _ _ _ _ _ _ _ _ _=_;rw[yI,jd rfl];have h':(k:Int)<w.log.length:=by omega
  have hm:ix w.log (k:Int)∈w.log:=dY (by omega) (by omega)
  have hk2:=aaK L (D+1) hL (ix w.log (k:Int)) (z.cmt _ hm).1 (z.cmt _ hm).2;simp(disch:=omega) only[K1,D2,D3,D4,D5,D6,D7,D8,D9,EA,EB,sM,sN,sO,lP,h',aO,hk2]
 ·show m0 L (D+3) (n+1) _ _ _ _ _ _ _ _ _ _ _ _ _ _ _ _ _ _ _ _ _=_;rw[yI];have h':¬(w.log.length:Int)<w.log.length:=by omega
  simp(disch:=omega) only[K1,h']
theorem aiP(hL:1099511627776<=L)(w:World)(z:WSzI w):qW L (D+3) L (w.seats.map rM) (w.waits.map rWt) (w.log.map rC) (w.fresh.map rI) (w.spy.map rS) (w.stolen.map rSt) (w.frames.map rF) (w.said.map rI) (w.wins.map rWs) (w.told.map rT) (w.seats.map rM) (w.waits.map rWt) (w.log.map rC) (w.fresh.map rI) (w.spy.map rS) (w.stolen.map rSt) (w.frames.map rF) (w.said.map rI) (w.wins.map rWs) (w.told.map rT) 0=(m0 L (D+3) L (w.seats.map rM) (w.waits.map rWt) (w.log.map rC) (w.fresh.map rI) (w.spy.map rS) (w.stolen.map rSt) (w.frames.map rF) (w.said.map rI) (w.wins.map rWs) (w.told.map rT) (w.seats.map rM) (w.waits.map rWt) (w.log.map rC) (w.fresh.map rI) (w.spy.map rS) (w.stolen.map rSt) (w.frames.map rF) (w.said.map rI) (w.wins.map rWs) (w.told.map rT) 0):=by
 have hz:=z.seats;refine Eq.trans (dW w.seats.length (fun _=>true) (fun m k=>qW L (D+3) m (w.seats.map rM) (w.waits.map rWt) (w.log.map rC) (w.fresh.map rI) (w.spy.map rS) (w.stolen.map rSt) (w.frames.map rF) (w.said.map rI) (w.wins.map rWs) (w.told.map rT) (w.seats.map rM) (w.waits.map rWt) (w.log.map rC) (w.fresh.map rI) (w.spy.map rS) (w.stolen.map rSt) (w.frames.map rF) (w.said.map rI) (w.wins.map rWs) (w.told.map rT) k) (m0 L (D+3) L (w.seats.map rM) (w.waits.map rWt) (w.log.map rC) (w.fresh.map rI) (w.spy.map rS) (w.stolen.map rSt) (w.frames.map rF) (w.said.map rI) (w.wins.map rWs) (w.told.map rT) (w.seats.map rM) (w.waits.map rWt) (w.log.map rC) (w.fresh.map rI) (w.spy.map rS) (w.stolen.map rSt) (w.frames.map rF) (w.said.map rI) (w.wins.map rWs) (w.told.map rT) 0) none (fun n k hk=>?_) (fun n=>?_) L 0 (by omega) (by omega)) (by simp)
 ·show qW L (D+3) (n+1) _ _ _ _ _ _ _ _ _ _ _ _ _ _ _ _ _ _ _ _ _=_;rw[yH,jd rfl];have h':(k:Int)<w.seats.length:=by omega
  have hm:ix w.seats (k:Int)∈w.seats:=dY (by omega) (by omega)
  have hk2:=aaJ L (D+1) hL (ix w.seats (k:Int)) (z.mem _ hm);simp(disch:=omega) only[K1,gI,iS,iT,iU,iV,iW,iX,cJ,h',aO,hk2]
 ·show qW L (D+3) (n+1) _ _ _ _ _ _ _ _ _ _ _ _ _ _ _ _ _ _ _ _ _=_;rw[yH];have h':¬(w.seats.length:Int)<w.seats.length:=by omega
  simp(disch:=omega) only[K1,h']
theorem ad9(hL:1099511627776<=L)(w:World)(z:WSzI w):ev E L (D+4) 13 [.agg (wS w),.agg (wS w)] []=some (.bool true,[]):=by
 unfold wS;rw[ajR];have h1:=QG L (D+2) hL w.fresh z.fresh;have h2:=K3 L (D+2) hL w.spy z.spy;have h3:=QG L (D+2) hL w.said z.said;simp only[aU,bI,bW,aC,aD,h1,h2,h3,aA,aI];exact(aiP L D hL w z).trans ((aiO L D hL w z).trans ((ad8 L D hL w z).trans ((ad7 L D hL w z).trans ((ad6 L D hL w z).trans ((ad5 L D hL w z).trans (ad4 L D hL w z))))))
end
end Kw
namespace Kw
theorem M8{w:World}{e:Event}(h:¬aR e.who):step w e=w:=jb h
theorem FL{m:Member}{f:S}{a r:Int}{lf ky:S}(h:cT m f a r lf ky=false):fC m f a r lf ky=none:=by
 unfold fC;rw[jb (by rw[h];simp)]
theorem tI{w:World}{e:Event}{lf ky:S}(h:∀f a b,cT (ix w.seats e.who) f e.add e.remove a b=false):commitEnd w e lf ky=w:=by
 unfold commitEnd;rw[FL (h _ _ _)]
theorem tJ{w:World}{e:Event}(h:∀f a b,cT (ix w.seats e.who) f e.add e.remove a b=false):cU w e=w:=by
 unfold cU;split
 ·rfl
 ·split
  ·exact tI h
  ·exact tI h
theorem KK{m:Member}(h:m.inn=false){f:S}{a r:Int}{lf ky:S}:cT m f a r lf ky=false:=by
 rw[qu];intro x;have:=(iM x).2.1;rw[h]at this;cases this
theorem KL{m:Member}{f:S}{r:Int}{lf ky:S}:cT m f m.who r lf ky=false:=by
 rw[qu];intro x;exact(iM x).2.2.2.2.1.2.2 rfl
theorem KM{m:Member}{f:S}{a:Int}{lf ky:S}:cT m f a m.who lf ky=false:=by
 rw[qu];intro x;exact(iM x).2.2.2.2.2.1.2.2 rfl
theorem UN(w:World):∀e∈([⟨1,-1,-1,-1,0,[]⟩,⟨2,1,0,0,w.log.length,[]⟩,⟨3,1,0,0,-1,[]⟩,⟨6,1,0,0,w.frames.length,[]⟩,⟨0,0,0,0,0,[]⟩,⟨4,8,0,0,0,[]⟩]:List Event),step w e=w:=by
 intro e he;simp only[kh,yb,or_false]at he;rcases he with rfl|rfl|rfl|rfl|rfl|rfl
 ·exact M8 (by decide)
 ·unfold step;simp only;rw[jd (by decide),jb (by decide),jb (by decide),jb (by decide),jd (by decide),jb (by omega)]
 ·unfold step;simp only;rw[jd (by decide),jb (by decide),jb (by decide),jb (by decide),jb (by decide),jd (by decide),jb (by omega)]
 ·unfold step;simp only;rw[jd (by decide),jb (by decide),jb (by decide),jb (by decide),jb (by decide),jb (by decide),jd (by decide),jb (by omega)]
 ·unfold step;simp only;rw[jd (by decide),jb (by decide),jb (by decide),jb (by decide),jb (by decide),jb (by decide),jb (by decide)]
 ·exact M8 (by decide)
theorem acM(w:World)(k:Int)(hk:aR k)(h:(ix w.seats k).inn=false):∀e∈([⟨1,k,-1,-1,0,[]⟩,⟨5,k,0,0,0,[]⟩,⟨4,k,0,0,0,[]⟩]:List Event),step w e=w:=by
 intro e he;simp only[kh,yb,or_false]at he;rcases he with rfl|rfl|rfl
 ·unfold step;simp only;rw[jd hk,jd (by decide)]
  exact tJ fun _ _ _=>KK h
 ·unfold step;simp only;rw[jd hk,jb (by decide),jb (by decide),jd (by decide)]
  unfold fJ;split
  ·rfl
  ·have:jN (ix w.seats k) (ix w.said k+1) []=none:=by
    unfold jN;rw[jb (fun x=>by rw[h]at x;cases x.2.1)]
   rw[this]
 ·unfold step;simp only;rw[jd hk,jb (by decide),jd (by decide)]
  unfold dP;rw[jd (.inl h)]
theorem af4(w:World)(k:Int)(hk:aR k)(h:(ix w.seats k).inn=true)(hw:(ix w.seats k).who=k):∀e∈([⟨1,k,k,-1,0,[]⟩,⟨1,k,-1,k,0,[]⟩,⟨3,k,0,0,0,[]⟩]:List Event),step w e=w:=by
 intro e he;simp only[kh,yb,or_false]at he;rcases he with rfl|rfl|rfl
 ·unfold step;simp only;rw[jd hk,jd (by decide)]
  refine tJ fun f a b=>?_
  have:= @KL (ix w.seats k) f (-1) a b;rw[hw]at this;exact this
 ·unfold step;simp only;rw[jd hk,jd (by decide)]
  refine tJ fun f a b=>?_
  have:= @KM (ix w.seats k) f (-1) a b;rw[hw]at this;exact this
 ·unfold step;simp only;rw[jd hk,jb (by decide),jb (by decide),jb (by decide),jb (by decide),jd (by decide)]
  split
  ·unfold d8;rw[jd h]
  ·rfl
end Kw
namespace Kw
open Go Go.Proofs
section
variable (L D:Nat)
theorem amC(hL:1099511627776<=L):ev E L (D+308) 12 [] []=some (.bool true,[]):=by
 have h:secOk [65,49,59]=true:=by decide+kernel
 have h2:=hD L (D+1) hL [65,49,59] (by simp)
 rw[h]at h2;rw[ajQ,h2]
 rfl
theorem adA(hL:1099511627776<=L)(w:World)(z:WG w)(evs:List Event)(hl:evs.length<=1000)(hb:∀e∈evs,step w e=w/\e.text=[]):qV L (D+318) L (evs.map rE) (w.seats.map rM) (w.waits.map rWt) (w.log.map rC) (w.fresh.map rI) (w.spy.map rS) (w.stolen.map rSt) (w.frames.map rF) (w.said.map rI) (w.wins.map rWs) (w.told.map rT) (evs.length:Nat) 0=some (.bool true,[]):=by
 refine Eq.trans (dW evs.length (fun _=>true) (fun m k=>qV L (D+318) m (evs.map rE) (w.seats.map rM) (w.waits.map rWt) (w.log.map rC) (w.fresh.map rI) (w.spy.map rS) (w.stolen.map rSt) (w.frames.map rF) (w.said.map rI) (w.wins.map rWs) (w.told.map rT) (evs.length:Nat) k) (some (.bool true,[])) none (fun n k hk=>?_) (fun n=>?_) L 0 (by omega) (by omega)) (by simp)
 ·show qV L (D+318) (n+1) _ _ _ _ _ _ _ _ _ _ _ _ _=_;rw[yG,jd rfl];have h':(k:Int)<evs.length:=by omega
  have hm:ix evs (k:Int)∈evs:=dY (by omega) (by omega)
  obtain⟨h1,h2⟩:=hb _ hm;have hs:=ad2 L D hL w z (ix evs (k:Int)) (by rw[h2];simp)
  have hw:=ad9 L (D+314) hL w z.sz;rw[h1]at hs;unfold wS at hs hw;generalize hx:ix evs (k:Int)=x at hs;simp(disch:=omega) only[K1,Nat.reduceAdd,↓aB,aeE,aeF,aeG,aeH,aeI,aeJ,RB,OW,h',hx,hs,hw,aO]
 ·show qV L (D+318) (n+1) _ _ _ _ _ _ _ _ _ _ _ _ _=_;rw[yG];have h':¬(evs.length:Int)<evs.length:=by omega
  have hk:=amC L (D+10) hL;simp(disch:=omega) only[K1,↓aB,h',hk]
theorem aaL(evs:List Event)(a b c:Event):aM (evs.map rE) [rE a,rE b,rE c]=(evs++[a,b,c]).map rE:=by
 rw[show[rE a,rE b,rE c]=([a,b,c]:List Event).map rE from rfl]
 exact eG rE evs [a,b,c]
theorem K4(hL:1099511627776<=L)(w:World)(z:WG w):∀(m k:Nat) (evs:List Event),8<m+k->k<=8->evs.length<=6+3*k->(∀e∈evs,step w e=w/\e.text=[])->
 AS L (D+318) m (evs.map rE) (w.seats.map rM) (w.waits.map rWt) (w.log.map rC) (w.fresh.map rI) (w.spy.map rS) (w.stolen.map rSt) (w.frames.map rF) (w.said.map rI) (w.wins.map rWs) (w.told.map rT) (evs.length:Nat) k=some (.bool true,[])
 |0,k,evs,h,hk,hl,hb=>by omega
 |m+1,k,evs,h,hk,hl,hb=>by
  rw[NC];by_cases hlt:k<8
  ·have h':(k:Int)<8:=by omega
   have z8:=z.seats;have hw:aR (k:Int):=⟨by omega,by omega⟩
   have hwho:=(z.mem k hlt).2;cases hi:(ix w.seats (k:Int)).inn with
   |false=>
    have hbo:=acM w k hw hi;have ih:=K4 hL w z m (k+1) (evs++[⟨1,k,-1,-1,0,[]⟩,⟨5,k,0,0,0,[]⟩,⟨4,k,0,0,0,[]⟩]) (by omega) (by omega) (by simp;omega) (fun e he=>by
     rcases jy.1 he with he|he
     ·exact hb e he
     ·refine⟨hbo e he,?_⟩;simp only[kh,yb,or_false]at he;rcases he with rfl|rfl|rfl<;>rfl)
    have er:[[MV.int .i64 1,.int .i64 k,.int .i64 (-1),.int .i64 (-1),.int .i64 0,.str (bs [])],[.int .i64 5,.int .i64 k,.int .i64 0,.int .i64 0,.int .i64 0,.str (bs [])],[.int .i64 4,.int .i64 k,.int .i64 0,.int .i64 0,.int .i64 0,.str (bs [])]]=[rE ⟨1,k,-1,-1,0,[]⟩,rE ⟨5,k,0,0,0,[]⟩,rE ⟨4,k,0,0,0,[]⟩]:=rfl;have q2:bH (evs.length:Int) (nrows [rE ⟨1,k,-1,-1,0,[]⟩,rE ⟨5,k,0,0,0,[]⟩,rE ⟨4,k,0,0,0,[]⟩]) 56=true:=aJ _ _ _ (by show((evs.length:Int)+3)*56<=_;omega)
    have q1:okR 6 [rE ⟨1,k,-1,-1,0,[]⟩,rE ⟨5,k,0,0,0,[]⟩,rE ⟨4,k,0,0,0,[]⟩]=true:=rfl;have a1:aG .i64 (k:Int) 1=((k+1:Nat):Int):=aO _ (by omega)
    have u:=cJ (k:Int) w.seats (by omega) (by omega)
    have cb:∀x:Member,mA (aH (rM x) 0)=some x.inn:=fun _=>rfl
    have g:iLt (k:Int) 8=true:=by rw[aN];exact jc h'
    simp only[g,aC,u,aA,cb,hi,bW,er,aU,q1,q2,RG,aF,dE,aaL,a1];exact ih
   |true=>
    have hbo:=af4 w k hw hi (hwho hi);have ih:=K4 hL w z m (k+1) (evs++[⟨1,k,k,-1,0,[]⟩,⟨1,k,-1,k,0,[]⟩,⟨3,k,0,0,0,[]⟩]) (by omega) (by omega) (by simp;omega) (fun e he=>by
     rcases jy.1 he with he|he
     ·exact hb e he
     ·refine⟨hbo e he,?_⟩;simp only[kh,yb,or_false]at he;rcases he with rfl|rfl|rfl<;>rfl)
    have er:[[MV.int .i64 1,.int .i64 k,.int .i64 k,.int .i64 (-1),.int .i64 0,.str (bs [])],[.int .i64 1,.int .i64 k,.int .i64 (-1),.int .i64 k,.int .i64 0,.str (bs [])],[.int .i64 3,.int .i64 k,.int .i64 0,.int .i64 0,.int .i64 0,.str (bs [])]]=[rE ⟨1,k,k,-1,0,[]⟩,rE ⟨1,k,-1,k,0,[]⟩,rE ⟨3,k,0,0,0,[]⟩]:=rfl;have q2:bH (evs.length:Int) (nrows [rE ⟨1,k,k,-1,0,[]⟩,rE ⟨1,k,-1,k,0,[]⟩,rE ⟨3,k,0,0,0,[]⟩]) 56=true:=aJ _ _ _ (by show((evs.length:Int)+3)*56<=_;omega)
    have q1:okR 6 [rE ⟨1,k,k,-1,0,[]⟩,rE ⟨1,k,-1,k,0,[]⟩,rE ⟨3,k,0,0,0,[]⟩]=true:=rfl;have a1:aG .i64 (k:Int) 1=((k+1:Nat):Int):=aO _ (by omega)
    have u:=cJ (k:Int) w.seats (by omega) (by omega)
    have cb:∀x:Member,mA (aH (rM x) 0)=some x.inn:=fun _=>rfl
    have g:iLt (k:Int) 8=true:=by rw[aN];exact jc h'
    simp only[g,aC,u,aA,cb,hi,bI,aD,er,aU,q1,q2,RG,aF,dE,aaL,a1];exact ih
  ·have g:iLt (k:Int) 8=false:=by rw[aN];exact jh (by omega)
   rw[g,aD];exact adA L D hL w z evs (by omega) hb
theorem alI(hL:1099511627776<=L)(w:World)(z:WG w):AS L (D+318) L [[.int .i64 1,.int .i64 (-1),.int .i64 (-1),.int .i64 (-1),.int .i64 0,.str (bs [])],[.int .i64 2,.int .i64 1,.int .i64 0,.int .i64 0,.int .i64 w.log.length,.str (bs [])],[.int .i64 3,.int .i64 1,.int .i64 0,.int .i64 0,.int .i64 (-1),.str (bs [])],[.int .i64 6,.int .i64 1,.int .i64 0,.int .i64 0,.int .i64 w.frames.length,.str (bs [])],[.int .i64 0,.int .i64 0,.int .i64 0,.int .i64 0,.int .i64 0,.str (bs [])],[.int .i64 4,.int .i64 8,.int .i64 0,.int .i64 0,.int .i64 0,.str (bs [])]] (w.seats.map rM) (w.waits.map rWt) (w.log.map rC) (w.fresh.map rI) (w.spy.map rS) (w.stolen.map rSt) (w.frames.map rF) (w.said.map rI) (w.wins.map rWs) (w.told.map rT) 6 0=some (.bool true,[]):=
 K4 L D hL w z L 0 [⟨1,-1,-1,-1,0,[]⟩,⟨2,1,0,0,w.log.length,[]⟩,⟨3,1,0,0,-1,[]⟩,⟨6,1,0,0,w.frames.length,[]⟩,⟨0,0,0,0,0,[]⟩,⟨4,8,0,0,0,[]⟩] (by omega) (by omega) (by simp) (fun e he=>⟨UN w e he,by
  simp only[kh,yb,or_false]at he;rcases he with rfl|rfl|rfl|rfl|rfl|rfl<;>rfl⟩)
theorem aiQ(hL:1099511627776<=L)(f:Int)(hf:aR f)(evs:List Event)(hl:evs.length<=190)(ht:∀e∈evs,e.text.length<=10):
 ev E L (D+318) 8 [.int .i64 f,.sl (evs.map rE)] []=some (.agg (wS (run (cP f) evs)),[]):=by
 have h1:=aa3 L (D+3) hL f;have h2:=ae1 L D hL (cP f) (WG.new hf) evs (by omega) (fun e he=>ku (ht e he) (by omega))
 unfold wS at h2⊢;rw[am7,h1];simp only[aA,gAggN_if,je,jj,js,aP,aV,eY,h2]
end
end Kw
