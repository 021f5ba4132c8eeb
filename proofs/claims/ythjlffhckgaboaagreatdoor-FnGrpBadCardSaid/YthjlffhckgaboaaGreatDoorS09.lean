import Derived.Test.YthjlffhckgaboaaGreatDoorS08
set_option linter.unusedVariables false
set_option linter.unusedSimpArgs false
set_option linter.unusedSectionVars false
namespace Kw
def hY:List Own->Int->Nat->Int
 |[],_,_=> -1
 |o::r,n,k=>if o.node=n then k else hY r n (k+1)
def wN(keys:List S)(own:List Own):List Int->Nat->Bool
 |[],many=>decide (many=own.length)
 |n::ns,many=>if ix keys n=[]then wN keys own ns many else if hY own n 0<0 then false else if makKey (ix own (hY own n 0)).sec=ix keys n then wN keys own ns (many+1)else false
def KF(m:Member):Bool:=
 if m.inn=false then decide (m.who=0/\m.keys=[]/\m.own=[]/\m.epoch=0/\m.init=[]/\m.tag=[])
 else decide (aR m.who)&&(treOk m.keys&&(decide (0<=m.epoch/\m.epoch<=12)&&(secOk m.init&&(decide (m.tag.length<=300)&&(hasLeaf m.keys m.who&&wN m.keys m.own (pathOf m.who) 0)))))
theorem ownIx_some:∀(l:List Own) (n:Int) (k:Nat),(∃j:Nat,j<l.length/\hY l n k=(k+j:Nat)/\(l[j]?.map (·.node))=some n/\l.find? (fun o=>o.node==n)=l[j]?/\∀i<j,(l[i]?.map (·.node))≠some n)\/(hY l n k= -1/\l.find? (fun o=>o.node==n)=none/\n∉l.map (·.node))
 |[],n,k=>.inr ⟨rfl,rfl,by simp⟩
 |o::r,n,k=>by
  by_cases h:o.node=n
  ·left;refine⟨0,by simp,?_,by simp[h],by simp[h],fun i hi=>by omega⟩
   show(if o.node=n then(k:Int)else hY r n (k+1))=_
   rw[jd h];simp
  ·have e:hY (o::r) n k=hY r n (k+1):=jb h;have f:(o::r).find? (fun o=>o.node==n)=r.find? (fun o=>o.node==n):=by
    rw[vk];have:(o.node==n)=false:=by simpa using h
    rw[this]
   rcases ownIx_some r n (k+1)with⟨j,h1,h2,h3,h4,h5⟩|⟨h1,h2,h3⟩
   ·left;refine⟨j+1,by simp;omega,by rw[e,h2];omega,by simpa using h3,by rw[f,h4];simp,fun i hi=>?_⟩
    cases i with
    |zero=>simpa using h
    |succ i=>simpa using h5 i (by omega)
   ·right;exact⟨by rw[e,h1],by rw[f,h2],by simp[h3,Ne.symm h]⟩
theorem tE{A:Type} [DecidableEq A]:∀(N M:List A),N.Nodup->(∀x∈N,x∈M)->M.length<=N.length->M.Nodup/\∀x∈M,x∈N
 |[],M,_,_,h=>by
  have:M=[]:=vt.1 (by simpa using h)
  subst this;exact⟨List.nodup_nil,fun x hx=>hx⟩
 |x::N,M,hn,hs,h=>by
  obtain⟨hx,hn'⟩:=v9.1 hn;have hxM:x∈M:=hs x (by simp)
  have hl:(M.erase x).length<=N.length:=by rw[List.length_erase_of_mem hxM];simp at h;omega
  have hsub:∀y∈N,y∈M.erase x:=fun y hy=>(List.mem_erase_of_ne (fun e=>hx (by rw[<-e];exact hy))).2 (hs y (by simp[hy]))
  obtain⟨h1,h2⟩:=tE N (M.erase x) hn' hsub hl;have hp:=List.perm_cons_erase hxM;refine⟨hp.symm.nodup (v9.2 ⟨fun hh=>hx (h2 x hh),h1⟩),fun y hy=>?_⟩
  rcases kh.1 (hp.subset hy)with e|e
  ·simp[e]
  ·simp[h2 y e]
theorem IX{A:Type}{l:List A}(h:l.Nodup){i j:Nat}{a:A}(hi:l[i]?=some a)(hj:l[j]?=some a):i=j:=by
 obtain⟨hi',ei⟩:=jl.1 hi;obtain⟨hj',ej⟩:=jl.1 hj;have hp:=v3.1 h;rcases Nat.lt_trichotomy i j with h1|h1|h1
 ·exact absurd (ei.trans ej.symm) (hp i j hi' hj' h1)
 ·exact h1
 ·exact absurd (ej.trans ei.symm) (hp j i hj' hi' h1)
theorem KG{w:Int}(h:aR w):(pathOf w).Nodup:=by
 obtain⟨h0,h1⟩:=h;have hall:∀k:Fin 8,(pathOf (k.val:Int)).Nodup:=by decide+kernel
 have:=hall ⟨w.toNat,by omega⟩
 simpa [vh h0]using this
theorem E8(keys:List S)(own:List Own):∀(p:List Int) (many:Nat),wN keys own p many=true↔
 (∀n∈p,ix keys n≠[]->∃j:Nat,j<own.length/\hY own n 0=(j:Nat)/\makKey (ix own (j:Int)).sec=ix keys n)/\many+(p.filter fun n=>decide (ix keys n≠[])).length=own.length
 |[],many=>by simp[wN]
 |n::ns,many=>by
  unfold wN;by_cases hk:ix keys n=[]
  ·rw[jd hk,E8 keys own ns many];have:(n::ns).filter (fun n=>decide (ix keys n≠[]))=ns.filter (fun n=>decide (ix keys n≠[])):=by simp[hk]
   rw[this];constructor
   ·rintro⟨h1,h2⟩;refine⟨fun m hm hne=>?_,h2⟩
    rcases kh.1 hm with e|e
    ·subst e;exact absurd hk hne
    ·exact h1 m e hne
   ·rintro⟨h1,h2⟩;exact⟨fun m hm=>h1 m (by simp[hm]),h2⟩
  ·have hf:((n::ns).filter (fun n=>decide (ix keys n≠[]))).length=(ns.filter (fun n=>decide (ix keys n≠[]))).length+1:=by simp[hk]
   rw[jb hk,hf];rcases ownIx_some own n 0 with⟨j,h1,h2,_⟩|⟨h1,h2,_⟩
   ·have e0:hY own n 0=(j:Int):=by rw[h2];simp
    rw[jb (by omega)]
    by_cases hm:makKey (ix own (hY own n 0)).sec=ix keys n
    ·rw[jd hm,E8 keys own ns (many+1)];rw[e0]at hm;constructor
     ·rintro⟨h3,h4⟩;refine⟨fun m hm' hne=>?_,by omega⟩
      rcases kh.1 hm' with e|e
      ·subst e;exact⟨j,h1,e0,hm⟩
      ·exact h3 m e hne
     ·rintro⟨h3,h4⟩;exact⟨fun m hm'=>h3 m (by simp[hm']),by omega⟩
    ·rw[jb hm];constructor
     ·intro h;cases h
     ·rintro⟨h3,_⟩;obtain⟨j',_,e',hm'⟩:=h3 n (by simp) hk
      rw[e']at hm;exact absurd hm' hm
   ·rw[jd (by omega)]
    constructor
    ·intro h;cases h
    ·rintro⟨h3,_⟩;obtain⟨j',_,e',_⟩:=h3 n (by simp) hk
     omega
theorem uV{s:S}(h:makKey s≠[]):secOk s=true:=by
 unfold makKey mk1 at h;split at h
 ·rename_i h1;exact h1.1
 ·exact absurd rfl h
theorem pC{s:S}(h:secOk s=true):s≠[]:=fun e=>by
 subst e;obtain⟨t,_,e,_⟩:=eX.1 h;have:=t.str_pos;rw[<-e]at this;simp at this
theorem UJ(m:Member)(hw:aR m.who):wN m.keys m.own (pathOf m.who) 0=(fitsAll m&&((pathOf m.who).all fun n=>decide (ix m.keys n=[])||decide (eB m.own n≠[]))):=by
 have hnd:=KG hw;have hN:((pathOf m.who).filter fun n=>decide (ix m.keys n≠[])).Nodup:=hnd.filter _
 apply vr.2;rw[E8,jf,ko];simp only[qr];constructor
 ·rintro⟨h1,h2⟩;have hcov:∀x∈(pathOf m.who).filter (fun n=>decide (ix m.keys n≠[])),x∈m.own.map (·.node):=fun x hx=>by
   obtain⟨hx1,hx2⟩:=vd.1 hx;obtain⟨j,hj,he,_⟩:=h1 x hx1 (by simpa using hx2)
   rcases ownIx_some m.own x 0 with⟨i,hi,he',hn,_⟩|⟨he',_⟩
   ·obtain⟨o,ho,e⟩:=kj.1 hn;exact qb.2 ⟨o,qd ho,e⟩
   ·omega
  obtain⟨hM,hsub⟩:=tE _ (m.own.map (·.node)) hN hcov (by rw[kb];omega)
  refine⟨ko.2 fun k hk=>?_,fun n hn=>?_⟩
  ·have hk':=qp.1 hk;have hget:m.own[k]?=some (m.own[k]):=ji hk';have hin:(m.own[k]).node∈m.own.map (·.node):=qb.2 ⟨_,jr hk',rfl⟩;obtain⟨hp,hne⟩:=vd.1 (hsub _ hin);have hne':ix m.keys (m.own[k]).node≠[]:=by simpa using hne
   obtain⟨j,hj,he,hm⟩:=h1 _ hp hne';have hjk:j=k:=by
    rcases ownIx_some m.own (m.own[k]).node 0 with⟨i,hi,he',hn,_⟩|⟨he',_⟩
    ·have hij:i=j:=by rw[he]at he';omega
     subst hij;have h3:(m.own.map (·.node))[i]?=some (m.own[k]).node:=by rw[jq];exact hn
     have h4:(m.own.map (·.node))[k]?=some (m.own[k]).node:=by rw[jq,hget];rfl
     exact IX hM h3 h4
    ·omega
   subst hjk;unfold mM;rw[aZ m.own j hk']at hm⊢;have hno:eB (m.own.take j) (m.own[j]).node=[]:=by
    unfold eB;have:(m.own.take j).find? (fun o=>o.node==(m.own[j]).node)=none:=by
     rw[wq];intro o ho;obtain⟨i,hi,e⟩:=kx.1 ho;simp only[ve]at hi;rw[List.getElem_take]at e;intro hh;have hh':o.node=(m.own[j]).node:=by simpa using hh
     have h3:(m.own.map (·.node))[i]?=some (m.own[j]).node:=by rw[jq,ji (by omega),e];simp[hh']
     have h4:(m.own.map (·.node))[j]?=some (m.own[j]).node:=by rw[jq,hget];rfl
     have:=IX hM h3 h4;omega
    rw[this]
   have hs:secOk (m.own[j]).sec=true:=uV (by rw[hm];exact hne')
   have hmk:¬makKey (m.own[j]).sec=[]:=by rw[hm];exact hne'
   simp[hp,hs,hne',hm.symm,hno,hmk]
  ·by_cases hk:ix m.keys n=[]
   ·simp[hk]
   ·obtain⟨j,hj,he,hm⟩:=h1 n hn hk;rcases ownIx_some m.own n 0 with⟨i,hi,he',hn',hfi,_⟩|⟨he',_⟩
    ·have hij:i=j:=by rw[he]at he';omega
     subst hij;have hget:m.own[i]?=some (m.own[i]):=ji hi;rw[aZ m.own i hi]at hm;have hs:secOk (m.own[i]).sec=true:=uV (by rw[hm];exact hk)
     have ho:eB m.own n=(m.own[i]).sec:=by unfold eB;rw[hfi,hget]
     have:=pC hs;rw[ho];simp[this]
    ·omega
 ·rintro⟨h1,h2⟩;have hf:=fun(k:Nat) (hk:k<m.own.length)=>ko.1 h1 k (qp.2 hk)
  have hfit:∀(k:Nat) (hk:k<m.own.length),(m.own[k]).node∈pathOf m.who/\secOk (m.own[k]).sec=true/\ix m.keys (m.own[k]).node≠[]/\ix m.keys (m.own[k]).node=makKey (m.own[k]).sec/\eB (m.own.take k) (m.own[k]).node=[]:=fun k hk=>by
   have:=hf k hk;unfold mM at this;rw[aZ m.own k hk]at this;simpa using this
  have hM:(m.own.map (·.node)).Nodup:=by
   show List.Pairwise _ _;rw[v3];intro i j hi hj hij e;simp only[kb]at hi hj;simp only[yh]at e;have h3:=(hfit j hj).2.2.2.2;unfold eB at h3;have hmem:m.own[i]∈m.own.take j:=by
    have:(m.own.take j)[i]?=some m.own[i]:=by rw[qm hij];exact ji hi
    exact qd this
   cases hfd:(m.own.take j).find? (fun o=>o.node==(m.own[j]).node)with
   |none=>
    have:=wq.1 hfd _ hmem;simp[e]at this
   |some o=>
    rw[hfd]at h3;simp only at h3;have ho:=vo hfd;obtain⟨q,hq,e'⟩:=kx.1 ho;simp only[ve]at hq;rw[List.getElem_take]at e';have:=(hfit q (by omega)).2.1
    rw[e',h3]at this;exact pC this rfl
  refine⟨fun n hn hk=>?_,?_⟩
  ·have h3:=h2 n hn;have h4:eB m.own n≠[]:=by simpa [hk]using h3
   rcases ownIx_some m.own n 0 with⟨j,hj,he,hn',hfi,_⟩|⟨_,hfn,_⟩
   ·have hget:m.own[j]?=some (m.own[j]):=ji hj;rw[hget]at hn';have hnode:(m.own[j]).node=n:=by simpa using hn'
    refine⟨j,hj,by rw[he];simp,?_⟩
    rw[aZ m.own j hj,<-(hfit j hj).2.2.2.1,hnode]
   ·unfold eB at h4;rw[hfn]at h4;exact absurd rfl h4
  ·have hsub:∀x∈m.own.map (·.node),x∈(pathOf m.who).filter (fun n=>decide (ix m.keys n≠[])):=fun x hx=>by
    obtain⟨o,ho,e⟩:=qb.1 hx;obtain⟨k,hk,e'⟩:=kx.1 ho;have h3:=hfit k hk;rw[e']at h3;rw[<-e];exact vd.2 ⟨h3.1,by simpa using h3.2.2.1⟩
   have hsub2:∀x∈(pathOf m.who).filter (fun n=>decide (ix m.keys n≠[])),x∈m.own.map (·.node):=fun x hx=>by
    obtain⟨hx1,hx2⟩:=vd.1 hx;have h3:=h2 x hx1;have h4:eB m.own x≠[]:=by
     have:ix m.keys x≠[]:=by simpa using hx2
     simpa [this]using h3
    rcases ownIx_some m.own x 0 with⟨j,hj,he,hn',_⟩|⟨_,hfn,_⟩
    ·obtain⟨o,ho,e⟩:=kj.1 hn';exact qb.2 ⟨o,qd ho,e⟩
    ·unfold eB at h4;rw[hfn]at h4;exact absurd rfl h4
   have l1:=pigL _ _ hM hsub;have l2:=pigL _ _ hN hsub2;rw[kb]at l1 l2;omega
where
 pigL:∀(l p:List Int),l.Nodup->(∀x∈l,x∈p)->l.length<=p.length
  |[],p,_,_=>Nat.zero_le _
  |x::l,p,h,hs=>by
   have h1:=v9.1 h;have h2:=pigL l (p.erase x) h1.2 (fun y hy=>(List.mem_erase_of_ne (fun e=>h1.1 (by rw[<-e];exact hy))).2 (hs y (by simp[hy])))
   rw[List.length_erase_of_mem (hs x (by simp))]at h2
   have:=List.length_pos_of_mem (hs x (by simp))
   simp;omega
theorem IY(m:Member):KF m=memOk m:=by
 unfold KF memOk;split
 ·rfl
 ·by_cases hw:aR m.who
  ·rw[jc hw,jw,jw,UJ m hw];unfold tB hasLeaf;cases treOk m.keys<;>cases fitsAll m<;>cases ((pathOf m.who).all fun n=>decide (ix m.keys n=[])||decide (eB m.own n≠[]))<;>cases decide (ix m.keys (treLeaf m.who)≠[])<;>cases secOk m.init<;>cases decide (0<=m.epoch/\m.epoch<=12)<;>cases decide (m.tag.length<=300)<;>rfl
  ·rw[jh hw];rfl
end Kw
namespace Kw
open Go Go.Proofs
theorem clr_len(ks:List S)(w:Int):(clr ks w).length=ks.length:=by
 unfold clr;generalize pathOf w=p;induction p generalizing ks with
 |nil=>rfl
 |cons n ns ih=>simp[ih]
section
variable (L D:Nat)
theorem aaQ(hL:1099511627776<=L)(ks:List S)(hk:ks.length=15)(add remove:Int)(leaf:S)(ha: -1<=add/\add<=7)(hr: -1<=remove/\remove<=7):
 ev E L (D+6) 239 [.agg [.sl (ks.map rS)],.int .i64 add,.int .i64 remove,.str (bs leaf)] []=some (.agg [.own ((baseT ks add remove leaf).map rS)],[]):=by
 rw[ag7];have h1:=DD L (D+3) ks (by omega)
 have fin:∀(k2:List S),k2.length=15->
  (br (iLe 0 add) (br (iEq (nrows (k2.map rS)) (nrows (k2.map rS))) (bnd (ev E L (D+5) 280 [MV.agg [MV.sl (k2.map rS)],MV.int IntKind.i64 add] []) fun r=>bnd (bE 1 r.1) fun cs=>bnd (JG (aH cs 0)) fun r=>bnd (ev E L (D+5) 128 [MV.int IntKind.i64 add] []) fun r_1=>bnd (fA IntKind.i64 r_1.1) fun n=>br (iEq (nrows r) (nrows r)) (bnd (aL 1 r n) fun x=>br (iEq (nrows r) (nrows r)) (bnd (aS r n) fun row=>br (iLe 1 (cA row)) (br (iEq (nrows r) (nrows (setR r n (setRow row 0 [MV.str (bs leaf)])))) (some (MV.agg [MV.own (setR r n (setRow row 0 [MV.str (bs leaf)]))],([]:List Obj))) none) none) none) none) none) (br (iEq (nrows (k2.map rS)) (nrows (k2.map rS))) (some (MV.agg [MV.own (k2.map rS)],[])) none))=
  some (.agg [.own ((if 0<=add then(clr k2 add).set (treLeaf add).toNat leaf else k2).map rS)],[]):=fun k2 h2=>by
  by_cases h:0<=add
  ·have hw:aR add:=⟨h,ha.2⟩;have hc:=TF L D hL k2 h2 add hw;have hlf:=oQ L (D+4) add hw;have hcl:(clr k2 add).length=15:=by rw[clr_len,h2]
   have e:=rG hw;have r3:=bQ (treLeaf add) (clr k2 add) (by omega) (by omega)
   have r4:=iG (clr k2 add) (treLeaf add) (by omega) (by omega)
   have s1:setR ((clr k2 add).map rS) (treLeaf add) (rS leaf)=((clr k2 add).set (treLeaf add).toNat leaf).map rS:=fT rS _ _ _;have l1:cA (rS (ix (clr k2 add) (treLeaf add)))=1:=rfl;have l2:iLe 1 1=true:=rfl;have sr:setRow (rS (ix (clr k2 add) (treLeaf add))) 0 [MV.str (bs leaf)]=rS leaf:=rfl;have g:iLe 0 add=true:=by rw[cH];exact jc h
   have q:iEq ((clr k2 add).length:Int) (((clr k2 add).set (treLeaf add).toNat leaf).length:Int)=true:=by rw[kf,aU]
   rw[jd h];simp only[g,aC,aU,hc,aA,gAggN_if,je,jj,js,aP,eC,hlf,bL,r3,r4,l1,l2,sr,s1,aF,q]
  ·have g:iLe 0 add=false:=by rw[cH];exact jh h
   rw[jb h,g,aD,aU,aC]
 unfold baseT;simp only;rw[h1];by_cases h:0<=remove
 ·have hw:aR remove:=⟨h,hr.2⟩;have hc:=TF L D hL ks hk remove hw;have g:iLe 0 remove=true:=by rw[cH];exact jc h
  rw[jd h];simp only[aA,gAggN_if,je,jj,js,aP,eC,g,aC,aU,hc];have f:=fin (clr ks remove) (by rw[clr_len,hk])
  simp only[aU,aC]at f;exact f
 ·have g:iLe 0 remove=false:=by rw[cH];exact jh h
  rw[jb h];simp only[aA,gAggN_if,je,jj,js,aP,eC,g,aD];exact fin ks hk
theorem K8(ks:List S)(hk:ks.length=15):∀(f n:Nat),n<=14->15< (n+1)*2^f->∃c:List Int,c.length<=2^f/\ev E L (D+f) 240 [.agg [.sl (ks.map rS)],.int .i64 n] []=some (.own (c.map rI),[])/\c=coverN f ks n
 |0,n,h,h2=>by simp at h2;omega
 |f+1,n,h,h2=>by
  rw[show D+(f+1)=(D+f)+1 by omega,ag8]
  have r3:=bQ (n:Int) ks (by omega) (by omega)
  have hc:coverN (f+1) ks n=if ix ks (n:Int)≠[]then[(n:Int)]else if 7<=n then[]else coverN f ks (2*n+1)++coverN f ks (2*n+2):=rfl
  have hp:1<=2^(f+1):=Nat.one_le_two_pow;by_cases hz:ix ks (n:Int)=[]
  ·have z:sEq (bs (ix ks (n:Int))) (bs [])=true:=by rw[dH];exact jc hz
   rw[jb (by simp[hz])]at hc
   by_cases h7:7<=n
   ·have g:iLe 7 (n:Int)=true:=by rw[cH,ja];omega
    rw[jd h7]at hc;refine⟨[],by simp,?_,hc.symm⟩
    simp only[r3,aA,eU,bM,z,bI,aD,g,aC]
    rfl
   ·have g:iLe 7 (n:Int)=false:=by rw[cH,jg];omega
    rw[jb h7]at hc;have m1:l9 .i64 2 (n:Int)=((2*n:Nat):Int):=by rw[EE (by omega) (by omega)];omega
    have a1:aG .i64 ((2*n:Nat):Int) 1=((2*n+1:Nat):Int):=aO _ (by omega)
    have a2:aG .i64 ((2*n:Nat):Int) 2=((2*n+2:Nat):Int):=bT (by omega) (by omega)
    have e2:2^(f+1)=2*2^f:=by rw[Nat.pow_succ];omega
    have q:(n+1)*2^(f+1)=(2*n+2)*2^f:=by rw[e2,<-Nat.mul_assoc];congr 1;omega
    have q1:15< (2*n+1+1)*2^f:=by rw[q]at h2;exact h2
    have q2:15< (2*n+2+1)*2^f:=qv q1 (qh _ (by omega))
    obtain⟨c1,l1,h3,hc1⟩:=K8 ks hk f (2*n+1) (by omega) q1
    obtain⟨c2,l2,h4,hc2⟩:=K8 ks hk f (2*n+2) (by omega) q2
    have hf8:f<=1000->True:=fun _=>trivial
    have o1:okR 1 (c1.map rI)=true:=jE _;have o2:okR 1 (c2.map rI)=true:=jE _;have c12:aM (c1.map rI) (c2.map rI)=(c1++c2).map rI:=eG rI c1 c2;have hlen:∀(f:Nat) (ks:List S) (n:Nat),n<=14->(coverN f ks n).length<=16:=by
     intro f ks n hn;have:∀(g n:Nat),n<=14->(coverN g ks n).length*(n+1)<=16:=by
      intro g;induction g with
      |zero=>intro n hn;simp[coverN]
      |succ g ih=>
       intro n hn;show(if ix ks (n:Int)≠[]then[(n:Int)]else if 7<=n then[]else coverN g ks (2*n+1)++coverN g ks (2*n+2)).length*(n+1)<=16
       split
       ·simp;omega
       ·split
        ·simp
        ·have i1:=ih (2*n+1) (by omega)
         have i2:=ih (2*n+2) (by omega)
         rw[jk,vn];have j1:(coverN g ks (2*n+1)).length*(2*n+1+1)=2*((coverN g ks (2*n+1)).length*(n+1)):=by rw[Nat.mul_left_comm];congr 1
         have j2:2*((coverN g ks (2*n+2)).length*(n+1))<=(coverN g ks (2*n+2)).length*(2*n+2+1):=by rw[Nat.mul_left_comm];exact Nat.mul_le_mul_left _ (by omega)
         omega
     have h:=this f n hn;exact ku (Nat.le_mul_of_pos_right _ (by omega)) h
    have b1:c1.length<=16:=by rw[hc1];exact hlen f ks _ (by omega)
    have b2:c2.length<=16:=by rw[hc2];exact hlen f ks _ (by omega)
    have hf:bH (c1.length:Int) (c2.length:Int) 8=true:=aJ _ _ _ (by omega)
    refine⟨c1++c2,by rw[jk];omega,?_,by rw[hc,hc1,hc2]⟩
    simp only[r3,aA,eU,bM,z,bI,aD,aC,g,m1,a1,a2,h3,h4,eC,aU,aF,o1,o2,hf,dE,c12]
  ·have z:sEq (bs (ix ks (n:Int))) (bs [])=false:=by rw[dH];exact jh hz
   rw[jd hz]at hc;refine⟨[(n:Int)],by simpa using hp,?_,hc.symm⟩
   simp only[r3,aA,eU,bM,z,bW,aC,aU]
   rfl
theorem K9:∀(f a b m:Nat),a+b<f->a+b<m->a<=14->b<=14->tP L D m a b=some (.int .i64 (meetN f a b:Nat),[])
 |0,_,_,_,h,_,_,_=>by omega
 |f+1,a,b,m,h,hm,ha,hb=>by
  obtain⟨m,rfl⟩:∃k,m=k+1:=⟨m-1,by omega⟩
  rw[GV];have hc:meetN (f+1) a b=if a=b then a else if b<a then meetN f ((a-1)/2) b else meetN f a ((b-1)/2):=rfl
  have z:iEq 2 0=false:=rfl;rw[hc];by_cases he:a=b
  ·subst he;rw[jd rfl,aU];rfl
  ·have g:iEq (a:Int) (b:Int)=false:=by rw[cK,jg];omega
   rw[jb he,g,bW,aC];by_cases hlt:b<a
   ·have g1:iLt (b:Int) (a:Int)=true:=by rw[aN,ja];omega
    have a1:bB .i64 (a:Int) 1=((a-1:Nat):Int):=by rw[eL (by omega) (by omega)];omega
    have a2:iD .i64 ((a-1:Nat):Int) 2=(((a-1)/2:Nat):Int):=by
     rw[kU (by omega) (by omega) (by omega)]
     exact(Int.natCast_ediv (a-1) 2).symm
    rw[jd hlt,g1,aC,z,aD,a1,a2];exact K9 f _ _ m (by omega) (by omega) (by omega) hb
   ·have g1:iLt (b:Int) (a:Int)=false:=by rw[aN,jg];omega
    have a1:bB .i64 (b:Int) 1=((b-1:Nat):Int):=by rw[eL (by omega) (by omega)];omega
    have a2:iD .i64 ((b-1:Nat):Int) 2=(((b-1)/2:Nat):Int):=by
     rw[kU (by omega) (by omega) (by omega)]
     exact(Int.natCast_ediv (b-1) 2).symm
    rw[jb hlt,g1,aD,z,aD,a1,a2];exact K9 f _ _ m (by omega) (by omega) ha (by omega)
theorem QH(hL:1099511627776<=L)(a b:Int):ev E L (D+3) 197 [.int .i64 a,.int .i64 b] []=some (.int .i64 (treMeet a b),[]):=by
 rw[afX,zT];unfold treMeet;by_cases ha:fN a
 ·rw[jc ha];have h2:=zT L D b;by_cases hb:fN b
  ·rw[jd ⟨ha,hb⟩];rw[jc hb]at h2;simp only[aA,aI,bI,bW,aC,aD,h2];obtain⟨a0,a1⟩:=ha;obtain⟨b0,b1⟩:=hb;obtain⟨a,rfl⟩:=kv a0;obtain⟨b,rfl⟩:=kv b0;exact K9 L (D+2) 30 a b L (by omega) (by omega) (by omega) (by omega)
  ·rw[jb (fun x=>hb x.2)]
   rw[jh hb]at h2;simp only[aA,aI,bI,bW,aC,h2]
 ·rw[jh ha,jb (fun x=>ha x.1)];rfl
theorem LA(hL:1099511627776<=L)(s:S)(hs:s.length<=2000000):ev E L (D+307) 120 [.str (bs s)] []=some (.bool (secOk s&&decide (s.length<=292)),[]):=by
 rw[afE,hD L D hL s hs];cases h:secOk s with
 |false=>rfl
 |true=>
  simp only[aA,aI,aC,cH,cE,jw];by_cases h2:s.length<=292
  ·rw[jc h2,jc (by omega:(s.length:Int)<=292)]
  ·rw[jh h2,jh (by omega:¬(s.length:Int)<=292)]
theorem vD(n w:Int)(hw:aR w):ev E L (D+3) 75 [.int .i64 n,.int .i64 w] []=some (.bool (decide (cN n w)),[]):=by
 rw[akS,cK];have h1:=oK L D n;obtain⟨w0,w1⟩:=hw;by_cases hn:n= -1
 ·rw[jc hn];have:cN n w:=⟨by omega,by omega,by omega⟩
  rw[jc this];rfl
 ·rw[jh hn,bW,aC,h1,iP];by_cases hi:aR n
  ·rw[jc hi];simp only[aA,aI,aC,cK];obtain⟨i0,i1⟩:=hi;by_cases he:n=w
   ·have:¬cN n w:=fun x=>x.2.2 he
    rw[jc he,jh this];rfl
   ·have:cN n w:=⟨by omega,by omega,he⟩
    rw[jh he,jc this];rfl
  ·rw[jh hi];have:¬cN n w:=fun x=>hi ⟨by have:=x.1;omega,x.2.1⟩
   rw[jh this];rfl
theorem I9(hL:1099511627776<=L)(n:Int)(a b:S)(ha:a.length<=2000000)(hb:b.length<=2000000):ev E L (D+307) 77 [.int .i64 n,.str (bs a),.str (bs b)] []=some (.bool (twoKeys n a b),[]):=by
 rw[akU,aN];unfold twoKeys;by_cases hn:n<0
 ·rw[jc hn,jd hn,aC,dH];by_cases h1:a=[]
  ·rw[jc h1,aC,dH];by_cases h2:b=[]
   ·rw[jc h2,jc ⟨h1,h2⟩]
   ·rw[jh h2,jh (fun x=>h2 x.2)]
  ·rw[jh h1,jh (fun x=>h1 x.1)];rfl
 ·rw[jh hn,jb hn,aD,K6 L D hL a ha];cases isKey a with
  |false=>rfl
  |true=>
   simp only[aA,aI,aC,K6 L D hL b hb,jw];cases isKey b with
   |false=>rfl
   |true=>
    simp only[aC,jw,dH];by_cases h:a=b
    ·rw[jc h,jh (fun x=>x h)];rfl
    ·rw[jh h,jc h];rfl
theorem JA(ks:List S)(hk:ks.length=15)(add remove:Int)(ha: -1<=add/\add<=7)(hr: -1<=remove/\remove<=7):ev E L (D+4) 238 [.agg [.sl (ks.map rS)],.int .i64 add,.int .i64 remove] []=some (.bool (changes ks add remove),[]):=by
 rw[ag6];have h1:=NU L D ks hk add;have h2:=NU L D ks hk remove;have fin:(br (bNot (iLt add 0)) (bnd (ev E L (D+3) 66 [MV.agg [MV.sl (ks.map rS)],MV.int IntKind.i64 add] []) fun r=>bnd (mA r.1) fun b=>br (bNot (bNot b)) (some (MV.bool (iEq add remove),([]:List Obj))) (some (MV.bool true,[]))) (some (MV.bool true,[])))=
  some (.bool (decide (add<0)||(!hasLeaf ks add||decide (add=remove))),[]):=by
  rw[aN,cK];by_cases h:add<0
  ·rw[jc h];rfl
  ·have hw:aR add:=⟨by omega,ha.2⟩
   rw[jh h,h1,jc hw];simp only[bW,aC,aA,aI,jw,Bool.false_or];cases hasLeaf ks add<;>rfl
 unfold changes;rw[aN]at*;by_cases h:remove<0
 ·rw[jc h,bI,aD,Bool.true_or,jw];exact fin
 ·have hw:aR remove:=⟨by omega,hr.2⟩
  rw[jh h,bW,aC,h2,jc hw,jw];simp only[aA,aI,Bool.false_or];cases hasLeaf ks remove with
  |false=>rfl
  |true=>
   rw[aC,jw];exact fin
end
end Kw
namespace Kw
open Go Go.Proofs
theorem wX:∀(ns:List Int) (s:S),(pathGo ns s).length=ns.length
 |[],_=>rfl
 |n::ns,s=>by simp[pathGo,wX ns]
section
variable (L D:Nat)
theorem NX:∀(ns:List Int) (m:Nat) (x:S) (pre:List Int) (pres:List S) (done:List Own),ns.length<m->pre.length=pres.length->done.length=pre.length->pre.length+ns.length<=1000->
 yX L D m ((done++List.replicate ns.length (⟨0,[]⟩:Own)).map rO) ((pre++ns).map rI) ((pre.length+ns.length:Nat):Int) ((pres++fO x ns.length).map rS) ((pre.length+ns.length:Nat):Int) pre.length=some (.sl ((done++pathGo ns x).map rO),[])
 |_,0,_,_,_,_,h,_,_,_=>by omega
 |[],m+1,x,pre,pres,done,h,he,hd,hp=>by
  rw[v7];have g:iLt (pre.length:Int) ((pre.length+([]:List Int).length:Nat):Int)=false:=by rw[aN,jg];simp
  have q:iEq ((pre.length+([]:List Int).length:Nat):Int) (nrows ((done++List.replicate ([]:List Int).length (⟨0,[]⟩:Own)).map rO))=true:=by
   rw[aF,cK,ja];simp[hd]
  rw[g,aD,q,aC];simp[pathGo]
 |n::ns,m+1,x,pre,pres,done,h,he,hd,hp=>by
  rw[v7];simp only[je]at h hp;have g:iLt (pre.length:Int) ((pre.length+(n::ns).length:Nat):Int)=true:=by rw[aN,ja];simp only[je];omega
  have hix1:ix (pres++fO x (n::ns).length) (pre.length:Int)=x:=by
   rw[he,aZ _ _ (by simp[lU])];simp[fO]
  have hix2:ix (pre++n::ns) (pre.length:Int)=n:=by
   rw[aZ _ _ (by simp)];simp
  have r1:=bQ (pre.length:Int) (pres++fO x (n::ns).length) (by omega) (by simp only[jk,lU,je];omega)
  have r2:=bR (pre.length:Int) (pre++n::ns) (by omega) (by simp only[jk,je];omega)
  rw[hix1]at r1;rw[hix2]at r2;have hlen:(done++List.replicate (n::ns).length (⟨0,[]⟩:Own)).length=pre.length+(n::ns).length:=by simp[hd]
  have r3:=eD (pre.length:Int) (done++List.replicate (n::ns).length (⟨0,[]⟩:Own)) (by omega) (by rw[hlen];simp only[je];omega)
  have r4:=abZ (done++List.replicate (n::ns).length (⟨0,[]⟩:Own)) (pre.length:Int) (by omega) (by rw[hlen];simp only[je];omega)
  have a1:aG .i64 (pre.length:Int) 1=((pre.length+1:Nat):Int):=aO _ (by omega)
  have s1:setR ((done++List.replicate (n::ns).length (⟨0,[]⟩:Own)).map rO) (pre.length:Int) (rO ⟨n,x⟩)=(((done++[(⟨n,x⟩:Own)])++List.replicate ns.length (⟨0,[]⟩:Own))).map rO:=by
   rw[aj4,ki]
   congr 1
   rw[List.set_append_right _ _ (by omega),hd,Nat.sub_self]
   simp[List.replicate_succ]
  have l1:∀o:Own,cA (rO o)=2:=fun _=>rfl
  have l2:iLe 2 2=true:=rfl;have sr:∀o:Own,setRow (rO o) 0 [MV.int IntKind.i64 n,MV.str (bs x)]=rO ⟨n,x⟩:=fun _=>rfl
  have ih:=NX ns m (makNext x) (pre++[n]) (pres++[x]) (done++[(⟨n,x⟩:Own)]) (by omega) (by simp[he]) (by simp[hd]) (by simp;omega)
  have e1:(pre++[n])++ns=pre++n::ns:=by simp
  have e2:(pres++[x])++fO (makNext x) ns.length=pres++fO x (n::ns).length:=by simp[fO]
  have e3:(((pre++[n]).length+ns.length:Nat):Int)=((pre.length+(n::ns).length:Nat):Int):=by simp;omega
  have e4:(pre++[n]).length=pre.length+1:=by simp
  rw[e1,e2,e3,e4]at ih;have q:iEq ((pre.length+(n::ns).length:Nat):Int) (nrows ((done++List.replicate (n::ns).length (⟨0,[]⟩:Own)).map rO))=true:=by
   rw[aF,hlen,aU]
  simp only[g,aC,r1,r2,aA,eU,bM,eK,bL,q,r3,r4,l1,l2,sr,s1,a1,ih];simp[pathGo]
theorem DE(hL:1099511627776<=L)(ns:List Int)(s:S)(h1:1<=ns.length)(hn:ns.length<=1000)(hs:s.length<=500000):ev E L (D+310) 123 [.sl (ns.map rI),.str (bs s)] []=some (.sl ((pathGo ns s).map rO),[]):=by
 rw[afH];have h3:=TE L D hL s ns.length h1 hn hs;have h4:=NX L (D+309) ns L s [] [] [] (by omega) rfl rfl (by simp;omega)
 simp only[qc,jj,qr]at h4;have n1:nrows (ns.map rI)=ns.length:=aF ..;have n2:nrows ((fO s ns.length).map rS)=ns.length:=by rw[aF,lU]
 have g0:iLe 0 (ns.length:Int)=true:=by rw[cH,ja];omega
 have hf:bH (ns.length:Int) 0 24=true:=aJ _ _ _ (by omega)
 have er:fL (ns.length:Int) [MV.int IntKind.i64 0,MV.str (bs [])]=(List.replicate ns.length (⟨0,[]⟩:Own)).map rO:=by
  unfold fL;rw[ki,List.map_replicate];rfl
 have nr:nrows ((List.replicate ns.length (⟨0,[]⟩:Own)).map rO)=ns.length:=by rw[aF,List.length_replicate]
 simp only[n1,aU,g0,hf,dE,aC,h3,aA,eY,n2,er,nr];exact h4
theorem NY(own:List Own)(hl:own.length<=1000000)(n:Int):∀(m k:Nat),own.length<m+k->k<=own.length->
 oG L (D+1) m n (own.map rO) own.length k=some (.int .i64 (hY (own.drop k) n k),[.cells [.int .i64 n]])
 |0,k,h,hk=>by omega
 |m+1,k,h,hk=>by
  rw[AU];by_cases hlt:k<own.length
  ·have h1:iLt (k:Int) own.length=true:=by rw[aN,ja];omega
   have a1:aG .i64 (k:Int) 1=((k+1:Nat):Int):=aO _ (by omega)
   have e:=kz hlt;have hix:ix own (k:Int)=own[k]:=aZ own k hlt;have r:=eD (k:Int) own (by omega) (by omega)
   rw[hix]at r;have ih:=NY own hl n m (k+1) (by omega) (by omega)
   have hc:hY (own[k]::own.drop (k+1)) n k=if own[k].node=n then(k:Int)else hY (own.drop (k+1)) n (k+1):=rfl
   have c0:aH (rO own[k]) 0=.int .i64 own[k].node:=rfl;have c1:aH (rO own[k]) 1=.str (bs own[k].sec):=rfl;rw[e,hc];simp only[h1,aC,r,aA,c0,c1,bL,bM,afN,iQ,cM,je,jj,js,aP,aI,cK,a1,ih];by_cases hn:own[k].node=n
   ·rw[jc hn,jd hn];rfl
   ·rw[jh hn,jb hn];rfl
  ·have h1:iLt (k:Int) own.length=false:=by rw[aN,jg];omega
   have e:own.drop k=[]:=wk (by omega)
   rw[e,h1];rfl
theorem adD(hL:1099511627776<=L)(own:List Own)(hl:own.length<=1000000)(n:Int):ev E L (D+3) 68 [.sl (own.map rO),.int .i64 n] []=some (.int .i64 (hY own n 0),[]):=by
 rw[akO,VD,aF];have:=NY L D own hl n L 0 (by omega) (by omega)
 rw[show((0:Nat):Int)=0 from rfl,kw]at this
 rw[this]
 rfl
structure MB(m:Member):Prop where
 keys:m.keys.length<=1000000
 key:∀s∈m.keys,s.length<=500000
 own:m.own.length<=1000000
 sec:∀o∈m.own,o.sec.length<=500000
 init:m.init.length<=500000
 tag:m.tag.length<=500000
theorem NZ(hL:1099511627776<=L)(b0:Bool)(i1 i4:Int)(s5 s6:ByteArray)(keys:List S)(own:List Own)(hk:keys.length=15)(hl:own.length<=1000000)(hs:∀o∈own,o.sec.length<=500000):∀(ns pre:List Int) (m many:Nat),ns.length<m->pre.length+ns.length<=1000->many+ns.length<=1000->(∀n∈ns,0<=n/\n<=14)->
 yJ L (D+308) m b0 i1 (keys.map rS) (own.map rO) i4 s5 s6 many ((pre++ns).map rI) ((pre.length+ns.length:Nat):Int) pre.length=some (.bool (wN keys own ns many),[])
 |_,_,0,_,h,_,_,_=>by omega
 |[],pre,m+1,many,h,hp,hm,hr=>by
  rw[yK];have g:iLt (pre.length:Int) ((pre.length+([]:List Int).length:Nat):Int)=false:=by rw[aN,jg];simp
  rw[g,aD,cK,aF];show some (MV.bool (decide ((many:Int)=own.length)),([]:List Obj))=some (MV.bool (decide (many=own.length)),[]);by_cases hq:many=own.length
  ·rw[jc hq,jc (by omega:(many:Int)=own.length)]
  ·rw[jh hq,jh (by omega:¬(many:Int)=own.length)]
 |n::ns,pre,m+1,many,h,hp,hm,hr=>by
  rw[yK];obtain⟨n0,n1⟩:=hr n (by simp)
  simp only[je]at h hp hm;have g:iLt (pre.length:Int) ((pre.length+(n::ns).length:Nat):Int)=true:=by rw[aN,ja];simp only[je];omega
  have hix2:ix (pre++n::ns) (pre.length:Int)=n:=by
   rw[aZ _ _ (by simp)];simp
  have r2:=bR (pre.length:Int) (pre++n::ns) (by omega) (by simp only[jk,je];omega)
  rw[hix2]at r2;have r3:=bQ n keys (by omega) (by omega)
  have a1:aG .i64 (pre.length:Int) 1=((pre.length+1:Nat):Int):=aO _ (by omega)
  have a2:aG .i64 (many:Int) 1=((many+1:Nat):Int):=aO _ (by omega)
  have ih:=fun many' (hm':many'+ns.length<=1000)=>NZ hL b0 i1 i4 s5 s6 keys own hk hl hs ns (pre++[n]) m many' (by omega) (by simp;omega) hm' (fun k hk=>hr k (by simp[hk]))
  have e1:(pre++[n])++ns=pre++n::ns:=by simp
  have e3:(((pre++[n]).length+ns.length:Nat):Int)=((pre.length+(n::ns).length:Nat):Int):=by simp;omega
  have e4:(pre++[n]).length=pre.length+1:=by simp
  rw[e1,e3,e4]at ih;have hgo:wN keys own (n::ns) many=if ix keys n=[]then wN keys own ns many else if hY own n 0<0 then false else if makKey (ix own (hY own n 0)).sec=ix keys n then wN keys own ns (many+1)else false:=rfl
  have hat:=adD L (D+305) hL own hl n;rw[hgo];simp only[g,aC,r2,aA,eK,bL,r3,eU,bM,dH,a1];by_cases hz:ix keys n=[]
  ·rw[jc hz,aC,jd hz];exact ih many (by omega)
  ·rw[jh hz,aD,jb hz,hat];simp only[aA,bL,aN];rcases ownIx_some own n 0 with⟨j,h1,h2,_⟩|⟨h1,h2,_⟩
   ·have e0:hY own n 0=(j:Int):=by rw[h2];simp
    rw[e0];have gj:decide ((j:Int)<0)=false:=by rw[jg];omega
    have r5:=eD (j:Int) own (by omega) (by omega)
    have hix:ix own (j:Int)=own[j]:=aZ own j h1;rw[hix]at r5;have c1:aH (rO own[j]) 1=.str (bs own[j].sec):=rfl;have hkey:=nY L D hL own[j].sec (hs _ (jr h1));rw[jb (by omega:¬(j:Int)<0),hix]
    simp only[gj,bW,aC,r5,aA,c1,bM,hkey,dH];by_cases hm:makKey own[j].sec=ix keys n
    ·rw[jc hm,jd hm,bI,aD,a2];exact ih (many+1) (by omega)
    ·rw[jh hm,jb hm];rfl
   ·have gj:decide (hY own n 0<0)=true:=by rw[ja];omega
    rw[gj,jd (by omega)];rfl
theorem rH(hL:1099511627776<=L)(m:Member)(z:MB m):ev E L (D+311) 22 [.agg (rM m)] []=some (.bool (memOk m),[]):=by
 rw[<-IY];obtain⟨b,w,ks,own,e,i,t⟩:=m;obtain⟨z1,z2,z3,z4,z5,z6⟩:=z;simp only at z1 z2 z3 z4 z5 z6;show ev E L (D+311) 22 [.agg [.bool b,.int .i64 w,.sl (ks.map rS),.sl (own.map rO),.int .i64 e,.str (bs i),.str (bs t)]] []=_;rw[ajW];unfold KF;simp only;cases b with
 |false=>
  rw[jd rfl,bW,aC,cK,cK,cK,cK,dH,dH,aF,aF];have k0:((ks.length:Int)=0)=(ks=[]):=by rw[<-vt];exact propext ⟨fun h=>by omega,fun h=>by omega⟩
  have o0:((own.length:Int)=0)=(own=[]):=by rw[<-vt];exact propext ⟨fun h=>by omega,fun h=>by omega⟩
  simp only[k0,o0];by_cases h1:w=0<;>by_cases h2:ks=[]<;>by_cases h3:own=[]<;>by_cases h4:e=0<;>by_cases h5:i=[]<;>by_cases h6:t=[]<;>simp[h1,h2,h3,h4,h5,h6]
 |true=>
  rw[jb (by simp),bI,aD,oK,iP]
  by_cases hw:aR w
  ·have ht:=TB L D hL ks z1 (fun s h=>ku (z2 s h) (by omega))
   have he:=iO L (D+309) e 0 12;have hi:=hD L (D+4) hL i (by omega)
   rw[jc hw,jw];simp only[aA,aI,bI,aC,bW,ht];cases hto:treOk ks with
   |false=>rfl
   |true=>
    have hk:ks.length=15:=by
     unfold treOk at hto;simp only[jf,ja]at hto;exact hto.1
    rw[jw];simp only[bI,aC,bW,he,aA,aI];by_cases he':0<=e/\e<=12
    ·rw[jc he'.1,jc he'.2,jc he',jw];simp only[bI,aC,bW,hi,aA,aI];cases hso:secOk i with
     |false=>rfl
     |true=>
      have hh:=NU L (D+307) ks hk w;have hp:=A8 L (D+306) hL w hw;rw[jw];simp only[bI,aC,bW,aN,cE];by_cases htl:t.length<=300
      ·have g:decide ((300:Int)<t.length)=false:=by rw[jg];omega
       rw[g,jc htl,jw];simp only[bW,aC,hh,aA,aI];rw[jc hw,jw];cases hasLeaf ks w with
       |false=>rfl
       |true=>
        have hl:=fI w;have hlp:=NZ L (D+2) hL true w e (bs i) (bs t) ks own hk z3 z4 (pathOf w) [] L 0 (by omega) (by simp;omega) (by omega) (pathOf_rng hw)
        simp only[qc,jj,qr]at hlp;rw[bI,aD,hp,jw];simp only[aA,eY,aF];exact hlp
      ·have g:decide ((300:Int)<t.length)=true:=by rw[ja];omega
       rw[g,jh htl];rfl
    ·have g:(decide (0<=e)&&decide (e<=12))=false:=by
      rw[Bool.and_eq_false_iff];by_cases h2:0<=e
      ·exact .inr (by rw[jg];omega)
      ·exact .inl (by rw[jg];omega)
     rw[g,jh he'];rfl
  ·rw[jh hw];rfl
end
end Kw
namespace Kw
open Go Go.Proofs
theorem acU{A:Type}(l:List A)(p:A->Bool):(l.any p)=!(l.all fun x=>!p x):=by
 induction l with
 |nil=>rfl
 |cons a t ih=>simp[ih]
section
variable (L D:Nat)
theorem QB(hL:1099511627776<=L)(w:Int)(leaf init:S)(hl:leaf.length<=500000)(hi:init.length<=500000):ev E L (D+313) 63 [.int .i64 w,.str (bs leaf),.str (bs init)] []=some (.agg (rM (fH w leaf init)),[]):=by
 rw[akJ,oK,iP];unfold fH;have h1:=LA L (D+5) hL leaf (by omega)
 have h2:=hD L (D+6) hL init (by omega)
 by_cases hw:aR w
 ·rw[jc hw];simp only[aA,aI,bI,bW,aC,h1];by_cases hs:secOk leaf=true/\leaf.length<=292
  ·rw[hs.1,jc hs.2];simp only[Bool.and_self,bI,bW,aC,h2,aA,aI];by_cases hk:secOk init=true
   ·rw[jd ⟨hw,trivial,hk,hs.2⟩,hk];have h3:=aaN L (D+311);have h4:=ae2 L (D+2) hL treNew (by simp[treNew]) w hw leaf hl
    have h5:=A8 L (D+308) hL w hw;have hpl:=fI w;have h6:=DE L (D+2) hL (pathOf w) leaf (by show 1<=(cF (treLeaf w)).length+1;omega) (by omega) hl
    simp only[bI,aD,h3,aA,gAggN_if,je,jj,js,aP,eC,aU,aC,h4,h5,eY,h6]
    rfl
   ·rw[jb (fun x=>hk x.2.2.1)]
    have:secOk init=false:=by simpa using hk
    rw[this];rfl
  ·have hb:(secOk leaf&&decide (leaf.length<=292))=false:=by
    rw[Bool.and_eq_false_iff];by_cases h:secOk leaf=true
    ·exact .inr (jh (fun x=>hs ⟨h,x⟩))
    ·exact .inl (by simpa using h)
   rw[jb (fun x=>hs ⟨x.2.1,x.2.2.2⟩),hb];rfl
 ·rw[jh hw,jb (fun x=>hw x.1)];rfl
theorem SR(m:Member)(z:MB m):ev E L (D+3) 113 [.agg (rM m)] []=some (.agg (rM m),[]):=by
 obtain⟨b,w,ks,own,e,i,t⟩:=m;obtain⟨z1,z2,z3,z4,z5,z6⟩:=z;show ev E L (D+3) 113 [.agg [.bool b,.int .i64 w,.sl (ks.map rS),.sl (own.map rO),.int .i64 e,.str (bs i),.str (bs t)]] []=_;rw[af8,DD L D ks z1];have h:=dX L (D+1) (F:=188) (sz:=2) rfl (own.map rO) (mS own) (by rw[kb];simp only at z3;omega)
 simp only[aA,gAggN_if,je,jj,js,aP,eC,h,aU,aC]
 rfl
theorem CH(b1:Bool)(i2 i5:Int)(r3 r4:List Row)(i s7:S)(own:List Own)(hl:own.length<=1000000):∀(m k:Nat),own.length<m+k->k<=own.length->
 C1 L (D+1) m (((own.take k).map (·.sec)).map rS) b1 i2 r3 r4 i5 (bs i) (bs s7) k (own.map rO) own.length k=some (.sl ((own.map (·.sec)++[i]).map rS),[])
 |0,k,h,hk=>by omega
 |m+1,k,h,hk=>by
  rw[KO];have hn:nrows (((own.take k).map (·.sec)).map rS)=(k:Int):=by rw[aF];simp;omega
  have o1:okR 1 (((own.take k).map (·.sec)).map rS)=true:=gF _;by_cases hlt:k<own.length
  ·have h1:iLt (k:Int) own.length=true:=by rw[aN,ja];omega
   have a1:aG .i64 (k:Int) 1=((k+1:Nat):Int):=aO _ (by omega)
   have r:=eD (k:Int) own (by omega) (by omega)
   rw[aZ own k hlt]at r;have c0:aH (rO own[k]) 0=.int .i64 own[k].node:=rfl;have c1:aH (rO own[k]) 1=.str (bs own[k].sec):=rfl;have o2:okR 1 [[MV.str (bs own[k].sec)]]=true:=rfl;have hf:bH (k:Int) (nrows [[MV.str (bs own[k].sec)]]) 16=true:=aJ _ _ _ (by show((k:Int)+1)*16<=_;omega)
   have c2:aM (((own.take k).map (·.sec)).map rS) [[MV.str (bs own[k].sec)]]=(((own.take (k+1)).map (·.sec)).map rS):=by
    have:=dD rS ((own.take k).map (·.sec)) own[k].sec;rw[List.take_succ_eq_append_getElem hlt,List.map_append];exact this
   have hn2:nrows (((own.take (k+1)).map (·.sec)).map rS)=((k+1:Nat):Int):=by rw[aF];simp;omega
   have ih:=CH b1 i2 i5 r3 r4 i s7 own hl m (k+1) (by omega) (by omega)
   simp only[h1,aC,r,aA,c0,c1,bL,bM,aU,hn,o1,o2,hf,dE,c2,hn2,a1,ih]
  ·have hk':k=own.length:=by omega
   have h1:iLt (k:Int) own.length=false:=by rw[aN,jg];omega
   have o2:okR 1 [[MV.str (bs i)]]=true:=rfl;have hf:bH (k:Int) (nrows [[MV.str (bs i)]]) 16=true:=aJ _ _ _ (by show((k:Int)+1)*16<=_;omega)
   have c2:aM (((own.take k).map (·.sec)).map rS) [[MV.str (bs i)]]=((own.map (·.sec)++[i]).map rS):=by
    have:=dD rS ((own.take k).map (·.sec)) i;rw[List.take_of_length_le (by omega)]at this⊢
    exact this
   have hcl:=dX L D (F:=48) (sz:=1) rfl ((own.map (·.sec)++[i]).map rS) (gF _) (by simp;omega)
   simp only[h1,aD,aU,aC,hn,o1,o2,hf,dE,c2,hcl,aA,eC]
theorem QC(hL:1099511627776<=L)(m:Member)(z:MB m):ev E L (D+312) 17 [.agg (rM m)] []=some (.sl ((fW m).map rS),[]):=by
 have h1:=rH L D hL m z;obtain⟨b,w,ks,own,e,i,t⟩:=m;obtain⟨z1,z2,z3,z4,z5,z6⟩:=z;simp only at z3;show ev E L (D+312) 17 [.agg [.bool b,.int .i64 w,.sl (ks.map rS),.sl (own.map rO),.int .i64 e,.str (bs i),.str (bs t)]] []=_;change ev E L (D+311) 22 [.agg [.bool b,.int .i64 w,.sl (ks.map rS),.sl (own.map rO),.int .i64 e,.str (bs i),.str (bs t)]] []=_ at h1;rw[ajT,h1];unfold fW;simp only[aA,aI];by_cases h:memOk ⟨b,w,ks,own,e,i,t⟩=true
 ·rw[h];cases b with
  |false=>rw[jb (by simp)];rfl
  |true=>
   have:=CH L (D+310) true w e (ks.map rS) (own.map rO) i t own z3 L 0 (by omega) (by omega)
   rw[jd (by simp)]
   simp only[bI,bW,aC,aD,aF];exact this
 ·have hb:memOk ⟨b,w,ks,own,e,i,t⟩=false:=by simpa using h
  rw[hb,jb (by simp)];rfl
theorem aa2(hL:1099511627776<=L)(b:Box)(h1:b.key.length<=2000000)(h2:b.sec.length<=2000000):ev E L (D+307) 140 [.agg [.str (bs b.key),.str (bs b.sec)]] []=some (.bool (!(secOk b.key&&secOk b.sec)),[]):=by
 rw[afP,hD L D hL b.key h1];cases secOk b.key with
 |false=>rfl
 |true=>
  simp only[aA,aI,bI,bW,aC,hD L D hL b.sec h2,jw]
  rfl
theorem I6(hL:1099511627776<=L)(l:List Box)(hl:l.length<=1000000)(hs:∀b∈l,b.key.length<=2000000/\b.sec.length<=2000000):∀(m k:Nat),l.length<m+k->k<=l.length->
 ∃i:Int,oJ L (D+307) m (l.map rB) l.length k=some (.int .i64 i,[])/\(decide (0<=i)=!((l.drop k).all fun b=>secOk b.key&&secOk b.sec))
 |0,k,h,hk'=>by omega
 |m+1,k,h,hk'=>by
  rw[AX];by_cases hlt:k<l.length
  ·have h1:iLt (k:Int) l.length=true:=by rw[aN,ja];omega
   have a1:aG .i64 (k:Int) 1=((k+1:Nat):Int):=aO _ (by omega)
   have e:=kz hlt;have r:=qI (k:Int) l (by omega) (by omega)
   rw[aZ l k hlt]at r;have hb:=hs l[k] (jr hlt);have hc:=aa2 L D hL l[k] hb.1 hb.2;have c0:aH (rB l[k]) 0=.str (bs l[k].key):=rfl;have c1:aH (rB l[k]) 1=.str (bs l[k].sec):=rfl;rw[e,va];obtain⟨i,ih,hi⟩:=I6 hL l hl hs m (k+1) (by omega) (by omega)
   simp only[h1,aC,r,aA,c0,c1,bM,hc,aI,a1];cases hb:(secOk l[k].key&&secOk l[k].sec)with
   |true=>
    simp only[Bool.not_true,aD,ih,jw];exact⟨i,rfl,hi⟩
   |false=>
    simp only[Bool.not_false,aC,wd];exact⟨k,rfl,by rw[ja];omega⟩
  ·have h1:iLt (k:Int) l.length=false:=by rw[aN,jg];omega
   have e:l.drop k=[]:=wk (by omega)
   rw[e,h1,aD];exact⟨-1,rfl,rfl⟩
theorem acV(hL:1099511627776<=L)(l:List Box)(hl:l.length<=1000000)(hs:∀b∈l,b.key.length<=2000000/\b.sec.length<=2000000):ev E L (D+310) 76 [.sl [],.sl (l.map rB)] []=some (.bool (iK l),[]):=by
 rw[akT,aF,cH,cH];unfold iK;have g0:decide (nrows []<=400)=true:=rfl;rw[g0,aC];by_cases h:l.length<=400
 ·have g:decide ((l.length:Int)<=400)=true:=by rw[ja];omega
  obtain⟨i,h2,h3⟩:=I6 L D hL l hl hs L 0 (by omega) (by omega)
  obtain⟨m,hm⟩:∃m,L=m+1:=⟨L-1,by omega⟩
  have hz:oI L (D+307) L [] (nrows []) 0=some (.int .i64 (-1),[]):=by
   conv=>lhs;arg 3;rw[hm]
   rw[AW]
   rfl
  rw[show((0:Nat):Int)=0 from rfl]at h2
  rw[g,aC,Z0,VP,hz,jc h,jw];have gm:iLe 0 (-1)=false:=rfl;simp only[aA,bL,gm,aI,bW,aC];rw[VL,VT,aF,h2];simp only[aA,bL,aI,cH,h3,kw];cases (l.all fun b=>secOk b.key&&secOk b.sec)<;>rfl
 ·have g:decide ((l.length:Int)<=400)=false:=by rw[jg];omega
  rw[g,jh h];rfl
end
end Kw
namespace Kw
def PF(c:Commit):Bool:=
 decide (aR c.sender)&&(decide ((bK c.name).op=1)&&(decide (c.tag.length+c.name.length<=300)&&(decide (cN c.add c.sender)&&(decide (cN c.remove c.sender)&&(treOk c.keys&&(decide (c.boxes.length<=20)&&(iK c.boxes&&(twoKeys c.add c.leaf c.wkey&&
  (if c.add<0 then decide (c.wkey=[]/\c.wik=[]/\c.wis=[]/\c.wsk=[]/\c.wss=[])else decide (c.wik=c.wkey)&&(decide (c.wsk=c.wkey)&&(secOk c.wis&&secOk c.wss)))))))))))
theorem UK(c:Commit):PF c=eO c:=by
 unfold PF eO twoKeys;apply vr.2;by_cases h:c.add<0
 ·simp only[h,js,jf,ja];constructor
  ·rintro⟨h1,h2,h3,h4,h5,h6,h7,h8,⟨h9,h10⟩,h11,h12,h13,h14,h15⟩;exact⟨⟨h1,h2,h3,h4,h5⟩,h6,h8,h7,h9,h10,h12,h13,h14,h15⟩
  ·rintro⟨⟨h1,h2,h3,h4,h5⟩,h6,h8,h7,h9,h10,h12,h13,h14,h15⟩;exact⟨h1,h2,h3,h4,h5,h6,h7,h8,⟨h9,h10⟩,h10,h12,h13,h14,h15⟩
 ·simp only[h,ql,jf,ja];constructor
  ·rintro⟨h1,h2,h3,h4,h5,h6,h7,h8,⟨h9,h10,h11⟩,h12,h13,h14,h15⟩;exact⟨⟨h1,h2,h3,h4,h5⟩,h6,h8,h7,h9,h10,⟨h11,h12,h13⟩,h14,h15⟩
  ·rintro⟨⟨h1,h2,h3,h4,h5⟩,h6,h8,h7,h9,h10,⟨h11,h12,h13⟩,h14,h15⟩;exact⟨h1,h2,h3,h4,h5,h6,h7,h8,⟨h9,h10,h11⟩,h12,h13,h14,h15⟩
end Kw
namespace Kw
def AO(m:Member)(fresh:S)(add remove:Int)(leaf key:S):Bool:=
 memOk m&&(m.inn&&(decide (m.epoch<12)&&(decide ((bK fresh).op=1)&&(decide (cN add m.who)&&(decide (cN remove m.who)&&(changes m.keys add remove&&(twoKeys add leaf key&&(decide (m.tag.length+fresh.length<=300)&&decide (m.init.length<=280)))))))))
theorem KH(m:Member)(fresh:S)(add remove:Int)(leaf key:S):AO m fresh add remove leaf key=cT m fresh add remove leaf key:=by
 unfold AO cT may;apply vr.2;simp only[jf,ja];constructor
 ·rintro⟨h1,h2,h3,h4,h5,h6,h7,h8,h9,h10⟩;exact⟨h1,h4,⟨h2,⟨h3,h5,h6⟩,h7,h8⟩,h9,h10⟩
 ·rintro⟨h1,h4,⟨h2,⟨h3,h5,h6⟩,h7,h8⟩,h9,h10⟩;exact⟨h1,h2,h3,h4,h5,h6,h7,h8,h9,h10⟩
def GQ:List Int->Int->Nat->Int
 |[],_,_=> -1
 |a::r,n,k=>if n=a then k else GQ r n (k+1)
theorem MR:∀(l:List Own) (n:Int) (k:Nat),GQ (l.map (·.node)) n k=hY l n k
 |[],_,_=>rfl
 |o::r,n,k=>by
  show(if n=o.node then(k:Int)else GQ (r.map (·.node)) n (k+1))=if o.node=n then(k:Int)else hY r n (k+1)
  by_cases h:o.node=n
  ·rw[jd h,jd h.symm]
  ·rw[jb h,jb (Ne.symm h),MR r n (k+1)]
theorem dJ:∀(p:List Int) (s:S),(pathGo p s).map (·.node)=p
 |[],_=>rfl
 |n::p,s=>by
  show n::(pathGo p (makNext s)).map (·.node)=n::p;rw[dJ]
theorem C0{a b:Int}(ha:aR a)(hb:aR b):treMeet (treLeaf a) (treLeaf b)∈pathOf a/\treMeet (treLeaf a) (treLeaf b)=treMeet (treLeaf b) (treLeaf a):=by
 obtain⟨a0,a1⟩:=ha;obtain⟨b0,b1⟩:=hb;have hall:∀i j:Fin 8,treMeet (treLeaf (i.val:Int)) (treLeaf (j.val:Int))∈pathOf (i.val:Int)/\treMeet (treLeaf (i.val:Int)) (treLeaf (j.val:Int))=treMeet (treLeaf (j.val:Int)) (treLeaf (i.val:Int)):=by decide+kernel
 have:=hall ⟨a.toNat,by omega⟩ ⟨b.toNat,by omega⟩
 simpa only[vh a0,vh b0]using this
theorem YT{w a:Int}(hw:aR w)(ha:aR a)(s:S):∃j:Nat,j< (pathGo (pathOf w) s).length/\GQ (pathOf w) (treMeet (treLeaf w) (treLeaf a)) 0=j/\(ix (pathGo (pathOf w) s) (j:Int)).sec=eB (pathGo (pathOf w) s) (treMeet (treLeaf a) (treLeaf w)):=by
 obtain⟨h1,h2⟩:=C0 hw ha;rw[<-h2];have e:=MR (pathGo (pathOf w) s) (treMeet (treLeaf w) (treLeaf a)) 0;rw[dJ]at e;rcases ownIx_some (pathGo (pathOf w) s) (treMeet (treLeaf w) (treLeaf a)) 0 with⟨j,hj,he,_,hf,_⟩|⟨_,_,hn⟩
 ·refine⟨j,hj,by rw[e,he];simp,?_⟩
  unfold eB;rw[hf,ji hj,aZ _ j hj]
 ·rw[dJ]at hn;exact absurd h1 hn
end Kw
namespace Kw
open Go Go.Proofs
structure CBd(c:Commit):Prop where
 tag:c.tag.length<=500000
 name:c.name.length<=500000
 leaf:c.leaf.length<=500000
 keys:c.keys.length<=1000000
 key:∀s∈c.keys,s.length<=500000
 boxes:c.boxes.length<=1000000
 box:∀b∈c.boxes,b.key.length<=500000/\b.sec.length<=500000
 wkey:c.wkey.length<=500000
 wik:c.wik.length<=500000
 wis:c.wis.length<=500000
 wsk:c.wsk.length<=500000
 wss:c.wss.length<=500000
theorem nX{b:Bool}{X:Option (MV×List Obj)}{r:Bool}(h:b=true->X=some (.bool r,[])):br (bNot (bNot b)) X (some (.bool false,[]))=some (.bool (b&&r),[]):=by
 cases b with
 |false=>rfl
 |true=>rw[h rfl];rfl
theorem FT{A:Type}{x y:A}(k:Nat)(h:k<8):(List.replicate 8 y).set k x=(List.range 8).map fun(j:Nat)=>if(j:Int)=(k:Int)then x else y:=by
 rcases(by omega:k=0\/k=1\/k=2\/k=3\/k=4\/k=5\/k=6\/k=7)with rfl|rfl|rfl|rfl|rfl|rfl|rfl|rfl<;>rfl
theorem CI{w n:Int}(h:aR w)(h1:1<=n)(h2:n<=9):(bP w n).length=3:=by
 unfold bP;rw[jd ⟨h,h1,by omega⟩,wW (by omega) (by omega)]
 unfold CO;rw[jd (by omega)]
 rfl
section
variable (L D:Nat)
theorem KY(hL:1099511627776<=L)(c:Commit)(z:CBd c):ev E L (D+311) 32 [.agg (rC c)] []=some (.bool (eO c),[]):=by
 rw[<-UK];obtain⟨c0,c1,c2,c3,c4,c5,c6,c7,c8,c9,c10,c11,c12⟩:=c;obtain⟨z1,z2,z3,z4,z5,z6,z7,z8,z9,z10,z11,z12⟩:=z;simp only at z1 z2 z3 z4 z5 z6 z7 z8 z9 z10 z11 z12;show ev E L (D+311) 32 [.agg [.int .i64 c0,.str (bs c1),.str (bs c2),.int .i64 c3,.int .i64 c4,.str (bs c5),.sl (c6.map rS),.sl (c7.map rB),.str (bs c8),.str (bs c9),.str (bs c10),.str (bs c11),.str (bs c12)]] []=_;rw[ak3,oK,iP];unfold PF;simp only[aA,aI];refine nX fun hw=>?_
 have hw':aR c0:=qo hw;rw[AZ L (D+5) hL c2 (by omega)]
 simp only[aA,gAggN_if,je,jj,js,aP,aV,bL,bM,cK];refine nX fun _=>?_
 have a1:aG .i64 (c1.length:Int) (c2.length:Int)=((c1.length+c2.length:Nat):Int):=by rw[bT (by omega) (by omega)];omega
 have g300:bNot (iLt 300 (aG .i64 (sLen (bs c1)) (sLen (bs c2))))=decide (c1.length+c2.length<=300):=by
  rw[cE,cE,a1,aN];by_cases h:c1.length+c2.length<=300
  ·rw[jc h,jh (by omega:¬(300:Int)< ((c1.length+c2.length:Nat):Int))];rfl
  ·rw[jh h,jc (by omega:(300:Int)< ((c1.length+c2.length:Nat):Int))];rfl
 have g20:bNot (iLt 20 (nrows (c7.map rB)))=decide (c7.length<=20):=by
  rw[aF,aN];by_cases h:c7.length<=20
  ·rw[jc h,jh (by omega:¬(20:Int)< (c7.length:Int))];rfl
  ·rw[jh h,jc (by omega:(20:Int)< (c7.length:Int))];rfl
 rw[g300];have guard1:∀{b:Bool} {X:Option (MV×List Obj)} {r:Bool},(b=true->X=some (.bool r,[]))->br b X (some (.bool false,[]))=some (.bool (b&&r),[]):=fun{b} {X} {r} h=>by
  cases b with
  |false=>rfl
  |true=>rw[h rfl];rfl
 refine guard1 fun _=>?_
 rw[vD L (D+307) c3 c0 hw'];simp only[aA,aI];refine nX fun _=>?_
 rw[vD L (D+307) c4 c0 hw'];simp only[aA,aI];refine nX fun _=>?_
 rw[TB L D hL c6 z4 (fun s h=>ku (z5 s h) (by omega))]
 simp only[aA,aI];refine nX fun _=>?_
 rw[g20];refine guard1 fun _=>?_
 rw[acV L D hL c7 z6 (fun b h=>⟨ku (z7 b h).1 (by omega),ku (z7 b h).2 (by omega)⟩)]
 simp only[aA,aI];refine nX fun _=>?_
 rw[I9 L (D+3) hL c3 c5 c8 (by omega) (by omega)]
 simp only[aA,aI];cases twoKeys c3 c5 c8 with
 |false=>rfl
 |true=>
  rw[bI,aD,jw,aN];by_cases h:c3<0
  ·rw[jc h,aC,jd h];simp only[dH];by_cases h1:c8=[]<;>by_cases h2:c9=[]<;>by_cases h3:c10=[]<;>by_cases h4:c11=[]<;>by_cases h5:c12=[]<;>simp[h1,h2,h3,h4,h5,aE]
  ·rw[jh h,aD,jb h,dH];refine guard1 fun _=>?_
   rw[dH];refine guard1 fun _=>?_
   rw[hD L (D+4) hL c10 (by omega)]
   simp only[aA,aI];refine guard1 fun _=>?_
   rw[hD L (D+4) hL c12 (by omega)]
   rfl
theorem QD(s:S):frT s=l7 s:=by
 unfold frT l7
 congr 1
 induction s with
 |nil=>rfl
 |cons c r ih=>
  rw[low,ih,va];by_cases h1:97<=c.toNat<;>by_cases h2:c.toNat<=122<;>simp[h1,h2]
theorem KZ(hL:1099511627776<=L)(f:Frame)(hk:f.key.length<=500000)(ht:f.text.length<=500000):ev E L (D+311) 43 [.agg (rF f)] []=some (.bool (fraOk f),[]):=by
 obtain⟨src,key,n,text⟩:=f;simp only at hk ht;show ev E L (D+311) 43 [.agg [.int .i64 src,.str (bs key),.int .i64 n,.str (bs text)]] []=_;rw[akA,AZ L (D+5) hL key (by omega)]
 have guard1:∀{b:Bool} {X:Option (MV×List Obj)} {r:Bool},(b=true->X=some (.bool r,[]))->br b X (some (.bool false,[]))=some (.bool (b&&r),[]):=fun{b} {X} {r} h=>by
  cases b with
  |false=>rfl
  |true=>rw[h rfl];rfl
 have e:fraOk ⟨src,key,n,text⟩=(decide (aR src)&&(decide ((bK key).op=5)&&(decide ((bK key).who=src)&&((decide (1<=n)&&decide (n<=999))&&l7 text)))):=by
  unfold fraOk;apply vr.2;simp only[jf,ja];constructor
  ·rintro⟨⟨h1,h2,h3,h4,h5⟩,h6⟩;exact⟨h1,h2,h3,⟨h4,h5⟩,h6⟩
  ·rintro⟨h1,h2,h3,⟨h4,h5⟩,h6⟩;exact⟨⟨h1,h2,h3,h4,h5⟩,h6⟩
 rw[e];simp only[aA,gAggN_if,je,jj,js,aP,aV,bL,bM,oK,iP,aI,cK];refine guard1 fun _=>?_
 refine guard1 fun _=>?_
 refine guard1 fun _=>?_
 rw[iO];simp only[aA,aI];refine guard1 fun _=>?_
 rw[alF L (D+309) hL text (by omega)]
 simp only[aA,aI,QD]
theorem aa3(hL:1099511627776<=L)(w:Int):ev E L (D+314) 21 [.int .i64 w] []=
 some (.agg [.sl ((cP w).seats.map rM),.sl ((cP w).waits.map rWt),.sl ((cP w).log.map rC),.sl ((cP w).fresh.map rI),.sl ((cP w).spy.map rS),.sl ((cP w).stolen.map rSt),.sl ((cP w).frames.map rF),.sl ((cP w).said.map rI),.sl ((cP w).wins.map rWs),.sl ((cP w).told.map rT)],[]):=by
 rw[ajV,oK,iP];by_cases hw:aR w
 ·have h1:=F7 L (D+310) w 1;have h2:=F7 L (D+310) w 2;have l1:=CI hw (n:=1) (by omega) (by omega)
  have l2:=CI hw (n:=2) (by omega) (by omega)
  have h3:=QB L D hL w (bP w 1) (bP w 2) (by omega) (by omega)
  obtain⟨w0,w1⟩:=id hw;obtain⟨k,rfl⟩:=kv w0;have b1:aE (iEq 8 8) (aE (iLe 0 8) (bH 8 0 104))=true:=by rw[aJ _ _ _ (by omega)];rfl
  have b2:aE (iEq 8 8) (aE (iLe 0 8) (bH 8 0 8))=true:=by rw[aJ _ _ _ (by omega)];rfl
  have b3:aE (iEq 8 8) (aE (iLe 0 8) (bH 8 0 24))=true:=by rw[aJ _ _ _ (by omega)];rfl
  have e1:fL 8 [MV.bool false,MV.int IntKind.i64 0,MV.sl [],MV.sl [],MV.int IntKind.i64 0,MV.str (bs []),MV.str (bs [])]=(List.replicate 8 cI).map rM:=rfl;have e2:fL 8 [MV.int IntKind.i64 0]=(List.replicate 8 (0:Int)).map rI:=rfl;have e3:fL 8 [MV.sl []]=(List.replicate 8 ([]:List Win)).map rWs:=rfl;have r1:=cJ (k:Int) (List.replicate 8 cI) (by omega) (by simp;omega)
  have r2:=cB (List.replicate 8 cI) (k:Int) (by omega) (by simp;omega)
  have r3:=bR (k:Int) (List.replicate 8 (0:Int)) (by omega) (by simp;omega)
  have r4:=cG (List.replicate 8 (0:Int)) (k:Int) (by omega) (by simp;omega)
  have m1:∀m:Member,iLe 7 (cA (rM m))=true:=fun _=>rfl
  have m2:∀n:Int,iLe 1 (cA (rI n))=true:=fun _=>rfl
  generalize hm:fH (k:Int) (bP (k:Int) 1) (bP (k:Int) 2)=m at h3;have s1:setR ((List.replicate 8 cI).map rM) (k:Int) (rM m)=((List.replicate 8 cI).set k m).map rM:=by rw[oZ,ki]
  have s2:setR ((List.replicate 8 (0:Int)).map rI) (k:Int) (rI 2)=((List.replicate 8 (0:Int)).set k 2).map rI:=by rw[jB,ki]
  have sr1:∀q:Member,setRow (rM q) 0 [MV.bool m.inn,MV.int IntKind.i64 m.who,MV.sl (m.keys.map rS),MV.sl (m.own.map rO),MV.int IntKind.i64 m.epoch,MV.str (bs m.init),MV.str (bs m.tag)]=rM m:=fun _=>rfl
  have sr2:∀q:Int,setRow (rI q) 0 [MV.int IntKind.i64 2]=rI 2:=fun _=>rfl
  have n1:iEq (nrows ((List.replicate 8 cI).map rM)) (nrows (((List.replicate 8 cI).set k m).map rM))=true:=by rw[aF,aF,kf,aU]
  have n2:iEq (nrows ((List.replicate 8 (0:Int)).map rI)) (nrows (((List.replicate 8 (0:Int)).set k 2).map rI))=true:=by rw[aF,aF,kf,aU]
  rw[jc hw];unfold cP;rw[jd hw,hm];change ev E L (D+313) 63 _ []=some (.agg [.bool m.inn,.int .i64 m.who,.sl (m.keys.map rS),.sl (m.own.map rO),.int .i64 m.epoch,.str (bs m.init),.str (bs m.tag)],[])at h3;simp only[aA,aI,bI,aD,aC,h1,h2,bM,h3,gAggN_if,je,jj,js,aP,aV,bL,eY,e1,e2,e3,aU,r1,r2,r3,r4,m1,m2,sr1,sr2,s1,s2,n1,n2];rw[FT k (by omega),FT k (by omega)]
  rfl
 ·rw[jh hw];unfold cP;rw[jb hw];rfl
end
end Kw
namespace Kw
open Go Go.Proofs
theorem K0(ks:List S)(add:Int)(sec:S)(n:Int)(l:List Int):cL ks add sec (n::l)=(if add<0\/n≠treLeaf add then[⟨ix ks n,sec⟩]else[])++cL ks add sec l:=by
 unfold cL;rw[ya];by_cases h:add<0\/n≠treLeaf add
 ·rw[jd (jc h),jd h];rfl
 ·rw[jb (by simpa using h),jb h];rfl
section
variable (L D:Nat)
theorem FU(base:List S)(hb:base.length=15)(own:List Own)(add:Int)(ha: -1<=add/\add<=7)(k:Nat)(hk:k+1<own.length)(hk2:own.length<=100)(n10:Nat)(r0:List Row)(r1:List Row)(r2:List Row)(r3:List Row)(r5:List Row)(r6:List Row)(b9:Bool)(i10:Int)(r11:List Row)(r12:List Row)(i13:Int)(s14:ByteArray)(s15:ByteArray)(b16:Bool)(i17:Int)(i18:Int)(i19:Int)(i20:Int)(s21:ByteArray)(s22:ByteArray)(i23:Int)(s24:ByteArray)(s25:ByteArray)(i26:Int)(i27:Int)(s28:ByteArray)(i29:Int)(i30:Int)(s31:ByteArray)(s32:ByteArray)(s33:ByteArray)(s34:ByteArray)(s35:ByteArray)(b37:Bool)(i38:Int)(i39:Int)(i41:Int)(s42:ByteArray)(s43:ByteArray)(i44:Int)(s45:ByteArray)(s46:ByteArray)(i47:Int)(i48:Int)(s49:ByteArray)(i50:Int)(s52:ByteArray)(s53:ByteArray)(s54:ByteArray)(s55:ByteArray)(s56:ByteArray)(s58:ByteArray)(r59:List Row)(r61:List Row)(i62:Int)(i63:Int):
 ∀(l pre:List Int) (m:Nat) (bx:List Box),l.length<m->bx.length+l.length<=1000->(pre++l).length<=1000->(∀n∈l,0<=n/\n<=14)->
 nF L (D+1) m n10 r0 r1 r2 r3 (base.map rS) r5 r6 (bx.map rB) ((pre++l).map rI) b9 i10 r11 r12 i13 s14 s15 b16 i17 i18 i19 i20 s21 s22 i23 s24 s25 i26 i27 s28 i29 i30 s31 s32 s33 s34 s35 base.length b37 i38 i39 (own.map rO) i41 s42 s43 i44 s45 s46 i47 i48 s49 i50 bx.length s52 s53 s54 s55 s56 add s58 r59 k r61 i62 i63 ((pre++l).length:Nat) ((pre++l).length:Nat) pre.length=
 lT L (D+1) n10 r0 r1 r2 r3 (base.map rS) r5 r6 ((bx++cL base add (ix own ((k+1:Nat):Int)).sec l).map rB) b9 i10 r11 r12 i13 s14 s15 b16 i17 i18 i19 i20 s21 s22 i23 s24 s25 i26 i27 s28 i29 i30 s31 s32 s33 s34 s35 base.length b37 i38 i39 (own.map rO) i41 s42 s43 i44 s45 s46 i47 i48 s49 i50 ((bx++cL base add (ix own ((k+1:Nat):Int)).sec l).length:Nat) s52 s53 s54 s55 s56 add s58 r59 r61 i62 (aG .i64 i63 1)
 |_,_,0,_,h,_,_,_=>by omega
 |[],pre,m+1,bx,h,hx,hp,hr=>by
  rw[tN];have g:iLt (pre.length:Int) ((pre++([]:List Int)).length:Nat)=false:=by rw[aN,jg];simp
  have e:cL base add (ix own ((k+1:Nat):Int)).sec []=[]:=rfl;rw[g,aD,e,jz]
 |n::l,pre,m+1,bx,h,hx,hp,hr=>by
  rw[tN];obtain⟨n0,n1⟩:=hr n (by simp)
  simp only[je]at h hx;have g:iLt (pre.length:Int) ((pre++n::l).length:Nat)=true:=by rw[aN,ja];simp only[jk,je];omega
  have hix:ix (pre++n::l) (pre.length:Int)=n:=by rw[aZ _ _ (by simp)];simp
  have u1:=bR (pre.length:Int) (pre++n::l) (by omega) (by simp only[jk,je];omega)
  have u2:=cG (pre++n::l) (pre.length:Int) (by omega) (by simp only[jk,je];omega)
  rw[hix]at u1 u2;have q8:iEq ((pre++n::l).length:Nat) (nrows ((pre++n::l).map rI))=true:=by rw[aF,aU]
  have q4:iEq (base.length:Int) (nrows (base.map rS))=true:=by rw[aF,aU]
  have u3:=bQ n base (by omega) (by omega)
  have u4:=iG base n (by omega) (by omega)
  have ak:aG .i64 (k:Int) 1=((k+1:Nat):Int):=aO _ (by omega)
  have a1:aG .i64 (pre.length:Int) 1=((pre++[n]).length:Nat):=by rw[aO _ (by simp at hp;omega)];simp
  have u5:=eD ((k+1:Nat):Int) own (by omega) (by omega)
  have c1:∀q:Own,aH (rO q) 1=.str (bs q.sec):=fun _=>rfl
  have c0:∀q:S,aH (rS q) 0=.str (bs q):=fun _=>rfl
  have ci:aH (rI n) 0=.int .i64 n:=rfl;have e1:(pre++[n])++l=pre++n::l:=by simp
  have ih:=fun bx' (hb':bx'.length+l.length<=1000)=>FU base hb own add ha k hk hk2 n10 r0 r1 r2 r3 r5 r6 b9 i10 r11 r12 i13 s14 s15 b16 i17 i18 i19 i20 s21 s22 i23 s24 s25 i26 i27 s28 i29 i30 s31 s32 s33 s34 s35 b37 i38 i39 i41 s42 s43 i44 s45 s46 i47 i48 s49 i50 s52 s53 s54 s55 s56 s58 r59 r61 i62 i63 l (pre++[n]) m bx' (by omega) hb' (by rw[e1];exact hp) (fun q hq=>hr q (by simp[hq]))
  rw[e1]at ih;have hq:∀(s1 s2:S),okR 2 (bx.map rB)=true/\okR 2 [[MV.str (bs s1),MV.str (bs s2)]]=true/\bH (nrows (bx.map rB)) (nrows [[MV.str (bs s1),MV.str (bs s2)]]) 32=true/\aM (bx.map rB) [[MV.str (bs s1),MV.str (bs s2)]]=(bx++[(⟨s1,s2⟩:Box)]).map rB/\nrows ((bx++[(⟨s1,s2⟩:Box)]).map rB)=((bx++[(⟨s1,s2⟩:Box)]).length:Nat):=fun s1 s2=>
   ⟨IB bx,rfl,by rw[aF];exact aJ _ _ _ (by show((bx.length:Int)+1)*32<=_;omega),dD rB bx (⟨s1,s2⟩:Box),aF ..⟩
  obtain⟨h1,h2,h3,h4,h5⟩:=hq (ix base n) (ix own ((k+1:Nat):Int)).sec;have q7:iEq (bx.length:Int) (nrows (bx.map rB))=true:=by rw[aF,aU]
  rw[K0];by_cases hadd:add<0
  ·have ga:iLt add 0=true:=by rw[aN];exact jc hadd
   rw[jd (.inl hadd)];simp only[g,aC,q8,u1,u2,aA,ci,bL,ga,bI,aD,q4,u3,u4,c0,c1,bM,ak,u5,aU,q7,h1,h2,h3,dE,h4,h5,a1];rw[ih _ (by simp;omega),qy]
  ·have ga:iLt add 0=false:=by rw[aN];exact jh hadd
   have hw:aR add:=⟨by omega,ha.2⟩
   have hlf:=oQ L D add hw;by_cases hn:n=treLeaf add
   ·have gn:iEq n (treLeaf add)=true:=by rw[cK];exact jc hn
    rw[jb (fun x=>x.elim hadd fun y=>y hn)]
    simp only[g,aC,q8,u1,u2,aA,ci,bL,ga,bW,hlf,gn,bI,aD,a1];rw[ih _ (by omega),qc]
   ·have gn:iEq n (treLeaf add)=false:=by rw[cK];exact jh hn
    rw[jd (.inr hn)];simp only[g,aC,q8,u1,u2,aA,ci,bL,ga,bW,hlf,gn,q4,u3,u4,c0,c1,bM,ak,u5,aU,q7,h1,h2,h3,dE,h4,h5,a1];rw[ih _ (by simp;omega),qy]
end
end Kw
namespace Kw
open Go Go.Proofs
theorem alG{w:Int}(h:aR w):(pathOf w).length=4/\(∀j:Nat,j<3->1<=ix (pathOf w) (j:Int)/\ix (pathOf w) (j:Int)<=14):=by
 obtain⟨h0,h1⟩:=h;have hall:∀k:Fin 8,(pathOf (k.val:Int)).length=4/\(∀j:Fin 3,1<=ix (pathOf (k.val:Int)) (j.val:Int)/\ix (pathOf (k.val:Int)) (j.val:Int)<=14):=by decide+kernel
 have:=hall ⟨w.toNat,by omega⟩
 simp only[vh h0]at this;exact⟨this.1,fun j hj=>this.2 ⟨j,hj⟩⟩
theorem aa4{n:Int}(h:1<=n/\n<=14):0<=cC n/\cC n<=14:=by
 unfold cC;rw[jd h];split<;>omega
section
variable (L D:Nat)
theorem wV(hL:1099511627776<=L)(base:List S)(hb:base.length=15)(own:List Own)(hown:own.length=4)(path:List Int)(hpl:path.length=4)(hpr:∀j:Nat,j<3->1<=ix path (j:Int)/\ix path (j:Int)<=14)(add:Int)(ha: -1<=add/\add<=7)(m j:Nat)(hj:j<3)(bx:List Box)(hx:bx.length<=500)(r0:List Row)(r1:List Row)(r2:List Row)(r3:List Row)(r5:List Row)(r6:List Row)(b8:Bool)(i9:Int)(r10:List Row)(r11:List Row)(i12:Int)(s13:ByteArray)(s14:ByteArray)(b15:Bool)(i16:Int)(i17:Int)(i18:Int)(i19:Int)(s20:ByteArray)(s21:ByteArray)(i22:Int)(s23:ByteArray)(s24:ByteArray)(i25:Int)(i26:Int)(s27:ByteArray)(i28:Int)(i29:Int)(s30:ByteArray)(s31:ByteArray)(s32:ByteArray)(s33:ByteArray)(s34:ByteArray)(b36:Bool)(i37:Int)(i38:Int)(i40:Int)(s41:ByteArray)(s42:ByteArray)(i43:Int)(s44:ByteArray)(s45:ByteArray)(i46:Int)(i47:Int)(s48:ByteArray)(i49:Int)(s51:ByteArray)(s52:ByteArray)(s53:ByteArray)(s54:ByteArray)(s55:ByteArray)(s57:ByteArray)(r58:List Row):
 lT L (D+6) (m+1) r0 r1 r2 r3 (base.map rS) r5 r6 (bx.map rB) b8 i9 r10 r11 i12 s13 s14 b15 i16 i17 i18 i19 s20 s21 i22 s23 s24 i25 i26 s27 i28 i29 s30 s31 s32 s33 s34 base.length b36 i37 i38 (own.map rO) i40 s41 s42 i43 s44 s45 i46 i47 s48 i49 bx.length s51 s52 s53 s54 s55 add s57 r58 ((path.take 3).map rI) ((3:Nat):Int) j=
 lT L (D+6) m r0 r1 r2 r3 (base.map rS) r5 r6 ((bx++cL base add (ix own ((j+1:Nat):Int)).sec (kA base (cC (ix path (j:Int))))).map rB) b8 i9 r10 r11 i12 s13 s14 b15 i16 i17 i18 i19 s20 s21 i22 s23 s24 i25 i26 s27 i28 i29 s30 s31 s32 s33 s34 base.length b36 i37 i38 (own.map rO) i40 s41 s42 i43 s44 s45 i46 i47 s48 i49 ((bx++cL base add (ix own ((j+1:Nat):Int)).sec (kA base (cC (ix path (j:Int))))).length:Nat) s51 s52 s53 s54 s55 add s57 r58 ((path.take 3).map rI) ((3:Nat):Int) ((j+1:Nat):Int)/\(bx++cL base add (ix own ((j+1:Nat):Int)).sec (kA base (cC (ix path (j:Int))))).length<=bx.length+32:=by
 have g:iLt (j:Int) ((3:Nat):Int)=true:=by rw[aN,ja];omega
 have u1:=bR (j:Int) (path.take 3) (by omega) (by simp;omega)
 have hix:ix (path.take 3) (j:Int)=ix path (j:Int):=by
  rw[aZ _ j (by simp;omega),aZ _ j (by omega),List.getElem_take]
 rw[hix]at u1;obtain⟨p0,p1⟩:=hpr j hj;obtain⟨q0,q1⟩:=aa4 ⟨p0,p1⟩;have u2:=V7 L (D+3) (ix path (j:Int));obtain⟨c,hc1,hc2,hc3⟩:=K8 L (D+1) base hb 5 (cC (ix path (j:Int))).toNat (by omega) (by
  have:(cC (ix path (j:Int))).toNat+1≥1:=by omega
  have h2:1*2^5<=((cC (ix path (j:Int))).toNat+1)*2^5:=qh _ this;omega)
 have ec:c=kA base (cC (ix path (j:Int))):=hc3;rw[vh q0]at hc2;rw[<-ec];have hcr:∀n∈c,0<=n/\n<=14:=by
  have:∀(f n:Nat),n<=14->∀x∈coverN f base n,0<=x/\x<=14:=by
   intro f;induction f with
   |zero=>intro n _ x hx;simp[coverN]at hx
   |succ f ih=>
    intro n hn x hx;change x∈(if ix base (n:Int)≠[]then[(n:Int)]else if 7<=n then[]else coverN f base (2*n+1)++coverN f base (2*n+2))at hx
    split at hx
    ·simp at hx;omega
    ·split at hx
     ·simp at hx
     ·rcases jy.1 hx with e|e
      ·exact ih _ (by omega) x e
      ·exact ih _ (by omega) x e
  rw[hc3];exact this 5 _ (by omega)
 have q4:iEq (base.length:Int) (nrows (base.map rS))=true:=by rw[aF,aU]
 have ci:∀n:Int,aH (rI n) 0=.int .i64 n:=fun _=>rfl
 have hlb:(cL base add (ix own ((j+1:Nat):Int)).sec c).length<=c.length:=by
  unfold cL;rw[kb];exact qz _ _
 have h13:=FU L (D+5) base hb own add ha j (by omega) (by omega) m r0 r1 r2 r3 r5 r6 b8 i9 r10 r11 i12 s13 s14 b15 i16 i17 i18 i19 s20 s21 i22 s23 s24 i25 i26 s27 i28 i29 s30 s31 s32 s33 s34 b36 i37 i38 i40 s41 s42 i43 s44 s45 i46 i47 s48 i49 s51 s52 s53 s54 s55 s57 r58 ((path.take 3).map rI) ((3:Nat):Int) j c [] L bx (by omega) (by omega) (by simp;omega) hcr
 have a1:aG .i64 (j:Int) 1=((j+1:Nat):Int):=aO _ (by omega)
 simp only[qc,jj,a1]at h13;refine⟨?_,by rw[jk];omega⟩
 rw[tM];simp only[g,aC,u1,aA,ci,bL,u2,hc2,eC,aU,aF];exact h13
end
end Kw
namespace Kw
open Go Go.Proofs
theorem jT{b rest:Bool}{A R:MV×List Obj}{X:Option (MV×List Obj)}(h:b=true->X=some (if rest=true then A else R)):br (bNot (bNot b)) X (some R)=some (if(b&&rest)=true then A else R):=by
 cases b with
 |false=>rfl
 |true=>rw[h rfl];rfl
theorem K2{b rest:Bool}{A R:MV×List Obj}{X:Option (MV×List Obj)}(h:b=true->X=some (if rest=true then A else R)):br b X (some R)=some (if(b&&rest)=true then A else R):=by
 cases b with
 |false=>rfl
 |true=>rw[h rfl];rfl
section
variable (L D:Nat)
theorem SS(l:List Int)(hl:l.length<=1000)(n:Int):∀(m k:Nat),l.length<m+k->k<=l.length->
 y3 L D m (l.map rI) n l.length k=some (.int .i64 (GQ (l.drop k) n k),[])
 |0,k,h,h2=>by omega
 |m+1,k,h,h2=>by
  rw[GX];by_cases hk:k<l.length
  ·have g:iLt (k:Int) (l.length:Int)=true:=by rw[aN,ja];omega
   have u1:=bR (k:Int) l (by omega) (by omega)
   have ci:∀n:Int,aH (rI n) 0=.int .i64 n:=fun _=>rfl
   have a1:aG .i64 (k:Int) 1=((k+1:Nat):Int):=aO _ (by omega)
   rw[kz hk];unfold GQ;rw[aZ _ k hk]at u1;simp only[g,aC,u1,aA,ci,bL,cK];by_cases he:n=l[k]
   ·rw[jc he,aC,jd he]
   ·rw[jh he,aD,jb he,a1,SS l hl n m (k+1) (by omega) (by omega)]
  ·have g:iLt (k:Int) (l.length:Int)=false:=by rw[aN,jg];omega
   rw[g,aD,jm (by omega)];rfl
theorem aa5(hL:1099511627776<=L)(l:List Int)(hl:l.length<=1000)(n:Int):ev E L (D+1) 242 [.sl (l.map rI),.int .i64 n] []=some (.int .i64 (GQ l n 0),[]):=by
 rw[agA,aF];exact SS L D l hl n L 0 (by omega) (by omega)
theorem VZ(hL:1099511627776<=L)(base:List S)(hb:base.length=15)(oa ob oc od:Own)(hpr:∀j:Nat,j<3->1<=ix ([oa.node,ob.node,oc.node,od.node]:List Int) (j:Int)/\ix ([oa.node,ob.node,oc.node,od.node]:List Int) (j:Int)<=14)(add:Int)(ha: -1<=add/\add<=7)(m:Nat)(r0:List Row)(r1:List Row)(r2:List Row)(r3:List Row)(r5:List Row)(r6:List Row)(b8:Bool)(i9:Int)(r10:List Row)(r11:List Row)(i12:Int)(s13:ByteArray)(s14:ByteArray)(b15:Bool)(i16:Int)(i17:Int)(i18:Int)(i19:Int)(s20:ByteArray)(s21:ByteArray)(i22:Int)(s23:ByteArray)(s24:ByteArray)(i25:Int)(i26:Int)(s27:ByteArray)(i28:Int)(i29:Int)(s30:ByteArray)(s31:ByteArray)(s32:ByteArray)(s33:ByteArray)(s34:ByteArray)(b36:Bool)(i37:Int)(i38:Int)(i40:Int)(s41:ByteArray)(s42:ByteArray)(i43:Int)(s44:ByteArray)(s45:ByteArray)(i46:Int)(i47:Int)(s48:ByteArray)(i49:Int)(s51:ByteArray)(s52:ByteArray)(s53:ByteArray)(s54:ByteArray)(s55:ByteArray)(s57:ByteArray)(hw:aR i9)(h38:i38=nrows r5)(h49:i49=nrows r6)(sec:S)(hsec:0<=add->∃j:Nat,j<4/\GQ ([oa.node,ob.node,oc.node,od.node]:List Int) (treMeet (treLeaf i9) (treLeaf add)) 0=j/\(ix ([oa,ob,oc,od]:List Own) (j:Int)).sec=sec):
 lT L (D+6) (m+1+1+1+1) r0 r1 r2 r3 (base.map rS) r5 r6 [] b8 i9 r10 r11 i12 s13 s14 b15 i16 i17 i18 i19 s20 s21 i22 s23 s24 i25 i26 s27 i28 i29 s30 s31 s32 s33 s34 base.length b36 i37 i38 (([oa,ob,oc,od]:List Own).map rO) i40 s41 s42 i43 s44 s45 i46 i47 s48 i49 0 s51 s52 s53 s54 s55 add s57 (([oa.node,ob.node,oc.node,od.node]:List Int).map rI) ((([oa.node,ob.node,oc.node,od.node]:List Int).take 3).map rI) ((3:Nat):Int) 0=
 some (.tup [.agg [.bool b36,.int .i64 i37,.sl r5,.sl (([oa,ob,oc,od]:List Own).map rO),.int .i64 i40,.str s41,.str s42],.agg [.int .i64 i43,.str s44,.str s45,.int .i64 i46,.int .i64 i47,.str s48,.sl r6,.sl ((boxesGo base add ([oa,ob,oc,od]:List Own)).map rB),.str (if 0<=add then s57 else s51),.str (if 0<=add then s57 else s52),.str (if 0<=add then s41 else s53),.str (if 0<=add then s57 else s54),.str (if 0<=add then bs sec else s55)],.bool true],[]):=by
 have e0:ix ([oa.node,ob.node,oc.node,od.node]:List Int) ((0:Nat):Int)=oa.node:=rfl;have e1:ix ([oa.node,ob.node,oc.node,od.node]:List Int) ((1:Nat):Int)=ob.node:=rfl;have e2:ix ([oa.node,ob.node,oc.node,od.node]:List Int) ((2:Nat):Int)=oc.node:=rfl;have f1:ix ([oa,ob,oc,od]:List Own) ((0+1:Nat):Int)=ob:=rfl;have f2:ix ([oa,ob,oc,od]:List Own) ((1+1:Nat):Int)=oc:=rfl;have f3:ix ([oa,ob,oc,od]:List Own) ((2+1:Nat):Int)=od:=rfl;obtain⟨s0,l0⟩:=wV L D hL base hb ([oa,ob,oc,od]:List Own) rfl ([oa.node,ob.node,oc.node,od.node]:List Int) rfl hpr add ha (m+1+1+1) 0 (by omega) [] (by simp) r0 r1 r2 r3 r5 r6 b8 i9 r10 r11 i12 s13 s14 b15 i16 i17 i18 i19 s20 s21 i22 s23 s24 i25 i26 s27 i28 i29 s30 s31 s32 s33 s34 b36 i37 i38 i40 s41 s42 i43 s44 s45 i46 i47 s48 i49 s51 s52 s53 s54 s55 s57 (([oa.node,ob.node,oc.node,od.node]:List Int).map rI)
 rw[e0,f1]at s0 l0;obtain⟨s1,l1⟩:=wV L D hL base hb ([oa,ob,oc,od]:List Own) rfl ([oa.node,ob.node,oc.node,od.node]:List Int) rfl hpr add ha (m+1+1) 1 (by omega) ([]++cL base add ob.sec (kA base (cC oa.node))) (ku l0 (by simp)) r0 r1 r2 r3 r5 r6 b8 i9 r10 r11 i12 s13 s14 b15 i16 i17 i18 i19 s20 s21 i22 s23 s24 i25 i26 s27 i28 i29 s30 s31 s32 s33 s34 b36 i37 i38 i40 s41 s42 i43 s44 s45 i46 i47 s48 i49 s51 s52 s53 s54 s55 s57 (([oa.node,ob.node,oc.node,od.node]:List Int).map rI)
 rw[e1,f2]at s1 l1;obtain⟨s2,l2⟩:=wV L D hL base hb ([oa,ob,oc,od]:List Own) rfl ([oa.node,ob.node,oc.node,od.node]:List Int) rfl hpr add ha (m+1) 2 (by omega) ([]++cL base add ob.sec (kA base (cC oa.node))++cL base add oc.sec (kA base (cC ob.node))) (ku l1 (ku (Nat.add_le_add_right l0 32) (by simp))) r0 r1 r2 r3 r5 r6 b8 i9 r10 r11 i12 s13 s14 b15 i16 i17 i18 i19 s20 s21 i22 s23 s24 i25 i26 s27 i28 i29 s30 s31 s32 s33 s34 b36 i37 i38 i40 s41 s42 i43 s44 s45 i46 i47 s48 i49 s51 s52 s53 s54 s55 s57 (([oa.node,ob.node,oc.node,od.node]:List Int).map rI)
 rw[e2,f3]at s2 l2;refine(s0.trans (s1.trans s2)).trans ?_;clear s0 s1 s2;rw[tM];have g:iLt ((2+1:Nat):Int) ((3:Nat):Int)=false:=rfl;rw[g,aD];have eb:([]++cL base add ob.sec (kA base (cC oa.node))++cL base add oc.sec (kA base (cC ob.node))++cL base add od.sec (kA base (cC oc.node)))=boxesGo base add ([oa,ob,oc,od]:List Own):=by
  simp[boxesGo]
 rw[eb]at l2⊢;generalize boxesGo base add ([oa,ob,oc,od]:List Own)=bx at l2⊢;have hl:bx.length<=1000:=ku l2 (ku (Nat.add_le_add_right l1 32) (ku (Nat.add_le_add_right (Nat.add_le_add_right l0 32) 32) (by simp)))
 have hc:=dX L (D+5) (F:=92) (sz:=2) rfl (bx.map rB) (IB _) (by simp;omega)
 simp only[aF,aU,aC,hc,aA,eC];subst h38 h49;by_cases h:0<=add
 ·have hwa:aR add:=⟨h,ha.2⟩;obtain⟨j,j1,j2,j3⟩:=hsec h;have m1:=oQ L (D+5) i9 hw;have m2:=oQ L (D+5) add hwa;have m3:=QH L (D+3) hL (treLeaf i9) (treLeaf add);have m4:=aa5 L (D+5) hL ([oa.node,ob.node,oc.node,od.node]:List Int) (by simp) (treMeet (treLeaf i9) (treLeaf add))
  rw[j2]at m4;have u:=eD (j:Int) ([oa,ob,oc,od]:List Own) (by omega) (by simp;omega)
  have gc:∀o:Own,e6 (aH (rO o) 1)=some (bs o.sec):=fun _=>rfl
  have gl:iLe 0 add=true:=by rw[cH];exact jc h
  simp only[gl,aC,m1,m2,m3,m4,aA,bL,u,gc,aU,jd h,j3]
 ·have gl:iLe 0 add=false:=by rw[cH];exact jh h
  simp only[gl,aD,aC,aU,jb h]
end
end Kw
namespace Kw
open Go Go.Proofs
theorem amB{A:Type}(p:List A)(h:p.length=4):∃a b c d,p=[a,b,c,d]:=by
 match p,h with
 |[a,b,c,d],_=>exact⟨a,b,c,d,rfl⟩
theorem FW:∀(l:List Int) (s:S) (ks:List S),(lM l s ks).length=ks.length
 |[],_,_=>rfl
 |_::l,s,ks=>by rw[lM,FW l];simp
theorem V0(ks:List S)(w:Int)(s:S):(vO ks w s).length=ks.length:=FW _ _ _
theorem FX(ks:List S)(add remove:Int)(leaf:S):(baseT ks add remove leaf).length=ks.length:=by
 unfold baseT;simp only;split<;>split<;>simp[clr_len]
section
variable (L D:Nat)
set_option maxRecDepth 8000 in
theorem NK(hL:1099511627776<=L)(m:Member)(z:MB m)(fresh:S)(add remove:Int)(leaf key:S)(hf:fresh.length<=500000)(h1:leaf.length<=500000)(h2:key.length<=500000):
 ev E L (D+312) 190 [.agg (rM m),.str (bs fresh),.int .i64 add,.int .i64 remove,.str (bs leaf),.str (bs key)] []=
 some (if cT m fresh add remove leaf key=true then(.tup [.agg (rM (jL m fresh add remove leaf key)),.agg (rC (lZ m fresh add remove leaf key)),.bool true],[])else(.tup [.agg (rM cI),.agg (rC o9),.bool false],[])):=by
 rw[<-KH];have hmo:=rH L D hL m z;obtain⟨b,w,ks,own,e,i,t⟩:=m;obtain⟨z1,z2,z3,z4,z5,z6⟩:=z;simp only at z1 z2 z3 z4 z5 z6;change ev E L (D+311) 22 [.agg [.bool b,.int .i64 w,.sl (ks.map rS),.sl (own.map rO),.int .i64 e,.str (bs i),.str (bs t)]] []=_ at hmo;show ev E L (D+312) 190 [.agg [.bool b,.int .i64 w,.sl (ks.map rS),.sl (own.map rO),.int .i64 e,.str (bs i),.str (bs t)],.str (bs fresh),.int .i64 add,.int .i64 remove,.str (bs leaf),.str (bs key)] []=_;rw[afS,hmo];unfold AO;simp only[aA,aI];refine jT fun k1=>?_
 refine jT fun k2=>?_
 subst k2;have k1':=k1;unfold memOk at k1';simp only[vm,ql,jf,ja]at k1';obtain⟨hw,hto,_,_,he,_,ht⟩:=k1';have hk:ks.length=15:=by
  unfold treOk at hto;simp only[jf,ja]at hto;exact hto.1
 have e12:bNot (iLe 12 e)=decide (e<12):=by
  rw[cH];by_cases h:e<12
  ·rw[jc h,jh (by omega)];rfl
  ·rw[jh h,jc (by omega)];rfl
 rw[e12];refine K2 fun k3=>?_
 have k3:=qo k3;rw[AZ L (D+6) hL fresh (by omega)]
 simp only[aA,gAggN_if,je,jj,js,aP,aV,bL,bM,cK];refine jT fun _=>?_
 rw[vD L (D+308) add w hw];simp only[aA,aI];refine jT fun k5=>?_
 have k5:=qo k5;rw[vD L (D+308) remove w hw];simp only[aA,aI];refine jT fun k6=>?_
 have k6:=qo k6;rw[JA L (D+307) ks hk add remove ⟨k5.1,k5.2.1⟩ ⟨k6.1,k6.2.1⟩];simp only[aA,aI];refine jT fun _=>?_
 rw[I9 L (D+4) hL add leaf key (by omega) (by omega)]
 simp only[aA,aI];refine jT fun _=>?_
 have a1:aG .i64 (t.length:Int) (fresh.length:Int)=((t.length+fresh.length:Nat):Int):=by rw[bT (by omega) (by omega)];omega
 have g300:bNot (iLt 300 (aG .i64 (sLen (bs t)) (sLen (bs fresh))))=decide (t.length+fresh.length<=300):=by
  rw[cE,cE,a1,aN];by_cases h:t.length+fresh.length<=300
  ·rw[jc h,jh (by omega:¬(300:Int)< ((t.length+fresh.length:Nat):Int))];rfl
  ·rw[jh h,jc (by omega:(300:Int)< ((t.length+fresh.length:Nat):Int))];rfl
 rw[g300];refine K2 fun k9=>?_
 have k9:=qo k9;rw[cE,aN];by_cases k10:i.length<=280
 ·rw[jh (by omega:¬(280:Int)< (i.length:Int)),aD,jd (jc k10)]
  have hbl:=FX ks add remove leaf;rw[hk]at hbl;obtain⟨pl,pr⟩:=alG hw;have hbase:=aaQ L (D+305) hL ks hk add remove leaf ⟨k5.1,k5.2.1⟩ ⟨k6.1,k6.2.1⟩;have hpath:=A8 L (D+307) hL w hw;have hset:=ae2 L (D+1) hL (baseT ks add remove leaf) hbl w hw fresh (by omega)
  have how:=DE L (D+1) hL (pathOf w) fresh (by omega) (by omega) (by omega)
  have hmeet:∀a,aR a->_:=fun a ha=>YT hw ha fresh
  unfold lZ jL cD;rw[show(treLeaf w::cF (treLeaf w))=pathOf w from rfl]
  simp only;generalize baseT ks add remove leaf=base at hbase hset hbl⊢;have hsl:(vO base w fresh).length=15:=by rw[V0,hbl]
  generalize vO base w fresh=up at hset hsl⊢;generalize pathOf w=p at pl pr hpath how hmeet⊢;obtain⟨pa,pb,pc,pd,rfl⟩:=amB p pl;have eo:pathGo [pa,pb,pc,pd] fresh=[⟨pa,fresh⟩,⟨pb,makNext fresh⟩,⟨pc,makNext (makNext fresh)⟩,⟨pd,makNext (makNext (makNext fresh))⟩]:=rfl;rw[eo]at how hmeet⊢;have hn:=A0 L (D+3) hL (makNext (makNext (makNext fresh))) (ku (mJ _) (by omega))
  have hep:=F6 L (D+3) hL i (makNext (makNext (makNext (makNext fresh)))) (by omega) (ku (mJ _) (by omega))
  have hcl:=dX L (D+310) (F:=48) (sz:=1) rfl (up.map rS) (gF _) (by simp;omega)
  have hft:bH (sLen (bs t)) (sLen (bs fresh)) 1=true:=aJ _ _ _ (by rw[cE,cE];omega)
  have e3:bB .i64 (nrows (([pa,pb,pc,pd]:List Int).map rI)) 1=3:=rfl;have r3:aL 2 (([⟨pa,fresh⟩,⟨pb,makNext fresh⟩,⟨pc,makNext (makNext fresh)⟩,⟨pd,makNext (makNext (makNext fresh))⟩]:List Own).map rO) 3=some (rO ⟨pd,makNext (makNext (makNext fresh))⟩):=rfl;have gc:∀o:Own,e6 (aH (rO o) 1)=some (bs o.sec):=fun _=>rfl
  have sb:wB (([pa,pb,pc,pd]:List Int).map rI) 0 3=(([pa,pb,pc,pd]:List Int).take 3).map rI:=rfl;have gs:aE (okR 1 (([pa,pb,pc,pd]:List Int).map rI)) (aE (iLe 0 0) (aE (iLe 0 3) (iLe 3 (nrows (([pa,pb,pc,pd]:List Int).map rI)))))=true:=rfl;have ae:aG .i64 e 1=e+1:=by rw[bT (by omega) (by omega)]
  have hL4:∃q,L=q+1+1+1+1:=⟨L-4,by omega⟩
  obtain⟨q,hq⟩:=hL4;simp only[hbase,aA,gAggN_if,je,jj,js,aP,eC,hpath,eY,aC,hset,how,hft,e3,r3,gc,bM,hn,hep,hcl,gs,sb,d7,ae];simp only[aF,yd,aC]
  conv=>lhs;arg 3;rw[hq]
  refine Eq.trans (VZ L (D+305) hL base hbl ⟨pa,fresh⟩ ⟨pb,makNext fresh⟩ ⟨pc,makNext (makNext fresh)⟩ ⟨pd,makNext (makNext (makNext fresh))⟩ pr add ⟨k5.1,k5.2.1⟩ q _ _ _ _ _ _ _ _ _ _ _ _ _ _ _ _ _ _ _ _ _ _ _ _ _ _ _ _ _ _ _ _ _ _ _ _ _ _ _ _ _ _ _ _ _ _ _ _ _ _ _ _ hw (aF _ _).symm (aF _ _).symm (eB [⟨pa,fresh⟩,⟨pb,makNext fresh⟩,⟨pc,makNext (makNext fresh)⟩,⟨pd,makNext (makNext (makNext fresh))⟩] (treMeet (treLeaf add) (treLeaf w))) (fun ha=>hmeet add ⟨ha,k5.2.1⟩)) ?_
  by_cases h:0<=add
  ·simp only[jd h];rfl
  ·simp only[jb h];rfl
 ·rw[jc (by omega:(280:Int)< (i.length:Int)),aC,jb (by simpa using k10)]
end
end Kw
namespace Kw
theorem cY{s:S}(h:secOk s=true):s.length<=300:=by
 obtain⟨t,_,_,h3⟩:=eX.1 h;exact h3
theorem R9{s:S}(h:secOk s=true)(hl:1+s.length<=300):secOk (makNext s)=true/\(makNext s).length=s.length+1:=by
 unfold makNext mk1;rw[jd ⟨h,hl⟩];obtain⟨t,h1,h2,h3⟩:=eX.1 h;refine⟨eX.2 ⟨.next t,h1,?_,?_⟩,by simp⟩
 ·rw[h2];rfl
 ·simp;omega
theorem pD:∀(ns:List Int) (s:S),secOk s=true->s.length+ns.length<=300->∀o∈pathGo ns s,secOk o.sec=true/\o.sec.length<=s.length+ns.length
 |[],_,_,_,o,h=>by cases h
 |n::ns,s,hs,hl,o,h=>by
  have e:pathGo (n::ns) s=⟨n,s⟩::pathGo ns (makNext s):=rfl;rw[e]at h;simp only[je]at hl;rcases kh.1 h with rfl|h
  ·exact⟨hs,by simp only[je];omega⟩
  ·cases ns with
   |nil=>cases h
   |cons n2 r=>
    simp only[je]at hl;obtain⟨h1,h2⟩:=R9 hs (by omega)
    have:=pD (n2::r) (makNext s) h1 (by simp only[je];omega) o h
    refine⟨this.1,ku this.2 ?_⟩;simp only[je];omega
theorem E9(ns:List Int)(s:S)(hs:secOk s=true)(hl:s.length+ns.length<=300)(n:Int):eB (pathGo ns s) n=[]↔n∉ns:=by
 have hn:=dJ ns s;unfold eB;cases h:(pathGo ns s).find? (fun o=>o.node==n)with
 |none=>
  simp only[true_iff];intro hm;rw[<-hn]at hm;obtain⟨o,ho,rfl⟩:=qb.1 hm;have:=wq.1 h o ho;simp at this
 |some o=>
  have h1:=vo h;have h2:=List.find?_some h;have h3:=pC (pD ns s hs hl o h1).1;constructor
  ·intro e;exact absurd e h3
  ·intro hm;refine absurd ?_ hm;rw[<-hn];exact qb.2 ⟨o,h1,by simpa using h2⟩
def nQ(base:List S)(fresh:List Int):List S->Nat->Bool
 |[],_=>true
 |k::r,i=>if k=ix base (i:Int)then nQ base fresh r (i+1)else if(i:Int)∈fresh then nQ base fresh r (i+1)else false
theorem FB(base:List S)(fresh:List Int):∀(l:List S) (i:Nat),nQ base fresh l i=true↔∀j:Nat,j<l.length->l.getD j []=ix base ((i+j:Nat):Int)\/((i+j:Nat):Int)∈fresh
 |[],i=>by simp[nQ]
 |k::r,i=>by
  have ih:=FB base fresh r (i+1);have e:nQ base fresh (k::r) i=if k=ix base (i:Int)then nQ base fresh r (i+1)else if(i:Int)∈fresh then nQ base fresh r (i+1)else false:=rfl
  have step:(∀j:Nat,j< (k::r).length->(k::r).getD j []=ix base ((i+j:Nat):Int)\/((i+j:Nat):Int)∈fresh)↔(k=ix base (i:Int)\/(i:Int)∈fresh)/\(∀j:Nat,j<r.length->r.getD j []=ix base ((i+1+j:Nat):Int)\/((i+1+j:Nat):Int)∈fresh):=by
   constructor
   ·intro h;refine⟨by simpa using h 0 (by simp),fun j hj=>?_⟩
    have:=h (j+1) (by simpa using hj)
    rw[show i+(j+1)=i+1+j by omega]at this
    simpa using this
   ·rintro⟨h1,h2⟩ j hj;cases j with
    |zero=>simpa using h1
    |succ j=>
     have:=h2 j (by simpa using hj)
     rw[show i+(j+1)=i+1+j by omega]
     simpa using this
  rw[e,step,<-ih];by_cases h1:k=ix base (i:Int)
  ·rw[jd h1];simp[h1]
  ·rw[jb h1];by_cases h2:(i:Int)∈fresh
   ·rw[jd h2];simp[h2]
   ·rw[jb h2];simp[h1,h2]
theorem B3(c:List S):∀(p:List Int) (t:List S),(jM c p t).length=t.length
 |[],_=>rfl
 |n::p,t=>by
  show(jM c p (t.set n.toNat (ix c n))).length=_;rw[B3 c p,kf]
theorem nR(c:List S):∀(p:List Int) (t:List S) (j:Nat),(∀n∈p,0<=n)->j<t.length->(jM c p t).getD j []=if(j:Int)∈p then ix c (j:Int)else t.getD j []
 |[],t,j,_,_=>by simp[jM]
 |n::p,t,j,hp,hj=>by
  show(jM c p (t.set n.toNat (ix c n))).getD j []=_;rw[nR c p _ j (fun x h=>hp x (by simp[h])) (by simpa using hj)]
  have h0:=hp n (by simp)
  by_cases h:(j:Int)∈p
  ·rw[jd h,jd (by simp[h])]
  ·rw[jb h];by_cases h2:(j:Int)=n
   ·rw[jd (by simp[h2])]
    subst h2;simp[jo,we,hj]
   ·rw[jb (by simp[h,h2])]
    have:¬n.toNat=j:=by omega
    simp[jo,we,this]
theorem qS(l:List S)(j:Nat):ix l (j:Int)=l.getD j []:=by
 unfold ix;rw[ki];rfl
theorem MS(c base:List S)(p:List Int)(hc:c.length=base.length)(hp:∀n∈p,0<=n):nQ base p c 0=decide (c=jM c p base):=by
 apply vr.2;rw[FB,ja];constructor
 ·intro h;apply List.ext_getElem
  ·rw[B3,hc]
  ·intro j h1 h2;have h3:=nR c p base j hp (by omega)
   have h4:=h j h1;rw[qr]at h4;have a1:c[j]=c.getD j []:=List.getElem_eq_getD (h:=h1) (fallback:=[]);have a2:(jM c p base)[j]=(jM c p base).getD j []:=List.getElem_eq_getD (h:=h2) (fallback:=[]);rw[a1,a2,h3,qS];by_cases hm:(j:Int)∈p
   ·rw[jd hm]
   ·rw[jb hm];rcases h4 with h4|h4
    ·rw[h4,qS]
    ·exact absurd h4 hm
 ·intro h j hj;rw[qr];by_cases hm:(j:Int)∈p
  ·exact .inr hm
  ·left;have h3:=nR c p base j hp (by omega)
   rw[jb hm,<-h]at h3;rw[h3,qS]
def tF(m:Member)(c:Commit):Bool:=
 m.inn&&(decide (c.tag=m.tag)&&(decide (m.epoch<12)&&(decide (c.sender≠m.who)&&(hasLeaf m.keys c.sender&&(changes m.keys c.add c.remove&&nQ (baseT m.keys c.add c.remove c.leaf) (pathOf c.sender) c.keys 0)))))
theorem UL(w:Int)(h:aR w):∀n∈pathOf w,0<=n:=by
 obtain⟨h0,h1⟩:=h;have hall:∀k:Fin 8,∀n∈pathOf (k.val:Int),0<=n:=by decide+kernel
 have:=hall ⟨w.toNat,by omega⟩
 simpa only[vh h0]using this
theorem wP(ks:List S)(add remove:Int)(leaf:S):(baseT ks add remove leaf).length=ks.length:=by
 have clr_len (ks:List S) (w:Int):(clr ks w).length=ks.length:=by
  unfold clr;generalize pathOf w=p;induction p generalizing ks with
  |nil=>rfl
  |cons n ns ih=>simp[ih]
 unfold baseT;simp only;split<;>split<;>simp[clr_len]
theorem mG{m:Member}(h:memOk m=true)(hi:m.inn=true):aR m.who/\m.keys.length=15/\fitsAll m=true/\tB m=true/\(0<=m.epoch/\m.epoch<=12)/\secOk m.init=true/\m.tag.length<=300:=by
 unfold memOk at h;rw[hi]at h;simp only[vm,ql,jf,ja]at h;obtain⟨h1,h2,h3,h4,h5,h6,h7⟩:=h;unfold treOk at h2;simp only[jf,ja]at h2;exact⟨h1,h2.1,h3,h4,h5,h6,h7⟩
theorem tG{c:Commit}(h:eO c=true):aR c.sender/\c.keys.length=15/\iK c.boxes=true/\cN c.add c.sender/\cN c.remove c.sender/\c.tag.length+c.name.length<=300:=by
 unfold eO at h;simp only[jf,ja]at h;obtain⟨⟨h1,h2,h3,h4,h5⟩,h6,h7,_⟩:=h;unfold treOk at h6;simp only[jf,ja]at h6;exact⟨h1,h6.1,h7,h4,h5,h3⟩
theorem MT{m:Member}{c:Commit}(hm:memOk m=true)(hc:eO c=true):tF m c=pB m c:=by
 cases hi:m.inn with
 |false=>unfold tF pB;rw[hi];rfl
 |true=>
  obtain⟨_,hk,_⟩:=mG hm hi;obtain⟨hs,hk2,_⟩:=tG hc;unfold tF pB x6;rw[MS _ _ _ (by rw[hk2,wP,hk]) (UL _ hs)]
  apply vr.2;simp only[jf,ja];constructor
  ·rintro⟨a,b,c,d,e⟩;exact⟨a,⟨b,c,d⟩,e⟩
  ·rintro⟨a,⟨b,c,d⟩,e⟩;exact⟨a,b,c,d,e⟩
def rR(own:List Own):List Box->Nat->Int
 |[],_=> -1
 |b::r,k=>if pA own b.key=true then k else rR own r (k+1)
theorem boxIx_or(own:List Own):∀(l:List Box) (k:Nat),(∃j:Nat,∃h:j<l.length,rR own l k=(k+j:Nat)/\cX own l=l[j].sec)\/(rR own l k= -1/\cX own l=[])
 |[],_=>.inr ⟨rfl,rfl⟩
 |b::r,k=>by
  have e:rR own (b::r) k=if pA own b.key=true then(k:Int)else rR own r (k+1):=rfl
  have f:cX own (b::r)=if pA own b.key=true then b.sec else cX own r:=rfl
  rw[e,f];by_cases h:pA own b.key=true
  ·rw[jd h,jd h];exact .inl ⟨0,by simp,by simp,rfl⟩
  ·rw[jb h,jb h];rcases boxIx_or own r (k+1)with⟨j,hj,h1,h2⟩|h2
   ·exact .inl ⟨j+1,by simpa using hj,by rw[h1];congr 1;omega,by rw[h2];rfl⟩
   ·exact .inr h2
def mU(kc km:List S)(nodes:List Int)(own:List Own):List Own:=own.filter fun o=>!decide (o.node∈nodes)&&decide (ix kc o.node=ix km o.node)
theorem YU{m:Member}(hf:fitsAll m=true)(kc:List S)(nodes:List Int)(s:S)(hs:secOk s=true)(hl:s.length+nodes.length<=300):mU kc m.keys nodes m.own=rP kc (mT m.own (pathGo nodes s)):=by
 unfold rP mT mU;rw[List.filter_filter];apply List.filter_congr;intro o ho;obtain⟨k,hk,rfl⟩:=kx.1 ho;have h1:=ko.1 hf k (qp.2 hk);unfold mM at h1;simp only[jf,ja]at h1;have e:ix m.own (k:Int)=m.own[k]:=by unfold ix;rw[ki,<-List.getElem_eq_getD (h:=hk)]
 rw[e]at h1;obtain⟨_,_,_,h2,_⟩:=h1;have h3:=E9 nodes s hs hl (m.own[k]).node;rw[h2];apply vr.2;simp only[jf,vy,jg,ja];rw[h3];exact and_comm
theorem FC(a b:S):secOk (eH a b)=decide (eH a b≠[]):=by
 unfold eH;split
 ·rename_i h;obtain⟨⟨h1,h2⟩,h3⟩:=h;obtain⟨t,t1,t2,_⟩:=eX.1 h1;obtain⟨u,u1,u2,_⟩:=eX.1 h2;have:secOk (101::(a++b))=true:=eX.2 ⟨.epoch t u,⟨t1,u1⟩,by rw[t2,u2];rfl,by simp;omega⟩
  rw[this];rfl
 ·have:secOk []=false:=by decide+kernel
  rw[this];rfl
def B4(m:Member)(c:Commit)(s:S):Member:=
 let nodes:=treMeet (treLeaf m.who) (treLeaf c.sender)::cF (treMeet (treLeaf m.who) (treLeaf c.sender))
 let path:=pathGo nodes s
 ⟨true,m.who,c.keys,mU c.keys m.keys nodes m.own++path,m.epoch+1,eH m.init (makNext (ix path (path.length-1)).sec),m.tag++c.name⟩
def yC(m:Member)(c:Commit):Member×Bool:=
 if memOk m=true then
  if eO c=true then
   if tF m c=true then
    if c.remove=m.who then(cI,true)else
     if rR m.own c.boxes 0<0 then(m,false)else
      let s:=(ix c.boxes (rR m.own c.boxes 0)).sec
      if(secOk s&&decide (s.length<=292))=true then
       if gP c.keys (pathGo (treMeet (treLeaf m.who) (treLeaf c.sender)::cF (treMeet (treLeaf m.who) (treLeaf c.sender))) s)=true then
        if(B4 m c s).init=[]then(m,false)else(B4 m c s,true)
       else(m,false)
      else(m,false)
   else(m,false)
  else(cI,false)
 else(cI,false)
theorem AP(n:Int):(cF n).length<=3:=by
 unfold cF;by_cases h:fN n
 ·rw[jd h];obtain⟨h0,h1⟩:=h;have hall:∀k:Fin 15,(ups k.val).length<=3:=by decide+kernel
  exact hall ⟨n.toNat,by omega⟩
 ·rw[jb h];simp
theorem B5(m:Member)(c:Commit):yC m c=f8 m c:=by
 unfold yC f8;by_cases hm:memOk m=true
 ·by_cases hc:eO c=true
  ·rw[jd hm,jd hc,jd (show memOk m=true/\eO c=true from⟨hm,hc⟩),MT hm hc]
   by_cases ht:pB m c=true
   ·rw[jd ht,jd ht];by_cases hr:c.remove=m.who
    ·rw[jd hr,jd hr]
    ·rw[jb hr,jb hr];have hi:m.inn=true:=by
      unfold pB at ht;simp only[jf]at ht;exact ht.1
     obtain⟨_,_,hf,_,_,_,_⟩:=mG hm hi;obtain⟨_,_,hb,_⟩:=tG hc;unfold hearPair;rcases boxIx_or m.own c.boxes 0 with⟨j,hj,h1,h2⟩|⟨h1,h2⟩
     ·rw[h1,h2,jb (by omega)]
      have e:ix c.boxes ((0+j:Nat):Int)=c.boxes[j]:=by unfold ix;rw[ki,qr,<-List.getElem_eq_getD (h:=hj)]
      rw[e];unfold iK at hb;simp only[jf,ko]at hb;have hs:=(hb.2 c.boxes[j] (jr hj)).2;simp only[hs,jw];have hne:=pC hs;by_cases hl:c.boxes[j].sec.length<=292
      ·rw[jd (jc hl)];have hx:¬(c.boxes[j].sec=[]\/292<c.boxes[j].sec.length):=fun x=>x.elim hne (fun y=>by omega)
       simp only[jb hx];have hk:=YU hf c.keys (treMeet (treLeaf m.who) (treLeaf c.sender)::cF (treMeet (treLeaf m.who) (treLeaf c.sender))) c.boxes[j].sec hs (by simp only[je];have:=AP (treMeet (treLeaf m.who) (treLeaf c.sender));omega)
       have eh:B4 m c c.boxes[j].sec=x8 m c c.boxes[j].sec:=by
        unfold B4 x8 cD;simp only;rw[hk]
       rw[eh];unfold cD;by_cases hfr:gP c.keys (pathGo (treMeet (treLeaf m.who) (treLeaf c.sender)::cF (treMeet (treLeaf m.who) (treLeaf c.sender))) c.boxes[j].sec)=true
       ·simp only[hfr,js];have e2:secOk (x8 m c c.boxes[j].sec).init=decide ((x8 m c c.boxes[j].sec).init≠[]):=FC _ _;by_cases h0:(x8 m c c.boxes[j].sec).init=[]
        ·rw[jd h0,e2,h0];rfl
        ·rw[jb h0,e2,jd (jc h0)]
       ·simp only[hfr];rfl
      ·have hx:c.boxes[j].sec=[]\/292<c.boxes[j].sec.length:=.inr (by omega)
       rw[jb (by simpa using hl)]
       simp only[jd hx];rfl
     ·rw[h1,h2,jd (by omega)]
      have hx:([]:S)=[]\/292< ([]:S).length:=.inl rfl;simp only[jd hx];rfl
   ·rw[jb ht,jb ht]
  ·rw[jd hm,jb hc,jb (show¬(memOk m=true/\eO c=true)from fun x=>hc x.2)]
 ·rw[jb hm,jb (show¬(memOk m=true/\eO c=true)from fun x=>hm x.1)]
def yD(w:Int)(leaf key:S)(c:Commit):Option Member:=
 if(eO c&&(decide (0<=c.add)&&(decide (c.add=w)&&(decide (makKey leaf=c.leaf)&&(decide (makKey key=c.wkey)&&((secOk c.wss&&decide (c.wss.length<=292))&&memOk (rQ w leaf c)))))))=true then some (rQ w leaf c)else none
theorem MU{s:S}(h:isKey s=true):s≠[]:=fun e=>by
 subst e;revert h
 decide+kernel
theorem MW(w:Int)(leaf key:S)(c:Commit):yD w leaf key c=iL w leaf key c:=by
 unfold yD iL
 congr 1
 simp only[jf,ja];apply propext;constructor
 ·rintro⟨h1,h2,h3,h4,h5,⟨h6,h7⟩,h8⟩;have hc:=h1;unfold eO at hc;rw[jb (by omega)]at hc
  simp only[jf,ja]at hc;obtain⟨_,_,_,_,k1,k2,_⟩:=hc;exact⟨h1,h2,h3,uV (by rw[h4];exact MU k1),uV (by rw[h5];exact MU k2),h4,h5,h7,h8⟩
 ·rintro⟨h1,h2,h3,h4,h5,h6,h7,h8,h9⟩;have hc:=h1;unfold eO at hc;rw[jb (by omega)]at hc
  simp only[jf,ja]at hc;obtain⟨_,_,_,_,_,_,_,_,k3⟩:=hc;exact⟨h1,h2,h3,h6,h7,⟨k3,h8⟩,h9⟩
theorem MX{s:S}{w:Int}(hw:aR w)(h:eE s w≠[]):(bK (eE s w)).op=5/\(bK (eE s w)).who=w:=by
 unfold eE mk1 at h⊢;rw[jd hw]at h⊢;split at h
 ·rename_i h1;obtain⟨hs,hl⟩:=h1;rw[jd ⟨hs,hl⟩];obtain⟨t,t1,t2,t3⟩:=eX.1 hs;obtain⟨w0,w1⟩:=hw;have e:sec (109::xY w++s)=some (.say w.toNat t):=nN.2 ⟨⟨by omega,t1⟩,by rw[t2];rfl,by simp only[jk,je]at hl⊢;omega⟩
  unfold bK;rw[e];exact⟨rfl,vh w0⟩
 ·exact absurd rfl h
end Kw
namespace Kw
open Go Go.Proofs
def rA{A:Type}(p:A->Bool):List A->Nat->Int
 |[],_=> -1
 |a::r,k=>if p a=true then k else rA p r (k+1)
theorem gG{A:Type}(p:A->Bool):∀(l:List A) (k:Nat),decide (0<=rA p l k)=l.any p
 |[],_=>rfl
 |a::r,k=>by
  have e:rA p (a::r) k=if p a=true then(k:Int)else rA p r (k+1):=rfl
  rw[e,List.any_cons];cases h:p a with
  |true=>rw[jd rfl,Bool.true_or];exact jc (by omega)
  |false=>rw[jb (by simp),Bool.false_or,gG p r (k+1)]
theorem idxP_cases{A:Type}(p:A->Bool):∀(l:List A) (k:Nat),(∃j:Nat,∃h:j<l.length,rA p l k=((k+j:Nat):Int)/\p l[j]=true)\/rA p l k= -1
 |[],_=>.inr rfl
 |a::r,k=>by
  have e:rA p (a::r) k=if p a=true then(k:Int)else rA p r (k+1):=rfl
  rw[e];by_cases h:p a=true
  ·rw[jd h];exact .inl ⟨0,by simp,by simp,h⟩
  ·rw[jb h];rcases idxP_cases p r (k+1)with⟨j,hj,h1,h2⟩|h1
   ·exact .inl ⟨j+1,by simpa using hj,by rw[h1];congr 1;omega,h2⟩
   ·exact .inr h1
theorem fY{A:Type}(l:List A)(p:A->Bool)(ob:List Obj)(F:Nat->Int->Option (MV×List Obj))
 (h1:∀(n k:Nat) (hk:k<l.length),F (n+1) k=if p l[k]=true then some (.int .i64 k,ob)else F n ((k+1:Nat):Int))
 (h2:∀n:Nat,F (n+1) (l.length:Nat)=some (.int .i64 (-1),ob)):∀(m k:Nat),l.length<m+k->k<=l.length->F m k=some (.int .i64 (rA p (l.drop k) k),ob)
 |0,k,h,hk=>by omega
 |m+1,k,h,hk=>by
  by_cases hlt:k<l.length
  ·rw[h1 m k hlt,kz hlt,fY l p ob F h1 h2 m (k+1) (by omega) (by omega)]
   rw[show rA p (l[k]::l.drop (k+1)) k=if p l[k]=true then(k:Int)else rA p (l.drop (k+1)) (k+1)from rfl]
   by_cases hp:p l[k]=true
   ·rw[jd hp,jd hp]
   ·rw[jb hp,jb hp]
  ·have e:k=l.length:=by omega
   subst e;rw[h2 m,List.drop_length];rfl
theorem ST(own:List Own):∀(l:List Box) (k:Nat),rR own l k=rA (fun b=>pA own b.key) l k
 |[],_=>rfl
 |b::r,k=>by
  show(if pA own b.key=true then(k:Int)else rR own r (k+1))=if pA own b.key=true then(k:Int)else rA _ r (k+1)
  rw[ST own r (k+1)]
theorem aa6:∀(l:List Int) (n:Int) (k:Nat),GQ l n k=rA (fun a=>decide (n=a)) l k
 |[],_,_=>rfl
 |a::r,n,k=>by
  have ih:=aa6 r n (k+1);show(if n=a then(k:Int)else GQ r n (k+1))=if decide (n=a)=true then(k:Int)else rA _ r (k+1)
  rw[ih];simp only[ja]
theorem gS(n:Int):iLe 0 n=decide (0<=n):=cH ..
section
variable (L D:Nat)
theorem SU(hL:1099511627776<=L)(l:List Int)(hl:l.length<=1000)(n:Int):ev E L (D+2) 199 [.sl (l.map rI),.int .i64 n] []=some (.bool (decide (n∈l)),[]):=by
 rw[afZ,aa5 L D hL l hl n];simp only[aA,bL];rw[gS,aa6,gG]
 congr 3
 apply vr.2;simp
theorem SW(hL:1099511627776<=L)(base c:List S)(hb:base.length=15)(hc:c.length<=15)(fr:List Int)(hf:fr.length<=1000):∀(m k:Nat),c.length<m+k->k<=c.length->
 tO L (D+2) m (base.map rS) base.length (fr.map rI) (c.map rS) c.length k=some (.bool (nQ base fr (c.drop k) k),[])
 |0,k,h,hk=>by omega
 |m+1,k,h,hk=>by
  rw[GU];by_cases hlt:k<c.length
  ·have g:iLt (k:Int) (c.length:Int)=true:=by rw[aN,ja];omega
   have a1:aG .i64 (k:Int) 1=((k+1:Nat):Int):=aO _ (by omega)
   have u1:=bQ (k:Int) c (by omega) (by omega)
   have u2:=bQ (k:Int) base (by omega) (by omega)
   have u3:=iG base (k:Int) (by omega) (by omega)
   have gc:∀s:S,e6 (aH (rS s) 0)=some (bs s):=fun _=>rfl
   have hci:=SU L D hL fr hf (k:Int);have ih:=SW hL base c hb hc fr hf m (k+1) (by omega) (by omega)
   rw[aZ c k hlt]at u1;rw[kz hlt];unfold nQ;simp only[g,aC,u1,u2,u3,aA,gc,aF,aU,dH,a1,ih,hci,aI];by_cases h1:c[k]=ix base (k:Int)
   ·rw[jd h1,jc h1];rfl
   ·rw[jb h1,jh h1,bW,aC];by_cases h2:(k:Int)∈fr
    ·rw[jd h2,jc h2];rfl
    ·rw[jb h2,jh h2];rfl
  ·have g:iLt (k:Int) (c.length:Int)=false:=by rw[aN,jg];omega
   rw[g,aD,wk (by omega)];rfl
theorem ai9(hL:1099511627776<=L)(m:Member)(c:Commit)(hk:m.inn=true->m.keys.length=15)(hs:aR c.sender)(hc:c.keys.length=15)(ha: -1<=c.add/\c.add<=7)(hr: -1<=c.remove/\c.remove<=7):
 ev E L (D+8) 191 [.agg (rM m),.agg (rC c)] []=some (.bool (tF m c),[]):=by
 obtain⟨b,w,ks,own,e,i,t⟩:=m;obtain⟨c0,c1,c2,c3,c4,c5,c6,c7,c8,c9,c10,c11,c12⟩:=c;simp only at hk hs hc ha hr;show ev E L (D+8) 191 [.agg [.bool b,.int .i64 w,.sl (ks.map rS),.sl (own.map rO),.int .i64 e,.str (bs i),.str (bs t)],.agg [.int .i64 c0,.str (bs c1),.str (bs c2),.int .i64 c3,.int .i64 c4,.str (bs c5),.sl (c6.map rS),.sl (c7.map rB),.str (bs c8),.str (bs c9),.str (bs c10),.str (bs c11),.str (bs c12)]] []=_;rw[afT];unfold tF;simp only;refine nX fun hb=>?_
 have hk:=hk hb;rw[dH];refine nX fun _=>?_
 have e12:bNot (iLe 12 e)=decide (e<12):=by
  rw[cH];by_cases h:e<12
  ·rw[jc h,jh (by omega)];rfl
  ·rw[jh h,jc (by omega)];rfl
 rw[e12];have guard1:∀{b:Bool} {X:Option (MV×List Obj)} {r:Bool},(b=true->X=some (.bool r,[]))->br b X (some (.bool false,[]))=some (.bool (b&&r),[]):=fun{b} {X} {r} h=>by
  cases b with
  |false=>rfl
  |true=>rw[h rfl];rfl
 refine guard1 fun _=>?_
 have en:bNot (iEq c0 w)=decide (c0≠w):=by rw[cK,bD]
 rw[en];refine guard1 fun _=>?_
 rw[NU L (D+4) ks hk c0,jc hs,jw];simp only[aA,aI];refine nX fun _=>?_
 rw[JA L (D+3) ks hk c3 c4 ha hr];simp only[aA,aI];have hbase:=aaQ L (D+1) hL ks hk c3 c4 c5 ha hr;have hpath:=A8 L (D+3) hL c0 hs;have hlp:=SW L (D+5) hL (baseT ks c3 c4 c5) c6 (by rw[FX,hk]) (by omega) (pathOf c0) (ku (fI c0) (by omega)) L 0 (by omega) (by omega)
 cases changes ks c3 c4 with
 |false=>rfl
 |true=>
  rw[jw,bI,aD];simp only[hbase,aA,gAggN_if,je,jj,js,aP,eC,hpath,eY,aF];exact hlp
theorem aa7(hL:1099511627776<=L)(o:Own)(ks:List S)(hn:0<=o.node/\o.node<ks.length)(hk:ks.length<=1000)(hs:o.sec.length<=500000):
 ev E L (D+309) 243 [.agg [.int .i64 o.node,.str (bs o.sec)],.ptr (.imp 0) 0] [.cells [.sl (ks.map rS)]]=some (.bool (!decide (ix ks o.node=makKey o.sec)),[.cells [.sl (ks.map rS)]]):=by
 rw[agB];have u:=bQ o.node ks hn.1 (by omega)
 have gc:∀s:S,e6 (aH (rS s) 0)=some (bs s):=fun _=>rfl
 simp only[u,aA,gc,nY L D hL o.sec hs,bM,dH]
 rfl
theorem aa8(hL:1099511627776<=L)(own:List Own)(ks:List S)(hn:∀o∈own,0<=o.node/\o.node<ks.length)(hk:ks.length<=1000)(hs:∀o∈own,o.sec.length<=500000)(hl:own.length<=1000):
 iA L (D+309) L (ks.map rS) (own.map rO) own.length 0=some (.int .i64 (rA (fun o=>!decide (ix ks o.node=makKey o.sec)) own 0),[.cells [.sl (ks.map rS)]]):=by
 refine fY own _ _ (fun m k=>iA L (D+309) m (ks.map rS) (own.map rO) own.length k) (fun n k hk'=>?_) (fun n=>?_) L 0 (by omega) (by omega)
 ·show iA L (D+309) (n+1) _ _ _ _=_;rw[pI];have g:iLt (k:Int) (own.length:Int)=true:=by rw[aN,ja];omega
  have a1:aG .i64 (k:Int) 1=((k+1:Nat):Int):=aO _ (by omega)
  have u:=eD (k:Int) own (by omega) (by omega)
  rw[aZ own k hk']at u;have c0:∀o:Own,fA .i64 (aH (rO o) 0)=some o.node:=fun _=>rfl
  have c1:∀o:Own,e6 (aH (rO o) 1)=some (bs o.sec):=fun _=>rfl
  have hm:=jr hk';have h:=aa7 L D hL own[k] ks (hn _ hm) hk (hs _ hm);simp only[g,aC,u,aA,c0,c1,h,iQ,cM,je,jj,js,aP,eY,aI,a1];rw[bX]
 ·show iA L (D+309) (n+1) _ _ _ _=_;rw[pI];have g:iLt (own.length:Int) (own.length:Int)=false:=by rw[aN,jg];omega
  rw[g,aD]
theorem acW(hL:1099511627776<=L)(own:List Own)(ks:List S)(hn:∀o∈own,0<=o.node/\o.node<ks.length)(hk:ks.length<=1000)(hs:∀o∈own,o.sec.length<=500000)(hl:own.length<=1000):
 ev E L (D+312) 198 [.sl (ks.map rS),.sl (own.map rO)] []=some (.bool (gP ks own),[]):=by
 rw[afY,VW,VF,aF,aa8 L D hL own ks hn hk hs hl];simp only[aA,iQ,cM,je,jj,js,aP,eY,bL,gS,gG,aI];unfold gP;rw[acU];simp only[Bool.not_not];rw[show∀b:Bool,bNot (!b)=b from fun b=>by cases b<;>rfl]
end
end Kw
namespace Kw
open Go Go.Proofs
theorem QE(kc km:List S)(nodes:List Int)(o:Own)(r:List Own):mU kc km nodes (o::r)=(if(!decide (o.node∈nodes)&&decide (ix kc o.node=ix km o.node))=true then[o]else[])++mU kc km nodes r:=by
 unfold mU;rw[ya];split<;>rfl
section
variable (L D:Nat)
theorem aa9(hL:1099511627776<=L)(o:Own)(k s:S)(hs:o.sec.length<=500000):
 ev E L (D+309) 195 [.agg [.int .i64 o.node,.str (bs o.sec)],.ptr (.imp 0) 0] [.cells [.str (bs k),.str (bs s)]]=some (.bool (decide (makKey o.sec=k)),[.cells [.str (bs k),.str (bs s)]]):=by
 rw[afV,nY L D hL o.sec hs];simp only[aA,bM,dH]
theorem aaA(hL:1099511627776<=L)(own:List Own)(q s:S)(hs:∀o∈own,o.sec.length<=500000)(hl:own.length<=1000000):
 hZ L (D+309) L (bs q) (bs s) (own.map rO) own.length 0=some (.int .i64 (rA (fun o=>decide (makKey o.sec=q)) own 0),[.cells [.str (bs q),.str (bs s)]]):=by
 refine fY own _ _ (fun m k=>hZ L (D+309) m (bs q) (bs s) (own.map rO) own.length k) (fun n k hk'=>?_) (fun n=>?_) L 0 (by omega) (by omega)
 ·show hZ L (D+309) (n+1) _ _ _ _ _=_;rw[pH];have g:iLt (k:Int) (own.length:Int)=true:=by rw[aN,ja];omega
  have a1:aG .i64 (k:Int) 1=((k+1:Nat):Int):=aO _ (by omega)
  have u:=eD (k:Int) own (by omega) (by omega)
  rw[aZ own k hk']at u;have c0:∀o:Own,fA .i64 (aH (rO o) 0)=some o.node:=fun _=>rfl
  have c1:∀o:Own,e6 (aH (rO o) 1)=some (bs o.sec):=fun _=>rfl
  have h:=aa9 L D hL own[k] q s (hs _ (jr hk'));simp only[g,aC,u,aA,c0,c1,h,iQ,cM,je,jj,js,aP,aV,bM,aI,a1];rw[bX]
 ·show hZ L (D+309) (n+1) _ _ _ _ _=_;rw[pH];have g:iLt (own.length:Int) (own.length:Int)=false:=by rw[aN,jg];omega
  rw[g,aD]
theorem acX(hL:1099511627776<=L)(own:List Own)(q s:S)(hs:∀o∈own,o.sec.length<=500000)(hl:own.length<=1000000):
 ev E L (D+311) 194 [.sl (own.map rO),.fn 195 [.ptr (.imp 0) 0]] [.cells [.str (bs q),.str (bs s)]]=some (.bool (pA own q),[.cells [.str (bs q),.str (bs s)]]):=by
 rw[VV,VE,aF,aaA L D hL own q s hs hl];simp only[aA,iQ,cM,je,jj,js,aP,aV,bM,bL,gS,gG]
 rfl
theorem acY(hL:1099511627776<=L)(b:Bool)(w e:Int)(ks:List S)(own:List Own)(i t:S)(bx:List Box)(hb:bx.length<=1000000)(hs:∀o∈own,o.sec.length<=500000)(hl:own.length<=1000000):
 ev E L (D+313) 192 [.sl (bx.map rB),.fn 193 [.ptr (.imp 0) 0]] [.cells [.bool b,.int .i64 w,.sl (ks.map rS),.sl (own.map rO),.int .i64 e,.str (bs i),.str (bs t)]]=some (.int .i64 (rR own bx 0),[.cells [.bool b,.int .i64 w,.sl (ks.map rS),.sl (own.map rO),.int .i64 e,.str (bs i),.str (bs t)]]):=by
 rw[VU,aF,ST];refine fY bx (fun x=>pA own x.key) _ (fun m k=>kL L (D+312) m b w (ks.map rS) (own.map rO) e (bs i) (bs t) (bx.map rB) bx.length k) (fun n k hk'=>?_) (fun n=>?_) L 0 (by omega) (by omega)
 ·show kL L (D+312) (n+1) _ _ _ _ _ _ _ _ _ _=_;rw[pT];have g:iLt (k:Int) (bx.length:Int)=true:=by rw[aN,ja];omega
  have a1:aG .i64 (k:Int) 1=((k+1:Nat):Int):=aO _ (by omega)
  have u:=qI (k:Int) bx (by omega) (by omega)
  rw[aZ bx k hk']at u;have c0:∀o:Box,e6 (aH (rB o) 0)=some (bs o.key):=fun _=>rfl
  have c1:∀o:Box,e6 (aH (rB o) 1)=some (bs o.sec):=fun _=>rfl
  have h:=acX L D hL own bx[k].key bx[k].sec hs hl;simp only[g,aC,u,aA,c0,c1,afU,h,iQ,cM,je,jj,js,aP,aV,bM,aI,bL,eY,a1];rw[bX]
 ·show kL L (D+312) (n+1) _ _ _ _ _ _ _ _ _ _=_;rw[pT];have g:iLt (bx.length:Int) (bx.length:Int)=false:=by rw[aN,jg];omega
  rw[g,aD]
theorem SX(hL:1099511627776<=L)(kc km:List S)(hkc:kc.length=15)(hkm:km.length=15)(nodes:List Int)(hnn:nodes.length<=1000)(fr:List Own)(own:List Own)(hl:own.length<=1000000)(hn:∀o∈own,0<=o.node/\o.node<=14)(r0:List Row)(r1:List Row)(r2:List Row)(b4:Bool)(i5:Int)(r7:List Row)(i8:Int)(s9:ByteArray)(s10:ByteArray)(i11:Int)(s12:ByteArray)(s13:ByteArray)(i14:Int)(i15:Int)(s16:ByteArray)(r18:List Row)(s19:ByteArray)(s20:ByteArray)(s21:ByteArray)(s22:ByteArray)(s23:ByteArray)(b24:Bool)(i25:Int)(i26:Int)(i27:Int)(i28:Int)(s29:ByteArray)(s30:ByteArray)(b31:Bool)(i32:Int)(r33:List Row)(r34:List Row)(i35:Int)(s36:ByteArray)(s37:ByteArray)(b38:Bool)(i39:Int)(i40:Int)(i42:Int)(s43:ByteArray)(s44:ByteArray):∀(m k:Nat) (acc:List Own),own.length<m+k->k<=own.length->acc.length<=k->
 lS L (D+313) m r0 r1 r2 (acc.map rO) b4 i5 (km.map rS) r7 i8 s9 s10 i11 s12 s13 i14 i15 s16 (kc.map rS) r18 s19 s20 s21 s22 s23 b24 i25 i26 i27 i28 s29 s30 b31 i32 r33 r34 i35 s36 s37 b38 i39 i40 acc.length i42 s43 s44 (nodes.map rI) (fr.map rO) (own.map rO) own.length k=lS L (D+313) (m+k-own.length) r0 r1 r2 ((acc++mU kc km nodes (own.drop k)).map rO) b4 i5 (km.map rS) r7 i8 s9 s10 i11 s12 s13 i14 i15 s16 (kc.map rS) r18 s19 s20 s21 s22 s23 b24 i25 i26 i27 i28 s29 s30 b31 i32 r33 r34 i35 s36 s37 b38 i39 i40 ((acc++mU kc km nodes (own.drop k)).length:Nat) i42 s43 s44 (nodes.map rI) (fr.map rO) (own.map rO) own.length own.length
 |0,k,acc,h,hk,ha=>by omega
 |m+1,k,acc,h,hk,ha=>by
  by_cases hlt:k<own.length
  ·rw[tL];have g:iLt (k:Int) (own.length:Int)=true:=by rw[aN,ja];omega
   have a1:aG .i64 (k:Int) 1=((k+1:Nat):Int):=aO _ (by omega)
   have u:=eD (k:Int) own (by omega) (by omega)
   rw[aZ own k hlt]at u;obtain⟨n0,n1⟩:=hn _ (jr hlt);have u1:=bQ (own[k]).node kc (by omega) (by omega)
   have u2:=bQ (own[k]).node km (by omega) (by omega)
   have c0:∀o:Own,fA .i64 (aH (rO o) 0)=some o.node:=fun _=>rfl
   have c1:∀o:Own,e6 (aH (rO o) 1)=some (bs o.sec):=fun _=>rfl
   have gc:∀s:S,e6 (aH (rS s) 0)=some (bs s):=fun _=>rfl
   have hci:=SU L (D+311) hL nodes hnn (own[k]).node;have ih:=fun acc' (ha':acc'.length<=k+1)=>SX hL kc km hkc hkm nodes hnn fr own hl hn r0 r1 r2 b4 i5 r7 i8 s9 s10 i11 s12 s13 i14 i15 s16 r18 s19 s20 s21 s22 s23 b24 i25 i26 i27 i28 s29 s30 b31 i32 r33 r34 i35 s36 s37 b38 i39 i40 i42 s43 s44 m (k+1) acc' (by omega) (by omega) ha'
   rw[show m+(k+1)-own.length=m+1+k-own.length by omega]at ih
   rw[kz hlt,QE];have er:[[MV.int .i64 (own[k]).node,MV.str (bs (own[k]).sec)]]=[rO own[k]]:=rfl;have q1:okR 2 [rO own[k]]=true:=rfl;have q2:bH (acc.length:Int) (nrows [rO own[k]]) 24=true:=aJ _ _ _ (by show((acc.length:Int)+1)*24<=_;omega)
   have q3:aM (acc.map rO) [rO own[k]]=(acc++[own[k]]).map rO:=dD rO acc own[k];simp only[g,aC,u,aA,c0,c1,hci,aI,u1,u2,gc,dH,er,aU,aF,mS,q1,q2,q3,dE,a1];by_cases h1:(own[k]).node∈nodes
   ·simp only[h1,yd,Bool.not_true,wd,qa,ql,qc,bI,aD];exact ih acc (by omega)
   ·simp only[h1,decide_false,bW,aC,Bool.not_false,jw,ja];by_cases h2:ix kc (own[k]).node=ix km (own[k]).node
    ·rw[jd h2,jc h2,aC,<-qy];exact ih (acc++[own[k]]) (by simp;omega)
    ·rw[jb h2,jh h2,aD,qc];exact ih acc (by omega)
  ·have e:k=own.length:=by omega
   subst e;rw[List.drop_length];have:mU kc km nodes []=[]:=rfl;rw[this,jz,show m+1+own.length-own.length=m+1 by omega]
end
end Kw
