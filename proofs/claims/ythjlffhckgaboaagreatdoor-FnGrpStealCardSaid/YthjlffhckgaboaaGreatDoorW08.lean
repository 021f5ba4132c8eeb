import Derived.Test.YthjlffhckgaboaaGreatDoorW07
set_option linter.unusedVariables false
set_option linter.unusedSimpArgs false
set_option linter.unusedSectionVars false
namespace Kw
open Go Go.Proofs
section
variable (L D:Nat)
theorem VK(hL:1099511627776<=L):∀(k m:Nat) (x:S) (pre:List S),k<m->x.length<=500000->pre.length+k<=1000->
 E6 L (D+308) m ((pre++[x]).map rS) ((pre.length+1+k:Nat):Int) ((pre.length+1:Nat):Int)=some (.sl ((pre++hZ x (k+1)).map rS),[])
 |k,0,_,_,h,_,_=>by omega
 |k,m+1,x,pre,h,hx,hp=>by
  rw[ND];simp only[KM];have hl:nrows ((pre++[x]).map rS)=((pre.length+1:Nat):Int):=by rw[nrows_map];simp
  rw[hl];cases k with
  |zero=>
   have g:iLt ((pre.length+1:Nat):Int) ((pre.length+1+0:Nat):Int)=false:=by rw[iLt_dec,jh];omega
   simp only[iEq_self,br_true',g,br_false']
   rfl
  |succ k=>
   have g:iLt ((pre.length+1:Nat):Int) ((pre.length+1+(k+1):Nat):Int)=true:=by rw[iLt_dec,jb];omega
   have a1:iS .i64 ((pre.length+1:Nat):Int) 1=(pre.length:Int):=by rw[d9 (by omega) (by omega)];omega
   have hix:ix (pre++[x]) (pre.length:Int)=x:=by
    rw[aK _ _ (by simp)];simp
   have r1:kF 1 ((pre++[x]).map rS) (pre.length:Int)=some (rS x):=by
    rw[aW _ (pre++[x]) (by omega) (by simp;omega),hix]
   have r2:iP ((pre++[x]).map rS) (pre.length:Int)=some (rS x):=by
    rw[kH (pre++[x]) _ (by omega) (by simp;omega),hix]
   have hn:=GZ L D hL x hx;have ih:=VK hL k m (makNext x) (pre++[x]) (by omega) (by have:=oH x;omega) (by simp;omega)
   have o1:okR 1 ((pre++[x]).map rS)=true:=iI _;have o2:okR 1 [[MV.str (bs (makNext x))]]=true:=rfl;have hf:eL ((pre.length+1:Nat):Int) (nrows [[MV.str (bs (makNext x))]]) 16=true:=aE _ _ _ (by show(((pre.length+1:Nat):Int)+1)*16<=_;omega)
   have c1:cB ((pre++[x]).map rS) [[MV.str (bs (makNext x))]]=((pre++[x])++[makNext x]).map rS:=cJ rS (pre++[x]) _;have c2:nrows (((pre++[x])++[makNext x]).map rS)=(((pre++[x]).length+1:Nat):Int):=by rw[nrows_map];simp;omega
   simp only[iEq_self,br_true',g,a1,r1,r2,bnd_some',dX,gStr_s,hn,o1,o2,hf,cN,c1,c2];have e1:((pre.length+1+(k+1):Nat):Int)=(((pre++[x]).length+1+k:Nat):Int):=by simp;omega
   rw[e1,ih];simp[hZ]
theorem aaT(hL:1099511627776<=L)(s:S)(n:Nat)(h1:1<=n)(hn:n<=1000)(hs:s.length<=500000):ev E L (D+309) 206 [.str (bs s),.int .i64 n] []=some (.sl ((hZ s n).map rS),[]):=by
 rw[au2];simp only[KM];obtain⟨k,rfl⟩:∃k,n=k+1:=⟨n-1,by omega⟩
 have:=VK L D hL k L s [] (by omega) hs (by simp;omega)
 simp only[qg,jk,yh,List.map_nil,qx]at this;have e:((k+1:Nat):Int)=((1+k:Nat):Int):=by omega
 rw[e];exact this
theorem aiT(hL:1099511627776<=L):∀(ns:List Int) (m:Nat) (x:S) (pre:List Int) (pres ks:List S),ns.length<m->pre.length=pres.length->pre.length+ns.length<=1000->ks.length=15->x.length<=500000->(∀n∈ns,0<=n/\n<=14)->
 E3 L (D+309) m [] (ks.map rS) (nrows []) ks.length ((pre++ns).map rI) ((pres++hZ x ns.length).map rS) ((pre.length+ns.length:Nat):Int) pre.length=some (.agg [.own ((mR ns x ks).map rS)],[])
 |_,0,_,_,_,_,h,_,_,_,_,_=>by omega
 |[],m+1,x,pre,pres,ks,h,he,hp,hk,hx,hr=>by
  rw[CI];simp only[KM];have g:iLt (pre.length:Int) ((pre.length+([]:List Int).length:Nat):Int)=false:=by rw[iLt_dec,jh];simp
  rw[g,br_false',iEq_dec,nrows_map,jd rfl,br_true']
  rfl
 |n::ns,m+1,x,pre,pres,ks,h,he,hp,hk,hx,hr=>by
  rw[CI];simp only[KM];obtain⟨n0,n1⟩:=hr n (by simp)
  simp only[jf]at h hp;have g:iLt (pre.length:Int) ((pre.length+(n::ns).length:Nat):Int)=true:=by rw[iLt_dec,jb];simp only[jf];omega
  have hix1:ix (pres++hZ x (n::ns).length) (pre.length:Int)=x:=by
   rw[he,aK _ _ (by simp[nO])];simp[hZ]
  have hix2:ix (pre++n::ns) (pre.length:Int)=n:=by
   rw[aK _ _ (by simp)];simp
  have r1:=aW (pre.length:Int) (pres++hZ x (n::ns).length) (by omega) (by simp only[jl,nO,jf];omega)
  have r2:=aY (pre.length:Int) (pre++n::ns) (by omega) (by simp only[jl,jf];omega)
  rw[hix1]at r1;rw[hix2]at r2;have hkey:=qC L (D+1) hL x hx;rw[show D+1+308=D+309 by omega]at hkey
  have r3:=aW n ks (by omega) (by omega)
  have r4:=kH ks n (by omega) (by omega)
  have a1:bR .i64 (pre.length:Int) 1=((pre.length+1:Nat):Int):=aG _ (by omega)
  have s1:setR (ks.map rS) n (rS (makKey x))=(ks.set n.toNat (makKey x)).map rS:=iH rS ks n _;have l1:eT (rS (ix ks n))=1:=rfl;have l2:iLe 1 1=true:=rfl;have ih:=aiT hL ns m (makNext x) (pre++[n]) (pres++[x]) (ks.set n.toNat (makKey x)) (by omega) (by simp[he]) (by simp;omega) (by simp[hk]) (by have:=oH x;omega) (fun k hk=>hr k (by simp[hk]))
  have e1:(pre++[n])++ns=pre++n::ns:=by simp
  have e2:(pres++[x])++hZ (makNext x) ns.length=pres++hZ x (n::ns).length:=by simp[hZ]
  have e3:(((pre++[n]).length+ns.length:Nat):Int)=((pre.length+(n::ns).length:Nat):Int):=by simp;omega
  have e4:(pre++[n]).length=pre.length+1:=by simp
  rw[e1,e2,e3,e4,ku]at ih;have q:iEq (ks.length:Int) (nrows (ks.map rS))=true:=by rw[nrows_map,iEq_self]
  have sr:setRow (rS (ix ks n)) 0 [MV.str (bs (makKey x))]=rS (makKey x):=rfl;simp only[g,br_true',r1,r2,bnd_some',dX,gStr_s,d8,gInt_i,hkey,q,r3,r4,l1,l2,sr,s1,a1,ih]
  rfl
theorem apU(hL:1099511627776<=L)(ks:List S)(hk:ks.length=15)(w:Int)(hw:aH w)(s:S)(hs:s.length<=500000):ev E L (D+310) 122 [.agg [.sl (ks.map rS)],.int .i64 w,.str (bs s)] []=some (.agg [.own ((B5 ks w s).map rS)],[]):=by
 rw[atC];simp only[KM];have h1:=JN L (D+307) ks (by omega)
 have h2:=G3 L (D+305) hL w hw;have hl:=eX w;have h3:=aaT L D hL s (pathOf w).length (by show 1<=(bI (treLeaf w)).length+1;omega) (by omega) hs
 have h4:=aiT L D hL (pathOf w) L s [] [] ks (by omega) rfl (by simp;omega) hk hs (pathOf_rng hw)
 simp only[qg,jk,qx]at h4;have n1:nrows ((pathOf w).map rI)=(pathOf w).length:=nrows_map ..;have n2:nrows ((hZ s (pathOf w).length).map rS)=(pathOf w).length:=by rw[nrows_map,nO]
 have n3:nrows (ks.map rS)=ks.length:=nrows_map ..;simp only[h1,bnd_some',gAggN_if,jf,jk,ju,cellAt_zero,gOwn_r,h2,gSl_r,n1,h3,n2,n3];exact h4
theorem VL:∀(ns:List Int) (m:Nat) (pre:List Int) (ks:List S),ns.length<m->pre.length+ns.length<=1000->ks.length=15->(∀n∈ns,0<=n/\n<=14)->
 E8 L D m [] (ks.map rS) (nrows []) ks.length ((pre++ns).map rI) ((pre.length+ns.length:Nat):Int) pre.length=some (.agg [.own ((ns.foldl (fun ks n=>ks.set n.toNat []) ks).map rS)],[])
 |_,0,_,_,h,_,_,_=>by omega
 |[],m+1,pre,ks,h,hp,hk,hr=>by
  rw[CK];simp only[KM];have g:iLt (pre.length:Int) ((pre.length+([]:List Int).length:Nat):Int)=false:=by rw[iLt_dec,jh];simp
  rw[g,br_false',iEq_dec,nrows_map,jd rfl,br_true']
  rfl
 |n::ns,m+1,pre,ks,h,hp,hk,hr=>by
  rw[CK];simp only[KM];obtain⟨n0,n1⟩:=hr n (by simp)
  simp only[jf]at h hp;have g:iLt (pre.length:Int) ((pre.length+(n::ns).length:Nat):Int)=true:=by rw[iLt_dec,jb];simp only[jf];omega
  have hix2:ix (pre++n::ns) (pre.length:Int)=n:=by
   rw[aK _ _ (by simp)];simp
  have r2:=aY (pre.length:Int) (pre++n::ns) (by omega) (by simp only[jl,jf];omega)
  rw[hix2]at r2;have r3:=aW n ks (by omega) (by omega)
  have r4:=kH ks n (by omega) (by omega)
  have a1:bR .i64 (pre.length:Int) 1=((pre.length+1:Nat):Int):=aG _ (by omega)
  have s1:setR (ks.map rS) n (rS [])=(ks.set n.toNat []).map rS:=iH rS ks n _;have l1:eT (rS (ix ks n))=1:=rfl;have l2:iLe 1 1=true:=rfl;have ih:=VL ns m (pre++[n]) (ks.set n.toNat []) (by omega) (by simp;omega) (by simp[hk]) (fun k hk=>hr k (by simp[hk]))
  have e1:(pre++[n])++ns=pre++n::ns:=by simp
  have e3:(((pre++[n]).length+ns.length:Nat):Int)=((pre.length+(n::ns).length:Nat):Int):=by simp;omega
  have e4:(pre++[n]).length=pre.length+1:=by simp
  rw[e1,e3,e4,ku]at ih;have q:iEq (ks.length:Int) (nrows (ks.map rS))=true:=by rw[nrows_map,iEq_self]
  have sr:setRow (rS (ix ks n)) 0 [MV.str (bs [])]=rS []:=rfl;simp only[g,br_true',r2,bnd_some',d8,gInt_i,q,r3,r4,l1,l2,sr,s1,a1,ih]
  rfl
theorem aaU(hL:1099511627776<=L)(ks:List S)(hk:ks.length=15)(w:Int)(hw:aH w):ev E L (D+5) 280 [.agg [.sl (ks.map rS)],.int .i64 w] []=some (.agg [.own ((clr ks w).map rS)],[]):=by
 rw[auA];simp only[KM];have h1:=JN L (D+2) ks (by omega)
 have h2:=G3 L D hL w hw;have hl:=eX w;have h4:=VL L (D+4) (pathOf w) L [] ks (by omega) (by simp;omega) hk (pathOf_rng hw)
 simp only[qg,jk,qx]at h4;have n1:nrows ((pathOf w).map rI)=(pathOf w).length:=nrows_map ..;have n3:nrows (ks.map rS)=ks.length:=nrows_map ..;simp only[h1,bnd_some',gAggN_if,jf,jk,ju,cellAt_zero,gOwn_r,h2,gSl_r,n1,n3];exact h4
end
end Kw
namespace Kw
def jZ:List Own->Int->Nat->Int
 |[],_,_=> -1
 |o::r,n,k=>if o.node=n then k else jZ r n (k+1)
def C3(keys:List S)(own:List Own):List Int->Nat->Bool
 |[],many=>decide (many=own.length)
 |n::ns,many=>if ix keys n=[]then C3 keys own ns many else if jZ own n 0<0 then false else if makKey (ix own (jZ own n 0)).sec=ix keys n then C3 keys own ns (many+1)else false
def RA(m:Member):Bool:=
 if m.inn=false then decide (m.who=0/\m.keys=[]/\m.own=[]/\m.epoch=0/\m.init=[]/\m.tag=[])
 else decide (aH m.who)&&(treOk m.keys&&(decide (0<=m.epoch/\m.epoch<=12)&&(secOk m.init&&(decide (m.tag.length<=300)&&(hasLeaf m.keys m.who&&C3 m.keys m.own (pathOf m.who) 0)))))
theorem ownIx_some:∀(l:List Own) (n:Int) (k:Nat),(∃j:Nat,j<l.length/\jZ l n k=(k+j:Nat)/\(l[j]?.map (·.node))=some n/\l.find? (fun o=>o.node==n)=l[j]?/\∀i<j,(l[i]?.map (·.node))≠some n)\/(jZ l n k= -1/\l.find? (fun o=>o.node==n)=none/\n∉l.map (·.node))
 |[],n,k=>.inr ⟨rfl,rfl,by simp⟩
 |o::r,n,k=>by
  by_cases h:o.node=n
  ·left;refine⟨0,by simp,?_,by simp[h],by simp[h],fun i hi=>by omega⟩
   show(if o.node=n then(k:Int)else jZ r n (k+1))=_
   rw[je h];simp
  ·have e:jZ (o::r) n k=jZ r n (k+1):=jc h;have f:(o::r).find? (fun o=>o.node==n)=r.find? (fun o=>o.node==n):=by
    rw[yj];have:(o.node==n)=false:=by simpa using h
    rw[this]
   rcases ownIx_some r n (k+1)with⟨j,h1,h2,h3,h4,h5⟩|⟨h1,h2,h3⟩
   ·left;refine⟨j+1,by simp;omega,by rw[e,h2];omega,by simpa using h3,by rw[f,h4];simp,fun i hi=>?_⟩
    cases i with
    |zero=>simpa using h
    |succ i=>simpa using h5 i (by omega)
   ·right;exact⟨by rw[e,h1],by rw[f,h2],by simp[h3,Ne.symm h]⟩
theorem yX{A:Type} [DecidableEq A]:∀(N M:List A),N.Nodup->(∀x∈N,x∈M)->M.length<=N.length->M.Nodup/\∀x∈M,x∈N
 |[],M,_,_,h=>by
  have:M=[]:=qe.1 (by simpa using h)
  subst this;exact⟨List.nodup_nil,fun x hx=>hx⟩
 |x::N,M,hn,hs,h=>by
  obtain⟨hx,hn'⟩:=wz.1 hn;have hxM:x∈M:=hs x (by simp)
  have hl:(M.erase x).length<=N.length:=by rw[List.length_erase_of_mem hxM];simp at h;omega
  have hsub:∀y∈N,y∈M.erase x:=fun y hy=>(List.mem_erase_of_ne (fun e=>hx (by rw[<-e];exact hy))).2 (hs y (by simp[hy]))
  obtain⟨h1,h2⟩:=yX N (M.erase x) hn' hsub hl;have hp:=List.perm_cons_erase hxM;refine⟨hp.symm.nodup (wz.2 ⟨fun hh=>hx (h2 x hh),h1⟩),fun y hy=>?_⟩
  rcases ko.1 (hp.subset hy)with e|e
  ·simp[e]
  ·simp[h2 y e]
theorem PF{A:Type}{l:List A}(h:l.Nodup){i j:Nat}{a:A}(hi:l[i]?=some a)(hj:l[j]?=some a):i=j:=by
 obtain⟨hi',ei⟩:=jm.1 hi;obtain⟨hj',ej⟩:=jm.1 hj;have hp:=ww.1 h;rcases Nat.lt_trichotomy i j with h1|h1|h1
 ·exact absurd (ei.trans ej.symm) (hp i j hi' hj' h1)
 ·exact h1
 ·exact absurd (ej.trans ei.symm) (hp j i hj' hi' h1)
theorem RB{w:Int}(h:aH w):(pathOf w).Nodup:=by
 obtain⟨h0,h1⟩:=h;have hall:∀k:Fin 8,(pathOf (k.val:Int)).Nodup:=by decide+kernel
 have:=hall ⟨w.toNat,by omega⟩
 simpa [yg h0]using this
theorem K9(keys:List S)(own:List Own):∀(p:List Int) (many:Nat),C3 keys own p many=true↔
 (∀n∈p,ix keys n≠[]->∃j:Nat,j<own.length/\jZ own n 0=(j:Nat)/\makKey (ix own (j:Int)).sec=ix keys n)/\many+(p.filter fun n=>decide (ix keys n≠[])).length=own.length
 |[],many=>by simp[C3]
 |n::ns,many=>by
  unfold C3;by_cases hk:ix keys n=[]
  ·rw[je hk,K9 keys own ns many];have:(n::ns).filter (fun n=>decide (ix keys n≠[]))=ns.filter (fun n=>decide (ix keys n≠[])):=by simp[hk]
   rw[this];constructor
   ·rintro⟨h1,h2⟩;refine⟨fun m hm hne=>?_,h2⟩
    rcases ko.1 hm with e|e
    ·subst e;exact absurd hk hne
    ·exact h1 m e hne
   ·rintro⟨h1,h2⟩;exact⟨fun m hm=>h1 m (by simp[hm]),h2⟩
  ·have hf:((n::ns).filter (fun n=>decide (ix keys n≠[]))).length=(ns.filter (fun n=>decide (ix keys n≠[]))).length+1:=by simp[hk]
   rw[jc hk,hf];rcases ownIx_some own n 0 with⟨j,h1,h2,_⟩|⟨h1,h2,_⟩
   ·have e0:jZ own n 0=(j:Int):=by rw[h2];simp
    rw[jc (by omega)]
    by_cases hm:makKey (ix own (jZ own n 0)).sec=ix keys n
    ·rw[je hm,K9 keys own ns (many+1)];rw[e0]at hm;constructor
     ·rintro⟨h3,h4⟩;refine⟨fun m hm' hne=>?_,by omega⟩
      rcases ko.1 hm' with e|e
      ·subst e;exact⟨j,h1,e0,hm⟩
      ·exact h3 m e hne
     ·rintro⟨h3,h4⟩;exact⟨fun m hm'=>h3 m (by simp[hm']),by omega⟩
    ·rw[jc hm];constructor
     ·intro h;cases h
     ·rintro⟨h3,_⟩;obtain⟨j',_,e',hm'⟩:=h3 n (by simp) hk
      rw[e']at hm;exact absurd hm' hm
   ·rw[je (by omega)]
    constructor
    ·intro h;cases h
    ·rintro⟨h3,_⟩;obtain⟨j',_,e',_⟩:=h3 n (by simp) hk
     omega
theorem BE{s:S}(h:makKey s≠[]):secOk s=true:=by
 unfold makKey mk1 at h;split at h
 ·rename_i h1;exact h1.1
 ·exact absurd rfl h
theorem mT{s:S}(h:secOk s=true):s≠[]:=fun e=>by
 subst e;obtain⟨t,_,e,_⟩:=cK.1 h;have:=t.str_pos;rw[<-e]at this;simp at this
theorem abY(m:Member)(hw:aH m.who):C3 m.keys m.own (pathOf m.who) 0=(fitsAll m&&((pathOf m.who).all fun n=>decide (ix m.keys n=[])||decide (dJ m.own n≠[]))):=by
 have hnd:=RB hw;have hN:((pathOf m.who).filter fun n=>decide (ix m.keys n≠[])).Nodup:=hnd.filter _
 apply yp.2;rw[K9,jg,kj];simp only[qx];constructor
 ·rintro⟨h1,h2⟩;have hcov:∀x∈(pathOf m.who).filter (fun n=>decide (ix m.keys n≠[])),x∈m.own.map (·.node):=fun x hx=>by
   obtain⟨hx1,hx2⟩:=wv.1 hx;obtain⟨j,hj,he,_⟩:=h1 x hx1 (by simpa using hx2)
   rcases ownIx_some m.own x 0 with⟨i,hi,he',hn,_⟩|⟨he',_⟩
   ·obtain⟨o,ho,e⟩:=kw.1 hn;exact qf.2 ⟨o,qi ho,e⟩
   ·omega
  obtain⟨hM,hsub⟩:=yX _ (m.own.map (·.node)) hN hcov (by rw[kf];omega)
  refine⟨kj.2 fun k hk=>?_,fun n hn=>?_⟩
  ·have hk':=v5.1 hk;have hget:m.own[k]?=some (m.own[k]):=jj hk';have hin:(m.own[k]).node∈m.own.map (·.node):=qf.2 ⟨_,jt hk',rfl⟩;obtain⟨hp,hne⟩:=wv.1 (hsub _ hin);have hne':ix m.keys (m.own[k]).node≠[]:=by simpa using hne
   obtain⟨j,hj,he,hm⟩:=h1 _ hp hne';have hjk:j=k:=by
    rcases ownIx_some m.own (m.own[k]).node 0 with⟨i,hi,he',hn,_⟩|⟨he',_⟩
    ·have hij:i=j:=by rw[he]at he';omega
     subst hij;have h3:(m.own.map (·.node))[i]?=some (m.own[k]).node:=by rw[jo];exact hn
     have h4:(m.own.map (·.node))[k]?=some (m.own[k]).node:=by rw[jo,hget];rfl
     exact PF hM h3 h4
    ·omega
   subst hjk;unfold oK;rw[aK m.own j hk']at hm⊢;have hno:dJ (m.own.take j) (m.own[j]).node=[]:=by
    unfold dJ;have:(m.own.take j).find? (fun o=>o.node==(m.own[j]).node)=none:=by
     rw[Jh];intro o ho;obtain⟨i,hi,e⟩:=qh.1 ho;simp only[yf]at hi;rw[List.getElem_take]at e;intro hh;have hh':o.node=(m.own[j]).node:=by simpa using hh
     have h3:(m.own.map (·.node))[i]?=some (m.own[j]).node:=by rw[jo,jj (by omega),e];simp[hh']
     have h4:(m.own.map (·.node))[j]?=some (m.own[j]).node:=by rw[jo,hget];rfl
     have:=PF hM h3 h4;omega
    rw[this]
   have hs:secOk (m.own[j]).sec=true:=BE (by rw[hm];exact hne')
   have hmk:¬makKey (m.own[j]).sec=[]:=by rw[hm];exact hne'
   simp[hp,hs,hne',hm.symm,hno,hmk]
  ·by_cases hk:ix m.keys n=[]
   ·simp[hk]
   ·obtain⟨j,hj,he,hm⟩:=h1 n hn hk;rcases ownIx_some m.own n 0 with⟨i,hi,he',hn',hfi,_⟩|⟨he',_⟩
    ·have hij:i=j:=by rw[he]at he';omega
     subst hij;have hget:m.own[i]?=some (m.own[i]):=jj hi;rw[aK m.own i hi]at hm;have hs:secOk (m.own[i]).sec=true:=BE (by rw[hm];exact hk)
     have ho:dJ m.own n=(m.own[i]).sec:=by unfold dJ;rw[hfi,hget]
     have:=mT hs;rw[ho];simp[this]
    ·omega
 ·rintro⟨h1,h2⟩;have hf:=fun(k:Nat) (hk:k<m.own.length)=>kj.1 h1 k (v5.2 hk)
  have hfit:∀(k:Nat) (hk:k<m.own.length),(m.own[k]).node∈pathOf m.who/\secOk (m.own[k]).sec=true/\ix m.keys (m.own[k]).node≠[]/\ix m.keys (m.own[k]).node=makKey (m.own[k]).sec/\dJ (m.own.take k) (m.own[k]).node=[]:=fun k hk=>by
   have:=hf k hk;unfold oK at this;rw[aK m.own k hk]at this;simpa using this
  have hM:(m.own.map (·.node)).Nodup:=by
   show List.Pairwise _ _;rw[ww];intro i j hi hj hij e;simp only[kf]at hi hj;simp only[yw]at e;have h3:=(hfit j hj).2.2.2.2;unfold dJ at h3;have hmem:m.own[i]∈m.own.take j:=by
    have:(m.own.take j)[i]?=some m.own[i]:=by rw[qp hij];exact jj hi
    exact qi this
   cases hfd:(m.own.take j).find? (fun o=>o.node==(m.own[j]).node)with
   |none=>
    have:=Jh.1 hfd _ hmem;simp[e]at this
   |some o=>
    rw[hfd]at h3;simp only at h3;have ho:=ye hfd;obtain⟨q,hq,e'⟩:=qh.1 ho;simp only[yf]at hq;rw[List.getElem_take]at e';have:=(hfit q (by omega)).2.1
    rw[e',h3]at this;exact mT this rfl
  refine⟨fun n hn hk=>?_,?_⟩
  ·have h3:=h2 n hn;have h4:dJ m.own n≠[]:=by simpa [hk]using h3
   rcases ownIx_some m.own n 0 with⟨j,hj,he,hn',hfi,_⟩|⟨_,hfn,_⟩
   ·have hget:m.own[j]?=some (m.own[j]):=jj hj;rw[hget]at hn';have hnode:(m.own[j]).node=n:=by simpa using hn'
    refine⟨j,hj,by rw[he];simp,?_⟩
    rw[aK m.own j hj,<-(hfit j hj).2.2.2.1,hnode]
   ·unfold dJ at h4;rw[hfn]at h4;exact absurd rfl h4
  ·have hsub:∀x∈m.own.map (·.node),x∈(pathOf m.who).filter (fun n=>decide (ix m.keys n≠[])):=fun x hx=>by
    obtain⟨o,ho,e⟩:=qf.1 hx;obtain⟨k,hk,e'⟩:=qh.1 ho;have h3:=hfit k hk;rw[e']at h3;rw[<-e];exact wv.2 ⟨h3.1,by simpa using h3.2.2.1⟩
   have hsub2:∀x∈(pathOf m.who).filter (fun n=>decide (ix m.keys n≠[])),x∈m.own.map (·.node):=fun x hx=>by
    obtain⟨hx1,hx2⟩:=wv.1 hx;have h3:=h2 x hx1;have h4:dJ m.own x≠[]:=by
     have:ix m.keys x≠[]:=by simpa using hx2
     simpa [this]using h3
    rcases ownIx_some m.own x 0 with⟨j,hj,he,hn',_⟩|⟨_,hfn,_⟩
    ·obtain⟨o,ho,e⟩:=kw.1 hn';exact qf.2 ⟨o,qi ho,e⟩
    ·unfold dJ at h4;rw[hfn]at h4;exact absurd rfl h4
   have l1:=pigL _ _ hM hsub;have l2:=pigL _ _ hN hsub2;rw[kf]at l1 l2;omega
where
 pigL:∀(l p:List Int),l.Nodup->(∀x∈l,x∈p)->l.length<=p.length
  |[],p,_,_=>Nat.zero_le _
  |x::l,p,h,hs=>by
   have h1:=wz.1 h;have h2:=pigL l (p.erase x) h1.2 (fun y hy=>(List.mem_erase_of_ne (fun e=>h1.1 (by rw[<-e];exact hy))).2 (hs y (by simp[hy])))
   rw[List.length_erase_of_mem (hs x (by simp))]at h2
   have:=List.length_pos_of_mem (hs x (by simp))
   simp;omega
theorem PG(m:Member):RA m=memOk m:=by
 unfold RA memOk;split
 ·rfl
 ·by_cases hw:aH m.who
  ·rw[jd hw,jy,jy,abY m hw];unfold yU hasLeaf;cases treOk m.keys<;>cases fitsAll m<;>cases ((pathOf m.who).all fun n=>decide (ix m.keys n=[])||decide (dJ m.own n≠[]))<;>cases decide (ix m.keys (treLeaf m.who)≠[])<;>cases secOk m.init<;>cases decide (0<=m.epoch/\m.epoch<=12)<;>cases decide (m.tag.length<=300)<;>rfl
  ·rw[ji hw];rfl
end Kw
namespace Kw
open Go Go.Proofs
theorem clr_len(ks:List S)(w:Int):(clr ks w).length=ks.length:=by
 unfold clr;generalize pathOf w=p;induction p generalizing ks with
 |nil=>rfl
 |cons n ns ih=>simp[ih]
section
variable (L D:Nat)
theorem aiU(hL:1099511627776<=L)(ks:List S)(hk:ks.length=15)(add remove:Int)(leaf:S)(ha: -1<=add/\add<=7)(hr: -1<=remove/\remove<=7):
 ev E L (D+6) 239 [.agg [.sl (ks.map rS)],.int .i64 add,.int .i64 remove,.str (bs leaf)] []=some (.agg [.own ((baseT ks add remove leaf).map rS)],[]):=by
 rw[au5];simp only[KM];have h1:=JN L (D+3) ks (by omega)
 have fin:∀(k2:List S),k2.length=15->
  (br (iLe 0 add) (br (iEq (nrows (k2.map rS)) (nrows (k2.map rS))) (bnd (ev E L (D+5) 280 [MV.agg [MV.sl (k2.map rS)],MV.int IntKind.i64 add] []) fun r=>bnd (G8 1 r.1) fun cs=>bnd (MW (aC cs 0)) fun r=>bnd (ev E L (D+5) 128 [MV.int IntKind.i64 add] []) fun r_1=>bnd (eI IntKind.i64 r_1.1) fun n=>br (iEq (nrows r) (nrows r)) (bnd (kF 1 r n) fun x=>br (iEq (nrows r) (nrows r)) (bnd (iP r n) fun row=>br (iLe 1 (eT row)) (br (iEq (nrows r) (nrows (setR r n (setRow row 0 [MV.str (bs leaf)])))) (some (MV.agg [MV.own (setR r n (setRow row 0 [MV.str (bs leaf)]))],([]:List Obj))) none) none) none) none) none) (br (iEq (nrows (k2.map rS)) (nrows (k2.map rS))) (some (MV.agg [MV.own (k2.map rS)],[])) none))=
  some (.agg [.own ((if 0<=add then(clr k2 add).set (treLeaf add).toNat leaf else k2).map rS)],[]):=fun k2 h2=>by
  by_cases h:0<=add
  ·have hw:aH add:=⟨h,ha.2⟩;have hc:=aaU L D hL k2 h2 add hw;have hlf:=rL L (D+4) add hw;have hcl:(clr k2 add).length=15:=by rw[clr_len,h2]
   have e:=wL hw;have r3:=aW (treLeaf add) (clr k2 add) (by omega) (by omega)
   have r4:=kH (clr k2 add) (treLeaf add) (by omega) (by omega)
   have s1:setR ((clr k2 add).map rS) (treLeaf add) (rS leaf)=((clr k2 add).set (treLeaf add).toNat leaf).map rS:=iH rS _ _ _;have l1:eT (rS (ix (clr k2 add) (treLeaf add)))=1:=rfl;have l2:iLe 1 1=true:=rfl;have sr:setRow (rS (ix (clr k2 add) (treLeaf add))) 0 [MV.str (bs leaf)]=rS leaf:=rfl;have g:iLe 0 add=true:=by rw[iLe_dec];exact jd h
   have q:iEq ((clr k2 add).length:Int) (((clr k2 add).set (treLeaf add).toNat leaf).length:Int)=true:=by rw[ku,iEq_self]
   rw[je h];simp only[g,br_true',iEq_self,hc,bnd_some',gAggN_if,jf,jk,ju,cellAt_zero,gOwn_r,hlf,gInt_i,r3,r4,l1,l2,sr,s1,nrows_map,q]
  ·have g:iLe 0 add=false:=by rw[iLe_dec];exact ji h
   rw[jc h,g,br_false',iEq_self,br_true']
 unfold baseT;simp only;rw[h1];by_cases h:0<=remove
 ·have hw:aH remove:=⟨h,hr.2⟩;have hc:=aaU L D hL ks hk remove hw;have g:iLe 0 remove=true:=by rw[iLe_dec];exact jd h
  rw[je h];simp only[bnd_some',gAggN_if,jf,jk,ju,cellAt_zero,gOwn_r,g,br_true',iEq_self,hc];have f:=fin (clr ks remove) (by rw[clr_len,hk])
  simp only[iEq_self,br_true']at f;exact f
 ·have g:iLe 0 remove=false:=by rw[iLe_dec];exact ji h
  rw[jc h];simp only[bnd_some',gAggN_if,jf,jk,ju,cellAt_zero,gOwn_r,g,br_false'];exact fin ks hk
theorem SJ(ks:List S)(hk:ks.length=15):∀(f n:Nat),n<=14->15< (n+1)*2^f->∃c:List Int,c.length<=2^f/\ev E L (D+f) 240 [.agg [.sl (ks.map rS)],.int .i64 n] []=some (.own (c.map rI),[])/\c=coverN f ks n
 |0,n,h,h2=>by simp at h2;omega
 |f+1,n,h,h2=>by
  rw[show D+(f+1)=(D+f)+1 by omega,au6];simp only[KM]
  have r3:=aW (n:Int) ks (by omega) (by omega)
  have hc:coverN (f+1) ks n=if ix ks (n:Int)≠[]then[(n:Int)]else if 7<=n then[]else coverN f ks (2*n+1)++coverN f ks (2*n+2):=rfl
  have hp:1<=2^(f+1):=Nat.one_le_two_pow;by_cases hz:ix ks (n:Int)=[]
  ·have z:sEq (bs (ix ks (n:Int))) (bs [])=true:=by rw[sEq_bs];exact jd hz
   rw[jc (by simp[hz])]at hc
   by_cases h7:7<=n
   ·have g:iLe 7 (n:Int)=true:=by rw[iLe_dec,jb];omega
    rw[je h7]at hc;refine⟨[],by simp,?_,hc.symm⟩
    simp only[r3,bnd_some',dX,gStr_s,z,bNot_t,br_false',g,br_true']
    rfl
   ·have g:iLe 7 (n:Int)=false:=by rw[iLe_dec,jh];omega
    rw[jc h7]at hc;have m1:nW .i64 2 (n:Int)=((2*n:Nat):Int):=by rw[KE (by omega) (by omega)];omega
    have a1:bR .i64 ((2*n:Nat):Int) 1=((2*n+1:Nat):Int):=aG _ (by omega)
    have a2:bR .i64 ((2*n:Nat):Int) 2=((2*n+2:Nat):Int):=bA (by omega) (by omega)
    have e2:2^(f+1)=2*2^f:=by rw[Nat.pow_succ];omega
    have q:(n+1)*2^(f+1)=(2*n+2)*2^f:=by rw[e2,<-Nat.mul_assoc];congr 1;omega
    have q1:15< (2*n+1+1)*2^f:=by rw[q]at h2;exact h2
    have q2:15< (2*n+2+1)*2^f:=v3 q1 (qn _ (by omega))
    obtain⟨c1,l1,h3,hc1⟩:=SJ ks hk f (2*n+1) (by omega) q1
    obtain⟨c2,l2,h4,hc2⟩:=SJ ks hk f (2*n+2) (by omega) q2
    have hf8:f<=1000->True:=fun _=>trivial
    have o1:okR 1 (c1.map rI)=true:=lA _;have o2:okR 1 (c2.map rI)=true:=lA _;have c12:cB (c1.map rI) (c2.map rI)=(c1++c2).map rI:=d7 rI c1 c2;have hlen:∀(f:Nat) (ks:List S) (n:Nat),n<=14->(coverN f ks n).length<=16:=by
     intro f ks n hn;have:∀(g n:Nat),n<=14->(coverN g ks n).length*(n+1)<=16:=by
      intro g;induction g with
      |zero=>intro n hn;simp[coverN]
      |succ g ih=>
       intro n hn;show(if ix ks (n:Int)≠[]then[(n:Int)]else if 7<=n then[]else coverN g ks (2*n+1)++coverN g ks (2*n+2)).length*(n+1)<=16
       split
       ·simp;omega
       ·split
        ·simp
        ·have i1:=ih (2*n+1) (by omega)
         have i2:=ih (2*n+2) (by omega)
         rw[jl,yl];have j1:(coverN g ks (2*n+1)).length*(2*n+1+1)=2*((coverN g ks (2*n+1)).length*(n+1)):=by rw[Nat.mul_left_comm];congr 1
         have j2:2*((coverN g ks (2*n+2)).length*(n+1))<=(coverN g ks (2*n+2)).length*(2*n+2+1):=by rw[Nat.mul_left_comm];exact qw _ (by omega)
         omega
     have h:=this f n hn;exact kb (Nat.le_mul_of_pos_right _ (by omega)) h
    have b1:c1.length<=16:=by rw[hc1];exact hlen f ks _ (by omega)
    have b2:c2.length<=16:=by rw[hc2];exact hlen f ks _ (by omega)
    have hf:eL (c1.length:Int) (c2.length:Int) 8=true:=aE _ _ _ (by omega)
    refine⟨c1++c2,by rw[jl];omega,?_,by rw[hc,hc1,hc2]⟩
    simp only[r3,bnd_some',dX,gStr_s,z,bNot_t,br_false',br_true',g,m1,a1,a2,h3,h4,gOwn_r,iEq_self,nrows_map,o1,o2,hf,cN,c12]
  ·have z:sEq (bs (ix ks (n:Int))) (bs [])=false:=by rw[sEq_bs];exact ji hz
   rw[je hz]at hc;refine⟨[(n:Int)],by simpa using hp,?_,hc.symm⟩
   simp only[r3,bnd_some',dX,gStr_s,z,bNot_f,br_true',iEq_self]
   rfl
theorem SK:∀(f a b m:Nat),a+b<f->a+b<m->a<=14->b<=14->AA L D m a b=some (.int .i64 (meetN f a b:Nat),[])
 |0,_,_,_,h,_,_,_=>by omega
 |f+1,a,b,m,h,hm,ha,hb=>by
  obtain⟨m,rfl⟩:∃k,m=k+1:=⟨m-1,by omega⟩
  rw[NC];simp only[KM];have hc:meetN (f+1) a b=if a=b then a else if b<a then meetN f ((a-1)/2) b else meetN f a ((b-1)/2):=rfl
  have z:iEq 2 0=false:=rfl;rw[hc];by_cases he:a=b
  ·subst he;rw[je rfl,iEq_self];rfl
  ·have g:iEq (a:Int) (b:Int)=false:=by rw[iEq_dec,jh];omega
   rw[jc he,g,bNot_f,br_true'];by_cases hlt:b<a
   ·have g1:iLt (b:Int) (a:Int)=true:=by rw[iLt_dec,jb];omega
    have a1:iS .i64 (a:Int) 1=((a-1:Nat):Int):=by rw[d9 (by omega) (by omega)];omega
    have a2:F6 .i64 ((a-1:Nat):Int) 2=(((a-1)/2:Nat):Int):=by
     rw[mO (by omega) (by omega) (by omega)]
     exact(Int.natCast_ediv (a-1) 2).symm
    rw[je hlt,g1,br_true',z,br_false',a1,a2];exact SK f _ _ m (by omega) (by omega) (by omega) hb
   ·have g1:iLt (b:Int) (a:Int)=false:=by rw[iLt_dec,jh];omega
    have a1:iS .i64 (b:Int) 1=((b-1:Nat):Int):=by rw[d9 (by omega) (by omega)];omega
    have a2:F6 .i64 ((b-1:Nat):Int) 2=(((b-1)/2:Nat):Int):=by
     rw[mO (by omega) (by omega) (by omega)]
     exact(Int.natCast_ediv (b-1) 2).symm
    rw[jc hlt,g1,br_false',z,br_false',a1,a2];exact SK f _ _ m (by omega) (by omega) ha (by omega)
theorem YH(hL:1099511627776<=L)(a b:Int):ev E L (D+3) 197 [.int .i64 a,.int .i64 b] []=some (.int .i64 (treMeet a b),[]):=by
 rw[atV];simp only[KM];rw[F3];unfold treMeet;by_cases ha:hJ a
 ·rw[jd ha];have h2:=F3 L D b;by_cases hb:hJ b
  ·rw[je ⟨ha,hb⟩];rw[jd hb]at h2;simp only[bnd_some',gBool_b,bNot_t,bNot_f,br_true',br_false',h2];obtain⟨a0,a1⟩:=ha;obtain⟨b0,b1⟩:=hb;obtain⟨a,rfl⟩:=kv a0;obtain⟨b,rfl⟩:=kv b0;exact SK L (D+2) 30 a b L (by omega) (by omega) (by omega) (by omega)
  ·rw[jc (fun x=>hb x.2)]
   rw[ji hb]at h2;simp only[bnd_some',gBool_b,bNot_t,bNot_f,br_true',h2]
 ·rw[ji ha,jc (fun x=>ha x.1)];rfl
theorem SL(hL:1099511627776<=L)(s:S)(hs:s.length<=2000000):ev E L (D+307) 120 [.str (bs s)] []=some (.bool (secOk s&&decide (s.length<=292)),[]):=by
 rw[atA];simp only[KM];rw[jI L D hL s hs];cases h:secOk s with
 |false=>rfl
 |true=>
  simp only[bnd_some',gBool_b,br_true',iLe_dec,sLen_bs,jy];by_cases h2:s.length<=292
  ·rw[jd h2,jd (by omega:(s.length:Int)<=292)]
  ·rw[ji h2,ji (by omega:¬(s.length:Int)<=292)]
theorem BQ(n w:Int)(hw:aH w):ev E L (D+3) 75 [.int .i64 n,.int .i64 w] []=some (.bool (decide (bQ n w)),[]):=by
 rw[azB];simp only[KM];rw[iEq_dec];have h1:=qY L D n;obtain⟨w0,w1⟩:=hw;by_cases hn:n= -1
 ·rw[jd hn];have:bQ n w:=⟨by omega,by omega,by omega⟩
  rw[jd this];rfl
 ·rw[ji hn,bNot_f,br_true',h1,kM];by_cases hi:aH n
  ·rw[jd hi];simp only[bnd_some',gBool_b,br_true',iEq_dec];obtain⟨i0,i1⟩:=hi;by_cases he:n=w
   ·have:¬bQ n w:=fun x=>x.2.2 he
    rw[jd he,ji this];rfl
   ·have:bQ n w:=⟨by omega,by omega,he⟩
    rw[ji he,jd this];rfl
  ·rw[ji hi];have:¬bQ n w:=fun x=>hi ⟨by have:=x.1;omega,x.2.1⟩
   rw[ji this];rfl
theorem P5(hL:1099511627776<=L)(n:Int)(a b:S)(ha:a.length<=2000000)(hb:b.length<=2000000):ev E L (D+307) 77 [.int .i64 n,.str (bs a),.str (bs b)] []=some (.bool (twoKeys n a b),[]):=by
 rw[azC];simp only[KM];rw[iLt_dec];unfold twoKeys;by_cases hn:n<0
 ·rw[jd hn,je hn,br_true',sEq_bs];by_cases h1:a=[]
  ·rw[jd h1,br_true',sEq_bs];by_cases h2:b=[]
   ·rw[jd h2,jd ⟨h1,h2⟩]
   ·rw[ji h2,ji (fun x=>h2 x.2)]
  ·rw[ji h1,ji (fun x=>h1 x.1)];rfl
 ·rw[ji hn,jc hn,br_false',SH L D hL a ha];cases isKey a with
  |false=>rfl
  |true=>
   simp only[bnd_some',gBool_b,br_true',SH L D hL b hb,jy];cases isKey b with
   |false=>rfl
   |true=>
    simp only[br_true',jy,sEq_bs];by_cases h:a=b
    ·rw[jd h,ji (fun x=>x h)];rfl
    ·rw[ji h,jd h];rfl
theorem P6(ks:List S)(hk:ks.length=15)(add remove:Int)(ha: -1<=add/\add<=7)(hr: -1<=remove/\remove<=7):ev E L (D+4) 238 [.agg [.sl (ks.map rS)],.int .i64 add,.int .i64 remove] []=some (.bool (changes ks add remove),[]):=by
 rw[au4];simp only[KM];have h1:=VJ L D ks hk add;have h2:=VJ L D ks hk remove;have fin:(br (bNot (iLt add 0)) (bnd (ev E L (D+3) 66 [MV.agg [MV.sl (ks.map rS)],MV.int IntKind.i64 add] []) fun r=>bnd (nY r.1) fun b=>br (bNot (bNot b)) (some (MV.bool (iEq add remove),([]:List Obj))) (some (MV.bool true,[]))) (some (MV.bool true,[])))=
  some (.bool (decide (add<0)||(!hasLeaf ks add||decide (add=remove))),[]):=by
  rw[iLt_dec,iEq_dec];by_cases h:add<0
  ·rw[jd h];rfl
  ·have hw:aH add:=⟨by omega,ha.2⟩
   rw[ji h,h1,jd hw];simp only[bNot_f,br_true',bnd_some',gBool_b,jy,Bool.false_or];cases hasLeaf ks add<;>rfl
 unfold changes;rw[iLt_dec]at*;by_cases h:remove<0
 ·rw[jd h,bNot_t,br_false',Bool.true_or,jy];exact fin
 ·have hw:aH remove:=⟨by omega,hr.2⟩
  rw[ji h,bNot_f,br_true',h2,jd hw,jy];simp only[bnd_some',gBool_b,Bool.false_or];cases hasLeaf ks remove with
  |false=>rfl
  |true=>
   rw[br_true',jy];exact fin
end
end Kw
namespace Kw
open Go Go.Proofs
theorem DD:∀(ns:List Int) (s:S),(pathGo ns s).length=ns.length
 |[],_=>rfl
 |n::ns,s=>by simp[pathGo,DD ns]
section
variable (L D:Nat)
theorem VM:∀(ns:List Int) (m:Nat) (x:S) (pre:List Int) (pres:List S) (done:List Own),ns.length<m->pre.length=pres.length->done.length=pre.length->pre.length+ns.length<=1000->
 E4 L D m ((done++List.replicate ns.length (⟨0,[]⟩:Own)).map rO) ((pre++ns).map rI) ((pre.length+ns.length:Nat):Int) ((pres++hZ x ns.length).map rS) ((pre.length+ns.length:Nat):Int) pre.length=some (.sl ((done++pathGo ns x).map rO),[])
 |_,0,_,_,_,_,h,_,_,_=>by omega
 |[],m+1,x,pre,pres,done,h,he,hd,hp=>by
  rw[CJ];simp only[KM];have g:iLt (pre.length:Int) ((pre.length+([]:List Int).length:Nat):Int)=false:=by rw[iLt_dec,jh];simp
  have q:iEq ((pre.length+([]:List Int).length:Nat):Int) (nrows ((done++List.replicate ([]:List Int).length (⟨0,[]⟩:Own)).map rO))=true:=by
   rw[nrows_map,iEq_dec,jb];simp[hd]
  rw[g,br_false',q,br_true'];simp[pathGo]
 |n::ns,m+1,x,pre,pres,done,h,he,hd,hp=>by
  rw[CJ];simp only[KM];simp only[jf]at h hp;have g:iLt (pre.length:Int) ((pre.length+(n::ns).length:Nat):Int)=true:=by rw[iLt_dec,jb];simp only[jf];omega
  have hix1:ix (pres++hZ x (n::ns).length) (pre.length:Int)=x:=by
   rw[he,aK _ _ (by simp[nO])];simp[hZ]
  have hix2:ix (pre++n::ns) (pre.length:Int)=n:=by
   rw[aK _ _ (by simp)];simp
  have r1:=aW (pre.length:Int) (pres++hZ x (n::ns).length) (by omega) (by simp only[jl,nO,jf];omega)
  have r2:=aY (pre.length:Int) (pre++n::ns) (by omega) (by simp only[jl,jf];omega)
  rw[hix1]at r1;rw[hix2]at r2;have hlen:(done++List.replicate (n::ns).length (⟨0,[]⟩:Own)).length=pre.length+(n::ns).length:=by simp[hd]
  have r3:=dY (pre.length:Int) (done++List.replicate (n::ns).length (⟨0,[]⟩:Own)) (by omega) (by rw[hlen];simp only[jf];omega)
  have r4:=ak1 (done++List.replicate (n::ns).length (⟨0,[]⟩:Own)) (pre.length:Int) (by omega) (by rw[hlen];simp only[jf];omega)
  have a1:bR .i64 (pre.length:Int) 1=((pre.length+1:Nat):Int):=aG _ (by omega)
  have s1:setR ((done++List.replicate (n::ns).length (⟨0,[]⟩:Own)).map rO) (pre.length:Int) (rO ⟨n,x⟩)=(((done++[(⟨n,x⟩:Own)])++List.replicate ns.length (⟨0,[]⟩:Own))).map rO:=by
   rw[ax4,ki]
   congr 1
   rw[List.set_append_right _ _ (by omega),hd,Nat.sub_self]
   simp[List.replicate_succ]
  have l1:∀o:Own,eT (rO o)=2:=fun _=>rfl
  have l2:iLe 2 2=true:=rfl;have sr:∀o:Own,setRow (rO o) 0 [MV.int IntKind.i64 n,MV.str (bs x)]=rO ⟨n,x⟩:=fun _=>rfl
  have ih:=VM ns m (makNext x) (pre++[n]) (pres++[x]) (done++[(⟨n,x⟩:Own)]) (by omega) (by simp[he]) (by simp[hd]) (by simp;omega)
  have e1:(pre++[n])++ns=pre++n::ns:=by simp
  have e2:(pres++[x])++hZ (makNext x) ns.length=pres++hZ x (n::ns).length:=by simp[hZ]
  have e3:(((pre++[n]).length+ns.length:Nat):Int)=((pre.length+(n::ns).length:Nat):Int):=by simp;omega
  have e4:(pre++[n]).length=pre.length+1:=by simp
  rw[e1,e2,e3,e4]at ih;have q:iEq ((pre.length+(n::ns).length:Nat):Int) (nrows ((done++List.replicate (n::ns).length (⟨0,[]⟩:Own)).map rO))=true:=by
   rw[nrows_map,hlen,iEq_self]
  simp only[g,br_true',r1,r2,bnd_some',dX,gStr_s,d8,gInt_i,q,r3,r4,l1,l2,sr,s1,a1,ih];simp[pathGo]
theorem JO(hL:1099511627776<=L)(ns:List Int)(s:S)(h1:1<=ns.length)(hn:ns.length<=1000)(hs:s.length<=500000):ev E L (D+310) 123 [.sl (ns.map rI),.str (bs s)] []=some (.sl ((pathGo ns s).map rO),[]):=by
 rw[atD];simp only[KM];have h3:=aaT L D hL s ns.length h1 hn hs;have h4:=VM L (D+309) ns L s [] [] [] (by omega) rfl rfl (by simp;omega)
 simp only[qg,jk,qx]at h4;have n1:nrows (ns.map rI)=ns.length:=nrows_map ..;have n2:nrows ((hZ s ns.length).map rS)=ns.length:=by rw[nrows_map,nO]
 have g0:iLe 0 (ns.length:Int)=true:=by rw[iLe_dec,jb];omega
 have hf:eL (ns.length:Int) 0 24=true:=aE _ _ _ (by omega)
 have er:jX (ns.length:Int) [MV.int IntKind.i64 0,MV.str (bs [])]=(List.replicate ns.length (⟨0,[]⟩:Own)).map rO:=by
  unfold jX;rw[ki,List.map_replicate];rfl
 have nr:nrows ((List.replicate ns.length (⟨0,[]⟩:Own)).map rO)=ns.length:=by rw[nrows_map,List.length_replicate]
 simp only[n1,iEq_self,g0,hf,cN,br_true',h3,bnd_some',gSl_r,n2,er,nr];exact h4
theorem VN(own:List Own)(hl:own.length<=1000000)(n:Int):∀(m k:Nat),own.length<m+k->k<=own.length->
 qV L (D+1) m n (own.map rO) own.length k=some (.int .i64 (jZ (own.drop k) n k),[.cells [.int .i64 n]])
 |0,k,h,hk=>by omega
 |m+1,k,h,hk=>by
  rw[GU];simp only[KM];by_cases hlt:k<own.length
  ·have h1:iLt (k:Int) own.length=true:=by rw[iLt_dec,jb];omega
   have a1:bR .i64 (k:Int) 1=((k+1:Nat):Int):=aG _ (by omega)
   have e:=qa hlt;have hix:ix own (k:Int)=own[k]:=aK own k hlt;have r:=dY (k:Int) own (by omega) (by omega)
   rw[hix]at r;have ih:=VN own hl n m (k+1) (by omega) (by omega)
   have hc:jZ (own[k]::own.drop (k+1)) n k=if own[k].node=n then(k:Int)else jZ (own.drop (k+1)) n (k+1):=rfl
   have c0:aC (rO own[k]) 0=.int .i64 own[k].node:=rfl;have c1:aC (rO own[k]) 1=.str (bs own[k].sec):=rfl;rw[e,hc];simp only[h1,br_true',r,bnd_some',c0,c1,gInt_i,gStr_s,atJ,iG,bK,jf,jk,ju,cellAt_zero,gBool_b,iEq_dec,a1,ih,↓KM];by_cases hn:own[k].node=n
   ·rw[jd hn,je hn];rfl
   ·rw[ji hn,jc hn];rfl
  ·have h1:iLt (k:Int) own.length=false:=by rw[iLt_dec,jh];omega
   have e:own.drop k=[]:=wx (by omega)
   rw[e,h1];rfl
theorem ap0(hL:1099511627776<=L)(own:List Own)(hl:own.length<=1000000)(n:Int):ev E L (D+3) 68 [.sl (own.map rO),.int .i64 n] []=some (.int .i64 (jZ own n 0),[]):=by
 rw[az7];simp only[KM];rw[ad4,nrows_map];have:=VN L D own hl n L 0 (by omega) (by omega)
 rw[show((0:Nat):Int)=0 from rfl,qb]at this
 rw[this]
 rfl
structure MB(m:Member):Prop where
 keys:m.keys.length<=1000000
 key:∀s∈m.keys,s.length<=500000
 own:m.own.length<=1000000
 sec:∀o∈m.own,o.sec.length<=500000
 init:m.init.length<=500000
 tag:m.tag.length<=500000
theorem VO(hL:1099511627776<=L)(b0:Bool)(i1 i4:Int)(s5 s6:ByteArray)(keys:List S)(own:List Own)(hk:keys.length=15)(hl:own.length<=1000000)(hs:∀o∈own,o.sec.length<=500000):∀(ns pre:List Int) (m many:Nat),ns.length<m->pre.length+ns.length<=1000->many+ns.length<=1000->(∀n∈ns,0<=n/\n<=14)->
 EP L (D+308) m b0 i1 (keys.map rS) (own.map rO) i4 s5 s6 many ((pre++ns).map rI) ((pre.length+ns.length:Nat):Int) pre.length=some (.bool (C3 keys own ns many),[])
 |_,_,0,_,h,_,_,_=>by omega
 |[],pre,m+1,many,h,hp,hm,hr=>by
  rw[EQ];simp only[KM];have g:iLt (pre.length:Int) ((pre.length+([]:List Int).length:Nat):Int)=false:=by rw[iLt_dec,jh];simp
  rw[g,br_false',iEq_dec,nrows_map];show some (MV.bool (decide ((many:Int)=own.length)),([]:List Obj))=some (MV.bool (decide (many=own.length)),[]);by_cases hq:many=own.length
  ·rw[jd hq,jd (by omega:(many:Int)=own.length)]
  ·rw[ji hq,ji (by omega:¬(many:Int)=own.length)]
 |n::ns,pre,m+1,many,h,hp,hm,hr=>by
  rw[EQ];simp only[KM];obtain⟨n0,n1⟩:=hr n (by simp)
  simp only[jf]at h hp hm;have g:iLt (pre.length:Int) ((pre.length+(n::ns).length:Nat):Int)=true:=by rw[iLt_dec,jb];simp only[jf];omega
  have hix2:ix (pre++n::ns) (pre.length:Int)=n:=by
   rw[aK _ _ (by simp)];simp
  have r2:=aY (pre.length:Int) (pre++n::ns) (by omega) (by simp only[jl,jf];omega)
  rw[hix2]at r2;have r3:=aW n keys (by omega) (by omega)
  have a1:bR .i64 (pre.length:Int) 1=((pre.length+1:Nat):Int):=aG _ (by omega)
  have a2:bR .i64 (many:Int) 1=((many+1:Nat):Int):=aG _ (by omega)
  have ih:=fun many' (hm':many'+ns.length<=1000)=>VO hL b0 i1 i4 s5 s6 keys own hk hl hs ns (pre++[n]) m many' (by omega) (by simp;omega) hm' (fun k hk=>hr k (by simp[hk]))
  have e1:(pre++[n])++ns=pre++n::ns:=by simp
  have e3:(((pre++[n]).length+ns.length:Nat):Int)=((pre.length+(n::ns).length:Nat):Int):=by simp;omega
  have e4:(pre++[n]).length=pre.length+1:=by simp
  rw[e1,e3,e4]at ih;have hgo:C3 keys own (n::ns) many=if ix keys n=[]then C3 keys own ns many else if jZ own n 0<0 then false else if makKey (ix own (jZ own n 0)).sec=ix keys n then C3 keys own ns (many+1)else false:=rfl
  have hat:=ap0 L (D+305) hL own hl n;rw[hgo];simp only[g,br_true',r2,bnd_some',d8,gInt_i,r3,dX,gStr_s,sEq_bs,a1];by_cases hz:ix keys n=[]
  ·rw[jd hz,br_true',je hz];exact ih many (by omega)
  ·rw[ji hz,br_false',jc hz,hat];simp only[bnd_some',gInt_i,iLt_dec];rcases ownIx_some own n 0 with⟨j,h1,h2,_⟩|⟨h1,h2,_⟩
   ·have e0:jZ own n 0=(j:Int):=by rw[h2];simp
    rw[e0];have gj:decide ((j:Int)<0)=false:=by rw[jh];omega
    have r5:=dY (j:Int) own (by omega) (by omega)
    have hix:ix own (j:Int)=own[j]:=aK own j h1;rw[hix]at r5;have c1:aC (rO own[j]) 1=.str (bs own[j].sec):=rfl;have hkey:=qC L D hL own[j].sec (hs _ (jt h1));rw[jc (by omega:¬(j:Int)<0),hix]
    simp only[gj,bNot_f,br_true',r5,bnd_some',c1,gStr_s,hkey,sEq_bs];by_cases hm:makKey own[j].sec=ix keys n
    ·rw[jd hm,je hm,bNot_t,br_false',a2];exact ih (many+1) (by omega)
    ·rw[ji hm,jc hm];rfl
   ·have gj:decide (jZ own n 0<0)=true:=by rw[jb];omega
    rw[gj,je (by omega)];rfl
theorem wM(hL:1099511627776<=L)(m:Member)(z:MB m):ev E L (D+311) 22 [.agg (rM m)] []=some (.bool (memOk m),[]):=by
 rw[<-PG];obtain⟨b,w,ks,own,e,i,t⟩:=m;obtain⟨z1,z2,z3,z4,z5,z6⟩:=z;simp only at z1 z2 z3 z4 z5 z6;show ev E L (D+311) 22 [.agg [.bool b,.int .i64 w,.sl (ks.map rS),.sl (own.map rO),.int .i64 e,.str (bs i),.str (bs t)]] []=_;rw[ayD];simp only[KM];unfold RA;simp only;cases b with
 |false=>
  rw[je rfl,bNot_f,br_true',iEq_dec,iEq_dec,iEq_dec,iEq_dec,sEq_bs,sEq_bs,nrows_map,nrows_map];have k0:((ks.length:Int)=0)=(ks=[]):=by rw[<-qe];exact propext ⟨fun h=>by omega,fun h=>by omega⟩
  have o0:((own.length:Int)=0)=(own=[]):=by rw[<-qe];exact propext ⟨fun h=>by omega,fun h=>by omega⟩
  simp only[k0,o0];by_cases h1:w=0<;>by_cases h2:ks=[]<;>by_cases h3:own=[]<;>by_cases h4:e=0<;>by_cases h5:i=[]<;>by_cases h6:t=[]<;>simp[h1,h2,h3,h4,h5,h6]
 |true=>
  rw[jc (by simp),bNot_t,br_false',qY,kM]
  by_cases hw:aH w
  ·have ht:=aaQ L D hL ks z1 (fun s h=>kb (z2 s h) (by omega))
   have he:=kL L (D+309) e 0 12;have hi:=jI L (D+4) hL i (by omega)
   rw[jd hw,jy];simp only[bnd_some',gBool_b,bNot_t,br_true',bNot_f,ht];cases hto:treOk ks with
   |false=>rfl
   |true=>
    have hk:ks.length=15:=by
     unfold treOk at hto;simp only[jg,jb]at hto;exact hto.1
    rw[jy];simp only[bNot_t,br_true',bNot_f,he,bnd_some',gBool_b];by_cases he':0<=e/\e<=12
    ·rw[jd he'.1,jd he'.2,jd he',jy];simp only[bNot_t,br_true',bNot_f,hi,bnd_some',gBool_b];cases hso:secOk i with
     |false=>rfl
     |true=>
      have hh:=VJ L (D+307) ks hk w;have hp:=G3 L (D+306) hL w hw;rw[jy];simp only[bNot_t,br_true',bNot_f,iLt_dec,sLen_bs];by_cases htl:t.length<=300
      ·have g:decide ((300:Int)<t.length)=false:=by rw[jh];omega
       rw[g,jd htl,jy];simp only[bNot_f,br_true',hh,bnd_some',gBool_b];rw[jd hw,jy];cases hasLeaf ks w with
       |false=>rfl
       |true=>
        have hl:=eX w;have hlp:=VO L (D+2) hL true w e (bs i) (bs t) ks own hk z3 z4 (pathOf w) [] L 0 (by omega) (by simp;omega) (by omega) (pathOf_rng hw)
        simp only[qg,jk,qx]at hlp;rw[bNot_t,br_false',hp,jy];simp only[bnd_some',gSl_r,nrows_map];exact hlp
      ·have g:decide ((300:Int)<t.length)=true:=by rw[jb];omega
       rw[g,ji htl];rfl
    ·have g:(decide (0<=e)&&decide (e<=12))=false:=by
      rw[Bool.and_eq_false_iff];by_cases h2:0<=e
      ·exact .inr (by rw[jh];omega)
      ·exact .inl (by rw[jh];omega)
     rw[g,ji he'];rfl
  ·rw[ji hw];rfl
end
end Kw
namespace Kw
open Go Go.Proofs
theorem aoG{A:Type}(l:List A)(p:A->Bool):(l.any p)=!(l.all fun x=>!p x):=by
 induction l with
 |nil=>rfl
 |cons a t ih=>simp[ih]
section
variable (L D:Nat)
theorem YA(hL:1099511627776<=L)(w:Int)(leaf init:S)(hl:leaf.length<=500000)(hi:init.length<=500000):ev E L (D+313) 63 [.int .i64 w,.str (bs leaf),.str (bs init)] []=some (.agg (rM (dP w leaf init)),[]):=by
 rw[az2];simp only[KM];rw[qY,kM];unfold dP;have h1:=SL L (D+5) hL leaf (by omega)
 have h2:=jI L (D+6) hL init (by omega)
 by_cases hw:aH w
 ·rw[jd hw];simp only[bnd_some',gBool_b,bNot_t,bNot_f,br_true',h1];by_cases hs:secOk leaf=true/\leaf.length<=292
  ·rw[hs.1,jd hs.2];simp only[Jf,bNot_t,bNot_f,br_true',h2,bnd_some',gBool_b];by_cases hk:secOk init=true
   ·rw[je ⟨hw,trivial,hk,hs.2⟩,hk];have h3:=aiR L (D+311);have h4:=apU L (D+2) hL treNew (by simp[treNew]) w hw leaf hl
    have h5:=G3 L (D+308) hL w hw;have hpl:=eX w;have h6:=JO L (D+2) hL (pathOf w) leaf (by show 1<=(bI (treLeaf w)).length+1;omega) (by omega) hl
    simp only[bNot_t,br_false',h3,bnd_some',gAggN_if,jf,jk,ju,cellAt_zero,gOwn_r,iEq_self,br_true',h4,h5,gSl_r,h6]
    rfl
   ·rw[jc (fun x=>hk x.2.2.1)]
    have:secOk init=false:=by simpa using hk
    rw[this];rfl
  ·have hb:(secOk leaf&&decide (leaf.length<=292))=false:=by
    rw[Bool.and_eq_false_iff];by_cases h:secOk leaf=true
    ·exact .inr (ji (fun x=>hs ⟨h,x⟩))
    ·exact .inl (by simpa using h)
   rw[jc (fun x=>hs ⟨x.2.1,x.2.2.2⟩),hb];rfl
 ·rw[ji hw,jc (fun x=>hw x.1)];rfl
theorem aaA(m:Member)(z:MB m):ev E L (D+3) 113 [.agg (rM m)] []=some (.agg (rM m),[]):=by
 obtain⟨b,w,ks,own,e,i,t⟩:=m;obtain⟨z1,z2,z3,z4,z5,z6⟩:=z;show ev E L (D+3) 113 [.agg [.bool b,.int .i64 w,.sl (ks.map rS),.sl (own.map rO),.int .i64 e,.str (bs i),.str (bs t)]] []=_;rw[at4];simp only[KM];rw[JN L D ks z1];have h:=dB L (D+1) (F:=188) (sz:=2) rfl (own.map rO) (oQ own) (by rw[kf];simp only at z3;omega)
 simp only[bnd_some',gAggN_if,jf,jk,ju,cellAt_zero,gOwn_r,h,iEq_self,br_true']
 rfl
theorem H6(b1:Bool)(i2 i5:Int)(r3 r4:List Row)(i s7:S)(own:List Own)(hl:own.length<=1000000):∀(m k:Nat),own.length<m+k->k<=own.length->
 JB L (D+1) m (((own.take k).map (·.sec)).map rS) b1 i2 r3 r4 i5 (bs i) (bs s7) k (own.map rO) own.length k=some (.sl ((own.map (·.sec)++[i]).map rS),[])
 |0,k,h,hk=>by omega
 |m+1,k,h,hk=>by
  rw[RX];simp only[KM];have hn:nrows (((own.take k).map (·.sec)).map rS)=(k:Int):=by rw[nrows_map];simp;omega
  have o1:okR 1 (((own.take k).map (·.sec)).map rS)=true:=iI _;by_cases hlt:k<own.length
  ·have h1:iLt (k:Int) own.length=true:=by rw[iLt_dec,jb];omega
   have a1:bR .i64 (k:Int) 1=((k+1:Nat):Int):=aG _ (by omega)
   have r:=dY (k:Int) own (by omega) (by omega)
   rw[aK own k hlt]at r;have c0:aC (rO own[k]) 0=.int .i64 own[k].node:=rfl;have c1:aC (rO own[k]) 1=.str (bs own[k].sec):=rfl;have o2:okR 1 [[MV.str (bs own[k].sec)]]=true:=rfl;have hf:eL (k:Int) (nrows [[MV.str (bs own[k].sec)]]) 16=true:=aE _ _ _ (by show((k:Int)+1)*16<=_;omega)
   have c2:cB (((own.take k).map (·.sec)).map rS) [[MV.str (bs own[k].sec)]]=(((own.take (k+1)).map (·.sec)).map rS):=by
    have:=cJ rS ((own.take k).map (·.sec)) own[k].sec;rw[List.take_succ_eq_append_getElem hlt,List.map_append];exact this
   have hn2:nrows (((own.take (k+1)).map (·.sec)).map rS)=((k+1:Nat):Int):=by rw[nrows_map];simp;omega
   have ih:=H6 b1 i2 i5 r3 r4 i s7 own hl m (k+1) (by omega) (by omega)
   simp only[h1,br_true',r,bnd_some',c0,c1,gInt_i,gStr_s,iEq_self,hn,o1,o2,hf,cN,c2,hn2,a1,ih]
  ·have hk':k=own.length:=by omega
   have h1:iLt (k:Int) own.length=false:=by rw[iLt_dec,jh];omega
   have o2:okR 1 [[MV.str (bs i)]]=true:=rfl;have hf:eL (k:Int) (nrows [[MV.str (bs i)]]) 16=true:=aE _ _ _ (by show((k:Int)+1)*16<=_;omega)
   have c2:cB (((own.take k).map (·.sec)).map rS) [[MV.str (bs i)]]=((own.map (·.sec)++[i]).map rS):=by
    have:=cJ rS ((own.take k).map (·.sec)) i;rw[Jn (by omega)]at this⊢
    exact this
   have hcl:=dB L D (F:=48) (sz:=1) rfl ((own.map (·.sec)++[i]).map rS) (iI _) (by simp;omega)
   simp only[h1,br_false',iEq_self,br_true',hn,o1,o2,hf,cN,c2,hcl,bnd_some',gOwn_r]
theorem L7(hL:1099511627776<=L)(m:Member)(z:MB m):ev E L (D+312) 17 [.agg (rM m)] []=some (.sl ((cO m).map rS),[]):=by
 have h1:=wM L D hL m z;obtain⟨b,w,ks,own,e,i,t⟩:=m;obtain⟨z1,z2,z3,z4,z5,z6⟩:=z;simp only at z3;show ev E L (D+312) 17 [.agg [.bool b,.int .i64 w,.sl (ks.map rS),.sl (own.map rO),.int .i64 e,.str (bs i),.str (bs t)]] []=_;change ev E L (D+311) 22 [.agg [.bool b,.int .i64 w,.sl (ks.map rS),.sl (own.map rO),.int .i64 e,.str (bs i),.str (bs t)]] []=_ at h1;rw[ayA];simp only[KM];rw[h1];unfold cO;simp only[bnd_some',gBool_b];by_cases h:memOk ⟨b,w,ks,own,e,i,t⟩=true
 ·rw[h];cases b with
  |false=>rw[jc (by simp)];rfl
  |true=>
   have:=H6 L (D+310) true w e (ks.map rS) (own.map rO) i t own z3 L 0 (by omega) (by omega)
   rw[je (by simp)]
   simp only[bNot_t,bNot_f,br_true',br_false',nrows_map];exact this
 ·have hb:memOk ⟨b,w,ks,own,e,i,t⟩=false:=by simpa using h
  rw[hb,jc (by simp)];rfl
theorem ai2(hL:1099511627776<=L)(b:Box)(h1:b.key.length<=2000000)(h2:b.sec.length<=2000000):ev E L (D+307) 140 [.agg [.str (bs b.key),.str (bs b.sec)]] []=some (.bool (!(secOk b.key&&secOk b.sec)),[]):=by
 rw[atM];simp only[KM];rw[jI L D hL b.key h1];cases secOk b.key with
 |false=>rfl
 |true=>
  simp only[bnd_some',gBool_b,bNot_t,bNot_f,br_true',jI L D hL b.sec h2,jy]
  rfl
theorem GX(hL:1099511627776<=L)(l:List Box)(hl:l.length<=1000000)(hs:∀b∈l,b.key.length<=2000000/\b.sec.length<=2000000):∀(m k:Nat),l.length<m+k->k<=l.length->
 ∃i:Int,qX L (D+307) m (l.map rB) l.length k=some (.int .i64 i,[])/\(decide (0<=i)=!((l.drop k).all fun b=>secOk b.key&&secOk b.sec))
 |0,k,h,hk'=>by omega
 |m+1,k,h,hk'=>by
  rw[GW];simp only[KM];by_cases hlt:k<l.length
  ·have h1:iLt (k:Int) l.length=true:=by rw[iLt_dec,jb];omega
   have a1:bR .i64 (k:Int) 1=((k+1:Nat):Int):=aG _ (by omega)
   have e:=qa hlt;have r:=rH (k:Int) l (by omega) (by omega)
   rw[aK l k hlt]at r;have hb:=hs l[k] (jt hlt);have hc:=ai2 L D hL l[k] hb.1 hb.2;have c0:aC (rB l[k]) 0=.str (bs l[k].key):=rfl;have c1:aC (rB l[k]) 1=.str (bs l[k].sec):=rfl;rw[e,yb];obtain⟨i,ih,hi⟩:=GX hL l hl hs m (k+1) (by omega) (by omega)
   simp only[h1,br_true',r,bnd_some',c0,c1,gStr_s,hc,gBool_b,a1];cases hb:(secOk l[k].key&&secOk l[k].sec)with
   |true=>
    simp only[Bool.not_true,br_false',ih,jy];exact⟨i,rfl,hi⟩
   |false=>
    simp only[Bool.not_false,br_true',z0];exact⟨k,rfl,by rw[jb];omega⟩
  ·have h1:iLt (k:Int) l.length=false:=by rw[iLt_dec,jh];omega
   have e:l.drop k=[]:=wx (by omega)
   rw[e,h1,br_false'];exact⟨-1,rfl,rfl⟩
theorem aoH(hL:1099511627776<=L)(l:List Box)(hl:l.length<=1000000)(hs:∀b∈l,b.key.length<=2000000/\b.sec.length<=2000000):ev E L (D+310) 76 [.sl [],.sl (l.map rB)] []=some (.bool (iQ l),[]):=by
 rw[apN];simp only[KM];rw[nrows_map,iLe_dec,iLe_dec];unfold iQ;have g0:decide (nrows []<=400)=true:=rfl;rw[g0,br_true'];by_cases h:l.length<=400
 ·have g:decide ((l.length:Int)<=400)=true:=by rw[jb];omega
  obtain⟨i,h2,h3⟩:=GX L D hL l hl hs L 0 (by omega) (by omega)
  obtain⟨m,hm⟩:∃m,L=m+1:=⟨L-1,by omega⟩
  have hz:oF L (D+307) L [] (nrows []) 0=some (.int .i64 (-1),[]):=by
   conv=>lhs;arg 3;rw[hm]
   rw[sW];simp only[KM]
   rfl
  rw[show((0:Nat):Int)=0 from rfl]at h2
  rw[g,br_true',UW];simp only[KM];rw[PW,hz,jd h,jy];have gm:iLe 0 (-1)=false:=rfl;simp only[bnd_some',gInt_i,gm,gBool_b,bNot_f,br_true'];rw[PV];simp only[KM];rw[PX,nrows_map,h2];simp only[bnd_some',gInt_i,gBool_b,iLe_dec,h3,qb];cases (l.all fun b=>secOk b.key&&secOk b.sec)<;>rfl
 ·have g:decide ((l.length:Int)<=400)=false:=by rw[jh];omega
  rw[g,ji h];rfl
end
end Kw
namespace Kw
def W8(c:Commit):Bool:=
 decide (aH c.sender)&&(decide ((aN c.name).op=1)&&(decide (c.tag.length+c.name.length<=300)&&(decide (bQ c.add c.sender)&&(decide (bQ c.remove c.sender)&&(treOk c.keys&&(decide (c.boxes.length<=20)&&(iQ c.boxes&&(twoKeys c.add c.leaf c.wkey&&
  (if c.add<0 then decide (c.wkey=[]/\c.wik=[]/\c.wis=[]/\c.wsk=[]/\c.wss=[])else decide (c.wik=c.wkey)&&(decide (c.wsk=c.wkey)&&(secOk c.wis&&secOk c.wss)))))))))))
theorem abZ(c:Commit):W8 c=cP c:=by
 unfold W8 cP twoKeys;apply yp.2;by_cases h:c.add<0
 ·simp only[h,ju,jg,jb];constructor
  ·rintro⟨h1,h2,h3,h4,h5,h6,h7,h8,⟨h9,h10⟩,h11,h12,h13,h14,h15⟩;exact⟨⟨h1,h2,h3,h4,h5⟩,h6,h8,h7,h9,h10,h12,h13,h14,h15⟩
  ·rintro⟨⟨h1,h2,h3,h4,h5⟩,h6,h8,h7,h9,h10,h12,h13,h14,h15⟩;exact⟨h1,h2,h3,h4,h5,h6,h7,h8,⟨h9,h10⟩,h10,h12,h13,h14,h15⟩
 ·simp only[h,qr,jg,jb];constructor
  ·rintro⟨h1,h2,h3,h4,h5,h6,h7,h8,⟨h9,h10,h11⟩,h12,h13,h14,h15⟩;exact⟨⟨h1,h2,h3,h4,h5⟩,h6,h8,h7,h9,h10,⟨h11,h12,h13⟩,h14,h15⟩
  ·rintro⟨⟨h1,h2,h3,h4,h5⟩,h6,h8,h7,h9,h10,⟨h11,h12,h13⟩,h14,h15⟩;exact⟨h1,h2,h3,h4,h5,h6,h7,h8,⟨h9,h10,h11⟩,h12,h13,h14,h15⟩
end Kw
namespace Kw
def GN(m:Member)(fresh:S)(add remove:Int)(leaf key:S):Bool:=
 memOk m&&(m.inn&&(decide (m.epoch<12)&&(decide ((aN fresh).op=1)&&(decide (bQ add m.who)&&(decide (bQ remove m.who)&&(changes m.keys add remove&&(twoKeys add leaf key&&(decide (m.tag.length+fresh.length<=300)&&decide (m.init.length<=280)))))))))
theorem RC(m:Member)(fresh:S)(add remove:Int)(leaf key:S):GN m fresh add remove leaf key=cH m fresh add remove leaf key:=by
 unfold GN cH may;apply yp.2;simp only[jg,jb];constructor
 ·rintro⟨h1,h2,h3,h4,h5,h6,h7,h8,h9,h10⟩;exact⟨h1,h4,⟨h2,⟨h3,h5,h6⟩,h7,h8⟩,h9,h10⟩
 ·rintro⟨h1,h4,⟨h2,⟨h3,h5,h6⟩,h7,h8⟩,h9,h10⟩;exact⟨h1,h2,h3,h4,h5,h6,h7,h8,h9,h10⟩
def M4:List Int->Int->Nat->Int
 |[],_,_=> -1
 |a::r,n,k=>if n=a then k else M4 r n (k+1)
theorem T9:∀(l:List Own) (n:Int) (k:Nat),M4 (l.map (·.node)) n k=jZ l n k
 |[],_,_=>rfl
 |o::r,n,k=>by
  show(if n=o.node then(k:Int)else M4 (r.map (·.node)) n (k+1))=if o.node=n then(k:Int)else jZ r n (k+1)
  by_cases h:o.node=n
  ·rw[je h,je h.symm]
  ·rw[jc h,jc (Ne.symm h),T9 r n (k+1)]
theorem cT:∀(p:List Int) (s:S),(pathGo p s).map (·.node)=p
 |[],_=>rfl
 |n::p,s=>by
  show n::(pathGo p (makNext s)).map (·.node)=n::p;rw[cT]
theorem I5{a b:Int}(ha:aH a)(hb:aH b):treMeet (treLeaf a) (treLeaf b)∈pathOf a/\treMeet (treLeaf a) (treLeaf b)=treMeet (treLeaf b) (treLeaf a):=by
 obtain⟨a0,a1⟩:=ha;obtain⟨b0,b1⟩:=hb;have hall:∀i j:Fin 8,treMeet (treLeaf (i.val:Int)) (treLeaf (j.val:Int))∈pathOf (i.val:Int)/\treMeet (treLeaf (i.val:Int)) (treLeaf (j.val:Int))=treMeet (treLeaf (j.val:Int)) (treLeaf (i.val:Int)):=by decide+kernel
 have:=hall ⟨a.toNat,by omega⟩ ⟨b.toNat,by omega⟩
 simpa only[yg a0,yg b0]using this
theorem agG{w a:Int}(hw:aH w)(ha:aH a)(s:S):∃j:Nat,j< (pathGo (pathOf w) s).length/\M4 (pathOf w) (treMeet (treLeaf w) (treLeaf a)) 0=j/\(ix (pathGo (pathOf w) s) (j:Int)).sec=dJ (pathGo (pathOf w) s) (treMeet (treLeaf a) (treLeaf w)):=by
 obtain⟨h1,h2⟩:=I5 hw ha;rw[<-h2];have e:=T9 (pathGo (pathOf w) s) (treMeet (treLeaf w) (treLeaf a)) 0;rw[cT]at e;rcases ownIx_some (pathGo (pathOf w) s) (treMeet (treLeaf w) (treLeaf a)) 0 with⟨j,hj,he,_,hf,_⟩|⟨_,_,hn⟩
 ·refine⟨j,hj,by rw[e,he];simp,?_⟩
  unfold dJ;rw[hf,jj hj,aK _ j hj]
 ·rw[cT]at hn;exact absurd h1 hn
end Kw
namespace Kw
open Go Go.Proofs
structure CBd(c:Commit):Prop where
 tag:c.tag.length<=500000
 name:c.name.length<=500000
 leaf:c.leaf.length<=500000
 keys:c.keys.length<=1000000
 key:∀s∈c.keys,s.length<=500000
 boxes:c.boxes.length<=1000000
 box:∀b∈c.boxes,b.key.length<=500000/\b.sec.length<=500000
 wkey:c.wkey.length<=500000
 wik:c.wik.length<=500000
 wis:c.wis.length<=500000
 wsk:c.wsk.length<=500000
 wss:c.wss.length<=500000
theorem qB{b:Bool}{X:Option (MV×List Obj)}{r:Bool}(h:b=true->X=some (.bool r,[])):br (bNot (bNot b)) X (some (.bool false,[]))=some (.bool (b&&r),[]):=by
 cases b with
 |false=>rfl
 |true=>rw[h rfl];rfl
theorem L8{A:Type}{x y:A}(k:Nat)(h:k<8):(List.replicate 8 y).set k x=(List.range 8).map fun(j:Nat)=>if(j:Int)=(k:Int)then x else y:=by
 rcases(by omega:k=0\/k=1\/k=2\/k=3\/k=4\/k=5\/k=6\/k=7)with rfl|rfl|rfl|rfl|rfl|rfl|rfl|rfl<;>rfl
theorem H7{w n:Int}(h:aH w)(h1:1<=n)(h2:n<=9):(aO w n).length=3:=by
 unfold aO;rw[je ⟨h,h1,by omega⟩,DC (by omega) (by omega)]
 unfold IQ;rw[je (by omega)]
 rfl
section
variable (L D:Nat)
theorem R9(hL:1099511627776<=L)(c:Commit)(z:CBd c):ev E L (D+311) 32 [.agg (rC c)] []=some (.bool (cP c),[]):=by
 rw[<-abZ];obtain⟨c0,c1,c2,c3,c4,c5,c6,c7,c8,c9,c10,c11,c12⟩:=c;obtain⟨z1,z2,z3,z4,z5,z6,z7,z8,z9,z10,z11,z12⟩:=z;simp only at z1 z2 z3 z4 z5 z6 z7 z8 z9 z10 z11 z12;show ev E L (D+311) 32 [.agg [.int .i64 c0,.str (bs c1),.str (bs c2),.int .i64 c3,.int .i64 c4,.str (bs c5),.sl (c6.map rS),.sl (c7.map rB),.str (bs c8),.str (bs c9),.str (bs c10),.str (bs c11),.str (bs c12)]] []=_;rw[ayK];simp only[KM];rw[qY,kM];unfold W8;simp only[bnd_some',gBool_b];refine qB fun hw=>?_
 have hw':aH c0:=qu hw;rw[wJ L (D+5) hL c2 (by omega)]
 simp only[bnd_some',gAggN_if,jf,jk,ju,cellAt_zero,cellAt_succ,gInt_i,gStr_s,iEq_dec];refine qB fun _=>?_
 have a1:bR .i64 (c1.length:Int) (c2.length:Int)=((c1.length+c2.length:Nat):Int):=by rw[bA (by omega) (by omega)];omega
 have g300:bNot (iLt 300 (bR .i64 (sLen (bs c1)) (sLen (bs c2))))=decide (c1.length+c2.length<=300):=by
  rw[sLen_bs,sLen_bs,a1,iLt_dec];by_cases h:c1.length+c2.length<=300
  ·rw[jd h,ji (by omega:¬(300:Int)< ((c1.length+c2.length:Nat):Int))];rfl
  ·rw[ji h,jd (by omega:(300:Int)< ((c1.length+c2.length:Nat):Int))];rfl
 have g20:bNot (iLt 20 (nrows (c7.map rB)))=decide (c7.length<=20):=by
  rw[nrows_map,iLt_dec];by_cases h:c7.length<=20
  ·rw[jd h,ji (by omega:¬(20:Int)< (c7.length:Int))];rfl
  ·rw[ji h,jd (by omega:(20:Int)< (c7.length:Int))];rfl
 rw[g300];have guard1:∀{b:Bool} {X:Option (MV×List Obj)} {r:Bool},(b=true->X=some (.bool r,[]))->br b X (some (.bool false,[]))=some (.bool (b&&r),[]):=fun{b} {X} {r} h=>by
  cases b with
  |false=>rfl
  |true=>rw[h rfl];rfl
 refine guard1 fun _=>?_
 rw[BQ L (D+307) c3 c0 hw'];simp only[bnd_some',gBool_b];refine qB fun _=>?_
 rw[BQ L (D+307) c4 c0 hw'];simp only[bnd_some',gBool_b];refine qB fun _=>?_
 rw[aaQ L D hL c6 z4 (fun s h=>kb (z5 s h) (by omega))]
 simp only[bnd_some',gBool_b];refine qB fun _=>?_
 rw[g20];refine guard1 fun _=>?_
 rw[aoH L D hL c7 z6 (fun b h=>⟨kb (z7 b h).1 (by omega),kb (z7 b h).2 (by omega)⟩)]
 simp only[bnd_some',gBool_b];refine qB fun _=>?_
 rw[P5 L (D+3) hL c3 c5 c8 (by omega) (by omega)]
 simp only[bnd_some',gBool_b];cases twoKeys c3 c5 c8 with
 |false=>rfl
 |true=>
  rw[bNot_t,br_false',jy,iLt_dec];by_cases h:c3<0
  ·rw[jd h,br_true',je h];simp only[sEq_bs];by_cases h1:c8=[]<;>by_cases h2:c9=[]<;>by_cases h3:c10=[]<;>by_cases h4:c11=[]<;>by_cases h5:c12=[]<;>simp[h1,h2,h3,h4,h5,d5]
  ·rw[ji h,br_false',jc h,sEq_bs];refine guard1 fun _=>?_
   rw[sEq_bs];refine guard1 fun _=>?_
   rw[jI L (D+4) hL c10 (by omega)]
   simp only[bnd_some',gBool_b];refine guard1 fun _=>?_
   rw[jI L (D+4) hL c12 (by omega)]
   rfl
theorem YB(s:S):frT s=nT s:=by
 unfold frT nT
 congr 1
 induction s with
 |nil=>rfl
 |cons c r ih=>
  rw[low,ih,yb];by_cases h1:97<=c.toNat<;>by_cases h2:c.toNat<=122<;>simp[h1,h2]
theorem SA(hL:1099511627776<=L)(f:Frame)(hk:f.key.length<=500000)(ht:f.text.length<=500000):ev E L (D+311) 43 [.agg (rF f)] []=some (.bool (fraOk f),[]):=by
 obtain⟨src,key,n,text⟩:=f;simp only at hk ht;show ev E L (D+311) 43 [.agg [.int .i64 src,.str (bs key),.int .i64 n,.str (bs text)]] []=_;rw[ayR];simp only[KM];rw[wJ L (D+5) hL key (by omega)]
 have guard1:∀{b:Bool} {X:Option (MV×List Obj)} {r:Bool},(b=true->X=some (.bool r,[]))->br b X (some (.bool false,[]))=some (.bool (b&&r),[]):=fun{b} {X} {r} h=>by
  cases b with
  |false=>rfl
  |true=>rw[h rfl];rfl
 have e:fraOk ⟨src,key,n,text⟩=(decide (aH src)&&(decide ((aN key).op=5)&&(decide ((aN key).who=src)&&((decide (1<=n)&&decide (n<=999))&&nT text)))):=by
  unfold fraOk;apply yp.2;simp only[jg,jb];constructor
  ·rintro⟨⟨h1,h2,h3,h4,h5⟩,h6⟩;exact⟨h1,h2,h3,⟨h4,h5⟩,h6⟩
  ·rintro⟨h1,h2,h3,⟨h4,h5⟩,h6⟩;exact⟨⟨h1,h2,h3,h4,h5⟩,h6⟩
 rw[e];simp only[bnd_some',gAggN_if,jf,jk,ju,cellAt_zero,cellAt_succ,gInt_i,gStr_s,qY,kM,gBool_b,iEq_dec];refine guard1 fun _=>?_
 refine guard1 fun _=>?_
 refine guard1 fun _=>?_
 rw[kL];simp only[bnd_some',gBool_b];refine guard1 fun _=>?_
 rw[azY L (D+309) hL text (by omega)]
 simp only[bnd_some',gBool_b,YB]
theorem ai3(hL:1099511627776<=L)(w:Int):ev E L (D+314) 21 [.int .i64 w] []=
 some (.agg [.sl ((bN w).seats.map rM),.sl ((bN w).waits.map rWt),.sl ((bN w).log.map rC),.sl ((bN w).fresh.map rI),.sl ((bN w).spy.map rS),.sl ((bN w).stolen.map rSt),.sl ((bN w).frames.map rF),.sl ((bN w).said.map rI),.sl ((bN w).wins.map rWs),.sl ((bN w).told.map rT)],[]):=by
 rw[ayC];simp only[KM];rw[qY,kM];by_cases hw:aH w
 ·have h1:=MK L (D+310) w 1;have h2:=MK L (D+310) w 2;have l1:=H7 hw (n:=1) (by omega) (by omega)
  have l2:=H7 hw (n:=2) (by omega) (by omega)
  have h3:=YA L D hL w (aO w 1) (aO w 2) (by omega) (by omega)
  obtain⟨w0,w1⟩:=id hw;obtain⟨k,rfl⟩:=kv w0;have b1:d5 (iEq 8 8) (d5 (iLe 0 8) (eL 8 0 104))=true:=by rw[aE _ _ _ (by omega)];rfl
  have b2:d5 (iEq 8 8) (d5 (iLe 0 8) (eL 8 0 8))=true:=by rw[aE _ _ _ (by omega)];rfl
  have b3:d5 (iEq 8 8) (d5 (iLe 0 8) (eL 8 0 24))=true:=by rw[aE _ _ _ (by omega)];rfl
  have e1:jX 8 [MV.bool false,MV.int IntKind.i64 0,MV.sl [],MV.sl [],MV.int IntKind.i64 0,MV.str (bs []),MV.str (bs [])]=(List.replicate 8 bC).map rM:=rfl;have e2:jX 8 [MV.int IntKind.i64 0]=(List.replicate 8 (0:Int)).map rI:=rfl;have e3:jX 8 [MV.sl []]=(List.replicate 8 ([]:List Win)).map rWs:=rfl;have r1:=bM (k:Int) (List.replicate 8 bC) (by omega) (by simp;omega)
  have r2:=bG (List.replicate 8 bC) (k:Int) (by omega) (by simp;omega)
  have r3:=aY (k:Int) (List.replicate 8 (0:Int)) (by omega) (by simp;omega)
  have r4:=bJ (List.replicate 8 (0:Int)) (k:Int) (by omega) (by simp;omega)
  have m1:∀m:Member,iLe 7 (eT (rM m))=true:=fun _=>rfl
  have m2:∀n:Int,iLe 1 (eT (rI n))=true:=fun _=>rfl
  generalize hm:dP (k:Int) (aO (k:Int) 1) (aO (k:Int) 2)=m at h3;have s1:setR ((List.replicate 8 bC).map rM) (k:Int) (rM m)=((List.replicate 8 bC).set k m).map rM:=by rw[sB,ki]
  have s2:setR ((List.replicate 8 (0:Int)).map rI) (k:Int) (rI 2)=((List.replicate 8 (0:Int)).set k 2).map rI:=by rw[kX,ki]
  have sr1:∀q:Member,setRow (rM q) 0 [MV.bool m.inn,MV.int IntKind.i64 m.who,MV.sl (m.keys.map rS),MV.sl (m.own.map rO),MV.int IntKind.i64 m.epoch,MV.str (bs m.init),MV.str (bs m.tag)]=rM m:=fun _=>rfl
  have sr2:∀q:Int,setRow (rI q) 0 [MV.int IntKind.i64 2]=rI 2:=fun _=>rfl
  have n1:iEq (nrows ((List.replicate 8 bC).map rM)) (nrows (((List.replicate 8 bC).set k m).map rM))=true:=by rw[nrows_map,nrows_map,ku,iEq_self]
  have n2:iEq (nrows ((List.replicate 8 (0:Int)).map rI)) (nrows (((List.replicate 8 (0:Int)).set k 2).map rI))=true:=by rw[nrows_map,nrows_map,ku,iEq_self]
  rw[jd hw];unfold bN;rw[je hw,hm];change ev E L (D+313) 63 _ []=some (.agg [.bool m.inn,.int .i64 m.who,.sl (m.keys.map rS),.sl (m.own.map rO),.int .i64 m.epoch,.str (bs m.init),.str (bs m.tag)],[])at h3;simp only[bnd_some',gBool_b,bNot_t,br_false',br_true',h1,h2,gStr_s,h3,gAggN_if,jf,jk,ju,cellAt_zero,cellAt_succ,gInt_i,gSl_r,e1,e2,e3,iEq_self,r1,r2,r3,r4,m1,m2,sr1,sr2,s1,s2,n1,n2];rw[L8 k (by omega),L8 k (by omega)]
  rfl
 ·rw[ji hw];unfold bN;rw[jc hw];rfl
end
end Kw
namespace Kw
open Go Go.Proofs
theorem SB(ks:List S)(add:Int)(sec:S)(n:Int)(l:List Int):bL ks add sec (n::l)=(if add<0\/n≠treLeaf add then[⟨ix ks n,sec⟩]else[])++bL ks add sec l:=by
 unfold bL;rw[yx];by_cases h:add<0\/n≠treLeaf add
 ·rw[je (jd h),je h];rfl
 ·rw[jc (by simpa using h),jc h];rfl
section
variable (L D:Nat)
theorem L9(base:List S)(hb:base.length=15)(own:List Own)(add:Int)(ha: -1<=add/\add<=7)(k:Nat)(hk:k+1<own.length)(hk2:own.length<=100)(n10:Nat)(r0:List Row)(r1:List Row)(r2:List Row)(r3:List Row)(r5:List Row)(r6:List Row)(b9:Bool)(i10:Int)(r11:List Row)(r12:List Row)(i13:Int)(s14:ByteArray)(s15:ByteArray)(b16:Bool)(i17:Int)(i18:Int)(i19:Int)(i20:Int)(s21:ByteArray)(s22:ByteArray)(i23:Int)(s24:ByteArray)(s25:ByteArray)(i26:Int)(i27:Int)(s28:ByteArray)(i29:Int)(i30:Int)(s31:ByteArray)(s32:ByteArray)(s33:ByteArray)(s34:ByteArray)(s35:ByteArray)(b37:Bool)(i38:Int)(i39:Int)(i41:Int)(s42:ByteArray)(s43:ByteArray)(i44:Int)(s45:ByteArray)(s46:ByteArray)(i47:Int)(i48:Int)(s49:ByteArray)(i50:Int)(s52:ByteArray)(s53:ByteArray)(s54:ByteArray)(s55:ByteArray)(s56:ByteArray)(s58:ByteArray)(r59:List Row)(r61:List Row)(i62:Int)(i63:Int):
 ∀(l pre:List Int) (m:Nat) (bx:List Box),l.length<m->bx.length+l.length<=1000->(pre++l).length<=1000->(∀n∈l,0<=n/\n<=14)->
 pE L (D+1) m n10 r0 r1 r2 r3 (base.map rS) r5 r6 (bx.map rB) ((pre++l).map rI) b9 i10 r11 r12 i13 s14 s15 b16 i17 i18 i19 i20 s21 s22 i23 s24 s25 i26 i27 s28 i29 i30 s31 s32 s33 s34 s35 base.length b37 i38 i39 (own.map rO) i41 s42 s43 i44 s45 s46 i47 i48 s49 i50 bx.length s52 s53 s54 s55 s56 add s58 r59 k r61 i62 i63 ((pre++l).length:Nat) ((pre++l).length:Nat) pre.length=
 nN L (D+1) n10 r0 r1 r2 r3 (base.map rS) r5 r6 ((bx++bL base add (ix own ((k+1:Nat):Int)).sec l).map rB) b9 i10 r11 r12 i13 s14 s15 b16 i17 i18 i19 i20 s21 s22 i23 s24 s25 i26 i27 s28 i29 i30 s31 s32 s33 s34 s35 base.length b37 i38 i39 (own.map rO) i41 s42 s43 i44 s45 s46 i47 i48 s49 i50 ((bx++bL base add (ix own ((k+1:Nat):Int)).sec l).length:Nat) s52 s53 s54 s55 s56 add s58 r59 r61 i62 (bR .i64 i63 1)
 |_,_,0,_,h,_,_,_=>by omega
 |[],pre,m+1,bx,h,hx,hp,hr=>by
  rw[y8];simp only[KM];have g:iLt (pre.length:Int) ((pre++([]:List Int)).length:Nat)=false:=by rw[iLt_dec,jh];simp
  have e:bL base add (ix own ((k+1:Nat):Int)).sec []=[]:=rfl;rw[g,br_false',e,ka]
 |n::l,pre,m+1,bx,h,hx,hp,hr=>by
  rw[y8];simp only[KM];obtain⟨n0,n1⟩:=hr n (by simp)
  simp only[jf]at h hx;have g:iLt (pre.length:Int) ((pre++n::l).length:Nat)=true:=by rw[iLt_dec,jb];simp only[jl,jf];omega
  have hix:ix (pre++n::l) (pre.length:Int)=n:=by rw[aK _ _ (by simp)];simp
  have u1:=aY (pre.length:Int) (pre++n::l) (by omega) (by simp only[jl,jf];omega)
  have u2:=bJ (pre++n::l) (pre.length:Int) (by omega) (by simp only[jl,jf];omega)
  rw[hix]at u1 u2;have q8:iEq ((pre++n::l).length:Nat) (nrows ((pre++n::l).map rI))=true:=by rw[nrows_map,iEq_self]
  have q4:iEq (base.length:Int) (nrows (base.map rS))=true:=by rw[nrows_map,iEq_self]
  have u3:=aW n base (by omega) (by omega)
  have u4:=kH base n (by omega) (by omega)
  have ak:bR .i64 (k:Int) 1=((k+1:Nat):Int):=aG _ (by omega)
  have a1:bR .i64 (pre.length:Int) 1=((pre++[n]).length:Nat):=by rw[aG _ (by simp at hp;omega)];simp
  have u5:=dY ((k+1:Nat):Int) own (by omega) (by omega)
  have c1:∀q:Own,aC (rO q) 1=.str (bs q.sec):=fun _=>rfl
  have c0:∀q:S,aC (rS q) 0=.str (bs q):=fun _=>rfl
  have ci:aC (rI n) 0=.int .i64 n:=rfl;have e1:(pre++[n])++l=pre++n::l:=by simp
  have ih:=fun bx' (hb':bx'.length+l.length<=1000)=>L9 base hb own add ha k hk hk2 n10 r0 r1 r2 r3 r5 r6 b9 i10 r11 r12 i13 s14 s15 b16 i17 i18 i19 i20 s21 s22 i23 s24 s25 i26 i27 s28 i29 i30 s31 s32 s33 s34 s35 b37 i38 i39 i41 s42 s43 i44 s45 s46 i47 i48 s49 i50 s52 s53 s54 s55 s56 s58 r59 r61 i62 i63 l (pre++[n]) m bx' (by omega) hb' (by rw[e1];exact hp) (fun q hq=>hr q (by simp[hq]))
  rw[e1]at ih;have hq:∀(s1 s2:S),okR 2 (bx.map rB)=true/\okR 2 [[MV.str (bs s1),MV.str (bs s2)]]=true/\eL (nrows (bx.map rB)) (nrows [[MV.str (bs s1),MV.str (bs s2)]]) 32=true/\cB (bx.map rB) [[MV.str (bs s1),MV.str (bs s2)]]=(bx++[(⟨s1,s2⟩:Box)]).map rB/\nrows ((bx++[(⟨s1,s2⟩:Box)]).map rB)=((bx++[(⟨s1,s2⟩:Box)]).length:Nat):=fun s1 s2=>
   ⟨HD bx,rfl,by rw[nrows_map];exact aE _ _ _ (by show((bx.length:Int)+1)*32<=_;omega),cJ rB bx (⟨s1,s2⟩:Box),nrows_map ..⟩
  obtain⟨h1,h2,h3,h4,h5⟩:=hq (ix base n) (ix own ((k+1:Nat):Int)).sec;have q7:iEq (bx.length:Int) (nrows (bx.map rB))=true:=by rw[nrows_map,iEq_self]
  rw[SB];by_cases hadd:add<0
  ·have ga:iLt add 0=true:=by rw[iLt_dec];exact jd hadd
   rw[je (.inl hadd)];simp only[g,br_true',q8,u1,u2,bnd_some',ci,gInt_i,ga,bNot_t,br_false',q4,u3,u4,c0,c1,gStr_s,ak,u5,iEq_self,q7,h1,h2,h3,cN,h4,h5,a1];rw[ih _ (by simp;omega),qm]
  ·have ga:iLt add 0=false:=by rw[iLt_dec];exact ji hadd
   have hw:aH add:=⟨by omega,ha.2⟩
   have hlf:=rL L D add hw;by_cases hn:n=treLeaf add
   ·have gn:iEq n (treLeaf add)=true:=by rw[iEq_dec];exact jd hn
    rw[jc (fun x=>x.elim hadd fun y=>y hn)]
    simp only[g,br_true',q8,u1,u2,bnd_some',ci,gInt_i,ga,bNot_f,hlf,gn,bNot_t,br_false',a1];rw[ih _ (by omega),qg]
   ·have gn:iEq n (treLeaf add)=false:=by rw[iEq_dec];exact ji hn
    rw[je (.inr hn)];simp only[g,br_true',q8,u1,u2,bnd_some',ci,gInt_i,ga,bNot_f,hlf,gn,q4,u3,u4,c0,c1,gStr_s,ak,u5,iEq_self,q7,h1,h2,h3,cN,h4,h5,a1];rw[ih _ (by simp;omega),qm]
end
end Kw
namespace Kw
open Go Go.Proofs
theorem azZ{w:Int}(h:aH w):(pathOf w).length=4/\(∀j:Nat,j<3->1<=ix (pathOf w) (j:Int)/\ix (pathOf w) (j:Int)<=14):=by
 obtain⟨h0,h1⟩:=h;have hall:∀k:Fin 8,(pathOf (k.val:Int)).length=4/\(∀j:Fin 3,1<=ix (pathOf (k.val:Int)) (j.val:Int)/\ix (pathOf (k.val:Int)) (j.val:Int)<=14):=by decide+kernel
 have:=hall ⟨w.toNat,by omega⟩
 simp only[yg h0]at this;exact⟨this.1,fun j hj=>this.2 ⟨j,hj⟩⟩
theorem ai4{n:Int}(h:1<=n/\n<=14):0<=bH n/\bH n<=14:=by
 unfold bH;rw[je h];split<;>omega
section
variable (L D:Nat)
theorem DB(hL:1099511627776<=L)(base:List S)(hb:base.length=15)(own:List Own)(hown:own.length=4)(path:List Int)(hpl:path.length=4)(hpr:∀j:Nat,j<3->1<=ix path (j:Int)/\ix path (j:Int)<=14)(add:Int)(ha: -1<=add/\add<=7)(m j:Nat)(hj:j<3)(bx:List Box)(hx:bx.length<=500)(r0:List Row)(r1:List Row)(r2:List Row)(r3:List Row)(r5:List Row)(r6:List Row)(b8:Bool)(i9:Int)(r10:List Row)(r11:List Row)(i12:Int)(s13:ByteArray)(s14:ByteArray)(b15:Bool)(i16:Int)(i17:Int)(i18:Int)(i19:Int)(s20:ByteArray)(s21:ByteArray)(i22:Int)(s23:ByteArray)(s24:ByteArray)(i25:Int)(i26:Int)(s27:ByteArray)(i28:Int)(i29:Int)(s30:ByteArray)(s31:ByteArray)(s32:ByteArray)(s33:ByteArray)(s34:ByteArray)(b36:Bool)(i37:Int)(i38:Int)(i40:Int)(s41:ByteArray)(s42:ByteArray)(i43:Int)(s44:ByteArray)(s45:ByteArray)(i46:Int)(i47:Int)(s48:ByteArray)(i49:Int)(s51:ByteArray)(s52:ByteArray)(s53:ByteArray)(s54:ByteArray)(s55:ByteArray)(s57:ByteArray)(r58:List Row):
 nN L (D+6) (m+1) r0 r1 r2 r3 (base.map rS) r5 r6 (bx.map rB) b8 i9 r10 r11 i12 s13 s14 b15 i16 i17 i18 i19 s20 s21 i22 s23 s24 i25 i26 s27 i28 i29 s30 s31 s32 s33 s34 base.length b36 i37 i38 (own.map rO) i40 s41 s42 i43 s44 s45 i46 i47 s48 i49 bx.length s51 s52 s53 s54 s55 add s57 r58 ((path.take 3).map rI) ((3:Nat):Int) j=
 nN L (D+6) m r0 r1 r2 r3 (base.map rS) r5 r6 ((bx++bL base add (ix own ((j+1:Nat):Int)).sec (lW base (bH (ix path (j:Int))))).map rB) b8 i9 r10 r11 i12 s13 s14 b15 i16 i17 i18 i19 s20 s21 i22 s23 s24 i25 i26 s27 i28 i29 s30 s31 s32 s33 s34 base.length b36 i37 i38 (own.map rO) i40 s41 s42 i43 s44 s45 i46 i47 s48 i49 ((bx++bL base add (ix own ((j+1:Nat):Int)).sec (lW base (bH (ix path (j:Int))))).length:Nat) s51 s52 s53 s54 s55 add s57 r58 ((path.take 3).map rI) ((3:Nat):Int) ((j+1:Nat):Int)/\(bx++bL base add (ix own ((j+1:Nat):Int)).sec (lW base (bH (ix path (j:Int))))).length<=bx.length+32:=by
 have g:iLt (j:Int) ((3:Nat):Int)=true:=by rw[iLt_dec,jb];omega
 have u1:=aY (j:Int) (path.take 3) (by omega) (by simp;omega)
 have hix:ix (path.take 3) (j:Int)=ix path (j:Int):=by
  rw[aK _ j (by simp;omega),aK _ j (by omega),List.getElem_take]
 rw[hix]at u1;obtain⟨p0,p1⟩:=hpr j hj;obtain⟨q0,q1⟩:=ai4 ⟨p0,p1⟩;have u2:=adX L (D+3) (ix path (j:Int));obtain⟨c,hc1,hc2,hc3⟩:=SJ L (D+1) base hb 5 (bH (ix path (j:Int))).toNat (by omega) (by
  have:(bH (ix path (j:Int))).toNat+1≥1:=by omega
  have h2:1*2^5<=((bH (ix path (j:Int))).toNat+1)*2^5:=qn _ this;omega)
 have ec:c=lW base (bH (ix path (j:Int))):=hc3;rw[yg q0]at hc2;rw[<-ec];have hcr:∀n∈c,0<=n/\n<=14:=by
  have:∀(f n:Nat),n<=14->∀x∈coverN f base n,0<=x/\x<=14:=by
   intro f;induction f with
   |zero=>intro n _ x hx;simp[coverN]at hx
   |succ f ih=>
    intro n hn x hx;change x∈(if ix base (n:Int)≠[]then[(n:Int)]else if 7<=n then[]else coverN f base (2*n+1)++coverN f base (2*n+2))at hx
    split at hx
    ·simp at hx;omega
    ·split at hx
     ·simp at hx
     ·rcases jv.1 hx with e|e
      ·exact ih _ (by omega) x e
      ·exact ih _ (by omega) x e
  rw[hc3];exact this 5 _ (by omega)
 have q4:iEq (base.length:Int) (nrows (base.map rS))=true:=by rw[nrows_map,iEq_self]
 have ci:∀n:Int,aC (rI n) 0=.int .i64 n:=fun _=>rfl
 have hlb:(bL base add (ix own ((j+1:Nat):Int)).sec c).length<=c.length:=by
  unfold bL;rw[kf];exact wq _ _
 have h13:=L9 L (D+5) base hb own add ha j (by omega) (by omega) m r0 r1 r2 r3 r5 r6 b8 i9 r10 r11 i12 s13 s14 b15 i16 i17 i18 i19 s20 s21 i22 s23 s24 i25 i26 s27 i28 i29 s30 s31 s32 s33 s34 b36 i37 i38 i40 s41 s42 i43 s44 s45 i46 i47 s48 i49 s51 s52 s53 s54 s55 s57 r58 ((path.take 3).map rI) ((3:Nat):Int) j c [] L bx (by omega) (by omega) (by simp;omega) hcr
 have a1:bR .i64 (j:Int) 1=((j+1:Nat):Int):=aG _ (by omega)
 simp only[qg,jk,a1]at h13;refine⟨?_,by rw[jl];omega⟩
 rw[y7];simp only[KM];simp only[g,br_true',u1,bnd_some',ci,gInt_i,u2,hc2,gOwn_r,iEq_self,nrows_map];exact h13
end
end Kw
namespace Kw
open Go Go.Proofs
theorem lP{b rest:Bool}{A R:MV×List Obj}{X:Option (MV×List Obj)}(h:b=true->X=some (if rest=true then A else R)):br (bNot (bNot b)) X (some R)=some (if(b&&rest)=true then A else R):=by
 cases b with
 |false=>rfl
 |true=>rw[h rfl];rfl
theorem SC{b rest:Bool}{A R:MV×List Obj}{X:Option (MV×List Obj)}(h:b=true->X=some (if rest=true then A else R)):br b X (some R)=some (if(b&&rest)=true then A else R):=by
 cases b with
 |false=>rfl
 |true=>rw[h rfl];rfl
section
variable (L D:Nat)
theorem aaB(l:List Int)(hl:l.length<=1000)(n:Int):∀(m k:Nat),l.length<m+k->k<=l.length->
 E7 L D m (l.map rI) n l.length k=some (.int .i64 (M4 (l.drop k) n k),[])
 |0,k,h,h2=>by omega
 |m+1,k,h,h2=>by
  rw[NE];simp only[KM];by_cases hk:k<l.length
  ·have g:iLt (k:Int) (l.length:Int)=true:=by rw[iLt_dec,jb];omega
   have u1:=aY (k:Int) l (by omega) (by omega)
   have ci:∀n:Int,aC (rI n) 0=.int .i64 n:=fun _=>rfl
   have a1:bR .i64 (k:Int) 1=((k+1:Nat):Int):=aG _ (by omega)
   rw[qa hk];unfold M4;rw[aK _ k hk]at u1;simp only[g,br_true',u1,bnd_some',ci,gInt_i,iEq_dec];by_cases he:n=l[k]
   ·rw[jd he,br_true',je he]
   ·rw[ji he,br_false',jc he,a1,aaB l hl n m (k+1) (by omega) (by omega)]
  ·have g:iLt (k:Int) (l.length:Int)=false:=by rw[iLt_dec,jh];omega
   rw[g,br_false',js (by omega)];rfl
theorem ai5(hL:1099511627776<=L)(l:List Int)(hl:l.length<=1000)(n:Int):ev E L (D+1) 242 [.sl (l.map rI),.int .i64 n] []=some (.int .i64 (M4 l n 0),[]):=by
 rw[au8,nrows_map];exact aaB L D l hl n L 0 (by omega) (by omega)
theorem adN(hL:1099511627776<=L)(base:List S)(hb:base.length=15)(oa ob oc od:Own)(hpr:∀j:Nat,j<3->1<=ix ([oa.node,ob.node,oc.node,od.node]:List Int) (j:Int)/\ix ([oa.node,ob.node,oc.node,od.node]:List Int) (j:Int)<=14)(add:Int)(ha: -1<=add/\add<=7)(m:Nat)(r0:List Row)(r1:List Row)(r2:List Row)(r3:List Row)(r5:List Row)(r6:List Row)(b8:Bool)(i9:Int)(r10:List Row)(r11:List Row)(i12:Int)(s13:ByteArray)(s14:ByteArray)(b15:Bool)(i16:Int)(i17:Int)(i18:Int)(i19:Int)(s20:ByteArray)(s21:ByteArray)(i22:Int)(s23:ByteArray)(s24:ByteArray)(i25:Int)(i26:Int)(s27:ByteArray)(i28:Int)(i29:Int)(s30:ByteArray)(s31:ByteArray)(s32:ByteArray)(s33:ByteArray)(s34:ByteArray)(b36:Bool)(i37:Int)(i38:Int)(i40:Int)(s41:ByteArray)(s42:ByteArray)(i43:Int)(s44:ByteArray)(s45:ByteArray)(i46:Int)(i47:Int)(s48:ByteArray)(i49:Int)(s51:ByteArray)(s52:ByteArray)(s53:ByteArray)(s54:ByteArray)(s55:ByteArray)(s57:ByteArray)(hw:aH i9)(h38:i38=nrows r5)(h49:i49=nrows r6)(sec:S)(hsec:0<=add->∃j:Nat,j<4/\M4 ([oa.node,ob.node,oc.node,od.node]:List Int) (treMeet (treLeaf i9) (treLeaf add)) 0=j/\(ix ([oa,ob,oc,od]:List Own) (j:Int)).sec=sec):
 nN L (D+6) (m+1+1+1+1) r0 r1 r2 r3 (base.map rS) r5 r6 [] b8 i9 r10 r11 i12 s13 s14 b15 i16 i17 i18 i19 s20 s21 i22 s23 s24 i25 i26 s27 i28 i29 s30 s31 s32 s33 s34 base.length b36 i37 i38 (([oa,ob,oc,od]:List Own).map rO) i40 s41 s42 i43 s44 s45 i46 i47 s48 i49 0 s51 s52 s53 s54 s55 add s57 (([oa.node,ob.node,oc.node,od.node]:List Int).map rI) ((([oa.node,ob.node,oc.node,od.node]:List Int).take 3).map rI) ((3:Nat):Int) 0=
 some (.tup [.agg [.bool b36,.int .i64 i37,.sl r5,.sl (([oa,ob,oc,od]:List Own).map rO),.int .i64 i40,.str s41,.str s42],.agg [.int .i64 i43,.str s44,.str s45,.int .i64 i46,.int .i64 i47,.str s48,.sl r6,.sl ((boxesGo base add ([oa,ob,oc,od]:List Own)).map rB),.str (if 0<=add then s57 else s51),.str (if 0<=add then s57 else s52),.str (if 0<=add then s41 else s53),.str (if 0<=add then s57 else s54),.str (if 0<=add then bs sec else s55)],.bool true],[]):=by
 have e0:ix ([oa.node,ob.node,oc.node,od.node]:List Int) ((0:Nat):Int)=oa.node:=rfl;have e1:ix ([oa.node,ob.node,oc.node,od.node]:List Int) ((1:Nat):Int)=ob.node:=rfl;have e2:ix ([oa.node,ob.node,oc.node,od.node]:List Int) ((2:Nat):Int)=oc.node:=rfl;have f1:ix ([oa,ob,oc,od]:List Own) ((0+1:Nat):Int)=ob:=rfl;have f2:ix ([oa,ob,oc,od]:List Own) ((1+1:Nat):Int)=oc:=rfl;have f3:ix ([oa,ob,oc,od]:List Own) ((2+1:Nat):Int)=od:=rfl;obtain⟨s0,l0⟩:=DB L D hL base hb ([oa,ob,oc,od]:List Own) rfl ([oa.node,ob.node,oc.node,od.node]:List Int) rfl hpr add ha (m+1+1+1) 0 (by omega) [] (by simp) r0 r1 r2 r3 r5 r6 b8 i9 r10 r11 i12 s13 s14 b15 i16 i17 i18 i19 s20 s21 i22 s23 s24 i25 i26 s27 i28 i29 s30 s31 s32 s33 s34 b36 i37 i38 i40 s41 s42 i43 s44 s45 i46 i47 s48 i49 s51 s52 s53 s54 s55 s57 (([oa.node,ob.node,oc.node,od.node]:List Int).map rI)
 rw[e0,f1]at s0 l0;obtain⟨s1,l1⟩:=DB L D hL base hb ([oa,ob,oc,od]:List Own) rfl ([oa.node,ob.node,oc.node,od.node]:List Int) rfl hpr add ha (m+1+1) 1 (by omega) ([]++bL base add ob.sec (lW base (bH oa.node))) (kb l0 (by simp)) r0 r1 r2 r3 r5 r6 b8 i9 r10 r11 i12 s13 s14 b15 i16 i17 i18 i19 s20 s21 i22 s23 s24 i25 i26 s27 i28 i29 s30 s31 s32 s33 s34 b36 i37 i38 i40 s41 s42 i43 s44 s45 i46 i47 s48 i49 s51 s52 s53 s54 s55 s57 (([oa.node,ob.node,oc.node,od.node]:List Int).map rI)
 rw[e1,f2]at s1 l1;obtain⟨s2,l2⟩:=DB L D hL base hb ([oa,ob,oc,od]:List Own) rfl ([oa.node,ob.node,oc.node,od.node]:List Int) rfl hpr add ha (m+1) 2 (by omega) ([]++bL base add ob.sec (lW base (bH oa.node))++bL base add oc.sec (lW base (bH ob.node))) (kb l1 (kb (Nat.add_le_add_right l0 32) (by simp))) r0 r1 r2 r3 r5 r6 b8 i9 r10 r11 i12 s13 s14 b15 i16 i17 i18 i19 s20 s21 i22 s23 s24 i25 i26 s27 i28 i29 s30 s31 s32 s33 s34 b36 i37 i38 i40 s41 s42 i43 s44 s45 i46 i47 s48 i49 s51 s52 s53 s54 s55 s57 (([oa.node,ob.node,oc.node,od.node]:List Int).map rI)
 rw[e2,f3]at s2 l2;refine(s0.trans (s1.trans s2)).trans ?_;clear s0 s1 s2;rw[y7];simp only[KM];have g:iLt ((2+1:Nat):Int) ((3:Nat):Int)=false:=rfl;rw[g,br_false'];have eb:([]++bL base add ob.sec (lW base (bH oa.node))++bL base add oc.sec (lW base (bH ob.node))++bL base add od.sec (lW base (bH oc.node)))=boxesGo base add ([oa,ob,oc,od]:List Own):=by
  simp[boxesGo]
 rw[eb]at l2⊢;generalize boxesGo base add ([oa,ob,oc,od]:List Own)=bx at l2⊢;have hl:bx.length<=1000:=kb l2 (kb (Nat.add_le_add_right l1 32) (kb (Nat.add_le_add_right (Nat.add_le_add_right l0 32) 32) (by simp)))
 have hc:=dB L (D+5) (F:=92) (sz:=2) rfl (bx.map rB) (HD _) (by simp;omega)
 simp only[nrows_map,iEq_self,br_true',hc,bnd_some',gOwn_r];subst h38 h49;by_cases h:0<=add
 ·have hwa:aH add:=⟨h,ha.2⟩;obtain⟨j,j1,j2,j3⟩:=hsec h;have m1:=rL L (D+5) i9 hw;have m2:=rL L (D+5) add hwa;have m3:=YH L (D+3) hL (treLeaf i9) (treLeaf add);have m4:=ai5 L (D+5) hL ([oa.node,ob.node,oc.node,od.node]:List Int) (by simp) (treMeet (treLeaf i9) (treLeaf add))
  rw[j2]at m4;have u:=dY (j:Int) ([oa,ob,oc,od]:List Own) (by omega) (by simp;omega)
  have gc:∀o:Own,eF (aC (rO o) 1)=some (bs o.sec):=fun _=>rfl
  have gl:iLe 0 add=true:=by rw[iLe_dec];exact jd h
  simp only[gl,br_true',m1,m2,m3,m4,bnd_some',gInt_i,u,gc,iEq_self,je h,j3]
 ·have gl:iLe 0 add=false:=by rw[iLe_dec];exact ji h
  simp only[gl,br_false',br_true',iEq_self,jc h]
end
end Kw
namespace Kw
open Go Go.Proofs
theorem aAS{A:Type}(p:List A)(h:p.length=4):∃a b c d,p=[a,b,c,d]:=by
 match p,h with
 |[a,b,c,d],_=>exact⟨a,b,c,d,rfl⟩
theorem MA:∀(l:List Int) (s:S) (ks:List S),(mR l s ks).length=ks.length
 |[],_,_=>rfl
 |_::l,s,ks=>by rw[mR,MA l];simp
theorem adO(ks:List S)(w:Int)(s:S):(B5 ks w s).length=ks.length:=MA _ _ _
theorem MC(ks:List S)(add remove:Int)(leaf:S):(baseT ks add remove leaf).length=ks.length:=by
 unfold baseT;simp only;split<;>split<;>simp[clr_len]
section
variable (L D:Nat)
set_option maxRecDepth 8000 in
theorem U7(hL:1099511627776<=L)(m:Member)(z:MB m)(fresh:S)(add remove:Int)(leaf key:S)(hf:fresh.length<=500000)(h1:leaf.length<=500000)(h2:key.length<=500000):
 ev E L (D+312) 190 [.agg (rM m),.str (bs fresh),.int .i64 add,.int .i64 remove,.str (bs leaf),.str (bs key)] []=
 some (if cH m fresh add remove leaf key=true then(.tup [.agg (rM (dG m fresh add remove leaf key)),.agg (rC (eY m fresh add remove leaf key)),.bool true],[])else(.tup [.agg (rM bC),.agg (rC sF),.bool false],[])):=by
 rw[<-RC];have hmo:=wM L D hL m z;obtain⟨b,w,ks,own,e,i,t⟩:=m;obtain⟨z1,z2,z3,z4,z5,z6⟩:=z;simp only at z1 z2 z3 z4 z5 z6;change ev E L (D+311) 22 [.agg [.bool b,.int .i64 w,.sl (ks.map rS),.sl (own.map rO),.int .i64 e,.str (bs i),.str (bs t)]] []=_ at hmo;show ev E L (D+312) 190 [.agg [.bool b,.int .i64 w,.sl (ks.map rS),.sl (own.map rO),.int .i64 e,.str (bs i),.str (bs t)],.str (bs fresh),.int .i64 add,.int .i64 remove,.str (bs leaf),.str (bs key)] []=_;rw[atQ];simp only[KM];rw[hmo];unfold GN;simp only[bnd_some',gBool_b];refine lP fun k1=>?_
 refine lP fun k2=>?_
 subst k2;have k1':=k1;unfold memOk at k1';simp only[yk,qr,jg,jb]at k1';obtain⟨hw,hto,_,_,he,_,ht⟩:=k1';have hk:ks.length=15:=by
  unfold treOk at hto;simp only[jg,jb]at hto;exact hto.1
 have e12:bNot (iLe 12 e)=decide (e<12):=by
  rw[iLe_dec];by_cases h:e<12
  ·rw[jd h,ji (by omega)];rfl
  ·rw[ji h,jd (by omega)];rfl
 rw[e12];refine SC fun k3=>?_
 have k3:=qu k3;rw[wJ L (D+6) hL fresh (by omega)]
 simp only[bnd_some',gAggN_if,jf,jk,ju,cellAt_zero,cellAt_succ,gInt_i,gStr_s,iEq_dec];refine lP fun _=>?_
 rw[BQ L (D+308) add w hw];simp only[bnd_some',gBool_b];refine lP fun k5=>?_
 have k5:=qu k5;rw[BQ L (D+308) remove w hw];simp only[bnd_some',gBool_b];refine lP fun k6=>?_
 have k6:=qu k6;rw[P6 L (D+307) ks hk add remove ⟨k5.1,k5.2.1⟩ ⟨k6.1,k6.2.1⟩];simp only[bnd_some',gBool_b];refine lP fun _=>?_
 rw[P5 L (D+4) hL add leaf key (by omega) (by omega)]
 simp only[bnd_some',gBool_b];refine lP fun _=>?_
 have a1:bR .i64 (t.length:Int) (fresh.length:Int)=((t.length+fresh.length:Nat):Int):=by rw[bA (by omega) (by omega)];omega
 have g300:bNot (iLt 300 (bR .i64 (sLen (bs t)) (sLen (bs fresh))))=decide (t.length+fresh.length<=300):=by
  rw[sLen_bs,sLen_bs,a1,iLt_dec];by_cases h:t.length+fresh.length<=300
  ·rw[jd h,ji (by omega:¬(300:Int)< ((t.length+fresh.length:Nat):Int))];rfl
  ·rw[ji h,jd (by omega:(300:Int)< ((t.length+fresh.length:Nat):Int))];rfl
 rw[g300];refine SC fun k9=>?_
 have k9:=qu k9;rw[sLen_bs,iLt_dec];by_cases k10:i.length<=280
 ·rw[ji (by omega:¬(280:Int)< (i.length:Int)),br_false',je (jd k10)]
  have hbl:=MC ks add remove leaf;rw[hk]at hbl;obtain⟨pl,pr⟩:=azZ hw;have hbase:=aiU L (D+305) hL ks hk add remove leaf ⟨k5.1,k5.2.1⟩ ⟨k6.1,k6.2.1⟩;have hpath:=G3 L (D+307) hL w hw;have hset:=apU L (D+1) hL (baseT ks add remove leaf) hbl w hw fresh (by omega)
  have how:=JO L (D+1) hL (pathOf w) fresh (by omega) (by omega) (by omega)
  have hmeet:∀a,aH a->_:=fun a ha=>agG hw ha fresh
  unfold eY dG aU;rw[show(treLeaf w::bI (treLeaf w))=pathOf w from rfl]
  simp only;generalize baseT ks add remove leaf=base at hbase hset hbl⊢;have hsl:(B5 base w fresh).length=15:=by rw[adO,hbl]
  generalize B5 base w fresh=up at hset hsl⊢;generalize pathOf w=p at pl pr hpath how hmeet⊢;obtain⟨pa,pb,pc,pd,rfl⟩:=aAS p pl;have eo:pathGo [pa,pb,pc,pd] fresh=[⟨pa,fresh⟩,⟨pb,makNext fresh⟩,⟨pc,makNext (makNext fresh)⟩,⟨pd,makNext (makNext (makNext fresh))⟩]:=rfl;rw[eo]at how hmeet⊢;have hn:=GZ L (D+3) hL (makNext (makNext (makNext fresh))) (kb (oH _) (by omega))
  have hep:=MJ L (D+3) hL i (makNext (makNext (makNext (makNext fresh)))) (by omega) (kb (oH _) (by omega))
  have hcl:=dB L (D+310) (F:=48) (sz:=1) rfl (up.map rS) (iI _) (by simp;omega)
  have hft:eL (sLen (bs t)) (sLen (bs fresh)) 1=true:=aE _ _ _ (by rw[sLen_bs,sLen_bs];omega)
  have e3:iS .i64 (nrows (([pa,pb,pc,pd]:List Int).map rI)) 1=3:=rfl;have r3:kF 2 (([⟨pa,fresh⟩,⟨pb,makNext fresh⟩,⟨pc,makNext (makNext fresh)⟩,⟨pd,makNext (makNext (makNext fresh))⟩]:List Own).map rO) 3=some (rO ⟨pd,makNext (makNext (makNext fresh))⟩):=rfl;have gc:∀o:Own,eF (aC (rO o) 1)=some (bs o.sec):=fun _=>rfl
  have sb:CM (([pa,pb,pc,pd]:List Int).map rI) 0 3=(([pa,pb,pc,pd]:List Int).take 3).map rI:=rfl;have gs:d5 (okR 1 (([pa,pb,pc,pd]:List Int).map rI)) (d5 (iLe 0 0) (d5 (iLe 0 3) (iLe 3 (nrows (([pa,pb,pc,pd]:List Int).map rI)))))=true:=rfl;have ae:bR .i64 e 1=e+1:=by rw[bA (by omega) (by omega)]
  have hL4:∃q,L=q+1+1+1+1:=⟨L-4,by omega⟩
  obtain⟨q,hq⟩:=hL4;simp only[hbase,bnd_some',gAggN_if,jf,jk,ju,cellAt_zero,gOwn_r,hpath,gSl_r,br_true',hset,how,hft,e3,r3,gc,gStr_s,hn,hep,hcl,gs,sb,dN,ae];simp only[nrows_map,Jp,br_true']
  conv=>lhs;arg 3;rw[hq]
  refine Eq.trans (adN L (D+305) hL base hbl ⟨pa,fresh⟩ ⟨pb,makNext fresh⟩ ⟨pc,makNext (makNext fresh)⟩ ⟨pd,makNext (makNext (makNext fresh))⟩ pr add ⟨k5.1,k5.2.1⟩ q _ _ _ _ _ _ _ _ _ _ _ _ _ _ _ _ _ _ _ _ _ _ _ _ _ _ _ _ _ _ _ _ _ _ _ _ _ _ _ _ _ _ _ _ _ _ _ _ _ _ _ _ hw (nrows_map _ _).symm (nrows_map _ _).symm (dJ [⟨pa,fresh⟩,⟨pb,makNext fresh⟩,⟨pc,makNext (makNext fresh)⟩,⟨pd,makNext (makNext (makNext fresh))⟩] (treMeet (treLeaf add) (treLeaf w))) (fun ha=>hmeet add ⟨ha,k5.2.1⟩)) ?_
  by_cases h:0<=add
  ·simp only[je h];rfl
  ·simp only[jc h];rfl
 ·rw[jd (by omega:(280:Int)< (i.length:Int)),br_true',jc (by simpa using k10)]
end
end Kw
namespace Kw
theorem bS{s:S}(h:secOk s=true):s.length<=300:=by
 obtain⟨t,_,_,h3⟩:=cK.1 h;exact h3
theorem Z9{s:S}(h:secOk s=true)(hl:1+s.length<=300):secOk (makNext s)=true/\(makNext s).length=s.length+1:=by
 unfold makNext mk1;rw[je ⟨h,hl⟩];obtain⟨t,h1,h2,h3⟩:=cK.1 h;refine⟨cK.2 ⟨.next t,h1,?_,?_⟩,by simp⟩
 ·rw[h2];rfl
 ·simp;omega
theorem sH:∀(ns:List Int) (s:S),secOk s=true->s.length+ns.length<=300->∀o∈pathGo ns s,secOk o.sec=true/\o.sec.length<=s.length+ns.length
 |[],_,_,_,o,h=>by cases h
 |n::ns,s,hs,hl,o,h=>by
  have e:pathGo (n::ns) s=⟨n,s⟩::pathGo ns (makNext s):=rfl;rw[e]at h;simp only[jf]at hl;rcases ko.1 h with rfl|h
  ·exact⟨hs,by simp only[jf];omega⟩
  ·cases ns with
   |nil=>cases h
   |cons n2 r=>
    simp only[jf]at hl;obtain⟨h1,h2⟩:=Z9 hs (by omega)
    have:=sH (n2::r) (makNext s) h1 (by simp only[jf];omega) o h
    refine⟨this.1,kb this.2 ?_⟩;simp only[jf];omega
theorem LA(ns:List Int)(s:S)(hs:secOk s=true)(hl:s.length+ns.length<=300)(n:Int):dJ (pathGo ns s) n=[]↔n∉ns:=by
 have hn:=cT ns s;unfold dJ;cases h:(pathGo ns s).find? (fun o=>o.node==n)with
 |none=>
  simp only[true_iff];intro hm;rw[<-hn]at hm;obtain⟨o,ho,rfl⟩:=qf.1 hm;have:=Jh.1 h o ho;simp at this
 |some o=>
  have h1:=ye h;have h2:=List.find?_some h;have h3:=mT (sH ns s hs hl o h1).1;constructor
  ·intro e;exact absurd e h3
  ·intro hm;refine absurd ?_ hm;rw[<-hn];exact qf.2 ⟨o,h1,by simpa using h2⟩
def pQ(base:List S)(fresh:List Int):List S->Nat->Bool
 |[],_=>true
 |k::r,i=>if k=ix base (i:Int)then pQ base fresh r (i+1)else if(i:Int)∈fresh then pQ base fresh r (i+1)else false
theorem LB(base:List S)(fresh:List Int):∀(l:List S) (i:Nat),pQ base fresh l i=true↔∀j:Nat,j<l.length->l.getD j []=ix base ((i+j:Nat):Int)\/((i+j:Nat):Int)∈fresh
 |[],i=>by simp[pQ]
 |k::r,i=>by
  have ih:=LB base fresh r (i+1);have e:pQ base fresh (k::r) i=if k=ix base (i:Int)then pQ base fresh r (i+1)else if(i:Int)∈fresh then pQ base fresh r (i+1)else false:=rfl
  have step:(∀j:Nat,j< (k::r).length->(k::r).getD j []=ix base ((i+j:Nat):Int)\/((i+j:Nat):Int)∈fresh)↔(k=ix base (i:Int)\/(i:Int)∈fresh)/\(∀j:Nat,j<r.length->r.getD j []=ix base ((i+1+j:Nat):Int)\/((i+1+j:Nat):Int)∈fresh):=by
   constructor
   ·intro h;refine⟨by simpa using h 0 (by simp),fun j hj=>?_⟩
    have:=h (j+1) (by simpa using hj)
    rw[show i+(j+1)=i+1+j by omega]at this
    simpa using this
   ·rintro⟨h1,h2⟩ j hj;cases j with
    |zero=>simpa using h1
    |succ j=>
     have:=h2 j (by simpa using hj)
     rw[show i+(j+1)=i+1+j by omega]
     simpa using this
  rw[e,step,<-ih];by_cases h1:k=ix base (i:Int)
  ·rw[je h1];simp[h1]
  ·rw[jc h1];by_cases h2:(i:Int)∈fresh
   ·rw[je h2];simp[h2]
   ·rw[jc h2];simp[h1,h2]
theorem HS(c:List S):∀(p:List Int) (t:List S),(lJ c p t).length=t.length
 |[],_=>rfl
 |n::p,t=>by
  show(lJ c p (t.set n.toNat (ix c n))).length=_;rw[HS c p,ku]
theorem pR(c:List S):∀(p:List Int) (t:List S) (j:Nat),(∀n∈p,0<=n)->j<t.length->(lJ c p t).getD j []=if(j:Int)∈p then ix c (j:Int)else t.getD j []
 |[],t,j,_,_=>by simp[lJ]
 |n::p,t,j,hp,hj=>by
  show(lJ c p (t.set n.toNat (ix c n))).getD j []=_;rw[pR c p _ j (fun x h=>hp x (by simp[h])) (by simpa using hj)]
  have h0:=hp n (by simp)
  by_cases h:(j:Int)∈p
  ·rw[je h,je (by simp[h])]
  ·rw[jc h];by_cases h2:(j:Int)=n
   ·rw[je (by simp[h2])]
    subst h2;simp[jr,Ja,hj]
   ·rw[jc (by simp[h,h2])]
    have:¬n.toNat=j:=by omega
    simp[jr,Ja,this]
theorem tX(l:List S)(j:Nat):ix l (j:Int)=l.getD j []:=by
 unfold ix;rw[ki];rfl
theorem UA(c base:List S)(p:List Int)(hc:c.length=base.length)(hp:∀n∈p,0<=n):pQ base p c 0=decide (c=lJ c p base):=by
 apply yp.2;rw[LB,jb];constructor
 ·intro h;apply List.ext_getElem
  ·rw[HS,hc]
  ·intro j h1 h2;have h3:=pR c p base j hp (by omega)
   have h4:=h j h1;rw[qx]at h4;have a1:c[j]=c.getD j []:=List.getElem_eq_getD (h:=h1) (fallback:=[]);have a2:(lJ c p base)[j]=(lJ c p base).getD j []:=List.getElem_eq_getD (h:=h2) (fallback:=[]);rw[a1,a2,h3,tX];by_cases hm:(j:Int)∈p
   ·rw[je hm]
   ·rw[jc hm];rcases h4 with h4|h4
    ·rw[h4,tX]
    ·exact absurd h4 hm
 ·intro h j hj;rw[qx];by_cases hm:(j:Int)∈p
  ·exact .inr hm
  ·left;have h3:=pR c p base j hp (by omega)
   rw[jc hm,<-h]at h3;rw[h3,tX]
def yY(m:Member)(c:Commit):Bool:=
 m.inn&&(decide (c.tag=m.tag)&&(decide (m.epoch<12)&&(decide (c.sender≠m.who)&&(hasLeaf m.keys c.sender&&(changes m.keys c.add c.remove&&pQ (baseT m.keys c.add c.remove c.leaf) (pathOf c.sender) c.keys 0)))))
theorem ac0(w:Int)(h:aH w):∀n∈pathOf w,0<=n:=by
 obtain⟨h0,h1⟩:=h;have hall:∀k:Fin 8,∀n∈pathOf (k.val:Int),0<=n:=by decide+kernel
 have:=hall ⟨w.toNat,by omega⟩
 simpa only[yg h0]using this
theorem tY(ks:List S)(add remove:Int)(leaf:S):(baseT ks add remove leaf).length=ks.length:=by
 have clr_len (ks:List S) (w:Int):(clr ks w).length=ks.length:=by
  unfold clr;generalize pathOf w=p;induction p generalizing ks with
  |nil=>rfl
  |cons n ns ih=>simp[ih]
 unfold baseT;simp only;split<;>split<;>simp[clr_len]
theorem lC{m:Member}(h:memOk m=true)(hi:m.inn=true):aH m.who/\m.keys.length=15/\fitsAll m=true/\yU m=true/\(0<=m.epoch/\m.epoch<=12)/\secOk m.init=true/\m.tag.length<=300:=by
 unfold memOk at h;rw[hi]at h;simp only[yk,qr,jg,jb]at h;obtain⟨h1,h2,h3,h4,h5,h6,h7⟩:=h;unfold treOk at h2;simp only[jg,jb]at h2;exact⟨h1,h2.1,h3,h4,h5,h6,h7⟩
theorem sI{c:Commit}(h:cP c=true):aH c.sender/\c.keys.length=15/\iQ c.boxes=true/\bQ c.add c.sender/\bQ c.remove c.sender/\c.tag.length+c.name.length<=300:=by
 unfold cP at h;simp only[jg,jb]at h;obtain⟨⟨h1,h2,h3,h4,h5⟩,h6,h7,_⟩:=h;unfold treOk at h6;simp only[jg,jb]at h6;exact⟨h1,h6.1,h7,h4,h5,h3⟩
theorem UB{m:Member}{c:Commit}(hm:memOk m=true)(hc:cP c=true):yY m c=oB m c:=by
 cases hi:m.inn with
 |false=>unfold yY oB;rw[hi];rfl
 |true=>
  obtain⟨_,hk,_⟩:=lC hm hi;obtain⟨hs,hk2,_⟩:=sI hc;unfold yY oB EE;rw[UA _ _ _ (by rw[hk2,tY,hk]) (ac0 _ hs)]
  apply yp.2;simp only[jg,jb];constructor
  ·rintro⟨a,b,c,d,e⟩;exact⟨a,⟨b,c,d⟩,e⟩
  ·rintro⟨a,⟨b,c,d⟩,e⟩;exact⟨a,b,c,d,e⟩
def wW(own:List Own):List Box->Nat->Int
 |[],_=> -1
 |b::r,k=>if oR own b.key=true then k else wW own r (k+1)
theorem boxIx_or(own:List Own):∀(l:List Box) (k:Nat),(∃j:Nat,∃h:j<l.length,wW own l k=(k+j:Nat)/\bP own l=l[j].sec)\/(wW own l k= -1/\bP own l=[])
 |[],_=>.inr ⟨rfl,rfl⟩
 |b::r,k=>by
  have e:wW own (b::r) k=if oR own b.key=true then(k:Int)else wW own r (k+1):=rfl
  have f:bP own (b::r)=if oR own b.key=true then b.sec else bP own r:=rfl
  rw[e,f];by_cases h:oR own b.key=true
  ·rw[je h,je h];exact .inl ⟨0,by simp,by simp,rfl⟩
  ·rw[jc h,jc h];rcases boxIx_or own r (k+1)with⟨j,hj,h1,h2⟩|h2
   ·exact .inl ⟨j+1,by simpa using hj,by rw[h1];congr 1;omega,by rw[h2];rfl⟩
   ·exact .inr h2
def oS(kc km:List S)(nodes:List Int)(own:List Own):List Own:=own.filter fun o=>!decide (o.node∈nodes)&&decide (ix kc o.node=ix km o.node)
theorem agH{m:Member}(hf:fitsAll m=true)(kc:List S)(nodes:List Int)(s:S)(hs:secOk s=true)(hl:s.length+nodes.length<=300):oS kc m.keys nodes m.own=sG kc (oA m.own (pathGo nodes s)):=by
 unfold sG oA oS;rw[List.filter_filter];apply List.filter_congr;intro o ho;obtain⟨k,hk,rfl⟩:=qh.1 ho;have h1:=kj.1 hf k (v5.2 hk);unfold oK at h1;simp only[jg,jb]at h1;have e:ix m.own (k:Int)=m.own[k]:=by unfold ix;rw[ki,<-List.getElem_eq_getD (h:=hk)]
 rw[e]at h1;obtain⟨_,_,_,h2,_⟩:=h1;have h3:=LA nodes s hs hl (m.own[k]).node;rw[h2];apply yp.2;simp only[jg,yu,jh,jb];rw[h3];exact and_comm
theorem yZ(a b:S):secOk (bO a b)=decide (bO a b≠[]):=by
 unfold bO;split
 ·rename_i h;obtain⟨⟨h1,h2⟩,h3⟩:=h;obtain⟨t,t1,t2,_⟩:=cK.1 h1;obtain⟨u,u1,u2,_⟩:=cK.1 h2;have:secOk (101::(a++b))=true:=cK.2 ⟨.epoch t u,⟨t1,u1⟩,by rw[t2,u2];rfl,by simp;omega⟩
  rw[this];rfl
 ·have:secOk []=false:=by decide+kernel
  rw[this];rfl
def HT(m:Member)(c:Commit)(s:S):Member:=
 let nodes:=treMeet (treLeaf m.who) (treLeaf c.sender)::bI (treMeet (treLeaf m.who) (treLeaf c.sender))
 let path:=pathGo nodes s
 ⟨true,m.who,c.keys,oS c.keys m.keys nodes m.own++path,m.epoch+1,bO m.init (makNext (ix path (path.length-1)).sec),m.tag++c.name⟩
def EI(m:Member)(c:Commit):Member×Bool:=
 if memOk m=true then
  if cP c=true then
   if yY m c=true then
    if c.remove=m.who then(bC,true)else
     if wW m.own c.boxes 0<0 then(m,false)else
      let s:=(ix c.boxes (wW m.own c.boxes 0)).sec
      if(secOk s&&decide (s.length<=292))=true then
       if eZ c.keys (pathGo (treMeet (treLeaf m.who) (treLeaf c.sender)::bI (treMeet (treLeaf m.who) (treLeaf c.sender))) s)=true then
        if(HT m c s).init=[]then(m,false)else(HT m c s,true)
       else(m,false)
      else(m,false)
   else(m,false)
  else(bC,false)
 else(bC,false)
theorem GO(n:Int):(bI n).length<=3:=by
 unfold bI;by_cases h:hJ n
 ·rw[je h];obtain⟨h0,h1⟩:=h;have hall:∀k:Fin 15,(ups k.val).length<=3:=by decide+kernel
  exact hall ⟨n.toNat,by omega⟩
 ·rw[jc h];simp
theorem HU(m:Member)(c:Commit):EI m c=dH m c:=by
 unfold EI dH;by_cases hm:memOk m=true
 ·by_cases hc:cP c=true
  ·rw[je hm,je hc,je (show memOk m=true/\cP c=true from⟨hm,hc⟩),UB hm hc]
   by_cases ht:oB m c=true
   ·rw[je ht,je ht];by_cases hr:c.remove=m.who
    ·rw[je hr,je hr]
    ·rw[jc hr,jc hr];have hi:m.inn=true:=by
      unfold oB at ht;simp only[jg]at ht;exact ht.1
     obtain⟨_,_,hf,_,_,_,_⟩:=lC hm hi;obtain⟨_,_,hb,_⟩:=sI hc;unfold hearPair;rcases boxIx_or m.own c.boxes 0 with⟨j,hj,h1,h2⟩|⟨h1,h2⟩
     ·rw[h1,h2,jc (by omega)]
      have e:ix c.boxes ((0+j:Nat):Int)=c.boxes[j]:=by unfold ix;rw[ki,qx,<-List.getElem_eq_getD (h:=hj)]
      rw[e];unfold iQ at hb;simp only[jg,kj]at hb;have hs:=(hb.2 c.boxes[j] (jt hj)).2;simp only[hs,jy];have hne:=mT hs;by_cases hl:c.boxes[j].sec.length<=292
      ·rw[je (jd hl)];have hx:¬(c.boxes[j].sec=[]\/292<c.boxes[j].sec.length):=fun x=>x.elim hne (fun y=>by omega)
       simp only[jc hx];have hk:=agH hf c.keys (treMeet (treLeaf m.who) (treLeaf c.sender)::bI (treMeet (treLeaf m.who) (treLeaf c.sender))) c.boxes[j].sec hs (by simp only[jf];have:=GO (treMeet (treLeaf m.who) (treLeaf c.sender));omega)
       have eh:HT m c c.boxes[j].sec=mS m c c.boxes[j].sec:=by
        unfold HT mS aU;simp only;rw[hk]
       rw[eh];unfold aU;by_cases hfr:eZ c.keys (pathGo (treMeet (treLeaf m.who) (treLeaf c.sender)::bI (treMeet (treLeaf m.who) (treLeaf c.sender))) c.boxes[j].sec)=true
       ·simp only[hfr,ju];have e2:secOk (mS m c c.boxes[j].sec).init=decide ((mS m c c.boxes[j].sec).init≠[]):=yZ _ _;by_cases h0:(mS m c c.boxes[j].sec).init=[]
        ·rw[je h0,e2,h0];rfl
        ·rw[jc h0,e2,je (jd h0)]
       ·simp only[hfr];rfl
      ·have hx:c.boxes[j].sec=[]\/292<c.boxes[j].sec.length:=.inr (by omega)
       rw[jc (by simpa using hl)]
       simp only[je hx];rfl
     ·rw[h1,h2,je (by omega)]
      have hx:([]:S)=[]\/292< ([]:S).length:=.inl rfl;simp only[je hx];rfl
   ·rw[jc ht,jc ht]
  ·rw[je hm,jc hc,jc (show¬(memOk m=true/\cP c=true)from fun x=>hc x.2)]
 ·rw[jc hm,jc (show¬(memOk m=true/\cP c=true)from fun x=>hm x.1)]
def EJ(w:Int)(leaf key:S)(c:Commit):Option Member:=
 if(cP c&&(decide (0<=c.add)&&(decide (c.add=w)&&(decide (makKey leaf=c.leaf)&&(decide (makKey key=c.wkey)&&((secOk c.wss&&decide (c.wss.length<=292))&&memOk (pP w leaf c)))))))=true then some (pP w leaf c)else none
theorem LC{s:S}(h:isKey s=true):s≠[]:=fun e=>by
 subst e;revert h
 decide+kernel
theorem UC(w:Int)(leaf key:S)(c:Commit):EJ w leaf key c=iR w leaf key c:=by
 unfold EJ iR
 congr 1
 simp only[jg,jb];apply propext;constructor
 ·rintro⟨h1,h2,h3,h4,h5,⟨h6,h7⟩,h8⟩;have hc:=h1;unfold cP at hc;rw[jc (by omega)]at hc
  simp only[jg,jb]at hc;obtain⟨_,_,_,_,k1,k2,_⟩:=hc;exact⟨h1,h2,h3,BE (by rw[h4];exact LC k1),BE (by rw[h5];exact LC k2),h4,h5,h7,h8⟩
 ·rintro⟨h1,h2,h3,h4,h5,h6,h7,h8,h9⟩;have hc:=h1;unfold cP at hc;rw[jc (by omega)]at hc
  simp only[jg,jb]at hc;obtain⟨_,_,_,_,_,_,_,_,k3⟩:=hc;exact⟨h1,h2,h3,h6,h7,⟨k3,h8⟩,h9⟩
theorem UD{s:S}{w:Int}(hw:aH w)(h:dZ s w≠[]):(aN (dZ s w)).op=5/\(aN (dZ s w)).who=w:=by
 unfold dZ mk1 at h⊢;rw[je hw]at h⊢;split at h
 ·rename_i h1;obtain⟨hs,hl⟩:=h1;rw[je ⟨hs,hl⟩];obtain⟨t,t1,t2,t3⟩:=cK.1 hs;obtain⟨w0,w1⟩:=hw;have e:sec (109::C0 w++s)=some (.say w.toNat t):=iX.2 ⟨⟨by omega,t1⟩,by rw[t2];rfl,by simp only[jl,jf]at hl⊢;omega⟩
  unfold aN;rw[e];exact⟨rfl,yg w0⟩
 ·exact absurd rfl h
end Kw
