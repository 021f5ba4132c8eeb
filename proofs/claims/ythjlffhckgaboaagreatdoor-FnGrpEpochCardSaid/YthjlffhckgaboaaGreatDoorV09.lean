import Derived.Test.YthjlffhckgaboaaGreatDoorV08
set_option linter.unusedVariables false
set_option linter.unusedSimpArgs false
set_option linter.unusedSectionVars false
namespace Kw
open Go Go.Proofs
theorem UV(kc km:List S)(nodes:List Int)(o:Own)(r:List Own):nT kc km nodes (o::r)=(if(!decide (o.node∈nodes)&&decide (ix kc o.node=ix km o.node))=true then[o]else[])++nT kc km nodes r:=by
 unfold nT;rw[Ja];split<;>rfl
section
variable (L D:Nat)
theorem aeH(hL:1099511627776<=L)(o:Own)(k s:S)(hs:o.sec.length<=500000):
 ev E L (D+309) 195 [.agg [.int .i64 o.node,.str (bs o.sec)],.ptr (.imp 0) 0] [.cells [.str (bs k),.str (bs s)]]=some (.bool (decide (makKey o.sec=k)),[.cells [.str (bs k),.str (bs s)]]):=by
 rw[apE];simp only[KM];rw[o7 L D hL o.sec hs];simp only[bnd_some',gStr_s,sEq_bs]
theorem aeI(hL:1099511627776<=L)(own:List Own)(q s:S)(hs:∀o∈own,o.sec.length<=500000)(hl:own.length<=1000000):
 jL L (D+309) L (bs q) (bs s) (own.map rO) own.length 0=some (.int .i64 (sY (fun o=>decide (makKey o.sec=q)) own 0),[.cells [.str (bs q),.str (bs s)]]):=by
 refine e7 own _ _ (fun m k=>jL L (D+309) m (bs q) (bs s) (own.map rO) own.length k) (fun n k hk'=>?_) (fun n=>?_) L 0 (by omega) (by omega)
 ·show jL L (D+309) (n+1) _ _ _ _ _=_;rw[qT];simp only[KM];have g:iLt (k:Int) (own.length:Int)=true:=by rw[iLt_dec,jb];omega
  have a1:bU .i64 (k:Int) 1=((k+1:Nat):Int):=aH _ (by omega)
  have u:=dP (k:Int) own (by omega) (by omega)
  rw[aM own k hk']at u;have c0:∀o:Own,d9 .i64 (aD (rO o) 0)=some o.node:=fun _=>rfl
  have c1:∀o:Own,d6 (aD (rO o) 1)=some (bs o.sec):=fun _=>rfl
  have h:=aeH L D hL own[k] q s (hs _ (jt hk'));simp only[g,br_true',u,bnd_some',c0,c1,h,jY,bM,jf,jk,ju,cellAt_zero,cellAt_succ,gStr_s,gBool_b,a1];rw[bC]
 ·show jL L (D+309) (n+1) _ _ _ _ _=_;rw[qT];simp only[KM];have g:iLt (own.length:Int) (own.length:Int)=false:=by rw[iLt_dec,jh];omega
  rw[g,br_false']
theorem akF(hL:1099511627776<=L)(own:List Own)(q s:S)(hs:∀o∈own,o.sec.length<=500000)(hl:own.length<=1000000):
 ev E L (D+311) 194 [.sl (own.map rO),.fn 195 [.ptr (.imp 0) 0]] [.cells [.str (bs q),.str (bs s)]]=some (.bool (qF own q),[.cells [.str (bs q),.str (bs s)]]):=by
 rw[Z4];simp only[KM];rw[ZM,nrows_map,aeI L D hL own q s hs hl];simp only[bnd_some',jY,bM,jf,jk,ju,cellAt_zero,cellAt_succ,gStr_s,gInt_i,iU,iE]
 rfl
theorem akG(hL:1099511627776<=L)(b:Bool)(w e:Int)(ks:List S)(own:List Own)(i t:S)(bx:List Box)(hb:bx.length<=1000000)(hs:∀o∈own,o.sec.length<=500000)(hl:own.length<=1000000):
 ev E L (D+313) 192 [.sl (bx.map rB),.fn 193 [.ptr (.imp 0) 0]] [.cells [.bool b,.int .i64 w,.sl (ks.map rS),.sl (own.map rO),.int .i64 e,.str (bs i),.str (bs t)]]=some (.int .i64 (tH own bx 0),[.cells [.bool b,.int .i64 w,.sl (ks.map rS),.sl (own.map rO),.int .i64 e,.str (bs i),.str (bs t)]]):=by
 rw[Z3,nrows_map,W4];refine e7 bx (fun x=>qF own x.key) _ (fun m k=>lS L (D+312) m b w (ks.map rS) (own.map rO) e (bs i) (bs t) (bx.map rB) bx.length k) (fun n k hk'=>?_) (fun n=>?_) L 0 (by omega) (by omega)
 ·show lS L (D+312) (n+1) _ _ _ _ _ _ _ _ _ _=_;rw[rK];simp only[KM];have g:iLt (k:Int) (bx.length:Int)=true:=by rw[iLt_dec,jb];omega
  have a1:bU .i64 (k:Int) 1=((k+1:Nat):Int):=aH _ (by omega)
  have u:=tW (k:Int) bx (by omega) (by omega)
  rw[aM bx k hk']at u;have c0:∀o:Box,d6 (aD (rB o) 0)=some (bs o.key):=fun _=>rfl
  have c1:∀o:Box,d6 (aD (rB o) 1)=some (bs o.sec):=fun _=>rfl
  have h:=akF L D hL own bx[k].key bx[k].sec hs hl;simp only[g,br_true',u,bnd_some',c0,c1,apD,h,jY,bM,jf,jk,ju,cellAt_zero,cellAt_succ,gStr_s,gBool_b,gInt_i,gSl_r,a1,↓KM];rw[bC]
 ·show lS L (D+312) (n+1) _ _ _ _ _ _ _ _ _ _=_;rw[rK];simp only[KM];have g:iLt (bx.length:Int) (bx.length:Int)=false:=by rw[iLt_dec,jh];omega
  rw[g,br_false']
theorem W7(hL:1099511627776<=L)(kc km:List S)(hkc:kc.length=15)(hkm:km.length=15)(nodes:List Int)(hnn:nodes.length<=1000)(fr:List Own)(own:List Own)(hl:own.length<=1000000)(hn:∀o∈own,0<=o.node/\o.node<=14)(r0:List Row)(r1:List Row)(r2:List Row)(b4:Bool)(i5:Int)(r7:List Row)(i8:Int)(s9:ByteArray)(s10:ByteArray)(i11:Int)(s12:ByteArray)(s13:ByteArray)(i14:Int)(i15:Int)(s16:ByteArray)(r18:List Row)(s19:ByteArray)(s20:ByteArray)(s21:ByteArray)(s22:ByteArray)(s23:ByteArray)(b24:Bool)(i25:Int)(i26:Int)(i27:Int)(i28:Int)(s29:ByteArray)(s30:ByteArray)(b31:Bool)(i32:Int)(r33:List Row)(r34:List Row)(i35:Int)(s36:ByteArray)(s37:ByteArray)(b38:Bool)(i39:Int)(i40:Int)(i42:Int)(s43:ByteArray)(s44:ByteArray):∀(m k:Nat) (acc:List Own),own.length<m+k->k<=own.length->acc.length<=k->
 mR L (D+313) m r0 r1 r2 (acc.map rO) b4 i5 (km.map rS) r7 i8 s9 s10 i11 s12 s13 i14 i15 s16 (kc.map rS) r18 s19 s20 s21 s22 s23 b24 i25 i26 i27 i28 s29 s30 b31 i32 r33 r34 i35 s36 s37 b38 i39 i40 acc.length i42 s43 s44 (nodes.map rI) (fr.map rO) (own.map rO) own.length k=mR L (D+313) (m+k-own.length) r0 r1 r2 ((acc++nT kc km nodes (own.drop k)).map rO) b4 i5 (km.map rS) r7 i8 s9 s10 i11 s12 s13 i14 i15 s16 (kc.map rS) r18 s19 s20 s21 s22 s23 b24 i25 i26 i27 i28 s29 s30 b31 i32 r33 r34 i35 s36 s37 b38 i39 i40 ((acc++nT kc km nodes (own.drop k)).length:Nat) i42 s43 s44 (nodes.map rI) (fr.map rO) (own.map rO) own.length own.length
 |0,k,acc,h,hk,ha=>by omega
 |m+1,k,acc,h,hk,ha=>by
  by_cases hlt:k<own.length
  ·rw[wM];simp only[KM];have g:iLt (k:Int) (own.length:Int)=true:=by rw[iLt_dec,jb];omega
   have a1:bU .i64 (k:Int) 1=((k+1:Nat):Int):=aH _ (by omega)
   have u:=dP (k:Int) own (by omega) (by omega)
   rw[aM own k hlt]at u;obtain⟨n0,n1⟩:=hn _ (jt hlt);have u1:=aX (own[k]).node kc (by omega) (by omega)
   have u2:=aX (own[k]).node km (by omega) (by omega)
   have c0:∀o:Own,d9 .i64 (aD (rO o) 0)=some o.node:=fun _=>rfl
   have c1:∀o:Own,d6 (aD (rO o) 1)=some (bs o.sec):=fun _=>rfl
   have gc:∀s:S,d6 (aD (rS s) 0)=some (bs s):=fun _=>rfl
   have hci:=W5 L (D+311) hL nodes hnn (own[k]).node;have ih:=fun acc' (ha':acc'.length<=k+1)=>W7 hL kc km hkc hkm nodes hnn fr own hl hn r0 r1 r2 b4 i5 r7 i8 s9 s10 i11 s12 s13 i14 i15 s16 r18 s19 s20 s21 s22 s23 b24 i25 i26 i27 i28 s29 s30 b31 i32 r33 r34 i35 s36 s37 b38 i39 i40 i42 s43 s44 m (k+1) acc' (by omega) (by omega) ha'
   rw[show m+(k+1)-own.length=m+1+k-own.length by omega]at ih
   rw[qd hlt,UV];have er:[[MV.int .i64 (own[k]).node,MV.str (bs (own[k]).sec)]]=[rO own[k]]:=rfl;have q1:okR 2 [rO own[k]]=true:=rfl;have q2:eP (acc.length:Int) (nrows [rO own[k]]) 24=true:=aF _ _ _ (by show((acc.length:Int)+1)*24<=_;omega)
   have q3:cG (acc.map rO) [rO own[k]]=(acc++[own[k]]).map rO:=cH rO acc own[k];simp only[g,br_true',u,bnd_some',c0,c1,hci,gBool_b,u1,u2,gc,sEq_bs,er,iEq_self,nrows_map,nS,q1,q2,q3,cS,a1];by_cases h1:(own[k]).node∈nodes
   ·simp only[h1,decide_true,Bool.not_true,yj,kz,qn,qf,bNot_t,br_false'];exact ih acc (by omega)
   ·simp only[h1,decide_false,bNot_f,br_true',Bool.not_false,ka,jb];by_cases h2:ix kc (own[k]).node=ix km (own[k]).node
    ·rw[je h2,jd h2,br_true',<-v3];exact ih (acc++[own[k]]) (by simp;omega)
    ·rw[jc h2,ji h2,br_false',qf];exact ih acc (by omega)
  ·have e:k=own.length:=by omega
   subst e;rw[List.drop_length];have:nT kc km nodes []=[]:=rfl;rw[this,kg,show m+1+own.length-own.length=m+1 by omega]
end
end Kw
namespace Kw
open Go Go.Proofs
section
variable (L D:Nat)
set_option maxRecDepth 8000 in
theorem aa0(hL:1099511627776<=L)(m:Member)(c:Commit)(z:MB m)(zc:CBd c):
 ev E L (D+314) 116 [.agg (rM m),.agg (rC c)] []=some (.tup [.agg (rM (eB m c).1),.bool (eB m c).2],[]):=by
 rw[<-FZ];have hmo:=tB L (D+2) hL m z;have hco:=PC L (D+2) hL c zc;have hcp:=W2 L (D+310) m z;have hgo:=arS L (D+305) hL m c;unfold CZ;by_cases h1:memOk m=true
 case neg=>
  obtain⟨b,w,ks,own,e,i,t⟩:=m;obtain⟨c0,c1,c2,c3,c4,c5,c6,c7,c8,c9,c10,c11,c12⟩:=c;change ev E L (D+313) 22 [.agg [.bool b,.int .i64 w,.sl (ks.map rS),.sl (own.map rO),.int .i64 e,.str (bs i),.str (bs t)]] []=_ at hmo;show ev E L (D+314) 116 [.agg [.bool b,.int .i64 w,.sl (ks.map rS),.sl (own.map rO),.int .i64 e,.str (bs i),.str (bs t)],.agg [.int .i64 c0,.str (bs c1),.str (bs c2),.int .i64 c3,.int .i64 c4,.str (bs c5),.sl (c6.map rS),.sl (c7.map rB),.str (bs c8),.str (bs c9),.str (bs c10),.str (bs c11),.str (bs c12)]] []=_;rw[UJ];simp only[KM];rw[hmo,jc h1,show memOk _=false from wg.2 h1]
  rfl
 by_cases h2:dJ c=true
 case neg=>
  obtain⟨b,w,ks,own,e,i,t⟩:=m;obtain⟨c0,c1,c2,c3,c4,c5,c6,c7,c8,c9,c10,c11,c12⟩:=c;change ev E L (D+313) 22 [.agg [.bool b,.int .i64 w,.sl (ks.map rS),.sl (own.map rO),.int .i64 e,.str (bs i),.str (bs t)]] []=_ at hmo;change ev E L (D+313) 32 [.agg [.int .i64 c0,.str (bs c1),.str (bs c2),.int .i64 c3,.int .i64 c4,.str (bs c5),.sl (c6.map rS),.sl (c7.map rB),.str (bs c8),.str (bs c9),.str (bs c10),.str (bs c11),.str (bs c12)]] []=_ at hco;show ev E L (D+314) 116 [.agg [.bool b,.int .i64 w,.sl (ks.map rS),.sl (own.map rO),.int .i64 e,.str (bs i),.str (bs t)],.agg [.int .i64 c0,.str (bs c1),.str (bs c2),.int .i64 c3,.int .i64 c4,.str (bs c5),.sl (c6.map rS),.sl (c7.map rB),.str (bs c8),.str (bs c9),.str (bs c10),.str (bs c11),.str (bs c12)]] []=_;rw[UJ];simp only[KM];rw[hmo,je h1,h1,jc h2];simp only[bnd_some',gBool_b,bNot_t,bNot_f,br_true'];rw[hco,show dJ _=false from wg.2 h2]
  rfl
 rw[je h1,je h2];obtain⟨hs,hck,hbo,hca,hcr,_⟩:=wI h2;have hgo:=hgo (fun hi=>(kO h1 hi).2.1) hs hck ⟨hca.1,hca.2.1⟩ ⟨hcr.1,hcr.2.1⟩
 have hmk:=fun hi=>kO h1 hi
 have hgi:wH m c=true->m.inn=true:=fun h=>by
  unfold wH at h;simp only[jg]at h;exact h.1
 obtain⟨b,w,ks,own,e,i,t⟩:=m;obtain⟨c0,c1,c2,c3,c4,c5,c6,c7,c8,c9,c10,c11,c12⟩:=c;obtain⟨z1,z2,z3,z4,z5,z6⟩:=z;obtain⟨zc1,zc2,zc3,zc4,zc5,zc6,zc7,_,_,_,_,_⟩:=zc;simp only at z1 z2 z3 z4 z5 z6 zc1 zc2 zc3 zc4 zc5 zc6 zc7 hs hck hca hcr hmk hgi hbo;change ev E L (D+313) 22 [.agg [.bool b,.int .i64 w,.sl (ks.map rS),.sl (own.map rO),.int .i64 e,.str (bs i),.str (bs t)]] []=_ at hmo;change ev E L (D+313) 32 [.agg [.int .i64 c0,.str (bs c1),.str (bs c2),.int .i64 c3,.int .i64 c4,.str (bs c5),.sl (c6.map rS),.sl (c7.map rB),.str (bs c8),.str (bs c9),.str (bs c10),.str (bs c11),.str (bs c12)]] []=_ at hco;change ev E L (D+313) 113 [.agg [.bool b,.int .i64 w,.sl (ks.map rS),.sl (own.map rO),.int .i64 e,.str (bs i),.str (bs t)]] []=some (.agg [.bool b,.int .i64 w,.sl (ks.map rS),.sl (own.map rO),.int .i64 e,.str (bs i),.str (bs t)],[])at hcp;change ev E L (D+313) 191 [.agg [.bool b,.int .i64 w,.sl (ks.map rS),.sl (own.map rO),.int .i64 e,.str (bs i),.str (bs t)],.agg [.int .i64 c0,.str (bs c1),.str (bs c2),.int .i64 c3,.int .i64 c4,.str (bs c5),.sl (c6.map rS),.sl (c7.map rB),.str (bs c8),.str (bs c9),.str (bs c10),.str (bs c11),.str (bs c12)]] []=_ at hgo;show ev E L (D+314) 116 [.agg [.bool b,.int .i64 w,.sl (ks.map rS),.sl (own.map rO),.int .i64 e,.str (bs i),.str (bs t)],.agg [.int .i64 c0,.str (bs c1),.str (bs c2),.int .i64 c3,.int .i64 c4,.str (bs c5),.sl (c6.map rS),.sl (c7.map rB),.str (bs c8),.str (bs c9),.str (bs c10),.str (bs c11),.str (bs c12)]] []=_;rw[UJ];simp only[KM];rw[hmo,h1];simp only[bnd_some',gBool_b,bNot_t,bNot_f,br_true',hco,h2,br_false',hcp,gAggN_if,jf,jk,ju,cellAt_zero,cellAt_succ,gInt_i,gStr_s,gSl_r,hgo];by_cases h3:wH ⟨b,w,ks,own,e,i,t⟩ ⟨c0,c1,c2,c3,c4,c5,c6,c7,c8,c9,c10,c11,c12⟩=true
 case neg=>
  rw[jc h3,show wH _ _=false from wg.2 h3]
  rfl
 rw[je h3,h3,bNot_t,br_false',iEq_dec];by_cases h4:c4=w
 case pos=>rw[jd h4,br_true',je h4];rfl
 rw[ji h4,br_false',jc h4];obtain⟨hw,hkk,hft,_,hep,_,htl⟩:=hmk (hgi h3);have hbx:=akG L D hL b w e ks own i t c7 zc6 z4 z3;simp only[hbx,bnd_some',jY,bM,jf,jk,ju,cellAt_zero,cellAt_succ,gBool_b,gInt_i,gStr_s,gSl_r];rcases boxIx_or own c7 0 with⟨j,hj,hx,_⟩|⟨hx,_⟩
 case inr=>
  rw[hx,je (by omega)];rfl
 have ge:iLt ((0+j:Nat):Int) 0=false:=by rw[iLt_dec];exact ji (by omega)
 rw[hx,jc (by omega),ge,bNot_f,br_true']
 have u:=tW ((0+j:Nat):Int) c7 (by omega) (by omega)
 have ei:ix c7 ((0+j:Nat):Int)=c7[j]:=by rw[qu,aM c7 j hj]
 rw[ei]at u⊢;have hbm:=zc7 _ (jt hj);have hsh:=PL L (D+6) hL c7[j].sec (by omega)
 obtain⟨s,es⟩:∃s,s=c7[j].sec:=⟨_,rfl⟩;have bj:d6 (aD (rB c7[j]) 1)=some (bs s):=by rw[es];rfl
 rw[<-es]at hbm hsh⊢;simp only[u,bnd_some',bj,hsh,gBool_b];by_cases h5:(secOk s&&decide (s.length<=292))=true
 case neg=>
  rw[jc h5,show(secOk s&&decide (s.length<=292))=false from wg.2 h5];rfl
 rw[je h5,h5,bNot_t,br_false'];have h5':=h5;simp only[jg,jb]at h5';obtain⟨hs1,hs2⟩:=h5';have m1:=pR L (D+312) w hw;have m2:=pR L (D+312) c0 hs;have m3:=UX L (D+310) hL (treLeaf w) (treLeaf c0);have hmi:=(GY hw hs).1;have hmr:=pathOf_rng hw _ hmi;unfold FY;simp only;generalize treMeet (treLeaf w) (treLeaf c0)=nd at m3 hmr⊢;have m4:=XF L (D+309) hL nd;have hul:=ET nd;have hur:∀q∈nd::bH nd,0<=q/\q<=14:=fun q hq=>by
  rcases kw.1 hq with rfl|hq
  ·exact hmr
  ·exact lT q hq
 have m5:=HF L (D+3) hL (nd::bH nd) s (by simp) (by simp only[jf];omega) (by omega)
 have hpl:=BP (nd::bH nd) s;have hpo:=qP (nd::bH nd) s hs1 (by simp only[jf];omega)
 have hpn:∀o∈pathGo (nd::bH nd) s,0<=o.node/\o.node<=14:=fun o ho=>by
  have e:=cM (nd::bH nd) s;exact hur _ (by rw[<-e];exact qe.2 ⟨o,ho,rfl⟩)
 have hnl:(nd::bH nd).length<=4:=by simp only[jf];omega
 have hnp:1<=(nd::bH nd).length:=by simp
 generalize(nd::bH nd)=nodes at m4 m5 hpl hpo hpn hnl hnp⊢;generalize pathGo nodes s=fr at m5 hpl hpo hpn⊢;have m6:=akE L (D+1) hL fr c6 (fun o ho=>⟨(hpn o ho).1,by have:=(hpn o ho).2;omega⟩) (by omega) (fun o ho=>by have:=(hpo o ho).2;omega) (by omega)
 simp only[m1,m2,m3,m4,m5,m6,bnd_some',gInt_i,gSl_r,gBool_b];by_cases h6:iO c6 fr=true
 case neg=>rw[jc h6,show iO c6 fr=false from wg.2 h6];rfl
 rw[je h6,h6,bNot_t,br_false'];have hcl:=cX L (D+312) (F:=48) (sz:=1) rfl (c6.map rS) (iC _) (by simp;omega)
 have hft2:eP (sLen (bs t)) (sLen (bs c2)) 1=true:=aF _ _ _ (by rw[sLen_bs,sLen_bs];omega)
 have hon:∀o∈own,0<=o.node/\o.node<=14:=fun o ho=>by
  obtain⟨k,hk,rfl⟩:=qc.1 ho;have h1:=ku.1 hft k (qy.2 hk);unfold nL at h1;simp only[jg,jb]at h1;have e:ix own (k:Int)=own[k]:=aM own k hk;rw[e]at h1;exact pathOf_rng hw _ h1.1
 simp only[hcl,bnd_some',gOwn_r,hft2,br_true',nrows_map];refine Eq.trans (W7 L D hL c6 ks hck hkk nodes (by omega) fr own z3 hon _ _ _ _ _ _ _ _ _ _ _ _ _ _ _ _ _ _ _ _ _ _ _ _ _ _ _ _ _ _ _ _ _ _ _ _ _ _ _ _ _ L 0 [] (by omega) (by omega) (ko _)) ?_
 obtain⟨q,hq⟩:∃q,L+0-own.length=q+1:=⟨L+0-own.length-1,by omega⟩
 conv=>lhs;arg 3;rw[hq]
 rw[wM];simp only[KM];have g:iLt (own.length:Int) (own.length:Int)=false:=by rw[iLt_dec,jh];omega
 have hkl:(nT c6 ks nodes own).length<=own.length:=wa _ _;rw[qb,qf];generalize nT c6 ks nodes own=kp at hkl⊢;have f1:eP (kp.length:Int) (fr.length:Int) 24=true:=aF _ _ _ (by omega)
 have c1:cG (kp.map rO) (fr.map rO)=(kp++fr).map rO:=dW ..;have hc2:=cX L (D+312) (F:=188) (sz:=2) rfl ((kp++fr).map rO) (nS _) (by simp;omega)
 have s1:hJ .i64 (fr.length:Int) 1=(fr.length:Int)-1:=dR (by omega) (by omega)
 have u9:=dP ((fr.length:Int)-1) fr (by omega) (by omega)
 have bo:∀o:Own,d6 (aD (rO o) 1)=some (bs o.sec):=fun _=>rfl
 have hlast:(ix fr ((fr.length:Int)-1)).sec.length<=400:=by
  have e:ix fr ((fr.length:Int)-1)=fr[fr.length-1]'(by omega):=by
   rw[show((fr.length:Int)-1)=((fr.length-1:Nat):Int) by omega,aM]
  rw[e];have:=(hpo _ (jt (h:=(by omega:fr.length-1<fr.length)))).2
  omega
 have hn:=E4 L (D+5) hL (ix fr ((fr.length:Int)-1)).sec (by omega)
 have hme:=JZ L (D+5) hL i (makNext (ix fr ((fr.length:Int)-1)).sec) (by have:=cB (hmk (hgi h3)).2.2.2.2.2.1;omega) (jx (nH _) (by omega))
 have ae:bU .i64 e 1=e+1:=by rw[aZ (by omega) (by omega)]
 simp only[g,br_false',nrows_map,iEq_self,nS,f1,cS,br_true',c1,hc2,bnd_some',gOwn_r,s1,u9,bo,hn,gStr_s,hme,sEq_bs,dB,ae];by_cases h7:cE i (makNext (ix fr ((fr.length:Int)-1)).sec)=[]
 ·rw[je h7,jd h7,br_true']
  rfl
 ·rw[jc h7,ji h7,br_false']
  rfl
end
end Kw
namespace Kw
open Go Go.Proofs
theorem arT{b rest:Bool}{A R:MV×List Obj}{X:Option (MV×List Obj)}(h:b=true->X=some (if rest=true then A else R)):br (bNot b) (some R) X=some (if(b&&rest)=true then A else R):=by
 cases b with
 |false=>rfl
 |true=>rw[h rfl];rfl
theorem JU(a b:Int):bNot (iLt a b)=decide (b<=a):=by
 rw[iLt_dec];by_cases h:a<b
 ·rw[jd h,ji (by omega)];rfl
 ·rw[ji h,jd (by omega)];rfl
section
variable (L D:Nat)
theorem akH(s:S):ev E L (D+1) 149 [.str (bs s),.str (bs [59])] []=some (.int .i64 (count s:Nat),[]):=by
 have h:E.ext 149=some A8:=rfl;have h2:A8 [.str (bs s),.str (bs [59])]=some (.int .i64 (count s:Nat)):=by
  show some (MV.int .i64 ((bs s).data.toList.count 59:Nat))=_;have:(bs s).data.toList=s:=rfl;rw[this];unfold count;rw[List.count_eq_length_filter]
 unfold ev;simp only[h,h2]
 rfl
set_option maxRecDepth 8000 in
theorem aa1(hL:1099511627776<=L)(w:Int)(lf key:S)(c:Commit)(zc:CBd c)(hl:lf.length<=500000)(hk:key.length<=500000):
 ev E L (D+314) 202 [.int .i64 w,.str (bs lf),.str (bs key),.agg (rC c)] []=some (match iP w lf key c with|some x=>(.tup [.agg (rM x),.bool true],[])|none=>(.tup [.agg (rM bI),.bool false],[])):=by
 rw[<-Q6];have e0:(match C0 w lf key c with|some x=>((.tup [.agg (rM x),.bool true],[]):MV×List Obj)|none=>(.tup [.agg (rM bI),.bool false],[]))=if(dJ c&&(decide (0<=c.add)&&(decide (c.add=w)&&(decide (makKey lf=c.leaf)&&(decide (makKey key=c.wkey)&&((secOk c.wss&&decide (c.wss.length<=292))&&memOk (qI w lf c)))))))=true then(.tup [.agg (rM (qI w lf c)),.bool true],[])else(.tup [.agg (rM bI),.bool false],[]):=by
  unfold C0;split
  ·rename_i h;split at h
   ·rename_i h2;rw[je h2];cases h;rfl
   ·cases h
  ·rename_i h;split at h
   ·cases h
   ·rename_i h2;rw[jc h2]
 rw[e0];have hco:=PC L (D+2) hL c zc;have hck:=fun h=>wI (c:=c) h
 obtain⟨c0,c1,c2,c3,c4,c5,c6,c7,c8,c9,c10,c11,c12⟩:=c;obtain⟨zc1,zc2,zc3,zc4,zc5,zc6,zc7,zc8,zc9,zc10,zc11,zc12⟩:=zc;simp only at zc1 zc2 zc3 zc4 zc5 zc6 zc7 zc8 zc9 zc10 zc11 zc12;change ev E L (D+313) 32 [.agg [.int .i64 c0,.str (bs c1),.str (bs c2),.int .i64 c3,.int .i64 c4,.str (bs c5),.sl (c6.map rS),.sl (c7.map rB),.str (bs c8),.str (bs c9),.str (bs c10),.str (bs c11),.str (bs c12)]] []=_ at hco;show ev E L (D+314) 202 [.int .i64 w,.str (bs lf),.str (bs key),.agg [.int .i64 c0,.str (bs c1),.str (bs c2),.int .i64 c3,.int .i64 c4,.str (bs c5),.sl (c6.map rS),.sl (c7.map rB),.str (bs c8),.str (bs c9),.str (bs c10),.str (bs c11),.str (bs c12)]] []=_;rw[apL];simp only[KM];rw[hco];simp only[bnd_some',gBool_b];refine lA fun k1=>?_
 obtain⟨hs,hkl,_,hsa,_,htl⟩:=hck k1;simp only at hs hkl hsa htl;rw[JU];refine PF fun k2=>?_
 have k2:=qw k2;rw[iEq_dec];refine lA fun k3=>?_
 have k3:=qw k3;subst k3;have hw:aI c3:=⟨k2,hsa.2.1⟩;rw[o7 L (D+5) hL lf (by omega)]
 simp only[bnd_some',gStr_s,sEq_bs];refine lA fun _=>?_
 rw[o7 L (D+5) hL key (by omega)]
 simp only[bnd_some',gStr_s,sEq_bs];refine lA fun _=>?_
 rw[PL L (D+6) hL c12 (by omega)]
 simp only[bnd_some',gBool_b];refine arT fun k4=>?_
 simp only[jg,jb]at k4;obtain⟨hs1,hs2⟩:=k4;have hcl:=cX L (D+312) (F:=48) (sz:=1) rfl (c6.map rS) (iC _) (by simp;omega)
 have hct:=akH L (D+312) c1;have hcn:count c1<=c1.length:=wa _ _;have m1:=pR L (D+312) c3 hw;have m2:=pR L (D+312) c0 hs;have m3:=UX L (D+310) hL (treLeaf c3) (treLeaf c0);have hmr:=pathOf_rng hw _ (GY hw hs).1;have ej:qI c3 lf ⟨c0,c1,c2,c3,c4,c5,c6,c7,c8,c9,c10,c11,c12⟩=⟨true,c3,c6,⟨treLeaf c3,lf⟩::pathGo (treMeet (treLeaf c3) (treLeaf c0)::bH (treMeet (treLeaf c3) (treLeaf c0))) c12,count c1+1,c10,c1++c2⟩:=rfl;rw[ej];generalize treMeet (treLeaf c3) (treLeaf c0)=nd at m3 hmr⊢;have m4:=XF L (D+309) hL nd;have hul:=ET nd;have m5:=HF L (D+3) hL (nd::bH nd) c12 (by simp) (by simp only[jf];omega) (by omega)
 have hpl:=BP (nd::bH nd) c12;have hpo:=qP (nd::bH nd) c12 hs1 (by simp only[jf];omega)
 have hnl:(nd::bH nd).length<=4:=by simp only[jf];omega
 generalize(nd::bH nd)=nodes at m4 m5 hpl hpo hnl⊢;generalize pathGo nodes c12=fr at m5 hpl hpo⊢;have er:[[MV.int .i64 (treLeaf c3),MV.str (bs lf)]]=([⟨treLeaf c3,lf⟩]:List Own).map rO:=rfl;have f1:eP (((([⟨treLeaf c3,lf⟩]:List Own).length:Nat):Int)) (fr.length:Int) 24=true:=aF _ _ _ (by simp only[jf,jk];omega)
 have cc:cG (([⟨treLeaf c3,lf⟩]:List Own).map rO) (fr.map rO)=((⟨treLeaf c3,lf⟩::fr:List Own)).map rO:=dW rO [⟨treLeaf c3,lf⟩] fr;have hc2:=cX L (D+312) (F:=188) (sz:=2) rfl ((⟨treLeaf c3,lf⟩::fr:List Own).map rO) (nS _) (by simp;omega)
 have hft:eP (sLen (bs c1)) (sLen (bs c2)) 1=true:=aF _ _ _ (by rw[sLen_bs,sLen_bs];omega)
 have ae:bU .i64 ((count c1:Nat):Int) 1=((count c1:Nat):Int)+1:=by rw[aZ (by omega) (by omega)]
 have hmo:=tB L (D+2) hL ⟨true,c3,c6,⟨treLeaf c3,lf⟩::fr,(count c1:Nat)+1,c10,c1++c2⟩ ⟨zc4,zc5,by simp only[jf];omega,fun o ho=>by
  rcases kw.1 ho with rfl|ho
  ·exact hl
  ·have:=(hpo o ho).2;omega,zc10,by simp only[jl];omega⟩
 change ev E L (D+313) 22 [.agg [.bool true,.int .i64 c3,.sl (c6.map rS),.sl ((⟨treLeaf c3,lf⟩::fr:List Own).map rO),.int .i64 ((count c1:Nat)+1),.str (bs c10),.str (bs (c1++c2))]] []=_ at hmo;simp only[hcl,hct,m1,m2,m3,m4,m5,bnd_some',gOwn_r,gInt_i,gSl_r,hft,br_true',er,iEq_self,nS,nrows_map,f1,cS,cc,hc2,ae,dB,hmo,gBool_b];cases memOk ⟨true,c3,c6,⟨treLeaf c3,lf⟩::fr,(count c1:Nat)+1,c10,c1++c2⟩with
 |false=>rfl
 |true=>rfl
theorem aa2(hL:1099511627776<=L)(m:Member)(z:MB m)(n:Int)(text:S)(ht:text.length<=500000):
 ev E L (D+314) 118 [.agg (rM m),.int .i64 n,.str (bs text)] []=some (match mZ m n text with|some x=>(.tup [.agg (rF x),.bool true],[])|none=>(.tup [.agg [.int .i64 0,.str (bs []),.int .i64 0,.str (bs [])],.bool false],[])):=by
 have hmo:=tB L (D+2) hL m z;have e0:(match mZ m n text with|some x=>((.tup [.agg (rF x),.bool true],[]):MV×List Obj)|none=>(.tup [.agg [.int .i64 0,.str (bs []),.int .i64 0,.str (bs [])],.bool false],[]))=if(memOk m&&(m.inn&&fraOk ⟨m.who,dK m.init m.who,n,text⟩))=true then(.tup [.agg (rF ⟨m.who,dK m.init m.who,n,text⟩),.bool true],[])else(.tup [.agg [.int .i64 0,.str (bs []),.int .i64 0,.str (bs [])],.bool false],[]):=by
  have hc:(memOk m&&(m.inn&&fraOk ⟨m.who,dK m.init m.who,n,text⟩))=true↔(memOk m=true/\m.inn=true/\1<=n/\n<=999/\mY text=true/\dK m.init m.who≠[]):=by
   unfold fraOk;simp only[jg,jb];constructor
   ·rintro⟨h1,h2,⟨h3,h4,h5,h6,h7⟩,h8⟩;refine⟨h1,h2,h6,h7,h8,fun h=>?_⟩
    rw[h]at h4;revert h4;decide+kernel
   ·rintro⟨h1,h2,h3,h4,h5,h6⟩;obtain⟨hw,_,_,_,_,hi,_⟩:=kO h1 h2;have hs:=Q7 hw h6;exact⟨h1,h2,⟨hw,hs.1,hs.2,h3,h4⟩,h5⟩
  unfold mZ;by_cases h:(memOk m&&(m.inn&&fraOk ⟨m.who,dK m.init m.who,n,text⟩))=true
  ·rw[je h,je (hc.1 h)]
  ·rw[jc h,jc (fun x=>h (hc.2 x))]
 rw[e0];obtain⟨b,w,ks,own,e,i,t⟩:=m;obtain⟨z1,z2,z3,z4,z5,z6⟩:=z;simp only at z1 z2 z3 z4 z5 z6;change ev E L (D+313) 22 [.agg [.bool b,.int .i64 w,.sl (ks.map rS),.sl (own.map rO),.int .i64 e,.str (bs i),.str (bs t)]] []=_ at hmo;show ev E L (D+314) 118 [.agg [.bool b,.int .i64 w,.sl (ks.map rS),.sl (own.map rO),.int .i64 e,.str (bs i),.str (bs t)],.int .i64 n,.str (bs text)] []=_;rw[aoV];simp only[KM];rw[R3 L (D+5) hL i w z5];simp only[bnd_some',gStr_s];rw[hmo];simp only[bnd_some',gBool_b];refine lA fun _=>?_
 refine lA fun _=>?_
 have hsl:(dK i w).length<=300:=by
  unfold dK;split
  ·exact HC _ _
  ·simp
 have hf:=PD L (D+2) hL ⟨w,dK i w,n,text⟩ (by show(dK i w).length<=_;omega) ht
 change ev E L (D+313) 43 [.agg [.int .i64 w,.str (bs (dK i w)),.int .i64 n,.str (bs text)]] []=_ at hf;simp only[hf,bnd_some',gBool_b];cases fraOk ⟨w,dK i w,n,text⟩with
 |false=>rfl
 |true=>rfl
end
end Kw
namespace Kw
theorem F3(n top:Int):∀l:List Int,seenGo n top l true=l.filter fun x=>!decide (x<=top-8)
 |[]=>rfl
 |x::r=>by
  have e:seenGo n top (x::r) true=(if true=false/\x<n then[n]else[])++(if top-8<x then[x]else[])++seenGo n top r (true||decide (x<n)):=rfl
  rw[e,Bool.true_or,F3 n top r,Ja];by_cases h:top-8<x
  ·rw[je h,ji (by omega:¬x<=top-8)];simp
  ·rw[jc h,jd (by omega:x<=top-8)];simp
theorem I5(n top:Int)(ht:top-8<n):∀l:List Int,n∉l->seenGo n top l false=(iH l n).filter fun x=>!decide (x<=top-8)
 |[],_=>by
  have e:iH [] n=[n]:=rfl;rw[e,Ja,ji (by omega:¬n<=top-8)]
  rfl
 |x::r,h=>by
  have e:seenGo n top (x::r) false=(if false=false/\x<n then[n]else[])++(if top-8<x then[x]else[])++seenGo n top r (false||decide (x<n)):=rfl
  have hne:x≠n:=fun e=>h (by simp[e])
  rw[e,Bool.false_or];by_cases hx:x<n
  ·have e2:iH (x::r) n=n::x::r:=by
    unfold iH;rw[List.takeWhile_cons,List.dropWhile_cons,ji (by omega:¬n<x)];rfl
   rw[je ⟨rfl,hx⟩,jd hx,F3,e2,Ja,ji (by omega:¬n<=top-8),Ja]
   by_cases h2:top-8<x
   ·rw[je h2,ji (by omega:¬x<=top-8)];simp
   ·rw[jc h2,jd (by omega:x<=top-8)];simp
  ·have e2:iH (x::r) n=x::iH r n:=by
    unfold iH;rw[List.takeWhile_cons,List.dropWhile_cons,jd (by omega:n<x)];rfl
   rw[jc (fun y=>hx y.2),ji hx,I5 n top ht r (fun y=>h (by simp[y])),e2,Ja]
   by_cases h2:top-8<x
   ·rw[je h2,ji (by omega:¬x<=top-8)];simp
   ·rw[jc h2,jd (by omega:x<=top-8)];simp
theorem F4(w:Win)(n:Int):winTake w n=if n∈w.seen\/n<=w.top-8 then none else some ⟨w.key,max w.top n,(iH w.seen n).filter fun x=>!decide (x<=max w.top n-8)⟩:=by
 unfold winTake;by_cases h:n∈w.seen\/n<=w.top-8
 ·rw[je h,je (h.symm)]
 ·rw[jc h,jc (fun x=>h x.symm),I5 n (max w.top n) (by omega) w.seen (fun x=>h (.inl x))]
def oU(wins:List Win):Bool:=(List.range wins.length).all fun k=>winOk (ix wins (k:Int))&&decide (winAt wins (ix wins (k:Int)).key 0=k)
structure WOk(w:World):Prop where
 seats:w.seats.length=8
 fresh:w.fresh.length=8
 said:w.said.length=8
 wins:w.wins.length=8
 log:w.log.length<=16
 waits:w.waits.length<=16
 frames:w.frames.length<=40
 stolen:w.stolen.length<=12
 spy:w.spy.length<=72
 told:w.told.length<=320
 mem:∀k:Nat,k<8->memOk (ix w.seats (k:Int))=true/\((ix w.seats (k:Int)).inn=true->(ix w.seats (k:Int)).who=k)
 freshI:∀n∈w.fresh,0<=n/\n<=99
 saidI:∀n∈w.said,0<=n/\n<=999
 winsI:∀l∈w.wins,oU l=true
 logI:∀c∈w.log,dJ c=true
 waitsI:∀x∈w.waits,aI x.who/\(0<=x.pos/\x.pos<w.log.length)/\secOk x.leaf=true/\secOk x.key=true
 spyI:∀s∈w.spy,secOk s=true
 stolenI:∀x∈w.stolen,aI x.who/\x.tag.length<=300
 framesI:∀f∈w.frames,fraOk f=true
 toldI:∀x∈w.told,aI x.who/\(0<=x.pos/\x.pos<w.frames.length)
end Kw
namespace Kw
open Go Go.Proofs
theorem o6(N:Nat)(p:Nat->Bool)(F:Nat->Int->Option (MV×List Obj))(fin bad:Option (MV×List Obj))
 (h1:∀(n k:Nat),k<N->F (n+1) (k:Nat)=if p k=true then F n ((k+1:Nat):Int)else bad)
 (h2:∀n:Nat,F (n+1) (N:Nat)=fin):∀m k:Nat,N<m+k->k<=N->F m (k:Nat)=if(List.range' k (N-k)).all p=true then fin else bad
 |0,k,h,hk=>by omega
 |m+1,k,h,hk=>by
  by_cases hlt:k<N
  ·rw[h1 m k hlt,o6 N p F fin bad h1 h2 m (k+1) (by omega) (by omega)]
   rw[show N-k=(N-(k+1))+1 by omega,List.range'_succ,we]
   cases p k with
   |true=>rw[ka,je rfl]
   |false=>rw[yj,jc (by simp),jc (by simp)]
  ·have e:k=N:=by omega
   subst e;rw[h2 m,Nat.sub_self];rfl
section
variable (L D:Nat)
theorem akI(hL:1099511627776<=L)(x:Win)(hk:x.key.length<=500000)(hs:x.seen.length<=1000000):ev E L (D+306) 72 [.agg [.str (bs x.key),.int .i64 x.top,.sl (x.seen.map rI)]] []=some (.bool (winOk x),[]):=by
 obtain⟨key,top,seen⟩:=x;simp only at hk hs⊢;have e:winOk ⟨key,top,seen⟩=(decide ((aN key).op=5)&&((decide (1<=top)&&decide (top<=999))&&(decide (seen≠[])&&(decide (ix seen 0=top)&&(List.range seen.length).all fun k=>decide (1<=ix seen (k:Int))&&(decide (top-8<ix seen (k:Int))&&decide (k=0\/ix seen (k:Int)<ix seen ((k-1:Nat):Int))))))):=by
  unfold winOk;apply yb.2;simp only[jg,jb,ku,qy];constructor
  ·rintro⟨⟨h1,h2,h3,h4,h5⟩,h6⟩;refine⟨h1,⟨h2,h3⟩,h4,h5,fun k hk=>?_⟩
   rcases h6 k hk with h|h
   ·subst h;exact⟨by rw[show((0:Nat):Int)=0 from rfl,h5];omega,by rw[show((0:Nat):Int)=0 from rfl,h5];omega,.inl rfl⟩
   ·exact⟨h.2.2,h.2.1,.inr h.1⟩
  ·rintro⟨h1,⟨h2,h3⟩,h4,h5,h6⟩;refine⟨⟨h1,h2,h3,h4,h5⟩,fun k hk=>?_⟩
   obtain⟨a,b,c⟩:=h6 k hk;rcases c with c|c
   ·exact .inl c
   ·exact .inr ⟨c,b,a⟩
 rw[e,auA];simp only[KM];rw[E3 L D hL key (by omega)]
 simp only[bnd_some',gAggN_if,jf,jk,ju,cellAt_zero,cellAt_succ,gInt_i,gStr_s,iEq_dec];refine oZ fun _=>?_
 rw[jW];simp only[bnd_some',gBool_b];refine oZ fun ht=>?_
 simp only[jg,jb]at ht;have guard1:∀{b:Bool} {X:Option (MV×List Obj)} {r:Bool},(b=true->X=some (.bool r,[]))->br b X (some (.bool false,[]))=some (.bool (b&&r),[]):=fun{b} {X} {r} h=>by
  cases b with
  |false=>rfl
  |true=>rw[h rfl];rfl
 have e1:bNot (decide (nrows (seen.map rI)=0))=decide (seen≠[]):=by
  rw[nrows_map];cases seen with
  |nil=>rfl
  |cons a r=>rw[ji (by simp only[jf];omega)];rfl
 rw[e1];refine guard1 fun hne=>?_
 have hne:=qw hne;have hpos:0<seen.length:=v9.2 hne;have u0:=aY (0:Int) seen (by omega) (by omega)
 have ci:∀n:Int,d9 .i64 (aD (rI n) 0)=some n:=fun _=>rfl
 simp only[u0,bnd_some',ci];cases decide (ix seen 0=top)with
 |false=>rfl
 |true=>
  rw[bNot_t,br_false',ka,nrows_map];have key1:=o6 seen.length (fun k=>decide (1<=ix seen (k:Int))&&(decide (top-8<ix seen (k:Int))&&decide (k=0\/ix seen (k:Int)<ix seen ((k-1:Nat):Int)))) (fun m k=>sW L (D+305) m (bs key) top (seen.map rI) (seen.map rI) seen.length k) (some (.bool true,[])) (some (.bool false,[])) (fun n k hk=>?_) (fun n=>?_) L 0 (by omega) (by omega)
  ·rw[Nat.sub_zero,<-List.range_eq_range']at key1;refine Eq.trans key1 ?_;split
   ·rename_i h;rw[h]
   ·rename_i h;rw[wg.2 h]
  ·show sW L (D+305) (n+1) _ _ _ _ _ _=_;rw[C9];simp only[KM];have g:iLt (k:Int) (seen.length:Int)=true:=by rw[iLt_dec,jb];omega
   have a1:bU .i64 (k:Int) 1=((k+1:Nat):Int):=aH _ (by omega)
   have a2:hJ .i64 top 8=top-8:=dR (by omega) (by omega)
   have u:=aY (k:Int) seen (by omega) (by omega)
   have c2:bNot (iLe (ix seen (k:Int)) (top-8))=decide (top-8<ix seen (k:Int)):=by
    rw[iLe_dec];by_cases h:top-8<ix seen (k:Int)
    ·rw[jd h,ji (by omega)];rfl
    ·rw[ji h,jd (by omega)];rfl
   simp only[g,br_true',u,bnd_some',ci,JU,a2,c2,a1];cases decide (1<=ix seen (k:Int))with
   |false=>rfl
   |true=>
    rw[br_true',ka];cases decide (top-8<ix seen (k:Int))with
    |false=>rfl
    |true=>
     rw[br_true',ka];by_cases h0:k=0
     ·have g0:iLt 0 (k:Int)=false:=by rw[iLt_dec,jh];omega
      rw[g0,br_false',je (jd (.inl h0))]
     ·have g0:iLt 0 (k:Int)=true:=by rw[iLt_dec,jb];omega
      have a3:hJ .i64 (k:Int) 1=((k-1:Nat):Int):=by rw[dR (by omega) (by omega)];omega
      have u2:=aY ((k-1:Nat):Int) seen (by omega) (by omega)
      simp only[g0,br_true',a3,u2,bnd_some',ci,iLe_dec];by_cases h1:ix seen (k:Int)<ix seen ((k-1:Nat):Int)
      ·rw[ji (by omega),br_false',je (jd (.inr h1))]
      ·rw[jd (by omega),br_true',jc]
       intro h;rcases qw h with h|h
       ·exact h0 h
       ·exact h1 h
  ·show sW L (D+305) (n+1) _ _ _ _ _ _=_;rw[C9];simp only[KM];have g:iLt (seen.length:Int) (seen.length:Int)=false:=by rw[iLt_dec,jh];omega
   rw[g,br_false']
theorem HA:∀(l:List Win) (key:S) (k:Nat),winAt l key k=sY (fun w=>decide (w.key=key)) l k
 |[],_,_=>rfl
 |a::r,key,k=>by
  have ih:=HA r key (k+1);show(if a.key=key then(k:Int)else winAt r key (k+1))=if decide (a.key=key)=true then(k:Int)else sY _ r (k+1)
  rw[ih];simp only[jb]
theorem XA(hL:1099511627776<=L)(wins:List Win)(key:S)(hl:wins.length<=1000000):ev E L (D+3) 73 [.sl (wins.map rW),.str (bs key)] []=some (.int .i64 (winAt wins key 0),[]):=by
 rw[auB];simp only[KM];rw[ZR,nrows_map,HA];have key1:=e7 wins (fun w=>decide (w.key=key)) [.cells [.str (bs key)]] (fun m k=>lL L (D+1) m (bs key) (wins.map rW) wins.length k) (fun n k hk=>?_) (fun n=>?_) L 0 (by omega) (by omega)
 ·refine Eq.trans (wo (fun x=>bnd x _) key1) ?_
  rfl
 ·show lL L (D+1) (n+1) _ _ _ _=_;rw[qY];simp only[KM];have g:iLt (k:Int) (wins.length:Int)=true:=by rw[iLt_dec,jb];omega
  have a1:bU .i64 (k:Int) 1=((k+1:Nat):Int):=aH _ (by omega)
  have u:=sF (k:Int) wins (by omega) (by omega)
  rw[aM wins k hk]at u;have c0:∀o:Win,d6 (aD (rW o) 0)=some (bs o.key):=fun _=>rfl
  have c1:∀o:Win,d9 .i64 (aD (rW o) 1)=some o.top:=fun _=>rfl
  have c2:∀o:Win,gSl (aD (rW o) 2)=some (o.seen.map rI):=fun _=>rfl
  simp only[g,br_true',u,bnd_some',c0,c1,c2,ap7,sEq_bs,jY,bM,jf,jk,ju,cellAt_zero,gStr_s,gBool_b,a1,↓KM];rw[bC]
 ·show lL L (D+1) (n+1) _ _ _ _=_;rw[qY];simp only[KM];have g:iLt (wins.length:Int) (wins.length:Int)=false:=by rw[iLt_dec,jh];omega
  rw[g,br_false']
theorem RY(hL:1099511627776<=L)(wins:List Win)(hl:wins.length<=1000000)(hb:∀x∈wins,x.key.length<=500000/\x.seen.length<=1000000):ev E L (D+307) 29 [.sl (wins.map rW)] []=some (.bool (oU wins),[]):=by
 rw[atQ,nrows_map];have key1:=o6 wins.length (fun k=>winOk (ix wins (k:Int))&&decide (winAt wins (ix wins (k:Int)).key 0=k)) (fun m k=>yV L (D+306) m (wins.map rW) (wins.map rW) wins.length k) (some (.bool true,[])) (some (.bool false,[])) (fun n k hk=>?_) (fun n=>?_) L 0 (by omega) (by omega)
 ·rw[Nat.sub_zero,<-List.range_eq_range']at key1;refine Eq.trans key1 ?_;unfold oU;split
  ·rename_i h;rw[h]
  ·rename_i h;rw[wg.2 h]
 ·show yV L (D+306) (n+1) _ _ _ _=_;rw[C5];simp only[KM];have g:iLt (k:Int) (wins.length:Int)=true:=by rw[iLt_dec,jb];omega
  have a1:bU .i64 (k:Int) 1=((k+1:Nat):Int):=aH _ (by omega)
  have u:=sF (k:Int) wins (by omega) (by omega)
  have hm:ix wins (k:Int)∈wins:=by rw[aM wins k hk];exact jt hk
  have c0:∀o:Win,d6 (aD (rW o) 0)=some (bs o.key):=fun _=>rfl
  have c1:∀o:Win,d9 .i64 (aD (rW o) 1)=some o.top:=fun _=>rfl
  have c2:∀o:Win,gSl (aD (rW o) 2)=some (o.seen.map rI):=fun _=>rfl
  have h1:=akI L D hL (ix wins (k:Int)) (hb _ hm).1 (hb _ hm).2;have h2:=XA L (D+303) hL wins (ix wins (k:Int)).key hl;simp only[g,br_true',u,bnd_some',c0,c1,c2,h1,h2,gBool_b,gInt_i,iEq_dec,a1];cases winOk (ix wins (k:Int))with
  |false=>rfl
  |true=>
   simp only[bNot_t,bNot_f,br_true',ka,jb];by_cases h3:winAt wins (ix wins (k:Int)).key 0=k
   ·rw[je h3,jd h3];rfl
   ·rw[jc h3,ji h3];rfl
 ·show yV L (D+306) (n+1) _ _ _ _=_;rw[C5];simp only[KM];have g:iLt (wins.length:Int) (wins.length:Int)=false:=by rw[iLt_dec,jh];omega
  rw[g,br_false']
theorem pN{A:Type} [Inhabited A](l:List A)(k:Nat):l.set k (ix l (k:Int))=l:=by
 by_cases h:k<l.length
 ·rw[aM l k h];exact List.set_getElem_self h
 ·exact List.set_eq_of_length_le (by omega)
theorem RZ(wins:List Win)(hl:wins.length<=1000000)(hb:∀x∈wins,x.seen.length<=1000000):∀m k:Nat,wins.length<m+k->k<=wins.length->
 DA L (D+1) m (wins.map rW) wins.length (wins.map rW) wins.length k=some (.own (wins.map rW),[])
 |0,k,h,hk=>by omega
 |m+1,k,h,hk=>by
  rw[KU];simp only[KM];by_cases hlt:k<wins.length
  ·have g:iLt (k:Int) (wins.length:Int)=true:=by rw[iLt_dec,jb];omega
   have a1:bU .i64 (k:Int) 1=((k+1:Nat):Int):=aH _ (by omega)
   have u:=sF (k:Int) wins (by omega) (by omega)
   have u2:=GS wins (k:Int) (by omega) (by omega)
   have hm:ix wins (k:Int)∈wins:=by rw[aM wins k hlt];exact jt hlt
   have c0:∀o:Win,d6 (aD (rW o) 0)=some (bs o.key):=fun _=>rfl
   have c1:∀o:Win,d9 .i64 (aD (rW o) 1)=some o.top:=fun _=>rfl
   have c2:∀o:Win,gSl (aD (rW o) 2)=some (o.seen.map rI):=fun _=>rfl
   have hc:=cX L D (F:=108) (sz:=1) rfl ((ix wins (k:Int)).seen.map rI) (kM _) (by rw[jz];have:=hb _ hm;omega)
   have lr:iLe 3 (eF (rW (ix wins (k:Int))))=true:=rfl;have sr:setRow (rW (ix wins (k:Int))) 2 [MV.sl ((ix wins (k:Int)).seen.map rI)]=rW (ix wins (k:Int)):=rfl;have st:setR (wins.map rW) (k:Int) (rW (ix wins (k:Int)))=wins.map rW:=by rw[eV rW,ki,pN]
   simp only[g,br_true',u,u2,bnd_some',c0,c1,c2,hc,gOwn_r,nrows_map,iEq_self,lr,sr,st,a1];exact RZ wins hl hb m (k+1) (by omega) (by omega)
  ·have g:iLt (k:Int) (wins.length:Int)=false:=by rw[iLt_dec,jh];omega
   rw[g,br_false',nrows_map,iEq_self,br_true']
theorem XB(hL:1099511627776<=L)(wins:List Win)(hl:wins.length<=1000000)(hb:∀x∈wins,x.seen.length<=1000000):ev E L (D+2) 114 [.sl (wins.map rW)] []=some (.own (wins.map rW),[]):=by
 rw[aoS];simp only[KM];rw[cX L D (F:=189) (sz:=3) rfl (wins.map rW) (H3 _) (by rw[jz];omega)]
 simp only[bnd_some',gOwn_r,nrows_map];exact RZ L D wins hl hb L 0 (by omega) (by omega)
end
end Kw
namespace Kw
open Go Go.Proofs
structure WSzI(w:World):Prop where
 seats:w.seats.length<=1000000
 waits:w.waits.length<=1000000
 log:w.log.length<=1000000
 fresh:w.fresh.length<=1000000
 spy:w.spy.length<=1000000
 stolen:w.stolen.length<=1000000
 frames:w.frames.length<=1000000
 said:w.said.length<=1000000
 wins:w.wins.length<=1000000
 told:w.told.length<=1000000
 mem:∀m∈w.seats,MB m
 cmt:∀c∈w.log,c.keys.length<=1000000/\c.boxes.length<=1000000
 win:∀l∈w.wins,l.length<=1000000/\∀x∈l,x.seen.length<=1000000
def wS(w:World):List MV:=[.sl (w.seats.map rM),.sl (w.waits.map rWt),.sl (w.log.map rC),.sl (w.fresh.map rI),.sl (w.spy.map rS),.sl (w.stolen.map rSt),.sl (w.frames.map rF),.sl (w.said.map rI),.sl (w.wins.map rWs),.sl (w.told.map rT)]
def wO(w:World):List MV:=[.own (w.seats.map rM),.own (w.waits.map rWt),.own (w.log.map rC),.own (w.fresh.map rI),.own (w.spy.map rS),.own (w.stolen.map rSt),.own (w.frames.map rF),.own (w.said.map rI),.own (w.wins.map rWs),.own (w.told.map rT)]
def wK(w:World):List MV:=[.own (w.seats.map rM),.ownK (w.waits.map rWt),.own (w.log.map rC),.own (w.fresh.map rI),.own (w.spy.map rS),.own (w.stolen.map rSt),.own (w.frames.map rF),.own (w.said.map rI),.own (w.wins.map rWs),.own (w.told.map rT)]
section
variable (L D:Nat)
theorem aa4(hL:1099511627776<=L)(w:World)(z:WSzI w):mF L (D+4) L [] [] [] [] [] [] [] [] [] [] (w.seats.map rM) (w.waits.map rWt) (w.log.map rC) (w.fresh.map rI) (w.spy.map rS) (w.stolen.map rSt) (w.frames.map rF) (w.said.map rI) (w.wins.map rWs) (w.told.map rT) (nrows []) (nrows []) (nrows []) (nrows []) (nrows []) (nrows []) (nrows []) (nrows []) (nrows []) (nrows []) (w.seats.length:Nat) (w.waits.length:Nat) (w.log.length:Nat) (w.fresh.length:Nat) (w.spy.length:Nat) (w.stolen.length:Nat) (w.frames.length:Nat) (w.said.length:Nat) (w.wins.length:Nat) (w.told.length:Nat) (w.wins.map rWs) (w.wins.length:Nat) 0=some (.agg (wO w),[]):=by
 refine Eq.trans (o6 w.wins.length (fun _=>true) (fun m k=>mF L (D+4) m [] [] [] [] [] [] [] [] [] [] (w.seats.map rM) (w.waits.map rWt) (w.log.map rC) (w.fresh.map rI) (w.spy.map rS) (w.stolen.map rSt) (w.frames.map rF) (w.said.map rI) (w.wins.map rWs) (w.told.map rT) (nrows []) (nrows []) (nrows []) (nrows []) (nrows []) (nrows []) (nrows []) (nrows []) (nrows []) (nrows []) (w.seats.length:Nat) (w.waits.length:Nat) (w.log.length:Nat) (w.fresh.length:Nat) (w.spy.length:Nat) (w.stolen.length:Nat) (w.frames.length:Nat) (w.said.length:Nat) (w.wins.length:Nat) (w.told.length:Nat) (w.wins.map rWs) (w.wins.length:Nat) k) (some (.agg (wO w),[])) none (fun n k hk=>?_) (fun n=>?_) L 0 (by have:=z.wins;omega) (by omega)) (by simp)
 ·show mF L (D+4) (n+1) _ _ _ _ _ _ _ _ _ _ _ _ _ _ _ _ _ _ _ _ _ _ _ _ _ _ _ _ _ _ _ _ _ _ _ _ _ _ _ _ _ _ _=_;rw[AO];simp only[KM];rw[je trivial];have hw:=z.wins;have g:iLt (k:Int) (w.wins.length:Int)=true:=by rw[iLt_dec,jb];omega
  have a1:bU .i64 (k:Int) 1=((k+1:Nat):Int):=aH _ (by omega)
  have u:=eA (k:Int) w.wins (by omega) (by omega)
  have u2:=dV w.wins (k:Int) (by omega) (by omega)
  have hm:ix w.wins (k:Int)∈w.wins:=by rw[aM w.wins k hk];exact jt hk
  have hc:=XB L (D+2) hL (ix w.wins (k:Int)) (z.win _ hm).1 (z.win _ hm).2;have s0:∀l:List Win,gSl (aD (rWs l) 0)=some (l.map rW):=fun _=>rfl
  have lr:iLe 1 (eF (rWs (ix w.wins (k:Int))))=true:=rfl;have sr:setRow (rWs (ix w.wins (k:Int))) 0 [MV.sl ((ix w.wins (k:Int)).map rW)]=rWs (ix w.wins (k:Int)):=rfl;have st:setR (w.wins.map rWs) (k:Int) (rWs (ix w.wins (k:Int)))=w.wins.map rWs:=by rw[eV rWs,ki,pN]
  simp only[g,br_true',u,u2,bnd_some',s0,hc,gOwn_r,nrows_map,iEq_self,lr,sr,st,a1]
 ·show mF L (D+4) (n+1) _ _ _ _ _ _ _ _ _ _ _ _ _ _ _ _ _ _ _ _ _ _ _ _ _ _ _ _ _ _ _ _ _ _ _ _ _ _ _ _ _ _ _=_;rw[AO];simp only[KM];have g:iLt (w.wins.length:Int) (w.wins.length:Int)=false:=by rw[iLt_dec,jh];omega
  simp only[g,br_false',nrows_map,iEq_self,br_true']
  rfl
theorem aeM(hL:1099511627776<=L)(w:World)(z:WSzI w):nZ L (D+4) L [] [] [] [] [] [] [] [] [] [] (w.seats.map rM) (w.waits.map rWt) (w.log.map rC) (w.fresh.map rI) (w.spy.map rS) (w.stolen.map rSt) (w.frames.map rF) (w.said.map rI) (w.wins.map rWs) (w.told.map rT) (w.seats.map rM) (w.waits.map rWt) (w.log.map rC) (w.fresh.map rI) (w.spy.map rS) (w.stolen.map rSt) (w.frames.map rF) (w.said.map rI) (w.wins.map rWs) (w.told.map rT) (nrows []) (nrows []) (nrows []) (nrows []) (nrows []) (nrows []) (nrows []) (nrows []) (nrows []) (nrows []) (w.seats.length:Nat) (w.waits.length:Nat) (w.log.length:Nat) (w.fresh.length:Nat) (w.spy.length:Nat) (w.stolen.length:Nat) (w.frames.length:Nat) (w.said.length:Nat) (w.wins.length:Nat) (w.told.length:Nat) (w.log.map rC) (w.log.length:Nat) 0=mF L (D+4) L [] [] [] [] [] [] [] [] [] [] (w.seats.map rM) (w.waits.map rWt) (w.log.map rC) (w.fresh.map rI) (w.spy.map rS) (w.stolen.map rSt) (w.frames.map rF) (w.said.map rI) (w.wins.map rWs) (w.told.map rT) (nrows []) (nrows []) (nrows []) (nrows []) (nrows []) (nrows []) (nrows []) (nrows []) (nrows []) (nrows []) (w.seats.length:Nat) (w.waits.length:Nat) (w.log.length:Nat) (w.fresh.length:Nat) (w.spy.length:Nat) (w.stolen.length:Nat) (w.frames.length:Nat) (w.said.length:Nat) (w.wins.length:Nat) (w.told.length:Nat) (w.wins.map rWs) (nrows (w.wins.map rWs)) 0:=by
 refine Eq.trans (o6 w.log.length (fun _=>true) (fun m k=>nZ L (D+4) m [] [] [] [] [] [] [] [] [] [] (w.seats.map rM) (w.waits.map rWt) (w.log.map rC) (w.fresh.map rI) (w.spy.map rS) (w.stolen.map rSt) (w.frames.map rF) (w.said.map rI) (w.wins.map rWs) (w.told.map rT) (w.seats.map rM) (w.waits.map rWt) (w.log.map rC) (w.fresh.map rI) (w.spy.map rS) (w.stolen.map rSt) (w.frames.map rF) (w.said.map rI) (w.wins.map rWs) (w.told.map rT) (nrows []) (nrows []) (nrows []) (nrows []) (nrows []) (nrows []) (nrows []) (nrows []) (nrows []) (nrows []) (w.seats.length:Nat) (w.waits.length:Nat) (w.log.length:Nat) (w.fresh.length:Nat) (w.spy.length:Nat) (w.stolen.length:Nat) (w.frames.length:Nat) (w.said.length:Nat) (w.wins.length:Nat) (w.told.length:Nat) (w.log.map rC) (w.log.length:Nat) k) (mF L (D+4) L [] [] [] [] [] [] [] [] [] [] (w.seats.map rM) (w.waits.map rWt) (w.log.map rC) (w.fresh.map rI) (w.spy.map rS) (w.stolen.map rSt) (w.frames.map rF) (w.said.map rI) (w.wins.map rWs) (w.told.map rT) (nrows []) (nrows []) (nrows []) (nrows []) (nrows []) (nrows []) (nrows []) (nrows []) (nrows []) (nrows []) (w.seats.length:Nat) (w.waits.length:Nat) (w.log.length:Nat) (w.fresh.length:Nat) (w.spy.length:Nat) (w.stolen.length:Nat) (w.frames.length:Nat) (w.said.length:Nat) (w.wins.length:Nat) (w.told.length:Nat) (w.wins.map rWs) (nrows (w.wins.map rWs)) 0) none (fun n k hk=>?_) (fun n=>?_) L 0 (by have:=z.log;omega) (by omega)) (by simp)
 ·show nZ L (D+4) (n+1) _ _ _ _ _ _ _ _ _ _ _ _ _ _ _ _ _ _ _ _ _ _ _ _ _ _ _ _ _ _ _ _ _ _ _ _ _ _ _ _ _ _ _ _ _ _ _ _ _ _ _ _ _=_;rw[C7];simp only[KM];rw[je trivial];have hw:=z.log;have g:iLt (k:Int) (w.log.length:Int)=true:=by rw[iLt_dec,jb];omega
  have a1:bU .i64 (k:Int) 1=((k+1:Nat):Int):=aH _ (by omega)
  have u:=nK (k:Int) w.log (by omega) (by omega)
  have u2:=mX w.log (k:Int) (by omega) (by omega)
  have hm:ix w.log (k:Int)∈w.log:=by rw[aM w.log k hk];exact jt hk
  obtain⟨z1,z2⟩:=z.cmt _ hm;have h1:=cX L (D+3) (F:=48) (sz:=1) rfl ((ix w.log (k:Int)).keys.map rS) (iC _) (by rw[jz];omega)
  have h2:=cX L (D+3) (F:=92) (sz:=2) rfl ((ix w.log (k:Int)).boxes.map rB) (MG _) (by rw[jz];omega)
  have c0:∀c:Commit,d9 .i64 (aD (rC c) 0)=some c.sender:=fun _=>rfl
  have c1:∀c:Commit,d6 (aD (rC c) 1)=some (bs c.tag):=fun _=>rfl
  have c2:∀c:Commit,d6 (aD (rC c) 2)=some (bs c.name):=fun _=>rfl
  have c3:∀c:Commit,d9 .i64 (aD (rC c) 3)=some c.add:=fun _=>rfl
  have c4:∀c:Commit,d9 .i64 (aD (rC c) 4)=some c.remove:=fun _=>rfl
  have c5:∀c:Commit,d6 (aD (rC c) 5)=some (bs c.leaf):=fun _=>rfl
  have c6:∀c:Commit,gSl (aD (rC c) 6)=some (c.keys.map rS):=fun _=>rfl
  have c7:∀c:Commit,gSl (aD (rC c) 7)=some (c.boxes.map rB):=fun _=>rfl
  have c8:∀c:Commit,d6 (aD (rC c) 8)=some (bs c.wkey):=fun _=>rfl
  have c9:∀c:Commit,d6 (aD (rC c) 9)=some (bs c.wik):=fun _=>rfl
  have c10:∀c:Commit,d6 (aD (rC c) 10)=some (bs c.wis):=fun _=>rfl
  have c11:∀c:Commit,d6 (aD (rC c) 11)=some (bs c.wsk):=fun _=>rfl
  have c12:∀c:Commit,d6 (aD (rC c) 12)=some (bs c.wss):=fun _=>rfl
  have lr:iLe 7 (eF (rC (ix w.log (k:Int))))=true:=rfl;have lr2:iLe 8 (eF (rC (ix w.log (k:Int))))=true:=rfl;have sr:setRow (rC (ix w.log (k:Int))) 6 [MV.sl ((ix w.log (k:Int)).keys.map rS)]=rC (ix w.log (k:Int)):=rfl;have sr2:setRow (rC (ix w.log (k:Int))) 7 [MV.sl ((ix w.log (k:Int)).boxes.map rB)]=rC (ix w.log (k:Int)):=rfl;have st:setR (w.log.map rC) (k:Int) (rC (ix w.log (k:Int)))=w.log.map rC:=by rw[eV rC,ki,pN]
  simp only[g,br_true',u,u2,bnd_some',c0,c1,c2,c3,c4,c5,c6,c7,c8,c9,c10,c11,c12,h1,h2,gOwn_r,nrows_map,iEq_self,lr,lr2,sr,sr2,st,a1]
 ·show nZ L (D+4) (n+1) _ _ _ _ _ _ _ _ _ _ _ _ _ _ _ _ _ _ _ _ _ _ _ _ _ _ _ _ _ _ _ _ _ _ _ _ _ _ _ _ _ _ _ _ _ _ _ _ _ _ _ _ _=_;rw[C7];simp only[KM];have g:iLt (w.log.length:Int) (w.log.length:Int)=false:=by rw[iLt_dec,jh];omega
  rw[g,br_false']
theorem JW(hL:1099511627776<=L)(w:World)(z:WSzI w):sV L (D+4) L [] [] [] [] [] [] [] [] [] [] (w.seats.map rM) (w.waits.map rWt) (w.log.map rC) (w.fresh.map rI) (w.spy.map rS) (w.stolen.map rSt) (w.frames.map rF) (w.said.map rI) (w.wins.map rWs) (w.told.map rT) (w.seats.map rM) (w.waits.map rWt) (w.log.map rC) (w.fresh.map rI) (w.spy.map rS) (w.stolen.map rSt) (w.frames.map rF) (w.said.map rI) (w.wins.map rWs) (w.told.map rT) (nrows []) (nrows []) (nrows []) (nrows []) (nrows []) (nrows []) (nrows []) (nrows []) (nrows []) (nrows []) (w.seats.length:Nat) (w.waits.length:Nat) (w.log.length:Nat) (w.fresh.length:Nat) (w.spy.length:Nat) (w.stolen.length:Nat) (w.frames.length:Nat) (w.said.length:Nat) (w.wins.length:Nat) (w.told.length:Nat) (w.seats.map rM) (w.seats.length:Nat) 0=nZ L (D+4) L [] [] [] [] [] [] [] [] [] [] (w.seats.map rM) (w.waits.map rWt) (w.log.map rC) (w.fresh.map rI) (w.spy.map rS) (w.stolen.map rSt) (w.frames.map rF) (w.said.map rI) (w.wins.map rWs) (w.told.map rT) (w.seats.map rM) (w.waits.map rWt) (w.log.map rC) (w.fresh.map rI) (w.spy.map rS) (w.stolen.map rSt) (w.frames.map rF) (w.said.map rI) (w.wins.map rWs) (w.told.map rT) (nrows []) (nrows []) (nrows []) (nrows []) (nrows []) (nrows []) (nrows []) (nrows []) (nrows []) (nrows []) (w.seats.length:Nat) (w.waits.length:Nat) (w.log.length:Nat) (w.fresh.length:Nat) (w.spy.length:Nat) (w.stolen.length:Nat) (w.frames.length:Nat) (w.said.length:Nat) (w.wins.length:Nat) (w.told.length:Nat) (w.log.map rC) (nrows (w.log.map rC)) 0:=by
 refine Eq.trans (o6 w.seats.length (fun _=>true) (fun m k=>sV L (D+4) m [] [] [] [] [] [] [] [] [] [] (w.seats.map rM) (w.waits.map rWt) (w.log.map rC) (w.fresh.map rI) (w.spy.map rS) (w.stolen.map rSt) (w.frames.map rF) (w.said.map rI) (w.wins.map rWs) (w.told.map rT) (w.seats.map rM) (w.waits.map rWt) (w.log.map rC) (w.fresh.map rI) (w.spy.map rS) (w.stolen.map rSt) (w.frames.map rF) (w.said.map rI) (w.wins.map rWs) (w.told.map rT) (nrows []) (nrows []) (nrows []) (nrows []) (nrows []) (nrows []) (nrows []) (nrows []) (nrows []) (nrows []) (w.seats.length:Nat) (w.waits.length:Nat) (w.log.length:Nat) (w.fresh.length:Nat) (w.spy.length:Nat) (w.stolen.length:Nat) (w.frames.length:Nat) (w.said.length:Nat) (w.wins.length:Nat) (w.told.length:Nat) (w.seats.map rM) (w.seats.length:Nat) k) (nZ L (D+4) L [] [] [] [] [] [] [] [] [] [] (w.seats.map rM) (w.waits.map rWt) (w.log.map rC) (w.fresh.map rI) (w.spy.map rS) (w.stolen.map rSt) (w.frames.map rF) (w.said.map rI) (w.wins.map rWs) (w.told.map rT) (w.seats.map rM) (w.waits.map rWt) (w.log.map rC) (w.fresh.map rI) (w.spy.map rS) (w.stolen.map rSt) (w.frames.map rF) (w.said.map rI) (w.wins.map rWs) (w.told.map rT) (nrows []) (nrows []) (nrows []) (nrows []) (nrows []) (nrows []) (nrows []) (nrows []) (nrows []) (nrows []) (w.seats.length:Nat) (w.waits.length:Nat) (w.log.length:Nat) (w.fresh.length:Nat) (w.spy.length:Nat) (w.stolen.length:Nat) (w.frames.length:Nat) (w.said.length:Nat) (w.wins.length:Nat) (w.told.length:Nat) (w.log.map rC) (nrows (w.log.map rC)) 0) none (fun n k hk=>?_) (fun n=>?_) L 0 (by have:=z.seats;omega) (by omega)) (by simp)
 ·show sV L (D+4) (n+1) _ _ _ _ _ _ _ _ _ _ _ _ _ _ _ _ _ _ _ _ _ _ _ _ _ _ _ _ _ _ _ _ _ _ _ _ _ _ _ _ _ _ _ _ _ _ _ _ _ _ _ _ _=_;rw[C6];simp only[KM];rw[je trivial];have hw:=z.seats;have g:iLt (k:Int) (w.seats.length:Int)=true:=by rw[iLt_dec,jb];omega
  have a1:bU .i64 (k:Int) 1=((k+1:Nat):Int):=aH _ (by omega)
  have u:=bL (k:Int) w.seats (by omega) (by omega)
  have u2:=bE w.seats (k:Int) (by omega) (by omega)
  have hm:ix w.seats (k:Int)∈w.seats:=by rw[aM w.seats k hk];exact jt hk
  have h1:=W2 L (D+1) (ix w.seats (k:Int)) (z.mem _ hm);have st:setR (w.seats.map rM) (k:Int) (rM (ix w.seats (k:Int)))=w.seats.map rM:=by rw[eV rM,ki,pN]
  generalize ix w.seats (k:Int)=q at u u2 h1 st;obtain⟨b,wh,ks,own,e,i,t⟩:=q;change jP 7 (w.seats.map rM) (k:Int)=some [.bool b,.int .i64 wh,.sl (ks.map rS),.sl (own.map rO),.int .i64 e,.str (bs i),.str (bs t)]at u;change hG (w.seats.map rM) (k:Int)=some [.bool b,.int .i64 wh,.sl (ks.map rS),.sl (own.map rO),.int .i64 e,.str (bs i),.str (bs t)]at u2;change ev E L (D+4) 113 [.agg [.bool b,.int .i64 wh,.sl (ks.map rS),.sl (own.map rO),.int .i64 e,.str (bs i),.str (bs t)]] []=some (.agg [.bool b,.int .i64 wh,.sl (ks.map rS),.sl (own.map rO),.int .i64 e,.str (bs i),.str (bs t)],[])at h1;change setR (w.seats.map rM) (k:Int) [.bool b,.int .i64 wh,.sl (ks.map rS),.sl (own.map rO),.int .i64 e,.str (bs i),.str (bs t)]=_ at st;have lr:iLe 7 (eF [MV.bool b,.int .i64 wh,.sl (ks.map rS),.sl (own.map rO),.int .i64 e,.str (bs i),.str (bs t)])=true:=rfl;have sr:setRow [MV.bool b,.int .i64 wh,.sl (ks.map rS),.sl (own.map rO),.int .i64 e,.str (bs i),.str (bs t)] 0 [MV.bool b,.int .i64 wh,.sl (ks.map rS),.sl (own.map rO),.int .i64 e,.str (bs i),.str (bs t)]=[.bool b,.int .i64 wh,.sl (ks.map rS),.sl (own.map rO),.int .i64 e,.str (bs i),.str (bs t)]:=rfl;simp only[g,br_true',u,u2,bnd_some',cellAt_zero,cellAt_succ,gBool_b,gInt_i,gSl_r,gStr_s,h1,gAggN_if,jf,jk,ju,nrows_map,iEq_self,lr,sr,st,a1]
 ·show sV L (D+4) (n+1) _ _ _ _ _ _ _ _ _ _ _ _ _ _ _ _ _ _ _ _ _ _ _ _ _ _ _ _ _ _ _ _ _ _ _ _ _ _ _ _ _ _ _ _ _ _ _ _ _ _ _ _ _=_;rw[C6];simp only[KM];have g:iLt (w.seats.length:Int) (w.seats.length:Int)=false:=by rw[iLt_dec,jh];omega
  rw[g,br_false']
theorem XC(hL:1099511627776<=L)(w:World)(z:WSzI w):ev E L (D+5) 61 [.agg (wS w)] []=some (.agg (wO w),[]):=by
 unfold wS;rw[au1];simp only[KM];have c0:=cX L (D+3) (F:=105) (sz:=7) rfl (w.seats.map rM) (VU _) (by rw[jz];have:=z.seats;omega)
 have c1:=cX L (D+3) (F:=106) (sz:=4) rfl (w.waits.map rWt) (EI _) (by rw[jz];have:=z.waits;omega)
 have c2:=cX L (D+3) (F:=107) (sz:=13) rfl (w.log.map rC) (MH _) (by rw[jz];have:=z.log;omega)
 have c3:=cX L (D+3) (F:=108) (sz:=1) rfl (w.fresh.map rI) (kM _) (by rw[jz];have:=z.fresh;omega)
 have c4:=cX L (D+3) (F:=48) (sz:=1) rfl (w.spy.map rS) (iC _) (by rw[jz];have:=z.spy;omega)
 have c5:=cX L (D+3) (F:=109) (sz:=2) rfl (w.stolen.map rSt) (EJ _) (by rw[jz];have:=z.stolen;omega)
 have c6:=cX L (D+3) (F:=110) (sz:=4) rfl (w.frames.map rF) (mN _) (by rw[jz];have:=z.frames;omega)
 have c7:=cX L (D+3) (F:=108) (sz:=1) rfl (w.said.map rI) (kM _) (by rw[jz];have:=z.said;omega)
 have c8:=cX L (D+3) (F:=111) (sz:=1) rfl (w.wins.map rWs) (N3 _) (by rw[jz];have:=z.wins;omega)
 have c9:=cX L (D+3) (F:=112) (sz:=2) rfl (w.told.map rT) (mO _) (by rw[jz];have:=z.told;omega)
 simp only[c0,c1,c2,c3,c4,c5,c6,c7,c8,c9,bnd_some',gOwn_r,nrows_map];have k3:=JW L D hL w z;have k8:=aeM L D hL w z;have k13:=aa4 L D hL w z;rw[nrows_map]at k3 k8;exact k3.trans (k8.trans k13)
end
end Kw
namespace Kw
open Go Go.Proofs
section
variable (L D:Nat)
theorem arU(hL:1099511627776<=L)(l:List (Int))(hl:l.length<=1000000)(hx:∀x∈l,ev E L D 24 [.int .i64 x] []=some (.bool false,[])):
 ev E L (D+3) 23 [.sl (l.map rI),.fn 24 []] []=some (.bool false,[]):=by
 rw[adJ];simp only[KM];rw[adS];simp only[KM];rw[ZO,nrows_map];have key1:=e7 l (fun _=>false) [] (fun m k=>lI L D m (l.map rI) l.length k) (fun n k hk=>?_) (fun n=>?_) L 0 (by omega) (by omega)
 ·have h0:=iE (fun _:Int=>false) (l.drop 0) 0
  have h1:(l.drop 0).any (fun _=>false)=false:=by simp
  rw[h1]at h0;rw[show((0:Nat):Int)=0 from rfl]at key1
  skip
  simp only[key1,bnd_some',gInt_i,iU,gBool_b];rw[h0]
 ·show lI L D (n+1) _ _ _=_;rw[qV];simp only[KM];have g:iLt (k:Int) (l.length:Int)=true:=by rw[iLt_dec,jb];omega
  have a1:bU .i64 (k:Int) 1=((k+1:Nat):Int):=aH _ (by omega)
  have u:=aY (k:Int) l (by omega) (by omega)
  rw[aM l k hk]at u;have c0:∀x:Int,d9 .i64 (aD (rI x) 0)=some x:=fun _=>rfl
  have h:=hx l[k] (jt hk);simp only[g,br_true',u,bnd_some',c0,h,gBool_b,br_false',a1,kz,qn]
 ·show lI L D (n+1) _ _ _=_;rw[qV];simp only[KM];have g:iLt (l.length:Int) (l.length:Int)=false:=by rw[iLt_dec,jh];omega
  rw[g,br_false']
theorem arV(hL:1099511627776<=L)(l:List (Int))(hl:l.length<=1000000)(hx:∀x∈l,ev E L D 26 [.int .i64 x] []=some (.bool false,[])):
 ev E L (D+3) 23 [.sl (l.map rI),.fn 26 []] []=some (.bool false,[]):=by
 rw[adK];simp only[KM];rw[adT];simp only[KM];rw[ZP,nrows_map];have key1:=e7 l (fun _=>false) [] (fun m k=>lJ L D m (l.map rI) l.length k) (fun n k hk=>?_) (fun n=>?_) L 0 (by omega) (by omega)
 ·have h0:=iE (fun _:Int=>false) (l.drop 0) 0
  have h1:(l.drop 0).any (fun _=>false)=false:=by simp
  rw[h1]at h0;rw[show((0:Nat):Int)=0 from rfl]at key1
  skip
  simp only[key1,bnd_some',gInt_i,iU,gBool_b];rw[h0]
 ·show lJ L D (n+1) _ _ _=_;rw[qW];simp only[KM];have g:iLt (k:Int) (l.length:Int)=true:=by rw[iLt_dec,jb];omega
  have a1:bU .i64 (k:Int) 1=((k+1:Nat):Int):=aH _ (by omega)
  have u:=aY (k:Int) l (by omega) (by omega)
  rw[aM l k hk]at u;have c0:∀x:Int,d9 .i64 (aD (rI x) 0)=some x:=fun _=>rfl
  have h:=hx l[k] (jt hk);simp only[g,br_true',u,bnd_some',c0,h,gBool_b,br_false',a1,kz,qn]
 ·show lJ L D (n+1) _ _ _=_;rw[qW];simp only[KM];have g:iLt (l.length:Int) (l.length:Int)=false:=by rw[iLt_dec,jh];omega
  rw[g,br_false']
theorem arW(hL:1099511627776<=L)(l:List (List Win))(hl:l.length<=1000000)(hx:∀x∈l,ev E L D 28 [.sl (x.map rW)] []=some (.bool false,[])):
 ev E L (D+3) 27 [.sl (l.map rWs),.fn 28 []] []=some (.bool false,[]):=by
 rw[adL];simp only[KM];rw[adU];simp only[KM];rw[ZQ,nrows_map];have key1:=e7 l (fun _=>false) [] (fun m k=>lK L D m (l.map rWs) l.length k) (fun n k hk=>?_) (fun n=>?_) L 0 (by omega) (by omega)
 ·have h0:=iE (fun _:List Win=>false) (l.drop 0) 0
  have h1:(l.drop 0).any (fun _=>false)=false:=by simp
  rw[h1]at h0;rw[show((0:Nat):Int)=0 from rfl]at key1
  skip
  simp only[key1,bnd_some',gInt_i,iU,gBool_b];rw[h0]
 ·show lK L D (n+1) _ _ _=_;rw[qX];simp only[KM];have g:iLt (k:Int) (l.length:Int)=true:=by rw[iLt_dec,jb];omega
  have a1:bU .i64 (k:Int) 1=((k+1:Nat):Int):=aH _ (by omega)
  have u:=eA (k:Int) l (by omega) (by omega)
  rw[aM l k hk]at u;have c0:∀x:List Win,gSl (aD (rWs x) 0)=some (x.map rW):=fun _=>rfl
  have h:=hx l[k] (jt hk);simp only[g,br_true',u,bnd_some',c0,h,gBool_b,br_false',a1,kz,qn]
 ·show lK L D (n+1) _ _ _=_;rw[qX];simp only[KM];have g:iLt (l.length:Int) (l.length:Int)=false:=by rw[iLt_dec,jh];omega
  rw[g,br_false']
theorem arX(hL:1099511627776<=L)(l:List (Commit))(hl:l.length<=1000000)(hx:∀x∈l,ev E L D 31 [.agg [.int .i64 x.sender,.str (bs x.tag),.str (bs x.name),.int .i64 x.add,.int .i64 x.remove,.str (bs x.leaf),.sl (x.keys.map rS),.sl (x.boxes.map rB),.str (bs x.wkey),.str (bs x.wik),.str (bs x.wis),.str (bs x.wsk),.str (bs x.wss)]] []=some (.bool false,[])):
 ev E L (D+3) 30 [.sl (l.map rC),.fn 31 []] []=some (.bool false,[]):=by
 rw[adM];simp only[KM];rw[adV];simp only[KM];rw[ZS,nrows_map];have key1:=e7 l (fun _=>false) [] (fun m k=>lM L D m (l.map rC) l.length k) (fun n k hk=>?_) (fun n=>?_) L 0 (by omega) (by omega)
 ·have h0:=iE (fun _:Commit=>false) (l.drop 0) 0
  have h1:(l.drop 0).any (fun _=>false)=false:=by simp
  rw[h1]at h0;rw[show((0:Nat):Int)=0 from rfl]at key1
  skip
  simp only[key1,bnd_some',gInt_i,iU,gBool_b];rw[h0]
 ·show lM L D (n+1) _ _ _=_;rw[qZ];simp only[KM];have g:iLt (k:Int) (l.length:Int)=true:=by rw[iLt_dec,jb];omega
  have a1:bU .i64 (k:Int) 1=((k+1:Nat):Int):=aH _ (by omega)
  have u:=nK (k:Int) l (by omega) (by omega)
  rw[aM l k hk]at u;have c0:∀x:Commit,d9 .i64 (aD (rC x) 0)=some x.sender:=fun _=>rfl
  have c1:∀x:Commit,d6 (aD (rC x) 1)=some (bs x.tag):=fun _=>rfl
  have c2:∀x:Commit,d6 (aD (rC x) 2)=some (bs x.name):=fun _=>rfl
  have c3:∀x:Commit,d9 .i64 (aD (rC x) 3)=some x.add:=fun _=>rfl
  have c4:∀x:Commit,d9 .i64 (aD (rC x) 4)=some x.remove:=fun _=>rfl
  have c5:∀x:Commit,d6 (aD (rC x) 5)=some (bs x.leaf):=fun _=>rfl
  have c6:∀x:Commit,gSl (aD (rC x) 6)=some (x.keys.map rS):=fun _=>rfl
  have c7:∀x:Commit,gSl (aD (rC x) 7)=some (x.boxes.map rB):=fun _=>rfl
  have c8:∀x:Commit,d6 (aD (rC x) 8)=some (bs x.wkey):=fun _=>rfl
  have c9:∀x:Commit,d6 (aD (rC x) 9)=some (bs x.wik):=fun _=>rfl
  have c10:∀x:Commit,d6 (aD (rC x) 10)=some (bs x.wis):=fun _=>rfl
  have c11:∀x:Commit,d6 (aD (rC x) 11)=some (bs x.wsk):=fun _=>rfl
  have c12:∀x:Commit,d6 (aD (rC x) 12)=some (bs x.wss):=fun _=>rfl
  have h:=hx l[k] (jt hk);simp only[g,br_true',u,bnd_some',c0,c1,c2,c3,c4,c5,c6,c7,c8,c9,c10,c11,c12,h,gBool_b,br_false',a1,kz,qn]
 ·show lM L D (n+1) _ _ _=_;rw[qZ];simp only[KM];have g:iLt (l.length:Int) (l.length:Int)=false:=by rw[iLt_dec,jh];omega
  rw[g,br_false']
theorem arY(hL:1099511627776<=L)(l:List (S))(hl:l.length<=1000000)(hx:∀x∈l,ev E L D 38 [.str (bs x)] []=some (.bool false,[])):
 ev E L (D+3) 37 [.sl (l.map rS),.fn 38 []] []=some (.bool false,[]):=by
 rw[adO];simp only[KM];rw[adX];simp only[KM];rw[ZV,nrows_map];have key1:=e7 l (fun _=>false) [] (fun m k=>lO L D m (l.map rS) l.length k) (fun n k hk=>?_) (fun n=>?_) L 0 (by omega) (by omega)
 ·have h0:=iE (fun _:S=>false) (l.drop 0) 0
  have h1:(l.drop 0).any (fun _=>false)=false:=by simp
  rw[h1]at h0;rw[show((0:Nat):Int)=0 from rfl]at key1
  skip
  simp only[key1,bnd_some',gInt_i,iU,gBool_b];rw[h0]
 ·show lO L D (n+1) _ _ _=_;rw[rD];simp only[KM];have g:iLt (k:Int) (l.length:Int)=true:=by rw[iLt_dec,jb];omega
  have a1:bU .i64 (k:Int) 1=((k+1:Nat):Int):=aH _ (by omega)
  have u:=aX (k:Int) l (by omega) (by omega)
  rw[aM l k hk]at u;have c0:∀x:S,d6 (aD (rS x) 0)=some (bs x):=fun _=>rfl
  have h:=hx l[k] (jt hk);simp only[g,br_true',u,bnd_some',c0,h,gBool_b,br_false',a1,kz,qn]
 ·show lO L D (n+1) _ _ _=_;rw[rD];simp only[KM];have g:iLt (l.length:Int) (l.length:Int)=false:=by rw[iLt_dec,jh];omega
  rw[g,br_false']
theorem arZ(hL:1099511627776<=L)(l:List (Steal))(hl:l.length<=1000000)(hx:∀x∈l,ev E L D 40 [.agg [.int .i64 x.who,.str (bs x.tag)]] []=some (.bool false,[])):
 ev E L (D+3) 39 [.sl (l.map rSt),.fn 40 []] []=some (.bool false,[]):=by
 rw[adP];simp only[KM];rw[ae0];simp only[KM];rw[ZY,nrows_map];have key1:=e7 l (fun _=>false) [] (fun m k=>lP L D m (l.map rSt) l.length k) (fun n k hk=>?_) (fun n=>?_) L 0 (by omega) (by omega)
 ·have h0:=iE (fun _:Steal=>false) (l.drop 0) 0
  have h1:(l.drop 0).any (fun _=>false)=false:=by simp
  rw[h1]at h0;rw[show((0:Nat):Int)=0 from rfl]at key1
  skip
  simp only[key1,bnd_some',gInt_i,iU,gBool_b];rw[h0]
 ·show lP L D (n+1) _ _ _=_;rw[rG];simp only[KM];have g:iLt (k:Int) (l.length:Int)=true:=by rw[iLt_dec,jb];omega
  have a1:bU .i64 (k:Int) 1=((k+1:Nat):Int):=aH _ (by omega)
  have u:=ag6 (k:Int) l (by omega) (by omega)
  rw[aM l k hk]at u;have c0:∀x:Steal,d9 .i64 (aD (rSt x) 0)=some x.who:=fun _=>rfl
  have c1:∀x:Steal,d6 (aD (rSt x) 1)=some (bs x.tag):=fun _=>rfl
  have h:=hx l[k] (jt hk);simp only[g,br_true',u,bnd_some',c0,c1,h,gBool_b,br_false',a1,kz,qn]
 ·show lP L D (n+1) _ _ _=_;rw[rG];simp only[KM];have g:iLt (l.length:Int) (l.length:Int)=false:=by rw[iLt_dec,jh];omega
  rw[g,br_false']
theorem as0(hL:1099511627776<=L)(l:List (Frame))(hl:l.length<=1000000)(hx:∀x∈l,ev E L D 42 [.agg [.int .i64 x.src,.str (bs x.key),.int .i64 x.n,.str (bs x.text)]] []=some (.bool false,[])):
 ev E L (D+3) 41 [.sl (l.map rF),.fn 42 []] []=some (.bool false,[]):=by
 rw[adQ];simp only[KM];rw[ae1];simp only[KM];rw[ZZ,nrows_map];have key1:=e7 l (fun _=>false) [] (fun m k=>lQ L D m (l.map rF) l.length k) (fun n k hk=>?_) (fun n=>?_) L 0 (by omega) (by omega)
 ·have h0:=iE (fun _:Frame=>false) (l.drop 0) 0
  have h1:(l.drop 0).any (fun _=>false)=false:=by simp
  rw[h1]at h0;rw[show((0:Nat):Int)=0 from rfl]at key1
  skip
  simp only[key1,bnd_some',gInt_i,iU,gBool_b];rw[h0]
 ·show lQ L D (n+1) _ _ _=_;rw[rH];simp only[KM];have g:iLt (k:Int) (l.length:Int)=true:=by rw[iLt_dec,jb];omega
  have a1:bU .i64 (k:Int) 1=((k+1:Nat):Int):=aH _ (by omega)
  have u:=EH (k:Int) l (by omega) (by omega)
  rw[aM l k hk]at u;have c0:∀x:Frame,d9 .i64 (aD (rF x) 0)=some x.src:=fun _=>rfl
  have c1:∀x:Frame,d6 (aD (rF x) 1)=some (bs x.key):=fun _=>rfl
  have c2:∀x:Frame,d9 .i64 (aD (rF x) 2)=some x.n:=fun _=>rfl
  have c3:∀x:Frame,d6 (aD (rF x) 3)=some (bs x.text):=fun _=>rfl
  have h:=hx l[k] (jt hk);simp only[g,br_true',u,bnd_some',c0,c1,c2,c3,h,gBool_b,br_false',a1,kz,qn]
 ·show lQ L D (n+1) _ _ _=_;rw[rH];simp only[KM];have g:iLt (l.length:Int) (l.length:Int)=false:=by rw[iLt_dec,jh];omega
  rw[g,br_false']
theorem as1(hL:1099511627776<=L)(w:World)(l:List (Wait))(hl:l.length<=1000000)(hx:∀x∈l,ev E L D 34 [.agg [.int .i64 x.who,.int .i64 x.pos,.str (bs x.leaf),.str (bs x.key)],.ptr (.imp 0) 0] [.cells (wS w)]=some (.bool false,[.cells (wS w)])):
 ev E L (D+3) 33 [.sl (l.map rWt),.fn 34 [.ptr (.imp 0) 0]] [.cells (wS w)]=some (.bool false,[.cells (wS w)]):=by
 unfold wS at hx⊢;rw[adN];simp only[KM];rw[adW];simp only[KM];rw[ZU,nrows_map];have key1:=e7 l (fun _=>false) [.cells (wS w)] (fun m k=>lN L D m (w.seats.map rM) (w.waits.map rWt) (w.log.map rC) (w.fresh.map rI) (w.spy.map rS) (w.stolen.map rSt) (w.frames.map rF) (w.said.map rI) (w.wins.map rWs) (w.told.map rT) (l.map rWt) l.length k) (fun n k hk=>?_) (fun n=>?_) L 0 (by omega) (by omega)
 ·have h0:=iE (fun _:Wait=>false) (l.drop 0) 0
  have h1:(l.drop 0).any (fun _=>false)=false:=by simp
  rw[h1]at h0;rw[show((0:Nat):Int)=0 from rfl]at key1
  unfold wS at key1;simp only[key1,bnd_some',gInt_i,jY,bM,jf,jk,ju,cellAt_zero,cellAt_succ,gSl_r,iU,gBool_b];rw[h0]
 ·show lN L D (n+1) _ _ _ _ _ _ _ _ _ _ _ _ _=_;rw[rA];simp only[KM];have g:iLt (k:Int) (l.length:Int)=true:=by rw[iLt_dec,jb];omega
  have a1:bU .i64 (k:Int) 1=((k+1:Nat):Int):=aH _ (by omega)
  have u:=l8 (k:Int) l (by omega) (by omega)
  rw[aM l k hk]at u;have c0:∀x:Wait,d9 .i64 (aD (rWt x) 0)=some x.who:=fun _=>rfl
  have c1:∀x:Wait,d9 .i64 (aD (rWt x) 1)=some x.pos:=fun _=>rfl
  have c2:∀x:Wait,d6 (aD (rWt x) 2)=some (bs x.leaf):=fun _=>rfl
  have c3:∀x:Wait,d6 (aD (rWt x) 3)=some (bs x.key):=fun _=>rfl
  have h:=hx l[k] (jt hk);simp only[g,br_true',u,bnd_some',c0,c1,c2,c3,h,jY,bM,jf,jk,ju,cellAt_zero,cellAt_succ,gSl_r,gBool_b,br_false',a1,kz,qn]
 ·show lN L D (n+1) _ _ _ _ _ _ _ _ _ _ _ _ _=_;rw[rA];simp only[KM];have g:iLt (l.length:Int) (l.length:Int)=false:=by rw[iLt_dec,jh];omega
  rw[g,br_false'];rfl
theorem as2(hL:1099511627776<=L)(w:World)(l:List (Told))(hl:l.length<=1000000)(hx:∀x∈l,ev E L D 45 [.agg [.int .i64 x.who,.int .i64 x.pos],.ptr (.imp 0) 0] [.cells (wS w)]=some (.bool false,[.cells (wS w)])):
 ev E L (D+3) 44 [.sl (l.map rT),.fn 45 [.ptr (.imp 0) 0]] [.cells (wS w)]=some (.bool false,[.cells (wS w)]):=by
 unfold wS at hx⊢;rw[adR];simp only[KM];rw[ae2];simp only[KM];rw[Z0,nrows_map];have key1:=e7 l (fun _=>false) [.cells (wS w)] (fun m k=>lR L D m (w.seats.map rM) (w.waits.map rWt) (w.log.map rC) (w.fresh.map rI) (w.spy.map rS) (w.stolen.map rSt) (w.frames.map rF) (w.said.map rI) (w.wins.map rWs) (w.told.map rT) (l.map rT) l.length k) (fun n k hk=>?_) (fun n=>?_) L 0 (by omega) (by omega)
 ·have h0:=iE (fun _:Told=>false) (l.drop 0) 0
  have h1:(l.drop 0).any (fun _=>false)=false:=by simp
  rw[h1]at h0;rw[show((0:Nat):Int)=0 from rfl]at key1
  unfold wS at key1;simp only[key1,bnd_some',gInt_i,jY,bM,jf,jk,ju,cellAt_zero,cellAt_succ,gSl_r,iU,gBool_b];rw[h0]
 ·show lR L D (n+1) _ _ _ _ _ _ _ _ _ _ _ _ _=_;rw[rJ];simp only[KM];have g:iLt (k:Int) (l.length:Int)=true:=by rw[iLt_dec,jb];omega
  have a1:bU .i64 (k:Int) 1=((k+1:Nat):Int):=aH _ (by omega)
  have u:=alU (k:Int) l (by omega) (by omega)
  rw[aM l k hk]at u;have c0:∀x:Told,d9 .i64 (aD (rT x) 0)=some x.who:=fun _=>rfl
  have c1:∀x:Told,d9 .i64 (aD (rT x) 1)=some x.pos:=fun _=>rfl
  have h:=hx l[k] (jt hk);simp only[g,br_true',u,bnd_some',c0,c1,h,jY,bM,jf,jk,ju,cellAt_zero,cellAt_succ,gSl_r,gBool_b,br_false',a1,kz,qn]
 ·show lR L D (n+1) _ _ _ _ _ _ _ _ _ _ _ _ _=_;rw[rJ];simp only[KM];have g:iLt (l.length:Int) (l.length:Int)=false:=by rw[iLt_dec,jh];omega
  rw[g,br_false'];rfl
end
end Kw
namespace Kw
theorem I6(keys:List S)(own:List Own):∀(p:List Int) (many:Nat),BE keys own p many=true->own.length<=many+p.length
 |[],many,h=>by
  have:decide (many=own.length)=true:=h;have:=qw this;simp;omega
 |n::ns,many,h=>by
  have e:BE keys own (n::ns) many=if ix keys n=[]then BE keys own ns many else if jK own n 0<0 then false else if makKey (ix own (jK own n 0)).sec=ix keys n then BE keys own ns (many+1)else false:=rfl
  rw[e]at h;split at h
  ·have:=I6 keys own ns many h;simp only[jf];omega
  ·split at h
   ·cases h
   ·split at h
    ·have:=I6 keys own ns (many+1) h;simp only[jf];omega
    ·cases h
theorem Q8{w:Int}(h:aI w):(pathOf w).length=4:=by
 obtain⟨h0,h1⟩:=h;have hall:∀k:Fin 8,(pathOf (k.val:Int)).length=4:=by decide+kernel
 have:=hall ⟨w.toNat,by omega⟩
 simpa only[wq h0]using this
theorem oD{s:S}(h:isKey s=true):secOk s=true:=by
 unfold isKey at h;cases hs:secOk s with
 |true=>rfl
 |false=>
  have:=kY.2 hs;rw[this]at h;exact absurd (qw h) (by decide)
theorem acU{s:S}{n:Int}(h:(aN s).op=n)(hn:n≠0):secOk s=true:=by
 cases hs:secOk s with
 |true=>rfl
 |false=>exact absurd (kY.2 hs) (by rw[h];exact hn)
theorem dS{ks:List S}(h:treOk ks=true):ks.length=15/\∀s∈ks,s.length<=300:=by
 unfold treOk at h;simp only[jg,jb,ku,yf]at h;refine⟨h.1,fun s hs=>?_⟩
 rcases h.2 s hs with e|e
 ·rw[e];simp
 ·exact cB (oD e)
theorem nF{m:Member}(h:memOk m=true):(m.keys.length<=15/\∀s∈m.keys,s.length<=300)/\(m.own.length<=4/\∀o∈m.own,secOk o.sec=true)/\m.init.length<=300/\m.tag.length<=300:=by
 cases hi:m.inn with
 |false=>
  unfold memOk at h;rw[hi,je rfl]at h;obtain⟨_,h2,h3,_,h5,h6⟩:=qw h;rw[h2,h3,h5,h6];simp
 |true=>
  have h2:=h;rw[<-M0]at h2;unfold OL at h2;rw[hi]at h2;simp only[ww,qn,jg,jb]at h2;obtain⟨hw,ht,_,hin,htl,_,hg⟩:=h2;obtain⟨t1,t2⟩:=dS ht;have h4:=I6 _ _ _ _ hg;rw[Q8 hw]at h4;refine⟨⟨by omega,t2⟩,⟨by omega,fun o ho=>?_⟩,cB hin,htl⟩
  obtain⟨_,_,hf,_⟩:=kO h hi;obtain⟨k,hk,rfl⟩:=qc.1 ho;have h1:=ku.1 hf k (qy.2 hk);unfold nL at h1;simp only[jg,jb]at h1;rw[aM m.own k hk]at h1;exact h1.2.1
theorem Q9{c:Commit}(h:dJ c=true):(c.tag.length<=300/\c.name.length<=300/\c.leaf.length<=300)/\(c.keys.length=15/\∀s∈c.keys,s.length<=300)/\(c.boxes.length<=20/\∀b∈c.boxes,b.key.length<=300/\b.sec.length<=300)/\c.wkey.length<=300/\c.wik.length<=300/\c.wis.length<=300/\c.wsk.length<=300/\c.wss.length<=300:=by
 unfold dJ at h;simp only[jg,jb]at h;obtain⟨⟨_,_,h3,_,_⟩,h6,h7,h8,h9⟩:=h;have hb:∀b∈c.boxes,b.key.length<=300/\b.sec.length<=300:=fun b hb=>by
  unfold jV at h7;simp only[jg,ku]at h7;have:=h7.2 b hb;exact⟨cB this.1,cB this.2⟩
 refine⟨⟨by omega,by omega,?_⟩,dS h6,⟨h8,hb⟩,?_⟩
 ·split at h9
  ·obtain⟨e,_⟩:=qw h9;rw[e];simp
  ·simp only[jg]at h9;exact cB (oD h9.1)
 ·split at h9
  ·obtain⟨_,e1,e2,e3,e4,e5⟩:=qw h9;rw[e1,e2,e3,e4,e5];simp
  ·simp only[jg,jb]at h9;obtain⟨_,k2,⟨_,k4,k5⟩,k6,k7⟩:=h9;rw[k4,k5];exact⟨cB (oD k2),cB (oD k2),cB k6,cB (oD k2),cB k7⟩
theorem nG{f:Frame}(h:fraOk f=true):f.key.length<=300/\f.text.length<=8/\aI f.src/\1<=f.n/\f.n<=999:=by
 unfold fraOk mY at h;simp only[jg,jb]at h;obtain⟨⟨h1,h2,_,h4,h5⟩,h6,_⟩:=h;exact⟨cB (acU h2 (by decide)),h6,h1,h4,h5⟩
theorem I7{w:Win}(h:winOk w=true):∀k:Nat,k<w.seen.length->ix w.seen (k:Int)<=w.top-k/\w.top-8<ix w.seen (k:Int)
 |0,hk=>by
  unfold winOk at h;simp only[jg,jb]at h;have e:ix w.seen ((0:Nat):Int)=w.top:=h.1.2.2.2.2;rw[e];omega
 |k+1,hk=>by
  have ih:=I7 h k (by omega)
  unfold winOk at h;simp only[jg,jb,ku,qy]at h;have:=h.2 (k+1) hk;rcases this with e|⟨h1,h2,_⟩
  ·omega
  ·rw[show k+1-1=k by omega]at h1
   omega
theorem pG{w:Win}(h:winOk w=true):w.key.length<=300/\1<=w.top/\w.top<=999/\0<w.seen.length/\w.seen.length<=8:=by
 have h2:=h;unfold winOk at h2;simp only[jg,jb]at h2;obtain⟨⟨k1,k2,k3,k4,_⟩,_⟩:=h2;refine⟨cB (acU k1 (by decide)),k2,k3,v9.2 k4,?_⟩
 refine Nat.le_of_not_lt fun hlt=>?_
 have:=I7 h 8 hlt;omega
theorem oV{l:List Win}(h:oU l=true){x:Win}(hx:x∈l):winOk x=true:=by
 unfold oU at h;simp only[ku,qy,jg]at h;obtain⟨k,hk,rfl⟩:=qc.1 hx;have:=(h k hk).1
 rwa [aM l k hk]at this
structure WG(w:World):Prop extends WOk w where
 waitsLog:w.waits.length<=w.log.length
 winN:∀l∈w.wins,l.length<=w.told.length
 spyN:w.spy.length<=6*w.stolen.length
end Kw
namespace Kw
open Go Go.Proofs
theorem JX{m:Member}(h:memOk m=true):MB m:=by
 obtain⟨⟨h1,h2⟩,⟨h3,h4⟩,h5,h6⟩:=nF h;exact⟨by omega,fun s hs=>jx (h2 s hs) (by omega),by omega,fun o ho=>jx (cB (h4 o ho)) (by omega),by omega,by omega⟩
theorem JY{c:Commit}(h:dJ c=true):CBd c:=by
 obtain⟨⟨h1,h2,h3⟩,⟨h4,h5⟩,⟨h6,h7⟩,h8,h9,h10,h11,h12⟩:=Q9 h;exact⟨by omega,by omega,by omega,by omega,fun s hs=>jx (h5 s hs) (by omega),by omega,fun b hb=>⟨jx (h7 b hb).1 (by omega),jx (h7 b hb).2 (by omega)⟩,by omega,by omega,by omega,by omega,by omega⟩
theorem jA{A:Type} [Inhabited A]{l:List A}{n:Int}(h0:0<=n)(h1:n<l.length):ix l n∈l:=by
 obtain⟨k,rfl⟩:=kx h0;rw[aM l k (by omega)]
 exact jt _
theorem WOk.seat{w:World}(z:WOk w){m:Member}(h:m∈w.seats):memOk m=true:=by
 obtain⟨k,hk,rfl⟩:=qc.1 h;have:=(z.mem k (by have:=z.seats;omega)).1
 rwa [aM w.seats k hk]at this
theorem WG.sz{w:World}(z:WG w):WSzI w where
 seats:=by have:=z.seats;omega
 waits:=by have:=z.waits;omega
 log:=by have:=z.log;omega
 fresh:=by have:=z.fresh;omega
 spy:=by have:=z.spy;omega
 stolen:=by have:=z.stolen;omega
 frames:=by have:=z.frames;omega
 said:=by have:=z.said;omega
 wins:=by have:=z.wins;omega
 told:=by have:=z.told;omega
 mem:=fun m hm=>JX (z.seat hm)
 cmt:=fun c hc=>⟨(JY (z.logI c hc)).keys,(JY (z.logI c hc)).boxes⟩
 win:=fun l hl=>⟨by have:=z.winN l hl;have:=z.told;omega,fun x hx=>by have:=(pG (oV (z.winsI l hl) hx)).2.2.2.2;omega⟩
section
variable (L D:Nat)
set_option maxRecDepth 4000 in
theorem akJ(hL:1099511627776<=L)(w:World)(z:WG w):ev E L (D+316) 9 [.agg (wS w)] []=some (.bool true,[]):=by
 have a24:=arU L (D+312) hL w.fresh (by have:=z.fresh;omega) (fun x hx=>by
  rw[atM];simp only[KM];rw[jW];obtain⟨h0,h1⟩:=z.freshI x hx;rw[jd h0,jd h1];rfl)
 have a26:=arV L (D+312) hL w.said (by have:=z.said;omega) (fun x hx=>by
  rw[atO];simp only[KM];rw[jW];obtain⟨h0,h1⟩:=z.saidI x hx;rw[jd h0,jd h1];rfl)
 have a28:=arW L (D+312) hL w.wins (by have:=z.wins;omega) (fun x hx=>by
  have h:=z.winsI x hx;rw[atP];simp only[KM];rw[RY L (D+4) hL x (by have:=z.winN x hx;have:=z.told;omega) (fun y hy=>by have:=pG (oV h hy);omega),h];rfl)
 have a31:=arX L (D+312) hL w.log (by have:=z.log;omega) (fun x hx=>by
  have h:=z.logI x hx;have hc:=PC L D hL x (JY h);rw[h]at hc;rw[atR];simp only[KM];change ev E L (D+311) 32 [.agg [.int .i64 x.sender,.str (bs x.tag),.str (bs x.name),.int .i64 x.add,.int .i64 x.remove,.str (bs x.leaf),.sl (x.keys.map rS),.sl (x.boxes.map rB),.str (bs x.wkey),.str (bs x.wik),.str (bs x.wis),.str (bs x.wsk),.str (bs x.wss)]] []=_ at hc;rw[hc];rfl)
 have a38:=arY L (D+312) hL w.spy (by have:=z.spy;omega) (fun x hx=>by
  have h:=z.spyI x hx;rw[atW];simp only[KM];rw[jG L (D+5) hL x (by have:=cB h;omega),h];rfl)
 have a40:=arZ L (D+312) hL w.stolen (by have:=z.stolen;omega) (fun x hx=>by
  obtain⟨h0,h1⟩:=z.stolenI x hx;rw[atX];simp only[KM];rw[pM,jX,jd h0];simp only[bnd_some',gBool_b,bNot_t,bNot_f,br_true',sLen_bs,iLt_dec];rw[ji (by omega)])
 have a42:=as0 L (D+312) hL w.frames (by have:=z.frames;omega) (fun x hx=>by
  have h:=z.framesI x hx;have hs:=nG h;have hf:=PD L D hL x (by omega) (by omega)
  rw[h]at hf;change ev E L (D+311) 43 [.agg [.int .i64 x.src,.str (bs x.key),.int .i64 x.n,.str (bs x.text)]] []=_ at hf;rw[atY];simp only[KM];rw[hf];rfl)
 have a34:=as1 L (D+312) hL w w.waits (by have:=z.waits;omega) (fun x hx=>by
  obtain⟨h0,⟨h1,h2⟩,h3,h4⟩:=z.waitsI x hx;unfold wS;have hl:=z.log;have es:hJ .i64 (w.log.length:Int) 1=(w.log.length:Int)-1:=dR (by omega) (by omega)
  rw[atT];simp only[KM];rw[pM,jX,jd h0];simp only[bnd_some',gBool_b,bNot_t,bNot_f,br_true',nrows_map,es,jW];rw[jd h1,jd (by omega:x.pos<=(w.log.length:Int)-1)]
  simp only[Bool.and_self,bNot_t,bNot_f,br_true',jG L (D+5) hL x.leaf (by have:=cB h3;omega),jG L (D+5) hL x.key (by have:=cB h4;omega),h3,h4,bnd_some',gBool_b])
 have a45:=as2 L (D+312) hL w w.told (by have:=z.told;omega) (fun x hx=>by
  obtain⟨h0,h1,h2⟩:=z.toldI x hx;unfold wS;have hl:=z.frames;have es:hJ .i64 (w.frames.length:Int) 1=(w.frames.length:Int)-1:=dR (by omega) (by omega)
  rw[au0];simp only[KM];rw[pM,jX,jd h0];simp only[bnd_some',gBool_b,bNot_t,bNot_f,br_true',nrows_map,es,jW];rw[jd h1,jd (by omega:x.pos<=(w.frames.length:Int)-1)]
  rfl)
 unfold wS at a34 a45⊢;have g1:∀(a b:Nat),a<=b->bNot (iLt (b:Int) (a:Int))=true:=fun a b h=>by rw[JU];exact jd (by omega)
 have e1:=z.seats;have e2:=z.fresh;have e3:=z.said;have e4:=z.wins;have h5:=g1 _ 16 z.log;have h6:=g1 _ 16 z.waits;have h7:=g1 _ 40 z.frames;have h8:=g1 _ 12 z.stolen;have h9:=g1 _ 72 z.spy;have h10:iLt 320 (w.told.length:Int)=false:=by rw[iLt_dec];exact ji (by have:=z.told;omega)
 have k1:iEq (w.seats.length:Int) 8=true:=by rw[e1];rfl
 have k2:iEq (w.fresh.length:Int) 8=true:=by rw[e2];rfl
 have k3:iEq (w.said.length:Int) 8=true:=by rw[e3];rfl
 have k4:iEq (w.wins.length:Int) 8=true:=by rw[e4];rfl
 rw[avO];simp only[KM];simp only[nrows_map,k1,k2,k3,k4,bNot_t,bNot_f,br_true',show∀n:Nat,iLt 16 (n:Int)=iLt ((16:Nat):Int) n from fun _=>rfl,show∀n:Nat,iLt 40 (n:Int)=iLt ((40:Nat):Int) n from fun _=>rfl,show∀n:Nat,iLt 12 (n:Int)=iLt ((12:Nat):Int) n from fun _=>rfl,show∀n:Nat,iLt 72 (n:Int)=iLt ((72:Nat):Int) n from fun _=>rfl,h5,h6,h7,h8,h9,h10,br_false']
 refine Eq.trans (o6 w.seats.length (fun _=>true) (fun m k=>BK L (D+315) m (w.seats.map rM) (w.waits.map rWt) (w.log.map rC) (w.fresh.map rI) (w.spy.map rS) (w.stolen.map rSt) (w.frames.map rF) (w.said.map rI) (w.wins.map rWs) (w.told.map rT) (w.seats.map rM) w.seats.length k) (some (.bool true,[])) none (fun n k hk=>?_) (fun n=>?_) L 0 (by omega) (by omega)) (by simp)
 ·show BK L (D+315) (n+1) _ _ _ _ _ _ _ _ _ _ _ _ _=_;rw[F8];simp only[KM];rw[je trivial];have g:iLt (k:Int) (w.seats.length:Int)=true:=by rw[iLt_dec,jb];omega
  have a1:bU .i64 (k:Int) 1=((k+1:Nat):Int):=aH _ (by omega)
  have u:=bL (k:Int) w.seats (by omega) (by omega)
  obtain⟨hm,hwho⟩:=z.mem k (by omega)
  have h1:=tB L (D+4) hL (ix w.seats (k:Int)) (JX hm);rw[hm]at h1;generalize ix w.seats (k:Int)=q at u h1 hwho;obtain⟨b,wh,ks,own,e,i,t⟩:=q;change jP 7 (w.seats.map rM) (k:Int)=some [.bool b,.int .i64 wh,.sl (ks.map rS),.sl (own.map rO),.int .i64 e,.str (bs i),.str (bs t)]at u;change ev E L (D+315) 22 [.agg [.bool b,.int .i64 wh,.sl (ks.map rS),.sl (own.map rO),.int .i64 e,.str (bs i),.str (bs t)]] []=_ at h1;simp only[g,br_true',u,bnd_some',cellAt_zero,cellAt_succ,gBool_b,gInt_i,gSl_r,gStr_s,h1,bNot_t,bNot_f,a1];cases b with
  |false=>rw[br_false']
  |true=>
   have:wh=(k:Int):=hwho rfl;rw[br_true',this,iEq_self,bNot_t,br_false']
 ·show BK L (D+315) (n+1) _ _ _ _ _ _ _ _ _ _ _ _ _=_;rw[F8];simp only[KM];have g:iLt (w.seats.length:Int) (w.seats.length:Int)=false:=by rw[iLt_dec,jh];omega
  simp only[g,br_false',a24,a26,a28,a31,a38,a40,a42,a34,a45,bnd_some',gBool_b,bNot_f,br_true',jY,bM,jf,jk,ju,cellAt_zero,cellAt_succ,gSl_r]
end
end Kw
namespace Kw
open Go Go.Proofs
theorem NB:∀l:List Int,H9 (l.map rI)=some l
 |[]=>rfl
 |n::r=>by
  show(H9 (r.map rI)).bind (fun l=>some (n::l))=some (n::r)
  rw[NB r];rfl
section
variable (L D:Nat)
theorem as3(w:Win)(hw:winOk w=true)(n:Int)(h1:1<=n)(h2:n<=999):ev E L (D+1) 205 [.agg [.str (bs w.key),.int .i64 w.top,.sl (w.seen.map rI)],.int .i64 n] []=
 some (match winTake w n with|some x=>(.tup [.agg (rW x),.bool true],[])|none=>(.tup [.agg [.str (bs w.key),.int .i64 (max w.top n),.sl (w.seen.map rI)],.bool false],[])):=by
 obtain⟨_,t1,t2,s1,s2⟩:=pG hw;have h:E.ext 205=some FM:=rfl;have h3:FM [.agg [.str (bs w.key),.int .i64 w.top,.sl (w.seen.map rI)],.int .i64 n]=some (match winTake w n with|some x=>.tup [.agg (rW x),.bool true]|none=>.tup [.agg [.str (bs w.key),.int .i64 (max w.top n),.sl (w.seen.map rI)],.bool false]):=by
  unfold FM;simp only;rw[NB];simp only[jy];rw[je ⟨v9.1 s1,by omega,by omega,by omega,by omega,by omega⟩,F4]
  by_cases hb:n∈w.seen\/n<=w.top-8
  ·rw[je hb,je hb]
  ·rw[jc hb,jc hb]
   rfl
 unfold ev;simp only[h,h3];cases winTake w n<;>rfl
theorem aeN(hL:1099511627776<=L)(m:Member)(hm:memOk m=true)(wins:List Win)(hw:oU wins=true)(hl:wins.length<=1000)(f:Frame)(hf:fraOk f=true):
 ev E L (D+313) 119 [.agg (rM m),.sl (wins.map rW),.agg (rF f)] []=some (match nM m wins f with|some x=>(.tup [.sl (x.map rW),.bool true],[])|none=>(.tup [.sl (wins.map rW),.bool false],[])):=by
 have hmo:=tB L (D+1) hL m (JX hm);have hfo:=PD L (D+1) hL f (by have:=nG hf;omega) (by have:=nG hf;omega)
 obtain⟨_,_,hfw,f1,f2⟩:=nG hf;have hmk:=fun hi=>kO hm hi
 have hinit:=(nF hm).2.2.1;have e0:(match nM m wins f with|some x=>((.tup [.sl (x.map rW),.bool true],[]):MV×List Obj)|none=>(.tup [.sl (wins.map rW),.bool false],[]))=if wE m f=true then(if winAt wins f.key 0<0 then(.tup [.sl ((wins++[(⟨f.key,f.n,[f.n]⟩:Win)]).map rW),.bool true],[])else match winTake (ix wins (winAt wins f.key 0)) f.n with|some x=>(.tup [.sl ((wins.set (winAt wins f.key 0).toNat x).map rW),.bool true],[])|none=>(.tup [.sl (wins.map rW),.bool false],[]))else(.tup [.sl (wins.map rW),.bool false],[]):=by
  unfold nM;simp only;by_cases h1:wE m f=true
  ·rw[je h1,je h1];by_cases h2:winAt wins f.key 0<0
   ·rw[je h2,je h2]
   ·rw[jc h2,jc h2];cases winTake (ix wins (winAt wins f.key 0)) f.n<;>rfl
  ·rw[jc h1,jc h1]
 rw[e0];unfold wE;obtain⟨b,w,ks,own,e,i,t⟩:=m;obtain⟨src,key,n,text⟩:=f;simp only at hfw f1 f2 hmk hinit;rw[hm]at hmo;rw[hf]at hfo;change ev E L (D+312) 22 [.agg [.bool b,.int .i64 w,.sl (ks.map rS),.sl (own.map rO),.int .i64 e,.str (bs i),.str (bs t)]] []=_ at hmo;change ev E L (D+312) 43 [.agg [.int .i64 src,.str (bs key),.int .i64 n,.str (bs text)]] []=_ at hfo;show ev E L (D+313) 119 [.agg [.bool b,.int .i64 w,.sl (ks.map rS),.sl (own.map rO),.int .i64 e,.str (bs i),.str (bs t)],.sl (wins.map rW),.agg [.int .i64 src,.str (bs key),.int .i64 n,.str (bs text)]] []=_;have hwm:=fun x hx=>pG (oV (x:=x) hw hx)
 have hwo:=RY L (D+5) hL wins (by omega) (fun x hx=>by have:=hwm x hx;omega)
 rw[hw]at hwo;have hcp:=XB L (D+310) hL wins (by omega) (fun x hx=>by have:=hwm x hx;omega)
 rw[aoW];simp only[KM];rw[hmo];simp only[bnd_some',gBool_b,bNot_t,bNot_f,br_true',br_false',hwo,hcp,gOwn_r,iEq_self];refine lA fun hb=>?_
 subst hb;obtain⟨hww,hkl,_⟩:=hmk rfl;rw[hfo,hf];simp only[bnd_some',gBool_b,bNot_t,bNot_f,br_true',ka];have en:bNot (iEq src w)=decide (src≠w):=by rw[iEq_dec,aP]
 rw[en];refine PF fun hne=>?_
 rw[R5 L (D+309) ks hkl src,jd hfw,ka];simp only[bnd_some',gBool_b];refine lA fun hle=>?_
 have hms:=R3 L (D+4) hL i src (by omega)
 simp only[hms,bnd_some',gStr_s,sEq_bs];by_cases hk:key=dK i src
 case neg=>rw[ji hk];rfl
 rw[jd hk,bNot_t,br_false',je rfl,XA L (D+309) hL wins key (by omega)]
 simp only[bnd_some',gInt_i];rw[iLt_dec];rcases idxP_cases (fun w:Win=>decide (w.key=key)) wins 0 with⟨j,hj,hat,_⟩|hat
 ·rw[HA,hat,ji (by omega),br_false',jc (by omega)]
  have u:=sF ((0+j:Nat):Int) wins (by omega) (by omega)
  have u2:=GS wins ((0+j:Nat):Int) (by omega) (by omega)
  have hmem:ix wins ((0+j:Nat):Int)∈wins:=jA (by omega) (by omega)
  have hok:=oV hw hmem;generalize ix wins ((0+j:Nat):Int)=x at u u2 hok⊢;have c0:∀o:Win,d6 (aD (rW o) 0)=some (bs o.key):=fun _=>rfl
  have c1:∀o:Win,d9 .i64 (aD (rW o) 1)=some o.top:=fun _=>rfl
  have c2:∀o:Win,gSl (aD (rW o) 2)=some (o.seen.map rI):=fun _=>rfl
  have htk:=as3 L (D+311) x hok n f1 f2;simp only[u,bnd_some',c0,c1,c2,htk];cases hwt:winTake x n with
  |none=>rfl
  |some y=>
   have ga:FC 3 (.agg (rW y))=some (rW y):=rfl;have lr:iLe 3 (eF (rW x))=true:=rfl;have sr:setRow (rW x) 0 [MV.str (bs y.key),.int .i64 y.top,.sl (y.seen.map rI)]=rW y:=rfl;have st:setR (wins.map rW) ((0+j:Nat):Int) (rW y)=(wins.set (((0+j:Nat):Int)).toNat y).map rW:=eV rW _ _ _;simp only[gTupN_if,jf,jk,ju,bnd_some',cellAt_zero,cellAt_succ,ga,c0,c1,c2,gBool_b,br_true',u2,lr,sr,st,nrows_map,kj,iEq_self]
 ·rw[HA,hat,jd (by omega),br_true',je (by omega)]
  have er:[[MV.str (bs key),.int .i64 n,.sl [[MV.int .i64 n]]]]=[rW (⟨key,n,[n]⟩:Win)]:=rfl;have q1:okR 3 [rW (⟨key,n,[n]⟩:Win)]=true:=rfl;have q2:eP (wins.length:Int) (nrows [rW (⟨key,n,[n]⟩:Win)]) 48=true:=aF _ _ _ (by show((wins.length:Int)+1)*48<=_;omega)
  have q3:cG (wins.map rW) [rW (⟨key,n,[n]⟩:Win)]=(wins++[(⟨key,n,[n]⟩:Win)]).map rW:=cH rW wins _;have hc:=cX L (D+311) (F:=189) (sz:=3) rfl ((wins++[(⟨key,n,[n]⟩:Win)]).map rW) (H3 _) (by rw[jz,jl];simp;omega)
  simp only[er,br_true',nrows_map,H3,q1,q2,q3,cS,hc,bnd_some',gOwn_r]
end
end Kw
namespace Kw
open Go Go.Proofs
theorem R0(l:List Int)(i j v:Int)(P:Int->Prop)(hl:∀x∈l,P x)(hv:P v)(h0:0<=j)(h1:j<l.length):P (ix (dH l i v) j):=by
 have hm:ix (dH l i v) j∈dH l i v:=jA h0 (by unfold dH;rw[kj];exact h1)
 rcases v5 hm with h|h
 ·exact hl _ h
 ·rw[h];exact hv
theorem E2(w n:Int):(aV w n).length<=300:=by
 unfold aV;split
 ·rename_i h;rw[BM (by omega) (by omega)]
  unfold GM;split<;>simp[CR]
 ·simp
section
variable (L D:Nat)
theorem aa5(hL:1099511627776<=L)(w:World)(z:WG w)(e:Event)(hw:aI e.who)(ha: -1<=e.add/\e.add<=7)(lf ky:S)(X:World)(hX:X=commitEnd w e lf ky):
 (∃m f,ix w.seats e.who=m/\ix w.fresh e.who=f/\(0<=f/\f<=99)/\
  ((iD m (aV e.who (f+1)) e.add e.remove (makKey lf) (makKey ky)=none/\X=w/\ev E L (D+312) 190 [.agg [.bool m.inn,.int .i64 m.who,.sl (m.keys.map rS),.sl (m.own.map rO),.int .i64 m.epoch,.str (bs m.init),.str (bs m.tag)],.str (bs (aV e.who (f+1))),.int .i64 e.add,.int .i64 e.remove,.str (bs (makKey lf)),.str (bs (makKey ky))] []=some (.tup [.agg (rM bI),.agg (rC qE),.bool false],[]))\/
   ∃x c,iD m (aV e.who (f+1)) e.add e.remove (makKey lf) (makKey ky)=some (x,c)/\X={w with seats:=dH w.seats e.who x,log:=w.log++[c],fresh:=if 0<=e.add then dH (dH w.fresh e.who (f+1)) e.add (ix (dH w.fresh e.who (f+1)) e.add+2)else dH w.fresh e.who (f+1),waits:=if 0<=e.add then w.waits++[⟨e.add,w.log.length,lf,ky⟩]else w.waits}/\
    ev E L (D+312) 190 [.agg [.bool m.inn,.int .i64 m.who,.sl (m.keys.map rS),.sl (m.own.map rO),.int .i64 m.epoch,.str (bs m.init),.str (bs m.tag)],.str (bs (aV e.who (f+1))),.int .i64 e.add,.int .i64 e.remove,.str (bs (makKey lf)),.str (bs (makKey ky))] []=some (.tup [.agg (rM x),.agg (rC c),.bool true],[]))):=by
 have w1:e.who<w.seats.length:=by have:=hw.2;have:=z.seats;omega
 have w2:e.who<w.fresh.length:=by have:=hw.2;have:=z.fresh;omega
 have hm:=z.seat (jA hw.1 w1);refine⟨_,_,rfl,rfl,z.freshI _ (jA hw.1 w2),?_⟩;subst hX;unfold commitEnd;have h:=RW L D hL (ix w.seats e.who) (JX hm) (aV e.who (ix w.fresh e.who+1)) e.add e.remove (makKey lf) (makKey ky) (jx (E2 _ _) (by omega)) (jx (J1 _) (by omega)) (jx (J1 _) (by omega))
 unfold iD;by_cases h2:cI (ix w.seats e.who) (aV e.who (ix w.fresh e.who+1)) e.add e.remove (makKey lf) (makKey ky)=true
 ·right;rw[je h2]at h⊢;exact⟨_,_,rfl,rfl,h⟩
 ·left;rw[jc h2]at h⊢;exact⟨rfl,rfl,h⟩
theorem aeO(hL:1099511627776<=L)(w:World)(z:WG w)(e:Event)(hw:aI e.who):ev E L (D+313) 115 [.ptr (.imp 0) 0,.agg [.int .i64 e.kind,.int .i64 e.who,.int .i64 e.add,.int .i64 e.remove,.int .i64 e.pos,.str (bs e.text)]] [.cells (wK w)]=some (.tup [],[.cells (wK (cA w e))]):=by
 unfold wK;rw[aoT];simp only[KM];have zf:=z.fresh;have zl:=z.log;have zw:=z.waits;have zs:=z.seats;have w0:=hw.1;have w1:e.who<w.seats.length:=by have:=hw.2;omega
 have w2:e.who<w.fresh.length:=by have:=hw.2;omega
 have hcm:=fun ha lf ky=>aa5 L D hL w z e hw ha lf ky (commitEnd w e lf ky) rfl
 obtain⟨f0,f1⟩:=z.freshI _ (jA w0 w2);unfold cA;by_cases h16:w.log.length=16
 ·have h':(w.log.length:Int)=16:=by omega
  have hd:decide (¬(w.log.length:Int)=16)=false:=ji (fun x=>x h')
  rw[je (.inl h16)];simp(disch:=omega) only[K1,JP_115_5_eq,aP,↓aA,hd,↓KM]
 have h16':¬(w.log.length:Int)=16:=by omega
 generalize hf:ix w.fresh e.who=f at f0 f1 hcm;by_cases h99:99<=f
 ·rw[je (.inr (.inl h99))];simp(disch:=omega) only[K1,JP_115_5_eq,↓aA,dU,bJ,aY,h16',hf,h99,↓KM]
 by_cases ha: -1<=e.add/\e.add<=7
 case neg=>
  rw[je (.inr (.inr (.inl ha)))];have:(decide (-1<=e.add)&&decide (e.add<=7))=false:=by
   rw[wg];intro h;simp only[JP_115_5_eq,jg,jb,↓KM]at h;exact ha h
  simp(disch:=omega) only[K1,JP_115_5_eq,Int.reduceNeg,↓aA,dU,bJ,aY,h16',hf,h99,jW,this,↓KM]
 obtain⟨ha1,ha2⟩:=id ha;have mk0:makKey []=[]:=rfl;have hin:(decide (-1<=e.add)&&decide (e.add<=7))=true:=by rw[jd ha1,jd ha2];rfl
 have mkn:=fun w n=>J0 L (D+309) w n
 have mkk:=fun s h=>o7 L (D+4) hL s h
 by_cases h0:0<=e.add
 ·have w3:e.add<w.fresh.length:=by omega
  obtain⟨g0,g1⟩:=z.freshI _ (jA h0 w3);by_cases h98:98<=ix w.fresh e.add
  ·rw[je (.inr (.inr (.inr ⟨h0,h98⟩)))];simp(disch:=omega) only[K1,JP_115_5_eq,Int.reduceNeg,↓aA,dU,bJ,aY,h16',hf,h99,jW,hin,h0,h98,↓KM]
  ·rw[jc (fun x=>x.elim h16 fun x=>x.elim h99 fun x=>x.elim (fun y=>y ha) fun y=>h98 y.2),je h0]
   have hr:=R0 w.fresh e.who e.add (f+1) (fun x=>0<=x/\x<=1000) (fun x hx=>by have:=z.freshI x hx;omega) (by omega) h0 (by omega)
   unfold dH at hr;obtain⟨r0,r1⟩:=hr;have w4:e.add< (w.fresh.set e.who.toNat (f+1)).length:=by rw[kj];omega
   have n1:=E2 e.add (ix w.fresh e.add+1);have n2:=E2 e.add (ix w.fresh e.add+2);obtain⟨m,f',hm,hf',_,hcs⟩:=hcm ha (aV e.add (ix w.fresh e.add+1)) (aV e.add (ix w.fresh e.add+2));have:f'=f:=hf'.symm;subst this;rcases hcs with⟨_,hX,h⟩|⟨x,c,_,hX,h⟩
   ·rw[hX];simp only[JP_115_5_eq,rM,rC,↓KM]at h;simp(disch:=omega) only[K1,JP_115_5_eq,Int.reduceNeg,Nat.reduceAdd,↓aA,dU,bJ,aY,iL,kE,kF,kG,kH,kI,kJ,bE,bL,h16',hm,hf,h99,jW,hin,h0,h98,aZ,mkn,mkk,h,↓KM]
   ·rw[hX];simp only[JP_115_5_eq,rM,rC,↓KM]at h;have e2:(⟨x.inn,x.who,x.keys,x.own,x.epoch,x.init,x.tag⟩:Member)=x:=rfl;have e3:(⟨c.sender,c.tag,c.name,c.add,c.remove,c.leaf,c.keys,c.boxes,c.wkey,c.wik,c.wis,c.wsk,c.wss⟩:Commit)=c:=rfl;simp(disch:=omega) only[K1,JP_115_5_eq,jv,aU,aJ,Int.reduceLE,Int.reduceNeg,Nat.reduceAdd,MH,EI,aW,aQ,↓aA,dU,cV,cW,bJ,kD,aY,iL,kE,kF,kG,kH,kI,kJ,iT,bV,bE,qA,bL,H2,N1,h16',hm,hf,h99,jW,hin,h0,h98,aZ,mkn,mkk,h,e2,e3,aF,kj,↓KM]
    rfl
 ·rw[jc (fun x=>x.elim h16 fun x=>x.elim h99 fun x=>x.elim (fun y=>y ha) fun y=>h0 y.1),jc h0]
  obtain⟨m,f',hm,hf',_,hcs⟩:=hcm ha [] [];have:f'=f:=hf'.symm;subst this;have mkk0:=mkk [] (by simp)
  rcases hcs with⟨_,hX,h⟩|⟨x,c,_,hX,h⟩
  ·rw[hX];simp only[JP_115_5_eq,rM,rC,↓KM]at h;simp(disch:=omega) only[K1,JP_115_5_eq,Int.reduceNeg,Nat.reduceAdd,↓aA,dU,bJ,aY,iL,kE,kF,kG,kH,kI,kJ,bE,bL,h16',hm,hf,h99,jW,hin,h0,aZ,mkn,mkk0,h,↓KM]
  ·rw[hX];simp only[JP_115_5_eq,rM,rC,↓KM]at h;have e2:(⟨x.inn,x.who,x.keys,x.own,x.epoch,x.init,x.tag⟩:Member)=x:=rfl;have e3:(⟨c.sender,c.tag,c.name,c.add,c.remove,c.leaf,c.keys,c.boxes,c.wkey,c.wik,c.wis,c.wsk,c.wss⟩:Commit)=c:=rfl;simp(disch:=omega) only[K1,JP_115_5_eq,jv,aU,aJ,Int.reduceLE,Int.reduceNeg,Nat.reduceAdd,MH,aW,aQ,↓aA,dU,cV,cW,bJ,kD,aY,iL,kE,kF,kG,kH,kI,kJ,iT,bV,bE,qA,bL,H2,h16',hm,hf,h99,jW,hin,h0,aZ,mkn,mkk0,h,e2,e3,aF,kj,↓KM]
   rfl
end
end Kw
namespace Kw
open Go Go.Proofs
theorem R1{A:Type} [Inhabited A](l:List A)(k:Nat)(h:k<l.length):l.drop k=ix l (k:Int)::l.drop (k+1):=by
 rw[aM l k h];exact qd h
theorem HB(r:List Row):BW (.ownK r)=some r:=(rfl)
section
variable (L D:Nat)
theorem av0(l:List Wait)(k:Nat)(hk:k<l.length):ev E L (D+1) 203 [.ownK (l.map rWt),.int .i64 (k:Int),.int .i64 ((k+1:Nat):Int)] []=some (.ownK ((l.eraseIdx k).map rWt),[]):=by
 have h:E.ext 203=some TG:=rfl;have h2:TG [.ownK (l.map rWt),.int .i64 (k:Int),.int .i64 ((k+1:Nat):Int)]=some (.ownK ((l.eraseIdx k).map rWt)):=by
  unfold TG;simp only;rw[EI,jd (by rw[jz];omega),Bool.and_self,je rfl,ki,ki,List.eraseIdx_eq_take_drop_succ,List.map_append,List.map_take,List.map_drop]
 unfold ev;simp only[h,h2]
 rfl
theorem akK(hL:1099511627776<=L)(w:World)(z:WG w)(who pos kind add remove:Int)(text:ByteArray)(hw:aI who)(hp:0<=pos/\pos<w.log.length):∀(n k:Nat),w.waits.length-k<n->k<=w.waits.length->
 qR L (D+314) n (w.seats.map rM) (w.log.map rC) (w.fresh.map rI) (w.spy.map rS) (w.stolen.map rSt) (w.frames.map rF) (w.said.map rI) (w.wins.map rWs) (w.told.map rT) (w.waits.map rWt) (w.seats.length:Nat) (w.waits.length:Nat) (w.log.length:Nat) (w.fresh.length:Nat) (w.spy.length:Nat) (w.stolen.length:Nat) (w.frames.length:Nat) (w.said.length:Nat) (w.wins.length:Nat) (w.told.length:Nat) kind who add remove pos text (w.waits.length:Nat) (w.waits.length:Nat) k=some (.tup [],[.cells (wK (joinGo w who pos (w.waits.drop k) k))]):=by
 intro n;induction n with
 |zero=>intro k h;omega
 |succ n ih=>
  intro k hn hk;rw[KV];simp only[KM];have z1:=z.waits;have z8:=z.seats;have w0:=hw.1;have w1:who<w.seats.length:=by have:=hw.2;omega
  have p0:=hp.1;have p1:=hp.2;by_cases h:k<w.waits.length
  case neg=>
   have h':¬(k:Int)<w.waits.length:=by omega
   simp(disch:=omega) only[K1,↓aA,h'];rw[jo (by omega)];rfl
  have h':(k:Int)<w.waits.length:=by omega
  have next:=ih (k+1) (by omega) (by omega)
  rw[R1 w.waits k h,joinGo];have hxm:ix w.waits (k:Int)∈w.waits:=jA (by omega) (by omega)
  generalize hx:ix w.waits (k:Int)=x at hxm;obtain⟨_,_,x3,x4⟩:=z.waitsI x hxm;by_cases h1:x.who=who
  case neg=>
   rw[jc (fun y=>h1 y.1)]
   simp(disch:=omega) only[K1,↓aA,AK,AL,AM,AN,kK,l8,h',hx,h1,aH,next]
  have hd1:decide (x.who=who)=true:=jd h1;by_cases h2:x.pos=pos
  case neg=>
   rw[jc (fun y=>h2 y.2)]
   simp(disch:=omega) only[K1,↓aA,AK,AL,AM,AN,kK,l8,h',hx,hd1,h2,aH,next]
  have hd2:decide (x.pos=pos)=true:=jd h2;rw[je ⟨h1,h2⟩];have hco:=z.logI _ (jA p0 p1);have q0:0<=x.pos:=by omega
  have q1:x.pos<w.log.length:=by omega
  generalize hc:ix w.log pos=c at hco;have hc':ix w.log x.pos=c:=by rw[h2,hc]
  have hj:=aa1 L D hL who x.leaf x.key c (JY hco) (by have:=cB x3;omega) (by have:=cB x4;omega)
  have e2:(⟨c.sender,c.tag,c.name,c.add,c.remove,c.leaf,c.keys,c.boxes,c.wkey,c.wik,c.wis,c.wsk,c.wss⟩:Commit)=c:=rfl;have hdel:=av0 L (D+313) w.waits k h;cases hm:iP who x.leaf x.key c with
  |none=>
   rw[hm]at hj;simp only[rM,rC]at hj;simp(disch:=omega) only[K1,Int.reduceLE,Nat.reduceAdd,↓aA,iT,bV,bE,qA,bL,KG,KH,KI,KJ,KK,KL,KN,KO,KP,KQ,AH,AI,AJ,mX,nK,AK,AL,AM,AN,kK,l8,h',hx,hd2,h1,hc',hj,aH,next]
  |some m=>
   rw[hm]at hj;simp only[rM,rC]at hj;have e3:(⟨m.inn,m.who,m.keys,m.own,m.epoch,m.init,m.tag⟩:Member)=m:=rfl;simp(disch:=omega) only[K1,Int.reduceLE,Nat.reduceAdd,↓aA,iT,bV,bE,qA,bL,KG,KH,KI,KJ,KK,KL,KN,KO,KP,KQ,AH,AI,AJ,mX,nK,AK,AL,AM,AN,kK,l8,h',hx,hd2,h1,hc',hj,e3,kj,aH,hdel,HB]
   rfl
theorem as4(hL:1099511627776<=L)(w:World)(z:WG w)(e:Event)(hw:aI e.who)(hp:0<=e.pos/\e.pos<w.log.length):ev E L (D+315) 117 [.ptr (.imp 0) 0,.agg [.int .i64 e.kind,.int .i64 e.who,.int .i64 e.add,.int .i64 e.remove,.int .i64 e.pos,.str (bs e.text)]] [.cells (wK w)]=some (.tup [],[.cells (wK (dC w e.who e.pos))]):=by
 unfold wK;rw[aoU];simp only[KM];have z8:=z.seats;have z1:=z.waits;have w0:=hw.1;have w1:e.who<w.seats.length:=by have:=hw.2;omega
 unfold dC;have hl:=akK L D hL w z e.who e.pos e.kind e.add e.remove (bs e.text) hw hp L 0 (by omega) (by omega)
 generalize hm:ix w.seats e.who=m;cases hi:m.inn with
 |true=>simp(disch:=omega) only[K1,↓aA,iL,bE,bL,hm,hi]
 |false=>
  simp(disch:=omega) only[K1,↓aA,iL,bE,bL,hm,hi];exact hl
end
end Kw
