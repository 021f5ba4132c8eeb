import Derived.Test.YthjlffhckgaboaaGreatDoorW08
set_option linter.unusedVariables false
set_option linter.unusedSimpArgs false
set_option linter.unusedSectionVars false
namespace Kw
open Go Go.Proofs
def wH{A:Type}(p:A->Bool):List A->Nat->Int
 |[],_=> -1
 |a::r,k=>if p a=true then k else wH p r (k+1)
theorem iY{A:Type}(p:A->Bool):∀(l:List A) (k:Nat),decide (0<=wH p l k)=l.any p
 |[],_=>rfl
 |a::r,k=>by
  have e:wH p (a::r) k=if p a=true then(k:Int)else wH p r (k+1):=rfl
  rw[e,List.any_cons];cases h:p a with
  |true=>rw[je rfl,Bool.true_or];exact jd (by omega)
  |false=>rw[jc (by simp),Bool.false_or,iY p r (k+1)]
theorem idxP_cases{A:Type}(p:A->Bool):∀(l:List A) (k:Nat),(∃j:Nat,∃h:j<l.length,wH p l k=((k+j:Nat):Int)/\p l[j]=true)\/wH p l k= -1
 |[],_=>.inr rfl
 |a::r,k=>by
  have e:wH p (a::r) k=if p a=true then(k:Int)else wH p r (k+1):=rfl
  rw[e];by_cases h:p a=true
  ·rw[je h];exact .inl ⟨0,by simp,by simp,h⟩
  ·rw[jc h];rcases idxP_cases p r (k+1)with⟨j,hj,h1,h2⟩|h1
   ·exact .inl ⟨j+1,by simpa using hj,by rw[h1];congr 1;omega,h2⟩
   ·exact .inr h1
theorem iL{A:Type}(l:List A)(p:A->Bool)(ob:List Obj)(F:Nat->Int->Option (MV×List Obj))
 (h1:∀(n k:Nat) (hk:k<l.length),F (n+1) k=if p l[k]=true then some (.int .i64 k,ob)else F n ((k+1:Nat):Int))
 (h2:∀n:Nat,F (n+1) (l.length:Nat)=some (.int .i64 (-1),ob)):∀(m k:Nat),l.length<m+k->k<=l.length->F m k=some (.int .i64 (wH p (l.drop k) k),ob)
 |0,k,h,hk=>by omega
 |m+1,k,h,hk=>by
  by_cases hlt:k<l.length
  ·rw[h1 m k hlt,qa hlt,iL l p ob F h1 h2 m (k+1) (by omega) (by omega)]
   rw[show wH p (l[k]::l.drop (k+1)) k=if p l[k]=true then(k:Int)else wH p (l.drop (k+1)) (k+1)from rfl]
   by_cases hp:p l[k]=true
   ·rw[je hp,je hp]
   ·rw[jc hp,jc hp]
  ·have e:k=l.length:=by omega
   subst e;rw[h2 m,List.drop_length];rfl
theorem aaC(own:List Own):∀(l:List Box) (k:Nat),wW own l k=wH (fun b=>oR own b.key) l k
 |[],_=>rfl
 |b::r,k=>by
  show(if oR own b.key=true then(k:Int)else wW own r (k+1))=if oR own b.key=true then(k:Int)else wH _ r (k+1)
  rw[aaC own r (k+1)]
theorem ai6:∀(l:List Int) (n:Int) (k:Nat),M4 l n k=wH (fun a=>decide (n=a)) l k
 |[],_,_=>rfl
 |a::r,n,k=>by
  have ih:=ai6 r n (k+1);show(if n=a then(k:Int)else M4 r n (k+1))=if decide (n=a)=true then(k:Int)else wH _ r (k+1)
  rw[ih];simp only[jb]
theorem jN(n:Int):iLe 0 n=decide (0<=n):=iLe_dec ..
section
variable (L D:Nat)
theorem aaD(hL:1099511627776<=L)(l:List Int)(hl:l.length<=1000)(n:Int):ev E L (D+2) 199 [.sl (l.map rI),.int .i64 n] []=some (.bool (decide (n∈l)),[]):=by
 rw[atX];simp only[KM];rw[ai5 L D hL l hl n];simp only[bnd_some',gInt_i];rw[jN,ai6,iY]
 congr 3
 apply yp.2;simp
theorem aaE(hL:1099511627776<=L)(base c:List S)(hb:base.length=15)(hc:c.length<=15)(fr:List Int)(hf:fr.length<=1000):∀(m k:Nat),c.length<m+k->k<=c.length->
 y9 L (D+2) m (base.map rS) base.length (fr.map rI) (c.map rS) c.length k=some (.bool (pQ base fr (c.drop k) k),[])
 |0,k,h,hk=>by omega
 |m+1,k,h,hk=>by
  rw[NB];simp only[KM];by_cases hlt:k<c.length
  ·have g:iLt (k:Int) (c.length:Int)=true:=by rw[iLt_dec,jb];omega
   have a1:bR .i64 (k:Int) 1=((k+1:Nat):Int):=aG _ (by omega)
   have u1:=aW (k:Int) c (by omega) (by omega)
   have u2:=aW (k:Int) base (by omega) (by omega)
   have u3:=kH base (k:Int) (by omega) (by omega)
   have gc:∀s:S,eF (aC (rS s) 0)=some (bs s):=fun _=>rfl
   have hci:=aaD L D hL fr hf (k:Int);have ih:=aaE hL base c hb hc fr hf m (k+1) (by omega) (by omega)
   rw[aK c k hlt]at u1;rw[qa hlt];unfold pQ;simp only[g,br_true',u1,u2,u3,bnd_some',gc,nrows_map,iEq_self,sEq_bs,a1,ih,hci,gBool_b];by_cases h1:c[k]=ix base (k:Int)
   ·rw[je h1,jd h1];rfl
   ·rw[jc h1,ji h1,bNot_f,br_true'];by_cases h2:(k:Int)∈fr
    ·rw[je h2,jd h2];rfl
    ·rw[jc h2,ji h2];rfl
  ·have g:iLt (k:Int) (c.length:Int)=false:=by rw[iLt_dec,jh];omega
   rw[g,br_false',wx (by omega)];rfl
theorem aw7(hL:1099511627776<=L)(m:Member)(c:Commit)(hk:m.inn=true->m.keys.length=15)(hs:aH c.sender)(hc:c.keys.length=15)(ha: -1<=c.add/\c.add<=7)(hr: -1<=c.remove/\c.remove<=7):
 ev E L (D+8) 191 [.agg (rM m),.agg (rC c)] []=some (.bool (yY m c),[]):=by
 obtain⟨b,w,ks,own,e,i,t⟩:=m;obtain⟨c0,c1,c2,c3,c4,c5,c6,c7,c8,c9,c10,c11,c12⟩:=c;simp only at hk hs hc ha hr;show ev E L (D+8) 191 [.agg [.bool b,.int .i64 w,.sl (ks.map rS),.sl (own.map rO),.int .i64 e,.str (bs i),.str (bs t)],.agg [.int .i64 c0,.str (bs c1),.str (bs c2),.int .i64 c3,.int .i64 c4,.str (bs c5),.sl (c6.map rS),.sl (c7.map rB),.str (bs c8),.str (bs c9),.str (bs c10),.str (bs c11),.str (bs c12)]] []=_;rw[atR];simp only[KM];unfold yY;simp only;refine qB fun hb=>?_
 have hk:=hk hb;rw[sEq_bs];refine qB fun _=>?_
 have e12:bNot (iLe 12 e)=decide (e<12):=by
  rw[iLe_dec];by_cases h:e<12
  ·rw[jd h,ji (by omega)];rfl
  ·rw[ji h,jd (by omega)];rfl
 rw[e12];have guard1:∀{b:Bool} {X:Option (MV×List Obj)} {r:Bool},(b=true->X=some (.bool r,[]))->br b X (some (.bool false,[]))=some (.bool (b&&r),[]):=fun{b} {X} {r} h=>by
  cases b with
  |false=>rfl
  |true=>rw[h rfl];rfl
 refine guard1 fun _=>?_
 have en:bNot (iEq c0 w)=decide (c0≠w):=by rw[iEq_dec,aQ]
 rw[en];refine guard1 fun _=>?_
 rw[VJ L (D+4) ks hk c0,jd hs,jy];simp only[bnd_some',gBool_b];refine qB fun _=>?_
 rw[P6 L (D+3) ks hk c3 c4 ha hr];simp only[bnd_some',gBool_b];have hbase:=aiU L (D+1) hL ks hk c3 c4 c5 ha hr;have hpath:=G3 L (D+3) hL c0 hs;have hlp:=aaE L (D+5) hL (baseT ks c3 c4 c5) c6 (by rw[MC,hk]) (by omega) (pathOf c0) (kb (eX c0) (by omega)) L 0 (by omega) (by omega)
 cases changes ks c3 c4 with
 |false=>rfl
 |true=>
  rw[jy,bNot_t,br_false'];simp only[hbase,bnd_some',gAggN_if,jf,jk,ju,cellAt_zero,gOwn_r,hpath,gSl_r,nrows_map];exact hlp
theorem ai7(hL:1099511627776<=L)(o:Own)(ks:List S)(hn:0<=o.node/\o.node<ks.length)(hk:ks.length<=1000)(hs:o.sec.length<=500000):
 ev E L (D+309) 243 [.agg [.int .i64 o.node,.str (bs o.sec)],.ptr (.imp 0) 0] [.cells [.sl (ks.map rS)]]=some (.bool (!decide (ix ks o.node=makKey o.sec)),[.cells [.sl (ks.map rS)]]):=by
 rw[au9];simp only[KM];have u:=aW o.node ks hn.1 (by omega)
 have gc:∀s:S,eF (aC (rS s) 0)=some (bs s):=fun _=>rfl
 simp only[u,bnd_some',gc,qC L D hL o.sec hs,gStr_s,sEq_bs]
 rfl
theorem ai8(hL:1099511627776<=L)(own:List Own)(ks:List S)(hn:∀o∈own,0<=o.node/\o.node<ks.length)(hk:ks.length<=1000)(hs:∀o∈own,o.sec.length<=500000)(hl:own.length<=1000):
 kC L (D+309) L (ks.map rS) (own.map rO) own.length 0=some (.int .i64 (wH (fun o=>!decide (ix ks o.node=makKey o.sec)) own 0),[.cells [.sl (ks.map rS)]]):=by
 refine iL own _ _ (fun m k=>kC L (D+309) m (ks.map rS) (own.map rO) own.length k) (fun n k hk'=>?_) (fun n=>?_) L 0 (by omega) (by omega)
 ·show kC L (D+309) (n+1) _ _ _ _=_;rw[sO];simp only[KM];have g:iLt (k:Int) (own.length:Int)=true:=by rw[iLt_dec,jb];omega
  have a1:bR .i64 (k:Int) 1=((k+1:Nat):Int):=aG _ (by omega)
  have u:=dY (k:Int) own (by omega) (by omega)
  rw[aK own k hk']at u;have c0:∀o:Own,eI .i64 (aC (rO o) 0)=some o.node:=fun _=>rfl
  have c1:∀o:Own,eF (aC (rO o) 1)=some (bs o.sec):=fun _=>rfl
  have hm:=jt hk';have h:=ai7 L D hL own[k] ks (hn _ hm) hk (hs _ hm);simp only[g,br_true',u,bnd_some',c0,c1,h,iG,bK,jf,jk,ju,cellAt_zero,gSl_r,gBool_b,a1];rw[bE]
 ·show kC L (D+309) (n+1) _ _ _ _=_;rw[sO];simp only[KM];have g:iLt (own.length:Int) (own.length:Int)=false:=by rw[iLt_dec,jh];omega
  rw[g,br_false']
theorem aoI(hL:1099511627776<=L)(own:List Own)(ks:List S)(hn:∀o∈own,0<=o.node/\o.node<ks.length)(hk:ks.length<=1000)(hs:∀o∈own,o.sec.length<=500000)(hl:own.length<=1000):
 ev E L (D+312) 198 [.sl (ks.map rS),.sl (own.map rO)] []=some (.bool (eZ ks own),[]):=by
 rw[atW];simp only[KM];rw[adK];simp only[KM];rw[ad6,nrows_map,ai8 L D hL own ks hn hk hs hl];simp only[bnd_some',iG,bK,jf,jk,ju,cellAt_zero,gSl_r,gInt_i,jN,iY,gBool_b];unfold eZ;rw[aoG];simp only[Bool.not_not];rw[show∀b:Bool,bNot (!b)=b from fun b=>by cases b<;>rfl]
end
end Kw
namespace Kw
open Go Go.Proofs
theorem YC(kc km:List S)(nodes:List Int)(o:Own)(r:List Own):oS kc km nodes (o::r)=(if(!decide (o.node∈nodes)&&decide (ix kc o.node=ix km o.node))=true then[o]else[])++oS kc km nodes r:=by
 unfold oS;rw[yx];split<;>rfl
section
variable (L D:Nat)
theorem ai9(hL:1099511627776<=L)(o:Own)(k s:S)(hs:o.sec.length<=500000):
 ev E L (D+309) 195 [.agg [.int .i64 o.node,.str (bs o.sec)],.ptr (.imp 0) 0] [.cells [.str (bs k),.str (bs s)]]=some (.bool (decide (makKey o.sec=k)),[.cells [.str (bs k),.str (bs s)]]):=by
 rw[atT];simp only[KM];rw[qC L D hL o.sec hs];simp only[bnd_some',gStr_s,sEq_bs]
theorem aiA(hL:1099511627776<=L)(own:List Own)(q s:S)(hs:∀o∈own,o.sec.length<=500000)(hl:own.length<=1000000):
 kB L (D+309) L (bs q) (bs s) (own.map rO) own.length 0=some (.int .i64 (wH (fun o=>decide (makKey o.sec=q)) own 0),[.cells [.str (bs q),.str (bs s)]]):=by
 refine iL own _ _ (fun m k=>kB L (D+309) m (bs q) (bs s) (own.map rO) own.length k) (fun n k hk'=>?_) (fun n=>?_) L 0 (by omega) (by omega)
 ·show kB L (D+309) (n+1) _ _ _ _ _=_;rw[sN];simp only[KM];have g:iLt (k:Int) (own.length:Int)=true:=by rw[iLt_dec,jb];omega
  have a1:bR .i64 (k:Int) 1=((k+1:Nat):Int):=aG _ (by omega)
  have u:=dY (k:Int) own (by omega) (by omega)
  rw[aK own k hk']at u;have c0:∀o:Own,eI .i64 (aC (rO o) 0)=some o.node:=fun _=>rfl
  have c1:∀o:Own,eF (aC (rO o) 1)=some (bs o.sec):=fun _=>rfl
  have h:=ai9 L D hL own[k] q s (hs _ (jt hk'));simp only[g,br_true',u,bnd_some',c0,c1,h,iG,bK,jf,jk,ju,cellAt_zero,cellAt_succ,gStr_s,gBool_b,a1];rw[bE]
 ·show kB L (D+309) (n+1) _ _ _ _ _=_;rw[sN];simp only[KM];have g:iLt (own.length:Int) (own.length:Int)=false:=by rw[iLt_dec,jh];omega
  rw[g,br_false']
theorem aoJ(hL:1099511627776<=L)(own:List Own)(q s:S)(hs:∀o∈own,o.sec.length<=500000)(hl:own.length<=1000000):
 ev E L (D+311) 194 [.sl (own.map rO),.fn 195 [.ptr (.imp 0) 0]] [.cells [.str (bs q),.str (bs s)]]=some (.bool (oR own q),[.cells [.str (bs q),.str (bs s)]]):=by
 rw[adJ];simp only[KM];rw[ad5,nrows_map,aiA L D hL own q s hs hl];simp only[bnd_some',iG,bK,jf,jk,ju,cellAt_zero,cellAt_succ,gStr_s,gInt_i,jN,iY]
 rfl
theorem aoK(hL:1099511627776<=L)(b:Bool)(w e:Int)(ks:List S)(own:List Own)(i t:S)(bx:List Box)(hb:bx.length<=1000000)(hs:∀o∈own,o.sec.length<=500000)(hl:own.length<=1000000):
 ev E L (D+313) 192 [.sl (bx.map rB),.fn 193 [.ptr (.imp 0) 0]] [.cells [.bool b,.int .i64 w,.sl (ks.map rS),.sl (own.map rO),.int .i64 e,.str (bs i),.str (bs t)]]=some (.int .i64 (wW own bx 0),[.cells [.bool b,.int .i64 w,.sl (ks.map rS),.sl (own.map rO),.int .i64 e,.str (bs i),.str (bs t)]]):=by
 rw[adI,nrows_map,aaC];refine iL bx (fun x=>oR own x.key) _ (fun m k=>mE L (D+312) m b w (ks.map rS) (own.map rO) e (bs i) (bs t) (bx.map rB) bx.length k) (fun n k hk'=>?_) (fun n=>?_) L 0 (by omega) (by omega)
 ·show mE L (D+312) (n+1) _ _ _ _ _ _ _ _ _ _=_;rw[tA];simp only[KM];have g:iLt (k:Int) (bx.length:Int)=true:=by rw[iLt_dec,jb];omega
  have a1:bR .i64 (k:Int) 1=((k+1:Nat):Int):=aG _ (by omega)
  have u:=rH (k:Int) bx (by omega) (by omega)
  rw[aK bx k hk']at u;have c0:∀o:Box,eF (aC (rB o) 0)=some (bs o.key):=fun _=>rfl
  have c1:∀o:Box,eF (aC (rB o) 1)=some (bs o.sec):=fun _=>rfl
  have h:=aoJ L D hL own bx[k].key bx[k].sec hs hl;simp only[g,br_true',u,bnd_some',c0,c1,atS,h,iG,bK,jf,jk,ju,cellAt_zero,cellAt_succ,gStr_s,gBool_b,gInt_i,gSl_r,a1,↓KM];rw[bE]
 ·show mE L (D+312) (n+1) _ _ _ _ _ _ _ _ _ _=_;rw[tA];simp only[KM];have g:iLt (bx.length:Int) (bx.length:Int)=false:=by rw[iLt_dec,jh];omega
  rw[g,br_false']
theorem aaF(hL:1099511627776<=L)(kc km:List S)(hkc:kc.length=15)(hkm:km.length=15)(nodes:List Int)(hnn:nodes.length<=1000)(fr:List Own)(own:List Own)(hl:own.length<=1000000)(hn:∀o∈own,0<=o.node/\o.node<=14)(r0:List Row)(r1:List Row)(r2:List Row)(b4:Bool)(i5:Int)(r7:List Row)(i8:Int)(s9:ByteArray)(s10:ByteArray)(i11:Int)(s12:ByteArray)(s13:ByteArray)(i14:Int)(i15:Int)(s16:ByteArray)(r18:List Row)(s19:ByteArray)(s20:ByteArray)(s21:ByteArray)(s22:ByteArray)(s23:ByteArray)(b24:Bool)(i25:Int)(i26:Int)(i27:Int)(i28:Int)(s29:ByteArray)(s30:ByteArray)(b31:Bool)(i32:Int)(r33:List Row)(r34:List Row)(i35:Int)(s36:ByteArray)(s37:ByteArray)(b38:Bool)(i39:Int)(i40:Int)(i42:Int)(s43:ByteArray)(s44:ByteArray):∀(m k:Nat) (acc:List Own),own.length<m+k->k<=own.length->acc.length<=k->
 nM L (D+313) m r0 r1 r2 (acc.map rO) b4 i5 (km.map rS) r7 i8 s9 s10 i11 s12 s13 i14 i15 s16 (kc.map rS) r18 s19 s20 s21 s22 s23 b24 i25 i26 i27 i28 s29 s30 b31 i32 r33 r34 i35 s36 s37 b38 i39 i40 acc.length i42 s43 s44 (nodes.map rI) (fr.map rO) (own.map rO) own.length k=nM L (D+313) (m+k-own.length) r0 r1 r2 ((acc++oS kc km nodes (own.drop k)).map rO) b4 i5 (km.map rS) r7 i8 s9 s10 i11 s12 s13 i14 i15 s16 (kc.map rS) r18 s19 s20 s21 s22 s23 b24 i25 i26 i27 i28 s29 s30 b31 i32 r33 r34 i35 s36 s37 b38 i39 i40 ((acc++oS kc km nodes (own.drop k)).length:Nat) i42 s43 s44 (nodes.map rI) (fr.map rO) (own.map rO) own.length own.length
 |0,k,acc,h,hk,ha=>by omega
 |m+1,k,acc,h,hk,ha=>by
  by_cases hlt:k<own.length
  ·rw[y6];simp only[KM];have g:iLt (k:Int) (own.length:Int)=true:=by rw[iLt_dec,jb];omega
   have a1:bR .i64 (k:Int) 1=((k+1:Nat):Int):=aG _ (by omega)
   have u:=dY (k:Int) own (by omega) (by omega)
   rw[aK own k hlt]at u;obtain⟨n0,n1⟩:=hn _ (jt hlt);have u1:=aW (own[k]).node kc (by omega) (by omega)
   have u2:=aW (own[k]).node km (by omega) (by omega)
   have c0:∀o:Own,eI .i64 (aC (rO o) 0)=some o.node:=fun _=>rfl
   have c1:∀o:Own,eF (aC (rO o) 1)=some (bs o.sec):=fun _=>rfl
   have gc:∀s:S,eF (aC (rS s) 0)=some (bs s):=fun _=>rfl
   have hci:=aaD L (D+311) hL nodes hnn (own[k]).node;have ih:=fun acc' (ha':acc'.length<=k+1)=>aaF hL kc km hkc hkm nodes hnn fr own hl hn r0 r1 r2 b4 i5 r7 i8 s9 s10 i11 s12 s13 i14 i15 s16 r18 s19 s20 s21 s22 s23 b24 i25 i26 i27 i28 s29 s30 b31 i32 r33 r34 i35 s36 s37 b38 i39 i40 i42 s43 s44 m (k+1) acc' (by omega) (by omega) ha'
   rw[show m+(k+1)-own.length=m+1+k-own.length by omega]at ih
   rw[qa hlt,YC];have er:[[MV.int .i64 (own[k]).node,MV.str (bs (own[k]).sec)]]=[rO own[k]]:=rfl;have q1:okR 2 [rO own[k]]=true:=rfl;have q2:eL (acc.length:Int) (nrows [rO own[k]]) 24=true:=aE _ _ _ (by show((acc.length:Int)+1)*24<=_;omega)
   have q3:cB (acc.map rO) [rO own[k]]=(acc++[own[k]]).map rO:=cJ rO acc own[k];simp only[g,br_true',u,bnd_some',c0,c1,hci,gBool_b,u1,u2,gc,sEq_bs,er,iEq_self,nrows_map,oQ,q1,q2,q3,cN,a1];by_cases h1:(own[k]).node∈nodes
   ·simp only[h1,Jp,Bool.not_true,z0,qd,qr,qg,bNot_t,br_false'];exact ih acc (by omega)
   ·simp only[h1,decide_false,bNot_f,br_true',Bool.not_false,jy,jb];by_cases h2:ix kc (own[k]).node=ix km (own[k]).node
    ·rw[je h2,jd h2,br_true',<-qm];exact ih (acc++[own[k]]) (by simp;omega)
    ·rw[jc h2,ji h2,br_false',qg];exact ih acc (by omega)
  ·have e:k=own.length:=by omega
   subst e;rw[List.drop_length];have:oS kc km nodes []=[]:=rfl;rw[this,ka,show m+1+own.length-own.length=m+1 by omega]
end
end Kw
namespace Kw
open Go Go.Proofs
section
variable (L D:Nat)
set_option maxRecDepth 8000 in
theorem adP(hL:1099511627776<=L)(m:Member)(c:Commit)(z:MB m)(zc:CBd c):
 ev E L (D+314) 116 [.agg (rM m),.agg (rC c)] []=some (.tup [.agg (rM (dH m c).1),.bool (dH m c).2],[]):=by
 rw[<-HU];have hmo:=wM L (D+2) hL m z;have hco:=R9 L (D+2) hL c zc;have hcp:=aaA L (D+310) m z;have hgo:=aw7 L (D+305) hL m c;unfold EI;by_cases h1:memOk m=true
 case neg=>
  obtain⟨b,w,ks,own,e,i,t⟩:=m;obtain⟨c0,c1,c2,c3,c4,c5,c6,c7,c8,c9,c10,c11,c12⟩:=c;change ev E L (D+313) 22 [.agg [.bool b,.int .i64 w,.sl (ks.map rS),.sl (own.map rO),.int .i64 e,.str (bs i),.str (bs t)]] []=_ at hmo;show ev E L (D+314) 116 [.agg [.bool b,.int .i64 w,.sl (ks.map rS),.sl (own.map rO),.int .i64 e,.str (bs i),.str (bs t)],.agg [.int .i64 c0,.str (bs c1),.str (bs c2),.int .i64 c3,.int .i64 c4,.str (bs c5),.sl (c6.map rS),.sl (c7.map rB),.str (bs c8),.str (bs c9),.str (bs c10),.str (bs c11),.str (bs c12)]] []=_;rw[XZ];simp only[KM];rw[hmo,jc h1,show memOk _=false from yc.2 h1]
  rfl
 by_cases h2:cP c=true
 case neg=>
  obtain⟨b,w,ks,own,e,i,t⟩:=m;obtain⟨c0,c1,c2,c3,c4,c5,c6,c7,c8,c9,c10,c11,c12⟩:=c;change ev E L (D+313) 22 [.agg [.bool b,.int .i64 w,.sl (ks.map rS),.sl (own.map rO),.int .i64 e,.str (bs i),.str (bs t)]] []=_ at hmo;change ev E L (D+313) 32 [.agg [.int .i64 c0,.str (bs c1),.str (bs c2),.int .i64 c3,.int .i64 c4,.str (bs c5),.sl (c6.map rS),.sl (c7.map rB),.str (bs c8),.str (bs c9),.str (bs c10),.str (bs c11),.str (bs c12)]] []=_ at hco;show ev E L (D+314) 116 [.agg [.bool b,.int .i64 w,.sl (ks.map rS),.sl (own.map rO),.int .i64 e,.str (bs i),.str (bs t)],.agg [.int .i64 c0,.str (bs c1),.str (bs c2),.int .i64 c3,.int .i64 c4,.str (bs c5),.sl (c6.map rS),.sl (c7.map rB),.str (bs c8),.str (bs c9),.str (bs c10),.str (bs c11),.str (bs c12)]] []=_;rw[XZ];simp only[KM];rw[hmo,je h1,h1,jc h2];simp only[bnd_some',gBool_b,bNot_t,bNot_f,br_true'];rw[hco,show cP _=false from yc.2 h2]
  rfl
 rw[je h1,je h2];obtain⟨hs,hck,hbo,hca,hcr,_⟩:=sI h2;have hgo:=hgo (fun hi=>(lC h1 hi).2.1) hs hck ⟨hca.1,hca.2.1⟩ ⟨hcr.1,hcr.2.1⟩
 have hmk:=fun hi=>lC h1 hi
 have hgi:yY m c=true->m.inn=true:=fun h=>by
  unfold yY at h;simp only[jg]at h;exact h.1
 obtain⟨b,w,ks,own,e,i,t⟩:=m;obtain⟨c0,c1,c2,c3,c4,c5,c6,c7,c8,c9,c10,c11,c12⟩:=c;obtain⟨z1,z2,z3,z4,z5,z6⟩:=z;obtain⟨zc1,zc2,zc3,zc4,zc5,zc6,zc7,_,_,_,_,_⟩:=zc;simp only at z1 z2 z3 z4 z5 z6 zc1 zc2 zc3 zc4 zc5 zc6 zc7 hs hck hca hcr hmk hgi hbo;change ev E L (D+313) 22 [.agg [.bool b,.int .i64 w,.sl (ks.map rS),.sl (own.map rO),.int .i64 e,.str (bs i),.str (bs t)]] []=_ at hmo;change ev E L (D+313) 32 [.agg [.int .i64 c0,.str (bs c1),.str (bs c2),.int .i64 c3,.int .i64 c4,.str (bs c5),.sl (c6.map rS),.sl (c7.map rB),.str (bs c8),.str (bs c9),.str (bs c10),.str (bs c11),.str (bs c12)]] []=_ at hco;change ev E L (D+313) 113 [.agg [.bool b,.int .i64 w,.sl (ks.map rS),.sl (own.map rO),.int .i64 e,.str (bs i),.str (bs t)]] []=some (.agg [.bool b,.int .i64 w,.sl (ks.map rS),.sl (own.map rO),.int .i64 e,.str (bs i),.str (bs t)],[])at hcp;change ev E L (D+313) 191 [.agg [.bool b,.int .i64 w,.sl (ks.map rS),.sl (own.map rO),.int .i64 e,.str (bs i),.str (bs t)],.agg [.int .i64 c0,.str (bs c1),.str (bs c2),.int .i64 c3,.int .i64 c4,.str (bs c5),.sl (c6.map rS),.sl (c7.map rB),.str (bs c8),.str (bs c9),.str (bs c10),.str (bs c11),.str (bs c12)]] []=_ at hgo;show ev E L (D+314) 116 [.agg [.bool b,.int .i64 w,.sl (ks.map rS),.sl (own.map rO),.int .i64 e,.str (bs i),.str (bs t)],.agg [.int .i64 c0,.str (bs c1),.str (bs c2),.int .i64 c3,.int .i64 c4,.str (bs c5),.sl (c6.map rS),.sl (c7.map rB),.str (bs c8),.str (bs c9),.str (bs c10),.str (bs c11),.str (bs c12)]] []=_;rw[XZ];simp only[KM];rw[hmo,h1];simp only[bnd_some',gBool_b,bNot_t,bNot_f,br_true',hco,h2,br_false',hcp,gAggN_if,jf,jk,ju,cellAt_zero,cellAt_succ,gInt_i,gStr_s,gSl_r,hgo];by_cases h3:yY ⟨b,w,ks,own,e,i,t⟩ ⟨c0,c1,c2,c3,c4,c5,c6,c7,c8,c9,c10,c11,c12⟩=true
 case neg=>
  rw[jc h3,show yY _ _=false from yc.2 h3]
  rfl
 rw[je h3,h3,bNot_t,br_false',iEq_dec];by_cases h4:c4=w
 case pos=>rw[jd h4,br_true',je h4];rfl
 rw[ji h4,br_false',jc h4];obtain⟨hw,hkk,hft,_,hep,_,htl⟩:=hmk (hgi h3);have hbx:=aoK L D hL b w e ks own i t c7 zc6 z4 z3;simp only[hbx,bnd_some',iG,bK,jf,jk,ju,cellAt_zero,cellAt_succ,gBool_b,gInt_i,gStr_s,gSl_r];rcases boxIx_or own c7 0 with⟨j,hj,hx,_⟩|⟨hx,_⟩
 case inr=>
  rw[hx,je (by omega)];rfl
 have ge:iLt ((0+j:Nat):Int) 0=false:=by rw[iLt_dec];exact ji (by omega)
 rw[hx,jc (by omega),ge,bNot_f,br_true']
 have u:=rH ((0+j:Nat):Int) c7 (by omega) (by omega)
 have ei:ix c7 ((0+j:Nat):Int)=c7[j]:=by rw[qx,aK c7 j hj]
 rw[ei]at u⊢;have hbm:=zc7 _ (jt hj);have hsh:=SL L (D+6) hL c7[j].sec (by omega)
 obtain⟨s,es⟩:∃s,s=c7[j].sec:=⟨_,rfl⟩;have bj:eF (aC (rB c7[j]) 1)=some (bs s):=by rw[es];rfl
 rw[<-es]at hbm hsh⊢;simp only[u,bnd_some',bj,hsh,gBool_b];by_cases h5:(secOk s&&decide (s.length<=292))=true
 case neg=>
  rw[jc h5,show(secOk s&&decide (s.length<=292))=false from yc.2 h5];rfl
 rw[je h5,h5,bNot_t,br_false'];have h5':=h5;simp only[jg,jb]at h5';obtain⟨hs1,hs2⟩:=h5';have m1:=rL L (D+312) w hw;have m2:=rL L (D+312) c0 hs;have m3:=YH L (D+310) hL (treLeaf w) (treLeaf c0);have hmi:=(I5 hw hs).1;have hmr:=pathOf_rng hw _ hmi;unfold HT;simp only;generalize treMeet (treLeaf w) (treLeaf c0)=nd at m3 hmr⊢;have m4:=aaS L (D+309) hL nd;have hul:=GO nd;have hur:∀q∈nd::bI nd,0<=q/\q<=14:=fun q hq=>by
  rcases ko.1 hq with rfl|hq
  ·exact hmr
  ·exact mF q hq
 have m5:=JO L (D+3) hL (nd::bI nd) s (by simp) (by simp only[jf];omega) (by omega)
 have hpl:=DD (nd::bI nd) s;have hpo:=sH (nd::bI nd) s hs1 (by simp only[jf];omega)
 have hpn:∀o∈pathGo (nd::bI nd) s,0<=o.node/\o.node<=14:=fun o ho=>by
  have e:=cT (nd::bI nd) s;exact hur _ (by rw[<-e];exact qf.2 ⟨o,ho,rfl⟩)
 have hnl:(nd::bI nd).length<=4:=by simp only[jf];omega
 have hnp:1<=(nd::bI nd).length:=by simp
 generalize(nd::bI nd)=nodes at m4 m5 hpl hpo hpn hnl hnp⊢;generalize pathGo nodes s=fr at m5 hpl hpo hpn⊢;have m6:=aoI L (D+1) hL fr c6 (fun o ho=>⟨(hpn o ho).1,by have:=(hpn o ho).2;omega⟩) (by omega) (fun o ho=>by have:=(hpo o ho).2;omega) (by omega)
 simp only[m1,m2,m3,m4,m5,m6,bnd_some',gInt_i,gSl_r,gBool_b];by_cases h6:eZ c6 fr=true
 case neg=>rw[jc h6,show eZ c6 fr=false from yc.2 h6];rfl
 rw[je h6,h6,bNot_t,br_false'];have hcl:=dB L (D+312) (F:=48) (sz:=1) rfl (c6.map rS) (iI _) (by simp;omega)
 have hft2:eL (sLen (bs t)) (sLen (bs c2)) 1=true:=aE _ _ _ (by rw[sLen_bs,sLen_bs];omega)
 have hon:∀o∈own,0<=o.node/\o.node<=14:=fun o ho=>by
  obtain⟨k,hk,rfl⟩:=qh.1 ho;have h1:=kj.1 hft k (v5.2 hk);unfold oK at h1;simp only[jg,jb]at h1;have e:ix own (k:Int)=own[k]:=aK own k hk;rw[e]at h1;exact pathOf_rng hw _ h1.1
 simp only[hcl,bnd_some',gOwn_r,hft2,br_true',nrows_map];refine Eq.trans (aaF L D hL c6 ks hck hkk nodes (by omega) fr own z3 hon _ _ _ _ _ _ _ _ _ _ _ _ _ _ _ _ _ _ _ _ _ _ _ _ _ _ _ _ _ _ _ _ _ _ _ _ _ _ _ _ _ L 0 [] (by omega) (by omega) (kg _)) ?_
 obtain⟨q,hq⟩:∃q,L+0-own.length=q+1:=⟨L+0-own.length-1,by omega⟩
 conv=>lhs;arg 3;rw[hq]
 rw[y6];simp only[KM];have g:iLt (own.length:Int) (own.length:Int)=false:=by rw[iLt_dec,jh];omega
 have hkl:(oS c6 ks nodes own).length<=own.length:=wq _ _;rw[qb,qg];generalize oS c6 ks nodes own=kp at hkl⊢;have f1:eL (kp.length:Int) (fr.length:Int) 24=true:=aE _ _ _ (by omega)
 have c1:cB (kp.map rO) (fr.map rO)=(kp++fr).map rO:=d7 ..;have hc2:=dB L (D+312) (F:=188) (sz:=2) rfl ((kp++fr).map rO) (oQ _) (by simp;omega)
 have s1:iS .i64 (fr.length:Int) 1=(fr.length:Int)-1:=d9 (by omega) (by omega)
 have u9:=dY ((fr.length:Int)-1) fr (by omega) (by omega)
 have bo:∀o:Own,eF (aC (rO o) 1)=some (bs o.sec):=fun _=>rfl
 have hlast:(ix fr ((fr.length:Int)-1)).sec.length<=400:=by
  have e:ix fr ((fr.length:Int)-1)=fr[fr.length-1]'(by omega):=by
   rw[show((fr.length:Int)-1)=((fr.length-1:Nat):Int) by omega,aK]
  rw[e];have:=(hpo _ (jt (h:=(by omega:fr.length-1<fr.length)))).2
  omega
 have hn:=GZ L (D+5) hL (ix fr ((fr.length:Int)-1)).sec (by omega)
 have hme:=MJ L (D+5) hL i (makNext (ix fr ((fr.length:Int)-1)).sec) (by have:=bS (hmk (hgi h3)).2.2.2.2.2.1;omega) (kb (oH _) (by omega))
 have ae:bR .i64 e 1=e+1:=by rw[bA (by omega) (by omega)]
 simp only[g,br_false',nrows_map,iEq_self,oQ,f1,cN,br_true',c1,hc2,bnd_some',gOwn_r,s1,u9,bo,hn,gStr_s,hme,sEq_bs,dN,ae];by_cases h7:bO i (makNext (ix fr ((fr.length:Int)-1)).sec)=[]
 ·rw[je h7,jd h7,br_true']
  rfl
 ·rw[jc h7,ji h7,br_false']
  rfl
end
end Kw
namespace Kw
open Go Go.Proofs
theorem aw8{b rest:Bool}{A R:MV×List Obj}{X:Option (MV×List Obj)}(h:b=true->X=some (if rest=true then A else R)):br (bNot b) (some R) X=some (if(b&&rest)=true then A else R):=by
 cases b with
 |false=>rfl
 |true=>rw[h rfl];rfl
theorem MD(a b:Int):bNot (iLt a b)=decide (b<=a):=by
 rw[iLt_dec];by_cases h:a<b
 ·rw[jd h,ji (by omega)];rfl
 ·rw[ji h,jd (by omega)];rfl
section
variable (L D:Nat)
theorem aoL(s:S):ev E L (D+1) 149 [.str (bs s),.str (bs [59])] []=some (.int .i64 (count s:Nat),[]):=by
 have h:E.ext 149=some CX:=rfl;have h2:CX [.str (bs s),.str (bs [59])]=some (.int .i64 (count s:Nat)):=by
  show some (MV.int .i64 ((bs s).data.toList.count 59:Nat))=_;have:(bs s).data.toList=s:=rfl;rw[this];unfold count;rw[List.count_eq_length_filter]
 unfold ev;simp only[h,h2]
 rfl
set_option maxRecDepth 8000 in
theorem adQ(hL:1099511627776<=L)(w:Int)(lf key:S)(c:Commit)(zc:CBd c)(hl:lf.length<=500000)(hk:key.length<=500000):
 ev E L (D+314) 202 [.int .i64 w,.str (bs lf),.str (bs key),.agg (rC c)] []=some (match iR w lf key c with|some x=>(.tup [.agg (rM x),.bool true],[])|none=>(.tup [.agg (rM bC),.bool false],[])):=by
 rw[<-UC];have e0:(match EJ w lf key c with|some x=>((.tup [.agg (rM x),.bool true],[]):MV×List Obj)|none=>(.tup [.agg (rM bC),.bool false],[]))=if(cP c&&(decide (0<=c.add)&&(decide (c.add=w)&&(decide (makKey lf=c.leaf)&&(decide (makKey key=c.wkey)&&((secOk c.wss&&decide (c.wss.length<=292))&&memOk (pP w lf c)))))))=true then(.tup [.agg (rM (pP w lf c)),.bool true],[])else(.tup [.agg (rM bC),.bool false],[]):=by
  unfold EJ;split
  ·rename_i h;split at h
   ·rename_i h2;rw[je h2];cases h;rfl
   ·cases h
  ·rename_i h;split at h
   ·cases h
   ·rename_i h2;rw[jc h2]
 rw[e0];have hco:=R9 L (D+2) hL c zc;have hck:=fun h=>sI (c:=c) h
 obtain⟨c0,c1,c2,c3,c4,c5,c6,c7,c8,c9,c10,c11,c12⟩:=c;obtain⟨zc1,zc2,zc3,zc4,zc5,zc6,zc7,zc8,zc9,zc10,zc11,zc12⟩:=zc;simp only at zc1 zc2 zc3 zc4 zc5 zc6 zc7 zc8 zc9 zc10 zc11 zc12;change ev E L (D+313) 32 [.agg [.int .i64 c0,.str (bs c1),.str (bs c2),.int .i64 c3,.int .i64 c4,.str (bs c5),.sl (c6.map rS),.sl (c7.map rB),.str (bs c8),.str (bs c9),.str (bs c10),.str (bs c11),.str (bs c12)]] []=_ at hco;show ev E L (D+314) 202 [.int .i64 w,.str (bs lf),.str (bs key),.agg [.int .i64 c0,.str (bs c1),.str (bs c2),.int .i64 c3,.int .i64 c4,.str (bs c5),.sl (c6.map rS),.sl (c7.map rB),.str (bs c8),.str (bs c9),.str (bs c10),.str (bs c11),.str (bs c12)]] []=_;rw[au0];simp only[KM];rw[hco];simp only[bnd_some',gBool_b];refine lP fun k1=>?_
 obtain⟨hs,hkl,_,hsa,_,htl⟩:=hck k1;simp only at hs hkl hsa htl;rw[MD];refine SC fun k2=>?_
 have k2:=qu k2;rw[iEq_dec];refine lP fun k3=>?_
 have k3:=qu k3;subst k3;have hw:aH c3:=⟨k2,hsa.2.1⟩;rw[qC L (D+5) hL lf (by omega)]
 simp only[bnd_some',gStr_s,sEq_bs];refine lP fun _=>?_
 rw[qC L (D+5) hL key (by omega)]
 simp only[bnd_some',gStr_s,sEq_bs];refine lP fun _=>?_
 rw[SL L (D+6) hL c12 (by omega)]
 simp only[bnd_some',gBool_b];refine aw8 fun k4=>?_
 simp only[jg,jb]at k4;obtain⟨hs1,hs2⟩:=k4;have hcl:=dB L (D+312) (F:=48) (sz:=1) rfl (c6.map rS) (iI _) (by simp;omega)
 have hct:=aoL L (D+312) c1;have hcn:count c1<=c1.length:=wq _ _;have m1:=rL L (D+312) c3 hw;have m2:=rL L (D+312) c0 hs;have m3:=YH L (D+310) hL (treLeaf c3) (treLeaf c0);have hmr:=pathOf_rng hw _ (I5 hw hs).1;have ej:pP c3 lf ⟨c0,c1,c2,c3,c4,c5,c6,c7,c8,c9,c10,c11,c12⟩=⟨true,c3,c6,⟨treLeaf c3,lf⟩::pathGo (treMeet (treLeaf c3) (treLeaf c0)::bI (treMeet (treLeaf c3) (treLeaf c0))) c12,count c1+1,c10,c1++c2⟩:=rfl;rw[ej];generalize treMeet (treLeaf c3) (treLeaf c0)=nd at m3 hmr⊢;have m4:=aaS L (D+309) hL nd;have hul:=GO nd;have m5:=JO L (D+3) hL (nd::bI nd) c12 (by simp) (by simp only[jf];omega) (by omega)
 have hpl:=DD (nd::bI nd) c12;have hpo:=sH (nd::bI nd) c12 hs1 (by simp only[jf];omega)
 have hnl:(nd::bI nd).length<=4:=by simp only[jf];omega
 generalize(nd::bI nd)=nodes at m4 m5 hpl hpo hnl⊢;generalize pathGo nodes c12=fr at m5 hpl hpo⊢;have er:[[MV.int .i64 (treLeaf c3),MV.str (bs lf)]]=([⟨treLeaf c3,lf⟩]:List Own).map rO:=rfl;have f1:eL (((([⟨treLeaf c3,lf⟩]:List Own).length:Nat):Int)) (fr.length:Int) 24=true:=aE _ _ _ (by simp only[jf,jk];omega)
 have cc:cB (([⟨treLeaf c3,lf⟩]:List Own).map rO) (fr.map rO)=((⟨treLeaf c3,lf⟩::fr:List Own)).map rO:=d7 rO [⟨treLeaf c3,lf⟩] fr;have hc2:=dB L (D+312) (F:=188) (sz:=2) rfl ((⟨treLeaf c3,lf⟩::fr:List Own).map rO) (oQ _) (by simp;omega)
 have hft:eL (sLen (bs c1)) (sLen (bs c2)) 1=true:=aE _ _ _ (by rw[sLen_bs,sLen_bs];omega)
 have ae:bR .i64 ((count c1:Nat):Int) 1=((count c1:Nat):Int)+1:=by rw[bA (by omega) (by omega)]
 have hmo:=wM L (D+2) hL ⟨true,c3,c6,⟨treLeaf c3,lf⟩::fr,(count c1:Nat)+1,c10,c1++c2⟩ ⟨zc4,zc5,by simp only[jf];omega,fun o ho=>by
  rcases ko.1 ho with rfl|ho
  ·exact hl
  ·have:=(hpo o ho).2;omega,zc10,by simp only[jl];omega⟩
 change ev E L (D+313) 22 [.agg [.bool true,.int .i64 c3,.sl (c6.map rS),.sl ((⟨treLeaf c3,lf⟩::fr:List Own).map rO),.int .i64 ((count c1:Nat)+1),.str (bs c10),.str (bs (c1++c2))]] []=_ at hmo;simp only[hcl,hct,m1,m2,m3,m4,m5,bnd_some',gOwn_r,gInt_i,gSl_r,hft,br_true',er,iEq_self,oQ,nrows_map,f1,cN,cc,hc2,ae,dN,hmo,gBool_b];cases memOk ⟨true,c3,c6,⟨treLeaf c3,lf⟩::fr,(count c1:Nat)+1,c10,c1++c2⟩with
 |false=>rfl
 |true=>rfl
theorem adR(hL:1099511627776<=L)(m:Member)(z:MB m)(n:Int)(text:S)(ht:text.length<=500000):
 ev E L (D+314) 118 [.agg (rM m),.int .i64 n,.str (bs text)] []=some (match nU m n text with|some x=>(.tup [.agg (rF x),.bool true],[])|none=>(.tup [.agg [.int .i64 0,.str (bs []),.int .i64 0,.str (bs [])],.bool false],[])):=by
 have hmo:=wM L (D+2) hL m z;have e0:(match nU m n text with|some x=>((.tup [.agg (rF x),.bool true],[]):MV×List Obj)|none=>(.tup [.agg [.int .i64 0,.str (bs []),.int .i64 0,.str (bs [])],.bool false],[]))=if(memOk m&&(m.inn&&fraOk ⟨m.who,dZ m.init m.who,n,text⟩))=true then(.tup [.agg (rF ⟨m.who,dZ m.init m.who,n,text⟩),.bool true],[])else(.tup [.agg [.int .i64 0,.str (bs []),.int .i64 0,.str (bs [])],.bool false],[]):=by
  have hc:(memOk m&&(m.inn&&fraOk ⟨m.who,dZ m.init m.who,n,text⟩))=true↔(memOk m=true/\m.inn=true/\1<=n/\n<=999/\nT text=true/\dZ m.init m.who≠[]):=by
   unfold fraOk;simp only[jg,jb];constructor
   ·rintro⟨h1,h2,⟨h3,h4,h5,h6,h7⟩,h8⟩;refine⟨h1,h2,h6,h7,h8,fun h=>?_⟩
    rw[h]at h4;revert h4;decide+kernel
   ·rintro⟨h1,h2,h3,h4,h5,h6⟩;obtain⟨hw,_,_,_,_,hi,_⟩:=lC h1 h2;have hs:=UD hw h6;exact⟨h1,h2,⟨hw,hs.1,hs.2,h3,h4⟩,h5⟩
  unfold nU;by_cases h:(memOk m&&(m.inn&&fraOk ⟨m.who,dZ m.init m.who,n,text⟩))=true
  ·rw[je h,je (hc.1 h)]
  ·rw[jc h,jc (fun x=>h (hc.2 x))]
 rw[e0];obtain⟨b,w,ks,own,e,i,t⟩:=m;obtain⟨z1,z2,z3,z4,z5,z6⟩:=z;simp only at z1 z2 z3 z4 z5 z6;change ev E L (D+313) 22 [.agg [.bool b,.int .i64 w,.sl (ks.map rS),.sl (own.map rO),.int .i64 e,.str (bs i),.str (bs t)]] []=_ at hmo;show ev E L (D+314) 118 [.agg [.bool b,.int .i64 w,.sl (ks.map rS),.sl (own.map rO),.int .i64 e,.str (bs i),.str (bs t)],.int .i64 n,.str (bs text)] []=_;rw[at8];simp only[KM];rw[VH L (D+5) hL i w z5];simp only[bnd_some',gStr_s];rw[hmo];simp only[bnd_some',gBool_b];refine lP fun _=>?_
 refine lP fun _=>?_
 have hsl:(dZ i w).length<=300:=by
  unfold dZ;split
  ·exact JM _ _
  ·simp
 have hf:=SA L (D+2) hL ⟨w,dZ i w,n,text⟩ (by show(dZ i w).length<=_;omega) ht
 change ev E L (D+313) 43 [.agg [.int .i64 w,.str (bs (dZ i w)),.int .i64 n,.str (bs text)]] []=_ at hf;simp only[hf,bnd_some',gBool_b];cases fraOk ⟨w,dZ i w,n,text⟩with
 |false=>rfl
 |true=>rfl
end
end Kw
namespace Kw
theorem HV(n top:Int):∀l:List Int,seenGo n top l true=l.filter fun x=>!decide (x<=top-8)
 |[]=>rfl
 |x::r=>by
  have e:seenGo n top (x::r) true=(if true=false/\x<n then[n]else[])++(if top-8<x then[x]else[])++seenGo n top r (true||decide (x<n)):=rfl
  rw[e,Bool.true_or,HV n top r,yx];by_cases h:top-8<x
  ·rw[je h,ji (by omega:¬x<=top-8)];simp
  ·rw[jc h,jd (by omega:x<=top-8)];simp
theorem LD(n top:Int)(ht:top-8<n):∀l:List Int,n∉l->seenGo n top l false=(jB l n).filter fun x=>!decide (x<=top-8)
 |[],_=>by
  have e:jB [] n=[n]:=rfl;rw[e,yx,ji (by omega:¬n<=top-8)]
  rfl
 |x::r,h=>by
  have e:seenGo n top (x::r) false=(if false=false/\x<n then[n]else[])++(if top-8<x then[x]else[])++seenGo n top r (false||decide (x<n)):=rfl
  have hne:x≠n:=fun e=>h (by simp[e])
  rw[e,Bool.false_or];by_cases hx:x<n
  ·have e2:jB (x::r) n=n::x::r:=by
    unfold jB;rw[List.takeWhile_cons,List.dropWhile_cons,ji (by omega:¬n<x)];rfl
   rw[je ⟨rfl,hx⟩,jd hx,HV,e2,yx,ji (by omega:¬n<=top-8),yx]
   by_cases h2:top-8<x
   ·rw[je h2,ji (by omega:¬x<=top-8)];simp
   ·rw[jc h2,jd (by omega:x<=top-8)];simp
  ·have e2:jB (x::r) n=x::jB r n:=by
    unfold jB;rw[List.takeWhile_cons,List.dropWhile_cons,jd (by omega:n<x)];rfl
   rw[jc (fun y=>hx y.2),ji hx,LD n top ht r (fun y=>h (by simp[y])),e2,yx]
   by_cases h2:top-8<x
   ·rw[je h2,ji (by omega:¬x<=top-8)];simp
   ·rw[jc h2,jd (by omega:x<=top-8)];simp
theorem HW(w:Win)(n:Int):winTake w n=if n∈w.seen\/n<=w.top-8 then none else some ⟨w.key,max w.top n,(jB w.seen n).filter fun x=>!decide (x<=max w.top n-8)⟩:=by
 unfold winTake;by_cases h:n∈w.seen\/n<=w.top-8
 ·rw[je h,je (h.symm)]
 ·rw[jc h,jc (fun x=>h x.symm),LD n (max w.top n) (by omega) w.seen (fun x=>h (.inl x))]
def pS(wins:List Win):Bool:=(List.range wins.length).all fun k=>winOk (ix wins (k:Int))&&decide (winAt wins (ix wins (k:Int)).key 0=k)
structure WOk(w:World):Prop where
 seats:w.seats.length=8
 fresh:w.fresh.length=8
 said:w.said.length=8
 wins:w.wins.length=8
 log:w.log.length<=16
 waits:w.waits.length<=16
 frames:w.frames.length<=40
 stolen:w.stolen.length<=12
 spy:w.spy.length<=72
 told:w.told.length<=320
 mem:∀k:Nat,k<8->memOk (ix w.seats (k:Int))=true/\((ix w.seats (k:Int)).inn=true->(ix w.seats (k:Int)).who=k)
 freshI:∀n∈w.fresh,0<=n/\n<=99
 saidI:∀n∈w.said,0<=n/\n<=999
 winsI:∀l∈w.wins,pS l=true
 logI:∀c∈w.log,cP c=true
 waitsI:∀x∈w.waits,aH x.who/\(0<=x.pos/\x.pos<w.log.length)/\secOk x.leaf=true/\secOk x.key=true
 spyI:∀s∈w.spy,secOk s=true
 stolenI:∀x∈w.stolen,aH x.who/\x.tag.length<=300
 framesI:∀f∈w.frames,fraOk f=true
 toldI:∀x∈w.told,aH x.who/\(0<=x.pos/\x.pos<w.frames.length)
end Kw
namespace Kw
open Go Go.Proofs
theorem dT(N:Nat)(p:Nat->Bool)(F:Nat->Int->Option (MV×List Obj))(fin bad:Option (MV×List Obj))
 (h1:∀(n k:Nat),k<N->F (n+1) (k:Nat)=if p k=true then F n ((k+1:Nat):Int)else bad)
 (h2:∀n:Nat,F (n+1) (N:Nat)=fin):∀m k:Nat,N<m+k->k<=N->F m (k:Nat)=if(List.range' k (N-k)).all p=true then fin else bad
 |0,k,h,hk=>by omega
 |m+1,k,h,hk=>by
  by_cases hlt:k<N
  ·rw[h1 m k hlt,dT N p F fin bad h1 h2 m (k+1) (by omega) (by omega)]
   rw[show N-k=(N-(k+1))+1 by omega,List.range'_succ,yb]
   cases p k with
   |true=>rw[jy,je rfl]
   |false=>rw[z0,jc (by simp),jc (by simp)]
  ·have e:k=N:=by omega
   subst e;rw[h2 m,Nat.sub_self];rfl
section
variable (L D:Nat)
theorem aoM(hL:1099511627776<=L)(x:Win)(hk:x.key.length<=500000)(hs:x.seen.length<=1000000):ev E L (D+306) 72 [.agg [.str (bs x.key),.int .i64 x.top,.sl (x.seen.map rI)]] []=some (.bool (winOk x),[]):=by
 obtain⟨key,top,seen⟩:=x;simp only at hk hs⊢;have e:winOk ⟨key,top,seen⟩=(decide ((aN key).op=5)&&((decide (1<=top)&&decide (top<=999))&&(decide (seen≠[])&&(decide (ix seen 0=top)&&(List.range seen.length).all fun k=>decide (1<=ix seen (k:Int))&&(decide (top-8<ix seen (k:Int))&&decide (k=0\/ix seen (k:Int)<ix seen ((k-1:Nat):Int))))))):=by
  unfold winOk;apply yp.2;simp only[jg,jb,kj,v5];constructor
  ·rintro⟨⟨h1,h2,h3,h4,h5⟩,h6⟩;refine⟨h1,⟨h2,h3⟩,h4,h5,fun k hk=>?_⟩
   rcases h6 k hk with h|h
   ·subst h;exact⟨by rw[show((0:Nat):Int)=0 from rfl,h5];omega,by rw[show((0:Nat):Int)=0 from rfl,h5];omega,.inl rfl⟩
   ·exact⟨h.2.2,h.2.1,.inr h.1⟩
  ·rintro⟨h1,⟨h2,h3⟩,h4,h5,h6⟩;refine⟨⟨h1,h2,h3,h4,h5⟩,fun k hk=>?_⟩
   obtain⟨a,b,c⟩:=h6 k hk;rcases c with c|c
   ·exact .inl c
   ·exact .inr ⟨c,b,a⟩
 rw[e,az9];simp only[KM];rw[wJ L D hL key (by omega)]
 simp only[bnd_some',gAggN_if,jf,jk,ju,cellAt_zero,cellAt_succ,gInt_i,gStr_s,iEq_dec];refine qB fun _=>?_
 rw[kL];simp only[bnd_some',gBool_b];refine qB fun ht=>?_
 simp only[jg,jb]at ht;have guard1:∀{b:Bool} {X:Option (MV×List Obj)} {r:Bool},(b=true->X=some (.bool r,[]))->br b X (some (.bool false,[]))=some (.bool (b&&r),[]):=fun{b} {X} {r} h=>by
  cases b with
  |false=>rfl
  |true=>rw[h rfl];rfl
 have e1:bNot (decide (nrows (seen.map rI)=0))=decide (seen≠[]):=by
  rw[nrows_map];cases seen with
  |nil=>rfl
  |cons a r=>rw[ji (by simp only[jf];omega)];rfl
 rw[e1];refine guard1 fun hne=>?_
 have hne:=qu hne;have hpos:0<seen.length:=wu.2 hne;have u0:=aY (0:Int) seen (by omega) (by omega)
 have ci:∀n:Int,eI .i64 (aC (rI n) 0)=some n:=fun _=>rfl
 simp only[u0,bnd_some',ci];cases decide (ix seen 0=top)with
 |false=>rfl
 |true=>
  rw[bNot_t,br_false',jy,nrows_map];have key1:=dT seen.length (fun k=>decide (1<=ix seen (k:Int))&&(decide (top-8<ix seen (k:Int))&&decide (k=0\/ix seen (k:Int)<ix seen ((k-1:Nat):Int)))) (fun m k=>wF L (D+305) m (bs key) top (seen.map rI) (seen.map rI) seen.length k) (some (.bool true,[])) (some (.bool false,[])) (fun n k hk=>?_) (fun n=>?_) L 0 (by omega) (by omega)
  ·rw[Nat.sub_zero,<-List.range_eq_range']at key1;refine Eq.trans key1 ?_;split
   ·rename_i h;rw[h]
   ·rename_i h;rw[yc.2 h]
  ·show wF L (D+305) (n+1) _ _ _ _ _ _=_;rw[E0];simp only[KM];have g:iLt (k:Int) (seen.length:Int)=true:=by rw[iLt_dec,jb];omega
   have a1:bR .i64 (k:Int) 1=((k+1:Nat):Int):=aG _ (by omega)
   have a2:iS .i64 top 8=top-8:=d9 (by omega) (by omega)
   have u:=aY (k:Int) seen (by omega) (by omega)
   have c2:bNot (iLe (ix seen (k:Int)) (top-8))=decide (top-8<ix seen (k:Int)):=by
    rw[iLe_dec];by_cases h:top-8<ix seen (k:Int)
    ·rw[jd h,ji (by omega)];rfl
    ·rw[ji h,jd (by omega)];rfl
   simp only[g,br_true',u,bnd_some',ci,MD,a2,c2,a1];cases decide (1<=ix seen (k:Int))with
   |false=>rfl
   |true=>
    rw[br_true',jy];cases decide (top-8<ix seen (k:Int))with
    |false=>rfl
    |true=>
     rw[br_true',jy];by_cases h0:k=0
     ·have g0:iLt 0 (k:Int)=false:=by rw[iLt_dec,jh];omega
      rw[g0,br_false',je (jd (.inl h0))]
     ·have g0:iLt 0 (k:Int)=true:=by rw[iLt_dec,jb];omega
      have a3:iS .i64 (k:Int) 1=((k-1:Nat):Int):=by rw[d9 (by omega) (by omega)];omega
      have u2:=aY ((k-1:Nat):Int) seen (by omega) (by omega)
      simp only[g0,br_true',a3,u2,bnd_some',ci,iLe_dec];by_cases h1:ix seen (k:Int)<ix seen ((k-1:Nat):Int)
      ·rw[ji (by omega),br_false',je (jd (.inr h1))]
      ·rw[jd (by omega),br_true',jc]
       intro h;rcases qu h with h|h
       ·exact h0 h
       ·exact h1 h
  ·show wF L (D+305) (n+1) _ _ _ _ _ _=_;rw[E0];simp only[KM];have g:iLt (seen.length:Int) (seen.length:Int)=false:=by rw[iLt_dec,jh];omega
   rw[g,br_false']
theorem JK:∀(l:List Win) (key:S) (k:Nat),winAt l key k=wH (fun w=>decide (w.key=key)) l k
 |[],_,_=>rfl
 |a::r,key,k=>by
  have ih:=JK r key (k+1);show(if a.key=key then(k:Int)else winAt r key (k+1))=if decide (a.key=key)=true then(k:Int)else wH _ r (k+1)
  rw[ih];simp only[jb]
theorem aaI(hL:1099511627776<=L)(wins:List Win)(key:S)(hl:wins.length<=1000000):ev E L (D+3) 73 [.sl (wins.map rW),.str (bs key)] []=some (.int .i64 (winAt wins key 0),[]):=by
 rw[azA];simp only[KM];rw[adA,nrows_map,JK];have key1:=iL wins (fun w=>decide (w.key=key)) [.cells [.str (bs key)]] (fun m k=>l7 L (D+1) m (bs key) (wins.map rW) wins.length k) (fun n k hk=>?_) (fun n=>?_) L 0 (by omega) (by omega)
 ·refine Eq.trans (wo (fun x=>bnd x _) key1) ?_
  rfl
 ·show l7 L (D+1) (n+1) _ _ _ _=_;rw[sS];simp only[KM];have g:iLt (k:Int) (wins.length:Int)=true:=by rw[iLt_dec,jb];omega
  have a1:bR .i64 (k:Int) 1=((k+1:Nat):Int):=aG _ (by omega)
  have u:=rJ (k:Int) wins (by omega) (by omega)
  rw[aK wins k hk]at u;have c0:∀o:Win,eF (aC (rW o) 0)=some (bs o.key):=fun _=>rfl
  have c1:∀o:Win,eI .i64 (aC (rW o) 1)=some o.top:=fun _=>rfl
  have c2:∀o:Win,gSl (aC (rW o) 2)=some (o.seen.map rI):=fun _=>rfl
  simp only[g,br_true',u,bnd_some',c0,c1,c2,atK,sEq_bs,iG,bK,jf,jk,ju,cellAt_zero,gStr_s,gBool_b,a1,↓KM];rw[bE]
 ·show l7 L (D+1) (n+1) _ _ _ _=_;rw[sS];simp only[KM];have g:iLt (wins.length:Int) (wins.length:Int)=false:=by rw[iLt_dec,jh];omega
  rw[g,br_false']
theorem U9(hL:1099511627776<=L)(wins:List Win)(hl:wins.length<=1000000)(hb:∀x∈wins,x.key.length<=500000/\x.seen.length<=1000000):ev E L (D+307) 29 [.sl (wins.map rW)] []=some (.bool (pS wins),[]):=by
 rw[ayI,nrows_map];have key1:=dT wins.length (fun k=>winOk (ix wins (k:Int))&&decide (winAt wins (ix wins (k:Int)).key 0=k)) (fun m k=>BG L (D+306) m (wins.map rW) (wins.map rW) wins.length k) (some (.bool true,[])) (some (.bool false,[])) (fun n k hk=>?_) (fun n=>?_) L 0 (by omega) (by omega)
 ·rw[Nat.sub_zero,<-List.range_eq_range']at key1;refine Eq.trans key1 ?_;unfold pS;split
  ·rename_i h;rw[h]
  ·rename_i h;rw[yc.2 h]
 ·show BG L (D+306) (n+1) _ _ _ _=_;rw[ER];simp only[KM];have g:iLt (k:Int) (wins.length:Int)=true:=by rw[iLt_dec,jb];omega
  have a1:bR .i64 (k:Int) 1=((k+1:Nat):Int):=aG _ (by omega)
  have u:=rJ (k:Int) wins (by omega) (by omega)
  have hm:ix wins (k:Int)∈wins:=by rw[aK wins k hk];exact jt hk
  have c0:∀o:Win,eF (aC (rW o) 0)=some (bs o.key):=fun _=>rfl
  have c1:∀o:Win,eI .i64 (aC (rW o) 1)=some o.top:=fun _=>rfl
  have c2:∀o:Win,gSl (aC (rW o) 2)=some (o.seen.map rI):=fun _=>rfl
  have h1:=aoM L D hL (ix wins (k:Int)) (hb _ hm).1 (hb _ hm).2;have h2:=aaI L (D+303) hL wins (ix wins (k:Int)).key hl;simp only[g,br_true',u,bnd_some',c0,c1,c2,h1,h2,gBool_b,gInt_i,iEq_dec,a1];cases winOk (ix wins (k:Int))with
  |false=>rfl
  |true=>
   simp only[bNot_t,bNot_f,br_true',jy,jb];by_cases h3:winAt wins (ix wins (k:Int)).key 0=k
   ·rw[je h3,jd h3];rfl
   ·rw[jc h3,ji h3];rfl
 ·show BG L (D+306) (n+1) _ _ _ _=_;rw[ER];simp only[KM];have g:iLt (wins.length:Int) (wins.length:Int)=false:=by rw[iLt_dec,jh];omega
  rw[g,br_false']
theorem qZ{A:Type} [Inhabited A](l:List A)(k:Nat):l.set k (ix l (k:Int))=l:=by
 by_cases h:k<l.length
 ·rw[aK l k h];exact List.set_getElem_self h
 ·exact List.set_eq_of_length_le (by omega)
theorem VA(wins:List Win)(hl:wins.length<=1000000)(hb:∀x∈wins,x.seen.length<=1000000):∀m k:Nat,wins.length<m+k->k<=wins.length->
 E2 L (D+1) m (wins.map rW) wins.length (wins.map rW) wins.length k=some (.own (wins.map rW),[])
 |0,k,h,hk=>by omega
 |m+1,k,h,hk=>by
  rw[M8];simp only[KM];by_cases hlt:k<wins.length
  ·have g:iLt (k:Int) (wins.length:Int)=true:=by rw[iLt_dec,jb];omega
   have a1:bR .i64 (k:Int) 1=((k+1:Nat):Int):=aG _ (by omega)
   have u:=rJ (k:Int) wins (by omega) (by omega)
   have u2:=IY wins (k:Int) (by omega) (by omega)
   have hm:ix wins (k:Int)∈wins:=by rw[aK wins k hlt];exact jt hlt
   have c0:∀o:Win,eF (aC (rW o) 0)=some (bs o.key):=fun _=>rfl
   have c1:∀o:Win,eI .i64 (aC (rW o) 1)=some o.top:=fun _=>rfl
   have c2:∀o:Win,gSl (aC (rW o) 2)=some (o.seen.map rI):=fun _=>rfl
   have hc:=dB L D (F:=108) (sz:=1) rfl ((ix wins (k:Int)).seen.map rI) (lA _) (by rw[kf];have:=hb _ hm;omega)
   have lr:iLe 3 (eT (rW (ix wins (k:Int))))=true:=rfl;have sr:setRow (rW (ix wins (k:Int))) 2 [MV.sl ((ix wins (k:Int)).seen.map rI)]=rW (ix wins (k:Int)):=rfl;have st:setR (wins.map rW) (k:Int) (rW (ix wins (k:Int)))=wins.map rW:=by rw[iH rW,ki,qZ]
   simp only[g,br_true',u,u2,bnd_some',c0,c1,c2,hc,gOwn_r,nrows_map,iEq_self,lr,sr,st,a1];exact VA wins hl hb m (k+1) (by omega) (by omega)
  ·have g:iLt (k:Int) (wins.length:Int)=false:=by rw[iLt_dec,jh];omega
   rw[g,br_false',nrows_map,iEq_self,br_true']
theorem aaJ(hL:1099511627776<=L)(wins:List Win)(hl:wins.length<=1000000)(hb:∀x∈wins,x.seen.length<=1000000):ev E L (D+2) 114 [.sl (wins.map rW)] []=some (.own (wins.map rW),[]):=by
 rw[at5];simp only[KM];rw[dB L D (F:=189) (sz:=3) rfl (wins.map rW) (KD _) (by rw[kf];omega)]
 simp only[bnd_some',gOwn_r,nrows_map];exact VA L D wins hl hb L 0 (by omega) (by omega)
end
end Kw
namespace Kw
open Go Go.Proofs
structure WSzI(w:World):Prop where
 seats:w.seats.length<=1000000
 waits:w.waits.length<=1000000
 log:w.log.length<=1000000
 fresh:w.fresh.length<=1000000
 spy:w.spy.length<=1000000
 stolen:w.stolen.length<=1000000
 frames:w.frames.length<=1000000
 said:w.said.length<=1000000
 wins:w.wins.length<=1000000
 told:w.told.length<=1000000
 mem:∀m∈w.seats,MB m
 cmt:∀c∈w.log,c.keys.length<=1000000/\c.boxes.length<=1000000
 win:∀l∈w.wins,l.length<=1000000/\∀x∈l,x.seen.length<=1000000
def wS(w:World):List MV:=[.sl (w.seats.map rM),.sl (w.waits.map rWt),.sl (w.log.map rC),.sl (w.fresh.map rI),.sl (w.spy.map rS),.sl (w.stolen.map rSt),.sl (w.frames.map rF),.sl (w.said.map rI),.sl (w.wins.map rWs),.sl (w.told.map rT)]
def wO(w:World):List MV:=[.own (w.seats.map rM),.own (w.waits.map rWt),.own (w.log.map rC),.own (w.fresh.map rI),.own (w.spy.map rS),.own (w.stolen.map rSt),.own (w.frames.map rF),.own (w.said.map rI),.own (w.wins.map rWs),.own (w.told.map rT)]
def wK(w:World):List MV:=[.own (w.seats.map rM),.ownK (w.waits.map rWt),.own (w.log.map rC),.own (w.fresh.map rI),.own (w.spy.map rS),.own (w.stolen.map rSt),.own (w.frames.map rF),.own (w.said.map rI),.own (w.wins.map rWs),.own (w.told.map rT)]
section
variable (L D:Nat)
theorem adT(hL:1099511627776<=L)(w:World)(z:WSzI w):mZ L (D+4) L [] [] [] [] [] [] [] [] [] [] (w.seats.map rM) (w.waits.map rWt) (w.log.map rC) (w.fresh.map rI) (w.spy.map rS) (w.stolen.map rSt) (w.frames.map rF) (w.said.map rI) (w.wins.map rWs) (w.told.map rT) (nrows []) (nrows []) (nrows []) (nrows []) (nrows []) (nrows []) (nrows []) (nrows []) (nrows []) (nrows []) (w.seats.length:Nat) (w.waits.length:Nat) (w.log.length:Nat) (w.fresh.length:Nat) (w.spy.length:Nat) (w.stolen.length:Nat) (w.frames.length:Nat) (w.said.length:Nat) (w.wins.length:Nat) (w.told.length:Nat) (w.wins.map rWs) (w.wins.length:Nat) 0=some (.agg (wO w),[]):=by
 refine Eq.trans (dT w.wins.length (fun _=>true) (fun m k=>mZ L (D+4) m [] [] [] [] [] [] [] [] [] [] (w.seats.map rM) (w.waits.map rWt) (w.log.map rC) (w.fresh.map rI) (w.spy.map rS) (w.stolen.map rSt) (w.frames.map rF) (w.said.map rI) (w.wins.map rWs) (w.told.map rT) (nrows []) (nrows []) (nrows []) (nrows []) (nrows []) (nrows []) (nrows []) (nrows []) (nrows []) (nrows []) (w.seats.length:Nat) (w.waits.length:Nat) (w.log.length:Nat) (w.fresh.length:Nat) (w.spy.length:Nat) (w.stolen.length:Nat) (w.frames.length:Nat) (w.said.length:Nat) (w.wins.length:Nat) (w.told.length:Nat) (w.wins.map rWs) (w.wins.length:Nat) k) (some (.agg (wO w),[])) none (fun n k hk=>?_) (fun n=>?_) L 0 (by have:=z.wins;omega) (by omega)) (by simp)
 ·show mZ L (D+4) (n+1) _ _ _ _ _ _ _ _ _ _ _ _ _ _ _ _ _ _ _ _ _ _ _ _ _ _ _ _ _ _ _ _ _ _ _ _ _ _ _ _ _ _ _=_;rw[CG];simp only[KM];rw[je trivial];have hw:=z.wins;have g:iLt (k:Int) (w.wins.length:Int)=true:=by rw[iLt_dec,jb];omega
  have a1:bR .i64 (k:Int) 1=((k+1:Nat):Int):=aG _ (by omega)
  have u:=eH (k:Int) w.wins (by omega) (by omega)
  have u2:=eC w.wins (k:Int) (by omega) (by omega)
  have hm:ix w.wins (k:Int)∈w.wins:=by rw[aK w.wins k hk];exact jt hk
  have hc:=aaJ L (D+2) hL (ix w.wins (k:Int)) (z.win _ hm).1 (z.win _ hm).2;have s0:∀l:List Win,gSl (aC (rWs l) 0)=some (l.map rW):=fun _=>rfl
  have lr:iLe 1 (eT (rWs (ix w.wins (k:Int))))=true:=rfl;have sr:setRow (rWs (ix w.wins (k:Int))) 0 [MV.sl ((ix w.wins (k:Int)).map rW)]=rWs (ix w.wins (k:Int)):=rfl;have st:setR (w.wins.map rWs) (k:Int) (rWs (ix w.wins (k:Int)))=w.wins.map rWs:=by rw[iH rWs,ki,qZ]
  simp only[g,br_true',u,u2,bnd_some',s0,hc,gOwn_r,nrows_map,iEq_self,lr,sr,st,a1]
 ·show mZ L (D+4) (n+1) _ _ _ _ _ _ _ _ _ _ _ _ _ _ _ _ _ _ _ _ _ _ _ _ _ _ _ _ _ _ _ _ _ _ _ _ _ _ _ _ _ _ _=_;rw[CG];simp only[KM];have g:iLt (w.wins.length:Int) (w.wins.length:Int)=false:=by rw[iLt_dec,jh];omega
  simp only[g,br_false',nrows_map,iEq_self,br_true']
  rfl
theorem aiE(hL:1099511627776<=L)(w:World)(z:WSzI w):o6 L (D+4) L [] [] [] [] [] [] [] [] [] [] (w.seats.map rM) (w.waits.map rWt) (w.log.map rC) (w.fresh.map rI) (w.spy.map rS) (w.stolen.map rSt) (w.frames.map rF) (w.said.map rI) (w.wins.map rWs) (w.told.map rT) (w.seats.map rM) (w.waits.map rWt) (w.log.map rC) (w.fresh.map rI) (w.spy.map rS) (w.stolen.map rSt) (w.frames.map rF) (w.said.map rI) (w.wins.map rWs) (w.told.map rT) (nrows []) (nrows []) (nrows []) (nrows []) (nrows []) (nrows []) (nrows []) (nrows []) (nrows []) (nrows []) (w.seats.length:Nat) (w.waits.length:Nat) (w.log.length:Nat) (w.fresh.length:Nat) (w.spy.length:Nat) (w.stolen.length:Nat) (w.frames.length:Nat) (w.said.length:Nat) (w.wins.length:Nat) (w.told.length:Nat) (w.log.map rC) (w.log.length:Nat) 0=mZ L (D+4) L [] [] [] [] [] [] [] [] [] [] (w.seats.map rM) (w.waits.map rWt) (w.log.map rC) (w.fresh.map rI) (w.spy.map rS) (w.stolen.map rSt) (w.frames.map rF) (w.said.map rI) (w.wins.map rWs) (w.told.map rT) (nrows []) (nrows []) (nrows []) (nrows []) (nrows []) (nrows []) (nrows []) (nrows []) (nrows []) (nrows []) (w.seats.length:Nat) (w.waits.length:Nat) (w.log.length:Nat) (w.fresh.length:Nat) (w.spy.length:Nat) (w.stolen.length:Nat) (w.frames.length:Nat) (w.said.length:Nat) (w.wins.length:Nat) (w.told.length:Nat) (w.wins.map rWs) (nrows (w.wins.map rWs)) 0:=by
 refine Eq.trans (dT w.log.length (fun _=>true) (fun m k=>o6 L (D+4) m [] [] [] [] [] [] [] [] [] [] (w.seats.map rM) (w.waits.map rWt) (w.log.map rC) (w.fresh.map rI) (w.spy.map rS) (w.stolen.map rSt) (w.frames.map rF) (w.said.map rI) (w.wins.map rWs) (w.told.map rT) (w.seats.map rM) (w.waits.map rWt) (w.log.map rC) (w.fresh.map rI) (w.spy.map rS) (w.stolen.map rSt) (w.frames.map rF) (w.said.map rI) (w.wins.map rWs) (w.told.map rT) (nrows []) (nrows []) (nrows []) (nrows []) (nrows []) (nrows []) (nrows []) (nrows []) (nrows []) (nrows []) (w.seats.length:Nat) (w.waits.length:Nat) (w.log.length:Nat) (w.fresh.length:Nat) (w.spy.length:Nat) (w.stolen.length:Nat) (w.frames.length:Nat) (w.said.length:Nat) (w.wins.length:Nat) (w.told.length:Nat) (w.log.map rC) (w.log.length:Nat) k) (mZ L (D+4) L [] [] [] [] [] [] [] [] [] [] (w.seats.map rM) (w.waits.map rWt) (w.log.map rC) (w.fresh.map rI) (w.spy.map rS) (w.stolen.map rSt) (w.frames.map rF) (w.said.map rI) (w.wins.map rWs) (w.told.map rT) (nrows []) (nrows []) (nrows []) (nrows []) (nrows []) (nrows []) (nrows []) (nrows []) (nrows []) (nrows []) (w.seats.length:Nat) (w.waits.length:Nat) (w.log.length:Nat) (w.fresh.length:Nat) (w.spy.length:Nat) (w.stolen.length:Nat) (w.frames.length:Nat) (w.said.length:Nat) (w.wins.length:Nat) (w.told.length:Nat) (w.wins.map rWs) (nrows (w.wins.map rWs)) 0) none (fun n k hk=>?_) (fun n=>?_) L 0 (by have:=z.log;omega) (by omega)) (by simp)
 ·show o6 L (D+4) (n+1) _ _ _ _ _ _ _ _ _ _ _ _ _ _ _ _ _ _ _ _ _ _ _ _ _ _ _ _ _ _ _ _ _ _ _ _ _ _ _ _ _ _ _ _ _ _ _ _ _ _ _ _ _=_;rw[EY];simp only[KM];rw[je trivial];have hw:=z.log;have g:iLt (k:Int) (w.log.length:Int)=true:=by rw[iLt_dec,jb];omega
  have a1:bR .i64 (k:Int) 1=((k+1:Nat):Int):=aG _ (by omega)
  have u:=mN (k:Int) w.log (by omega) (by omega)
  have u2:=nS w.log (k:Int) (by omega) (by omega)
  have hm:ix w.log (k:Int)∈w.log:=by rw[aK w.log k hk];exact jt hk
  obtain⟨z1,z2⟩:=z.cmt _ hm;have h1:=dB L (D+3) (F:=48) (sz:=1) rfl ((ix w.log (k:Int)).keys.map rS) (iI _) (by rw[kf];omega)
  have h2:=dB L (D+3) (F:=92) (sz:=2) rfl ((ix w.log (k:Int)).boxes.map rB) (HD _) (by rw[kf];omega)
  have c0:∀c:Commit,eI .i64 (aC (rC c) 0)=some c.sender:=fun _=>rfl
  have c1:∀c:Commit,eF (aC (rC c) 1)=some (bs c.tag):=fun _=>rfl
  have c2:∀c:Commit,eF (aC (rC c) 2)=some (bs c.name):=fun _=>rfl
  have c3:∀c:Commit,eI .i64 (aC (rC c) 3)=some c.add:=fun _=>rfl
  have c4:∀c:Commit,eI .i64 (aC (rC c) 4)=some c.remove:=fun _=>rfl
  have c5:∀c:Commit,eF (aC (rC c) 5)=some (bs c.leaf):=fun _=>rfl
  have c6:∀c:Commit,gSl (aC (rC c) 6)=some (c.keys.map rS):=fun _=>rfl
  have c7:∀c:Commit,gSl (aC (rC c) 7)=some (c.boxes.map rB):=fun _=>rfl
  have c8:∀c:Commit,eF (aC (rC c) 8)=some (bs c.wkey):=fun _=>rfl
  have c9:∀c:Commit,eF (aC (rC c) 9)=some (bs c.wik):=fun _=>rfl
  have c10:∀c:Commit,eF (aC (rC c) 10)=some (bs c.wis):=fun _=>rfl
  have c11:∀c:Commit,eF (aC (rC c) 11)=some (bs c.wsk):=fun _=>rfl
  have c12:∀c:Commit,eF (aC (rC c) 12)=some (bs c.wss):=fun _=>rfl
  have lr:iLe 7 (eT (rC (ix w.log (k:Int))))=true:=rfl;have lr2:iLe 8 (eT (rC (ix w.log (k:Int))))=true:=rfl;have sr:setRow (rC (ix w.log (k:Int))) 6 [MV.sl ((ix w.log (k:Int)).keys.map rS)]=rC (ix w.log (k:Int)):=rfl;have sr2:setRow (rC (ix w.log (k:Int))) 7 [MV.sl ((ix w.log (k:Int)).boxes.map rB)]=rC (ix w.log (k:Int)):=rfl;have st:setR (w.log.map rC) (k:Int) (rC (ix w.log (k:Int)))=w.log.map rC:=by rw[iH rC,ki,qZ]
  simp only[g,br_true',u,u2,bnd_some',c0,c1,c2,c3,c4,c5,c6,c7,c8,c9,c10,c11,c12,h1,h2,gOwn_r,nrows_map,iEq_self,lr,lr2,sr,sr2,st,a1]
 ·show o6 L (D+4) (n+1) _ _ _ _ _ _ _ _ _ _ _ _ _ _ _ _ _ _ _ _ _ _ _ _ _ _ _ _ _ _ _ _ _ _ _ _ _ _ _ _ _ _ _ _ _ _ _ _ _ _ _ _ _=_;rw[EY];simp only[KM];have g:iLt (w.log.length:Int) (w.log.length:Int)=false:=by rw[iLt_dec,jh];omega
  rw[g,br_false']
theorem MF(hL:1099511627776<=L)(w:World)(z:WSzI w):wE L (D+4) L [] [] [] [] [] [] [] [] [] [] (w.seats.map rM) (w.waits.map rWt) (w.log.map rC) (w.fresh.map rI) (w.spy.map rS) (w.stolen.map rSt) (w.frames.map rF) (w.said.map rI) (w.wins.map rWs) (w.told.map rT) (w.seats.map rM) (w.waits.map rWt) (w.log.map rC) (w.fresh.map rI) (w.spy.map rS) (w.stolen.map rSt) (w.frames.map rF) (w.said.map rI) (w.wins.map rWs) (w.told.map rT) (nrows []) (nrows []) (nrows []) (nrows []) (nrows []) (nrows []) (nrows []) (nrows []) (nrows []) (nrows []) (w.seats.length:Nat) (w.waits.length:Nat) (w.log.length:Nat) (w.fresh.length:Nat) (w.spy.length:Nat) (w.stolen.length:Nat) (w.frames.length:Nat) (w.said.length:Nat) (w.wins.length:Nat) (w.told.length:Nat) (w.seats.map rM) (w.seats.length:Nat) 0=o6 L (D+4) L [] [] [] [] [] [] [] [] [] [] (w.seats.map rM) (w.waits.map rWt) (w.log.map rC) (w.fresh.map rI) (w.spy.map rS) (w.stolen.map rSt) (w.frames.map rF) (w.said.map rI) (w.wins.map rWs) (w.told.map rT) (w.seats.map rM) (w.waits.map rWt) (w.log.map rC) (w.fresh.map rI) (w.spy.map rS) (w.stolen.map rSt) (w.frames.map rF) (w.said.map rI) (w.wins.map rWs) (w.told.map rT) (nrows []) (nrows []) (nrows []) (nrows []) (nrows []) (nrows []) (nrows []) (nrows []) (nrows []) (nrows []) (w.seats.length:Nat) (w.waits.length:Nat) (w.log.length:Nat) (w.fresh.length:Nat) (w.spy.length:Nat) (w.stolen.length:Nat) (w.frames.length:Nat) (w.said.length:Nat) (w.wins.length:Nat) (w.told.length:Nat) (w.log.map rC) (nrows (w.log.map rC)) 0:=by
 refine Eq.trans (dT w.seats.length (fun _=>true) (fun m k=>wE L (D+4) m [] [] [] [] [] [] [] [] [] [] (w.seats.map rM) (w.waits.map rWt) (w.log.map rC) (w.fresh.map rI) (w.spy.map rS) (w.stolen.map rSt) (w.frames.map rF) (w.said.map rI) (w.wins.map rWs) (w.told.map rT) (w.seats.map rM) (w.waits.map rWt) (w.log.map rC) (w.fresh.map rI) (w.spy.map rS) (w.stolen.map rSt) (w.frames.map rF) (w.said.map rI) (w.wins.map rWs) (w.told.map rT) (nrows []) (nrows []) (nrows []) (nrows []) (nrows []) (nrows []) (nrows []) (nrows []) (nrows []) (nrows []) (w.seats.length:Nat) (w.waits.length:Nat) (w.log.length:Nat) (w.fresh.length:Nat) (w.spy.length:Nat) (w.stolen.length:Nat) (w.frames.length:Nat) (w.said.length:Nat) (w.wins.length:Nat) (w.told.length:Nat) (w.seats.map rM) (w.seats.length:Nat) k) (o6 L (D+4) L [] [] [] [] [] [] [] [] [] [] (w.seats.map rM) (w.waits.map rWt) (w.log.map rC) (w.fresh.map rI) (w.spy.map rS) (w.stolen.map rSt) (w.frames.map rF) (w.said.map rI) (w.wins.map rWs) (w.told.map rT) (w.seats.map rM) (w.waits.map rWt) (w.log.map rC) (w.fresh.map rI) (w.spy.map rS) (w.stolen.map rSt) (w.frames.map rF) (w.said.map rI) (w.wins.map rWs) (w.told.map rT) (nrows []) (nrows []) (nrows []) (nrows []) (nrows []) (nrows []) (nrows []) (nrows []) (nrows []) (nrows []) (w.seats.length:Nat) (w.waits.length:Nat) (w.log.length:Nat) (w.fresh.length:Nat) (w.spy.length:Nat) (w.stolen.length:Nat) (w.frames.length:Nat) (w.said.length:Nat) (w.wins.length:Nat) (w.told.length:Nat) (w.log.map rC) (nrows (w.log.map rC)) 0) none (fun n k hk=>?_) (fun n=>?_) L 0 (by have:=z.seats;omega) (by omega)) (by simp)
 ·show wE L (D+4) (n+1) _ _ _ _ _ _ _ _ _ _ _ _ _ _ _ _ _ _ _ _ _ _ _ _ _ _ _ _ _ _ _ _ _ _ _ _ _ _ _ _ _ _ _ _ _ _ _ _ _ _ _ _ _=_;rw[EX];simp only[KM];rw[je trivial];have hw:=z.seats;have g:iLt (k:Int) (w.seats.length:Int)=true:=by rw[iLt_dec,jb];omega
  have a1:bR .i64 (k:Int) 1=((k+1:Nat):Int):=aG _ (by omega)
  have u:=bM (k:Int) w.seats (by omega) (by omega)
  have u2:=bG w.seats (k:Int) (by omega) (by omega)
  have hm:ix w.seats (k:Int)∈w.seats:=by rw[aK w.seats k hk];exact jt hk
  have h1:=aaA L (D+1) (ix w.seats (k:Int)) (z.mem _ hm);have st:setR (w.seats.map rM) (k:Int) (rM (ix w.seats (k:Int)))=w.seats.map rM:=by rw[iH rM,ki,qZ]
  generalize ix w.seats (k:Int)=q at u u2 h1 st;obtain⟨b,wh,ks,own,e,i,t⟩:=q;change kF 7 (w.seats.map rM) (k:Int)=some [.bool b,.int .i64 wh,.sl (ks.map rS),.sl (own.map rO),.int .i64 e,.str (bs i),.str (bs t)]at u;change iP (w.seats.map rM) (k:Int)=some [.bool b,.int .i64 wh,.sl (ks.map rS),.sl (own.map rO),.int .i64 e,.str (bs i),.str (bs t)]at u2;change ev E L (D+4) 113 [.agg [.bool b,.int .i64 wh,.sl (ks.map rS),.sl (own.map rO),.int .i64 e,.str (bs i),.str (bs t)]] []=some (.agg [.bool b,.int .i64 wh,.sl (ks.map rS),.sl (own.map rO),.int .i64 e,.str (bs i),.str (bs t)],[])at h1;change setR (w.seats.map rM) (k:Int) [.bool b,.int .i64 wh,.sl (ks.map rS),.sl (own.map rO),.int .i64 e,.str (bs i),.str (bs t)]=_ at st;have lr:iLe 7 (eT [MV.bool b,.int .i64 wh,.sl (ks.map rS),.sl (own.map rO),.int .i64 e,.str (bs i),.str (bs t)])=true:=rfl;have sr:setRow [MV.bool b,.int .i64 wh,.sl (ks.map rS),.sl (own.map rO),.int .i64 e,.str (bs i),.str (bs t)] 0 [MV.bool b,.int .i64 wh,.sl (ks.map rS),.sl (own.map rO),.int .i64 e,.str (bs i),.str (bs t)]=[.bool b,.int .i64 wh,.sl (ks.map rS),.sl (own.map rO),.int .i64 e,.str (bs i),.str (bs t)]:=rfl;simp only[g,br_true',u,u2,bnd_some',cellAt_zero,cellAt_succ,gBool_b,gInt_i,gSl_r,gStr_s,h1,gAggN_if,jf,jk,ju,nrows_map,iEq_self,lr,sr,st,a1]
 ·show wE L (D+4) (n+1) _ _ _ _ _ _ _ _ _ _ _ _ _ _ _ _ _ _ _ _ _ _ _ _ _ _ _ _ _ _ _ _ _ _ _ _ _ _ _ _ _ _ _ _ _ _ _ _ _ _ _ _ _=_;rw[EX];simp only[KM];have g:iLt (w.seats.length:Int) (w.seats.length:Int)=false:=by rw[iLt_dec,jh];omega
  rw[g,br_false']
theorem aaK(hL:1099511627776<=L)(w:World)(z:WSzI w):ev E L (D+5) 61 [.agg (wS w)] []=some (.agg (wO w),[]):=by
 unfold wS;rw[az0];simp only[KM];have c0:=dB L (D+3) (F:=105) (sz:=7) rfl (w.seats.map rM) (ZF _) (by rw[kf];have:=z.seats;omega)
 have c1:=dB L (D+3) (F:=106) (sz:=4) rfl (w.waits.map rWt) (GD _) (by rw[kf];have:=z.waits;omega)
 have c2:=dB L (D+3) (F:=107) (sz:=13) rfl (w.log.map rC) (OY _) (by rw[kf];have:=z.log;omega)
 have c3:=dB L (D+3) (F:=108) (sz:=1) rfl (w.fresh.map rI) (lA _) (by rw[kf];have:=z.fresh;omega)
 have c4:=dB L (D+3) (F:=48) (sz:=1) rfl (w.spy.map rS) (iI _) (by rw[kf];have:=z.spy;omega)
 have c5:=dB L (D+3) (F:=109) (sz:=2) rfl (w.stolen.map rSt) (CU _) (by rw[kf];have:=z.stolen;omega)
 have c6:=dB L (D+3) (F:=110) (sz:=4) rfl (w.frames.map rF) (nE _) (by rw[kf];have:=z.frames;omega)
 have c7:=dB L (D+3) (F:=108) (sz:=1) rfl (w.said.map rI) (lA _) (by rw[kf];have:=z.said;omega)
 have c8:=dB L (D+3) (F:=111) (sz:=1) rfl (w.wins.map rWs) (QU _) (by rw[kf];have:=z.wins;omega)
 have c9:=dB L (D+3) (F:=112) (sz:=2) rfl (w.told.map rT) (nF _) (by rw[kf];have:=z.told;omega)
 simp only[c0,c1,c2,c3,c4,c5,c6,c7,c8,c9,bnd_some',gOwn_r,nrows_map];have k3:=MF L D hL w z;have k8:=aiE L D hL w z;have k13:=adT L D hL w z;rw[nrows_map]at k3 k8;exact k3.trans (k8.trans k13)
end
end Kw
namespace Kw
open Go Go.Proofs
section
variable (L D:Nat)
theorem aw9(hL:1099511627776<=L)(l:List (Int))(hl:l.length<=1000000)(hx:∀x∈l,ev E L D 24 [.int .i64 x] []=some (.bool false,[])):
 ev E L (D+3) 23 [.sl (l.map rI),.fn 24 []] []=some (.bool false,[]):=by
 rw[ahC];simp only[KM];rw[ahL];simp only[KM];rw[ad7,nrows_map];have key1:=iL l (fun _=>false) [] (fun m k=>lX L D m (l.map rI) l.length k) (fun n k hk=>?_) (fun n=>?_) L 0 (by omega) (by omega)
 ·have h0:=iY (fun _:Int=>false) (l.drop 0) 0
  have h1:(l.drop 0).any (fun _=>false)=false:=by simp
  rw[h1]at h0;rw[show((0:Nat):Int)=0 from rfl]at key1
  skip
  simp only[key1,bnd_some',gInt_i,jN,gBool_b];rw[h0]
 ·show lX L D (n+1) _ _ _=_;rw[sP];simp only[KM];have g:iLt (k:Int) (l.length:Int)=true:=by rw[iLt_dec,jb];omega
  have a1:bR .i64 (k:Int) 1=((k+1:Nat):Int):=aG _ (by omega)
  have u:=aY (k:Int) l (by omega) (by omega)
  rw[aK l k hk]at u;have c0:∀x:Int,eI .i64 (aC (rI x) 0)=some x:=fun _=>rfl
  have h:=hx l[k] (jt hk);simp only[g,br_true',u,bnd_some',c0,h,gBool_b,br_false',a1,qd,qr]
 ·show lX L D (n+1) _ _ _=_;rw[sP];simp only[KM];have g:iLt (l.length:Int) (l.length:Int)=false:=by rw[iLt_dec,jh];omega
  rw[g,br_false']
theorem awA(hL:1099511627776<=L)(l:List (Int))(hl:l.length<=1000000)(hx:∀x∈l,ev E L D 26 [.int .i64 x] []=some (.bool false,[])):
 ev E L (D+3) 23 [.sl (l.map rI),.fn 26 []] []=some (.bool false,[]):=by
 rw[ahD];simp only[KM];rw[ahM];simp only[KM];rw[ad8,nrows_map];have key1:=iL l (fun _=>false) [] (fun m k=>lY L D m (l.map rI) l.length k) (fun n k hk=>?_) (fun n=>?_) L 0 (by omega) (by omega)
 ·have h0:=iY (fun _:Int=>false) (l.drop 0) 0
  have h1:(l.drop 0).any (fun _=>false)=false:=by simp
  rw[h1]at h0;rw[show((0:Nat):Int)=0 from rfl]at key1
  skip
  simp only[key1,bnd_some',gInt_i,jN,gBool_b];rw[h0]
 ·show lY L D (n+1) _ _ _=_;rw[sQ];simp only[KM];have g:iLt (k:Int) (l.length:Int)=true:=by rw[iLt_dec,jb];omega
  have a1:bR .i64 (k:Int) 1=((k+1:Nat):Int):=aG _ (by omega)
  have u:=aY (k:Int) l (by omega) (by omega)
  rw[aK l k hk]at u;have c0:∀x:Int,eI .i64 (aC (rI x) 0)=some x:=fun _=>rfl
  have h:=hx l[k] (jt hk);simp only[g,br_true',u,bnd_some',c0,h,gBool_b,br_false',a1,qd,qr]
 ·show lY L D (n+1) _ _ _=_;rw[sQ];simp only[KM];have g:iLt (l.length:Int) (l.length:Int)=false:=by rw[iLt_dec,jh];omega
  rw[g,br_false']
theorem awB(hL:1099511627776<=L)(l:List (List Win))(hl:l.length<=1000000)(hx:∀x∈l,ev E L D 28 [.sl (x.map rW)] []=some (.bool false,[])):
 ev E L (D+3) 27 [.sl (l.map rWs),.fn 28 []] []=some (.bool false,[]):=by
 rw[ahE];simp only[KM];rw[ahN];simp only[KM];rw[ad9,nrows_map];have key1:=iL l (fun _=>false) [] (fun m k=>lZ L D m (l.map rWs) l.length k) (fun n k hk=>?_) (fun n=>?_) L 0 (by omega) (by omega)
 ·have h0:=iY (fun _:List Win=>false) (l.drop 0) 0
  have h1:(l.drop 0).any (fun _=>false)=false:=by simp
  rw[h1]at h0;rw[show((0:Nat):Int)=0 from rfl]at key1
  skip
  simp only[key1,bnd_some',gInt_i,jN,gBool_b];rw[h0]
 ·show lZ L D (n+1) _ _ _=_;rw[sR];simp only[KM];have g:iLt (k:Int) (l.length:Int)=true:=by rw[iLt_dec,jb];omega
  have a1:bR .i64 (k:Int) 1=((k+1:Nat):Int):=aG _ (by omega)
  have u:=eH (k:Int) l (by omega) (by omega)
  rw[aK l k hk]at u;have c0:∀x:List Win,gSl (aC (rWs x) 0)=some (x.map rW):=fun _=>rfl
  have h:=hx l[k] (jt hk);simp only[g,br_true',u,bnd_some',c0,h,gBool_b,br_false',a1,qd,qr]
 ·show lZ L D (n+1) _ _ _=_;rw[sR];simp only[KM];have g:iLt (l.length:Int) (l.length:Int)=false:=by rw[iLt_dec,jh];omega
  rw[g,br_false']
theorem awC(hL:1099511627776<=L)(l:List (Commit))(hl:l.length<=1000000)(hx:∀x∈l,ev E L D 31 [.agg [.int .i64 x.sender,.str (bs x.tag),.str (bs x.name),.int .i64 x.add,.int .i64 x.remove,.str (bs x.leaf),.sl (x.keys.map rS),.sl (x.boxes.map rB),.str (bs x.wkey),.str (bs x.wik),.str (bs x.wis),.str (bs x.wsk),.str (bs x.wss)]] []=some (.bool false,[])):
 ev E L (D+3) 30 [.sl (l.map rC),.fn 31 []] []=some (.bool false,[]):=by
 rw[ahF];simp only[KM];rw[ahO];simp only[KM];rw[adB,nrows_map];have key1:=iL l (fun _=>false) [] (fun m k=>l8 L D m (l.map rC) l.length k) (fun n k hk=>?_) (fun n=>?_) L 0 (by omega) (by omega)
 ·have h0:=iY (fun _:Commit=>false) (l.drop 0) 0
  have h1:(l.drop 0).any (fun _=>false)=false:=by simp
  rw[h1]at h0;rw[show((0:Nat):Int)=0 from rfl]at key1
  skip
  simp only[key1,bnd_some',gInt_i,jN,gBool_b];rw[h0]
 ·show l8 L D (n+1) _ _ _=_;rw[sT];simp only[KM];have g:iLt (k:Int) (l.length:Int)=true:=by rw[iLt_dec,jb];omega
  have a1:bR .i64 (k:Int) 1=((k+1:Nat):Int):=aG _ (by omega)
  have u:=mN (k:Int) l (by omega) (by omega)
  rw[aK l k hk]at u;have c0:∀x:Commit,eI .i64 (aC (rC x) 0)=some x.sender:=fun _=>rfl
  have c1:∀x:Commit,eF (aC (rC x) 1)=some (bs x.tag):=fun _=>rfl
  have c2:∀x:Commit,eF (aC (rC x) 2)=some (bs x.name):=fun _=>rfl
  have c3:∀x:Commit,eI .i64 (aC (rC x) 3)=some x.add:=fun _=>rfl
  have c4:∀x:Commit,eI .i64 (aC (rC x) 4)=some x.remove:=fun _=>rfl
  have c5:∀x:Commit,eF (aC (rC x) 5)=some (bs x.leaf):=fun _=>rfl
  have c6:∀x:Commit,gSl (aC (rC x) 6)=some (x.keys.map rS):=fun _=>rfl
  have c7:∀x:Commit,gSl (aC (rC x) 7)=some (x.boxes.map rB):=fun _=>rfl
  have c8:∀x:Commit,eF (aC (rC x) 8)=some (bs x.wkey):=fun _=>rfl
  have c9:∀x:Commit,eF (aC (rC x) 9)=some (bs x.wik):=fun _=>rfl
  have c10:∀x:Commit,eF (aC (rC x) 10)=some (bs x.wis):=fun _=>rfl
  have c11:∀x:Commit,eF (aC (rC x) 11)=some (bs x.wsk):=fun _=>rfl
  have c12:∀x:Commit,eF (aC (rC x) 12)=some (bs x.wss):=fun _=>rfl
  have h:=hx l[k] (jt hk);simp only[g,br_true',u,bnd_some',c0,c1,c2,c3,c4,c5,c6,c7,c8,c9,c10,c11,c12,h,gBool_b,br_false',a1,qd,qr]
 ·show l8 L D (n+1) _ _ _=_;rw[sT];simp only[KM];have g:iLt (l.length:Int) (l.length:Int)=false:=by rw[iLt_dec,jh];omega
  rw[g,br_false']
theorem awD(hL:1099511627776<=L)(l:List (S))(hl:l.length<=1000000)(hx:∀x∈l,ev E L D 38 [.str (bs x)] []=some (.bool false,[])):
 ev E L (D+3) 37 [.sl (l.map rS),.fn 38 []] []=some (.bool false,[]):=by
 rw[ahH];simp only[KM];rw[ahQ];simp only[KM];rw[adD,nrows_map];have key1:=iL l (fun _=>false) [] (fun m k=>mA L D m (l.map rS) l.length k) (fun n k hk=>?_) (fun n=>?_) L 0 (by omega) (by omega)
 ·have h0:=iY (fun _:S=>false) (l.drop 0) 0
  have h1:(l.drop 0).any (fun _=>false)=false:=by simp
  rw[h1]at h0;rw[show((0:Nat):Int)=0 from rfl]at key1
  skip
  simp only[key1,bnd_some',gInt_i,jN,gBool_b];rw[h0]
 ·show mA L D (n+1) _ _ _=_;rw[sV];simp only[KM];have g:iLt (k:Int) (l.length:Int)=true:=by rw[iLt_dec,jb];omega
  have a1:bR .i64 (k:Int) 1=((k+1:Nat):Int):=aG _ (by omega)
  have u:=aW (k:Int) l (by omega) (by omega)
  rw[aK l k hk]at u;have c0:∀x:S,eF (aC (rS x) 0)=some (bs x):=fun _=>rfl
  have h:=hx l[k] (jt hk);simp only[g,br_true',u,bnd_some',c0,h,gBool_b,br_false',a1,qd,qr]
 ·show mA L D (n+1) _ _ _=_;rw[sV];simp only[KM];have g:iLt (l.length:Int) (l.length:Int)=false:=by rw[iLt_dec,jh];omega
  rw[g,br_false']
theorem awE(hL:1099511627776<=L)(l:List (Steal))(hl:l.length<=1000000)(hx:∀x∈l,ev E L D 40 [.agg [.int .i64 x.who,.str (bs x.tag)]] []=some (.bool false,[])):
 ev E L (D+3) 39 [.sl (l.map rSt),.fn 40 []] []=some (.bool false,[]):=by
 rw[ahI];simp only[KM];rw[ahS];simp only[KM];rw[adF,nrows_map];have key1:=iL l (fun _=>false) [] (fun m k=>mB L D m (l.map rSt) l.length k) (fun n k hk=>?_) (fun n=>?_) L 0 (by omega) (by omega)
 ·have h0:=iY (fun _:Steal=>false) (l.drop 0) 0
  have h1:(l.drop 0).any (fun _=>false)=false:=by simp
  rw[h1]at h0;rw[show((0:Nat):Int)=0 from rfl]at key1
  skip
  simp only[key1,bnd_some',gInt_i,jN,gBool_b];rw[h0]
 ·show mB L D (n+1) _ _ _=_;rw[sX];simp only[KM];have g:iLt (k:Int) (l.length:Int)=true:=by rw[iLt_dec,jb];omega
  have a1:bR .i64 (k:Int) 1=((k+1:Nat):Int):=aG _ (by omega)
  have u:=ZE (k:Int) l (by omega) (by omega)
  rw[aK l k hk]at u;have c0:∀x:Steal,eI .i64 (aC (rSt x) 0)=some x.who:=fun _=>rfl
  have c1:∀x:Steal,eF (aC (rSt x) 1)=some (bs x.tag):=fun _=>rfl
  have h:=hx l[k] (jt hk);simp only[g,br_true',u,bnd_some',c0,c1,h,gBool_b,br_false',a1,qd,qr]
 ·show mB L D (n+1) _ _ _=_;rw[sX];simp only[KM];have g:iLt (l.length:Int) (l.length:Int)=false:=by rw[iLt_dec,jh];omega
  rw[g,br_false']
theorem awF(hL:1099511627776<=L)(l:List (Frame))(hl:l.length<=1000000)(hx:∀x∈l,ev E L D 42 [.agg [.int .i64 x.src,.str (bs x.key),.int .i64 x.n,.str (bs x.text)]] []=some (.bool false,[])):
 ev E L (D+3) 41 [.sl (l.map rF),.fn 42 []] []=some (.bool false,[]):=by
 rw[ahJ];simp only[KM];rw[ahT];simp only[KM];rw[adG,nrows_map];have key1:=iL l (fun _=>false) [] (fun m k=>mC L D m (l.map rF) l.length k) (fun n k hk=>?_) (fun n=>?_) L 0 (by omega) (by omega)
 ·have h0:=iY (fun _:Frame=>false) (l.drop 0) 0
  have h1:(l.drop 0).any (fun _=>false)=false:=by simp
  rw[h1]at h0;rw[show((0:Nat):Int)=0 from rfl]at key1
  skip
  simp only[key1,bnd_some',gInt_i,jN,gBool_b];rw[h0]
 ·show mC L D (n+1) _ _ _=_;rw[sY];simp only[KM];have g:iLt (k:Int) (l.length:Int)=true:=by rw[iLt_dec,jb];omega
  have a1:bR .i64 (k:Int) 1=((k+1:Nat):Int):=aG _ (by omega)
  have u:=CT (k:Int) l (by omega) (by omega)
  rw[aK l k hk]at u;have c0:∀x:Frame,eI .i64 (aC (rF x) 0)=some x.src:=fun _=>rfl
  have c1:∀x:Frame,eF (aC (rF x) 1)=some (bs x.key):=fun _=>rfl
  have c2:∀x:Frame,eI .i64 (aC (rF x) 2)=some x.n:=fun _=>rfl
  have c3:∀x:Frame,eF (aC (rF x) 3)=some (bs x.text):=fun _=>rfl
  have h:=hx l[k] (jt hk);simp only[g,br_true',u,bnd_some',c0,c1,c2,c3,h,gBool_b,br_false',a1,qd,qr]
 ·show mC L D (n+1) _ _ _=_;rw[sY];simp only[KM];have g:iLt (l.length:Int) (l.length:Int)=false:=by rw[iLt_dec,jh];omega
  rw[g,br_false']
theorem awG(hL:1099511627776<=L)(w:World)(l:List (Wait))(hl:l.length<=1000000)(hx:∀x∈l,ev E L D 34 [.agg [.int .i64 x.who,.int .i64 x.pos,.str (bs x.leaf),.str (bs x.key)],.ptr (.imp 0) 0] [.cells (wS w)]=some (.bool false,[.cells (wS w)])):
 ev E L (D+3) 33 [.sl (l.map rWt),.fn 34 [.ptr (.imp 0) 0]] [.cells (wS w)]=some (.bool false,[.cells (wS w)]):=by
 unfold wS at hx⊢;rw[ahG];simp only[KM];rw[ahP];simp only[KM];rw[adC,nrows_map];have key1:=iL l (fun _=>false) [.cells (wS w)] (fun m k=>l9 L D m (w.seats.map rM) (w.waits.map rWt) (w.log.map rC) (w.fresh.map rI) (w.spy.map rS) (w.stolen.map rSt) (w.frames.map rF) (w.said.map rI) (w.wins.map rWs) (w.told.map rT) (l.map rWt) l.length k) (fun n k hk=>?_) (fun n=>?_) L 0 (by omega) (by omega)
 ·have h0:=iY (fun _:Wait=>false) (l.drop 0) 0
  have h1:(l.drop 0).any (fun _=>false)=false:=by simp
  rw[h1]at h0;rw[show((0:Nat):Int)=0 from rfl]at key1
  unfold wS at key1;simp only[key1,bnd_some',gInt_i,iG,bK,jf,jk,ju,cellAt_zero,cellAt_succ,gSl_r,jN,gBool_b];rw[h0]
 ·show l9 L D (n+1) _ _ _ _ _ _ _ _ _ _ _ _ _=_;rw[sU];simp only[KM];have g:iLt (k:Int) (l.length:Int)=true:=by rw[iLt_dec,jb];omega
  have a1:bR .i64 (k:Int) 1=((k+1:Nat):Int):=aG _ (by omega)
  have u:=lH (k:Int) l (by omega) (by omega)
  rw[aK l k hk]at u;have c0:∀x:Wait,eI .i64 (aC (rWt x) 0)=some x.who:=fun _=>rfl
  have c1:∀x:Wait,eI .i64 (aC (rWt x) 1)=some x.pos:=fun _=>rfl
  have c2:∀x:Wait,eF (aC (rWt x) 2)=some (bs x.leaf):=fun _=>rfl
  have c3:∀x:Wait,eF (aC (rWt x) 3)=some (bs x.key):=fun _=>rfl
  have h:=hx l[k] (jt hk);simp only[g,br_true',u,bnd_some',c0,c1,c2,c3,h,iG,bK,jf,jk,ju,cellAt_zero,cellAt_succ,gSl_r,gBool_b,br_false',a1,qd,qr]
 ·show l9 L D (n+1) _ _ _ _ _ _ _ _ _ _ _ _ _=_;rw[sU];simp only[KM];have g:iLt (l.length:Int) (l.length:Int)=false:=by rw[iLt_dec,jh];omega
  rw[g,br_false'];rfl
theorem awH(hL:1099511627776<=L)(w:World)(l:List (Told))(hl:l.length<=1000000)(hx:∀x∈l,ev E L D 45 [.agg [.int .i64 x.who,.int .i64 x.pos],.ptr (.imp 0) 0] [.cells (wS w)]=some (.bool false,[.cells (wS w)])):
 ev E L (D+3) 44 [.sl (l.map rT),.fn 45 [.ptr (.imp 0) 0]] [.cells (wS w)]=some (.bool false,[.cells (wS w)]):=by
 unfold wS at hx⊢;rw[ahK];simp only[KM];rw[ahU];simp only[KM];rw[adH,nrows_map];have key1:=iL l (fun _=>false) [.cells (wS w)] (fun m k=>mD L D m (w.seats.map rM) (w.waits.map rWt) (w.log.map rC) (w.fresh.map rI) (w.spy.map rS) (w.stolen.map rSt) (w.frames.map rF) (w.said.map rI) (w.wins.map rWs) (w.told.map rT) (l.map rT) l.length k) (fun n k hk=>?_) (fun n=>?_) L 0 (by omega) (by omega)
 ·have h0:=iY (fun _:Told=>false) (l.drop 0) 0
  have h1:(l.drop 0).any (fun _=>false)=false:=by simp
  rw[h1]at h0;rw[show((0:Nat):Int)=0 from rfl]at key1
  unfold wS at key1;simp only[key1,bnd_some',gInt_i,iG,bK,jf,jk,ju,cellAt_zero,cellAt_succ,gSl_r,jN,gBool_b];rw[h0]
 ·show mD L D (n+1) _ _ _ _ _ _ _ _ _ _ _ _ _=_;rw[sZ];simp only[KM];have g:iLt (k:Int) (l.length:Int)=true:=by rw[iLt_dec,jb];omega
  have a1:bR .i64 (k:Int) 1=((k+1:Nat):Int):=aG _ (by omega)
  have u:=afC (k:Int) l (by omega) (by omega)
  rw[aK l k hk]at u;have c0:∀x:Told,eI .i64 (aC (rT x) 0)=some x.who:=fun _=>rfl
  have c1:∀x:Told,eI .i64 (aC (rT x) 1)=some x.pos:=fun _=>rfl
  have h:=hx l[k] (jt hk);simp only[g,br_true',u,bnd_some',c0,c1,h,iG,bK,jf,jk,ju,cellAt_zero,cellAt_succ,gSl_r,gBool_b,br_false',a1,qd,qr]
 ·show mD L D (n+1) _ _ _ _ _ _ _ _ _ _ _ _ _=_;rw[sZ];simp only[KM];have g:iLt (l.length:Int) (l.length:Int)=false:=by rw[iLt_dec,jh];omega
  rw[g,br_false'];rfl
end
end Kw
namespace Kw
theorem LE(keys:List S)(own:List Own):∀(p:List Int) (many:Nat),C3 keys own p many=true->own.length<=many+p.length
 |[],many,h=>by
  have:decide (many=own.length)=true:=h;have:=qu this;simp;omega
 |n::ns,many,h=>by
  have e:C3 keys own (n::ns) many=if ix keys n=[]then C3 keys own ns many else if jZ own n 0<0 then false else if makKey (ix own (jZ own n 0)).sec=ix keys n then C3 keys own ns (many+1)else false:=rfl
  rw[e]at h;split at h
  ·have:=LE keys own ns many h;simp only[jf];omega
  ·split at h
   ·cases h
   ·split at h
    ·have:=LE keys own ns (many+1) h;simp only[jf];omega
    ·cases h
theorem UE{w:Int}(h:aH w):(pathOf w).length=4:=by
 obtain⟨h0,h1⟩:=h;have hall:∀k:Fin 8,(pathOf (k.val:Int)).length=4:=by decide+kernel
 have:=hall ⟨w.toNat,by omega⟩
 simpa only[yg h0]using this
theorem nJ{s:S}(h:isKey s=true):secOk s=true:=by
 unfold isKey at h;cases hs:secOk s with
 |true=>rfl
 |false=>
  have:=lN.2 hs;rw[this]at h;exact absurd (qu h) (by decide)
theorem agI{s:S}{n:Int}(h:(aN s).op=n)(hn:n≠0):secOk s=true:=by
 cases hs:secOk s with
 |true=>rfl
 |false=>exact absurd (lN.2 hs) (by rw[h];exact hn)
theorem eA{ks:List S}(h:treOk ks=true):ks.length=15/\∀s∈ks,s.length<=300:=by
 unfold treOk at h;simp only[jg,jb,kj,ya]at h;refine⟨h.1,fun s hs=>?_⟩
 rcases h.2 s hs with e|e
 ·rw[e];simp
 ·exact bS (nJ e)
theorem oC{m:Member}(h:memOk m=true):(m.keys.length<=15/\∀s∈m.keys,s.length<=300)/\(m.own.length<=4/\∀o∈m.own,secOk o.sec=true)/\m.init.length<=300/\m.tag.length<=300:=by
 cases hi:m.inn with
 |false=>
  unfold memOk at h;rw[hi,je rfl]at h;obtain⟨_,h2,h3,_,h5,h6⟩:=qu h;rw[h2,h3,h5,h6];simp
 |true=>
  have h2:=h;rw[<-PG]at h2;unfold RA at h2;rw[hi]at h2;simp only[yk,qr,jg,jb]at h2;obtain⟨hw,ht,_,hin,htl,_,hg⟩:=h2;obtain⟨t1,t2⟩:=eA ht;have h4:=LE _ _ _ _ hg;rw[UE hw]at h4;refine⟨⟨by omega,t2⟩,⟨by omega,fun o ho=>?_⟩,bS hin,htl⟩
  obtain⟨_,_,hf,_⟩:=lC h hi;obtain⟨k,hk,rfl⟩:=qh.1 ho;have h1:=kj.1 hf k (v5.2 hk);unfold oK at h1;simp only[jg,jb]at h1;rw[aK m.own k hk]at h1;exact h1.2.1
theorem UF{c:Commit}(h:cP c=true):(c.tag.length<=300/\c.name.length<=300/\c.leaf.length<=300)/\(c.keys.length=15/\∀s∈c.keys,s.length<=300)/\(c.boxes.length<=20/\∀b∈c.boxes,b.key.length<=300/\b.sec.length<=300)/\c.wkey.length<=300/\c.wik.length<=300/\c.wis.length<=300/\c.wsk.length<=300/\c.wss.length<=300:=by
 unfold cP at h;simp only[jg,jb]at h;obtain⟨⟨_,_,h3,_,_⟩,h6,h7,h8,h9⟩:=h;have hb:∀b∈c.boxes,b.key.length<=300/\b.sec.length<=300:=fun b hb=>by
  unfold iQ at h7;simp only[jg,kj]at h7;have:=h7.2 b hb;exact⟨bS this.1,bS this.2⟩
 refine⟨⟨by omega,by omega,?_⟩,eA h6,⟨h8,hb⟩,?_⟩
 ·split at h9
  ·obtain⟨e,_⟩:=qu h9;rw[e];simp
  ·simp only[jg]at h9;exact bS (nJ h9.1)
 ·split at h9
  ·obtain⟨_,e1,e2,e3,e4,e5⟩:=qu h9;rw[e1,e2,e3,e4,e5];simp
  ·simp only[jg,jb]at h9;obtain⟨_,k2,⟨_,k4,k5⟩,k6,k7⟩:=h9;rw[k4,k5];exact⟨bS (nJ k2),bS (nJ k2),bS k6,bS (nJ k2),bS k7⟩
theorem oD{f:Frame}(h:fraOk f=true):f.key.length<=300/\f.text.length<=8/\aH f.src/\1<=f.n/\f.n<=999:=by
 unfold fraOk nT at h;simp only[jg,jb]at h;obtain⟨⟨h1,h2,_,h4,h5⟩,h6,_⟩:=h;exact⟨bS (agI h2 (by decide)),h6,h1,h4,h5⟩
theorem LF{w:Win}(h:winOk w=true):∀k:Nat,k<w.seen.length->ix w.seen (k:Int)<=w.top-k/\w.top-8<ix w.seen (k:Int)
 |0,hk=>by
  unfold winOk at h;simp only[jg,jb]at h;have e:ix w.seen ((0:Nat):Int)=w.top:=h.1.2.2.2.2;rw[e];omega
 |k+1,hk=>by
  have ih:=LF h k (by omega)
  unfold winOk at h;simp only[jg,jb,kj,v5]at h;have:=h.2 (k+1) hk;rcases this with e|⟨h1,h2,_⟩
  ·omega
  ·rw[show k+1-1=k by omega]at h1
   omega
theorem qR{w:Win}(h:winOk w=true):w.key.length<=300/\1<=w.top/\w.top<=999/\0<w.seen.length/\w.seen.length<=8:=by
 have h2:=h;unfold winOk at h2;simp only[jg,jb]at h2;obtain⟨⟨k1,k2,k3,k4,_⟩,_⟩:=h2;refine⟨bS (agI k1 (by decide)),k2,k3,wu.2 k4,?_⟩
 refine Nat.le_of_not_lt fun hlt=>?_
 have:=LF h 8 hlt;omega
theorem pT{l:List Win}(h:pS l=true){x:Win}(hx:x∈l):winOk x=true:=by
 unfold pS at h;simp only[kj,v5,jg]at h;obtain⟨k,hk,rfl⟩:=qh.1 hx;have:=(h k hk).1
 rwa [aK l k hk]at this
structure WG(w:World):Prop extends WOk w where
 waitsLog:w.waits.length<=w.log.length
 winN:∀l∈w.wins,l.length<=w.told.length
 spyN:w.spy.length<=6*w.stolen.length
end Kw
namespace Kw
open Go Go.Proofs
theorem H8{m:Member}(h:memOk m=true):MB m:=by
 obtain⟨⟨h1,h2⟩,⟨h3,h4⟩,h5,h6⟩:=oC h;exact⟨by omega,fun s hs=>kb (h2 s hs) (by omega),by omega,fun o ho=>kb (bS (h4 o ho)) (by omega),by omega,by omega⟩
theorem MG{c:Commit}(h:cP c=true):CBd c:=by
 obtain⟨⟨h1,h2,h3⟩,⟨h4,h5⟩,⟨h6,h7⟩,h8,h9,h10,h11,h12⟩:=UF h;exact⟨by omega,by omega,by omega,by omega,fun s hs=>kb (h5 s hs) (by omega),by omega,fun b hb=>⟨kb (h7 b hb).1 (by omega),kb (h7 b hb).2 (by omega)⟩,by omega,by omega,by omega,by omega,by omega⟩
theorem dU{A:Type} [Inhabited A]{l:List A}{n:Int}(h0:0<=n)(h1:n<l.length):ix l n∈l:=by
 obtain⟨k,rfl⟩:=kv h0;rw[aK l k (by omega)]
 exact jt _
theorem WOk.seat{w:World}(z:WOk w){m:Member}(h:m∈w.seats):memOk m=true:=by
 obtain⟨k,hk,rfl⟩:=qh.1 h;have:=(z.mem k (by have:=z.seats;omega)).1
 rwa [aK w.seats k hk]at this
theorem WG.sz{w:World}(z:WG w):WSzI w where
 seats:=by have:=z.seats;omega
 waits:=by have:=z.waits;omega
 log:=by have:=z.log;omega
 fresh:=by have:=z.fresh;omega
 spy:=by have:=z.spy;omega
 stolen:=by have:=z.stolen;omega
 frames:=by have:=z.frames;omega
 said:=by have:=z.said;omega
 wins:=by have:=z.wins;omega
 told:=by have:=z.told;omega
 mem:=fun m hm=>H8 (z.seat hm)
 cmt:=fun c hc=>⟨(MG (z.logI c hc)).keys,(MG (z.logI c hc)).boxes⟩
 win:=fun l hl=>⟨by have:=z.winN l hl;have:=z.told;omega,fun x hx=>by have:=(qR (pT (z.winsI l hl) hx)).2.2.2.2;omega⟩
section
variable (L D:Nat)
set_option maxRecDepth 4000 in
theorem SD(hL:1099511627776<=L)(w:World)(z:WG w):ev E L (D+316) 9 [.agg (wS w)] []=some (.bool true,[]):=by
 have a24:=aw9 L (D+312) hL w.fresh (by have:=z.fresh;omega) (fun x hx=>by
  rw[ayE];simp only[KM];rw[kL];obtain⟨h0,h1⟩:=z.freshI x hx;rw[jd h0,jd h1];rfl)
 have a26:=awA L (D+312) hL w.said (by have:=z.said;omega) (fun x hx=>by
  rw[ayG];simp only[KM];rw[kL];obtain⟨h0,h1⟩:=z.saidI x hx;rw[jd h0,jd h1];rfl)
 have a28:=awB L (D+312) hL w.wins (by have:=z.wins;omega) (fun x hx=>by
  have h:=z.winsI x hx;rw[ayH];simp only[KM];rw[U9 L (D+4) hL x (by have:=z.winN x hx;have:=z.told;omega) (fun y hy=>by have:=qR (pT h hy);omega),h];rfl)
 have a31:=awC L (D+312) hL w.log (by have:=z.log;omega) (fun x hx=>by
  have h:=z.logI x hx;have hc:=R9 L D hL x (MG h);rw[h]at hc;rw[ayJ];simp only[KM];change ev E L (D+311) 32 [.agg [.int .i64 x.sender,.str (bs x.tag),.str (bs x.name),.int .i64 x.add,.int .i64 x.remove,.str (bs x.leaf),.sl (x.keys.map rS),.sl (x.boxes.map rB),.str (bs x.wkey),.str (bs x.wik),.str (bs x.wis),.str (bs x.wsk),.str (bs x.wss)]] []=_ at hc;rw[hc];rfl)
 have a38:=awD L (D+312) hL w.spy (by have:=z.spy;omega) (fun x hx=>by
  have h:=z.spyI x hx;rw[ayO];simp only[KM];rw[jI L (D+5) hL x (by have:=bS h;omega),h];rfl)
 have a40:=awE L (D+312) hL w.stolen (by have:=z.stolen;omega) (fun x hx=>by
  obtain⟨h0,h1⟩:=z.stolenI x hx;rw[ayP];simp only[KM];rw[qY,kM,jd h0];simp only[bnd_some',gBool_b,bNot_t,bNot_f,br_true',sLen_bs,iLt_dec];rw[ji (by omega)])
 have a42:=awF L (D+312) hL w.frames (by have:=z.frames;omega) (fun x hx=>by
  have h:=z.framesI x hx;have hs:=oD h;have hf:=SA L D hL x (by omega) (by omega)
  rw[h]at hf;change ev E L (D+311) 43 [.agg [.int .i64 x.src,.str (bs x.key),.int .i64 x.n,.str (bs x.text)]] []=_ at hf;rw[ayQ];simp only[KM];rw[hf];rfl)
 have a34:=awG L (D+312) hL w w.waits (by have:=z.waits;omega) (fun x hx=>by
  obtain⟨h0,⟨h1,h2⟩,h3,h4⟩:=z.waitsI x hx;unfold wS;have hl:=z.log;have es:iS .i64 (w.log.length:Int) 1=(w.log.length:Int)-1:=d9 (by omega) (by omega)
  rw[ayL];simp only[KM];rw[qY,kM,jd h0];simp only[bnd_some',gBool_b,bNot_t,bNot_f,br_true',nrows_map,es,kL];rw[jd h1,jd (by omega:x.pos<=(w.log.length:Int)-1)]
  simp only[Jf,bNot_t,bNot_f,br_true',jI L (D+5) hL x.leaf (by have:=bS h3;omega),jI L (D+5) hL x.key (by have:=bS h4;omega),h3,h4,bnd_some',gBool_b])
 have a45:=awH L (D+312) hL w w.told (by have:=z.told;omega) (fun x hx=>by
  obtain⟨h0,h1,h2⟩:=z.toldI x hx;unfold wS;have hl:=z.frames;have es:iS .i64 (w.frames.length:Int) 1=(w.frames.length:Int)-1:=d9 (by omega) (by omega)
  rw[ayS];simp only[KM];rw[qY,kM,jd h0];simp only[bnd_some',gBool_b,bNot_t,bNot_f,br_true',nrows_map,es,kL];rw[jd h1,jd (by omega:x.pos<=(w.frames.length:Int)-1)]
  rfl)
 unfold wS at a34 a45⊢;have g1:∀(a b:Nat),a<=b->bNot (iLt (b:Int) (a:Int))=true:=fun a b h=>by rw[MD];exact jd (by omega)
 have e1:=z.seats;have e2:=z.fresh;have e3:=z.said;have e4:=z.wins;have h5:=g1 _ 16 z.log;have h6:=g1 _ 16 z.waits;have h7:=g1 _ 40 z.frames;have h8:=g1 _ 12 z.stolen;have h9:=g1 _ 72 z.spy;have h10:iLt 320 (w.told.length:Int)=false:=by rw[iLt_dec];exact ji (by have:=z.told;omega)
 have k1:iEq (w.seats.length:Int) 8=true:=by rw[e1];rfl
 have k2:iEq (w.fresh.length:Int) 8=true:=by rw[e2];rfl
 have k3:iEq (w.said.length:Int) 8=true:=by rw[e3];rfl
 have k4:iEq (w.wins.length:Int) 8=true:=by rw[e4];rfl
 rw[aAP];simp only[KM];simp only[nrows_map,k1,k2,k3,k4,bNot_t,bNot_f,br_true',show∀n:Nat,iLt 16 (n:Int)=iLt ((16:Nat):Int) n from fun _=>rfl,show∀n:Nat,iLt 40 (n:Int)=iLt ((40:Nat):Int) n from fun _=>rfl,show∀n:Nat,iLt 12 (n:Int)=iLt ((12:Nat):Int) n from fun _=>rfl,show∀n:Nat,iLt 72 (n:Int)=iLt ((72:Nat):Int) n from fun _=>rfl,h5,h6,h7,h8,h9,h10,br_false']
 refine Eq.trans (dT w.seats.length (fun _=>true) (fun m k=>DA L (D+315) m (w.seats.map rM) (w.waits.map rWt) (w.log.map rC) (w.fresh.map rI) (w.spy.map rS) (w.stolen.map rSt) (w.frames.map rF) (w.said.map rI) (w.wins.map rWs) (w.told.map rT) (w.seats.map rM) w.seats.length k) (some (.bool true,[])) none (fun n k hk=>?_) (fun n=>?_) L 0 (by omega) (by omega)) (by simp)
 ·show DA L (D+315) (n+1) _ _ _ _ _ _ _ _ _ _ _ _ _=_;rw[H0];simp only[KM];rw[je trivial];have g:iLt (k:Int) (w.seats.length:Int)=true:=by rw[iLt_dec,jb];omega
  have a1:bR .i64 (k:Int) 1=((k+1:Nat):Int):=aG _ (by omega)
  have u:=bM (k:Int) w.seats (by omega) (by omega)
  obtain⟨hm,hwho⟩:=z.mem k (by omega)
  have h1:=wM L (D+4) hL (ix w.seats (k:Int)) (H8 hm);rw[hm]at h1;generalize ix w.seats (k:Int)=q at u h1 hwho;obtain⟨b,wh,ks,own,e,i,t⟩:=q;change kF 7 (w.seats.map rM) (k:Int)=some [.bool b,.int .i64 wh,.sl (ks.map rS),.sl (own.map rO),.int .i64 e,.str (bs i),.str (bs t)]at u;change ev E L (D+315) 22 [.agg [.bool b,.int .i64 wh,.sl (ks.map rS),.sl (own.map rO),.int .i64 e,.str (bs i),.str (bs t)]] []=_ at h1;simp only[g,br_true',u,bnd_some',cellAt_zero,cellAt_succ,gBool_b,gInt_i,gSl_r,gStr_s,h1,bNot_t,bNot_f,a1];cases b with
  |false=>rw[br_false']
  |true=>
   have:wh=(k:Int):=hwho rfl;rw[br_true',this,iEq_self,bNot_t,br_false']
 ·show DA L (D+315) (n+1) _ _ _ _ _ _ _ _ _ _ _ _ _=_;rw[H0];simp only[KM];have g:iLt (w.seats.length:Int) (w.seats.length:Int)=false:=by rw[iLt_dec,jh];omega
  simp only[g,br_false',a24,a26,a28,a31,a38,a40,a42,a34,a45,bnd_some',gBool_b,bNot_f,br_true',iG,bK,jf,jk,ju,cellAt_zero,cellAt_succ,gSl_r]
end
end Kw
namespace Kw
open Go Go.Proofs
theorem P1:∀l:List Int,KI (l.map rI)=some l
 |[]=>rfl
 |n::r=>by
  show(KI (r.map rI)).bind (fun l=>some (n::l))=some (n::r)
  rw[P1 r];rfl
section
variable (L D:Nat)
theorem awI(w:Win)(hw:winOk w=true)(n:Int)(h1:1<=n)(h2:n<=999):ev E L (D+1) 205 [.agg [.str (bs w.key),.int .i64 w.top,.sl (w.seen.map rI)],.int .i64 n] []=
 some (match winTake w n with|some x=>(.tup [.agg (rW x),.bool true],[])|none=>(.tup [.agg [.str (bs w.key),.int .i64 (max w.top n),.sl (w.seen.map rI)],.bool false],[])):=by
 obtain⟨_,t1,t2,s1,s2⟩:=qR hw;have h:E.ext 205=some HI:=rfl;have h3:HI [.agg [.str (bs w.key),.int .i64 w.top,.sl (w.seen.map rI)],.int .i64 n]=some (match winTake w n with|some x=>.tup [.agg (rW x),.bool true]|none=>.tup [.agg [.str (bs w.key),.int .i64 (max w.top n),.sl (w.seen.map rI)],.bool false]):=by
  unfold HI;simp only;rw[P1];simp only[kh];rw[je ⟨wu.1 s1,by omega,by omega,by omega,by omega,by omega⟩,HW]
  by_cases hb:n∈w.seen\/n<=w.top-8
  ·rw[je hb,je hb]
  ·rw[jc hb,jc hb]
   rfl
 unfold ev;simp only[h,h3];cases winTake w n<;>rfl
theorem aiF(hL:1099511627776<=L)(m:Member)(hm:memOk m=true)(wins:List Win)(hw:pS wins=true)(hl:wins.length<=1000)(f:Frame)(hf:fraOk f=true):
 ev E L (D+313) 119 [.agg (rM m),.sl (wins.map rW),.agg (rF f)] []=some (match oL m wins f with|some x=>(.tup [.sl (x.map rW),.bool true],[])|none=>(.tup [.sl (wins.map rW),.bool false],[])):=by
 have hmo:=wM L (D+1) hL m (H8 hm);have hfo:=SA L (D+1) hL f (by have:=oD hf;omega) (by have:=oD hf;omega)
 obtain⟨_,_,hfw,f1,f2⟩:=oD hf;have hmk:=fun hi=>lC hm hi
 have hinit:=(oC hm).2.2.1;have e0:(match oL m wins f with|some x=>((.tup [.sl (x.map rW),.bool true],[]):MV×List Obj)|none=>(.tup [.sl (wins.map rW),.bool false],[]))=if yV m f=true then(if winAt wins f.key 0<0 then(.tup [.sl ((wins++[(⟨f.key,f.n,[f.n]⟩:Win)]).map rW),.bool true],[])else match winTake (ix wins (winAt wins f.key 0)) f.n with|some x=>(.tup [.sl ((wins.set (winAt wins f.key 0).toNat x).map rW),.bool true],[])|none=>(.tup [.sl (wins.map rW),.bool false],[]))else(.tup [.sl (wins.map rW),.bool false],[]):=by
  unfold oL;simp only;by_cases h1:yV m f=true
  ·rw[je h1,je h1];by_cases h2:winAt wins f.key 0<0
   ·rw[je h2,je h2]
   ·rw[jc h2,jc h2];cases winTake (ix wins (winAt wins f.key 0)) f.n<;>rfl
  ·rw[jc h1,jc h1]
 rw[e0];unfold yV;obtain⟨b,w,ks,own,e,i,t⟩:=m;obtain⟨src,key,n,text⟩:=f;simp only at hfw f1 f2 hmk hinit;rw[hm]at hmo;rw[hf]at hfo;change ev E L (D+312) 22 [.agg [.bool b,.int .i64 w,.sl (ks.map rS),.sl (own.map rO),.int .i64 e,.str (bs i),.str (bs t)]] []=_ at hmo;change ev E L (D+312) 43 [.agg [.int .i64 src,.str (bs key),.int .i64 n,.str (bs text)]] []=_ at hfo;show ev E L (D+313) 119 [.agg [.bool b,.int .i64 w,.sl (ks.map rS),.sl (own.map rO),.int .i64 e,.str (bs i),.str (bs t)],.sl (wins.map rW),.agg [.int .i64 src,.str (bs key),.int .i64 n,.str (bs text)]] []=_;have hwm:=fun x hx=>qR (pT (x:=x) hw hx)
 have hwo:=U9 L (D+5) hL wins (by omega) (fun x hx=>by have:=hwm x hx;omega)
 rw[hw]at hwo;have hcp:=aaJ L (D+310) hL wins (by omega) (fun x hx=>by have:=hwm x hx;omega)
 rw[at9];simp only[KM];rw[hmo];simp only[bnd_some',gBool_b,bNot_t,bNot_f,br_true',br_false',hwo,hcp,gOwn_r,iEq_self];refine lP fun hb=>?_
 subst hb;obtain⟨hww,hkl,_⟩:=hmk rfl;rw[hfo,hf];simp only[bnd_some',gBool_b,bNot_t,bNot_f,br_true',jy];have en:bNot (iEq src w)=decide (src≠w):=by rw[iEq_dec,aQ]
 rw[en];refine SC fun hne=>?_
 rw[VJ L (D+309) ks hkl src,jd hfw,jy];simp only[bnd_some',gBool_b];refine lP fun hle=>?_
 have hms:=VH L (D+4) hL i src (by omega)
 simp only[hms,bnd_some',gStr_s,sEq_bs];by_cases hk:key=dZ i src
 case neg=>rw[ji hk];rfl
 rw[jd hk,bNot_t,br_false',je rfl,aaI L (D+309) hL wins key (by omega)]
 simp only[bnd_some',gInt_i];rw[iLt_dec];rcases idxP_cases (fun w:Win=>decide (w.key=key)) wins 0 with⟨j,hj,hat,_⟩|hat
 ·rw[JK,hat,ji (by omega),br_false',jc (by omega)]
  have u:=rJ ((0+j:Nat):Int) wins (by omega) (by omega)
  have u2:=IY wins ((0+j:Nat):Int) (by omega) (by omega)
  have hmem:ix wins ((0+j:Nat):Int)∈wins:=dU (by omega) (by omega)
  have hok:=pT hw hmem;generalize ix wins ((0+j:Nat):Int)=x at u u2 hok⊢;have c0:∀o:Win,eF (aC (rW o) 0)=some (bs o.key):=fun _=>rfl
  have c1:∀o:Win,eI .i64 (aC (rW o) 1)=some o.top:=fun _=>rfl
  have c2:∀o:Win,gSl (aC (rW o) 2)=some (o.seen.map rI):=fun _=>rfl
  have htk:=awI L (D+311) x hok n f1 f2;simp only[u,bnd_some',c0,c1,c2,htk];cases hwt:winTake x n with
  |none=>rfl
  |some y=>
   have ga:G8 3 (.agg (rW y))=some (rW y):=rfl;have lr:iLe 3 (eT (rW x))=true:=rfl;have sr:setRow (rW x) 0 [MV.str (bs y.key),.int .i64 y.top,.sl (y.seen.map rI)]=rW y:=rfl;have st:setR (wins.map rW) ((0+j:Nat):Int) (rW y)=(wins.set (((0+j:Nat):Int)).toNat y).map rW:=iH rW _ _ _;simp only[gTupN_if,jf,jk,ju,bnd_some',cellAt_zero,cellAt_succ,ga,c0,c1,c2,gBool_b,br_true',u2,lr,sr,st,nrows_map,ku,iEq_self]
 ·rw[JK,hat,jd (by omega),br_true',je (by omega)]
  have er:[[MV.str (bs key),.int .i64 n,.sl [[MV.int .i64 n]]]]=[rW (⟨key,n,[n]⟩:Win)]:=rfl;have q1:okR 3 [rW (⟨key,n,[n]⟩:Win)]=true:=rfl;have q2:eL (wins.length:Int) (nrows [rW (⟨key,n,[n]⟩:Win)]) 48=true:=aE _ _ _ (by show((wins.length:Int)+1)*48<=_;omega)
  have q3:cB (wins.map rW) [rW (⟨key,n,[n]⟩:Win)]=(wins++[(⟨key,n,[n]⟩:Win)]).map rW:=cJ rW wins _;have hc:=dB L (D+311) (F:=189) (sz:=3) rfl ((wins++[(⟨key,n,[n]⟩:Win)]).map rW) (KD _) (by rw[kf,jl];simp;omega)
  simp only[er,br_true',nrows_map,KD,q1,q2,q3,cN,hc,bnd_some',gOwn_r]
end
end Kw
namespace Kw
open Go Go.Proofs
theorem VB(l:List Int)(i j v:Int)(P:Int->Prop)(hl:∀x∈l,P x)(hv:P v)(h0:0<=j)(h1:j<l.length):P (ix (cA l i v) j):=by
 have hm:ix (cA l i v) j∈cA l i v:=dU h0 (by unfold cA;rw[ku];exact h1)
 rcases qy hm with h|h
 ·exact hl _ h
 ·rw[h];exact hv
theorem GY(w n:Int):(aO w n).length<=300:=by
 unfold aO;split
 ·rename_i h;rw[DC (by omega) (by omega)]
  unfold IQ;split<;>simp[C0]
 ·simp
section
variable (L D:Nat)
theorem adU(hL:1099511627776<=L)(w:World)(z:WG w)(e:Event)(hw:aH e.who)(ha: -1<=e.add/\e.add<=7)(lf ky:S)(X:World)(hX:X=commitEnd w e lf ky):
 (∃m f,ix w.seats e.who=m/\ix w.fresh e.who=f/\(0<=f/\f<=99)/\
  ((iA m (aO e.who (f+1)) e.add e.remove (makKey lf) (makKey ky)=none/\X=w/\ev E L (D+312) 190 [.agg [.bool m.inn,.int .i64 m.who,.sl (m.keys.map rS),.sl (m.own.map rO),.int .i64 m.epoch,.str (bs m.init),.str (bs m.tag)],.str (bs (aO e.who (f+1))),.int .i64 e.add,.int .i64 e.remove,.str (bs (makKey lf)),.str (bs (makKey ky))] []=some (.tup [.agg (rM bC),.agg (rC sF),.bool false],[]))\/
   ∃x c,iA m (aO e.who (f+1)) e.add e.remove (makKey lf) (makKey ky)=some (x,c)/\X={w with seats:=cA w.seats e.who x,log:=w.log++[c],fresh:=if 0<=e.add then cA (cA w.fresh e.who (f+1)) e.add (ix (cA w.fresh e.who (f+1)) e.add+2)else cA w.fresh e.who (f+1),waits:=if 0<=e.add then w.waits++[⟨e.add,w.log.length,lf,ky⟩]else w.waits}/\
    ev E L (D+312) 190 [.agg [.bool m.inn,.int .i64 m.who,.sl (m.keys.map rS),.sl (m.own.map rO),.int .i64 m.epoch,.str (bs m.init),.str (bs m.tag)],.str (bs (aO e.who (f+1))),.int .i64 e.add,.int .i64 e.remove,.str (bs (makKey lf)),.str (bs (makKey ky))] []=some (.tup [.agg (rM x),.agg (rC c),.bool true],[]))):=by
 have w1:e.who<w.seats.length:=by have:=hw.2;have:=z.seats;omega
 have w2:e.who<w.fresh.length:=by have:=hw.2;have:=z.fresh;omega
 have hm:=z.seat (dU hw.1 w1);refine⟨_,_,rfl,rfl,z.freshI _ (dU hw.1 w2),?_⟩;subst hX;unfold commitEnd;have h:=U7 L D hL (ix w.seats e.who) (H8 hm) (aO e.who (ix w.fresh e.who+1)) e.add e.remove (makKey lf) (makKey ky) (kb (GY _ _) (by omega)) (kb (ML _) (by omega)) (kb (ML _) (by omega))
 unfold iA;by_cases h2:cH (ix w.seats e.who) (aO e.who (ix w.fresh e.who+1)) e.add e.remove (makKey lf) (makKey ky)=true
 ·right;rw[je h2]at h⊢;exact⟨_,_,rfl,rfl,h⟩
 ·left;rw[jc h2]at h⊢;exact⟨rfl,rfl,h⟩
theorem aiG(hL:1099511627776<=L)(w:World)(z:WG w)(e:Event)(hw:aH e.who):ev E L (D+313) 115 [.ptr (.imp 0) 0,.agg [.int .i64 e.kind,.int .i64 e.who,.int .i64 e.add,.int .i64 e.remove,.int .i64 e.pos,.str (bs e.text)]] [.cells (wK w)]=some (.tup [],[.cells (wK (bV w e))]):=by
 unfold wK;rw[at6];simp only[KM];have zf:=z.fresh;have zl:=z.log;have zw:=z.waits;have zs:=z.seats;have w0:=hw.1;have w1:e.who<w.seats.length:=by have:=hw.2;omega
 have w2:e.who<w.fresh.length:=by have:=hw.2;omega
 have hcm:=fun ha lf ky=>adU L D hL w z e hw ha lf ky (commitEnd w e lf ky) rfl
 obtain⟨f0,f1⟩:=z.freshI _ (dU w0 w2);unfold bV;by_cases h16:w.log.length=16
 ·have h':(w.log.length:Int)=16:=by omega
  have hd:decide (¬(w.log.length:Int)=16)=false:=ji (fun x=>x h')
  rw[je (.inl h16)];simp(disch:=omega) only[K1,JP_115_5_eq,aQ,↓aA,hd,↓KM]
 have h16':¬(w.log.length:Int)=16:=by omega
 generalize hf:ix w.fresh e.who=f at f0 f1 hcm;by_cases h99:99<=f
 ·rw[je (.inr (.inl h99))];simp(disch:=omega) only[K1,JP_115_5_eq,↓aA,d8,bJ,aY,h16',hf,h99,↓KM]
 by_cases ha: -1<=e.add/\e.add<=7
 case neg=>
  rw[je (.inr (.inr (.inl ha)))];have:(decide (-1<=e.add)&&decide (e.add<=7))=false:=by
   rw[yc];intro h;simp only[JP_115_5_eq,jg,jb,↓KM]at h;exact ha h
  simp(disch:=omega) only[K1,JP_115_5_eq,Int.reduceNeg,↓aA,d8,bJ,aY,h16',hf,h99,kL,this,↓KM]
 obtain⟨ha1,ha2⟩:=id ha;have mk0:makKey []=[]:=rfl;have hin:(decide (-1<=e.add)&&decide (e.add<=7))=true:=by rw[jd ha1,jd ha2];rfl
 have mkn:=fun w n=>MK L (D+309) w n
 have mkk:=fun s h=>qC L (D+4) hL s h
 by_cases h0:0<=e.add
 ·have w3:e.add<w.fresh.length:=by omega
  obtain⟨g0,g1⟩:=z.freshI _ (dU h0 w3);by_cases h98:98<=ix w.fresh e.add
  ·rw[je (.inr (.inr (.inr ⟨h0,h98⟩)))];simp(disch:=omega) only[K1,JP_115_5_eq,Int.reduceNeg,↓aA,d8,bJ,aY,h16',hf,h99,kL,hin,h0,h98,↓KM]
  ·rw[jc (fun x=>x.elim h16 fun x=>x.elim h99 fun x=>x.elim (fun y=>y ha) fun y=>h98 y.2),je h0]
   have hr:=VB w.fresh e.who e.add (f+1) (fun x=>0<=x/\x<=1000) (fun x hx=>by have:=z.freshI x hx;omega) (by omega) h0 (by omega)
   unfold cA at hr;obtain⟨r0,r1⟩:=hr;have w4:e.add< (w.fresh.set e.who.toNat (f+1)).length:=by rw[ku];omega
   have n1:=GY e.add (ix w.fresh e.add+1);have n2:=GY e.add (ix w.fresh e.add+2);obtain⟨m,f',hm,hf',_,hcs⟩:=hcm ha (aO e.add (ix w.fresh e.add+1)) (aO e.add (ix w.fresh e.add+2));have:f'=f:=hf'.symm;subst this;rcases hcs with⟨_,hX,h⟩|⟨x,c,_,hX,h⟩
   ·rw[hX];simp only[JP_115_5_eq,rM,rC,↓KM]at h;simp(disch:=omega) only[K1,JP_115_5_eq,Int.reduceNeg,Nat.reduceAdd,↓aA,d8,bJ,aY,jA,kO,kP,kQ,kR,kS,kT,bG,bM,h16',hm,hf,h99,kL,hin,h0,h98,bA,mkn,mkk,h,↓KM]
   ·rw[hX];simp only[JP_115_5_eq,rM,rC,↓KM]at h;have e2:(⟨x.inn,x.who,x.keys,x.own,x.epoch,x.init,x.tag⟩:Member)=x:=rfl;have e3:(⟨c.sender,c.tag,c.name,c.add,c.remove,c.leaf,c.keys,c.boxes,c.wkey,c.wik,c.wis,c.wsk,c.wss⟩:Commit)=c:=rfl;simp(disch:=omega) only[K1,JP_115_5_eq,jx,aV,aJ,Int.reduceLE,Int.reduceNeg,Nat.reduceAdd,OY,GD,aZ,aR,↓aA,d8,dD,dE,bJ,kX,aY,jA,kO,kP,kQ,kR,kS,kT,jM,bZ,bG,sB,bM,KC,QS,h16',hm,hf,h99,kL,hin,h0,h98,bA,mkn,mkk,h,e2,e3,aE,ku,↓KM]
    rfl
 ·rw[jc (fun x=>x.elim h16 fun x=>x.elim h99 fun x=>x.elim (fun y=>y ha) fun y=>h0 y.1),jc h0]
  obtain⟨m,f',hm,hf',_,hcs⟩:=hcm ha [] [];have:f'=f:=hf'.symm;subst this;have mkk0:=mkk [] (by simp)
  rcases hcs with⟨_,hX,h⟩|⟨x,c,_,hX,h⟩
  ·rw[hX];simp only[JP_115_5_eq,rM,rC,↓KM]at h;simp(disch:=omega) only[K1,JP_115_5_eq,Int.reduceNeg,Nat.reduceAdd,↓aA,d8,bJ,aY,jA,kO,kP,kQ,kR,kS,kT,bG,bM,h16',hm,hf,h99,kL,hin,h0,bA,mkn,mkk0,h,↓KM]
  ·rw[hX];simp only[JP_115_5_eq,rM,rC,↓KM]at h;have e2:(⟨x.inn,x.who,x.keys,x.own,x.epoch,x.init,x.tag⟩:Member)=x:=rfl;have e3:(⟨c.sender,c.tag,c.name,c.add,c.remove,c.leaf,c.keys,c.boxes,c.wkey,c.wik,c.wis,c.wsk,c.wss⟩:Commit)=c:=rfl;simp(disch:=omega) only[K1,JP_115_5_eq,jx,aV,aJ,Int.reduceLE,Int.reduceNeg,Nat.reduceAdd,OY,aZ,aR,↓aA,d8,dD,dE,bJ,kX,aY,jA,kO,kP,kQ,kR,kS,kT,jM,bZ,bG,sB,bM,KC,h16',hm,hf,h99,kL,hin,h0,bA,mkn,mkk0,h,e2,e3,aE,ku,↓KM]
   rfl
end
end Kw
