import Derived.Test.YthjlffhckgaboaaGreatDoorS12
import Derived.Test.YthjlffhckgaboaaGreatDoorS08
set_option linter.unusedVariables false
set_option linter.unusedSimpArgs false
set_option linter.unusedSectionVars false
namespace Kw.Sp
open Go Go.Proofs
section
variable (L D:Nat)
theorem aY(a b c:Int):ev E L (D+1) 93 [.int .i64 a,.int .i64 b,.int .i64 c] []=some (.bool (decide (b<=a/\a<=c)),[]):=by
 rw[al6];by_cases h:b<=a<;>simp[h]
theorem TG(w:Int)(h:aR w):ev E L (D+1) 160 [.int .i64 w] []=some (.str (bs (xY w)),[]):=by
 obtain⟨h1,h2⟩:=h;rw[agN];simp(disch:=omega) only[K1,aW,sT,bX,↓aB,bT,J0];have e:(65+w).toNat=65+w.toNat:=by omega
 rw[e];rfl
theorem QI:∀(i n:Nat) (acc:S),i<n->i<=1000000000000->acc.length+i<=2000000000000->zB L D n i (bs acc)=some (.str (bs (plain i++acc)),[]):=by
 intro i;induction i using Nat.strongRecOn with
 |ind i ih=>
  intro n acc hn hi ha;obtain⟨n,rfl⟩:∃m,n=m+1:=⟨n-1,by omega⟩
  rw[G7];by_cases h:9<i
  ·have hlt:(9:Int)<i:=by omega
   simp(disch:=omega) only[K1,d7,aW,sT,bX,Int.reduceEq,Nat.reduceAdd,↓aB,hlt,mE,kU,bT,J0,aJ];have e1:(i:Int)/10=((i/10:Nat):Int):=by omega
   have e2:(48+(i:Int)%10).toNat=48+i%10:=by omega
   rw[e1,e2,ih (i/10) (by omega) n _ (by omega) (by omega) (by simp;omega)]
   conv=>rhs;rw[plain,dif_pos h]
   simp[gM]
  ·have hlt:¬(9:Int)<i:=by omega
   simp(disch:=omega) only[K1,d7,aW,sT,bX,Int.reduceEq,Nat.reduceAdd,↓aB,hlt,bT,J0,aJ];have e2:(48+(i:Int)).toNat=48+i:=by omega
   rw[e2]
   conv=>rhs;rw[plain,dif_neg h]
   simp[gM]
theorem V8(hL:1099511627776<=L)(n:Int)(h0:0<=n)(h1:n<=1000000000000):ev E L (D+1) 161 [.int .i64 n] []=some (.str (bs (plain n.toNat)),[]):=by
 rw[agO];obtain⟨k,rfl⟩:∃k:Nat,n=k:=⟨n.toNat,by omega⟩
 have:=QI L D k L [] (by omega) (by omega) (by simp;omega)
 rw[this];simp
theorem V9(n:Nat):(plain n).length<=n+1:=by
 induction n using Nat.strongRecOn with
 |ind n ih=>
  rw[plain];split
  ·have:=ih (n/10) (by omega)
   simp;omega
  ·simp
theorem pY(hL:1099511627776<=L)(w n:Int):ev E L (D+2) 95 [.int .i64 w,.int .i64 n] []=some (.str (bs (bP w n)),[]):=by
 rw[al8];by_cases h:aR w
 ·by_cases h':1<=n/\n<=99
  ·have hl:=V9 n.toNat;have hh:=h;obtain⟨h1,h2⟩:=hh;have e:bP w n=xY w++plain n.toNat++[59]:=jd ⟨h,h'⟩;rw[e];have e1:(xY w).length=1:=rfl;simp(disch:=first|assumption|omega) only[aY,h1,h2,h',aA,aI,bM,bI,bW,cE,d7,bX,yd,js,ql,and_true,qa,je,jj,Nat.reduceAdd,TG,V8,aJ,jk,e1]
  ·have hh:=h;obtain⟨h1,h2⟩:=hh;have e:bP w n=[]:=jb (fun e=>h' e.2)
   rw[e];simp only[K1,aY,h1,h2,h',bX,Nat.reduceAdd]
 ·have h3:¬(0<=w/\w<=7):=h;have e:bP w n=[]:=jb (fun e=>h e.1)
  rw[e];simp only[K1,aY,h3,bD,bX,Nat.reduceAdd]
theorem aaR(a b:Int)(h:0<=a/\a<=1099511627776)(h':0<=b/\b<=1099511627776):ev E L (D+1) 261 [.int .i64 a,.int .i64 b] []=some (.int .i64 (if b=0 then 0 else a+b),[]):=by
 rw[ahG];simp(disch:=omega) only[K1,bX,bT];split<;>rfl
end
end Kw.Sp
namespace Kw.Sp
open Go Go.Proofs
section
variable (L D:Nat)
theorem QJ(hL:1099511627776<=L)(s:S)(p k num:Nat)(hs:s.length<=1000000000000)(hp:p<s.length)(hc:65<=(ix s p).toNat)(hpk:p<k):
 br (bNot (iLe (sLen (bs s)) k)) (bnd (sAt (bs s) k) fun b=>br (bNot (bNot (iEq b 59))) (bnd (sAt (bs s) p) fun b=>bnd (ev E L (D+2) 95 [MV.int IntKind.i64 (dQ IntKind.i64 (bB IntKind.u8 b 65)),MV.int IntKind.i64 num] []) fun r=>bnd (e6 r.1) fun s_1=>br (aE (iLe 0 p) (aE (iLe p (aG IntKind.i64 k 1)) (iLe (aG IntKind.i64 k 1) (sLen (bs s))))) (br (bNot (sEq s_1 (bA (bs s) p (aG IntKind.i64 k 1)))) (some ((MV.int IntKind.i64 0,[]):Res)) (some (MV.int IntKind.i64 (bB IntKind.i64 (aG IntKind.i64 k 1) p),[]))) none) (some (MV.int IntKind.i64 0,[]))) (some (MV.int IntKind.i64 0,[]))=some (.int .i64 (nO s p k num),[]):=by
 have hb:=toNat_lt (ix s p);have hcI:(65:Int)<=(ix s (p:Int)).toNat:=by omega
 unfold nO;by_cases h1:k<s.length
 ·have h1'':¬(s.length:Int)<=k:=by omega
  by_cases h59:(ix s k).toNat=59
  ·have h59':((ix s (k:Int)).toNat:Int)=59:=by omega
   have e1:((k:Int)+1).toNat=k+1:=by omega
   have e2:(0:Int)<=p:=by omega
   have e3:(p:Int)<=k+1:=by omega
   have e4:(k:Int)+1<=s.length:=by omega
   simp(disch:=first|assumption|omega) only[aA,bM,bI,bW,bD,cK,cH,bJ,cE,dH,g9,bX,yd,decide_false,ja,js,ki,↓aB,h1'',eQ,h59',pY,wH,dI,bT,eL,e1,e2,e3,e4];by_cases h:bP (((ix s (p:Int)).toNat:Int)-65) num=(s.take (k+1)).drop p
   ·rw[jb (by simpa using h),jd ⟨h1,h59,h⟩]
   ·rw[jd (by simpa using h),jb (fun e=>h e.2.2)]
  ·have h59':¬((ix s (k:Int)).toNat:Int)=59:=by omega
   simp(disch:=omega) only[K1,kT,g9,bX,wt,and_false,ki,h1'',eQ,h59',h59]
 ·have h1'':(s.length:Int)<=k:=by omega
  simp only[K1,bD,kT,g9,bX,wt,ki,h1'',h1]
theorem F9(hL:1099511627776<=L)(s:S)(p k num n:Nat)(hs:s.length<=1000000000000)(hp:p<s.length)(hc:65<=(ix s p).toNat)(hk:k<=s.length)(hpk:p<k)(hnum:num<=1000000):
 pV L (D+2) (n+1) (bs s) p num k=if k<s.length/\jZ (ix s k)/\k<p+4 then pV L (D+2) n (bs s) p ((num*10+((ix s k).toNat-48):Nat):Int) ((k+1:Nat):Int)else some (.int .i64 (nO s p k num),[]):=by
 rw[HF];have tail:=QJ L D hL s p k num hs hp hc hpk;by_cases h1:k<s.length
 ·have hb2:=toNat_lt (ix s k);have h1':(k:Int)<s.length:=by omega
  have h1'':¬(s.length:Int)<=k:=by omega
  have es:sLen (bs s)=s.length:=cE s;by_cases hd:jZ (ix s k)
  ·obtain⟨d1,d2⟩:=hd;have d1':(48:Int)<=(ix s (k:Int)).toNat:=by omega
   have d2':((ix s (k:Int)).toNat:Int)<=57:=by omega
   by_cases h4:k<p+4
   ·have h4':(k:Int)<p+4:=by omega
    rw[jd ⟨h1,⟨d1,d2⟩,h4⟩];simp(disch:=omega) only[K1,bD,kT,g9,bX,ki,h1',d1',d2',h4',eQ,bT,EE,wH,dI]
    congr 1
    omega
   ·have h4':¬(k:Int)<p+4:=by omega
    rw[jb (fun e=>h4 e.2.2)]
    have c1:iLt (k:Int) (sLen (bs s))=true:=by rw[es];simpa using h1
    have c2:sAt (bs s) (k:Int)=some ((ix s (k:Int)).toNat:Int):=eQ _ _ (by omega) h1'
    have c3:iLe 48 ((ix s (k:Int)).toNat:Int)=true:=by simpa using d1'
    have c4:iLe ((ix s (k:Int)).toNat:Int) 57=true:=by simpa using d2'
    have c5:iLt (k:Int) (aG IntKind.i64 (p:Int) 4)=false:=by rw[bT (by omega) (by omega)];simpa using h4'
    rw[c2]at tail;simp only[aA]at tail;rw[c1,c2];simp only[aC,aA];rw[c3,c4,c5];simp only[aC,aD];exact tail
  ·rw[jb (fun e=>hd e.2.1)]
   have c1:iLt (k:Int) (sLen (bs s))=true:=by rw[es];simpa using h1
   have c2:sAt (bs s) (k:Int)=some ((ix s (k:Int)).toNat:Int):=eQ _ _ (by omega) h1'
   rw[c2]at tail;simp only[aA]at tail;rw[c1,c2];simp only[aC,aA];by_cases d1:48<=(ix s k).toNat
   ·have d2:¬(ix s k).toNat<=57:=fun e=>hd ⟨d1,e⟩
    have c3:iLe 48 ((ix s (k:Int)).toNat:Int)=true:=by simpa using(by omega:(48:Int)<=(ix s (k:Int)).toNat)
    have c4:iLe ((ix s (k:Int)).toNat:Int) 57=false:=by simpa using(by omega:(57:Int)< (ix s (k:Int)).toNat)
    rw[c3,c4];simp only[aC,aD];exact tail
   ·have c3:iLe 48 ((ix s (k:Int)).toNat:Int)=false:=by simpa using(by omega:((ix s (k:Int)).toNat:Int)<48)
    rw[c3];simp only[aD];exact tail
 ·rw[jb (fun e=>h1 e.1)]
  have c1:iLt (k:Int) (sLen (bs s))=false:=by rw[cE];simpa using(by omega:(s.length:Int)<=k)
  rw[c1];simp only[aD];exact tail
theorem aaS(hL:1099511627776<=L)(s:S)(p:Nat)(hs:s.length<=1000000000000)(hp:p<s.length)(hc:65<=(ix s p).toNat):∀(m k num n B:Nat),k+m=p+4->k<=s.length->p<k->num<B->B*10^m<=1000000->m<=n->pV L (D+2) (n+1) (bs s) p num k=some (.int .i64 (oD s p m k num),[]):=by
 intro m;induction m with
 |zero=>
  intro k num n B h1 h2 h3 h4 h5 h6;rw[F9 L D hL s p k num n hs hp hc h2 h3 (by omega),jb (by omega)];rfl
 |succ m ih=>
  intro k num n B h1 h2 h3 h4 h5 h6;have h7:B<=B*10^(m+1):=Nat.le_mul_of_pos_right _ (Nat.pow_pos (by omega))
  rw[F9 L D hL s p k num n hs hp hc h2 h3 (by omega)]
  by_cases h:k<s.length/\jZ (ix s k)
  ·rw[jd ⟨h.1,h.2,by omega⟩]
   obtain⟨n,rfl⟩:∃k,n=k+1:=⟨n-1,by omega⟩
   obtain⟨d1,d2⟩:=h.2;rw[ih (k+1) _ n (B*10) (by omega) (by omega) (by omega) (by omega) (by rw[Nat.pow_succ]at h5;rw[Nat.mul_assoc,vv 10];exact h5) (by omega)]
   conv=>rhs;rw[oD,jd h]
  ·rw[jb (fun e=>h ⟨e.1,e.2.1⟩)]
   conv=>rhs;rw[oD,jb h]
theorem WA(hL:1099511627776<=L)(s:S)(p:Nat)(hs:s.length<=1000000000000)(hp:p<s.length):ev E L (D+3) 262 [.str (bs s),.int .i64 p] []=some (.int .i64 (if 65<=(ix s p).toNat/\(ix s p).toNat<=72 then oD s p 3 (p+1) 0 else 0),[]):=by
 rw[ahH];have hb:=toNat_lt (ix s p);have h0:(0:Int)<=p:=by omega
 have h1:(p:Int)<s.length:=by omega
 simp(disch:=omega) only[K1,bD,bX,eQ,bT];by_cases a:65<=(ix s p).toNat
 ·by_cases b:(ix s p).toNat<=72
  ·rw[jd (by omega),jb (by omega),jd ⟨a,b⟩]
   obtain⟨n,rfl⟩:∃n,L=n+1:=⟨L-1,by omega⟩
   exact aaS _ _ hL s p hs hp a 3 (p+1) 0 n 1 (by omega) (by omega) (by omega) (by omega) (by decide) (by omega)
  ·rw[jd (by omega),jd (by omega),jb (fun e=>b e.2)]
 ·rw[jb (by omega),jb (fun e=>a e.1)]
end
end Kw.Sp
namespace Kw.Sp
open Go Go.Proofs
section
variable (L D:Nat)
theorem N8(hL:1099511627776<=L)(s:S)(hs:s.length<=1000000000000):∀(m D p:Nat),s.length-p<m->p<=s.length->ev E L (D+m+3) 216 [.str (bs s),.int .i64 p] []=some (.int .i64 (psz (s.drop p)),[]):=by
 intro m;induction m with
 |zero=>intro D p h;omega
 |succ m ih=>
  intro D p hm hp;rw[show D+(m+1)+3=(D+m+3)+1 by omega,agY]
  by_cases hlt:p<s.length
  case neg=>
   have:(s.length:Int)<=p:=by omega
   simp only[K1,bD,bX,this];rw[jm (by omega)];rfl
  have h1:¬(s.length:Int)<=p:=by omega
  have hd:=cO s p hlt;have hb:=toNat_lt (ix s p);have e1:aG .i64 (p:Int) 1=((p+1:Nat):Int):=aO p (by omega)
  have e2:aG .i64 (p:Int) 2=((p+2:Nat):Int):=by rw[bT (by omega) (by omega)];omega
  have hat:sAt (bs s) (p:Int)=some ((ix s (p:Int)).toNat:Int):=eQ _ _ (by omega) (by omega)
  have hl1:=PC (s.drop (p+1));have hl2:=PC (s.drop (p+2));simp only[wz]at hl1 hl2;have hI1:=fun(h:p+1<=s.length)=>ih D (p+1) (by omega) h
  have hI2:=fun(h:p+2<=s.length)=>ih D (p+2) (by omega) h
  have hM:=fun(k a:Nat) (h1:k<=1099511627776) (h2:a<=1099511627776)=>aaR L (D+m+2) k a ⟨by omega,by omega⟩ ⟨by omega,by omega⟩
  have fin:∀(k a:Nat),(some ((MV.int .i64 (if(a:Int)=0 then 0 else(k:Int)+a),[]):Res))=some (.int .i64 ((if a=0 then 0 else k+a:Nat):Int),[]):=fun k a=>by
   by_cases h:a=0
   ·simp[h]
   ·have:¬(a:Int)=0:=by omega
    simp[h]
  rw[hd];generalize hc:ix s (p:Int)=c at hd hb hat;have inj:∀n:UInt8,(c.toNat:Int)=n.toNat->c=n:=fun n h=>UInt8.toNat_inj.1 (by omega)
  simp only[K1,bD,bX,h1,hat,e1,e2];by_cases c1:(c.toNat:Int)=110
  ·rw[jb (by simpa using c1),hI1 (by omega)]
   simp only[K1];have:=hM 1 (psz (s.drop (p+1))) (by omega) (by omega)
   rw[show((1:Nat):Int)=1 from rfl]at this
   rw[this];simp only[K1];rw[ajI (.inl (inj 110 c1))];exact fin 1 _
  rw[jd (by simpa using c1)]
  by_cases c2:(c.toNat:Int)=107
  ·rw[jd c2,hI1 (by omega)]
   simp only[K1];have:=hM 1 (psz (s.drop (p+1))) (by omega) (by omega)
   rw[show((1:Nat):Int)=1 from rfl]at this
   rw[this];simp only[K1];rw[ajI (.inr (inj 107 c2))];exact fin 1 _
  rw[jb c2];by_cases c3:(c.toNat:Int)=109
  ·rw[jd c3,inj 109 c3];by_cases hlt2:p+1<s.length
   case neg=>
    have:(s.length:Int)<=((p+1:Nat):Int):=by omega
    rw[jb (by simpa using this),jm (by omega)];rfl
   have:¬(s.length:Int)<=((p+1:Nat):Int):=by omega
   have hat2:sAt (bs s) ((p+1:Nat):Int)=some ((ix s ((p+1:Nat):Int)).toNat:Int):=eQ _ _ (by omega) (by omega)
   have hd2:=cO s (p+1) hlt2;rw[jd (by simpa using this),hat2,hd2]
   simp only[aA];generalize ix s ((p+1:Nat):Int)=w;by_cases w1:(w.toNat:Int)<65
   ·rw[jb (by simpa using w1),adV (fun _ _ e=>by cases e;omega)];rfl
   rw[jd (by simpa using w1)]
   by_cases w2:(72:Int)<w.toNat
   ·rw[jd w2,adV (fun _ _ e=>by cases e;omega)];rfl
   rw[jb w2,hI2 (by omega)]
   simp only[K1];have:=hM 2 (psz (s.drop (p+2))) (by omega) (by omega)
   rw[show((2:Nat):Int)=2 from rfl]at this
   rw[this];simp only[K1];rw[alW ⟨by omega,by omega⟩]
   exact fin 2 _
  rw[jb c3];by_cases c4:(c.toNat:Int)=114
  ·rw[jd c4,inj 114 c4];by_cases hlt2:p+1<s.length
   case neg=>
    have:(s.length:Int)<=((p+1:Nat):Int):=by omega
    rw[jb (by simpa using this),jm (by omega)];rfl
   have:¬(s.length:Int)<=((p+1:Nat):Int):=by omega
   have hat2:sAt (bs s) ((p+1:Nat):Int)=some ((ix s ((p+1:Nat):Int)).toNat:Int):=eQ _ _ (by omega) (by omega)
   have hd2:=cO s (p+1) hlt2;rw[jd (by simpa using this),hat2,hd2]
   simp only[aA];generalize ix s ((p+1:Nat):Int)=w;by_cases w1:(w.toNat:Int)<49
   ·rw[jb (by simpa using w1),adW (fun _ _ e=>by cases e;omega)];rfl
   rw[jd (by simpa using w1)]
   by_cases w2:(57:Int)<w.toNat
   ·rw[jd w2,adW (fun _ _ e=>by cases e;omega)];rfl
   rw[jb w2,hI2 (by omega)]
   simp only[K1];have:=hM 2 (psz (s.drop (p+2))) (by omega) (by omega)
   rw[show((2:Nat):Int)=2 from rfl]at this
   rw[this];simp only[K1];rw[alX ⟨by omega,by omega⟩]
   exact fin 2 _
  rw[jb c4];by_cases c5:(c.toNat:Int)=101
  ·rw[jd c5,inj 101 c5,hI1 (by omega)]
   simp only[K1];rw[alY];generalize ha:psz (s.drop (p+1))=a at hl1;by_cases a0:a=0
   ·subst a0;simp
   have a0':¬(a:Int)=0:=by omega
   have e3:aG .i64 ((p+1:Nat):Int) (a:Int)=((p+1+a:Nat):Int):=by rw[bT (by omega) (by omega)];omega
   have e4:aG .i64 1 (a:Int)=((1+a:Nat):Int):=by rw[bT (by omega) (by omega)];omega
   have hl3:=PC (s.drop (p+1+a));simp only[wz]at hl3;rw[jb a0',jb a0,e3,e4,ih D (p+1+a) (by omega) (by omega)]
   simp only[K1];rw[hM (1+a) _ (by omega) (by omega),List.drop_drop]
   simp only[K1];exact fin (1+a) _
  rw[jb c5,WA L (D+m) hL s p hs hlt];simp only[K1];have hfe:=YM s p hlt;rw[hc,hd]at hfe;rw[hc,hfe,<-alZ ⟨?_,?_,?_,?_,?_⟩]
  all_goals (intro e;rw[e]at c1 c2 c3 c4 c5;first|exact c1 rfl|exact c2 rfl|exact c3 rfl|exact c4 rfl|exact c5 rfl)
end
end Kw.Sp
namespace Kw.Sp
open Go Go.Proofs
section
variable (L D:Nat)
theorem bC(hL:1099511627776<=L)(s:S):ev E L (D+305) 155 [.str (bs s)] []=some (.bool (secOk s),[]):=by
 rw[agI,UD];by_cases h0:s=[]
 ·subst h0;simp only[K1,bX,↓cW];simp
 by_cases h1:s.length<=300
 ·have h1':(s.length:Int)<=300:=by omega
  have:=N8 L hL s (by omega) 301 D 0 (by omega) (by omega)
  rw[show((0:Nat):Int)=0 from rfl,kw]at this
  simp only[K1,bX,true_and,h0,h1',h1,this];have e:((psz s:Nat):Int)=s.length↔psz s=s.length:=by omega
  simp[h0,e]
 ·have h1':¬(s.length:Int)<=300:=by omega
  simp only[K1,bX,wt,and_false,h0,h1',h1]
theorem LC(hL:1099511627776<=L)(s:S):ev E L (D+306) 219 [.str (bs s)] []=some (.str (bs (if secOk s=true then s else[])),[]):=by
 rw[ah1];simp only[K1,bC _ _ hL,bX];cases secOk s<;>simp[bNot]
theorem nG{s:S}(h:secOk s=true):0<s.length/\s.length<=300:=by
 obtain⟨t,_,e,hl⟩:=eX.1 h;exact⟨by rw[e];exact t.str_pos,hl⟩
theorem WZ(r:S)(t:Sec)(q:S)(h:pars r=some (t,q)):pars (110::r)=some (.next t,q):=by rw[cR,jd rfl,h]
theorem abC(r:S)(t:Sec)(q:S)(h:pars r=some (t,q)):pars (107::r)=some (.key t,q):=by rw[cR,jb (by decide),jd rfl,h]
theorem abD(w:Int)(hw:aR w)(r:S)(t:Sec)(q:S)(h:pars r=some (t,q)):pars (109::letter w.toNat::r)=some (.say w.toNat t,q):=by
 obtain⟨h1,h2⟩:=hw;have hl:=jQ (w:=w.toNat) (by omega)
 rw[cR,jb (by decide),jb (by decide),jd rfl]
 simp only;rw[jd (by omega),h,hl]
 simp
theorem abE{p s:S}(f:Sec->Sec)(hq:∀r t q,pars r=some (t,q)->pars (p++r)=some (f t,q))(hs:secOk s=true):(if secOk (p++s)=true then p++s else[])=mk1 p s:=by
 unfold mk1;have key:secOk (p++s)=decide (p.length+s.length<=300):=by
  unfold secOk sec;rw[jk];by_cases h:p.length+s.length<=300
  ·rw[jd h];obtain⟨t,hw,e,hl⟩:=eX.1 hs;have h1:pars s=some (t,[]):=by
    have:=x5 [] hw;rw[jz,<-e]at this;exact this
   unfold pnt;rw[hq s t [] h1];simp[h]
  ·rw[jb h];simp[h]
 rw[key];simp[hs]
theorem pZ(hL:1099511627776<=L)(s:S):ev E L (D+307) 218 [.str (bs s)] []=some (.str (bs (makNext s)),[]):=by
 rw[ah0];by_cases h:secOk s=true
 ·have:=nG h;simp(disch:=omega) only[K1,bC _ _ hL,LC _ _ hL,h,d7,bX,Nat.reduceAdd,aJ];rw[abE .next WZ h];rfl
 ·have h:secOk s=false:=by simpa using h
  simp only[K1,bC _ _ hL,h,d7,bX,Nat.reduceAdd];simp[makNext,mk1,h]
theorem eT(hL:1099511627776<=L)(s:S):ev E L (D+307) 162 [.str (bs s)] []=some (.str (bs (makKey s)),[]):=by
 rw[agP];by_cases h:secOk s=true
 ·have:=nG h;simp(disch:=omega) only[K1,bC _ _ hL,LC _ _ hL,h,d7,bX,Nat.reduceAdd,aJ];rw[abE .key abC h];rfl
 ·have h:secOk s=false:=by simpa using h
  simp only[K1,bC _ _ hL,h,d7,bX,Nat.reduceAdd];simp[makKey,mk1,h]
theorem GG(hL:1099511627776<=L)(s:S)(w:Int):ev E L (D+307) 225 [.str (bs s),.int .i64 w] []=some (.str (bs (eE s w)),[]):=by
 rw[ah7];by_cases h:secOk s=true
 ·have:=nG h;by_cases hw:aR w
  ·obtain⟨h1,h2⟩:=id hw;simp(disch:=first|assumption|omega) only[bC _ _ hL,LC _ _ hL,aY,TG,h1,h2,h,aA,aI,bM,bI,bW,cE,d7,bX,yd,js,ql,and_true,qa,je,jj,Nat.reduceAdd,xY,jk,aJ];have e:([109]++[letter w.toNat]++s:S)=(109::xY w)++s:=rfl;rw[e,abE (p:=109::xY w) (.say w.toNat) (abD w hw) h];simp[eE,hw]
  ·have h3:¬(0<=w/\w<=7):=hw;simp only[K1,bC _ _ hL,aY,h3,h,bX,Nat.reduceAdd];simp[eE,hw]
 ·have h:secOk s=false:=by simpa using h
  simp only[K1,bC _ _ hL,h,bX,Nat.reduceAdd];simp[eE,mk1,h]
theorem wZ(hL:1099511627776<=L)(a b:S):ev E L (D+307) 268 [.str (bs a),.str (bs b)] []=some (.str (bs (eH a b)),[]):=by
 rw[ahN];by_cases h:secOk a=true
 ·have:=nG h;by_cases h':secOk b=true
  ·have:=nG h';simp(disch:=omega) only[K1,bC _ _ hL,LC _ _ hL,h,h',d7,bX,Nat.reduceAdd,jk,aJ];have key:secOk ([101]++a++b)=decide (1+a.length+b.length<=300):=by
    unfold secOk sec;rw[jk,jk];by_cases hl:1+a.length+b.length<=300
    ·rw[jd (by simpa using hl)]
     obtain⟨t,hw,e,_⟩:=eX.1 h;obtain⟨u,hu,e',_⟩:=eX.1 h';have h1:pars (Sec.epoch t u).str=some (.epoch t u,[]):=by
      have:=x5 (t:=.epoch t u) [] ⟨hw,hu⟩
      rwa [jz]at this
     have e2:[101]++a++b=(Sec.epoch t u).str:=by rw[e,e'];rfl
     unfold pnt;rw[e2,h1];simp[hl]
    ·rw[jb (by simpa using hl)];simp[hl]
   rw[key];simp[eH,h,h']
  ·have h':secOk b=false:=by simpa using h'
   simp only[K1,bC _ _ hL,h,h',d7,bX,Nat.reduceAdd];simp[eH,h']
 ·have h:secOk a=false:=by simpa using h
  simp only[K1,bC _ _ hL,h,d7,bX,Nat.reduceAdd];simp[eH,h]
end
end Kw.Sp
namespace Kw.Sp
open Go Go.Proofs
section
variable (L D:Nat)
def gK(h:How):Row:=[.int .i64 h.op,.int .i64 h.who,.int .i64 h.n,.str (bs h.a),.str (bs h.b)]
theorem OI(s:S)(hs:s.length<=300)(hp:1<=s.length):∀(n k num B:Nat),s.length-k<n->(∀j,k<=j->j+1<s.length->jZ (ix s j))->num<B->B*10^(s.length-1-k)<=1000000->65<=(ix s (0:Int)).toNat->
 vB L D n 0 0 0 (bs []) (bs []) (bs s) num k=some (.agg (gK ⟨1,(ix s (0:Int)).toNat-65,((List.range' k (s.length-1-k)).foldl (fun(a j:Nat)=>a*10+((ix s (j:Int)).toNat-48)) num:Nat),[],[]⟩),[]):=by
 intro n;induction n with
 |zero=>intro k num B h;omega
 |succ n ih=>
  intro k num B hn hd hb hB hc;rw[FP];have h255:=toNat_lt (ix s (0:Int));have hsub:bB .i64 (s.length:Int) 1=((s.length-1:Nat):Int):=by rw[eL (by omega) (by omega)];omega
  by_cases h:k<s.length-1
  ·have hlt:(k:Int)< ((s.length-1:Nat):Int):=by omega
   obtain⟨d1,d2⟩:=hd k (by omega) (by omega)
   have hnb:B*10<=B*10^(s.length-1-k):=Nat.mul_le_mul_left _ (by rw[show s.length-1-k=(s.length-1-k-1)+1 by omega,Nat.pow_succ];exact Nat.le_mul_of_pos_left _ (Nat.pow_pos (by omega)))
   simp(disch:=omega) only[K1,bX,hsub,hlt,eQ,wH,dI,EE,bT];have e1:(num:Int)*10+(((ix s (k:Int)).toNat:Int)-48)=((num*10+((ix s (k:Int)).toNat-48):Nat):Int):=by omega
   rw[e1,show(k:Int)+1=((k+1:Nat):Int) by omega,ih (k+1) _ (B*10) (by omega) (fun j h1 h2=>hd j (by omega) h2) (by omega) (by
    rw[show s.length-1-k=(s.length-1-(k+1))+1 by omega,Nat.pow_succ]at hB
    rw[Nat.mul_assoc,vv 10];exact hB) hc]
   congr 6
   rw[show s.length-1-k=(s.length-1-(k+1))+1 by omega,List.range'_succ]
   rfl
  ·have hlt:¬(k:Int)< ((s.length-1:Nat):Int):=by omega
   simp(disch:=omega) only[K1,bX,hsub,hlt,eQ,wH,dI];rw[show s.length-1-k=0 by omega]
   rfl
theorem LD{s:S}{t:Sec}(h:sec s=some t):s=t.str/\t.wf/\0<s.length/\s.length<=300:=by
 obtain⟨h1,h2,h3⟩:=nN.1 h;exact⟨h2,h1,by rw[h2];exact t.str_pos,h3⟩
theorem dC(hL:1099511627776<=L)(s:S)(t:Sec)(h:sec s=some t):ev E L (D+305) 221 [.str (bs s)] []=some (.agg (gK t.how),[]):=by
 obtain⟨e,hw,hp,hl⟩:=LD h;rw[ah3];have hat:sAt (bs s) 0=some ((ix s (0:Int)).toNat:Int):=eQ _ _ (by omega) (by omega)
 have hsz:=N8 L hL s (by omega) 301 D 1 (by omega) (by omega)
 rw[show((1:Nat):Int)=1 from rfl]at hsz
 simp only[K1,kT,dE,g9,bX,Int.reduceLE,ki,hat];have hl1:(1:Int)<=s.length:=by omega
 cases t with
 |next t=>
  have e0:ix s (0:Int)=110:=by rw[e];rfl
  rw[e0,jd (by rfl)]
  simp only[true_and,hl1];subst e;simp[Sec.how,gK,Sec.str]
 |key t=>
  have e0:ix s (0:Int)=107:=by rw[e];rfl
  rw[e0,jb (by decide),jd (by rfl)]
  simp only[true_and,hl1];subst e;simp[Sec.how,gK,Sec.str]
 |say w t=>
  have e0:ix s (0:Int)=109:=by rw[e];rfl
  have e1:ix s (1:Int)=letter w:=by rw[e];rfl
  have hw7:=jQ hw.1;have h2:(2:Int)<=s.length:=by rw[e];simp[Sec.str];omega
  have hat1:sAt (bs s) 1=some ((ix s (1:Int)).toNat:Int):=eQ _ _ (by omega) (by omega)
  have:=hw.1;rw[e0,jb (by decide),jb (by decide),jd (by rfl),hat1,e1,hw7]
  simp(disch:=omega) only[aA,true_and,h2,wH,dI];subst e;simp[Sec.how,gK,Sec.str];omega
 |room m t=>
  have e0:ix s (0:Int)=114:=by rw[e];rfl
  have e1:ix s (1:Int)=gM m:=by rw[e];rfl
  have hw7:=iI hw.2.1;have h2:(2:Int)<=s.length:=by rw[e];simp[Sec.str];omega
  have hat1:sAt (bs s) 1=some ((ix s (1:Int)).toNat:Int):=eQ _ _ (by omega) (by omega)
  have:=hw.2.1;rw[e0,jb (by decide),jb (by decide),jb (by decide),jd (by rfl),hat1,e1,hw7]
  simp(disch:=omega) only[aA,true_and,h2,wH,dI];subst e;simp[Sec.how,gK,Sec.str];omega
 |epoch a b=>
  have e0:ix s (0:Int)=101:=by rw[e];rfl
  have e1:psz (s.drop 1)=a.str.length:=by
   have:s.drop 1=a.str++b.str:=by rw[e];rfl
   rw[this];exact(mF (x5 b.str hw.1)).1
  rw[e0,jb (by decide),jb (by decide),jb (by decide),jb (by decide),jd (by rfl),hsz,e1]
  have hle:a.str.length+b.str.length+1=s.length:=by rw[e];simp[Sec.str]
  have g1:(1:Int)<=1+(a.str.length:Int):=by omega
  have g2:1+(a.str.length:Int)<=s.length:=by omega
  have g3:(0:Int)<=1+(a.str.length:Int):=by omega
  have g4:(1+(a.str.length:Int)).toNat=a.str.length+1:=by omega
  simp(disch:=omega) only[K1,true_and,bT,g1,g2,g3,g4];subst e;simp[Sec.how,gK,Sec.str];rw[<-jk,wo];simp
 |new w m=>
  have e0:ix s (0:Int)=letter w:=by rw[e];rfl
  obtain⟨a1,a2,a3,a4,a5⟩:=IW hw.1;have hwn:=jQ hw.1;have hw7:=hw.1;have c1:¬((letter w).toNat:Int)=110:=by omega
  have c2:¬((letter w).toNat:Int)=107:=by omega
  have c3:¬((letter w).toNat:Int)=109:=by omega
  have c4:¬((letter w).toNat:Int)=114:=by omega
  have c5:¬((letter w).toNat:Int)=101:=by omega
  rw[e0,jb c1,jb c2,jb c3,jb c4,jb c5];have hm:=hw.2.1;have hm9:=hw.2.2;by_cases h9:m<=9
  ·have hd:=iI h9;have es:s=[letter w,gM m,59]:=by rw[e];simp[Sec.str,tA h9]
   have i1:ix s (1:Int)=gM m:=by rw[es];rfl
   have:=OI L (D+304) s hl (by omega) L 1 0 1 (by omega) (fun j h1 h2=>by
    have:j=1:=by rw[es]at h2;simp at h2;omega
    subst this;rw[show((1:Nat):Int)=1 from rfl,i1];exact⟨by omega,by omega⟩) (by omega) (by rw[es];simp) (by rw[e0];omega)
   rw[show((1:Nat):Int)=1 from rfl,show((0:Nat):Int)=0 from rfl]at this
   rw[this,e0,hwn];have el:s.length=3:=by rw[es];rfl
   rw[el];show some (MV.agg (gK ⟨1,_,((0*10+((ix s (1:Int)).toNat-48):Nat):Int),[],[]⟩),[])=_;rw[i1,hd];simp[Sec.how,gK];omega
  ·have hd:= @iI (m/10) (by omega)
   have hd':= @iI (m%10) (by omega)
   have es:s=[letter w,gM (m/10),gM (m%10),59]:=by rw[e];simp[Sec.str,AN (n:=m) (by omega) hw.2.2]
   have i1:ix s (1:Int)=gM (m/10):=by rw[es];rfl
   have i2:ix s (2:Int)=gM (m%10):=by rw[es];rfl
   have:=OI L (D+304) s hl (by omega) L 1 0 1 (by omega) (fun j h1 h2=>by
    have:j=1\/j=2:=by rw[es]at h2;simp at h2;omega
    rcases this with h|h<;>subst h
    ·rw[show((1:Nat):Int)=1 from rfl,i1];exact⟨by omega,by omega⟩
    ·rw[show((2:Nat):Int)=2 from rfl,i2];exact⟨by omega,by omega⟩) (by omega) (by rw[es];simp) (by rw[e0];omega)
   rw[show((1:Nat):Int)=1 from rfl,show((0:Nat):Int)=0 from rfl]at this
   rw[this,e0,hwn];have el:s.length=4:=by rw[es];rfl
   rw[el];show some (MV.agg (gK ⟨1,_,(((0*10+((ix s (1:Int)).toNat-48))*10+((ix s (2:Int)).toNat-48):Nat):Int),[],[]⟩),[])=_;rw[i1,i2,hd,hd'];simp[Sec.how,gK];omega
end
end Kw.Sp
namespace Kw.Sp
open Go Go.Proofs
section
variable (L D:Nat)
theorem bV(w:Int):ev E L (D+2) 159 [.int .i64 w] []=some (.int .i64 (treLeaf w),[]):=by
 rw[agM];by_cases h:aR w
 ·obtain⟨h1,h2⟩:=id h;simp(disch:=omega) only[K1,aY,h1,h2,bX,Int.reduceNeg,bT];simp[treLeaf,h]
 ·have h3:¬(0<=w/\w<=7):=h;simp only[K1,aY,h3,bX,Int.reduceNeg];simp[treLeaf,h]
theorem abF:∀(i n:Nat) (acc:List Int),i<n->i<=14->acc.length+i<=100->zD L D n (acc.map rI) acc.length i=some (.sl ((acc++ups i).map rI),[]):=by
 intro i;induction i using Nat.strongRecOn with
 |ind i ih=>
  intro n acc hn hi ha;obtain⟨n,rfl⟩:∃m,n=m+1:=⟨n-1,by omega⟩
  rw[HA];by_cases h:i=0
  ·have h0:¬(0:Int)<i:=by omega
   rw[show iLt 0 (i:Int)=false from by simpa using h0,aD,show iEq (acc.length:Int) (nrows (acc.map rI))=true from by simp,aC,ups,dif_pos h,jz]
  ·have e:iD .i64 (bB .i64 (i:Int) 1) 2=(((i-1)/2:Nat):Int):=by rw[eL (by omega) (by omega),kU (by omega) (by omega) (by omega)];omega
   have hpos:(0:Int)<i:=by omega
   rw[e,show[[MV.int IntKind.i64 (((i-1)/2:Nat):Int)]]=[rI (((i-1)/2:Nat):Int)]from rfl]
   simp(disch:=omega) only[K1,aeM,jt,bJ,aW,dD,bX,Int.reduceEq,jE,bS,bF,↓aB,hpos,aJ];have:=ih ((i-1)/2) (by omega) n (acc++[(((i-1)/2:Nat):Int)]) (by omega) (by omega) (by simp;omega)
   rw[this]
   conv=>rhs;rw[ups,dif_neg h]
   simp
theorem vH(hL:1099511627776<=L)(n:Int):ev E L (D+2) 217 [.int .i64 n] []=some (.sl ((cF n).map rI),[]):=by
 rw[agZ];by_cases h:fN n
 ·obtain⟨h1,h2⟩:=id h;obtain⟨k,rfl⟩:∃k:Nat,n=k:=⟨n.toNat,by omega⟩
  have:=abF L (D+1) k L [] (by omega) (by omega) (by simp;omega)
  simp only[K1,aY,h1,h2,bX,↓aB];rw[cF,jd h];exact this
 ·have h3:¬(0<=n/\n<=14):=h;simp only[K1,aY,h3,bX,↓aB];simp[cF,h]
theorem W0(n:Int):ev E L (D+2) 296 [.int .i64 n] []=some (.int .i64 (cC n),[]):=by
 rw[ai1];by_cases h:1<=n/\n<=14
 ·obtain⟨h1,h2⟩:=id h;simp(disch:=omega) only[K1,aY,h1,h2,bX,Int.reduceEq,Int.reduceNeg,mE,bT,eL];rw[cC,jd h];split<;>rfl
 ·simp only[K1,aY,h,bX,Int.reduceEq,Int.reduceNeg];simp[cC,h]
theorem QY:∀(f n a b:Nat),f<n->a<=14->b<=14->a+b<=f->tR L D n a b=some (.int .i64 (meetN f a b:Nat),[]):=by
 intro f;induction f with
 |zero=>
  intro n a b hn ha hb hf;obtain⟨n,rfl⟩:∃m,n=m+1:=⟨n-1,by omega⟩
  rw[wA];have:a=b:=by omega
  subst this;simp only[K1,bX,Int.reduceEq,↓aB];rfl
 |succ f ih=>
  intro n a b hn ha hb hf;obtain⟨n,rfl⟩:∃m,n=m+1:=⟨n-1,by omega⟩
  rw[wA,meetN];by_cases h:a=b
  ·subst h;simp only[K1,bX,Int.reduceEq,↓aB]
  ·have h':¬(a:Int)=b:=by omega
   rw[jb h];by_cases hab:b<a
   ·have hab':(b:Int)<a:=by omega
    have e:iD .i64 (bB .i64 (a:Int) 1) 2=(((a-1)/2:Nat):Int):=by rw[eL (by omega) (by omega),kU (by omega) (by omega) (by omega)];omega
    simp only[K1,bX,Int.reduceEq,h',hab',e];rw[jd hab];exact ih n _ b (by omega) (by omega) hb (by omega)
   ·have hab':¬(b:Int)<a:=by omega
    have e:iD .i64 (bB .i64 (b:Int) 1) 2=(((b-1)/2:Nat):Int):=by rw[eL (by omega) (by omega),kU (by omega) (by omega) (by omega)];omega
    simp only[K1,bX,Int.reduceEq,h',hab',e];rw[jb hab];exact ih n a _ (by omega) ha (by omega) (by omega)
theorem qA(hL:1099511627776<=L)(a b:Int):ev E L (D+2) 229 [.int .i64 a,.int .i64 b] []=some (.int .i64 (treMeet a b),[]):=by
 rw[ahB];by_cases h:fN a
 ·by_cases h':fN b
  ·obtain⟨h1,h2⟩:=id h;obtain⟨h3,h4⟩:=id h';simp only[K1,aY,h1,h2,h3,h4,bX,Int.reduceNeg];rw[treMeet,jd ⟨h,h'⟩];obtain⟨x,rfl⟩:∃k:Nat,a=k:=⟨a.toNat,by omega⟩
   obtain⟨y,rfl⟩:∃k:Nat,b=k:=⟨b.toNat,by omega⟩
   exact QY L (D+1) 30 L x y (by omega) (by omega) (by omega) (by omega)
  ·obtain⟨h1,h2⟩:=id h;have h3:¬(0<=b/\b<=14):=h';simp only[K1,aY,h1,h2,h3,bX,Int.reduceNeg];simp[treMeet,h']
 ·have h3:¬(0<=a/\a<=14):=h;simp only[K1,aY,h3,bD,bX,Int.reduceNeg];simp[treMeet,h]
theorem abG:ev E L (D+1) 157 [] []=some (.agg [.own (treNew.map rS)],[]):=by
 rw[agK];simp(disch:=omega) only[K1,bJ,bX,Int.reduceLE,↓aB,aJ]
 rfl
theorem abH(hL:1099511627776<=L)(ks:List S)(h15:ks.length=15):∀(n k:Nat),15-k<n->k<=15->tT L (D+305) n (ks.map rS) k=some (.bool ((ks.drop k).all fun k=>decide (k=[])||isKey k),[]):=by
 intro n;induction n with
 |zero=>intro k h;omega
 |succ n ih=>
  intro k hn hk;rw[HG];by_cases h:k<15
  ·have h':(k:Int)<15:=by omega
   have e:=ih (k+1) (by omega) (by omega)
   have ha:aG .i64 (k:Int) 1=((k+1:Nat):Int):=aO k (by omega)
   rw[cO ks k (by omega)]
   simp(disch:=omega) only[K1,bD,iH,bX,h',bQ,rS,bC _ _ hL,ha,e,va];generalize ix ks (k:Int)=x;by_cases hx:x=[]
   ·subst hx;simp
   ·rw[jd (by simpa using hx)]
    by_cases hs:secOk x=true
    ·obtain⟨t,ht⟩:=qt.1 (show(sec x).isSome=true from hs)
     rw[jd (by simpa using hs),dC _ _ hL x t ht]
     simp only[K1,Nat.reduceAdd,gK];have hm:bK x=t.how:=by unfold bK;rw[ht]
     unfold isKey;rw[hm];by_cases h3:t.how.op=3
     ·simp[h3,hx]
     ·simp[h3,hx]
    ·rw[jb (by simpa using hs)]
     have:(bK x).op=0:=jR.2 (by simpa using hs)
     simp[hx,isKey,this]
  ·have h':¬(k:Int)<15:=by omega
   simp only[K1,bD,iH,bX,h'];rw[jm (by omega)];rfl
theorem fK(hL:1099511627776<=L)(ks:List S):ev E L (D+306) 263 [.agg [.sl (ks.map rS)]] []=some (.bool (treOk ks),[]):=by
 rw[ahI];by_cases h:ks.length=15
 ·have h':(ks.length:Int)=15:=by omega
  simp only[K1,bX,↓aB,h'];have:=abH L D hL ks h L 0 (by omega) (by omega)
  rw[show((0:Nat):Int)=0 from rfl,kw]at this
  rw[this];simp[treOk,h]
 ·have h':¬(ks.length:Int)=15:=by omega
  simp only[K1,bX,h'];simp[treOk,h]
end
end Kw.Sp
namespace Kw.Sp
open Go Go.Proofs
section
variable (L D:Nat)
theorem ups_rng:∀(i:Nat),i<=14->∀x∈ups i,0<=x/\x<=14:=by
 intro i;induction i using Nat.strongRecOn with
 |ind i ih=>
  intro hi x hx;rw[ups]at hx;split at hx
  ·simp at hx
  ·rcases kh.1 hx with e|hx
   ·subst e;omega
   ·exact ih _ (by omega) (by omega) x hx
theorem kM(n:Int):∀x∈cF n,0<=x/\x<=14:=by
 unfold cF;split
 ·rename_i h;exact ups_rng _ (by have:=h.1;have:=h.2;omega)
 ·simp
theorem K7:∀(i:Nat),(ups i).length<=i:=by
 intro i;induction i using Nat.strongRecOn with
 |ind i ih=>
  rw[ups];split
  ·simp
  ·have:=ih ((i-1)/2) (by omega)
   simp;omega
theorem dK(n:Int):(cF n).length<=14:=by
 unfold cF;split
 ·rename_i h;have:=K7 n.toNat;have:=h.1;have:=h.2;omega
 ·simp
theorem uE(ks:List S)(h:ks.length<=1000000000000):ev E L (D+1) 170 [.agg [.sl (ks.map rS)]] []=some (.agg [.own (ks.map rS)],[]):=by
 rw[agX];simp(disch:=omega) only[K1,bJ,bX,gF,bF,↓aB,fF,aJ]
theorem QZ(hL:1099511627776<=L)(r1:List Row)(i3:Int)(up:List Int)(hup:∀x∈up,0<=x/\x<=14)(hl:up.length<=100):∀(n k:Nat) (ks:List S),up.length-k<n->k<=up.length->ks.length=15->
 zN L D n (ks.map rS) r1 ks.length i3 (up.map rI) k=some (.agg [.own (((up.drop k).foldl (fun ks n=>ks.set n.toNat []) ks).map rS)],[]):=by
 intro n;induction n with
 |zero=>intro k ks h;omega
 |succ n ih=>
  intro k ks hn hk h15;rw[HV];by_cases h:k<up.length
  ·have h':(k:Int)<up.length:=by omega
   rw[cO up k h];obtain⟨x0,x1⟩:=hup (ix up (k:Int)) (by rw[aZ up k h];exact jr h)
   have h2:ix up (k:Int)<ks.length:=by omega
   simp(disch:=omega) only[K1,bX,Int.reduceLE,↓aB,nJ,nK,iG,D1,bQ,eK,bR,h',aO];have:=ih (k+1) (ks.set (ix up (k:Int)).toNat []) (by omega) (by omega) (by simp;exact h15)
   rw[kf]at this;rw[this];rfl
  ·have h':¬(k:Int)<up.length:=by omega
   simp only[K1,bX,↓aB,h'];rw[jm (by omega)];rfl
theorem w5{w:Int}(h:aR w):treLeaf w=7+w:=jd h
theorem OJ(l:List Int):∀ks:List S,(l.foldl (fun ks n=>ks.set n.toNat []) ks).length=ks.length:=by
 induction l with
 |nil=>intro;rfl
 |cons a l ih=>intro ks;rw[List.foldl_cons,ih];simp
theorem clr_len(ks:List S)(w:Int):(clr ks w).length=ks.length:=OJ _ _
theorem vJ(hL:1099511627776<=L)(ks:List S)(h15:ks.length=15)(w:Int)(hw:aR w):ev E L (D+3) 294 [.agg [.own (ks.map rS)],.int .i64 w] []=some (.agg [.own ((clr ks w).map rS)],[]):=by
 rw[ahZ];obtain⟨h1,h2⟩:=id hw;have e:=w5 hw;have hlt:(7+w:Int)<ks.length:=by omega
 simp(disch:=omega) only[K1,bV,vH _ _ hL,bX,Int.reduceLE,↓aB,nJ,nK,iG,D1,bQ,e];have:=QZ L (D+2) hL [] 0 (cF (7+w)) (kM _) (by have:=dK (7+w);omega) L 0 (ks.set (7+w).toNat []) (by have:=dK (7+w);omega) (by omega) (by simp;exact h15)
 rw[kf]at this;rw[show((0:Nat):Int)=0 from rfl]at this
 rw[this,kw];unfold clr pathOf;rw[e];rfl
theorem abI(hL:1099511627776<=L)(r1:List Row)(i3:Int)(up:List Int)(hup:∀x∈up,0<=x/\x<=14)(hl:up.length<=100):∀(n k:Nat) (ks:List S) (s:S),up.length-k<n->k<=up.length->ks.length=15->
 y9 L (D+307) n (ks.map rS) r1 ks.length i3 (bs s) (up.map rI) k=some (.agg [.own ((lM (up.drop k) (makNext s) ks).map rS)],[]):=by
 intro n;induction n with
 |zero=>intro k ks s h;omega
 |succ n ih=>
  intro k ks s hn hk h15;rw[G5];by_cases h:k<up.length
  ·have h':(k:Int)<up.length:=by omega
   rw[cO up k h];obtain⟨x0,x1⟩:=hup (ix up (k:Int)) (by rw[aZ up k h];exact jr h)
   have h2:ix up (k:Int)<ks.length:=by omega
   simp(disch:=omega) only[K1,bX,Int.reduceLE,↓aB,nJ,nK,iG,D1,bQ,eK,bR,h',aO,pZ _ _ hL,eT _ _ hL];have:=ih (k+1) (ks.set (ix up (k:Int)).toNat (makKey (makNext s))) (makNext s) (by omega) (by omega) (by simp;exact h15)
   rw[kf]at this;rw[this];rfl
  ·have h':¬(k:Int)<up.length:=by omega
   simp only[K1,bX,↓aB,h'];rw[jm (by omega)];rfl
theorem JF:∀(l:List Int) (s:S) (ks:List S),(lM l s ks).length=ks.length
 |[],_,_=>rfl
 |_::l,s,ks=>by rw[lM,JF l];simp
theorem LE(hL:1099511627776<=L)(ks:List S)(h15:ks.length=15)(w:Int)(hw:aR w)(s:S):ev E L (D+308) 156 [.agg [.own (ks.map rS)],.int .i64 w,.str (bs s)] []=some (.agg [.own ((vO ks w s).map rS)],[]):=by
 rw[agJ];obtain⟨h1,h2⟩:=id hw;have e:=w5 hw;have hlt:(7+w:Int)<ks.length:=by omega
 simp(disch:=omega) only[K1,bV,vH _ _ hL,eT _ _ hL,bX,Int.reduceLE,↓aB,nJ,nK,iG,D1,bQ,e];have:=abI L D hL [] 0 (cF (7+w)) (kM _) (by have:=dK (7+w);omega) L 0 (ks.set (7+w).toNat (makKey s)) s (by have:=dK (7+w);omega) (by omega) (by simp;exact h15)
 rw[kf]at this;rw[show((0:Nat):Int)=0 from rfl]at this
 rw[this,kw];unfold vO pathOf;rw[e];rfl
theorem W2(hL:1099511627776<=L)(up:List Int)(hl:up.length<=100):∀(n k:Nat) (acc:List Own) (s:S),up.length-k<n->k<=up.length->acc.length+up.length-k<=1000->
 zA L (D+307) n (acc.map rO) (bs s) acc.length (up.map rI) k=some (.sl ((acc++pathGo (up.drop k) (makNext s)).map rO),[]):=by
 intro n;induction n with
 |zero=>intro k acc s h;omega
 |succ n ih=>
  intro k acc s hn hk hb;rw[G6];by_cases h:k<up.length
  ·have h':(k:Int)<up.length:=by omega
   rw[cO up k h];simp(disch:=omega) only[K1,jt,bJ,aW,bX,Nat.reduceAdd,mS,bS,bF,↓aB,eK,bR,OV,h',aO,pZ _ _ hL,aJ];have:=ih (k+1) (acc++[⟨ix up (k:Int),makNext s⟩]) (makNext s) (by omega) (by omega) (by simp;omega)
   rw[this];simp[pathGo]
  ·have h':¬(k:Int)<up.length:=by omega
   rw[show iLt (k:Int) (nrows (up.map rI))=false from by simpa using h',aD,show iEq (acc.length:Int) (nrows (acc.map rO))=true from by simp,aC,jm (by omega)];simp[pathGo]
theorem nZ(hL:1099511627776<=L)(n:Int)(s:S):ev E L (D+308) 158 [.int .i64 n,.str (bs s)] []=some (.sl ((cD n s).map rO),[]):=by
 rw[agL];simp only[K1,vH _ _ hL,Nat.reduceAdd,XN];have hh:=dK n;have:=W2 L D hL (cF n) (by omega) L 0 [⟨n,s⟩] s (by omega) (by omega) (by simp;omega)
 exact this
theorem abJ(b:Bool)(w e:Int)(kr:List Row)(own:List Own)(i t:ByteArray)(node:Int)(hl:own.length<=1000000):∀(n k:Nat),own.length-k<n->k<=own.length->
 zG L D n b w kr (own.map rO) e i t node k=some (.str (bs (eB (own.drop k) node)),[]):=by
 intro n;induction n with
 |zero=>intro k h;omega
 |succ n ih=>
  intro k hn hk;rw[HL];by_cases h:k<own.length
  ·have h':(k:Int)<own.length:=by omega
   rw[cO own k h];simp(disch:=omega) only[K1,bX,GN,vM,eD,h',aO,ih (k+1) (by omega) (by omega)]
   unfold eB;rw[vk];by_cases hx:(ix own (k:Int)).node=node
   ·have hb:((ix own (k:Int)).node==node)=true:=by simpa using hx
    simp[hx]
   ·have hb:((ix own (k:Int)).node==node)=false:=by simpa using hx
    simp[hx,hb]
  ·have h':¬(k:Int)<own.length:=by omega
   simp only[K1,bX,h'];rw[jm (by omega)];rfl
theorem DH(hL:1099511627776<=L)(b:Bool)(w e:Int)(kr:List Row)(own:List Own)(i t:ByteArray)(node:Int)(hl:own.length<=1000000):ev E L (D+1) 270 [.agg [.bool b,.int .i64 w,.sl kr,.sl (own.map rO),.int .i64 e,.str i,.str t],.int .i64 node] []=some (.str (bs (eB own node)),[]):=by
 rw[ahP];exact abJ L D b w e kr own i t node hl L 0 (by omega) (by omega)
theorem adN(l:List Int)(x:Int)(hl:l.length<=1000000):∀(n k:Nat),l.length-k<n->k<=l.length->
 zM L D n (l.map rI) x k=some (.bool (decide (x∈l.drop k)),[]):=by
 intro n;induction n with
 |zero=>intro k h;omega
 |succ n ih=>
  intro k hn hk;rw[HT];by_cases h:k<l.length
  ·have h':(k:Int)<l.length:=by omega
   rw[cO l k h];simp(disch:=omega) only[K1,bX,eK,bR,h',aO,ih (k+1) (by omega) (by omega)]
   by_cases hx:ix l (k:Int)=x
   ·simp[hx]
   ·simp[hx,Ne.symm hx]
  ·have h':¬(k:Int)<l.length:=by omega
   simp only[K1,bX,h'];rw[jm (by omega)];simp
theorem Q0(hL:1099511627776<=L)(l:List Int)(x:Int)(hl:l.length<=1000000):ev E L (D+1) 278 [.sl (l.map rI),.int .i64 x] []=some (.bool (decide (x∈l)),[]):=by
 rw[ahX];exact adN L D l x hl L 0 (by omega) (by omega)
end
end Kw.Sp
namespace Kw.Sp
open Go Go.Proofs
section
variable (L D:Nat)
theorem e9{w:Int}(h:aR w):7<=treLeaf w/\treLeaf w<=14:=by rw[w5 h];have:=h.1;have:=h.2;omega
theorem pathOf_rng{w:Int}(h:aR w):∀x∈pathOf w,0<=x/\x<=14:=by
 intro x hx;rcases kh.1 hx with e|hx
 ·subst e;have:=e9 h;omega
 ·exact kM _ x hx
theorem fI(w:Int):(pathOf w).length<=15:=by have:=dK (treLeaf w);simp[pathOf];omega
theorem W3(hL:1099511627776<=L)(w e:Int)(hw:aR w)(ks:List S)(h15:ks.length=15)(own:List Own)(i t:S)(hl:own.length<=1000000)(b:Bool):∀(n k:Nat),own.length-k<n->k<=own.length->
 tU L (D+307) n b w (ks.map rS) (own.map rO) e (bs i) (bs t) (treLeaf w) k=some (.bool ((List.range' k (own.length-k)).all (mM ⟨true,w,ks,own,e,i,t⟩)),[]):=by
 intro n;induction n with
 |zero=>intro k h;omega
 |succ n ih=>
  intro k hn hk;rw[HH];by_cases h:k<own.length
  case neg=>
   have h':¬(k:Int)<own.length:=by omega
   simp only[K1,bD,iH,kT,dE,bX,Int.reduceLE,mS,h'];rw[show own.length-k=0 by omega];rfl
  have h':(k:Int)<own.length:=by omega
  have hle:(k:Int)<=own.length:=by omega
  have hk0:(0:Int)<=(k:Int):=by omega
  have e1:=ih (k+1) (by omega) (by omega)
  rw[show own.length-k=(own.length-(k+1))+1 by omega,List.range'_succ,va]
  have hX:mM ⟨true,w,ks,own,e,i,t⟩ k=(decide ((ix own k).node∈pathOf w)&&(secOk (ix own k).sec&&(decide (ix ks (ix own k).node≠[])&&(decide (ix ks (ix own k).node=makKey (ix own k).sec)&&decide (eB (own.take k) (ix own k).node=[]))))):=rfl;rw[hX];simp(disch:=omega) only[K1,bD,iH,dR,kT,dE,Int.reduceLE,ki,mS,GN,vM,aj5,eD,h',aO,vH _ _ hL,bC _ _ hL];generalize ix own (k:Int)=o;have hup:=Q0 L (D+306) hL (cF (treLeaf w)) o.node (by have:=dK (treLeaf w);omega)
  have hmem:o.node∈pathOf w↔o.node=treLeaf w\/o.node∈cF (treLeaf w):=kh;by_cases hm:o.node∈pathOf w
  case neg=>
   have h1:¬o.node=treLeaf w:=fun e=>hm (hmem.2 (.inl e))
   have h2:¬o.node∈cF (treLeaf w):=fun e=>hm (hmem.2 (.inr e))
   simp only[K1,not_false_eq_true,h1,hup,h2,hm];simp
  obtain⟨x0,x1⟩:=pathOf_rng hw _ hm;have hlt:o.node<ks.length:=by omega
  have hown:=DH L (D+306) hL false 0 0 [] (own.take k) (bs []) (bs []) o.node (by simp;omega)
  have key:∀X:Option Res,br (decide ¬o.node=treLeaf w) (bnd (ev E L (D+307) 278 [.sl ((cF (treLeaf w)).map rI),.int .i64 o.node] []) fun r=>bnd (mA r.1) fun b=>br b X (some (.bool false,[]))) X=X:=fun X=>by
   by_cases h1:o.node=treLeaf w
   ·simp only[K1,not_true_eq_false,h1]
   ·have h2:o.node∈cF (treLeaf w):=(hmem.1 hm).resolve_left h1;simp only[K1,not_false_eq_true,h1,hup,h2]
  rw[key];by_cases hs:secOk o.sec=true
  case neg=>simp only[K1,bX,hs,hm];simp[hs]
  by_cases hk1:ix ks o.node=[]
  ·simp(disch:=omega) only[K1,bX,↓cW,eU,bQ,hs,hk1];simp
  by_cases hk2:ix ks o.node=makKey o.sec
  case neg=>
   simp(disch:=omega) only[K1,bX,eU,bQ,hs,hk1,eT _ _ hL,hk2];simp
  have hk3:¬makKey o.sec=[]:=hk2▸hk1;by_cases ho:eB (own.take k) o.node=[]
  ·simp(disch:=omega) only[K1,bX,↓cW,eU,bQ,hs,eT _ _ hL,hk2,hk3,hle,hk0,kw,Int.toNat_zero,hown,ho,e1,hm];simp[hk3]
  ·simp(disch:=omega) only[K1,bX,↓cW,eU,bQ,hs,eT _ _ hL,hk2,hk3,hle,hk0,kw,Int.toNat_zero,hown,ho,hm];simp
theorem uF(hL:1099511627776<=L)(b:Bool)(w e:Int)(hw:aR w)(ks:List S)(h15:ks.length=15)(own:List Own)(i t:S)(hl:own.length<=1000000):ev E L (D+308) 264 [.agg [.bool b,.int .i64 w,.sl (ks.map rS),.sl (own.map rO),.int .i64 e,.str (bs i),.str (bs t)]] []=some (.bool (fitsAll ⟨true,w,ks,own,e,i,t⟩),[]):=by
 rw[ahJ];simp only[K1,bV];have:=W3 L D hL w e hw ks h15 own i t hl b L 0 (by omega) (by omega)
 rw[show((0:Nat):Int)=0 from rfl]at this
 rw[this];unfold fitsAll;rw[List.range_eq_range'];rfl
theorem abK(hL:1099511627776<=L)(w e:Int)(hw:aR w)(ks:List S)(h15:ks.length=15)(own:List Own)(i t:S)(hl:own.length<=1000000)(b:Bool)(path:List Int)(hp:∀x∈path,0<=x/\x<=14)(hpl:path.length<=100):∀(n k:Nat),path.length-k<n->k<=path.length->
 tV L (D+1) n (path.map rI) b w (ks.map rS) (own.map rO) e (bs i) (bs t) (treLeaf w) path.length k=some (.bool (((path.drop k).all fun n=>decide (ix ks n=[])||decide (eB own n≠[]))&&decide (ix ks (treLeaf w)≠[])),[]):=by
 intro n;induction n with
 |zero=>intro k h;omega
 |succ n ih=>
  intro k hn hk;rw[HI];obtain⟨g1,g2⟩:=e9 hw;have glt:treLeaf w<ks.length:=by omega
  by_cases h:k<path.length
  case neg=>
   have h':¬(k:Int)<path.length:=by omega
   simp(disch:=omega) only[K1,bD,bX,↓aB,eU,bQ,h'];rw[jm (by omega)];simp
  have h':(k:Int)<path.length:=by omega
  have e1:=ih (k+1) (by omega) (by omega)
  rw[cO path k h,va];obtain⟨x0,x1⟩:=hp (ix path (k:Int)) (by rw[aZ path k h];exact jr h)
  have hlt:ix path (k:Int)<ks.length:=by omega
  have hown:=DH L D hL b w e (ks.map rS) own (bs i) (bs t) (ix path (k:Int)) hl;by_cases hk1:ix ks (ix path (k:Int))=[]
  ·simp(disch:=omega) only[K1,bD,bX,↓aB,↓cW,eU,bQ,eK,cG,bR,h',aO,hk1,e1];simp
  ·by_cases ho:eB own (ix path (k:Int))=[]
   ·simp(disch:=omega) only[K1,bD,bX,↓aB,↓cW,eU,bQ,eK,cG,bR,h',aO,hk1,hown,ho];simp
   ·simp(disch:=omega) only[K1,bD,bX,↓aB,eU,bQ,eK,cG,bR,h',aO,hk1,hown,ho,e1];simp[ho]
theorem DI(hL:1099511627776<=L)(b:Bool)(w e:Int)(hw:aR w)(ks:List S)(h15:ks.length=15)(own:List Own)(i t:S)(hl:own.length<=1000000):ev E L (D+3) 265 [.agg [.bool b,.int .i64 w,.sl (ks.map rS),.sl (own.map rO),.int .i64 e,.str (bs i),.str (bs t)]] []=some (.bool (tB ⟨true,w,ks,own,e,i,t⟩),[]):=by
 rw[ahK];have hlen:=dK (treLeaf w);simp(disch:=omega) only[K1,bV,vH _ _ hL,bJ,eG,bX,Nat.reduceAdd,jE,↓aB,H9,aJ];have:=abK L (D+1) hL w e hw ks h15 own i t hl b (pathOf w) (pathOf_rng hw) (by have:=fI w;omega) L 0 (by have:=fI w;omega) (by omega)
 rw[show((0:Nat):Int)=0 from rfl]at this
 exact this
theorem amD{A:Type}(l:List A):((l.length:Int)=0)↔l=[]:=by rw[show((l.length:Int)=0)↔l.length=0 by omega];exact vt
theorem eM{ks:List S}(h:treOk ks=true):ks.length=15:=by
 unfold treOk at h;simp only[jf,ja]at h;exact h.1
theorem d9(hL:1099511627776<=L)(b:Bool)(w e:Int)(ks:List S)(own:List Own)(i t:S)(hl:own.length<=1000000):ev E L (D+309) 220 [.agg [.bool b,.int .i64 w,.sl (ks.map rS),.sl (own.map rO),.int .i64 e,.str (bs i),.str (bs t)]] []=some (.bool (memOk ⟨b,w,ks,own,e,i,t⟩),[]):=by
 rw[ah2];unfold memOk;cases b with
 |false=>
  simp only[K1,bX,amD];by_cases h1:w=0
  case neg=>simp[h1]
  by_cases h2:ks=[]
  case neg=>simp[h2]
  by_cases h3:own=[]
  case neg=>simp[h3]
  by_cases h4:e=0
  case neg=>simp[h4]
  by_cases h5:i=[]
  case neg=>simp[h5]
  simp[h1,h2,h3,h4,h5]
 |true=>
  simp only[K1,bX,vm,aY];by_cases h1:aR w
  case neg=>
   have:¬(0<=w/\w<=7):=h1;simp only[ql,this];simp[h1]
  obtain⟨h1a,h1b⟩:=id h1;by_cases h2:treOk ks=true
  case neg=>simp only[K1,h1a,h1b,fK _ _ hL,h2];simp[h2]
  have h15:=eM h2;by_cases h3:fitsAll ⟨true,w,ks,own,e,i,t⟩=true
  case neg=>simp only[K1,h1a,h1b,fK _ _ hL,h2,uF _ _ hL true w e h1 ks h15 own i t hl,h3];simp[h3]
  by_cases h4:tB ⟨true,w,ks,own,e,i,t⟩=true
  case neg=>simp only[K1,h1a,h1b,fK _ _ hL,h2,uF _ _ hL true w e h1 ks h15 own i t hl,h3,DI _ _ hL true w e h1 ks h15 own i t hl,h4];simp[h4]
  by_cases h5:0<=e/\e<=12
  case neg=>simp only[K1,h1a,h1b,fK _ _ hL,h2,uF _ _ hL true w e h1 ks h15 own i t hl,h3,DI _ _ hL true w e h1 ks h15 own i t hl,h4,h5];simp[h5]
  obtain⟨h5a,h5b⟩:=id h5;by_cases h6:secOk i=true
  case neg=>simp only[K1,h1a,h1b,fK _ _ hL,h2,uF _ _ hL true w e h1 ks h15 own i t hl,h3,DI _ _ hL true w e h1 ks h15 own i t hl,h4,h5a,h5b,bC _ _ hL,h6];simp[h6]
  simp only[K1,h1a,h1b,fK _ _ hL,h2,uF _ _ hL true w e h1 ks h15 own i t hl,h3,DI _ _ hL true w e h1 ks h15 own i t hl,h4,h5a,h5b,bC _ _ hL,h6];simp[h1];omega
end
end Kw.Sp
namespace Kw.Sp
open Go Go.Proofs
section
variable (L D:Nat)
theorem OK{s:S}(h:¬secOk s=true):isKey s=false:=by
 have:(bK s).op=0:=jR.2 (by simpa using h)
 simp[isKey,this]
theorem l8(hL:1099511627776<=L)(s:S):ev E L (D+306) 266 [.str (bs s)] []=some (.bool (isKey s),[]):=by
 rw[ahL];by_cases hs:secOk s=true
 ·obtain⟨t,ht⟩:=qt.1 (show(sec s).isSome=true from hs)
  simp only[K1,Nat.reduceAdd,bC _ _ hL,hs,dC _ _ hL s t ht,gK];unfold isKey bK;rw[ht]
 ·simp only[K1,bC _ _ hL,hs];rw[OK hs]
theorem w6(ks:List S):∀(f n:Nat),n<=14->∀x∈coverN f ks n,0<=x/\x<=14
 |0,_,_,x,hx=>by simp[coverN]at hx
 |f+1,n,hn,x,hx=>by
  rw[coverN]at hx;split at hx
  ·simp at hx;subst hx;omega
  split at hx
  ·simp at hx
  ·rcases jy.1 hx with h|h
   ·exact w6 ks f _ (by omega) x h
   ·exact w6 ks f _ (by omega) x h
theorem lV(ks:List S):∀(f n:Nat),(coverN f ks n).length<=2^f
 |0,_=>by simp[coverN]
 |f+1,n=>by
  rw[coverN];have hp:1<=2^(f+1):=Nat.pow_pos (by omega)
  split
  ·simpa using hp
  split
  ·simp
  ·have h1:=lV ks f (2*n+1);have h2:=lV ks f (2*n+2);rw[jk,Nat.pow_succ];omega
theorem w7(ks:List S)(h15:ks.length=15):∀(f n D:Nat),n<=14->16<=(n+1)*2^f->f<=10->ev E L (D+f) 295 [.agg [.sl (ks.map rS)],.int .i64 n] []=some (.own ((coverN f ks n).map rI),[])
 |0,n,D,h,h',_=>by simp at h';omega
 |f+1,n,D,h,h',hf=>by
  rw[show D+(f+1)=(D+f)+1 by omega,ai0,coverN]
  by_cases hk:ix ks (n:Int)=[]
  ·rw[jb (by simpa using hk)]
   by_cases h7:7<=n
   ·have h7':(7:Int)<=n:=by omega
    simp(disch:=omega) only[K1,↓aB,↓cW,eU,bQ,hk,h7'];rw[jd h7];rfl
   ·have h7':¬(7:Int)<=n:=by omega
    rw[jb h7];have e1:aG .i64 (l9 .i64 2 (n:Int)) 1=((2*n+1:Nat):Int):=by rw[EE (by omega) (by omega),bT (by omega) (by omega)];omega
    have e2:aG .i64 (l9 .i64 2 (n:Int)) 2=((2*n+2:Nat):Int):=by rw[EE (by omega) (by omega),bT (by omega) (by omega)];omega
    rw[Nat.pow_succ]at h';have p1:16<=(2*n+1+1)*2^f:=by rw[show 2*n+1+1=(n+1)*2 by omega,Nat.mul_assoc,vv 2];exact h'
    have p2:16<=(2*n+2+1)*2^f:=ku p1 (qh _ (by omega))
    have l1:=lV ks f (2*n+1);have l2:=lV ks f (2*n+2);have l3:2^f<=2^10:=Nat.pow_le_pow_right (by omega) (by omega)
    simp(disch:=omega) only[K1,bJ,eG,jE,↓aB,↓cW,eU,bQ,hk,h7',e1,e2,w7 ks h15 f (2*n+1) D (by omega) p1 (by omega),w7 ks h15 f (2*n+2) D (by omega) p2 (by omega),aJ]
  ·rw[jd (by simpa using hk)]
   simp(disch:=omega) only[K1,Nat.reduceAdd,↓aB,eU,bQ,hk,H9]
theorem W4(ks:List S)(h15:ks.length=15)(n:Int)(h:fN n):ev E L (D+5) 295 [.agg [.sl (ks.map rS)],.int .i64 n] []=some (.own ((kA ks n).map rI),[]):=by
 obtain⟨h1,h2⟩:=h;obtain⟨k,rfl⟩:∃k:Nat,n=k:=⟨n.toNat,by omega⟩
 exact w7 L ks h15 5 k D (by omega) (by omega) (by omega)
theorem DJ(hL:1099511627776<=L)(b:Bool)(w e:Int)(ks:List S)(h15:b=true->ks.length=15)(own:List Own)(i t:S)(add remove:Int)(leaf key:S):ev E L (D+307) 222 [.agg [.bool b,.int .i64 w,.sl (ks.map rS),.sl (own.map rO),.int .i64 e,.str (bs i),.str (bs t)],.int .i64 add,.int .i64 remove,.str (bs leaf),.str (bs key)] []=some (.bool (may ⟨b,w,ks,own,e,i,t⟩ add remove leaf key),[]):=by
 rw[ah4];unfold may;cases b with
 |false=>simp only[K1];simp
 |true=>
  have h15:=h15 rfl;by_cases h1:12<=e
  ·have:¬e<12:=by omega
   simp only[K1,h1];simp[this]
  have h1':e<12:=by omega
  by_cases h2: -1<=add/\add<=7
  case neg=>
   have hs:¬(e<12/\cN add w/\cN remove w):=fun⟨_,⟨x,y,_⟩,_⟩=>h2 ⟨x,y⟩
   simp only[K1,Int.reduceNeg,h1,aY,h2];simp[hs]
  obtain⟨h2a,h2b⟩:=id h2;by_cases h3: -1<=remove/\remove<=7
  case neg=>
   have hs:¬(e<12/\cN add w/\cN remove w):=fun⟨_,_,⟨x,y,_⟩⟩=>h3 ⟨x,y⟩
   simp only[K1,Int.reduceNeg,h1,aY,h2a,h2b,h3];simp[hs]
  obtain⟨h3a,h3b⟩:=id h3;by_cases h4:add=w
  ·have hs:¬(e<12/\cN add w/\cN remove w):=fun⟨_,⟨_,_,z⟩,_⟩=>z h4
   have d1:decide (-1<=add/\add<=7)=true:=jc h2;have d2:decide (-1<=remove/\remove<=7)=true:=jc h3;have d3:decide (add=w)=true:=jc h4;simp only[hs];simp only[aA,dR,iH,aC,aD,aI,cH,h1,decide_false,aY,d1,d2,cK,d3,wd,Bool.and_false]
  by_cases h5:remove=w
  ·have hs:¬(e<12/\cN add w/\cN remove w):=fun⟨_,_,⟨_,_,z⟩⟩=>z h5
   have d1:decide (-1<=add/\add<=7)=true:=jc h2;have d2:decide (-1<=remove/\remove<=7)=true:=jc h3;have d3:decide (remove=w)=true:=jc h5;have d4:decide (add=w)=false:=jh h4;simp only[hs];simp only[aA,dR,iH,aC,aD,aI,cH,h1,decide_false,aY,d1,d2,cK,d3,d4,wd,Bool.and_false]
  have hs:(e<12/\cN add w/\cN remove w):=⟨h1',⟨h2a,h2b,h4⟩,⟨h3a,h3b,h5⟩⟩;have hadd:0<=add->0<=treLeaf add/\treLeaf add<ks.length:=fun h=>by
   have:=e9 (w:=add) ⟨h,h2b⟩;omega
  have hrem:0<=remove->0<=treLeaf remove/\treLeaf remove<ks.length:=fun h=>by
   have:=e9 (w:=remove) ⟨h,h3b⟩;omega
  simp only[hs,jw];unfold changes twoKeys;by_cases h6:0<=remove
  ·obtain⟨r1,r2⟩:=hrem h6;have h6':¬remove<0:=by omega
   by_cases h7:ix ks (treLeaf remove)=[]
   ·simp(disch:=omega) only[K1,Int.reduceNeg,↓cW,eU,bQ,h1,aY,h2a,h2b,h3a,h3b,h4,h5,h6,bV,h7,h6',hasLeaf];simp
   by_cases h8:add<0
   ·by_cases l0:leaf=[]
    ·simp(disch:=omega) only[K1,true_and,Int.reduceNeg,↓cW,eU,bQ,h1,aY,h2a,h2b,h3a,h3b,h4,h5,h6,bV,h7,h6',hasLeaf,h8,l0];simp[h7]
    ·simp(disch:=omega) only[K1,wt,Int.reduceNeg,eU,bQ,h1,aY,h2a,h2b,h3a,h3b,h4,h5,h6,bV,h7,h6',hasLeaf,h8,l0];simp[h7]
   obtain⟨a1,a2⟩:=hadd (by omega)
   by_cases h9:ix ks (treLeaf add)=[]
   ·simp(disch:=omega) only[K1,bD,Int.reduceNeg,↓cW,eU,bQ,h1,aY,h2a,h2b,h3a,h3b,h4,h5,h6,bV,h7,h6',hasLeaf,h8,h9,l8 _ _ hL];cases isKey leaf<;>cases isKey key<;>simp[br,h7]
   by_cases h10:add=remove
   ·simp(disch:=omega) only[K1,bD,Int.reduceNeg,eU,bQ,h1,aY,h2a,h2b,h3a,h3b,h4,h5,h6,bV,h7,h6',hasLeaf,h8,h9,l8 _ _ hL,jc h10];cases isKey leaf<;>cases isKey key<;>simp[br,h7]
   ·simp(disch:=omega) only[K1,Int.reduceNeg,eU,bQ,h1,aY,h2a,h2b,h3a,h3b,h4,h5,h6,bV,h7,h6',hasLeaf,h8,h9,h10];simp[h7,h9]
  ·have h6':remove<0:=by omega
   by_cases h8:add<0
   ·by_cases l0:leaf=[]
    ·simp(disch:=omega) only[K1,true_and,Int.reduceNeg,↓cW,h1,aY,h2a,h2b,h3a,h3b,h4,h5,h6,h6',hasLeaf,h8,l0];simp
    ·simp(disch:=omega) only[K1,wt,Int.reduceNeg,h1,aY,h2a,h2b,h3a,h3b,h4,h5,h6,h6',hasLeaf,h8,l0];simp
   obtain⟨a1,a2⟩:=hadd (by omega)
   have h10:¬add=remove:=by omega
   by_cases h9:ix ks (treLeaf add)=[]
   ·simp(disch:=omega) only[K1,bD,Int.reduceNeg,↓cW,eU,bQ,h1,aY,h2a,h2b,h3a,h3b,h4,h5,h6,bV,h6',hasLeaf,h8,h9,l8 _ _ hL];cases isKey leaf<;>cases isKey key<;>simp[br]
   ·simp(disch:=omega) only[K1,Int.reduceNeg,eU,bQ,h1,aY,h2a,h2b,h3a,h3b,h4,h5,h6,bV,h6',hasLeaf,h8,h9,h10];simp[h9]
end
end Kw.Sp
namespace Kw.Sp
open Go Go.Proofs
section
variable (L D:Nat)
def inR(n:Int):Prop:= -1<=n/\n<=7
theorem BB(ks:List S)(add remove:Int)(leaf:S):(baseT ks add remove leaf).length=ks.length:=by
 unfold baseT;simp only;split<;>split<;>simp[clr_len]
theorem GI(hL:1099511627776<=L)(ks:List S)(h15:ks.length=15)(add remove:Int)(leaf:S)(ha:inR add)(hr:inR remove):ev E L (D+4) 267 [.agg [.own (ks.map rS)],.int .i64 add,.int .i64 remove,.str (bs leaf)] []=some (.agg [.own ((baseT ks add remove leaf).map rS)],[]):=by
 rw[ahM];unfold baseT;simp only;by_cases h1:0<=remove
 ·have hw:aR remove:=⟨h1,hr.2⟩;rw[jd h1];have c15:(clr ks remove).length=15:=by rw[clr_len];exact h15
  by_cases h2:0<=add
  ·have hv:aR add:=⟨h2,ha.2⟩;have d15:(clr (clr ks remove) add).length=15:=by rw[clr_len];exact c15
   obtain⟨g1,g2⟩:=e9 hv;have glt:treLeaf add< (clr (clr ks remove) add).length:=by omega
   rw[jd h2];simp(disch:=omega) only[K1,Int.reduceLE,Nat.reduceAdd,↓aB,nJ,nK,iG,D1,bQ,h1,h2,vJ _ _ hL ks h15 remove hw,vJ _ _ hL _ c15 add hv,bV,kf]
  ·rw[jb h2];simp(disch:=omega) only[K1,Nat.reduceAdd,↓aB,h1,h2,vJ _ _ hL ks h15 remove hw]
 ·rw[jb h1];by_cases h2:0<=add
  ·have hv:aR add:=⟨h2,ha.2⟩;have d15:(clr ks add).length=15:=by rw[clr_len];exact h15
   obtain⟨g1,g2⟩:=e9 hv;have glt:treLeaf add< (clr ks add).length:=by omega
   rw[jd h2];simp(disch:=omega) only[K1,Int.reduceLE,Nat.reduceAdd,↓aB,nJ,nK,iG,D1,bQ,h1,h2,vJ _ _ hL ks h15 add hv,bV,kf]
  ·rw[jb h2];simp(disch:=omega) only[K1,↓aB,h1,h2]
theorem W5(ks:List S)(h15:ks.length=15)(own:List Own)(add:Int)(cov:List Int)(hc:∀x∈cov,0<=x/\x<=14)(hcl:cov.length<=100000)(k n3:Nat)(hk:k+1<own.length)(hol:own.length<=100000):∀(n j:Nat) (acc:List Box),cov.length-j<n->j<=cov.length->acc.length+cov.length<=1000000+j->
 nV L (D+5) n n3 (acc.map rB) (cov.map rI) (ks.map rS) (own.map rO) add acc.length k cov.length j=
 tW L (D+5) n3 ((acc++cL ks add (ix own ((k+1:Nat):Int)).sec (cov.drop j)).map rB) (ks.map rS) (own.map rO) add (acc++cL ks add (ix own ((k+1:Nat):Int)).sec (cov.drop j)).length ((k+1:Nat):Int):=by
 intro n;induction n with
 |zero=>intro j acc h;omega
 |succ n ih=>
  intro j acc hn hj hb;rw[HK];by_cases h:j<cov.length
  case neg=>
   have h':¬(j:Int)<cov.length:=by omega
   simp(disch:=omega) only[K1,↓aB,h',aO];rw[jm (by omega)]
   simp[cL]
  have h':(j:Int)<cov.length:=by omega
  obtain⟨x0,x1⟩:=hc (ix cov (j:Int)) (by rw[aZ cov j h];exact jr h)
  have hlt:ix cov (j:Int)<ks.length:=by omega
  rw[cO cov j h];have hk1:aG .i64 (k:Int) 1=((k+1:Nat):Int):=aO k (by omega)
  have hj1:aG .i64 (j:Int) 1=((j+1:Nat):Int):=aO j (by omega)
  have key:∀b:Box,nV L (D+5) n n3 ((acc++[b]).map rB) (cov.map rI) (ks.map rS) (own.map rO) add (acc++[b]).length k cov.length ((j+1:Nat):Int)=_:=fun b=>ih (j+1) (acc++[b]) (by omega) (by omega) (by simp;omega)
  by_cases h1:add<0
  ·have hf:cL ks add (ix own ((k+1:Nat):Int)).sec (ix cov (j:Int)::cov.drop (j+1))=⟨ix ks (ix cov (j:Int)),(ix own ((k+1:Nat):Int)).sec⟩::cL ks add (ix own ((k+1:Nat):Int)).sec (cov.drop (j+1)):=by simp[cL,h1]
   rw[hf];simp(disch:=omega) only[K1,jt,bJ,aW,Nat.reduceAdd,IB,bS,bF,↓aB,eU,bQ,eK,cG,bR,vM,eD,XO,h',h1,hk1,hj1,aJ];rw[key];simp
  ·by_cases h2:ix cov (j:Int)=treLeaf add
   ·have hf:cL ks add (ix own ((k+1:Nat):Int)).sec (ix cov (j:Int)::cov.drop (j+1))=cL ks add (ix own ((k+1:Nat):Int)).sec (cov.drop (j+1)):=by simp[cL,h1,h2]
    rw[hf];have c1:iEq (cov.length:Int) (nrows (cov.map rI))=true:=by simp
    have c2:iLt (j:Int) (nrows (cov.map rI))=true:=by simpa using h'
    have c3:iLt add 0=false:=by simpa using h1
    have c4:=bR (j:Int) cov (by omega) h'
    have c5:=cG cov (j:Int) (by omega) h'
    have c6:iEq (ix cov (j:Int)) (treLeaf add)=true:=by rw[h2];exact aU _
    rw[c1,c2,c3];simp only[aC,bW];rw[c4];simp only[aA];rw[c5];simp only[aA,eK,bL];rw[bV];simp only[aA,bL];rw[c6,hj1];simp only[bI,aD];exact ih (j+1) acc (by omega) (by omega) (by omega)
   ·have hf:cL ks add (ix own ((k+1:Nat):Int)).sec (ix cov (j:Int)::cov.drop (j+1))=⟨ix ks (ix cov (j:Int)),(ix own ((k+1:Nat):Int)).sec⟩::cL ks add (ix own ((k+1:Nat):Int)).sec (cov.drop (j+1)):=by simp[cL,h2]
    rw[hf];simp(disch:=omega) only[K1,jt,bJ,aW,Nat.reduceAdd,IB,bS,bF,↓aB,eU,bQ,eK,cG,bR,vM,eD,XO,h',h1,hk1,hj1,bV,h2,aJ];rw[key];simp
theorem CK(ks:List S)(add:Int)(s:S)(cov:List Int):(cL ks add s cov).length<=cov.length:=by
 unfold cL;rw[kb];exact qz _ _
theorem abL(hL:1099511627776<=L)(ks:List S)(h15:ks.length=15)(own:List Own)(add:Int)(hol:own.length<=1000)(ho:∀k:Nat,k+1<own.length->1<=(ix own (k:Int)).node/\(ix own (k:Int)).node<=14):∀(n k:Nat) (acc:List Box),own.length-k<n->k<=own.length->acc.length+32*(own.length-k)<=100000->
 tW L (D+5) n (acc.map rB) (ks.map rS) (own.map rO) add acc.length k=some (.sl ((acc++boxesGo ks add (own.drop k)).map rB),[]):=by
 intro n;induction n with
 |zero=>intro k acc h;omega
 |succ n ih=>
  intro k acc hn hk hb;rw[HJ];have hk1:aG .i64 (k:Int) 1=((k+1:Nat):Int):=aO k (by omega)
  by_cases h:k+1<own.length
  case neg=>
   have h':¬((k+1:Nat):Int)<own.length:=by omega
   simp(disch:=omega) only[K1,↓aB,h',hk1];have:boxesGo ks add (own.drop k)=[]:=by
    rcases vq k own.length with hl|hl
    ·rw[cO own k hl,jm (by omega)];rfl
    ·rw[jm hl];rfl
   rw[this,jz]
  have h':((k+1:Nat):Int)<own.length:=by omega
  obtain⟨n1,n2⟩:=ho k h;have hs:fN (cC (ix own (k:Int)).node):=by
   unfold cC fN;rw[jd ⟨n1,n2⟩];split<;>omega
  have hcr:∀x∈kA ks (cC (ix own (k:Int)).node),0<=x/\x<=14:=w6 ks 5 _ (by have:=hs.1;have:=hs.2;omega)
  have hcl:(kA ks (cC (ix own (k:Int)).node)).length<=32:=lV ks 5 _;simp(disch:=omega) only[K1,GN,eD,h',hk1,W0,W4 _ _ ks h15 _ hs];have:=W5 L D ks h15 own add _ hcr (by omega) k n h (by omega) L 0 acc (by omega) (by omega) (by omega)
  rw[show((0:Nat):Int)=0 from rfl,kw]at this
  rw[this];have hbl:=CK ks add (ix own ((k+1:Nat):Int)).sec (kA ks (cC (ix own (k:Int)).node));rw[ih (k+1) _ (by omega) (by omega) (by rw[jk];omega)]
  rw[cO own k (by omega),cO own (k+1) h,boxesGo,qy]
theorem W6(hL:1099511627776<=L)(ks:List S)(h15:ks.length=15)(own:List Own)(add:Int)(hol:own.length<=1000)(ho:∀k:Nat,k+1<own.length->1<=(ix own (k:Int)).node/\(ix own (k:Int)).node<=14):ev E L (D+6) 269 [.agg [.sl (ks.map rS)],.sl (own.map rO),.int .i64 add] []=some (.sl ((boxesGo ks add own).map rB),[]):=by
 rw[ahO];have:=abL L D hL ks h15 own add hol ho L 0 [] (by omega) (by omega) (by simp;omega)
 exact this
theorem rL:∀(l:List Int) (s:S),(pathGo l s).map (·.node)=l
 |[],_=>rfl
 |a::l,s=>by rw[pathGo,vi,rL l]
theorem iC(n:Int)(s:S):(cD n s).length=1+(cF n).length:=by
 have:=vg List.length (rL (n::cF n) s);rw[kb]at this;rw[cD,this];simp;omega
theorem LF(n:Int)(s:S)(k:Nat)(h:k< (cD n s).length):(ix (cD n s) (k:Int)).node=ix (n::cF n) (k:Int):=by
 have e:=rL (n::cF n) s;have h2:k< (n::cF n).length:=by rw[iC]at h;simp;omega
 rw[aZ _ _ h,aZ _ _ h2];have:((cD n s).map (·.node))[k]'(by simpa using h)=(n::cF n)[k]:=by
  simp only[cD,e]
 simpa using this
theorem adO:∀(i:Nat),i<=14->∀k:Nat,k+1< (ups i).length->1<=ix (ups i) (k:Int):=by
 intro i;induction i using Nat.strongRecOn with
 |ind i ih=>
  intro hi k hk;rw[ups]at hk⊢;split at hk
  ·simp at hk
  ·rename_i h;rw[dif_neg h];cases k with
   |zero=>
    show(1:Int)<=(((i-1)/2:Nat):Int);rcases Nat.eq_zero_or_pos ((i-1)/2)with e|e
    ·rw[e,show ups 0=[] by rw[ups];rfl]at hk;simp at hk
    ·omega
   |succ k=>
    have:=ih ((i-1)/2) (by omega) (by omega) k (by simp at hk;omega)
    have e:ix ((((i-1)/2:Nat):Int)::ups ((i-1)/2)) ((k+1:Nat):Int)=ix (ups ((i-1)/2)) (k:Int):=by simp[ix]
    rw[e];exact this
theorem abM{n:Int}(h:1<=n/\n<=14):∀k:Nat,k+1< (n::cF n).length->1<=ix (n::cF n) (k:Int)/\ix (n::cF n) (k:Int)<=14:=by
 intro k hk;cases k with
 |zero=>exact h
 |succ k=>
  have e:ix (n::cF n) ((k+1:Nat):Int)=ix (cF n) (k:Int):=by simp[ix]
  have hk':k+1< (cF n).length:=by simp at hk;omega
  refine⟨?_,?_⟩
  ·rw[e];have ht:cF n=ups n.toNat:=jd ⟨by omega,by omega⟩
   rw[ht]at hk'⊢;exact adO _ (by omega) k hk'
  ·rw[e,aZ _ _ (by omega)]
   exact(kM n _ (jr _)).2
end
end Kw.Sp
namespace Kw.Sp
open Go Go.Proofs
section
variable (L D:Nat)
theorem GA(ks:List S)(w:Int)(s:S):(vO ks w s).length=ks.length:=JF _ _ _
theorem DC(p s:S):(mk1 p s).length<=300:=by
 unfold mk1;split
 ·rename_i h;simp;exact h.2
 ·simp
theorem QK(hL:1099511627776<=L)(b:Bool)(w e:Int)(hw:aR w)(ks:List S)(h15:ks.length=15)(own:List Own)(i t:S)(fresh:S)(add remove:Int)(leaf key:S)(ha:inR add)(hr:inR remove)(he:0<=e/\e<=12)(ht:t.length<=300)(hf:fresh.length<=300):
 ev E L (D+309) 223 [.agg [.bool b,.int .i64 w,.sl (ks.map rS),.sl (own.map rO),.int .i64 e,.str (bs i),.str (bs t)],.str (bs fresh),.int .i64 add,.int .i64 remove,.str (bs leaf),.str (bs key)] []=
  some (.tup [.agg (rM (jL ⟨b,w,ks,own,e,i,t⟩ fresh add remove leaf key)),.agg (rC (lZ ⟨b,w,ks,own,e,i,t⟩ fresh add remove leaf key))],[]):=by
 rw[ah5];obtain⟨l1,l2⟩:=e9 hw;have hb15:(baseT ks add remove leaf).length=15:=by rw[BB];exact h15
 have hpl:=iC (treLeaf w) fresh;have htu:=dK (treLeaf w);have hpos:(0:Int)<=((cD (treLeaf w) fresh).length:Int)-1:=by omega
 have hlt:((cD (treLeaf w) fresh).length:Int)-1< (cD (treLeaf w) fresh).length:=by omega
 have hbox:=W6 L (D+302) hL (baseT ks add remove leaf) hb15 (cD (treLeaf w) fresh) add (by omega) (fun k hk=>by
  rw[LF _ _ k (by omega)]
  exact abM ⟨by omega,by omega⟩ k (by rw[hpl]at hk;simp;omega))
 have hs15:(vO (baseT ks add remove leaf) w fresh).length=15:=by rw[GA];exact hb15
 by_cases a0:0<=add
 ·have hadd:aR add:=⟨a0,ha.2⟩;simp(disch:=omega) only[K1,bJ,d7,Nat.reduceAdd,gF,bF,↓aB,vM,eD,fF,uE,GI _ _ hL ks h15 add remove leaf ha hr,bV,nZ _ _ hL,LE _ _ hL _ hb15 w hw,pZ _ _ hL,wZ _ _ hL,hbox,a0,qA _ _ hL,eL,bT,aJ,DH _ _ hL];simp[jL,lZ,rM,rC,a0]
 ·simp(disch:=omega) only[K1,bJ,d7,Nat.reduceAdd,gF,bF,↓aB,vM,eD,fF,uE,GI _ _ hL ks h15 add remove leaf ha hr,bV,nZ _ _ hL,LE _ _ hL _ hb15 w hw,pZ _ _ hL,wZ _ _ hL,hbox,a0,eL,bT,aJ];simp[jL,lZ,rM,rC,a0]
theorem lF{m:Member}(h:memOk m=true)(hi:m.inn=true):aR m.who/\treOk m.keys=true/\fitsAll m=true/\tB m=true/\(0<=m.epoch/\m.epoch<=12)/\secOk m.init=true/\m.tag.length<=300:=by
 unfold memOk at h;rw[jb (by rw[hi];simp)]at h
 simp only[jf,ja]at h;exact h
theorem iR:rM cI=[.bool false,.int .i64 0,.sl [],.sl [],.int .i64 0,.str (bs []),.str (bs [])]:=rfl
theorem JB:rC o9=[.int .i64 0,.str (bs []),.str (bs []),.int .i64 0,.int .i64 0,.str (bs []),.sl [],.sl [],.str (bs []),.str (bs []),.str (bs []),.str (bs []),.str (bs [])]:=rfl
theorem aiS{m:Member}{add remove:Int}{leaf key:S}(h:may m add remove leaf key=true):m.inn=true/\inR add/\inR remove:=by
 unfold may at h;simp only[jf,ja]at h;obtain⟨h1,⟨_,⟨a,b,_⟩,c,d,_⟩,_⟩:=h;exact⟨h1,⟨a,b⟩,c,d⟩
theorem aaT{s:S}(h:(bK s).op=1):secOk s=true:=by
 cases e:secOk s with
 |true=>rfl
 |false=>rw[jR.2 e]at h;cases h
theorem N0(hL:1099511627776<=L)(b:Bool)(w e:Int)(ks:List S)(own:List Own)(i t:S)(hl:own.length<=1000000)(fresh:S)(add remove:Int)(leaf key:S)(ht:t.length<=1000000000):
 ev E L (D+310) 163 [.agg [.bool b,.int .i64 w,.sl (ks.map rS),.sl (own.map rO),.int .i64 e,.str (bs i),.str (bs t)],.str (bs fresh),.int .i64 add,.int .i64 remove,.str (bs leaf),.str (bs key)] []=
  some (.tup (match fC ⟨b,w,ks,own,e,i,t⟩ fresh add remove leaf key with
   |some (x,c)=>[.agg (rM x),.agg (rC c),.bool true]
   |none=>[.agg (rM cI),.agg (rC o9),.bool false]),[]):=by
 rw[agQ];unfold fC;have hno:∀h:cT ⟨b,w,ks,own,e,i,t⟩ fresh add remove leaf key=false,(match(if cT ⟨b,w,ks,own,e,i,t⟩ fresh add remove leaf key=true then some (jL ⟨b,w,ks,own,e,i,t⟩ fresh add remove leaf key,lZ ⟨b,w,ks,own,e,i,t⟩ fresh add remove leaf key)else none)with
  |some (x,c)=>[MV.agg (rM x),.agg (rC c),.bool true]
  |none=>[.agg (rM cI),.agg (rC o9),.bool false])=[.agg (rM cI),.agg (rC o9),.bool false]:=fun h=>by rw[h];rfl
 by_cases h1:memOk ⟨b,w,ks,own,e,i,t⟩=true
 case neg=>
  rw[hno (by unfold cT;simp[h1])]
  simp only[K1,d9 _ _ hL b w e ks own i t hl,h1,iR,JB]
 by_cases h2:secOk fresh=true
 case neg=>
  have:¬(bK fresh).op=1:=fun e=>h2 (aaT e)
  rw[hno (by unfold cT;simp[this])]
  simp only[K1,d9 _ _ hL b w e ks own i t hl,h1,bC _ _ hL,h2,iR,JB]
 obtain⟨u,hu⟩:=qt.1 (show(sec fresh).isSome=true from h2)
 have hm:bK fresh=u.how:=by unfold bK;rw[hu]
 have hfl:=(LD hu).2.2.2;by_cases h3:u.how.op=1
 case neg=>
  rw[hno (by unfold cT;rw[hm];simp[h3])]
  simp only[K1,bD,iH,not_true_eq_false,not_false_eq_true,Nat.reduceAdd,d9 _ _ hL b w e ks own i t hl,h1,bC _ _ hL,h2,dC _ _ hL fresh u hu,gK,h3,iR,JB]
 have h15:b=true->ks.length=15:=fun hb=>by
  subst hb;exact eM (lF h1 rfl).2.1
 by_cases h4:may ⟨b,w,ks,own,e,i,t⟩ add remove leaf key=true
 case neg=>
  rw[hno (by unfold cT;simp[h4])]
  simp only[K1,Nat.reduceAdd,↓aB,d9 _ _ hL b w e ks own i t hl,h1,bC _ _ hL,h2,dC _ _ hL fresh u hu,gK,h3,DJ _ _ hL b w e ks h15 own i t,h4,iR,JB]
 obtain⟨hb,ha,hr⟩:=aiS h4;simp only at hb;subst hb;obtain⟨g1,g2,g3,g4,g5,g6,g7⟩:=lF h1 rfl;simp only at g1 g5 g6 g7;by_cases h5:t.length+fresh.length<=300
 case neg=>
  have h5':(300:Int)< (t.length:Int)+fresh.length:=by omega
  rw[hno (by unfold cT;simp[h5])]
  simp(disch:=omega) only[K1,Nat.reduceAdd,↓aB,d9 _ _ hL true w e ks own i t hl,h1,bC _ _ hL,h2,dC _ _ hL fresh u hu,gK,h3,DJ _ _ hL true w e ks h15 own i t,h4,bT,h5',iR,JB]
 have h5':¬(300:Int)< (t.length:Int)+fresh.length:=by omega
 by_cases h6:i.length<=280
 case neg=>
  have h6':(280:Int)< (i.length:Int):=by omega
  rw[hno (by unfold cT;simp[h6])]
  simp(disch:=omega) only[K1,Nat.reduceAdd,↓aB,d9 _ _ hL true w e ks own i t hl,h1,bC _ _ hL,h2,dC _ _ hL fresh u hu,gK,h3,DJ _ _ hL true w e ks h15 own i t,h4,bT,h5',h6',iR,JB]
 have h6':¬(280:Int)< (i.length:Int):=by omega
 have hok:cT ⟨true,w,ks,own,e,i,t⟩ fresh add remove leaf key=true:=by
  unfold cT;rw[hm];simp[h1,h3,h4,h5,h6]
 rw[hok];simp(disch:=omega) only[K1,Nat.reduceAdd,↓aB,d9 _ _ hL true w e ks own i t hl,h1,bC _ _ hL,h2,dC _ _ hL fresh u hu,gK,h3,DJ _ _ hL true w e ks h15 own i t,h4,bT,h5',h6',QK _ _ hL true w e g1 ks (h15 rfl) own i t fresh add remove leaf key ha hr g5 (by omega) hfl,rM,rC]
end
end Kw.Sp
namespace Kw.Sp
open Go Go.Proofs
section
variable (L D:Nat)
theorem QL(hL:1099511627776<=L)(w:Int)(leaf init:S):ev E L (D+309) 94 [.int .i64 w,.str (bs leaf),.str (bs init)] []=some (.agg (rM (fH w leaf init)),[]):=by
 rw[al7];unfold fH;by_cases h1:aR w
 case neg=>
  have h1':¬(0<=w/\w<=7):=h1;rw[jb (fun x=>h1 x.1)]
  simp only[K1,aY,h1',iR]
 obtain⟨h1a,h1b⟩:=id h1;by_cases h2:secOk leaf=true
 case neg=>rw[jb (fun x=>h2 x.2.1)];simp only[K1,aY,h1a,h1b,bC _ _ hL,h2,iR]
 by_cases h3:secOk init=true
 case neg=>rw[jb (fun x=>h3 x.2.2.1)];simp only[K1,aY,h1a,h1b,bC _ _ hL,h2,h3,iR]
 by_cases h4:leaf.length<=292
 case neg=>
  have h4':(292:Int)<leaf.length:=by omega
  rw[jb (fun x=>h4 x.2.2.2)];simp only[K1,aY,h1a,h1b,bC _ _ hL,h2,h3,h4',iR]
 have h4':¬(292:Int)<leaf.length:=by omega
 rw[jd ⟨h1,h2,h3,h4⟩];simp only[K1,Nat.reduceAdd,↓aB,aY,h1a,h1b,bC _ _ hL,h2,h3,h4',abG,LE _ _ hL treNew rfl w h1,bV,nZ _ _ hL,rM]
theorem N1(b:Bool)(w e:Int)(kr:List Row)(own:List Own)(i:S)(t:ByteArray)(hl:own.length<=1000000):∀(n k:Nat) (acc:List S),own.length-k<n->k<=own.length->acc.length+own.length<=10000000+k->
 zC L D n (acc.map rS) b w kr (own.map rO) e (bs i) t acc.length k=some (.sl ((acc++((own.drop k).map (·.sec)++[i])).map rS),[]):=by
 intro n;induction n with
 |zero=>intro k acc h;omega
 |succ n ih=>
  intro k acc hn hk hb;rw[G8];by_cases h:k<own.length
  ·have h':(k:Int)<own.length:=by omega
   rw[cO own k h];have:=ih (k+1) (acc++[(ix own (k:Int)).sec]) (by omega) (by omega) (by simp;omega)
   simp(disch:=omega) only[K1,jt,bJ,aW,Nat.reduceAdd,gF,bS,bF,↓aB,XM,vM,eD,h',aO,aJ,this];simp
  ·have h':¬(k:Int)<own.length:=by omega
   simp(disch:=omega) only[K1,jt,bJ,aW,Nat.reduceAdd,gF,bS,bF,↓aB,XM,h',aJ];rw[jm (by omega)];simp
theorem QM(hL:1099511627776<=L)(b:Bool)(w e:Int)(ks:List S)(own:List Own)(i t:S)(hl:own.length<=1000000):ev E L (D+310) 164 [.agg [.bool b,.int .i64 w,.sl (ks.map rS),.sl (own.map rO),.int .i64 e,.str (bs i),.str (bs t)]] []=some (.sl ((fW ⟨b,w,ks,own,e,i,t⟩).map rS),[]):=by
 rw[agR];unfold fW;by_cases h1:memOk ⟨b,w,ks,own,e,i,t⟩=true
 case neg=>
  rw[jb (fun x=>h1 x.1)]
  simp only[K1,↓aB,d9 _ _ hL b w e ks own i t hl,h1];rfl
 cases b with
 |false=>
  rw[jb (fun x=>by cases x.2)]
  simp only[K1,↓aB,d9 _ _ hL false w e ks own i t hl,h1];rfl
 |true=>
  rw[jd ⟨h1,rfl⟩];simp only[K1,d9 _ _ hL true w e ks own i t hl,h1];have:=N1 L (D+309) true w e (ks.map rS) own i (bs t) hl L 0 [] (by omega) (by omega) (by simp;omega)
  exact this
theorem QN(hL:1099511627776<=L)(l:List Box)(hl:l.length<=1000000):∀(n k:Nat),l.length-k<n->k<=l.length->
 zH L (D+305) n (l.map rB) k=some (.bool ((l.drop k).all fun x=>secOk x.key&&secOk x.sec),[]):=by
 intro n;induction n with
 |zero=>intro k h;omega
 |succ n ih=>
  intro k hn hk;rw[HM];by_cases h:k<l.length
  ·have h':(k:Int)<l.length:=by omega
   have:=ih (k+1) (by omega) (by omega)
   rw[cO l k h,va];by_cases h1:secOk (ix l (k:Int)).key=true
   ·by_cases h2:secOk (ix l (k:Int)).sec=true
    ·simp(disch:=omega) only[K1,TS,ac0,qI,h',aO,bC _ _ hL,h1,h2,this,jw]
    ·simp(disch:=omega) only[K1,TS,ac0,qI,h',bC _ _ hL,h1,h2];simp[h2]
   ·simp(disch:=omega) only[K1,TS,qI,h',bC _ _ hL,h1];simp[h1]
  ·have h':¬(k:Int)<l.length:=by omega
   simp(disch:=omega) only[K1,h'];rw[jm (by omega)];rfl
theorem gH(hL:1099511627776<=L)(l:List Box):ev E L (D+306) 271 [.sl (l.map rB)] []=some (.bool (iK l),[]):=by
 rw[ahQ];unfold iK;by_cases h:l.length<=400
 ·have h':¬(400:Int)<l.length:=by omega
  have:=QN L D hL l (by omega) L 0 (by omega) (by omega)
  rw[show((0:Nat):Int)=0 from rfl,kw]at this
  simp only[K1,h',this];simp[h]
 ·have h':(400:Int)<l.length:=by omega
  simp only[K1,h'];simp[h]
theorem WB(a b:List S)(hl:a.length=b.length)(hb:b.length<=1000000):∀(n k:Nat),a.length-k<n->k<=a.length->
 zO L D n (b.map rS) (a.map rS) k=some (.bool (decide (a.drop k=b.drop k)),[]):=by
 intro n;induction n with
 |zero=>intro k h;omega
 |succ n ih=>
  intro k hn hk;rw[HW];by_cases h:k<a.length
  ·have h':(k:Int)<a.length:=by omega
   have:=ih (k+1) (by omega) (by omega)
   rw[cO a k h,cO b k (by omega)]
   by_cases h1:ix a (k:Int)=ix b (k:Int)
   ·have hd:decide (¬ix a (k:Int)=ix b (k:Int))=false:=jh (fun x=>x h1)
    simp(disch:=omega) only[K1,bD,eU,bQ,h',aO,hd,this];rw[h1];simp
   ·simp(disch:=omega) only[K1,eU,bQ,h',h1];simp[h1]
  ·have h':¬(k:Int)<a.length:=by omega
   simp(disch:=omega) only[K1,h'];rw[jm (by omega),jm (by omega)];simp
theorem aaU(hL:1099511627776<=L)(a b:List S)(hb:a.length<=1000000):ev E L (D+1) 297 [.sl (a.map rS),.agg [.sl (b.map rS)]] []=some (.bool (decide (a=b)),[]):=by
 rw[ai2];by_cases h:a.length=b.length
 ·have h':(a.length:Int)=b.length:=by omega
  have hd:decide (¬(a.length:Int)=b.length)=false:=jh (fun x=>x h')
  have:=WB L D a b h (by omega) L 0 (by omega) (by omega)
  rw[show((0:Nat):Int)=0 from rfl,kw,kw]at this
  simp only[K1,bD,hd,this]
 ·have h':¬(a.length:Int)=b.length:=by omega
  have:¬a=b:=fun e=>h (by rw[e])
  simp only[K1,h',this]
theorem QO(o:Own)(r:List Own)(k:S):pA (o::r) k=(decide (makKey o.sec=k)||pA r k):=rfl
theorem WC(hL:1099511627776<=L)(b:Bool)(w e:Int)(kr:List Row)(own:List Own)(i t:ByteArray)(hl:own.length<=1000000)(bx:List Box)(hbl:bx.length<=1000000):∀(m k:Nat),bx.length-k<m->k<=bx.length->
 zJ L (D+307) m b w kr (own.map rO) e i t (bx.map rB) k=some (.str (bs (cX own (bx.drop k))),[]):=by
 intro m;induction m with
 |zero=>intro k h;omega
 |succ m ihm=>
  intro k hm hk;rw[HO];by_cases h:k<bx.length
  case neg=>
   have h':¬(k:Int)<bx.length:=by omega
   simp(disch:=omega) only[K1,h'];rw[jm (by omega)];rfl
  have h':(k:Int)<bx.length:=by omega
  have next:=ihm (k+1) (by omega) (by omega)
  rw[cO bx k h];have inner:∀(n j:Nat),own.length-j<n->j<=own.length->zK L (D+307) n m b w kr (own.map rO) e i t (bx.map rB) k j=some (.str (bs (if pA (own.drop j) (ix bx (k:Int)).key=true then(ix bx (k:Int)).sec else cX own (bx.drop (k+1)))),[]):=by
   intro n;induction n with
   |zero=>intro j h;omega
   |succ n ih=>
    intro j hn hj;rw[HP];by_cases g:j<own.length
    ·have g':(j:Int)<own.length:=by omega
     have:=ih (j+1) (by omega) (by omega)
     rw[cO own j g,QO];by_cases g1:makKey (ix own (j:Int)).sec=(ix bx (k:Int)).key
     ·have hd:decide (makKey (ix own (j:Int)).sec=(ix bx (k:Int)).key)=true:=jc g1;simp(disch:=omega) only[K1,vM,eD,TS,ac0,qI,g',eT _ _ hL,hd];simp
     ·simp(disch:=omega) only[K1,vM,eD,TS,qI,g',aO,eT _ _ hL,g1,this];simp
    ·have g':¬(j:Int)<own.length:=by omega
     simp(disch:=omega) only[K1,g',aO,next];have:own.drop j=[]:=jm (by omega)
     rw[this];rfl
  have:=inner L 0 (by omega) (by omega)
  rw[show((0:Nat):Int)=0 from rfl,kw]at this
  simp(disch:=omega) only[K1,h',this]
  rfl
theorem aaV(hL:1099511627776<=L)(b:Bool)(w e:Int)(kr:List Row)(own:List Own)(i t:ByteArray)(hl:own.length<=1000000)(bx:List Box)(hbl:bx.length<=1000000):ev E L (D+308) 273 [.agg [.bool b,.int .i64 w,.sl kr,.sl (own.map rO),.int .i64 e,.str i,.str t],.sl (bx.map rB)] []=some (.str (bs (cX own bx)),[]):=by
 rw[ahS];exact WC L D hL b w e kr own i t hl bx hbl L 0 (by omega) (by omega)
def rJ(own:List Own):Prop:=∀o∈own,0<=o.node/\o.node<=14
theorem N2{own:List Own}(h:rJ own){k:Nat}(hk:k<own.length):0<=(ix own (k:Int)).node/\(ix own (k:Int)).node<=14:=h _ (by rw[aZ own k hk];exact jr hk)
theorem WD(hL:1099511627776<=L)(b:Bool)(w e:Int)(kr:List Row)(own:List Own)(hno:rJ own)(i t:ByteArray)(hl:own.length<=1000000)(ks:List S)(h15:ks.length=15):∀(n k:Nat) (acc:List Own),own.length-k<n->k<=own.length->acc.length+own.length<=10000000+k->
 tX L (D+307) n (acc.map rO) b w kr (own.map rO) e i t (ks.map rS) acc.length k=some (.own ((acc++rP ks (own.drop k)).map rO),[]):=by
 intro n;induction n with
 |zero=>intro k acc h;omega
 |succ n ih=>
  intro k acc hn hk hb;rw[HR];by_cases h:k<own.length
  ·have h':(k:Int)<own.length:=by omega
   obtain⟨x0,x1⟩:=N2 hno h;rw[cO own k h];by_cases h1:ix ks (ix own (k:Int)).node=makKey (ix own (k:Int)).sec
   ·have hd:decide (ix ks (ix own (k:Int)).node=makKey (ix own (k:Int)).sec)=true:=jc h1;have:=ih (k+1) (acc++[ix own (k:Int)]) (by omega) (by omega) (by simp;omega)
    have e1:(⟨(ix own (k:Int)).node,(ix own (k:Int)).sec⟩:Own)=ix own (k:Int):=rfl;simp(disch:=omega) only[K1,jt,bJ,aW,Nat.reduceAdd,mS,bS,bF,↓aB,eU,bQ,GN,vM,OV,eD,h',aO,eT _ _ hL,hd,aJ,e1,this];simp[rP,h1]
   ·have:=ih (k+1) acc (by omega) (by omega) (by omega)
    simp(disch:=omega) only[K1,eU,bQ,GN,vM,eD,h',aO,eT _ _ hL,h1,this];simp[rP,h1]
  ·have h':¬(k:Int)<own.length:=by omega
   rw[show iLt (k:Int) (nrows (own.map rO))=false from by simpa using h',aD,show iEq (acc.length:Int) (nrows (acc.map rO))=true from by simp,aC,jm (by omega)];simp[rP]
theorem aaW(hL:1099511627776<=L)(b:Bool)(w e:Int)(kr:List Row)(own:List Own)(hno:rJ own)(i t:ByteArray)(hl:own.length<=1000000)(ks:List S)(h15:ks.length=15):ev E L (D+308) 275 [.agg [.bool b,.int .i64 w,.sl kr,.sl (own.map rO),.int .i64 e,.str i,.str t],.agg [.sl (ks.map rS)]] []=some (.own ((rP ks own).map rO),[]):=by
 rw[ahU];exact WD L D hL b w e kr own hno i t hl ks h15 L 0 [] (by omega) (by omega) (by simp;omega)
theorem QP(hL:1099511627776<=L)(path:List Own)(hno:rJ path)(hl:path.length<=1000000)(ks:List S)(h15:ks.length=15):∀(n k:Nat),path.length-k<n->k<=path.length->
 zL L (D+307) n (ks.map rS) (path.map rO) k=some (.bool (gP ks (path.drop k)),[]):=by
 intro n;induction n with
 |zero=>intro k h;omega
 |succ n ih=>
  intro k hn hk;rw[HQ];by_cases h:k<path.length
  ·have h':(k:Int)<path.length:=by omega
   obtain⟨x0,x1⟩:=N2 hno h;have:=ih (k+1) (by omega) (by omega)
   rw[cO path k h];by_cases h1:ix ks (ix path (k:Int)).node=makKey (ix path (k:Int)).sec
   ·have hd:decide (¬ix ks (ix path (k:Int)).node=makKey (ix path (k:Int)).sec)=false:=jh (fun x=>x h1)
    simp(disch:=omega) only[K1,bD,eU,bQ,GN,vM,eD,h',aO,eT _ _ hL,hd,this];simp[gP,h1]
   ·simp(disch:=omega) only[K1,eU,bQ,GN,vM,eD,h',eT _ _ hL,h1];simp[gP,h1]
  ·have h':¬(k:Int)<path.length:=by omega
   simp(disch:=omega) only[K1,h'];rw[jm (by omega)];rfl
theorem WE(hL:1099511627776<=L)(path:List Own)(hno:rJ path)(hl:path.length<=1000000)(ks:List S)(h15:ks.length=15):ev E L (D+308) 274 [.agg [.sl (ks.map rS)],.sl (path.map rO)] []=some (.bool (gP ks path),[]):=by
 rw[ahT];exact QP L D hL path hno hl ks h15 L 0 (by omega) (by omega)
theorem QQ(b:Bool)(w e:Int)(kr:List Row)(own:List Own)(i t:ByteArray)(hl:own.length<=1000000)(path:List Own)(hpl:path.length<=1000000)(hL:1099511627776<=L):∀(n k:Nat) (acc:List Own),own.length-k<n->k<=own.length->acc.length+own.length<=10000000+k->
 tY L (D+1) n (acc.map rO) b w kr (own.map rO) e i t (path.map rO) acc.length k=some (.sl ((acc++mT (own.drop k) path).map rO),[]):=by
 intro n;induction n with
 |zero=>intro k acc h;omega
 |succ n ih=>
  intro k acc hn hk hb;rw[HS];by_cases h:k<own.length
  ·have h':(k:Int)<own.length:=by omega
   rw[cO own k h];have ho:=DH L D hL false 0 0 [] path (bs []) (bs []) (ix own (k:Int)).node hpl;by_cases h1:eB path (ix own (k:Int)).node=[]
   ·have:=ih (k+1) (acc++[ix own (k:Int)]) (by omega) (by omega) (by simp;omega)
    have e1:(⟨(ix own (k:Int)).node,(ix own (k:Int)).sec⟩:Own)=ix own (k:Int):=rfl;simp(disch:=omega) only[K1,jt,bJ,aW,Nat.reduceAdd,mS,bS,bF,↓aB,↓cW,GN,vM,OV,eD,h',aO,ho,h1,aJ,e1,this];simp[mT,h1]
   ·have:=ih (k+1) acc (by omega) (by omega) (by omega)
    simp(disch:=omega) only[K1,GN,eD,h',aO,ho,h1,this];simp[mT,h1]
  ·have h':¬(k:Int)<own.length:=by omega
   rw[show iLt (k:Int) (nrows (own.map rO))=false from by simpa using h',aD,show iEq (acc.length:Int) (nrows (acc.map rO))=true from by simp,aC,jm (by omega)];simp[mT]
theorem WF(hL:1099511627776<=L)(b:Bool)(w e:Int)(kr:List Row)(own:List Own)(i t:ByteArray)(hl:own.length<=1000000)(path:List Own)(hpl:path.length<=1000000):ev E L (D+2) 276 [.agg [.bool b,.int .i64 w,.sl kr,.sl (own.map rO),.int .i64 e,.str i,.str t],.sl (path.map rO)] []=some (.sl ((mT own path).map rO),[]):=by
 rw[ahV];exact QQ L D b w e kr own i t hl path hpl hL L 0 [] (by omega) (by omega) (by simp;omega)
end
end Kw.Sp
