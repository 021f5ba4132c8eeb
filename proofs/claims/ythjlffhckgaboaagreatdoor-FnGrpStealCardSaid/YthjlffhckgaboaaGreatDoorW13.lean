import Derived.Test.YthjlffhckgaboaaGreatDoorW12
set_option linter.unusedVariables false
set_option linter.unusedSimpArgs false
set_option linter.unusedSectionVars false
namespace Kw.Sp
open Go Go.Proofs
section
variable (L D:Nat)
def jC(h:How):Row:=[.int .i64 h.op,.int .i64 h.who,.int .i64 h.n,.str (bs h.a),.str (bs h.b)]
theorem V5(s:S)(hs:s.length<=300)(hp:1<=s.length):∀(n k num B:Nat),s.length-k<n->(∀j,k<=j->j+1<s.length->lV (ix s j))->num<B->B*10^(s.length-1-k)<=1000000->65<=(ix s (0:Int)).toNat->
 BM L D n 0 0 0 (bs []) (bs []) (bs s) num k=some (.agg (jC ⟨1,(ix s (0:Int)).toNat-65,((List.range' k (s.length-1-k)).foldl (fun(a j:Nat)=>a*10+((ix s (j:Int)).toNat-48)) num:Nat),[],[]⟩),[]):=by
 intro n;induction n with
 |zero=>intro k num B h;omega
 |succ n ih=>
  intro k num B hn hd hb hB hc;rw[L5];simp only[KM];have h255:=toNat_lt (ix s (0:Int));have hsub:iS .i64 (s.length:Int) 1=((s.length-1:Nat):Int):=by rw[d9 (by omega) (by omega)];omega
  by_cases h:k<s.length-1
  ·have hlt:(k:Int)< ((s.length-1:Nat):Int):=by omega
   obtain⟨d1,d2⟩:=hd k (by omega) (by omega)
   have hnb:B*10<=B*10^(s.length-1-k):=qw _ (by rw[show s.length-1-k=(s.length-1-k-1)+1 by omega,Nat.pow_succ];exact Nat.le_mul_of_pos_left _ (Nat.pow_pos (by omega)))
   simp(disch:=omega) only[K1,bE,hsub,hlt,eD,CV,cS,KE,bA];have e1:(num:Int)*10+(((ix s (k:Int)).toNat:Int)-48)=((num*10+((ix s (k:Int)).toNat-48):Nat):Int):=by omega
   rw[e1,show(k:Int)+1=((k+1:Nat):Int) by omega,ih (k+1) _ (B*10) (by omega) (fun j h1 h2=>hd j (by omega) h2) (by omega) (by
    rw[show s.length-1-k=(s.length-1-(k+1))+1 by omega,Nat.pow_succ]at hB
    rw[Nat.mul_assoc,yq 10];exact hB) hc]
   congr 6
   rw[show s.length-1-k=(s.length-1-(k+1))+1 by omega,List.range'_succ]
   rfl
  ·have hlt:¬(k:Int)< ((s.length-1:Nat):Int):=by omega
   simp(disch:=omega) only[K1,bE,hsub,hlt,eD,CV,cS];rw[show s.length-1-k=0 by omega]
   rfl
theorem SO{s:S}{t:Sec}(h:sec s=some t):s=t.str/\t.wf/\0<s.length/\s.length<=300:=by
 obtain⟨h1,h2,h3⟩:=iX.1 h;exact⟨h2,h1,by rw[h2];exact t.str_pos,h3⟩
theorem cM(hL:1099511627776<=L)(s:S)(t:Sec)(h:sec s=some t):ev E L (D+305) 221 [.str (bs s)] []=some (.agg (jC t.how),[]):=by
 obtain⟨e,hw,hp,hl⟩:=SO h;rw[av1];simp only[KM];have hat:sAt (bs s) 0=some ((ix s (0:Int)).toNat:Int):=eD _ _ (by omega) (by omega)
 have hsz:=VX L hL s (by omega) 301 D 1 (by omega) (by omega)
 rw[show((1:Nat):Int)=1 from rfl]at hsz
 simp only[K1,mM,cN,jW,bE,Int.reduceLE,ki,hat];have hl1:(1:Int)<=s.length:=by omega
 cases t with
 |next t=>
  have e0:ix s (0:Int)=110:=by rw[e];rfl
  rw[e0,je (by rfl)]
  simp only[true_and,hl1];subst e;simp[Sec.how,jC,Sec.str]
 |key t=>
  have e0:ix s (0:Int)=107:=by rw[e];rfl
  rw[e0,jc (by decide),je (by rfl)]
  simp only[true_and,hl1];subst e;simp[Sec.how,jC,Sec.str]
 |say w t=>
  have e0:ix s (0:Int)=109:=by rw[e];rfl
  have e1:ix s (1:Int)=letter w:=by rw[e];rfl
  have hw7:=jG hw.1;have h2:(2:Int)<=s.length:=by rw[e];simp[Sec.str];omega
  have hat1:sAt (bs s) 1=some ((ix s (1:Int)).toNat:Int):=eD _ _ (by omega) (by omega)
  have:=hw.1;rw[e0,jc (by decide),jc (by decide),je (by rfl),hat1,e1,hw7]
  simp(disch:=omega) only[bnd_some',true_and,h2,CV,cS];subst e;simp[Sec.how,jC,Sec.str];omega
 |room m t=>
  have e0:ix s (0:Int)=114:=by rw[e];rfl
  have e1:ix s (1:Int)=hD m:=by rw[e];rfl
  have hw7:=eR hw.2.1;have h2:(2:Int)<=s.length:=by rw[e];simp[Sec.str];omega
  have hat1:sAt (bs s) 1=some ((ix s (1:Int)).toNat:Int):=eD _ _ (by omega) (by omega)
  have:=hw.2.1;rw[e0,jc (by decide),jc (by decide),jc (by decide),je (by rfl),hat1,e1,hw7]
  simp(disch:=omega) only[bnd_some',true_and,h2,CV,cS];subst e;simp[Sec.how,jC,Sec.str];omega
 |epoch a b=>
  have e0:ix s (0:Int)=101:=by rw[e];rfl
  have e1:psz (s.drop 1)=a.str.length:=by
   have:s.drop 1=a.str++b.str:=by rw[e];rfl
   rw[this];exact(n9 (ED b.str hw.1)).1
  rw[e0,jc (by decide),jc (by decide),jc (by decide),jc (by decide),je (by rfl),hsz,e1]
  have hle:a.str.length+b.str.length+1=s.length:=by rw[e];simp[Sec.str]
  have g1:(1:Int)<=1+(a.str.length:Int):=by omega
  have g2:1+(a.str.length:Int)<=s.length:=by omega
  have g3:(0:Int)<=1+(a.str.length:Int):=by omega
  have g4:(1+(a.str.length:Int)).toNat=a.str.length+1:=by omega
  simp(disch:=omega) only[K1,true_and,bA,g1,g2,g3,g4];subst e;simp[Sec.how,jC,Sec.str];rw[<-jl,Jg];simp
 |new w m=>
  have e0:ix s (0:Int)=letter w:=by rw[e];rfl
  obtain⟨a1,a2,a3,a4,a5⟩:=PE hw.1;have hwn:=jG hw.1;have hw7:=hw.1;have c1:¬((letter w).toNat:Int)=110:=by omega
  have c2:¬((letter w).toNat:Int)=107:=by omega
  have c3:¬((letter w).toNat:Int)=109:=by omega
  have c4:¬((letter w).toNat:Int)=114:=by omega
  have c5:¬((letter w).toNat:Int)=101:=by omega
  rw[e0,jc c1,jc c2,jc c3,jc c4,jc c5];have hm:=hw.2.1;have hm9:=hw.2.2;by_cases h9:m<=9
  ·have hd:=eR h9;have es:s=[letter w,hD m,59]:=by rw[e];simp[Sec.str,nI h9]
   have i1:ix s (1:Int)=hD m:=by rw[es];rfl
   have:=V5 L (D+304) s hl (by omega) L 1 0 1 (by omega) (fun j h1 h2=>by
    have:j=1:=by rw[es]at h2;simp at h2;omega
    subst this;rw[show((1:Nat):Int)=1 from rfl,i1];exact⟨by omega,by omega⟩) (by omega) (by rw[es];simp) (by rw[e0];omega)
   rw[show((1:Nat):Int)=1 from rfl,show((0:Nat):Int)=0 from rfl]at this
   rw[this,e0,hwn];have el:s.length=3:=by rw[es];rfl
   rw[el];show some (MV.agg (jC ⟨1,_,((0*10+((ix s (1:Int)).toNat-48):Nat):Int),[],[]⟩),[])=_;rw[i1,hd];simp[Sec.how,jC];omega
  ·have hd:= @eR (m/10) (by omega)
   have hd':= @eR (m%10) (by omega)
   have es:s=[letter w,hD (m/10),hD (m%10),59]:=by rw[e];simp[Sec.str,yT (n:=m) (by omega) hw.2.2]
   have i1:ix s (1:Int)=hD (m/10):=by rw[es];rfl
   have i2:ix s (2:Int)=hD (m%10):=by rw[es];rfl
   have:=V5 L (D+304) s hl (by omega) L 1 0 1 (by omega) (fun j h1 h2=>by
    have:j=1\/j=2:=by rw[es]at h2;simp at h2;omega
    rcases this with h|h<;>subst h
    ·rw[show((1:Nat):Int)=1 from rfl,i1];exact⟨by omega,by omega⟩
    ·rw[show((2:Nat):Int)=2 from rfl,i2];exact⟨by omega,by omega⟩) (by omega) (by rw[es];simp) (by rw[e0];omega)
   rw[show((1:Nat):Int)=1 from rfl,show((0:Nat):Int)=0 from rfl]at this
   rw[this,e0,hwn];have el:s.length=4:=by rw[es];rfl
   rw[el];show some (MV.agg (jC ⟨1,_,(((0*10+((ix s (1:Int)).toNat-48))*10+((ix s (2:Int)).toNat-48):Nat):Int),[],[]⟩),[])=_;rw[i1,i2,hd,hd'];simp[Sec.how,jC];omega
end
end Kw.Sp
namespace Kw.Sp
open Go Go.Proofs
section
variable (L D:Nat)
theorem bD(w:Int):ev E L (D+2) 159 [.int .i64 w] []=some (.int .i64 (treLeaf w),[]):=by
 rw[auK];simp only[KM];by_cases h:aH w
 ·obtain⟨h1,h2⟩:=id h;simp(disch:=omega) only[K1,aM,h1,h2,bE,Int.reduceNeg,bA];simp[treLeaf,h]
 ·have h3:¬(0<=w/\w<=7):=h;simp only[K1,aM,h3,bE,Int.reduceNeg];simp[treLeaf,h]
theorem ajJ:∀(i n:Nat) (acc:List Int),i<n->i<=14->acc.length+i<=100->FK L D n (acc.map rI) acc.length i=some (.sl ((acc++ups i).map rI),[]):=by
 intro i;induction i using Nat.strongRecOn with
 |ind i ih=>
  intro n acc hn hi ha;obtain⟨n,rfl⟩:∃m,n=m+1:=⟨n-1,by omega⟩
  rw[NQ];simp only[KM];by_cases h:i=0
  ·have h0:¬(0:Int)<i:=by omega
   rw[show iLt 0 (i:Int)=false from by simpa using h0,br_false',show iEq (acc.length:Int) (nrows (acc.map rI))=true from by simp,br_true',ups,dif_pos h,ka]
  ·have e:F6 .i64 (iS .i64 (i:Int) 1) 2=(((i-1)/2:Nat):Int):=by rw[d9 (by omega) (by omega),mO (by omega) (by omega) (by omega)];omega
   have hpos:(0:Int)<i:=by omega
   rw[e,show[[MV.int IntKind.i64 (((i-1)/2:Nat):Int)]]=[rI (((i-1)/2:Nat):Int)]from rfl]
   simp(disch:=omega) only[K1,aq8,jx,aV,aJ,cJ,bE,Int.reduceEq,lA,aZ,aR,↓aA,hpos,aE];have:=ih ((i-1)/2) (by omega) n (acc++[(((i-1)/2:Nat):Int)]) (by omega) (by omega) (by simp;omega)
   rw[this]
   conv=>rhs;rw[ups,dif_neg h]
   simp
theorem BU(hL:1099511627776<=L)(n:Int):ev E L (D+2) 217 [.int .i64 n] []=some (.sl ((bI n).map rI),[]):=by
 rw[auX];simp only[KM];by_cases h:hJ n
 ·obtain⟨h1,h2⟩:=id h;obtain⟨k,rfl⟩:∃k:Nat,n=k:=⟨n.toNat,by omega⟩
  have:=ajJ L (D+1) k L [] (by omega) (by omega) (by simp;omega)
  simp only[K1,aM,h1,h2,bE,↓aA];rw[bI,je h];exact this
 ·have h3:¬(0<=n/\n<=14):=h;simp only[K1,aM,h3,bE,↓aA];simp[bI,h]
theorem aeM(n:Int):ev E L (D+2) 296 [.int .i64 n] []=some (.int .i64 (bH n),[]):=by
 rw[avZ];simp only[KM];by_cases h:1<=n/\n<=14
 ·obtain⟨h1,h2⟩:=id h;simp(disch:=omega) only[K1,aM,h1,h2,bE,Int.reduceEq,Int.reduceNeg,n8,bA,d9];rw[bH,je h];split<;>rfl
 ·simp only[K1,aM,h,bE,Int.reduceEq,Int.reduceNeg];simp[bH,h]
theorem YY:∀(f n a b:Nat),f<n->a<=14->b<=14->a+b<=f->AD L D n a b=some (.int .i64 (meetN f a b:Nat),[]):=by
 intro f;induction f with
 |zero=>
  intro n a b hn ha hb hf;obtain⟨n,rfl⟩:∃m,n=m+1:=⟨n-1,by omega⟩
  rw[CL];simp only[KM];have:a=b:=by omega
  subst this;simp only[K1,bE,Int.reduceEq,↓aA];rfl
 |succ f ih=>
  intro n a b hn ha hb hf;obtain⟨n,rfl⟩:∃m,n=m+1:=⟨n-1,by omega⟩
  rw[CL];simp only[KM];rw[meetN];by_cases h:a=b
  ·subst h;simp only[K1,bE,Int.reduceEq,↓aA]
  ·have h':¬(a:Int)=b:=by omega
   rw[jc h];by_cases hab:b<a
   ·have hab':(b:Int)<a:=by omega
    have e:F6 .i64 (iS .i64 (a:Int) 1) 2=(((a-1)/2:Nat):Int):=by rw[d9 (by omega) (by omega),mO (by omega) (by omega) (by omega)];omega
    simp only[K1,bE,Int.reduceEq,h',hab',e];rw[je hab];exact ih n _ b (by omega) (by omega) hb (by omega)
   ·have hab':¬(b:Int)<a:=by omega
    have e:F6 .i64 (iS .i64 (b:Int) 1) 2=(((b-1)/2:Nat):Int):=by rw[d9 (by omega) (by omega),mO (by omega) (by omega) (by omega)];omega
    simp only[K1,bE,Int.reduceEq,h',hab',e];rw[jc hab];exact ih n a _ (by omega) ha (by omega) (by omega)
theorem tH(hL:1099511627776<=L)(a b:Int):ev E L (D+2) 229 [.int .i64 a,.int .i64 b] []=some (.int .i64 (treMeet a b),[]):=by
 rw[av9];simp only[KM];by_cases h:hJ a
 ·by_cases h':hJ b
  ·obtain⟨h1,h2⟩:=id h;obtain⟨h3,h4⟩:=id h';simp only[K1,aM,h1,h2,h3,h4,bE,Int.reduceNeg];rw[treMeet,je ⟨h,h'⟩];obtain⟨x,rfl⟩:∃k:Nat,a=k:=⟨a.toNat,by omega⟩
   obtain⟨y,rfl⟩:∃k:Nat,b=k:=⟨b.toNat,by omega⟩
   exact YY L (D+1) 30 L x y (by omega) (by omega) (by omega) (by omega)
  ·obtain⟨h1,h2⟩:=id h;have h3:¬(0<=b/\b<=14):=h';simp only[K1,aM,h1,h2,h3,bE,Int.reduceNeg];simp[treMeet,h']
 ·have h3:¬(0<=a/\a<=14):=h;simp only[K1,aM,h3,aQ,bE,Int.reduceNeg];simp[treMeet,h]
theorem ajK:ev E L (D+1) 157 [] []=some (.agg [.own (treNew.map rS)],[]):=by
 rw[auI];simp only[KM];simp(disch:=omega) only[K1,aV,bE,Int.reduceLE,↓aA,aE]
 rfl
theorem ajL(hL:1099511627776<=L)(ks:List S)(h15:ks.length=15):∀(n k:Nat),15-k<n->k<=15->AF L (D+305) n (ks.map rS) k=some (.bool ((ks.drop k).all fun k=>decide (k=[])||isKey k),[]):=by
 intro n;induction n with
 |zero=>intro k h;omega
 |succ n ih=>
  intro k hn hk;rw[NW];simp only[KM];by_cases h:k<15
  ·have h':(k:Int)<15:=by omega
   have e:=ih (k+1) (by omega) (by omega)
   have ha:bR .i64 (k:Int) 1=((k+1:Nat):Int):=aG k (by omega)
   rw[bU ks k (by omega)]
   simp(disch:=omega) only[K1,aQ,kI,bE,h',aW,rS,aP _ _ hL,ha,e,yb];generalize ix ks (k:Int)=x;by_cases hx:x=[]
   ·subst hx;simp
   ·rw[je (by simpa using hx)]
    by_cases hs:secOk x=true
    ·obtain⟨t,ht⟩:=v9.1 (show(sec x).isSome=true from hs)
     rw[je (by simpa using hs),cM _ _ hL x t ht]
     simp only[K1,Nat.reduceAdd,jC];have hm:aN x=t.how:=by unfold aN;rw[ht]
     unfold isKey;rw[hm];by_cases h3:t.how.op=3
     ·simp[h3,hx]
     ·simp[h3,hx]
    ·rw[jc (by simpa using hs)]
     have:(aN x).op=0:=lN.2 (by simpa using hs)
     simp[hx,isKey,this]
  ·have h':¬(k:Int)<15:=by omega
   simp only[K1,aQ,kI,bE,h'];rw[js (by omega)];rfl
theorem e9(hL:1099511627776<=L)(ks:List S):ev E L (D+306) 263 [.agg [.sl (ks.map rS)]] []=some (.bool (treOk ks),[]):=by
 rw[avG];simp only[KM];by_cases h:ks.length=15
 ·have h':(ks.length:Int)=15:=by omega
  simp only[K1,bE,↓aA,h'];have:=ajL L D hL ks h L 0 (by omega) (by omega)
  rw[show((0:Nat):Int)=0 from rfl,qb]at this
  rw[this];simp[treOk,h]
 ·have h':¬(ks.length:Int)=15:=by omega
  simp only[K1,bE,h'];simp[treOk,h]
end
end Kw.Sp
namespace Kw.Sp
open Go Go.Proofs
section
variable (L D:Nat)
theorem ups_rng:∀(i:Nat),i<=14->∀x∈ups i,0<=x/\x<=14:=by
 intro i;induction i using Nat.strongRecOn with
 |ind i ih=>
  intro hi x hx;rw[ups]at hx;split at hx
  ·simp at hx
  ·rcases ko.1 hx with e|hx
   ·subst e;omega
   ·exact ih _ (by omega) (by omega) x hx
theorem mF(n:Int):∀x∈bI n,0<=x/\x<=14:=by
 unfold bI;split
 ·rename_i h;exact ups_rng _ (by have:=h.1;have:=h.2;omega)
 ·simp
theorem SI:∀(i:Nat),(ups i).length<=i:=by
 intro i;induction i using Nat.strongRecOn with
 |ind i ih=>
  rw[ups];split
  ·simp
  ·have:=ih ((i-1)/2) (by omega)
   simp;omega
theorem cU(n:Int):(bI n).length<=14:=by
 unfold bI;split
 ·rename_i h;have:=SI n.toNat;have:=h.1;have:=h.2;omega
 ·simp
theorem AO(ks:List S)(h:ks.length<=1000000000000):ev E L (D+1) 170 [.agg [.sl (ks.map rS)]] []=some (.agg [.own (ks.map rS)],[]):=by
 rw[auV];simp only[KM];simp(disch:=omega) only[K1,aV,bE,iI,aR,↓aA,eJ,aE]
theorem YZ(hL:1099511627776<=L)(r1:List Row)(i3:Int)(up:List Int)(hup:∀x∈up,0<=x/\x<=14)(hl:up.length<=100):∀(n k:Nat) (ks:List S),up.length-k<n->k<=up.length->ks.length=15->
 FU L D n (ks.map rS) r1 ks.length i3 (up.map rI) k=some (.agg [.own (((up.drop k).foldl (fun ks n=>ks.set n.toNat []) ks).map rS)],[]):=by
 intro n;induction n with
 |zero=>intro k ks h;omega
 |succ n ih=>
  intro k ks hn hk h15;rw[OB];simp only[KM];by_cases h:k<up.length
  ·have h':(k:Int)<up.length:=by omega
   rw[bU up k h];obtain⟨x0,x1⟩:=hup (ix up (k:Int)) (by rw[aK up k h];exact jt h)
   have h2:ix up (k:Int)<ks.length:=by omega
   simp(disch:=omega) only[K1,bE,Int.reduceLE,↓aA,pJ,pK,kH,KB,aW,d8,aY,h',aG];have:=ih (k+1) (ks.set (ix up (k:Int)).toNat []) (by omega) (by omega) (by simp;exact h15)
   rw[ku]at this;rw[this];rfl
  ·have h':¬(k:Int)<up.length:=by omega
   simp only[K1,bE,↓aA,h'];rw[js (by omega)];rfl
theorem DG{w:Int}(h:aH w):treLeaf w=7+w:=je h
theorem V6(l:List Int):∀ks:List S,(l.foldl (fun ks n=>ks.set n.toNat []) ks).length=ks.length:=by
 induction l with
 |nil=>intro;rfl
 |cons a l ih=>intro ks;rw[List.foldl_cons,ih];simp
theorem clr_len(ks:List S)(w:Int):(clr ks w).length=ks.length:=V6 _ _
theorem BW(hL:1099511627776<=L)(ks:List S)(h15:ks.length=15)(w:Int)(hw:aH w):ev E L (D+3) 294 [.agg [.own (ks.map rS)],.int .i64 w] []=some (.agg [.own ((clr ks w).map rS)],[]):=by
 rw[avX];simp only[KM];obtain⟨h1,h2⟩:=id hw;have e:=DG hw;have hlt:(7+w:Int)<ks.length:=by omega
 simp(disch:=omega) only[K1,bD,BU _ _ hL,bE,Int.reduceLE,↓aA,pJ,pK,kH,KB,aW,e];have:=YZ L (D+2) hL [] 0 (bI (7+w)) (mF _) (by have:=cU (7+w);omega) L 0 (ks.set (7+w).toNat []) (by have:=cU (7+w);omega) (by omega) (by simp;exact h15)
 rw[ku]at this;rw[show((0:Nat):Int)=0 from rfl]at this
 rw[this,qb];unfold clr pathOf;rw[e];rfl
theorem ajM(hL:1099511627776<=L)(r1:List Row)(i3:Int)(up:List Int)(hup:∀x∈up,0<=x/\x<=14)(hl:up.length<=100):∀(n k:Nat) (ks:List S) (s:S),up.length-k<n->k<=up.length->ks.length=15->
 FF L (D+307) n (ks.map rS) r1 ks.length i3 (bs s) (up.map rI) k=some (.agg [.own ((mR (up.drop k) (makNext s) ks).map rS)],[]):=by
 intro n;induction n with
 |zero=>intro k ks s h;omega
 |succ n ih=>
  intro k ks s hn hk h15;rw[NK];simp only[KM];by_cases h:k<up.length
  ·have h':(k:Int)<up.length:=by omega
   rw[bU up k h];obtain⟨x0,x1⟩:=hup (ix up (k:Int)) (by rw[aK up k h];exact jt h)
   have h2:ix up (k:Int)<ks.length:=by omega
   simp(disch:=omega) only[K1,bE,Int.reduceLE,↓aA,pJ,pK,kH,KB,aW,d8,aY,h',aG,tG _ _ hL,eE _ _ hL];have:=ih (k+1) (ks.set (ix up (k:Int)).toNat (makKey (makNext s))) (makNext s) (by omega) (by omega) (by simp;exact h15)
   rw[ku]at this;rw[this];rfl
  ·have h':¬(k:Int)<up.length:=by omega
   simp only[K1,bE,↓aA,h'];rw[js (by omega)];rfl
theorem QB:∀(l:List Int) (s:S) (ks:List S),(mR l s ks).length=ks.length
 |[],_,_=>rfl
 |_::l,s,ks=>by rw[mR,QB l];simp
theorem SP(hL:1099511627776<=L)(ks:List S)(h15:ks.length=15)(w:Int)(hw:aH w)(s:S):ev E L (D+308) 156 [.agg [.own (ks.map rS)],.int .i64 w,.str (bs s)] []=some (.agg [.own ((B5 ks w s).map rS)],[]):=by
 rw[auH];simp only[KM];obtain⟨h1,h2⟩:=id hw;have e:=DG hw;have hlt:(7+w:Int)<ks.length:=by omega
 simp(disch:=omega) only[K1,bD,BU _ _ hL,eE _ _ hL,bE,Int.reduceLE,↓aA,pJ,pK,kH,KB,aW,e];have:=ajM L D hL [] 0 (bI (7+w)) (mF _) (by have:=cU (7+w);omega) L 0 (ks.set (7+w).toNat (makKey s)) s (by have:=cU (7+w);omega) (by omega) (by simp;exact h15)
 rw[ku]at this;rw[show((0:Nat):Int)=0 from rfl]at this
 rw[this,qb];unfold B5 pathOf;rw[e];rfl
theorem aeN(hL:1099511627776<=L)(up:List Int)(hl:up.length<=100):∀(n k:Nat) (acc:List Own) (s:S),up.length-k<n->k<=up.length->acc.length+up.length-k<=1000->
 FH L (D+307) n (acc.map rO) (bs s) acc.length (up.map rI) k=some (.sl ((acc++pathGo (up.drop k) (makNext s)).map rO),[]):=by
 intro n;induction n with
 |zero=>intro k acc s h;omega
 |succ n ih=>
  intro k acc s hn hk hb;rw[NL];simp only[KM];by_cases h:k<up.length
  ·have h':(k:Int)<up.length:=by omega
   rw[bU up k h];simp(disch:=omega) only[K1,jx,aV,aJ,bE,Nat.reduceAdd,oQ,aZ,aR,↓aA,d8,aY,WO,h',aG,tG _ _ hL,aE];have:=ih (k+1) (acc++[⟨ix up (k:Int),makNext s⟩]) (makNext s) (by omega) (by omega) (by simp;omega)
   rw[this];simp[pathGo]
  ·have h':¬(k:Int)<up.length:=by omega
   rw[show iLt (k:Int) (nrows (up.map rI))=false from by simpa using h',br_false',show iEq (acc.length:Int) (nrows (acc.map rO))=true from by simp,br_true',js (by omega)];simp[pathGo]
theorem qD(hL:1099511627776<=L)(n:Int)(s:S):ev E L (D+308) 158 [.int .i64 n,.str (bs s)] []=some (.sl ((aU n s).map rO),[]):=by
 rw[auJ];simp only[KM];simp only[K1,BU _ _ hL,Nat.reduceAdd,af7];have hh:=cU n;have:=aeN L D hL (bI n) (by omega) L 0 [⟨n,s⟩] s (by omega) (by omega) (by simp;omega)
 exact this
theorem ajN(b:Bool)(w e:Int)(kr:List Row)(own:List Own)(i t:ByteArray)(node:Int)(hl:own.length<=1000000):∀(n k:Nat),own.length-k<n->k<=own.length->
 FN L D n b w kr (own.map rO) e i t node k=some (.str (bs (dJ (own.drop k) node)),[]):=by
 intro n;induction n with
 |zero=>intro k h;omega
 |succ n ih=>
  intro k hn hk;rw[N1];simp only[KM];by_cases h:k<own.length
  ·have h':(k:Int)<own.length:=by omega
   rw[bU own k h];simp(disch:=omega) only[K1,bE,M1,B3,dY,h',aG,ih (k+1) (by omega) (by omega)]
   unfold dJ;rw[yj];by_cases hx:(ix own (k:Int)).node=node
   ·have hb:((ix own (k:Int)).node==node)=true:=by simpa using hx
    simp[hx]
   ·have hb:((ix own (k:Int)).node==node)=false:=by simpa using hx
    simp[hx,hb]
  ·have h':¬(k:Int)<own.length:=by omega
   simp only[K1,bE,h'];rw[js (by omega)];rfl
theorem JR(hL:1099511627776<=L)(b:Bool)(w e:Int)(kr:List Row)(own:List Own)(i t:ByteArray)(node:Int)(hl:own.length<=1000000):ev E L (D+1) 270 [.agg [.bool b,.int .i64 w,.sl kr,.sl (own.map rO),.int .i64 e,.str i,.str t],.int .i64 node] []=some (.str (bs (dJ own node)),[]):=by
 rw[avN];exact ajN L D b w e kr own i t node hl L 0 (by omega) (by omega)
theorem apA(l:List Int)(x:Int)(hl:l.length<=1000000):∀(n k:Nat),l.length-k<n->k<=l.length->
 FT L D n (l.map rI) x k=some (.bool (decide (x∈l.drop k)),[]):=by
 intro n;induction n with
 |zero=>intro k h;omega
 |succ n ih=>
  intro k hn hk;rw[N9];simp only[KM];by_cases h:k<l.length
  ·have h':(k:Int)<l.length:=by omega
   rw[bU l k h];simp(disch:=omega) only[K1,bE,d8,aY,h',aG,ih (k+1) (by omega) (by omega)]
   by_cases hx:ix l (k:Int)=x
   ·simp[hx]
   ·simp[hx,Ne.symm hx]
  ·have h':¬(k:Int)<l.length:=by omega
   simp only[K1,bE,h'];rw[js (by omega)];simp
theorem Y0(hL:1099511627776<=L)(l:List Int)(x:Int)(hl:l.length<=1000000):ev E L (D+1) 278 [.sl (l.map rI),.int .i64 x] []=some (.bool (decide (x∈l)),[]):=by
 rw[avV];exact apA L D l x hl L 0 (by omega) (by omega)
end
end Kw.Sp
namespace Kw.Sp
open Go Go.Proofs
section
variable (L D:Nat)
theorem eP{w:Int}(h:aH w):7<=treLeaf w/\treLeaf w<=14:=by rw[DG h];have:=h.1;have:=h.2;omega
theorem pathOf_rng{w:Int}(h:aH w):∀x∈pathOf w,0<=x/\x<=14:=by
 intro x hx;rcases ko.1 hx with e|hx
 ·subst e;have:=eP h;omega
 ·exact mF _ x hx
theorem eX(w:Int):(pathOf w).length<=15:=by have:=cU (treLeaf w);simp[pathOf];omega
theorem aeO(hL:1099511627776<=L)(w e:Int)(hw:aH w)(ks:List S)(h15:ks.length=15)(own:List Own)(i t:S)(hl:own.length<=1000000)(b:Bool):∀(n k:Nat),own.length-k<n->k<=own.length->
 AG L (D+307) n b w (ks.map rS) (own.map rO) e (bs i) (bs t) (treLeaf w) k=some (.bool ((List.range' k (own.length-k)).all (oK ⟨true,w,ks,own,e,i,t⟩)),[]):=by
 intro n;induction n with
 |zero=>intro k h;omega
 |succ n ih=>
  intro k hn hk;rw[NX];simp only[KM];by_cases h:k<own.length
  case neg=>
   have h':¬(k:Int)<own.length:=by omega
   simp only[K1,aQ,kI,mM,cN,bE,Int.reduceLE,oQ,h'];rw[show own.length-k=0 by omega];rfl
  have h':(k:Int)<own.length:=by omega
  have hle:(k:Int)<=own.length:=by omega
  have hk0:(0:Int)<=(k:Int):=by omega
  have e1:=ih (k+1) (by omega) (by omega)
  rw[show own.length-k=(own.length-(k+1))+1 by omega,List.range'_succ,yb]
  have hX:oK ⟨true,w,ks,own,e,i,t⟩ k=(decide ((ix own k).node∈pathOf w)&&(secOk (ix own k).sec&&(decide (ix ks (ix own k).node≠[])&&(decide (ix ks (ix own k).node=makKey (ix own k).sec)&&decide (dJ (own.take k) (ix own k).node=[]))))):=rfl;rw[hX];simp(disch:=omega) only[K1,aQ,kI,cZ,mM,cN,Int.reduceLE,ki,oQ,M1,B3,ax5,dY,h',aG,BU _ _ hL,aP _ _ hL];generalize ix own (k:Int)=o;have hup:=Y0 L (D+306) hL (bI (treLeaf w)) o.node (by have:=cU (treLeaf w);omega)
  have hmem:o.node∈pathOf w↔o.node=treLeaf w\/o.node∈bI (treLeaf w):=ko;by_cases hm:o.node∈pathOf w
  case neg=>
   have h1:¬o.node=treLeaf w:=fun e=>hm (hmem.2 (.inl e))
   have h2:¬o.node∈bI (treLeaf w):=fun e=>hm (hmem.2 (.inr e))
   simp only[K1,not_false_eq_true,h1,hup,h2,hm];simp
  obtain⟨x0,x1⟩:=pathOf_rng hw _ hm;have hlt:o.node<ks.length:=by omega
  have hown:=JR L (D+306) hL false 0 0 [] (own.take k) (bs []) (bs []) o.node (by simp;omega)
  have key:∀X:Option Res,br (decide ¬o.node=treLeaf w) (bnd (ev E L (D+307) 278 [.sl ((bI (treLeaf w)).map rI),.int .i64 o.node] []) fun r=>bnd (nY r.1) fun b=>br b X (some (.bool false,[]))) X=X:=fun X=>by
   by_cases h1:o.node=treLeaf w
   ·simp only[K1,not_true_eq_false,h1]
   ·have h2:o.node∈bI (treLeaf w):=(hmem.1 hm).resolve_left h1;simp only[K1,not_false_eq_true,h1,hup,h2]
  rw[key];by_cases hs:secOk o.sec=true
  case neg=>simp only[K1,bE,hs,hm];simp[hs]
  by_cases hk1:ix ks o.node=[]
  ·simp(disch:=omega) only[K1,bE,↓cD,dX,aW,hs,hk1];simp
  by_cases hk2:ix ks o.node=makKey o.sec
  case neg=>
   simp(disch:=omega) only[K1,bE,dX,aW,hs,hk1,eE _ _ hL,hk2];simp
  have hk3:¬makKey o.sec=[]:=hk2▸hk1;by_cases ho:dJ (own.take k) o.node=[]
  ·simp(disch:=omega) only[K1,bE,↓cD,dX,aW,hs,eE _ _ hL,hk2,hk3,hle,hk0,qb,Int.toNat_zero,hown,ho,e1,hm];simp[hk3]
  ·simp(disch:=omega) only[K1,bE,↓cD,dX,aW,hs,eE _ _ hL,hk2,hk3,hle,hk0,qb,Int.toNat_zero,hown,ho,hm];simp
theorem AP(hL:1099511627776<=L)(b:Bool)(w e:Int)(hw:aH w)(ks:List S)(h15:ks.length=15)(own:List Own)(i t:S)(hl:own.length<=1000000):ev E L (D+308) 264 [.agg [.bool b,.int .i64 w,.sl (ks.map rS),.sl (own.map rO),.int .i64 e,.str (bs i),.str (bs t)]] []=some (.bool (fitsAll ⟨true,w,ks,own,e,i,t⟩),[]):=by
 rw[avH];simp only[KM];simp only[K1,bD];have:=aeO L D hL w e hw ks h15 own i t hl b L 0 (by omega) (by omega)
 rw[show((0:Nat):Int)=0 from rfl]at this
 rw[this];unfold fitsAll;rw[List.range_eq_range'];rfl
theorem ajO(hL:1099511627776<=L)(w e:Int)(hw:aH w)(ks:List S)(h15:ks.length=15)(own:List Own)(i t:S)(hl:own.length<=1000000)(b:Bool)(path:List Int)(hp:∀x∈path,0<=x/\x<=14)(hpl:path.length<=100):∀(n k:Nat),path.length-k<n->k<=path.length->
 AH L (D+1) n (path.map rI) b w (ks.map rS) (own.map rO) e (bs i) (bs t) (treLeaf w) path.length k=some (.bool (((path.drop k).all fun n=>decide (ix ks n=[])||decide (dJ own n≠[]))&&decide (ix ks (treLeaf w)≠[])),[]):=by
 intro n;induction n with
 |zero=>intro k h;omega
 |succ n ih=>
  intro k hn hk;rw[NY];simp only[KM];obtain⟨g1,g2⟩:=eP hw;have glt:treLeaf w<ks.length:=by omega
  by_cases h:k<path.length
  case neg=>
   have h':¬(k:Int)<path.length:=by omega
   simp(disch:=omega) only[K1,aQ,bE,↓aA,dX,aW,h'];rw[js (by omega)];simp
  have h':(k:Int)<path.length:=by omega
  have e1:=ih (k+1) (by omega) (by omega)
  rw[bU path k h,yb];obtain⟨x0,x1⟩:=hp (ix path (k:Int)) (by rw[aK path k h];exact jt h)
  have hlt:ix path (k:Int)<ks.length:=by omega
  have hown:=JR L D hL b w e (ks.map rS) own (bs i) (bs t) (ix path (k:Int)) hl;by_cases hk1:ix ks (ix path (k:Int))=[]
  ·simp(disch:=omega) only[K1,aQ,bE,↓aA,↓cD,dX,aW,d8,bJ,aY,h',aG,hk1,e1];simp
  ·by_cases ho:dJ own (ix path (k:Int))=[]
   ·simp(disch:=omega) only[K1,aQ,bE,↓aA,↓cD,dX,aW,d8,bJ,aY,h',aG,hk1,hown,ho];simp
   ·simp(disch:=omega) only[K1,aQ,bE,↓aA,dX,aW,d8,bJ,aY,h',aG,hk1,hown,ho,e1];simp[ho]
theorem JS(hL:1099511627776<=L)(b:Bool)(w e:Int)(hw:aH w)(ks:List S)(h15:ks.length=15)(own:List Own)(i t:S)(hl:own.length<=1000000):ev E L (D+3) 265 [.agg [.bool b,.int .i64 w,.sl (ks.map rS),.sl (own.map rO),.int .i64 e,.str (bs i),.str (bs t)]] []=some (.bool (yU ⟨true,w,ks,own,e,i,t⟩),[]):=by
 rw[avI];simp only[KM];have hlen:=cU (treLeaf w);simp(disch:=omega) only[K1,bD,BU _ _ hL,aV,d7,bE,Nat.reduceAdd,lA,↓aA,OX,aE];have:=ajO L (D+1) hL w e hw ks h15 own i t hl b (pathOf w) (pathOf_rng hw) (by have:=eX w;omega) L 0 (by have:=eX w;omega) (by omega)
 rw[show((0:Nat):Int)=0 from rfl]at this
 exact this
theorem aAV{A:Type}(l:List A):((l.length:Int)=0)↔l=[]:=by rw[show((l.length:Int)=0)↔l.length=0 by omega];exact qe
theorem eA{ks:List S}(h:treOk ks=true):ks.length=15:=by
 unfold treOk at h;simp only[jg,jb]at h;exact h.1
theorem dV(hL:1099511627776<=L)(b:Bool)(w e:Int)(ks:List S)(own:List Own)(i t:S)(hl:own.length<=1000000):ev E L (D+309) 220 [.agg [.bool b,.int .i64 w,.sl (ks.map rS),.sl (own.map rO),.int .i64 e,.str (bs i),.str (bs t)]] []=some (.bool (memOk ⟨b,w,ks,own,e,i,t⟩),[]):=by
 rw[av0];simp only[KM];unfold memOk;cases b with
 |false=>
  simp only[K1,bE,aAV];by_cases h1:w=0
  case neg=>simp[h1]
  by_cases h2:ks=[]
  case neg=>simp[h2]
  by_cases h3:own=[]
  case neg=>simp[h3]
  by_cases h4:e=0
  case neg=>simp[h4]
  by_cases h5:i=[]
  case neg=>simp[h5]
  simp[h1,h2,h3,h4,h5]
 |true=>
  simp only[K1,bE,yk,aM];by_cases h1:aH w
  case neg=>
   have:¬(0<=w/\w<=7):=h1;simp only[qr,this];simp[h1]
  obtain⟨h1a,h1b⟩:=id h1;by_cases h2:treOk ks=true
  case neg=>simp only[K1,h1a,h1b,e9 _ _ hL,h2];simp[h2]
  have h15:=eA h2;by_cases h3:fitsAll ⟨true,w,ks,own,e,i,t⟩=true
  case neg=>simp only[K1,h1a,h1b,e9 _ _ hL,h2,AP _ _ hL true w e h1 ks h15 own i t hl,h3];simp[h3]
  by_cases h4:yU ⟨true,w,ks,own,e,i,t⟩=true
  case neg=>simp only[K1,h1a,h1b,e9 _ _ hL,h2,AP _ _ hL true w e h1 ks h15 own i t hl,h3,JS _ _ hL true w e h1 ks h15 own i t hl,h4];simp[h4]
  by_cases h5:0<=e/\e<=12
  case neg=>simp only[K1,h1a,h1b,e9 _ _ hL,h2,AP _ _ hL true w e h1 ks h15 own i t hl,h3,JS _ _ hL true w e h1 ks h15 own i t hl,h4,h5];simp[h5]
  obtain⟨h5a,h5b⟩:=id h5;by_cases h6:secOk i=true
  case neg=>simp only[K1,h1a,h1b,e9 _ _ hL,h2,AP _ _ hL true w e h1 ks h15 own i t hl,h3,JS _ _ hL true w e h1 ks h15 own i t hl,h4,h5a,h5b,aP _ _ hL,h6];simp[h6]
  simp only[K1,h1a,h1b,e9 _ _ hL,h2,AP _ _ hL true w e h1 ks h15 own i t hl,h3,JS _ _ hL true w e h1 ks h15 own i t hl,h4,h5a,h5b,aP _ _ hL,h6];simp[h1];omega
end
end Kw.Sp
namespace Kw.Sp
open Go Go.Proofs
section
variable (L D:Nat)
theorem V7{s:S}(h:¬secOk s=true):isKey s=false:=by
 have:(aN s).op=0:=lN.2 (by simpa using h)
 simp[isKey,this]
theorem nV(hL:1099511627776<=L)(s:S):ev E L (D+306) 266 [.str (bs s)] []=some (.bool (isKey s),[]):=by
 rw[avJ];simp only[KM];by_cases hs:secOk s=true
 ·obtain⟨t,ht⟩:=v9.1 (show(sec s).isSome=true from hs)
  simp only[K1,Nat.reduceAdd,aP _ _ hL,hs,cM _ _ hL s t ht,jC];unfold isKey aN;rw[ht]
 ·simp only[K1,aP _ _ hL,hs];rw[V7 hs]
theorem DH(ks:List S):∀(f n:Nat),n<=14->∀x∈coverN f ks n,0<=x/\x<=14
 |0,_,_,x,hx=>by simp[coverN]at hx
 |f+1,n,hn,x,hx=>by
  rw[coverN]at hx;split at hx
  ·simp at hx;subst hx;omega
  split at hx
  ·simp at hx
  ·rcases jv.1 hx with h|h
   ·exact DH ks f _ (by omega) x h
   ·exact DH ks f _ (by omega) x h
theorem nP(ks:List S):∀(f n:Nat),(coverN f ks n).length<=2^f
 |0,_=>by simp[coverN]
 |f+1,n=>by
  rw[coverN];have hp:1<=2^(f+1):=Nat.pow_pos (by omega)
  split
  ·simpa using hp
  split
  ·simp
  ·have h1:=nP ks f (2*n+1);have h2:=nP ks f (2*n+2);rw[jl,Nat.pow_succ];omega
theorem DI(ks:List S)(h15:ks.length=15):∀(f n D:Nat),n<=14->16<=(n+1)*2^f->f<=10->ev E L (D+f) 295 [.agg [.sl (ks.map rS)],.int .i64 n] []=some (.own ((coverN f ks n).map rI),[])
 |0,n,D,h,h',_=>by simp at h';omega
 |f+1,n,D,h,h',hf=>by
  rw[show D+(f+1)=(D+f)+1 by omega,avY];simp only[KM];rw[coverN]
  by_cases hk:ix ks (n:Int)=[]
  ·rw[jc (by simpa using hk)]
   by_cases h7:7<=n
   ·have h7':(7:Int)<=n:=by omega
    simp(disch:=omega) only[K1,↓aA,↓cD,dX,aW,hk,h7'];rw[je h7];rfl
   ·have h7':¬(7:Int)<=n:=by omega
    rw[jc h7];have e1:bR .i64 (nW .i64 2 (n:Int)) 1=((2*n+1:Nat):Int):=by rw[KE (by omega) (by omega),bA (by omega) (by omega)];omega
    have e2:bR .i64 (nW .i64 2 (n:Int)) 2=((2*n+2:Nat):Int):=by rw[KE (by omega) (by omega),bA (by omega) (by omega)];omega
    rw[Nat.pow_succ]at h';have p1:16<=(2*n+1+1)*2^f:=by rw[show 2*n+1+1=(n+1)*2 by omega,Nat.mul_assoc,yq 2];exact h'
    have p2:16<=(2*n+2+1)*2^f:=kb p1 (qn _ (by omega))
    have l1:=nP ks f (2*n+1);have l2:=nP ks f (2*n+2);have l3:2^f<=2^10:=Nat.pow_le_pow_right (by omega) (by omega)
    simp(disch:=omega) only[K1,aV,d7,lA,↓aA,↓cD,dX,aW,hk,h7',e1,e2,DI ks h15 f (2*n+1) D (by omega) p1 (by omega),DI ks h15 f (2*n+2) D (by omega) p2 (by omega),aE]
  ·rw[je (by simpa using hk)]
   simp(disch:=omega) only[K1,Nat.reduceAdd,↓aA,dX,aW,hk,OX]
theorem aeP(ks:List S)(h15:ks.length=15)(n:Int)(h:hJ n):ev E L (D+5) 295 [.agg [.sl (ks.map rS)],.int .i64 n] []=some (.own ((lW ks n).map rI),[]):=by
 obtain⟨h1,h2⟩:=h;obtain⟨k,rfl⟩:∃k:Nat,n=k:=⟨n.toNat,by omega⟩
 exact DI L ks h15 5 k D (by omega) (by omega) (by omega)
theorem JT(hL:1099511627776<=L)(b:Bool)(w e:Int)(ks:List S)(h15:b=true->ks.length=15)(own:List Own)(i t:S)(add remove:Int)(leaf key:S):ev E L (D+307) 222 [.agg [.bool b,.int .i64 w,.sl (ks.map rS),.sl (own.map rO),.int .i64 e,.str (bs i),.str (bs t)],.int .i64 add,.int .i64 remove,.str (bs leaf),.str (bs key)] []=some (.bool (may ⟨b,w,ks,own,e,i,t⟩ add remove leaf key),[]):=by
 rw[av2];simp only[KM];unfold may;cases b with
 |false=>simp only[K1];simp
 |true=>
  have h15:=h15 rfl;by_cases h1:12<=e
  ·have:¬e<12:=by omega
   simp only[K1,h1];simp[this]
  have h1':e<12:=by omega
  by_cases h2: -1<=add/\add<=7
  case neg=>
   have hs:¬(e<12/\bQ add w/\bQ remove w):=fun⟨_,⟨x,y,_⟩,_⟩=>h2 ⟨x,y⟩
   simp only[K1,Int.reduceNeg,h1,aM,h2];simp[hs]
  obtain⟨h2a,h2b⟩:=id h2;by_cases h3: -1<=remove/\remove<=7
  case neg=>
   have hs:¬(e<12/\bQ add w/\bQ remove w):=fun⟨_,_,⟨x,y,_⟩⟩=>h3 ⟨x,y⟩
   simp only[K1,Int.reduceNeg,h1,aM,h2a,h2b,h3];simp[hs]
  obtain⟨h3a,h3b⟩:=id h3;by_cases h4:add=w
  ·have hs:¬(e<12/\bQ add w/\bQ remove w):=fun⟨_,⟨_,_,z⟩,_⟩=>z h4
   have d1:decide (-1<=add/\add<=7)=true:=jd h2;have d2:decide (-1<=remove/\remove<=7)=true:=jd h3;have d3:decide (add=w)=true:=jd h4;simp only[hs];simp only[bnd_some',cZ,kI,br_true',br_false',gBool_b,iLe_dec,h1,decide_false,aM,d1,d2,iEq_dec,d3,z0,Bool.and_false]
  by_cases h5:remove=w
  ·have hs:¬(e<12/\bQ add w/\bQ remove w):=fun⟨_,_,⟨_,_,z⟩⟩=>z h5
   have d1:decide (-1<=add/\add<=7)=true:=jd h2;have d2:decide (-1<=remove/\remove<=7)=true:=jd h3;have d3:decide (remove=w)=true:=jd h5;have d4:decide (add=w)=false:=ji h4;simp only[hs];simp only[bnd_some',cZ,kI,br_true',br_false',gBool_b,iLe_dec,h1,decide_false,aM,d1,d2,iEq_dec,d3,d4,z0,Bool.and_false]
  have hs:(e<12/\bQ add w/\bQ remove w):=⟨h1',⟨h2a,h2b,h4⟩,⟨h3a,h3b,h5⟩⟩;have hadd:0<=add->0<=treLeaf add/\treLeaf add<ks.length:=fun h=>by
   have:=eP (w:=add) ⟨h,h2b⟩;omega
  have hrem:0<=remove->0<=treLeaf remove/\treLeaf remove<ks.length:=fun h=>by
   have:=eP (w:=remove) ⟨h,h3b⟩;omega
  simp only[hs,jy];unfold changes twoKeys;by_cases h6:0<=remove
  ·obtain⟨r1,r2⟩:=hrem h6;have h6':¬remove<0:=by omega
   by_cases h7:ix ks (treLeaf remove)=[]
   ·simp(disch:=omega) only[K1,Int.reduceNeg,↓cD,dX,aW,h1,aM,h2a,h2b,h3a,h3b,h4,h5,h6,bD,h7,h6',hasLeaf];simp
   by_cases h8:add<0
   ·by_cases l0:leaf=[]
    ·simp(disch:=omega) only[K1,true_and,Int.reduceNeg,↓cD,dX,aW,h1,aM,h2a,h2b,h3a,h3b,h4,h5,h6,bD,h7,h6',hasLeaf,h8,l0];simp[h7]
    ·simp(disch:=omega) only[K1,Ji,Int.reduceNeg,dX,aW,h1,aM,h2a,h2b,h3a,h3b,h4,h5,h6,bD,h7,h6',hasLeaf,h8,l0];simp[h7]
   obtain⟨a1,a2⟩:=hadd (by omega)
   by_cases h9:ix ks (treLeaf add)=[]
   ·simp(disch:=omega) only[K1,aQ,Int.reduceNeg,↓cD,dX,aW,h1,aM,h2a,h2b,h3a,h3b,h4,h5,h6,bD,h7,h6',hasLeaf,h8,h9,nV _ _ hL];cases isKey leaf<;>cases isKey key<;>simp[br,h7]
   by_cases h10:add=remove
   ·simp(disch:=omega) only[K1,aQ,Int.reduceNeg,dX,aW,h1,aM,h2a,h2b,h3a,h3b,h4,h5,h6,bD,h7,h6',hasLeaf,h8,h9,nV _ _ hL,jd h10];cases isKey leaf<;>cases isKey key<;>simp[br,h7]
   ·simp(disch:=omega) only[K1,Int.reduceNeg,dX,aW,h1,aM,h2a,h2b,h3a,h3b,h4,h5,h6,bD,h7,h6',hasLeaf,h8,h9,h10];simp[h7,h9]
  ·have h6':remove<0:=by omega
   by_cases h8:add<0
   ·by_cases l0:leaf=[]
    ·simp(disch:=omega) only[K1,true_and,Int.reduceNeg,↓cD,h1,aM,h2a,h2b,h3a,h3b,h4,h5,h6,h6',hasLeaf,h8,l0];simp
    ·simp(disch:=omega) only[K1,Ji,Int.reduceNeg,h1,aM,h2a,h2b,h3a,h3b,h4,h5,h6,h6',hasLeaf,h8,l0];simp
   obtain⟨a1,a2⟩:=hadd (by omega)
   have h10:¬add=remove:=by omega
   by_cases h9:ix ks (treLeaf add)=[]
   ·simp(disch:=omega) only[K1,aQ,Int.reduceNeg,↓cD,dX,aW,h1,aM,h2a,h2b,h3a,h3b,h4,h5,h6,bD,h6',hasLeaf,h8,h9,nV _ _ hL];cases isKey leaf<;>cases isKey key<;>simp[br]
   ·simp(disch:=omega) only[K1,Int.reduceNeg,dX,aW,h1,aM,h2a,h2b,h3a,h3b,h4,h5,h6,bD,h6',hasLeaf,h8,h9,h10];simp[h9]
end
end Kw.Sp
namespace Kw.Sp
open Go Go.Proofs
section
variable (L D:Nat)
def inR(n:Int):Prop:= -1<=n/\n<=7
theorem G6(ks:List S)(add remove:Int)(leaf:S):(baseT ks add remove leaf).length=ks.length:=by
 unfold baseT;simp only;split<;>split<;>simp[clr_len]
theorem MU(hL:1099511627776<=L)(ks:List S)(h15:ks.length=15)(add remove:Int)(leaf:S)(ha:inR add)(hr:inR remove):ev E L (D+4) 267 [.agg [.own (ks.map rS)],.int .i64 add,.int .i64 remove,.str (bs leaf)] []=some (.agg [.own ((baseT ks add remove leaf).map rS)],[]):=by
 rw[avK];simp only[KM];unfold baseT;simp only;by_cases h1:0<=remove
 ·have hw:aH remove:=⟨h1,hr.2⟩;rw[je h1];have c15:(clr ks remove).length=15:=by rw[clr_len];exact h15
  by_cases h2:0<=add
  ·have hv:aH add:=⟨h2,ha.2⟩;have d15:(clr (clr ks remove) add).length=15:=by rw[clr_len];exact c15
   obtain⟨g1,g2⟩:=eP hv;have glt:treLeaf add< (clr (clr ks remove) add).length:=by omega
   rw[je h2];simp(disch:=omega) only[K1,Int.reduceLE,Nat.reduceAdd,↓aA,pJ,pK,kH,KB,aW,h1,h2,BW _ _ hL ks h15 remove hw,BW _ _ hL _ c15 add hv,bD,ku]
  ·rw[jc h2];simp(disch:=omega) only[K1,Nat.reduceAdd,↓aA,h1,h2,BW _ _ hL ks h15 remove hw]
 ·rw[jc h1];by_cases h2:0<=add
  ·have hv:aH add:=⟨h2,ha.2⟩;have d15:(clr ks add).length=15:=by rw[clr_len];exact h15
   obtain⟨g1,g2⟩:=eP hv;have glt:treLeaf add< (clr ks add).length:=by omega
   rw[je h2];simp(disch:=omega) only[K1,Int.reduceLE,Nat.reduceAdd,↓aA,pJ,pK,kH,KB,aW,h1,h2,BW _ _ hL ks h15 add hv,bD,ku]
  ·rw[jc h2];simp(disch:=omega) only[K1,↓aA,h1,h2]
theorem aeQ(ks:List S)(h15:ks.length=15)(own:List Own)(add:Int)(cov:List Int)(hc:∀x∈cov,0<=x/\x<=14)(hcl:cov.length<=100000)(k n3:Nat)(hk:k+1<own.length)(hol:own.length<=100000):∀(n j:Nat) (acc:List Box),cov.length-j<n->j<=cov.length->acc.length+cov.length<=1000000+j->
 pZ L (D+5) n n3 (acc.map rB) (cov.map rI) (ks.map rS) (own.map rO) add acc.length k cov.length j=
 AI L (D+5) n3 ((acc++bL ks add (ix own ((k+1:Nat):Int)).sec (cov.drop j)).map rB) (ks.map rS) (own.map rO) add (acc++bL ks add (ix own ((k+1:Nat):Int)).sec (cov.drop j)).length ((k+1:Nat):Int):=by
 intro n;induction n with
 |zero=>intro j acc h;omega
 |succ n ih=>
  intro j acc hn hj hb;rw[N0];simp only[KM];by_cases h:j<cov.length
  case neg=>
   have h':¬(j:Int)<cov.length:=by omega
   simp(disch:=omega) only[K1,↓aA,h',aG];rw[js (by omega)]
   simp[bL]
  have h':(j:Int)<cov.length:=by omega
  obtain⟨x0,x1⟩:=hc (ix cov (j:Int)) (by rw[aK cov j h];exact jt h)
  have hlt:ix cov (j:Int)<ks.length:=by omega
  rw[bU cov j h];have hk1:bR .i64 (k:Int) 1=((k+1:Nat):Int):=aG k (by omega)
  have hj1:bR .i64 (j:Int) 1=((j+1:Nat):Int):=aG j (by omega)
  have key:∀b:Box,pZ L (D+5) n n3 ((acc++[b]).map rB) (cov.map rI) (ks.map rS) (own.map rO) add (acc++[b]).length k cov.length ((j+1:Nat):Int)=_:=fun b=>ih (j+1) (acc++[b]) (by omega) (by omega) (by simp;omega)
  by_cases h1:add<0
  ·have hf:bL ks add (ix own ((k+1:Nat):Int)).sec (ix cov (j:Int)::cov.drop (j+1))=⟨ix ks (ix cov (j:Int)),(ix own ((k+1:Nat):Int)).sec⟩::bL ks add (ix own ((k+1:Nat):Int)).sec (cov.drop (j+1)):=by simp[bL,h1]
   rw[hf];simp(disch:=omega) only[K1,jx,aV,aJ,Nat.reduceAdd,HD,aZ,aR,↓aA,dX,aW,d8,bJ,aY,B3,dY,af8,h',h1,hk1,hj1,aE];rw[key];simp
  ·by_cases h2:ix cov (j:Int)=treLeaf add
   ·have hf:bL ks add (ix own ((k+1:Nat):Int)).sec (ix cov (j:Int)::cov.drop (j+1))=bL ks add (ix own ((k+1:Nat):Int)).sec (cov.drop (j+1)):=by simp[bL,h1,h2]
    rw[hf];have c1:iEq (cov.length:Int) (nrows (cov.map rI))=true:=by simp
    have c2:iLt (j:Int) (nrows (cov.map rI))=true:=by simpa using h'
    have c3:iLt add 0=false:=by simpa using h1
    have c4:=aY (j:Int) cov (by omega) h'
    have c5:=bJ cov (j:Int) (by omega) h'
    have c6:iEq (ix cov (j:Int)) (treLeaf add)=true:=by rw[h2];exact iEq_self _
    rw[c1,c2,c3];simp only[br_true',bNot_f];rw[c4];simp only[bnd_some'];rw[c5];simp only[bnd_some',d8,gInt_i];rw[bD];simp only[bnd_some',gInt_i];rw[c6,hj1];simp only[bNot_t,br_false'];exact ih (j+1) acc (by omega) (by omega) (by omega)
   ·have hf:bL ks add (ix own ((k+1:Nat):Int)).sec (ix cov (j:Int)::cov.drop (j+1))=⟨ix ks (ix cov (j:Int)),(ix own ((k+1:Nat):Int)).sec⟩::bL ks add (ix own ((k+1:Nat):Int)).sec (cov.drop (j+1)):=by simp[bL,h2]
    rw[hf];simp(disch:=omega) only[K1,jx,aV,aJ,Nat.reduceAdd,HD,aZ,aR,↓aA,dX,aW,d8,bJ,aY,B3,dY,af8,h',h1,hk1,hj1,bD,h2,aE];rw[key];simp
theorem IA(ks:List S)(add:Int)(s:S)(cov:List Int):(bL ks add s cov).length<=cov.length:=by
 unfold bL;rw[kf];exact wq _ _
theorem ajP(hL:1099511627776<=L)(ks:List S)(h15:ks.length=15)(own:List Own)(add:Int)(hol:own.length<=1000)(ho:∀k:Nat,k+1<own.length->1<=(ix own (k:Int)).node/\(ix own (k:Int)).node<=14):∀(n k:Nat) (acc:List Box),own.length-k<n->k<=own.length->acc.length+32*(own.length-k)<=100000->
 AI L (D+5) n (acc.map rB) (ks.map rS) (own.map rO) add acc.length k=some (.sl ((acc++boxesGo ks add (own.drop k)).map rB),[]):=by
 intro n;induction n with
 |zero=>intro k acc h;omega
 |succ n ih=>
  intro k acc hn hk hb;rw[NZ];simp only[KM];have hk1:bR .i64 (k:Int) 1=((k+1:Nat):Int):=aG k (by omega)
  by_cases h:k+1<own.length
  case neg=>
   have h':¬((k+1:Nat):Int)<own.length:=by omega
   simp(disch:=omega) only[K1,↓aA,h',hk1];have:boxesGo ks add (own.drop k)=[]:=by
    rcases yo k own.length with hl|hl
    ·rw[bU own k hl,js (by omega)];rfl
    ·rw[js hl];rfl
   rw[this,ka]
  have h':((k+1:Nat):Int)<own.length:=by omega
  obtain⟨n1,n2⟩:=ho k h;have hs:hJ (bH (ix own (k:Int)).node):=by
   unfold bH hJ;rw[je ⟨n1,n2⟩];split<;>omega
  have hcr:∀x∈lW ks (bH (ix own (k:Int)).node),0<=x/\x<=14:=DH ks 5 _ (by have:=hs.1;have:=hs.2;omega)
  have hcl:(lW ks (bH (ix own (k:Int)).node)).length<=32:=nP ks 5 _;simp(disch:=omega) only[K1,M1,dY,h',hk1,aeM,aeP _ _ ks h15 _ hs];have:=aeQ L D ks h15 own add _ hcr (by omega) k n h (by omega) L 0 acc (by omega) (by omega) (by omega)
  rw[show((0:Nat):Int)=0 from rfl,qb]at this
  rw[this];have hbl:=IA ks add (ix own ((k+1:Nat):Int)).sec (lW ks (bH (ix own (k:Int)).node));rw[ih (k+1) _ (by omega) (by omega) (by rw[jl];omega)]
  rw[bU own k (by omega),bU own (k+1) h,boxesGo,qm]
theorem aeR(hL:1099511627776<=L)(ks:List S)(h15:ks.length=15)(own:List Own)(add:Int)(hol:own.length<=1000)(ho:∀k:Nat,k+1<own.length->1<=(ix own (k:Int)).node/\(ix own (k:Int)).node<=14):ev E L (D+6) 269 [.agg [.sl (ks.map rS)],.sl (own.map rO),.int .i64 add] []=some (.sl ((boxesGo ks add own).map rB),[]):=by
 rw[avM];have:=ajP L D hL ks h15 own add hol ho L 0 [] (by omega) (by omega) (by simp;omega)
 exact this
theorem wQ:∀(l:List Int) (s:S),(pathGo l s).map (·.node)=l
 |[],_=>rfl
 |a::l,s=>by rw[pathGo,yh,wQ l]
theorem kE(n:Int)(s:S):(aU n s).length=1+(bI n).length:=by
 have:=wo List.length (wQ (n::bI n) s);rw[kf]at this;rw[aU,this];simp;omega
theorem SQ(n:Int)(s:S)(k:Nat)(h:k< (aU n s).length):(ix (aU n s) (k:Int)).node=ix (n::bI n) (k:Int):=by
 have e:=wQ (n::bI n) s;have h2:k< (n::bI n).length:=by rw[kE]at h;simp;omega
 rw[aK _ _ h,aK _ _ h2];have:((aU n s).map (·.node))[k]'(by simpa using h)=(n::bI n)[k]:=by
  simp only[aU,e]
 simpa using this
theorem apB:∀(i:Nat),i<=14->∀k:Nat,k+1< (ups i).length->1<=ix (ups i) (k:Int):=by
 intro i;induction i using Nat.strongRecOn with
 |ind i ih=>
  intro hi k hk;rw[ups]at hk⊢;split at hk
  ·simp at hk
  ·rename_i h;rw[dif_neg h];cases k with
   |zero=>
    show(1:Int)<=(((i-1)/2:Nat):Int);rcases Nat.eq_zero_or_pos ((i-1)/2)with e|e
    ·rw[e,show ups 0=[] by rw[ups];rfl]at hk;simp at hk
    ·omega
   |succ k=>
    have:=ih ((i-1)/2) (by omega) (by omega) k (by simp at hk;omega)
    have e:ix ((((i-1)/2:Nat):Int)::ups ((i-1)/2)) ((k+1:Nat):Int)=ix (ups ((i-1)/2)) (k:Int):=by simp[ix]
    rw[e];exact this
theorem ajQ{n:Int}(h:1<=n/\n<=14):∀k:Nat,k+1< (n::bI n).length->1<=ix (n::bI n) (k:Int)/\ix (n::bI n) (k:Int)<=14:=by
 intro k hk;cases k with
 |zero=>exact h
 |succ k=>
  have e:ix (n::bI n) ((k+1:Nat):Int)=ix (bI n) (k:Int):=by simp[ix]
  have hk':k+1< (bI n).length:=by simp at hk;omega
  refine⟨?_,?_⟩
  ·rw[e];have ht:bI n=ups n.toNat:=je ⟨by omega,by omega⟩
   rw[ht]at hk'⊢;exact apB _ (by omega) k hk'
  ·rw[e,aK _ _ (by omega)]
   exact(mF n _ (jt _)).2
end
end Kw.Sp
namespace Kw.Sp
open Go Go.Proofs
section
variable (L D:Nat)
theorem MN(ks:List S)(w:Int)(s:S):(B5 ks w s).length=ks.length:=QB _ _ _
theorem JM(p s:S):(mk1 p s).length<=300:=by
 unfold mk1;split
 ·rename_i h;simp;exact h.2
 ·simp
theorem YK(hL:1099511627776<=L)(b:Bool)(w e:Int)(hw:aH w)(ks:List S)(h15:ks.length=15)(own:List Own)(i t:S)(fresh:S)(add remove:Int)(leaf key:S)(ha:inR add)(hr:inR remove)(he:0<=e/\e<=12)(ht:t.length<=300)(hf:fresh.length<=300):
 ev E L (D+309) 223 [.agg [.bool b,.int .i64 w,.sl (ks.map rS),.sl (own.map rO),.int .i64 e,.str (bs i),.str (bs t)],.str (bs fresh),.int .i64 add,.int .i64 remove,.str (bs leaf),.str (bs key)] []=
  some (.tup [.agg (rM (dG ⟨b,w,ks,own,e,i,t⟩ fresh add remove leaf key)),.agg (rC (eY ⟨b,w,ks,own,e,i,t⟩ fresh add remove leaf key))],[]):=by
 rw[av3];simp only[KM];obtain⟨l1,l2⟩:=eP hw;have hb15:(baseT ks add remove leaf).length=15:=by rw[G6];exact h15
 have hpl:=kE (treLeaf w) fresh;have htu:=cU (treLeaf w);have hpos:(0:Int)<=((aU (treLeaf w) fresh).length:Int)-1:=by omega
 have hlt:((aU (treLeaf w) fresh).length:Int)-1< (aU (treLeaf w) fresh).length:=by omega
 have hbox:=aeR L (D+302) hL (baseT ks add remove leaf) hb15 (aU (treLeaf w) fresh) add (by omega) (fun k hk=>by
  rw[SQ _ _ k (by omega)]
  exact ajQ ⟨by omega,by omega⟩ k (by rw[hpl]at hk;simp;omega))
 have hs15:(B5 (baseT ks add remove leaf) w fresh).length=15:=by rw[MN];exact hb15
 by_cases a0:0<=add
 ·have hadd:aH add:=⟨a0,ha.2⟩;simp(disch:=omega) only[K1,aV,dN,Nat.reduceAdd,iI,aR,↓aA,B3,dY,eJ,AO,MU _ _ hL ks h15 add remove leaf ha hr,bD,qD _ _ hL,SP _ _ hL _ hb15 w hw,tG _ _ hL,DF _ _ hL,hbox,a0,tH _ _ hL,d9,bA,aE,JR _ _ hL];simp[dG,eY,rM,rC,a0]
 ·simp(disch:=omega) only[K1,aV,dN,Nat.reduceAdd,iI,aR,↓aA,B3,dY,eJ,AO,MU _ _ hL ks h15 add remove leaf ha hr,bD,qD _ _ hL,SP _ _ hL _ hb15 w hw,tG _ _ hL,DF _ _ hL,hbox,a0,d9,bA,aE];simp[dG,eY,rM,rC,a0]
theorem m7{m:Member}(h:memOk m=true)(hi:m.inn=true):aH m.who/\treOk m.keys=true/\fitsAll m=true/\yU m=true/\(0<=m.epoch/\m.epoch<=12)/\secOk m.init=true/\m.tag.length<=300:=by
 unfold memOk at h;rw[jc (by rw[hi];simp)]at h
 simp only[jg,jb]at h;exact h
theorem kN:rM bC=[.bool false,.int .i64 0,.sl [],.sl [],.int .i64 0,.str (bs []),.str (bs [])]:=rfl
theorem P7:rC sF=[.int .i64 0,.str (bs []),.str (bs []),.int .i64 0,.int .i64 0,.str (bs []),.sl [],.sl [],.str (bs []),.str (bs []),.str (bs []),.str (bs []),.str (bs [])]:=rfl
theorem awS{m:Member}{add remove:Int}{leaf key:S}(h:may m add remove leaf key=true):m.inn=true/\inR add/\inR remove:=by
 unfold may at h;simp only[jg,jb]at h;obtain⟨h1,⟨_,⟨a,b,_⟩,c,d,_⟩,_⟩:=h;exact⟨h1,⟨a,b⟩,c,d⟩
theorem aiX{s:S}(h:(aN s).op=1):secOk s=true:=by
 cases e:secOk s with
 |true=>rfl
 |false=>rw[lN.2 e]at h;cases h
theorem VP(hL:1099511627776<=L)(b:Bool)(w e:Int)(ks:List S)(own:List Own)(i t:S)(hl:own.length<=1000000)(fresh:S)(add remove:Int)(leaf key:S)(ht:t.length<=1000000000):
 ev E L (D+310) 163 [.agg [.bool b,.int .i64 w,.sl (ks.map rS),.sl (own.map rO),.int .i64 e,.str (bs i),.str (bs t)],.str (bs fresh),.int .i64 add,.int .i64 remove,.str (bs leaf),.str (bs key)] []=
  some (.tup (match iA ⟨b,w,ks,own,e,i,t⟩ fresh add remove leaf key with
   |some (x,c)=>[.agg (rM x),.agg (rC c),.bool true]
   |none=>[.agg (rM bC),.agg (rC sF),.bool false]),[]):=by
 rw[auO];simp only[KM];unfold iA;have hno:∀h:cH ⟨b,w,ks,own,e,i,t⟩ fresh add remove leaf key=false,(match(if cH ⟨b,w,ks,own,e,i,t⟩ fresh add remove leaf key=true then some (dG ⟨b,w,ks,own,e,i,t⟩ fresh add remove leaf key,eY ⟨b,w,ks,own,e,i,t⟩ fresh add remove leaf key)else none)with
  |some (x,c)=>[MV.agg (rM x),.agg (rC c),.bool true]
  |none=>[.agg (rM bC),.agg (rC sF),.bool false])=[.agg (rM bC),.agg (rC sF),.bool false]:=fun h=>by rw[h];rfl
 by_cases h1:memOk ⟨b,w,ks,own,e,i,t⟩=true
 case neg=>
  rw[hno (by unfold cH;simp[h1])]
  simp only[K1,dV _ _ hL b w e ks own i t hl,h1,kN,P7]
 by_cases h2:secOk fresh=true
 case neg=>
  have:¬(aN fresh).op=1:=fun e=>h2 (aiX e)
  rw[hno (by unfold cH;simp[this])]
  simp only[K1,dV _ _ hL b w e ks own i t hl,h1,aP _ _ hL,h2,kN,P7]
 obtain⟨u,hu⟩:=v9.1 (show(sec fresh).isSome=true from h2)
 have hm:aN fresh=u.how:=by unfold aN;rw[hu]
 have hfl:=(SO hu).2.2.2;by_cases h3:u.how.op=1
 case neg=>
  rw[hno (by unfold cH;rw[hm];simp[h3])]
  simp only[K1,aQ,kI,not_true_eq_false,not_false_eq_true,Nat.reduceAdd,dV _ _ hL b w e ks own i t hl,h1,aP _ _ hL,h2,cM _ _ hL fresh u hu,jC,h3,kN,P7]
 have h15:b=true->ks.length=15:=fun hb=>by
  subst hb;exact eA (m7 h1 rfl).2.1
 by_cases h4:may ⟨b,w,ks,own,e,i,t⟩ add remove leaf key=true
 case neg=>
  rw[hno (by unfold cH;simp[h4])]
  simp only[K1,Nat.reduceAdd,↓aA,dV _ _ hL b w e ks own i t hl,h1,aP _ _ hL,h2,cM _ _ hL fresh u hu,jC,h3,JT _ _ hL b w e ks h15 own i t,h4,kN,P7]
 obtain⟨hb,ha,hr⟩:=awS h4;simp only at hb;subst hb;obtain⟨g1,g2,g3,g4,g5,g6,g7⟩:=m7 h1 rfl;simp only at g1 g5 g6 g7;by_cases h5:t.length+fresh.length<=300
 case neg=>
  have h5':(300:Int)< (t.length:Int)+fresh.length:=by omega
  rw[hno (by unfold cH;simp[h5])]
  simp(disch:=omega) only[K1,Nat.reduceAdd,↓aA,dV _ _ hL true w e ks own i t hl,h1,aP _ _ hL,h2,cM _ _ hL fresh u hu,jC,h3,JT _ _ hL true w e ks h15 own i t,h4,bA,h5',kN,P7]
 have h5':¬(300:Int)< (t.length:Int)+fresh.length:=by omega
 by_cases h6:i.length<=280
 case neg=>
  have h6':(280:Int)< (i.length:Int):=by omega
  rw[hno (by unfold cH;simp[h6])]
  simp(disch:=omega) only[K1,Nat.reduceAdd,↓aA,dV _ _ hL true w e ks own i t hl,h1,aP _ _ hL,h2,cM _ _ hL fresh u hu,jC,h3,JT _ _ hL true w e ks h15 own i t,h4,bA,h5',h6',kN,P7]
 have h6':¬(280:Int)< (i.length:Int):=by omega
 have hok:cH ⟨true,w,ks,own,e,i,t⟩ fresh add remove leaf key=true:=by
  unfold cH;rw[hm];simp[h1,h3,h4,h5,h6]
 rw[hok];simp(disch:=omega) only[K1,Nat.reduceAdd,↓aA,dV _ _ hL true w e ks own i t hl,h1,aP _ _ hL,h2,cM _ _ hL fresh u hu,jC,h3,JT _ _ hL true w e ks h15 own i t,h4,bA,h5',h6',YK _ _ hL true w e g1 ks (h15 rfl) own i t fresh add remove leaf key ha hr g5 (by omega) hfl,rM,rC]
end
end Kw.Sp
namespace Kw.Sp
open Go Go.Proofs
section
variable (L D:Nat)
theorem YL(hL:1099511627776<=L)(w:Int)(leaf init:S):ev E L (D+309) 94 [.int .i64 w,.str (bs leaf),.str (bs init)] []=some (.agg (rM (dP w leaf init)),[]):=by
 rw[azR];simp only[KM];unfold dP;by_cases h1:aH w
 case neg=>
  have h1':¬(0<=w/\w<=7):=h1;rw[jc (fun x=>h1 x.1)]
  simp only[K1,aM,h1',kN]
 obtain⟨h1a,h1b⟩:=id h1;by_cases h2:secOk leaf=true
 case neg=>rw[jc (fun x=>h2 x.2.1)];simp only[K1,aM,h1a,h1b,aP _ _ hL,h2,kN]
 by_cases h3:secOk init=true
 case neg=>rw[jc (fun x=>h3 x.2.2.1)];simp only[K1,aM,h1a,h1b,aP _ _ hL,h2,h3,kN]
 by_cases h4:leaf.length<=292
 case neg=>
  have h4':(292:Int)<leaf.length:=by omega
  rw[jc (fun x=>h4 x.2.2.2)];simp only[K1,aM,h1a,h1b,aP _ _ hL,h2,h3,h4',kN]
 have h4':¬(292:Int)<leaf.length:=by omega
 rw[je ⟨h1,h2,h3,h4⟩];simp only[K1,Nat.reduceAdd,↓aA,aM,h1a,h1b,aP _ _ hL,h2,h3,h4',ajK,SP _ _ hL treNew rfl w h1,bD,qD _ _ hL,rM]
theorem VQ(b:Bool)(w e:Int)(kr:List Row)(own:List Own)(i:S)(t:ByteArray)(hl:own.length<=1000000):∀(n k:Nat) (acc:List S),own.length-k<n->k<=own.length->acc.length+own.length<=10000000+k->
 FJ L D n (acc.map rS) b w kr (own.map rO) e (bs i) t acc.length k=some (.sl ((acc++((own.drop k).map (·.sec)++[i])).map rS),[]):=by
 intro n;induction n with
 |zero=>intro k acc h;omega
 |succ n ih=>
  intro k acc hn hk hb;rw[NN];simp only[KM];by_cases h:k<own.length
  ·have h':(k:Int)<own.length:=by omega
   rw[bU own k h];have:=ih (k+1) (acc++[(ix own (k:Int)).sec]) (by omega) (by omega) (by simp;omega)
   simp(disch:=omega) only[K1,jx,aV,aJ,Nat.reduceAdd,iI,aZ,aR,↓aA,af6,B3,dY,h',aG,aE,this];simp
  ·have h':¬(k:Int)<own.length:=by omega
   simp(disch:=omega) only[K1,jx,aV,aJ,Nat.reduceAdd,iI,aZ,aR,↓aA,af6,h',aE];rw[js (by omega)];simp
theorem YM(hL:1099511627776<=L)(b:Bool)(w e:Int)(ks:List S)(own:List Own)(i t:S)(hl:own.length<=1000000):ev E L (D+310) 164 [.agg [.bool b,.int .i64 w,.sl (ks.map rS),.sl (own.map rO),.int .i64 e,.str (bs i),.str (bs t)]] []=some (.sl ((cO ⟨b,w,ks,own,e,i,t⟩).map rS),[]):=by
 rw[auP];simp only[KM];unfold cO;by_cases h1:memOk ⟨b,w,ks,own,e,i,t⟩=true
 case neg=>
  rw[jc (fun x=>h1 x.1)]
  simp only[K1,↓aA,dV _ _ hL b w e ks own i t hl,h1];rfl
 cases b with
 |false=>
  rw[jc (fun x=>by cases x.2)]
  simp only[K1,↓aA,dV _ _ hL false w e ks own i t hl,h1];rfl
 |true=>
  rw[je ⟨h1,rfl⟩];simp only[K1,dV _ _ hL true w e ks own i t hl,h1];have:=VQ L (D+309) true w e (ks.map rS) own i (bs t) hl L 0 [] (by omega) (by omega) (by simp;omega)
  exact this
theorem YN(hL:1099511627776<=L)(l:List Box)(hl:l.length<=1000000):∀(n k:Nat),l.length-k<n->k<=l.length->
 FO L (D+305) n (l.map rB) k=some (.bool ((l.drop k).all fun x=>secOk x.key&&secOk x.sec),[]):=by
 intro n;induction n with
 |zero=>intro k h;omega
 |succ n ih=>
  intro k hn hk;rw[N2];simp only[KM];by_cases h:k<l.length
  ·have h':(k:Int)<l.length:=by omega
   have:=ih (k+1) (by omega) (by omega)
   rw[bU l k h,yb];by_cases h1:secOk (ix l (k:Int)).key=true
   ·by_cases h2:secOk (ix l (k:Int)).sec=true
    ·simp(disch:=omega) only[K1,ab7,ak2,rH,h',aG,aP _ _ hL,h1,h2,this,jy]
    ·simp(disch:=omega) only[K1,ab7,ak2,rH,h',aP _ _ hL,h1,h2];simp[h2]
   ·simp(disch:=omega) only[K1,ab7,rH,h',aP _ _ hL,h1];simp[h1]
  ·have h':¬(k:Int)<l.length:=by omega
   simp(disch:=omega) only[K1,h'];rw[js (by omega)];rfl
theorem iZ(hL:1099511627776<=L)(l:List Box):ev E L (D+306) 271 [.sl (l.map rB)] []=some (.bool (iQ l),[]):=by
 rw[avO];simp only[KM];unfold iQ;by_cases h:l.length<=400
 ·have h':¬(400:Int)<l.length:=by omega
  have:=YN L D hL l (by omega) L 0 (by omega) (by omega)
  rw[show((0:Nat):Int)=0 from rfl,qb]at this
  simp only[K1,h',this];simp[h]
 ·have h':(400:Int)<l.length:=by omega
  simp only[K1,h'];simp[h]
theorem ae1(a b:List S)(hl:a.length=b.length)(hb:b.length<=1000000):∀(n k:Nat),a.length-k<n->k<=a.length->
 FW L D n (b.map rS) (a.map rS) k=some (.bool (decide (a.drop k=b.drop k)),[]):=by
 intro n;induction n with
 |zero=>intro k h;omega
 |succ n ih=>
  intro k hn hk;rw[OD];simp only[KM];by_cases h:k<a.length
  ·have h':(k:Int)<a.length:=by omega
   have:=ih (k+1) (by omega) (by omega)
   rw[bU a k h,bU b k (by omega)]
   by_cases h1:ix a (k:Int)=ix b (k:Int)
   ·have hd:decide (¬ix a (k:Int)=ix b (k:Int))=false:=ji (fun x=>x h1)
    simp(disch:=omega) only[K1,aQ,dX,aW,h',aG,hd,this];rw[h1];simp
   ·simp(disch:=omega) only[K1,dX,aW,h',h1];simp[h1]
  ·have h':¬(k:Int)<a.length:=by omega
   simp(disch:=omega) only[K1,h'];rw[js (by omega),js (by omega)];simp
theorem aiY(hL:1099511627776<=L)(a b:List S)(hb:a.length<=1000000):ev E L (D+1) 297 [.sl (a.map rS),.agg [.sl (b.map rS)]] []=some (.bool (decide (a=b)),[]):=by
 rw[aw0];simp only[KM];by_cases h:a.length=b.length
 ·have h':(a.length:Int)=b.length:=by omega
  have hd:decide (¬(a.length:Int)=b.length)=false:=ji (fun x=>x h')
  have:=ae1 L D a b h (by omega) L 0 (by omega) (by omega)
  rw[show((0:Nat):Int)=0 from rfl,qb,qb]at this
  simp only[K1,aQ,hd,this]
 ·have h':¬(a.length:Int)=b.length:=by omega
  have:¬a=b:=fun e=>h (by rw[e])
  simp only[K1,h',this]
theorem YO(o:Own)(r:List Own)(k:S):oR (o::r) k=(decide (makKey o.sec=k)||oR r k):=rfl
theorem ae2(hL:1099511627776<=L)(b:Bool)(w e:Int)(kr:List Row)(own:List Own)(i t:ByteArray)(hl:own.length<=1000000)(bx:List Box)(hbl:bx.length<=1000000):∀(m k:Nat),bx.length-k<m->k<=bx.length->
 FQ L (D+307) m b w kr (own.map rO) e i t (bx.map rB) k=some (.str (bs (bP own (bx.drop k))),[]):=by
 intro m;induction m with
 |zero=>intro k h;omega
 |succ m ihm=>
  intro k hm hk;rw[N4];simp only[KM];by_cases h:k<bx.length
  case neg=>
   have h':¬(k:Int)<bx.length:=by omega
   simp(disch:=omega) only[K1,h'];rw[js (by omega)];rfl
  have h':(k:Int)<bx.length:=by omega
  have next:=ihm (k+1) (by omega) (by omega)
  rw[bU bx k h];have inner:∀(n j:Nat),own.length-j<n->j<=own.length->FR L (D+307) n m b w kr (own.map rO) e i t (bx.map rB) k j=some (.str (bs (if oR (own.drop j) (ix bx (k:Int)).key=true then(ix bx (k:Int)).sec else bP own (bx.drop (k+1)))),[]):=by
   intro n;induction n with
   |zero=>intro j h;omega
   |succ n ih=>
    intro j hn hj;rw[N5];simp only[KM];by_cases g:j<own.length
    ·have g':(j:Int)<own.length:=by omega
     have:=ih (j+1) (by omega) (by omega)
     rw[bU own j g,YO];by_cases g1:makKey (ix own (j:Int)).sec=(ix bx (k:Int)).key
     ·have hd:decide (makKey (ix own (j:Int)).sec=(ix bx (k:Int)).key)=true:=jd g1;simp(disch:=omega) only[K1,B3,dY,ab7,ak2,rH,g',eE _ _ hL,hd];simp
     ·simp(disch:=omega) only[K1,B3,dY,ab7,rH,g',aG,eE _ _ hL,g1,this];simp
    ·have g':¬(j:Int)<own.length:=by omega
     simp(disch:=omega) only[K1,g',aG,next];have:own.drop j=[]:=js (by omega)
     rw[this];rfl
  have:=inner L 0 (by omega) (by omega)
  rw[show((0:Nat):Int)=0 from rfl,qb]at this
  simp(disch:=omega) only[K1,h',this]
  rfl
theorem aiZ(hL:1099511627776<=L)(b:Bool)(w e:Int)(kr:List Row)(own:List Own)(i t:ByteArray)(hl:own.length<=1000000)(bx:List Box)(hbl:bx.length<=1000000):ev E L (D+308) 273 [.agg [.bool b,.int .i64 w,.sl kr,.sl (own.map rO),.int .i64 e,.str i,.str t],.sl (bx.map rB)] []=some (.str (bs (bP own bx)),[]):=by
 rw[avQ];exact ae2 L D hL b w e kr own i t hl bx hbl L 0 (by omega) (by omega)
def wN(own:List Own):Prop:=∀o∈own,0<=o.node/\o.node<=14
theorem VR{own:List Own}(h:wN own){k:Nat}(hk:k<own.length):0<=(ix own (k:Int)).node/\(ix own (k:Int)).node<=14:=h _ (by rw[aK own k hk];exact jt hk)
theorem ae3(hL:1099511627776<=L)(b:Bool)(w e:Int)(kr:List Row)(own:List Own)(hno:wN own)(i t:ByteArray)(hl:own.length<=1000000)(ks:List S)(h15:ks.length=15):∀(n k:Nat) (acc:List Own),own.length-k<n->k<=own.length->acc.length+own.length<=10000000+k->
 AJ L (D+307) n (acc.map rO) b w kr (own.map rO) e i t (ks.map rS) acc.length k=some (.own ((acc++sG ks (own.drop k)).map rO),[]):=by
 intro n;induction n with
 |zero=>intro k acc h;omega
 |succ n ih=>
  intro k acc hn hk hb;rw[N7];simp only[KM];by_cases h:k<own.length
  ·have h':(k:Int)<own.length:=by omega
   obtain⟨x0,x1⟩:=VR hno h;rw[bU own k h];by_cases h1:ix ks (ix own (k:Int)).node=makKey (ix own (k:Int)).sec
   ·have hd:decide (ix ks (ix own (k:Int)).node=makKey (ix own (k:Int)).sec)=true:=jd h1;have:=ih (k+1) (acc++[ix own (k:Int)]) (by omega) (by omega) (by simp;omega)
    have e1:(⟨(ix own (k:Int)).node,(ix own (k:Int)).sec⟩:Own)=ix own (k:Int):=rfl;simp(disch:=omega) only[K1,jx,aV,aJ,Nat.reduceAdd,oQ,aZ,aR,↓aA,dX,aW,M1,B3,WO,dY,h',aG,eE _ _ hL,hd,aE,e1,this];simp[sG,h1]
   ·have:=ih (k+1) acc (by omega) (by omega) (by omega)
    simp(disch:=omega) only[K1,dX,aW,M1,B3,dY,h',aG,eE _ _ hL,h1,this];simp[sG,h1]
  ·have h':¬(k:Int)<own.length:=by omega
   rw[show iLt (k:Int) (nrows (own.map rO))=false from by simpa using h',br_false',show iEq (acc.length:Int) (nrows (acc.map rO))=true from by simp,br_true',js (by omega)];simp[sG]
theorem aj0(hL:1099511627776<=L)(b:Bool)(w e:Int)(kr:List Row)(own:List Own)(hno:wN own)(i t:ByteArray)(hl:own.length<=1000000)(ks:List S)(h15:ks.length=15):ev E L (D+308) 275 [.agg [.bool b,.int .i64 w,.sl kr,.sl (own.map rO),.int .i64 e,.str i,.str t],.agg [.sl (ks.map rS)]] []=some (.own ((sG ks own).map rO),[]):=by
 rw[avS];exact ae3 L D hL b w e kr own hno i t hl ks h15 L 0 [] (by omega) (by omega) (by simp;omega)
theorem YP(hL:1099511627776<=L)(path:List Own)(hno:wN path)(hl:path.length<=1000000)(ks:List S)(h15:ks.length=15):∀(n k:Nat),path.length-k<n->k<=path.length->
 FS L (D+307) n (ks.map rS) (path.map rO) k=some (.bool (eZ ks (path.drop k)),[]):=by
 intro n;induction n with
 |zero=>intro k h;omega
 |succ n ih=>
  intro k hn hk;rw[N6];simp only[KM];by_cases h:k<path.length
  ·have h':(k:Int)<path.length:=by omega
   obtain⟨x0,x1⟩:=VR hno h;have:=ih (k+1) (by omega) (by omega)
   rw[bU path k h];by_cases h1:ix ks (ix path (k:Int)).node=makKey (ix path (k:Int)).sec
   ·have hd:decide (¬ix ks (ix path (k:Int)).node=makKey (ix path (k:Int)).sec)=false:=ji (fun x=>x h1)
    simp(disch:=omega) only[K1,aQ,dX,aW,M1,B3,dY,h',aG,eE _ _ hL,hd,this];simp[eZ,h1]
   ·simp(disch:=omega) only[K1,dX,aW,M1,B3,dY,h',eE _ _ hL,h1];simp[eZ,h1]
  ·have h':¬(k:Int)<path.length:=by omega
   simp(disch:=omega) only[K1,h'];rw[js (by omega)];rfl
theorem ae4(hL:1099511627776<=L)(path:List Own)(hno:wN path)(hl:path.length<=1000000)(ks:List S)(h15:ks.length=15):ev E L (D+308) 274 [.agg [.sl (ks.map rS)],.sl (path.map rO)] []=some (.bool (eZ ks path),[]):=by
 rw[avR];exact YP L D hL path hno hl ks h15 L 0 (by omega) (by omega)
theorem YQ(b:Bool)(w e:Int)(kr:List Row)(own:List Own)(i t:ByteArray)(hl:own.length<=1000000)(path:List Own)(hpl:path.length<=1000000)(hL:1099511627776<=L):∀(n k:Nat) (acc:List Own),own.length-k<n->k<=own.length->acc.length+own.length<=10000000+k->
 AK L (D+1) n (acc.map rO) b w kr (own.map rO) e i t (path.map rO) acc.length k=some (.sl ((acc++oA (own.drop k) path).map rO),[]):=by
 intro n;induction n with
 |zero=>intro k acc h;omega
 |succ n ih=>
  intro k acc hn hk hb;rw[N8];simp only[KM];by_cases h:k<own.length
  ·have h':(k:Int)<own.length:=by omega
   rw[bU own k h];have ho:=JR L D hL false 0 0 [] path (bs []) (bs []) (ix own (k:Int)).node hpl;by_cases h1:dJ path (ix own (k:Int)).node=[]
   ·have:=ih (k+1) (acc++[ix own (k:Int)]) (by omega) (by omega) (by simp;omega)
    have e1:(⟨(ix own (k:Int)).node,(ix own (k:Int)).sec⟩:Own)=ix own (k:Int):=rfl;simp(disch:=omega) only[K1,jx,aV,aJ,Nat.reduceAdd,oQ,aZ,aR,↓aA,↓cD,M1,B3,WO,dY,h',aG,ho,h1,aE,e1,this];simp[oA,h1]
   ·have:=ih (k+1) acc (by omega) (by omega) (by omega)
    simp(disch:=omega) only[K1,M1,dY,h',aG,ho,h1,this];simp[oA,h1]
  ·have h':¬(k:Int)<own.length:=by omega
   rw[show iLt (k:Int) (nrows (own.map rO))=false from by simpa using h',br_false',show iEq (acc.length:Int) (nrows (acc.map rO))=true from by simp,br_true',js (by omega)];simp[oA]
theorem ae5(hL:1099511627776<=L)(b:Bool)(w e:Int)(kr:List Row)(own:List Own)(i t:ByteArray)(hl:own.length<=1000000)(path:List Own)(hpl:path.length<=1000000):ev E L (D+2) 276 [.agg [.bool b,.int .i64 w,.sl kr,.sl (own.map rO),.int .i64 e,.str i,.str t],.sl (path.map rO)] []=some (.sl ((oA own path).map rO),[]):=by
 rw[avT];exact YQ L D b w e kr own i t hl path hpl hL L 0 [] (by omega) (by omega) (by simp;omega)
end
end Kw.Sp
namespace Kw.Sp
open Go Go.Proofs
section
variable (L D:Nat)
theorem jJ(hL:1099511627776<=L)(c0:Int)(c1 c2:S)(c3 c4:Int)(c5:S)(c6:List S)(c7:List Box)(c8 c9 c10 c11 c12:S)(ht:c1.length<=1000000000):ev E L (D+307) 226 [.agg [.int .i64 c0,.str (bs c1),.str (bs c2),.int .i64 c3,.int .i64 c4,.str (bs c5),.sl (c6.map rS),.sl (c7.map rB),.str (bs c8),.str (bs c9),.str (bs c10),.str (bs c11),.str (bs c12)]] []=some (.bool (cP ⟨c0,c1,c2,c3,c4,c5,c6,c7,c8,c9,c10,c11,c12⟩),[]):=by
 rw[av6];simp only[KM];unfold cP;by_cases h1:aH c0
 case neg=>
  have h1':¬(0<=c0/\c0<=7):=h1;simp only[K1,aM,h1'];simp[h1]
 obtain⟨h1a,h1b⟩:=id h1;by_cases h2:secOk c2=true
 case neg=>
  have:¬(aN c2).op=1:=fun e=>h2 (aiX e)
  simp only[K1,aM,h1a,h1b,aP _ _ hL,h2];simp[this]
 obtain⟨u,hu⟩:=v9.1 (show(sec c2).isSome=true from h2)
 have hm:aN c2=u.how:=by unfold aN;rw[hu]
 have hfl:=(SO hu).2.2.2;by_cases h3:u.how.op=1
 case neg=>simp only[K1,aQ,kI,mM,aV,not_true_eq_false,not_false_eq_true,Int.reduceNeg,Nat.reduceAdd,aM,h1a,h1b,aP _ _ hL,h2,cM _ _ hL c2 u hu,jC,h3];simp[hm,h3]
 by_cases h4:c1.length+c2.length<=300
 case neg=>
  have h4':(300:Int)< (c1.length:Int)+c2.length:=by omega
  simp(disch:=omega) only[K1,Nat.reduceAdd,↓aA,aM,h1a,h1b,aP _ _ hL,h2,cM _ _ hL c2 u hu,jC,h3,bA,h4'];simp[h4]
 have h4':¬(300:Int)< (c1.length:Int)+c2.length:=by omega
 by_cases h5: -1<=c3/\c3<=7
 case neg=>
  have hs:¬bQ c3 c0:=fun⟨x,y,_⟩=>h5 ⟨x,y⟩
  simp(disch:=omega) only[K1,Int.reduceNeg,Nat.reduceAdd,↓aA,aM,h1a,h1b,aP _ _ hL,h2,cM _ _ hL c2 u hu,jC,h3,bA,h4',h5];simp[hs]
 obtain⟨h5a,h5b⟩:=id h5;by_cases h6: -1<=c4/\c4<=7
 case neg=>
  have hs:¬bQ c4 c0:=fun⟨x,y,_⟩=>h6 ⟨x,y⟩
  simp(disch:=omega) only[K1,Int.reduceNeg,Nat.reduceAdd,↓aA,aM,h1a,h1b,aP _ _ hL,h2,cM _ _ hL c2 u hu,jC,h3,bA,h4',h5a,h5b,h6];simp[hs]
 obtain⟨h6a,h6b⟩:=id h6;by_cases h7:c3=c0
 ·have hs:¬bQ c3 c0:=fun⟨_,_,z⟩=>z h7
  have hd:decide (¬c3=c0)=false:=ji (fun x=>x h7)
  simp(disch:=omega) only[K1,aQ,Int.reduceNeg,Nat.reduceAdd,↓aA,aM,h1a,h1b,aP _ _ hL,h2,cM _ _ hL c2 u hu,jC,h3,bA,h4',h5a,h5b,h6a,h6b,hd];simp[hs]
 by_cases h8:c4=c0
 ·have hs:¬bQ c4 c0:=fun⟨_,_,z⟩=>z h8
  have hd:decide (c4=c0)=true:=jd h8;simp(disch:=omega) only[K1,Int.reduceNeg,Nat.reduceAdd,↓aA,aM,h1a,h1b,aP _ _ hL,h2,cM _ _ hL c2 u hu,jC,h3,bA,h4',h5a,h5b,h6a,h6b,h7,hd];simp[hs]
 have first:decide (aH c0/\(aN c2).op=1/\c1.length+c2.length<=300/\bQ c3 c0/\bQ c4 c0)=true:=jd ⟨h1,by rw[hm];exact h3,h4,⟨h5a,h5b,h7⟩,⟨h6a,h6b,h8⟩⟩
 simp only[first,jy];by_cases h9:treOk c6=true
 case neg=>
  simp(disch:=omega) only[K1,Int.reduceNeg,Nat.reduceAdd,↓aA,aM,h1a,h1b,aP _ _ hL,h2,cM _ _ hL c2 u hu,jC,h3,bA,h4',h5a,h5b,h6a,h6b,h7,h8,e9 _ _ hL,h9];simp[h9]
 by_cases h10:iQ c7=true
 case neg=>
  simp(disch:=omega) only[K1,Int.reduceNeg,Nat.reduceAdd,↓aA,aM,h1a,h1b,aP _ _ hL,h2,cM _ _ hL c2 u hu,jC,h3,bA,h4',h5a,h5b,h6a,h6b,h7,h8,e9 _ _ hL,h9,iZ _ _ hL,h10];simp[h9]
 by_cases h11:c7.length<=20
 case neg=>
  have h11':(20:Int)<c7.length:=by omega
  simp(disch:=omega) only[K1,Int.reduceNeg,Nat.reduceAdd,↓aA,aM,h1a,h1b,aP _ _ hL,h2,cM _ _ hL c2 u hu,jC,h3,bA,h4',h5a,h5b,h6a,h6b,h7,h8,e9 _ _ hL,h9,iZ _ _ hL,h10,h11'];simp[h11]
 have h11':¬(20:Int)<c7.length:=by omega
 by_cases h12:c3<0
 ·by_cases h13:c5=[]
  ·simp(disch:=omega) only[K1,mM,aV,true_and,Int.reduceNeg,Nat.reduceAdd,↓aA,↓cD,aM,h1a,h1b,aP _ _ hL,h2,cM _ _ hL c2 u hu,jC,h3,bA,h4',h5a,h5b,h6a,h6b,h7,h8,e9 _ _ hL,h9,iZ _ _ hL,h10,h11',h12,h13];simp[h11,Bool.and_assoc]
  ·simp(disch:=omega) only[K1,Ji,Int.reduceNeg,Nat.reduceAdd,↓aA,aM,h1a,h1b,aP _ _ hL,h2,cM _ _ hL c2 u hu,jC,h3,bA,h4',h5a,h5b,h6a,h6b,h7,h8,e9 _ _ hL,h9,iZ _ _ hL,h10,h11',h12,h13];simp[h11]
 by_cases k1:isKey c5=true
 case neg=>
  simp(disch:=omega) only[K1,aQ,Int.reduceNeg,Nat.reduceAdd,↓aA,aM,h1a,h1b,aP _ _ hL,h2,cM _ _ hL c2 u hu,jC,h3,bA,h4',h5a,h5b,h6a,h6b,h7,h8,e9 _ _ hL,h9,iZ _ _ hL,h10,h11',h12,nV _ _ hL,k1];simp[h11]
 by_cases k2:isKey c8=true
 case neg=>
  simp(disch:=omega) only[K1,aQ,Int.reduceNeg,Nat.reduceAdd,↓aA,aM,h1a,h1b,aP _ _ hL,h2,cM _ _ hL c2 u hu,jC,h3,bA,h4',h5a,h5b,h6a,h6b,h7,h8,e9 _ _ hL,h9,iZ _ _ hL,h10,h11',h12,nV _ _ hL,k1,k2];simp[h11]
 by_cases k3:c5=c8
 ·have hd:decide (¬c5=c8)=false:=ji (fun x=>x k3)
  simp(disch:=omega) only[K1,aQ,Int.reduceNeg,Nat.reduceAdd,↓aA,aM,h1a,h1b,aP _ _ hL,h2,cM _ _ hL c2 u hu,jC,h3,bA,h4',h5a,h5b,h6a,h6b,h7,h8,e9 _ _ hL,h9,iZ _ _ hL,h10,h11',h12,nV _ _ hL,k1,k2,hd];simp[h11,k3]
 by_cases k4:c9=c8
 case neg=>
  simp(disch:=omega) only[K1,Ji,and_false,Int.reduceNeg,Nat.reduceAdd,↓aA,aM,h1a,h1b,aP _ _ hL,h2,cM _ _ hL c2 u hu,jC,h3,bA,h4',h5a,h5b,h6a,h6b,h7,h8,e9 _ _ hL,h9,iZ _ _ hL,h10,h11',h12,nV _ _ hL,k1,k2,k3,k4];simp[h11]
 by_cases k5:c11=c8
 case neg=>
  have hd4:decide (c9=c8)=true:=jd k4;simp(disch:=omega) only[K1,and_false,Int.reduceNeg,Nat.reduceAdd,↓aA,aM,h1a,h1b,aP _ _ hL,h2,cM _ _ hL c2 u hu,jC,h3,bA,h4',h5a,h5b,h6a,h6b,h7,h8,e9 _ _ hL,h9,iZ _ _ hL,h10,h11',h12,nV _ _ hL,k1,k2,k3,hd4,k5];simp[h11]
 have hd4:decide (c9=c8)=true:=jd k4;have hd5:decide (c11=c8)=true:=jd k5;by_cases k6:secOk c10=true
 ·simp(disch:=omega) only[K1,Int.reduceNeg,Nat.reduceAdd,↓aA,aM,h1a,h1b,aP _ _ hL,h2,cM _ _ hL c2 u hu,jC,h3,bA,h4',h5a,h5b,h6a,h6b,h7,h8,e9 _ _ hL,h9,iZ _ _ hL,h10,h11',h12,nV _ _ hL,k1,k2,k3,hd4,hd5,k6];simp[h11,k3,k4,k5]
 ·simp(disch:=omega) only[K1,Int.reduceNeg,Nat.reduceAdd,↓aA,aM,h1a,h1b,aP _ _ hL,h2,cM _ _ hL c2 u hu,jC,h3,bA,h4',h5a,h5b,h6a,h6b,h7,h8,e9 _ _ hL,h9,iZ _ _ hL,h10,h11',h12,nV _ _ hL,k1,k2,k3,hd4,hd5,k6];simp[h11,k3,k4,k5]
theorem ae6(c0:Int)(c1 c2:S)(c3 c4:Int)(c5:S)(c6:List S)(c7:List Box)(c8 c9 c10 c11 c12:S)(hL:1099511627776<=L)(h6:c6.length=15)(hs:aH c0)(path:List Int)(hp:∀x∈path,0<=x/\x<=14)(hpl:path.length<=100):∀(n k:Nat) (ks:List S),path.length-k<n->k<=path.length->ks.length=15->
 FP L (D+1) n (ks.map rS) (path.map rI) c0 (bs c1) (bs c2) c3 c4 (bs c5) (c6.map rS) (c7.map rB) (bs c8) (bs c9) (bs c10) (bs c11) (bs c12) ks.length path.length k=some (.bool (decide (c6=lJ c6 (path.drop k) ks)),[]):=by
 intro n;induction n with
 |zero=>intro k ks h;omega
 |succ n ih=>
  intro k ks hn hk h15;rw[N3];simp only[KM];by_cases h:k<path.length
  ·have h':(k:Int)<path.length:=by omega
   obtain⟨x0,x1⟩:=hp (ix path (k:Int)) (by rw[aK path k h];exact jt h)
   have g1:ix path (k:Int)<c6.length:=by omega
   have g2:ix path (k:Int)<ks.length:=by omega
   have:=ih (k+1) (ks.set (ix path (k:Int)).toNat (ix c6 (ix path (k:Int)))) (by omega) (by omega) (by simp;exact h15)
   rw[ku]at this;rw[bU path k h];simp(disch:=omega) only[K1,Int.reduceLE,↓aA,dX,pJ,pK,kH,KB,aW,d8,bJ,aY,h',aG,this]
   rfl
  ·have h':¬(k:Int)<path.length:=by omega
   simp(disch:=omega) only[K1,↓aA,h',aiY _ _ hL];rw[js (by omega)];rfl
theorem mG{c:Commit}(h:cP c=true):aH c.sender/\(aN c.name).op=1/\c.tag.length+c.name.length<=300/\bQ c.add c.sender/\bQ c.remove c.sender/\treOk c.keys=true/\iQ c.boxes=true/\c.boxes.length<=20:=by
 unfold cP at h;simp only[jg,jb]at h;exact⟨h.1.1,h.1.2.1,h.1.2.2.1,h.1.2.2.2.1,h.1.2.2.2.2,h.2.1,h.2.2.1,h.2.2.2.1⟩
theorem P8{a b:Int}(h:bQ a b):inR a:=⟨h.1,h.2.1⟩
theorem aj1(hL:1099511627776<=L)(b:Bool)(w e:Int)(ks:List S)(own:List Own)(i t:S)(h15:ks.length=15)(c0:Int)(c1 c2:S)(c3 c4:Int)(c5:S)(c6:List S)(c7:List Box)(c8 c9 c10 c11 c12:S)(h6:c6.length=15)(hs:aH c0)(ha:inR c3)(hr:inR c4):ev E L (D+5) 272 [.agg [.bool b,.int .i64 w,.sl (ks.map rS),.sl (own.map rO),.int .i64 e,.str (bs i),.str (bs t)],.agg [.int .i64 c0,.str (bs c1),.str (bs c2),.int .i64 c3,.int .i64 c4,.str (bs c5),.sl (c6.map rS),.sl (c7.map rB),.str (bs c8),.str (bs c9),.str (bs c10),.str (bs c11),.str (bs c12)]] []=some (.bool (EE ⟨b,w,ks,own,e,i,t⟩ ⟨c0,c1,c2,c3,c4,c5,c6,c7,c8,c9,c10,c11,c12⟩),[]):=by
 rw[avP];simp only[KM];have hb15:(baseT ks c3 c4 c5).length=15:=by rw[G6];exact h15
 have hlen:=cU (treLeaf c0);simp(disch:=omega) only[K1,aV,d7,Nat.reduceAdd,lA,↓aA,AO,MU _ _ hL ks h15 c3 c4 c5 ha hr,bD,BU _ _ hL,OX,aE];have:=ae6 L (D+3) c0 c1 c2 c3 c4 c5 c6 c7 c8 c9 c10 c11 c12 hL h6 hs (pathOf c0) (pathOf_rng hs) (by have:=eX c0;omega) L 0 (baseT ks c3 c4 c5) (by have:=eX c0;omega) (by omega) hb15
 rw[show((0:Nat):Int)=0 from rfl,qb]at this
 exact this
theorem ae7(hL:1099511627776<=L)(b:Bool)(w e:Int)(ks:List S)(own:List Own)(i t:S)(hm:memOk ⟨b,w,ks,own,e,i,t⟩=true)(c0:Int)(c1 c2:S)(c3 c4:Int)(c5:S)(c6:List S)(c7:List Box)(c8 c9 c10 c11 c12:S)(hc:cP ⟨c0,c1,c2,c3,c4,c5,c6,c7,c8,c9,c10,c11,c12⟩=true):ev E L (D+6) 227 [.agg [.bool b,.int .i64 w,.sl (ks.map rS),.sl (own.map rO),.int .i64 e,.str (bs i),.str (bs t)],.agg [.int .i64 c0,.str (bs c1),.str (bs c2),.int .i64 c3,.int .i64 c4,.str (bs c5),.sl (c6.map rS),.sl (c7.map rB),.str (bs c8),.str (bs c9),.str (bs c10),.str (bs c11),.str (bs c12)]] []=some (.bool (oB ⟨b,w,ks,own,e,i,t⟩ ⟨c0,c1,c2,c3,c4,c5,c6,c7,c8,c9,c10,c11,c12⟩),[]):=by
 rw[av7];simp only[KM];unfold oB;obtain⟨q1,q2,q3,q4,q5,q6,q7,q8⟩:=mG hc;simp only at q1 q2 q3 q4 q5 q6 q7 q8;cases b with
 |false=>simp only[K1];simp
 |true=>
  obtain⟨g1,g2,g3,g4,g5,g6,g7⟩:=m7 hm rfl;simp only at g1 g2 g5;have h15:=eA g2;have hlf:∀x:Int,aH x->0<=treLeaf x/\treLeaf x<ks.length:=fun x hx=>by have:=eP hx;omega
  obtain⟨l1,l2⟩:=hlf c0 q1;by_cases h1:c1=t
  case neg=>simp only[K1,Ji,h1];simp[h1]
  have hd1:decide (c1=t)=true:=jd h1;by_cases h2:12<=e
  ·have:¬e<12:=by omega
   simp only[K1,hd1,h2];simp[this]
  have h2':e<12:=by omega
  by_cases h3:c0=w
  ·have hd3:decide (¬c0=w)=false:=ji (fun x=>x h3)
   simp only[K1,aQ,hd1,h2,hd3];simp[h3]
  have hfst:decide (c1=t/\e<12/\c0≠w)=true:=jd ⟨h1,h2',h3⟩;simp only[hfst,jy];by_cases h4:ix ks (treLeaf c0)=[]
  ·have hd4:decide (ix ks (treLeaf c0)=[])=true:=jd h4;simp(disch:=omega) only[K1,dX,aW,hd1,h2,h3,bD,hd4];simp[hasLeaf,h4]
  have htree:=aj1 L D hL true w e ks own i t h15 c0 c1 c2 c3 c4 c5 c6 c7 c8 c9 c10 c11 c12 (eA q6) q1 (P8 q4) (P8 q5);unfold changes;by_cases h5:0<=c4
  ·obtain⟨r1,r2⟩:=hlf c4 ⟨h5,q5.2.1⟩;have h5':¬c4<0:=by omega
   by_cases h6:ix ks (treLeaf c4)=[]
   ·have hd6:decide (¬ix ks (treLeaf c4)=[])=false:=ji (fun x=>x h6)
    simp(disch:=omega) only[K1,aQ,dX,aW,hd1,h2,h3,bD,h4,h5,hd6];simp[hasLeaf,h5',h6]
   by_cases h7:0<=c3
   ·obtain⟨a1,a2⟩:=hlf c3 ⟨h7,q4.2.1⟩;have h7':¬c3<0:=by omega
    by_cases h8:c3=c4
    ·have hd8:decide (¬c3=c4)=false:=ji (fun x=>x h8)
     simp(disch:=omega) only[K1,aQ,dX,aW,hd1,h2,h3,bD,h4,h5,h6,h7,hd8,htree];simp[hasLeaf,h4,h6,h8]
    ·by_cases h9:ix ks (treLeaf c3)=[]
     ·have hd9:decide (¬ix ks (treLeaf c3)=[])=false:=ji (fun x=>x h9)
      simp(disch:=omega) only[K1,aQ,dX,aW,hd1,h2,h3,bD,h4,h5,h6,h7,h8,hd9,htree];simp[hasLeaf,h4,h6,h9]
     ·simp(disch:=omega) only[K1,dX,aW,hd1,h2,h3,bD,h4,h5,h6,h7,h8,h9];simp[hasLeaf,h4,h6,h9,h7']
   ·have h7':c3<0:=by omega
    simp(disch:=omega) only[K1,dX,aW,hd1,h2,h3,bD,h4,h5,h6,h7,htree];simp[hasLeaf,h4,h6,h7']
  ·have h5':c4<0:=by omega
   by_cases h7:0<=c3
   ·obtain⟨a1,a2⟩:=hlf c3 ⟨h7,q4.2.1⟩;have h7':¬c3<0:=by omega
    have h8:¬c3=c4:=by omega
    by_cases h9:ix ks (treLeaf c3)=[]
    ·have hd9:decide (¬ix ks (treLeaf c3)=[])=false:=ji (fun x=>x h9)
     simp(disch:=omega) only[K1,aQ,dX,aW,hd1,h2,h3,bD,h4,h5,h7,h8,hd9,htree];simp[hasLeaf,h4,h9,h5']
    ·simp(disch:=omega) only[K1,dX,aW,hd1,h2,h3,bD,h4,h5,h7,h8,h9];simp[hasLeaf,h9,h7']
   ·have h7':c3<0:=by omega
    simp(disch:=omega) only[K1,dX,aW,hd1,h2,h3,bD,h4,h5,h7,htree];simp[hasLeaf,h4,h5',h7']
theorem OG{m:Member}(h:fitsAll m=true):∀o∈m.own,o.node∈pathOf m.who:=by
 intro o ho;unfold fitsAll at h;rw[kj]at h;obtain⟨k,hk,rfl⟩:=qh.1 ho;have:=h k (v5.2 hk);unfold oK at this;simp only[jg,jb]at this;have h1:=this.1
 rwa [aK m.own k hk]at h1
theorem VS{m:Member}(h:memOk m=true)(hi:m.inn=true):wN m.own:=fun o ho=>by
 obtain⟨g1,_,g3,_⟩:=m7 h hi;exact pathOf_rng g1 _ (OG g3 o ho)
theorem OH(n:Int)(h:hJ n)(s:S):wN (aU n s):=fun o ho=>by
 have:o.node∈(aU n s).map (·.node):=Jc ho;rw[show(aU n s).map (·.node)=n::bI n from wQ _ _]at this
 rcases ko.1 this with e|e
 ·rw[e];exact h
 ·exact mF _ _ e
theorem MO:∀(f a b:Nat),a<=14->b<=14->meetN f a b<=14
 |0,_,_,h,_=>h
 |f+1,a,b,h,h'=>by
  rw[meetN];split
  ·exact h
  split
  ·exact MO f _ _ (by omega) h'
  ·exact MO f _ _ h (by omega)
theorem ae8{a b:Int}(ha:hJ a)(hb:hJ b):hJ (treMeet a b):=by
 unfold treMeet;rw[je ⟨ha,hb⟩];have:=MO 30 a.toNat b.toNat (by have:=ha.1;have:=ha.2;omega) (by have:=hb.1;have:=hb.2;omega)
 exact⟨by omega,by omega⟩
theorem P9{w:Int}(h:aH w):hJ (treLeaf w):=by have:=eP h;exact⟨by omega,by omega⟩
theorem G4(ks:List S)(own:List Own):(sG ks own).length<=own.length:=wq _ _
theorem G5(own path:List Own):(oA own path).length<=own.length:=wq _ _
theorem aj2(hL:1099511627776<=L)(b:Bool)(w e:Int)(ks:List S)(own:List Own)(i t:S)(hm:memOk ⟨b,w,ks,own,e,i,t⟩=true)(hb:b=true)(hl:own.length<=1000000)(c0:Int)(c1 c2:S)(c3 c4:Int)(c5:S)(c6:List S)(c7:List Box)(c8 c9 c10 c11 c12:S)(hc:cP ⟨c0,c1,c2,c3,c4,c5,c6,c7,c8,c9,c10,c11,c12⟩=true):ev E L (D+309) 228 [.agg [.bool b,.int .i64 w,.sl (ks.map rS),.sl (own.map rO),.int .i64 e,.str (bs i),.str (bs t)],.agg [.int .i64 c0,.str (bs c1),.str (bs c2),.int .i64 c3,.int .i64 c4,.str (bs c5),.sl (c6.map rS),.sl (c7.map rB),.str (bs c8),.str (bs c9),.str (bs c10),.str (bs c11),.str (bs c12)]] []=
 some (.tup [.agg (rM (hearPair ⟨b,w,ks,own,e,i,t⟩ ⟨c0,c1,c2,c3,c4,c5,c6,c7,c8,c9,c10,c11,c12⟩).1),.bool (hearPair ⟨b,w,ks,own,e,i,t⟩ ⟨c0,c1,c2,c3,c4,c5,c6,c7,c8,c9,c10,c11,c12⟩).2],[]):=by
 rw[av8];simp only[KM];subst hb;obtain⟨q1,q2,q3,q4,q5,q6,q7,q8⟩:=mG hc;simp only at q1 q2 q3 q4 q5 q6 q7 q8;obtain⟨g1,g2,g3,g4,g5,g6,g7⟩:=m7 hm rfl;simp only at g1 g2 g5 g6 g7;have h15:=eA q6;have hmeet:=ae8 (P9 g1) (P9 q1);unfold hearPair;simp only;have hfind:=aiZ L D hL true w e (ks.map rS) own (bs i) (bs t) hl c7 (by omega)
 by_cases h1:bP own c7=[]
 ·rw[je (.inl h1)];have hd:decide (¬bP own c7=[])=false:=ji (fun x=>x h1)
  simp(disch:=omega) only[K1,aQ,aV,iI,aR,↓aA,hfind,hd,aE,rM]
 by_cases h2:292< (bP own c7).length
 ·rw[je (.inr h2)];have h2':(292:Int)< (bP own c7).length:=by omega
  simp(disch:=omega) only[K1,aV,iI,aR,↓aA,hfind,h1,h2',aE,rM]
 rw[jc (fun x=>x.elim h1 h2)]
 have h2':¬(292:Int)< (bP own c7).length:=by omega
 have hpl:=kE (treMeet (treLeaf w) (treLeaf c0)) (bP own c7);have htu:=cU (treMeet (treLeaf w) (treLeaf c0));have hnodes:=OH _ hmeet (bP own c7);have hlast0:(0:Int)<=((aU (treMeet (treLeaf w) (treLeaf c0)) (bP own c7)).length:Int)-1:=by omega
 have hlast1:((aU (treMeet (treLeaf w) (treLeaf c0)) (bP own c7)).length:Int)-1< (aU (treMeet (treLeaf w) (treLeaf c0)) (bP own c7)).length:=by omega
 have hfresh:=ae4 L D hL (aU (treMeet (treLeaf w) (treLeaf c0)) (bP own c7)) hnodes (by omega) c6 h15
 have hund:=ae5 L (D+306) hL true w e (ks.map rS) own (bs i) (bs t) hl (aU (treMeet (treLeaf w) (treLeaf c0)) (bP own c7)) (by omega)
 have hul:=G5 own (aU (treMeet (treLeaf w) (treLeaf c0)) (bP own c7));have hkept:=aj0 L D hL false 0 0 [] (oA own (aU (treMeet (treLeaf w) (treLeaf c0)) (bP own c7))) (fun o ho=>VS hm rfl o (wv.1 ho).1) (bs []) (bs []) (by omega) c6 h15
 have hkl:=G4 c6 (oA own (aU (treMeet (treLeaf w) (treLeaf c0)) (bP own c7)));by_cases h3:eZ c6 (aU (treMeet (treLeaf w) (treLeaf c0)) (bP own c7))=true
 case neg=>
  rw[jc h3];simp(disch:=omega) only[K1,aV,iI,aR,↓aA,eJ,hfind,h1,h2',aE,bD,tH _ _ hL,qD _ _ hL,hfresh,h3,rM]
 rw[je h3];simp(disch:=omega) only[K1,aV,dN,d7,iI,oQ,aR,↓aA,B3,dY,eJ,hfind,h1,h2',aE,bD,tH _ _ hL,qD _ _ hL,hfresh,h3,d9,bA,tG _ _ hL,DF _ _ hL,hund,hkept,aP _ _ hL];simp[mS,rM]
theorem MP(hL:1099511627776<=L)(b:Bool)(w e:Int)(ks:List S)(own:List Own)(i t:S)(hk:ks.length<=1000000)(ho:own.length<=1000000):ev E L (D+2) 102 [.agg [.bool b,.int .i64 w,.sl (ks.map rS),.sl (own.map rO),.int .i64 e,.str (bs i),.str (bs t)]] []=some (.agg (rM ⟨b,w,if b=true then ks else[],own,e,i,t⟩),[]):=by
 rw[auD];simp only[KM];cases b with
 |false=>simp(disch:=omega) only[K1,aV,Nat.reduceAdd,oQ,aR,↓aA,eJ,AO,aE,rM,List.map_nil]
 |true=>simp(disch:=omega) only[K1,aV,Nat.reduceAdd,oQ,aR,↓aA,eJ,AO,aE,rM]
theorem ae9{m:Member}(h:memOk m=true)(hi:m.inn=false):m=bC:=by
 unfold memOk at h;rw[je hi]at h;simp only[jb]at h;obtain⟨a1,a2,a3,a4,a5,a6⟩:=h;cases m;simp only at hi a1 a2 a3 a4 a5 a6;subst hi a1 a2 a3 a4 a5 a6
 rfl
theorem YR{m:Member}(h:memOk m=true):m.keys.length<=15/\(if m.inn=true then m.keys else[])=m.keys:=by
 cases hi:m.inn with
 |false=>rw[ae9 h hi];simp[bC]
 |true=>
  have:=eA (m7 h hi).2.1;simp;omega
theorem aeA(hL:1099511627776<=L)(b:Bool)(w e:Int)(ks:List S)(own:List Own)(i t:S)(hl:own.length<=900000)(c0:Int)(c1 c2:S)(c3 c4:Int)(c5:S)(c6:List S)(c7:List Box)(c8 c9 c10 c11 c12:S)(ht:c1.length<=1000000000):ev E L (D+310) 166 [.agg [.bool b,.int .i64 w,.sl (ks.map rS),.sl (own.map rO),.int .i64 e,.str (bs i),.str (bs t)],.agg [.int .i64 c0,.str (bs c1),.str (bs c2),.int .i64 c3,.int .i64 c4,.str (bs c5),.sl (c6.map rS),.sl (c7.map rB),.str (bs c8),.str (bs c9),.str (bs c10),.str (bs c11),.str (bs c12)]] []=
 some (.tup [.agg (rM (dH ⟨b,w,ks,own,e,i,t⟩ ⟨c0,c1,c2,c3,c4,c5,c6,c7,c8,c9,c10,c11,c12⟩).1),.bool (dH ⟨b,w,ks,own,e,i,t⟩ ⟨c0,c1,c2,c3,c4,c5,c6,c7,c8,c9,c10,c11,c12⟩).2],[]):=by
 rw[auR];simp only[KM];unfold dH;by_cases h1:memOk ⟨b,w,ks,own,e,i,t⟩=true
 case neg=>
  rw[jc (fun x=>h1 x.1)]
  simp(disch:=omega) only[K1,dV _ _ hL,h1,kN]
 by_cases h2:cP ⟨c0,c1,c2,c3,c4,c5,c6,c7,c8,c9,c10,c11,c12⟩=true
 case neg=>
  rw[jc (fun x=>h2 x.2)]
  simp(disch:=omega) only[K1,dV _ _ hL,h1,jJ _ _ hL,h2,kN]
 rw[je ⟨h1,h2⟩];have htk:=ae7 L (D+303) hL b w e ks own i t h1 c0 c1 c2 c3 c4 c5 c6 c7 c8 c9 c10 c11 c12 h2;obtain⟨kl,ke⟩:=YR h1;simp only at kl ke;have hsame:=MP L (D+307) hL b w e ks own i t (by omega) (by omega)
 rw[ke]at hsame;simp only[rM]at hsame;by_cases h3:oB ⟨b,w,ks,own,e,i,t⟩ ⟨c0,c1,c2,c3,c4,c5,c6,c7,c8,c9,c10,c11,c12⟩=true
 case neg=>
  rw[jc h3];simp(disch:=omega) only[K1,Nat.reduceAdd,dV _ _ hL,h1,jJ _ _ hL,h2,htk,h3,hsame,rM]
 rw[je h3];have hb:b=true:=by unfold oB at h3;simp only[jg]at h3;exact h3.1
 by_cases h4:c4=w
 ·rw[je h4];have hd:decide (c4=w)=true:=jd h4;simp(disch:=omega) only[K1,dV _ _ hL,h1,jJ _ _ hL,h2,htk,h3,hd,kN]
 rw[jc h4];have hh:=aj2 L D hL b w e ks own i t h1 hb (by omega) c0 c1 c2 c3 c4 c5 c6 c7 c8 c9 c10 c11 c12 h2
 simp only[rM]at hh;by_cases h5:(hearPair ⟨b,w,ks,own,e,i,t⟩ ⟨c0,c1,c2,c3,c4,c5,c6,c7,c8,c9,c10,c11,c12⟩).2=true
 case neg=>
  rw[jc h5];simp(disch:=omega) only[K1,Nat.reduceAdd,dV _ _ hL,h1,jJ _ _ hL,h2,htk,h3,h4,hh,h5,hsame,rM]
 rw[je h5];have hx:(hearPair ⟨b,w,ks,own,e,i,t⟩ ⟨c0,c1,c2,c3,c4,c5,c6,c7,c8,c9,c10,c11,c12⟩).1.inn=true/\(hearPair ⟨b,w,ks,own,e,i,t⟩ ⟨c0,c1,c2,c3,c4,c5,c6,c7,c8,c9,c10,c11,c12⟩).1.keys.length<=1000000/\(hearPair ⟨b,w,ks,own,e,i,t⟩ ⟨c0,c1,c2,c3,c4,c5,c6,c7,c8,c9,c10,c11,c12⟩).1.own.length<=1000000:=by
  have h15:=eA (mG h2).2.2.2.2.2.1;simp only at h15;unfold hearPair at h5⊢;simp only at h5⊢;split at h5
  ·cases h5
  ·rename_i g;rw[jc g];split at h5
   ·rename_i g';rw[je g'];have e1:=G5 own (aU (treMeet (treLeaf w) (treLeaf c0)) (bP own c7));have e2:=G4 c6 (oA own (aU (treMeet (treLeaf w) (treLeaf c0)) (bP own c7)));have e3:=kE (treMeet (treLeaf w) (treLeaf c0)) (bP own c7);have e4:=cU (treMeet (treLeaf w) (treLeaf c0));simp only[mS,jl];refine⟨trivial,by omega,by omega⟩
   ·cases h5
 generalize hearPair ⟨b,w,ks,own,e,i,t⟩ ⟨c0,c1,c2,c3,c4,c5,c6,c7,c8,c9,c10,c11,c12⟩=p at hx h5 hh⊢;have hs2:=MP L (D+307) hL p.1.inn p.1.who p.1.epoch p.1.keys p.1.own p.1.init p.1.tag hx.2.1 hx.2.2;rw[hx.1]at hs2 hh;simp only[rM,ju]at hs2;simp(disch:=omega) only[K1,Nat.reduceAdd,dV _ _ hL,h1,jJ _ _ hL,h2,htk,h3,h4,hh,h5,hs2,rM,hx.1]
theorem YS(s:S)(hs:s.length<=1000000000):∀(n k c:Nat),s.length-k<n->k<=s.length->c<=k->AE L D n (bs s) c k=some (.int .i64 ((c+count (s.drop k):Nat):Int),[]):=by
 intro n;induction n with
 |zero=>intro k c h;omega
 |succ n ih=>
  intro k c hn hk hc;rw[NT];simp only[KM];by_cases h:k<s.length
  ·have h':(k:Int)<s.length:=by omega
   rw[bU s k h];have hb:=toNat_lt (ix s k);by_cases h1:((ix s (k:Int)).toNat:Int)=59
   ·have hd:decide (((ix s (k:Int)).toNat:Int)=59)=true:=jd h1;simp(disch:=omega) only[K1,h',eD,hd,aG,ih (k+1) (c+1) (by omega) (by omega) (by omega)]
    have e1:ix s (k:Int)=59:=UInt8.toNat_inj.1 (by have:(59:UInt8).toNat=59:=rfl;omega)
    congr 4
    unfold count;rw[List.filter_cons_of_pos (by simp[e1])]
    simp;omega
   ·simp(disch:=omega) only[K1,h',eD,h1,aG,ih (k+1) c (by omega) (by omega) (by omega)]
    have e1:¬ix s (k:Int)=59:=fun e=>h1 (by rw[e];rfl)
    unfold count;rw[List.filter_cons_of_neg (by simp[e1])]
  ·have h':¬(k:Int)<s.length:=by omega
   simp(disch:=omega) only[K1,h'];rw[js (by omega)];rfl
theorem QA(hL:1099511627776<=L)(s:S)(hs:s.length<=1000000000):ev E L (D+1) 230 [.str (bs s)] []=some (.int .i64 (count s:Nat),[]):=by
 rw[avA];have:=YS L D s hs L 0 0 (by omega) (by omega) (by omega)
 rw[qb,qx]at this;exact this
theorem aj3(s:S):count s<=s.length:=wq _ _
theorem aeB(hL:1099511627776<=L)(w:Int)(leaf key:S)(c0:Int)(c1 c2:S)(c3 c4:Int)(c5:S)(c6:List S)(c7:List Box)(c8 c9 c10 c11 c12:S)(ht:c1.length<=1000000000):ev E L (D+310) 167 [.int .i64 w,.str (bs leaf),.str (bs key),.agg [.int .i64 c0,.str (bs c1),.str (bs c2),.int .i64 c3,.int .i64 c4,.str (bs c5),.sl (c6.map rS),.sl (c7.map rB),.str (bs c8),.str (bs c9),.str (bs c10),.str (bs c11),.str (bs c12)]] []=
 some (.tup (match iR w leaf key ⟨c0,c1,c2,c3,c4,c5,c6,c7,c8,c9,c10,c11,c12⟩with|some x=>[.agg (rM x),.bool true]|none=>[.agg (rM bC),.bool false]),[]):=by
 rw[auS];simp only[KM];unfold iR;have no:∀P:Prop,∀[Decidable P],¬P->(match(if P then some (pP w leaf ⟨c0,c1,c2,c3,c4,c5,c6,c7,c8,c9,c10,c11,c12⟩)else none)with|some x=>[MV.agg (rM x),.bool true]|none=>[.agg (rM bC),.bool false])=[.agg (rM bC),.bool false]:=fun P _ h=>by rw[jc h]
 by_cases h1:cP ⟨c0,c1,c2,c3,c4,c5,c6,c7,c8,c9,c10,c11,c12⟩=true
 case neg=>rw[no _ (fun x=>h1 x.1)];simp(disch:=omega) only[K1,jJ _ _ hL,h1,kN]
 obtain⟨q1,q2,q3,q4,q5,q6,q7,q8⟩:=mG h1;simp only at q1 q2 q3 q4 q5 q6 q7 q8;by_cases h2:c3<0
 ·rw[no _ (fun x=>by have:=x.2.1;simp only at this;omega)];simp(disch:=omega) only[K1,jJ _ _ hL,h1,h2,kN]
 by_cases h3:c3=w
 case neg=>rw[no _ (fun x=>h3 x.2.2.1)];simp(disch:=omega) only[K1,jJ _ _ hL,h1,h2,h3,kN]
 have hd3:decide (¬c3=w)=false:=ji (fun x=>x h3)
 by_cases h4:secOk leaf=true
 case neg=>rw[no _ (fun x=>h4 x.2.2.2.1)];simp(disch:=omega) only[K1,aQ,jJ _ _ hL,h1,h2,hd3,aP _ _ hL,h4,kN]
 by_cases h5:secOk key=true
 case neg=>rw[no _ (fun x=>h5 x.2.2.2.2.1)];simp(disch:=omega) only[K1,aQ,jJ _ _ hL,h1,h2,hd3,aP _ _ hL,h4,h5,kN]
 by_cases h6:makKey leaf=c5
 case neg=>rw[no _ (fun x=>h6 x.2.2.2.2.2.1)];simp(disch:=omega) only[K1,aQ,jJ _ _ hL,h1,h2,hd3,aP _ _ hL,h4,h5,eE _ _ hL,h6,kN]
 have hd6:decide (¬makKey leaf=c5)=false:=ji (fun x=>x h6)
 by_cases h7:makKey key=c8
 case neg=>rw[no _ (fun x=>h7 x.2.2.2.2.2.2.1)];simp(disch:=omega) only[K1,aQ,jJ _ _ hL,h1,h2,hd3,aP _ _ hL,h4,h5,eE _ _ hL,hd6,h7,kN]
 have hd7:decide (¬makKey key=c8)=false:=ji (fun x=>x h7)
 have h15:=eA q6;by_cases h8:c12.length<=292
 case neg=>
  have h8':(292:Int)<c12.length:=by omega
  rw[no _ (fun x=>h8 x.2.2.2.2.2.2.2.1)];simp(disch:=omega) only[K1,aQ,aV,iI,aR,↓aA,jJ _ _ hL,h1,h2,hd3,aP _ _ hL,h4,h5,eE _ _ hL,hd6,hd7,aE,h8',kN]
 have h8':¬(292:Int)<c12.length:=by omega
 have hpl:=kE (treMeet (treLeaf w) (treLeaf c0)) c12;have htu:=cU (treMeet (treLeaf w) (treLeaf c0));have hcnt:=aj3 c1;have hok:=dV L D hL true w (count c1+1) c6 (⟨treLeaf w,leaf⟩::aU (treMeet (treLeaf w) (treLeaf c0)) c12) c10 (c1++c2) (by rw[jf];omega)
 have hjm:pP w leaf ⟨c0,c1,c2,c3,c4,c5,c6,c7,c8,c9,c10,c11,c12⟩=⟨true,w,c6,⟨treLeaf w,leaf⟩::aU (treMeet (treLeaf w) (treLeaf c0)) c12,count c1+1,c10,c1++c2⟩:=rfl;have hcons:[(⟨treLeaf w,leaf⟩:Own)]++aU (treMeet (treLeaf w) (treLeaf c0)) c12=⟨treLeaf w,leaf⟩::aU (treMeet (treLeaf w) (treLeaf c0)) c12:=rfl;by_cases h9:memOk (pP w leaf ⟨c0,c1,c2,c3,c4,c5,c6,c7,c8,c9,c10,c11,c12⟩)=true
 ·rw[je ⟨h1,by simp only;omega,h3,h4,h5,h6,h7,h8,h9⟩]
  rw[hjm]at h9;simp(disch:=omega) only[K1,aQ,aV,dN,d7,Nat.reduceAdd,iI,oQ,aR,↓aA,eJ,jJ _ _ hL,h1,h2,hd3,aP _ _ hL,h4,h5,eE _ _ hL,hd6,hd7,aE,h8',bD,tH _ _ hL,qD _ _ hL,af7,QA _ _ hL,bA,hcons,hok,h9,rM,hjm]
 ·rw[no _ (fun x=>h9 x.2.2.2.2.2.2.2.2)]
  rw[hjm]at h9;simp(disch:=omega) only[K1,aQ,aV,dN,d7,Nat.reduceAdd,iI,oQ,aR,↓aA,eJ,jJ _ _ hL,h1,h2,hd3,aP _ _ hL,h4,h5,eE _ _ hL,hd6,hd7,aE,h8',bD,tH _ _ hL,qD _ _ hL,af7,QA _ _ hL,bA,hcons,hok,h9,kN]
end
end Kw.Sp
namespace Kw.Sp
open Go Go.Proofs
section
variable (L D:Nat)
theorem YT(s:S)(hs:s.length<=1000000):∀(n k:Nat),s.length-k<n->k<=s.length->FL L D n (bs s) k=some (.bool ((s.drop k).all fun b=>decide (97<=b.toNat/\b.toNat<=122)),[]):=by
 intro n;induction n with
 |zero=>intro k h;omega
 |succ n ih=>
  intro k hn hk;rw[NS];simp only[KM];by_cases h:k<s.length
  ·have h':(k:Int)<s.length:=by omega
   rw[bU s k h,yb];have e:=ih (k+1) (by omega) (by omega)
   by_cases h1:((ix s (k:Int)).toNat:Int)<97
   ·have:¬97<=(ix s (k:Int)).toNat:=by omega
    simp(disch:=omega) only[K1,h',eD,h1];simp[this]
   ·by_cases h2:(122:Int)< (ix s (k:Int)).toNat
    ·have:¬(ix s (k:Int)).toNat<=122:=by omega
     simp(disch:=omega) only[K1,h',eD,h1,h2];simp[this]
    ·have hh:97<=(ix s (k:Int)).toNat/\(ix s (k:Int)).toNat<=122:=by omega
     simp(disch:=omega) only[K1,h',eD,h1,h2,aG,e];simp[hh]
  ·have h':¬(k:Int)<s.length:=by omega
   simp(disch:=omega) only[K1,h'];rw[js (by omega)];rfl
theorem BR(hL:1099511627776<=L)(s:S):ev E L (D+1) 224 [.str (bs s)] []=some (.bool (nT s),[]):=by
 rw[av4];simp only[KM];unfold nT;by_cases h:s.length<=8
 ·have h':¬(8:Int)<s.length:=by omega
  have:=YT L D s (by omega) L 0 (by omega) (by omega)
  rw[show((0:Nat):Int)=0 from rfl,qb]at this
  simp only[K1,h',this];simp[h]
 ·have h':(8:Int)<s.length:=by omega
  simp only[K1,h'];simp[h]
theorem JP(hL:1099511627776<=L)(f0:Int)(f1:S)(f2:Int)(f3:S):ev E L (D+306) 277 [.agg [.int .i64 f0,.str (bs f1),.int .i64 f2,.str (bs f3)]] []=some (.bool (fraOk ⟨f0,f1,f2,f3⟩),[]):=by
 rw[avU];simp only[KM];unfold fraOk;by_cases h1:aH f0
 case neg=>
  have h1':¬(0<=f0/\f0<=7):=h1;simp only[K1,aM,h1'];simp[h1]
 obtain⟨h1a,h1b⟩:=id h1;by_cases h2:secOk f1=true
 case neg=>
  have:¬(aN f1).op=5:=fun e=>by rw[lN.2 (by simpa using h2)]at e;cases e
  simp only[K1,aM,h1a,h1b,aP _ _ hL,h2];simp[this]
 obtain⟨u,hu⟩:=v9.1 (show(sec f1).isSome=true from h2)
 have hm:aN f1=u.how:=by unfold aN;rw[hu]
 by_cases h3:u.how.op=5
 case neg=>simp only[K1,Nat.reduceAdd,aM,h1a,h1b,aP _ _ hL,h2,cM _ _ hL f1 u hu,jC,h3];simp[hm,h3]
 have hd3:decide (u.how.op=5)=true:=jd h3;by_cases h4:u.how.who=f0
 case neg=>simp only[K1,Nat.reduceAdd,aM,h1a,h1b,aP _ _ hL,h2,cM _ _ hL f1 u hu,jC,hd3,h4];simp[hm,h4]
 have hd4:decide (u.how.who=f0)=true:=jd h4;by_cases h5:1<=f2/\f2<=999
 case neg=>
  simp only[K1,and_false,Nat.reduceAdd,aM,h1a,h1b,aP _ _ hL,h2,cM _ _ hL f1 u hu,jC,hd3,hd4,h5];have:¬(aH f0/\(aN f1).op=5/\(aN f1).who=f0/\1<=f2/\f2<=999):=fun x=>h5 x.2.2.2
  simp[this]
 obtain⟨h5a,h5b⟩:=id h5;have hall:(aH f0/\(aN f1).op=5/\(aN f1).who=f0/\1<=f2/\f2<=999):=⟨h1,by rw[hm];exact h3,by rw[hm];exact h4,h5⟩
 simp only[K1,Nat.reduceAdd,aM,h1a,h1b,aP _ _ hL,h2,cM _ _ hL f1 u hu,jC,hd3,hd4,h5a,h5b,BR _ _ hL];simp[hall]
def JQ:Frame:=⟨0,[],0,[]⟩
theorem aeC(hL:1099511627776<=L)(b:Bool)(w e:Int)(ks:List S)(own:List Own)(i t:S)(hl:own.length<=1000000)(n:Int)(x:S):ev E L (D+310) 165 [.agg [.bool b,.int .i64 w,.sl (ks.map rS),.sl (own.map rO),.int .i64 e,.str (bs i),.str (bs t)],.int .i64 n,.str (bs x)] []=
 some (.tup (match nU ⟨b,w,ks,own,e,i,t⟩ n x with|some f=>[.agg (rF f),.bool true]|none=>[.agg (rF JQ),.bool false]),[]):=by
 rw[auQ];simp only[KM];unfold nU;have no:∀P:Prop,∀[Decidable P],¬P->(match(if P then some (⟨w,dZ i w,n,x⟩:Frame)else none)with|some f=>[MV.agg (rF f),.bool true]|none=>[.agg (rF JQ),.bool false])=[.agg (rF JQ),.bool false]:=fun P _ h=>by rw[jc h]
 have hno:rF JQ=[.int .i64 0,.str (bs []),.int .i64 0,.str (bs [])]:=rfl;by_cases h1:memOk ⟨b,w,ks,own,e,i,t⟩=true
 case neg=>rw[no _ (fun x=>h1 x.1)];simp only[K1,dV _ _ hL b w e ks own i t hl,h1,hno]
 cases b with
 |false=>rw[no _ (fun x=>by cases x.2.1)];simp only[K1,dV _ _ hL false w e ks own i t hl,h1,hno]
 |true=>
  by_cases h2:1<=n/\n<=999
  case neg=>rw[no _ (fun x=>h2 ⟨x.2.2.1,x.2.2.2.1⟩)];simp only[K1,dV _ _ hL true w e ks own i t hl,h1,aM,h2,hno]
  obtain⟨h2a,h2b⟩:=id h2;by_cases h3:nT x=true
  case neg=>rw[no _ (fun x=>h3 x.2.2.2.2.1)];simp only[K1,dV _ _ hL true w e ks own i t hl,h1,aM,h2a,h2b,BR _ _ hL,h3,hno]
  by_cases h4:dZ i w=[]
  ·have hd:decide (dZ i w=[])=true:=jd h4;rw[no _ (fun x=>x.2.2.2.2.2 h4)];simp only[K1,dV _ _ hL true w e ks own i t hl,h1,aM,h2a,h2b,BR _ _ hL,h3,MT _ _ hL,hd,hno]
  ·rw[je ⟨h1,rfl,h2a,h2b,h3,h4⟩];simp only[K1,dV _ _ hL true w e ks own i t hl,h1,aM,h2a,h2b,BR _ _ hL,h3,MT _ _ hL,h4,rF]
theorem aeD(seen:List Int)(m top:Int)(ht: -1000000<=top/\top<=1000000)(hl:seen.length<=1000000):∀(n k:Nat) (d:Bool) (acc:List Int),seen.length-k<n->k<=seen.length->acc.length+2*seen.length<=10000000+2*k->
 m0 L D n (acc.map rI) (seen.map rI) m top acc.length d k=some (.sl ((acc++seenGo m top (seen.drop k) d).map rI),[]):=by
 intro n;induction n with
 |zero=>intro k d acc h;omega
 |succ n ih=>
  intro k d acc hn hk hb;rw[OA];simp only[KM];by_cases h:k<seen.length
  case neg=>
   have h':¬(k:Int)<seen.length:=by omega
   rw[js (by omega)]
   cases d with
   |false=>simp(disch:=omega) only[K1,aV,d7,Nat.reduceAdd,lA,↓aA,h',OX,aE];simp[seenGo]
   |true=>simp(disch:=omega) only[K1,↓aA,h'];simp[seenGo]
  have h':(k:Int)<seen.length:=by omega
  rw[bU seen k h,seenGo];have hs:iS .i64 top 8=top-8:=d9 (by omega) (by omega)
  cases d with
  |true=>
   by_cases h2:top-8<ix seen (k:Int)
   ·have:=ih (k+1) true (acc++[ix seen (k:Int)]) (by omega) (by omega) (by simp;omega)
    simp(disch:=omega) only[K1,jx,aV,aJ,Ji,yk,Nat.reduceAdd,lA,aZ,aR,↓aA,d8,QP,aY,h',hs,h2,aG,aE,this];simp
   ·have:=ih (k+1) true acc (by omega) (by omega) (by omega)
    simp(disch:=omega) only[K1,Ji,yk,d8,aY,h',hs,h2,aG,this];simp
  |false=>
   by_cases h1:ix seen (k:Int)<m
   ·by_cases h2:top-8<ix seen (k:Int)
    ·have:=ih (k+1) true (acc++[m]++[ix seen (k:Int)]) (by omega) (by omega) (by simp;omega)
     have hx:(acc++[m]).length=acc.length+1:=by simp
     simp(disch:=omega) only[K1,jx,aV,aJ,Nat.reduceAdd,lA,aZ,aR,↓aA,d8,QP,aY,h',hs,h1,h2,aG,aE,this];simp[h1]
    ·have:=ih (k+1) true (acc++[m]) (by omega) (by omega) (by simp;omega)
     simp(disch:=omega) only[K1,jx,aV,aJ,Nat.reduceAdd,lA,aZ,aR,↓aA,d8,QP,aY,h',hs,h1,h2,aG,aE,this];simp[h1]
   ·by_cases h2:top-8<ix seen (k:Int)
    ·have:=ih (k+1) false (acc++[ix seen (k:Int)]) (by omega) (by omega) (by simp;omega)
     simp(disch:=omega) only[K1,jx,aV,aJ,and_false,Nat.reduceAdd,lA,aZ,aR,↓aA,d8,QP,aY,h',hs,h1,h2,aG,aE,this];simp[h1]
    ·have:=ih (k+1) false acc (by omega) (by omega) (by omega)
     simp(disch:=omega) only[K1,and_false,d8,aY,h',hs,h1,h2,aG,this];simp[h1]
theorem aj4(hL:1099511627776<=L)(seen:List Int)(m top:Int)(ht: -1000000<=top/\top<=1000000)(hl:seen.length<=1000000):ev E L (D+1) 279 [.sl (seen.map rI),.int .i64 m,.int .i64 top] []=some (.sl ((seenGo m top seen false).map rI),[]):=by
 rw[avW];exact aeD L D seen m top ht hl L 0 false [] (by omega) (by omega) (by simp;omega)
theorem ap1(a b:Int):IB a b=max a b:=by unfold IB;omega
theorem aj5(hL:1099511627776<=L)(key:S)(top:Int)(seen:List Int)(n:Int)(ht: -1000000<=top/\top<=1000000)(hn: -1000000<=n/\n<=1000000)(hl:seen.length<=1000000):ev E L (D+2) 233 [.agg [.str (bs key),.int .i64 top,.sl (seen.map rI)],.int .i64 n] []=
 some (.tup (match winTake ⟨key,top,seen⟩ n with|some x=>[.agg (rW x),.bool true]|none=>[.agg (rW ⟨key,top,seen⟩),.bool false]),[]):=by
 rw[avD];simp only[KM];unfold winTake;have hs:iS .i64 top 8=top-8:=d9 (by omega) (by omega)
 by_cases h1:n<=top-8
 ·rw[je (.inl h1)];simp only[K1,hs,h1,rW]
 ·by_cases h2:n∈seen
  ·rw[je (.inr h2)];simp only[K1,hs,h1,Y0 _ _ hL seen n hl,h2,rW]
  ·rw[jc (fun x=>x.elim h1 h2)]
   have hsn:=aj4 L D hL seen n (max top n) (by omega) hl
   simp only[K1,hs,h1,Y0 _ _ hL seen n hl,h2,ap1,hsn,rW]
theorem ap2(wins:List Win)(key:S)(hl:wins.length<=1000000):∀(n k:Nat),wins.length-k<n->k<=wins.length->FM L D n (wins.map rW) (bs key) k=some (.int .i64 (winAt (wins.drop k) key k),[]):=by
 intro n;induction n with
 |zero=>intro k h;omega
 |succ n ih=>
  intro k hn hk;rw[NU];simp only[KM];by_cases h:k<wins.length
  ·have h':(k:Int)<wins.length:=by omega
   rw[bU wins k h,winAt];by_cases h1:(ix wins (k:Int)).key=key
   ·have hd:decide ((ix wins (k:Int)).key=key)=true:=jd h1;rw[je h1];simp(disch:=omega) only[K1,abC,rJ,h',hd]
   ·rw[jc h1];simp(disch:=omega) only[K1,abC,rJ,h',h1,aG,ih (k+1) (by omega) (by omega)]
  ·have h':¬(k:Int)<wins.length:=by omega
   simp(disch:=omega) only[K1,Int.reduceNeg,h'];rw[js (by omega)];rfl
theorem awT(hL:1099511627776<=L)(wins:List Win)(key:S)(hl:wins.length<=1000000):ev E L (D+1) 232 [.sl (wins.map rW),.str (bs key)] []=some (.int .i64 (winAt wins key 0),[]):=by
 rw[avC];exact ap2 L D wins key hl L 0 (by omega) (by omega)
theorem winAt_lt:∀(l:List Win) (key:S) (k:Nat),winAt l key k<0\/((k:Int)<=winAt l key k/\winAt l key k<k+l.length)
 |[],_,_=>.inl (by simp[winAt])
 |w::r,key,k=>by
  unfold winAt;split
  ·right;simp;omega
  ·rcases winAt_lt r key (k+1)with h|h
   ·exact .inl h
   ·right;simp;omega
theorem aeE(hL:1099511627776<=L)(b:Bool)(w e:Int)(ks:List S)(own:List Own)(i t:S)(h15:b=true->ks.length=15)(f0:Int)(f1:S)(f2:Int)(f3:S):ev E L (D+308) 231 [.agg [.bool b,.int .i64 w,.sl (ks.map rS),.sl (own.map rO),.int .i64 e,.str (bs i),.str (bs t)],.agg [.int .i64 f0,.str (bs f1),.int .i64 f2,.str (bs f3)]] []=some (.bool (yV ⟨b,w,ks,own,e,i,t⟩ ⟨f0,f1,f2,f3⟩),[]):=by
 rw[avB];simp only[KM];unfold yV;cases b with
 |false=>simp only[K1,aQ,cZ];simp
 |true=>
  have h15:=h15 rfl;by_cases h1:fraOk ⟨f0,f1,f2,f3⟩=true
  case neg=>simp only[K1,aQ,cZ,JP _ _ hL,h1];simp[h1]
  have hw:aH f0:=by
   unfold fraOk at h1;simp only[jg,jb]at h1;exact h1.1.1
  obtain⟨l1,l2⟩:=eP hw;have hlt:treLeaf f0<ks.length:=by omega
  by_cases h2:f0=w
  ·have hd:decide (¬f0=w)=false:=ji (fun x=>x h2)
   simp only[K1,aQ,JP _ _ hL,h1,hd];simp[h2]
  by_cases h3:ix ks (treLeaf f0)=[]
  ·have hd:decide (¬ix ks (treLeaf f0)=[])=false:=ji (fun x=>x h3)
   simp(disch:=omega) only[K1,aQ,dX,aW,JP _ _ hL,h1,h2,bD,hd];simp[hasLeaf,h3]
  simp(disch:=omega) only[K1,dX,aW,JP _ _ hL,h1,h2,bD,h3,MT _ _ hL];simp[hasLeaf,h3,h2]
def VT(wins:List Win):Prop:=∀x∈wins,(-1000000<=x.top/\x.top<=1000000)/\x.seen.length<=1000
theorem VU{wins:List Win}(h:VT wins){k:Int}(h0:0<=k)(h1:k<wins.length):(-1000000<=(ix wins k).top/\(ix wins k).top<=1000000)/\(ix wins k).seen.length<=1000:=by
 have:ix wins k=wins[k.toNat]'(by omega):=by simp[ix,(by omega:k.toNat<wins.length)]
 rw[this];exact h _ (jt _)
theorem aA2{f0:Int}{f1:S}{f2:Int}{f3:S}(h:fraOk ⟨f0,f1,f2,f3⟩=true):aH f0/\1<=f2/\f2<=999:=by
 unfold fraOk at h;simp only[jg,jb]at h;exact⟨h.1.1,h.1.2.2.2⟩
theorem ap3(hL:1099511627776<=L)(b:Bool)(w e:Int)(ks:List S)(own:List Own)(i t:S)(h15:b=true->ks.length=15)(wins:List Win)(hwl:wins.length<=100000)(hwb:VT wins)(f0:Int)(f1:S)(f2:Int)(f3:S):ev E L (D+309) 169 [.agg [.bool b,.int .i64 w,.sl (ks.map rS),.sl (own.map rO),.int .i64 e,.str (bs i),.str (bs t)],.sl (wins.map rW),.agg [.int .i64 f0,.str (bs f1),.int .i64 f2,.str (bs f3)]] []=
 some (.tup (match oL ⟨b,w,ks,own,e,i,t⟩ wins ⟨f0,f1,f2,f3⟩with|some x=>[.sl (x.map rW),.bool true]|none=>[.sl ((if yV ⟨b,w,ks,own,e,i,t⟩ ⟨f0,f1,f2,f3⟩=true/\0<=winAt wins f1 0 then wins.set (winAt wins f1 0).toNat (ix wins (winAt wins f1 0))else wins).map rW),.bool false]),[]):=by
 rw[auU];simp only[KM];unfold oL;have hh:=aeE L D hL b w e ks own i t h15 f0 f1 f2 f3;by_cases h1:yV ⟨b,w,ks,own,e,i,t⟩ ⟨f0,f1,f2,f3⟩=true
 case neg=>
  rw[jc h1];simp only[K1,Ji,hh,h1]
 rw[je h1];have hfr:fraOk ⟨f0,f1,f2,f3⟩=true:=by
  unfold yV at h1;simp only[jg]at h1;exact h1.2.1
 obtain⟨_,n1,n2⟩:=aA2 hfr;have hat:=awT L (D+307) hL wins f1 (by omega)
 simp only;by_cases h2:winAt wins f1 0<0
 ·rw[je h2];have e1:[[MV.str (bs f1),.int .i64 f2,.sl [[.int .i64 f2]]]]=[(⟨f1,f2,[f2]⟩:Win)].map rW:=rfl;simp(disch:=omega) only[K1,aV,aJ,d7,Nat.reduceAdd,KD,aR,↓aA,eJ,hh,h1,hat,h2,e1,aE]
 ·rw[jc h2];rcases winAt_lt wins f1 0 with h3|h3
  ·exact absurd h3 h2
  obtain⟨p1,p2⟩:=h3;have p2':winAt wins f1 0<wins.length:=by omega
  have p1':0<=winAt wins f1 0:=by omega
  obtain⟨t1,t2⟩:=VU hwb p1' p2';have htk:=aj5 L (D+306) hL (ix wins (winAt wins f1 0)).key (ix wins (winAt wins f1 0)).top (ix wins (winAt wins f1 0)).seen f2 t1 (by omega) (by omega)
  have e1:(⟨(ix wins (winAt wins f1 0)).key,(ix wins (winAt wins f1 0)).top,(ix wins (winAt wins f1 0)).seen⟩:Win)=ix wins (winAt wins f1 0):=rfl;rw[e1]at htk;cases e2:winTake (ix wins (winAt wins f1 0)) f2 with
  |none=>
   rw[e2]at htk;simp only[rW]at htk;simp(disch:=omega) only[K1,aV,true_and,Int.reduceLE,Nat.reduceAdd,KD,aR,↓aA,abC,ak3,ak4,TA,TB,IY,apE,rJ,eJ,hh,h1,hat,h2,htk,aE,e1,ku];simp[p1']
  |some x=>
   rw[e2]at htk;simp only[rW]at htk;have e3:(⟨x.key,x.top,x.seen⟩:Win)=x:=rfl;simp(disch:=omega) only[K1,aV,Int.reduceLE,Nat.reduceAdd,KD,aR,↓aA,abC,ak3,ak4,TA,TB,IY,apE,rJ,eJ,hh,h1,hat,h2,htk,aE,e3,ku]
theorem aeF(wins:List Win)(hl:wins.length<=100000)(hb:VT wins):∀(n k:Nat) (acc:List Win),wins.length-k<n->k<=wins.length->acc.length+wins.length<=1000000+k->FE L D n (acc.map rW) (wins.map rW) acc.length k=some (.sl ((acc++wins.drop k).map rW),[]):=by
 intro n;induction n with
 |zero=>intro k acc h;omega
 |succ n ih=>
  intro k acc hn hk hc;rw[NJ];simp only[KM];by_cases h:k<wins.length
  ·have h':(k:Int)<wins.length:=by omega
   obtain⟨_,t2⟩:=VU hb (by omega) h'
   rw[bU wins k h];have:=ih (k+1) (acc++[ix wins (k:Int)]) (by omega) (by omega) (by simp;omega)
   have e1:(⟨(ix wins (k:Int)).key,(ix wins (k:Int)).top,(ix wins (k:Int)).seen⟩:Win)=ix wins (k:Int):=rfl;simp(disch:=omega) only[K1,jx,aV,aJ,Nat.reduceAdd,lA,KD,aZ,aR,↓aA,abC,ak3,ak4,aq5,rJ,eJ,h',aG,aE,e1,this];simp
  ·have h':¬(k:Int)<wins.length:=by omega
   simp(disch:=omega) only[K1,↓aA,h'];rw[js (by omega),ka]
theorem aj6(hL:1099511627776<=L)(wins:List Win)(hl:wins.length<=100000)(hb:VT wins):ev E L (D+1) 104 [.sl (wins.map rW)] []=some (.sl (wins.map rW),[]):=by
 rw[auF];exact aeF L D wins hl hb L 0 [] (by omega) (by omega) (by simp;omega)
end
end Kw.Sp
