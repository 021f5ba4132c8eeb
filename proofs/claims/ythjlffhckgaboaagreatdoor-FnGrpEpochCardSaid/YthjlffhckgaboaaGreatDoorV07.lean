import Derived.Test.YthjlffhckgaboaaGreatDoorV06
set_option linter.unusedVariables false
set_option linter.unusedSimpArgs false
set_option linter.unusedSectionVars false
namespace Kw
def eX(n:Nat):UInt8:=(48+n).toUInt8
def plain(n:Nat):S:=if h:9<n then plain (n/10)++[eX (n%10)]else[eX n]
def letter(w:Nat):UInt8:=(65+w).toUInt8
def CR(w:Int):S:=[letter w.toNat]
def aI(w:Int):Prop:=0<=w/\w<=7
instance(w:Int):Decidable (aI w):=inferInstanceAs (Decidable (_/\_))
def aV(w n:Int):S:=if aI w/\1<=n/\n<=99 then CR w++plain n.toNat++[59]else[]
inductive Sec where
 |new (w n:Nat)
 |next (t:Sec)
 |key (t:Sec)
 |epoch (a b:Sec)
 |say (w:Nat) (t:Sec)
 |room (n:Nat) (t:Sec)
 deriving DecidableEq,Inhabited
def Sec.str:Sec->S
 | .new w n=>letter w::(plain n++[59])
 | .next t=>110::t.str
 | .key t=>107::t.str
 | .epoch a b=>101::(a.str++b.str)
 | .say w t=>109::letter w::t.str
 | .room n t=>114::eX n::t.str
def Sec.wf:Sec->Prop
 | .new w n=>w<=7/\1<=n/\n<=99
 | .next t=>t.wf
 | .key t=>t.wf
 | .epoch a b=>a.wf/\b.wf
 | .say w t=>w<=7/\t.wf
 | .room n t=>1<=n/\n<=9/\t.wf
def pFresh:S->Option (Sec×S)
 |c::d::t=>if(65<=c.toNat/\c.toNat<=72)/\49<=d.toNat/\d.toNat<=57 then(match t with
   |[]=>none
   |e::r=>if e=59 then some (.new (c.toNat-65) (d.toNat-48),r)else if 48<=e.toNat/\e.toNat<=57 then(match r with
     |[]=>none
     |f::r=>if f=59 then some (.new (c.toNat-65) ((d.toNat-48)*10+(e.toNat-48)),r)else none)
    else none)
   else none
 |_=>none
def eC:Nat->S->Option (Sec×S)
 |0,_=>none
 |_+1,[]=>none
 |n+1,c::t=>
  if c=110 then(match eC n t with|some (x,r)=>some (.next x,r)|none=>none)
  else if c=107 then(match eC n t with|some (x,r)=>some (.key x,r)|none=>none)
  else if c=109 then(match t with
   |[]=>none
   |w::t=>if 65<=w.toNat/\w.toNat<=72 then(match eC n t with|some (x,r)=>some (.say (w.toNat-65) x,r)|none=>none)else none)
  else if c=114 then(match t with
   |[]=>none
   |w::t=>if 49<=w.toNat/\w.toNat<=57 then(match eC n t with|some (x,r)=>some (.room (w.toNat-48) x,r)|none=>none)else none)
  else if c=101 then(match eC n t with
   |some (x,r)=>(match eC n r with|some (y,r)=>some (.epoch x y,r)|none=>none)
   |none=>none)
  else pFresh (c::t)
theorem jJ{w:Nat}(h:w<=7):(letter w).toNat=65+w:=by
 unfold letter;rw[UInt8.toNat_ofNat'];omega
theorem iW{n:Nat}(h:n<=9):(eX n).toNat=48+n:=by
 unfold eX;rw[UInt8.toNat_ofNat'];omega
theorem yR{c:UInt8}(h1:65<=c.toNat)(h2:c.toNat<=72):letter (c.toNat-65)=c:=by
 apply UInt8.toNat_inj.1;rw[jJ (by omega)];omega
theorem oO{c:UInt8}(h1:48<=c.toNat)(h2:c.toNat<=57):eX (c.toNat-48)=c:=by
 apply UInt8.toNat_inj.1;rw[iW (by omega)];omega
theorem sN{n:Nat}(h:n<=9):plain n=[eX n]:=by rw[plain,dif_neg (by omega)]
theorem BB{n:Nat}(h:9<n)(h':n<=99):plain n=[eX (n/10),eX (n%10)]:=by
 rw[plain,dif_pos h,sN (by omega)];rfl
theorem CS{s:S}{t:Sec}{r:S}(h:pFresh s=some (t,r)):t.wf/\s=t.str++r:=by
 unfold pFresh at h;split at h
 ·rename_i c d u;split at h
  ·rename_i hc;split at h
   ·cases h
   ·rename_i e r';split at h
    ·rename_i he;cases h;refine⟨⟨by omega,by omega,by omega⟩,?_⟩
     show _=letter _::(plain _++[59])++_;rw[sN (by omega),yR (by omega) (by omega),oO (by omega) (by omega),he];rfl
    ·split at h
     ·rename_i he;split at h
      ·cases h
      ·rename_i f r'';split at h
       ·rename_i hf;cases h;refine⟨⟨by omega,by omega,by omega⟩,?_⟩
        show _=letter _::(plain _++[59])++_;have e1:((d.toNat-48)*10+(e.toNat-48))/10=d.toNat-48:=by omega
        have e2:((d.toNat-48)*10+(e.toNat-48))%10=e.toNat-48:=by omega
        rw[BB (by omega) (by omega),e1,e2,yR (by omega) (by omega),oO (by omega) (by omega),oO (by omega) (by omega),hf];rfl
       ·cases h
     ·cases h
  ·cases h
 ·cases h
theorem eY:∀{n:Nat} {s:S} {t:Sec} {r:S},eC n s=some (t,r)->t.wf/\s=t.str++r
 |0,_,_,_,h=>by simp[eC]at h
 |n+1,[],_,_,h=>by simp[eC]at h
 |n+1,c::u,t,r,h=>by
  unfold eC at h;split at h
  ·rename_i hc;split at h
   ·rename_i x r' e;cases h;obtain⟨h1,h2⟩:=eY e;exact⟨h1,by rw[hc,h2];rfl⟩
   ·cases h
  split at h
  ·rename_i hc;split at h
   ·rename_i x r' e;cases h;obtain⟨h1,h2⟩:=eY e;exact⟨h1,by rw[hc,h2];rfl⟩
   ·cases h
  split at h
  ·rename_i hc;split at h
   ·cases h
   ·rename_i w v;split at h
    ·rename_i hw;split at h
     ·rename_i x r' e;cases h;obtain⟨h1,h2⟩:=eY e;refine⟨⟨by omega,h1⟩,?_⟩
      show _=109::letter _::x.str++_;rw[yR hw.1 hw.2,hc,h2];rfl
     ·cases h
    ·cases h
  split at h
  ·rename_i hc;split at h
   ·cases h
   ·rename_i w v;split at h
    ·rename_i hw;split at h
     ·rename_i x r' e;cases h;obtain⟨h1,h2⟩:=eY e;refine⟨⟨by omega,by omega,h1⟩,?_⟩
      show _=114::eX _::x.str++_;rw[oO (by omega) (by omega),hc,h2];rfl
     ·cases h
    ·cases h
  split at h
  ·rename_i hc;split at h
   ·rename_i x r' e;split at h
    ·rename_i y r'' e';cases h;obtain⟨h1,h2⟩:=eY e;obtain⟨h3,h4⟩:=eY e';refine⟨⟨h1,h3⟩,?_⟩;show _=101::(x.str++y.str)++_;rw[hc,h2,h4];simp
    ·cases h
   ·cases h
  ·exact CS h
theorem MY{w:Nat}(h:w<=7):letter w≠110/\letter w≠107/\letter w≠109/\letter w≠114/\letter w≠101:=by
 have:=jJ h;refine⟨?_,?_,?_,?_,?_⟩<;>intro e<;>rw[e]at this<;>simp at this<;>omega
theorem jT:∀(t:Sec) (r:S) (n:Nat),t.wf->t.str.length<n->eC n (t.str++r)=some (t,r)
 | .new w m,r,0,_,hn=>by omega
 | .new w m,r,n+1,⟨hw,h1,h2⟩,hn=>by
   obtain⟨a1,a2,a3,a4,a5⟩:=MY hw;show eC (n+1) (letter w::(plain m++[59]++r))=_;unfold eC;rw[jc a1,jc a2,jc a3,jc a4,jc a5];have hl:=jJ hw;by_cases h9:m<=9
   ·have hd:=iW h9;rw[sN h9];show pFresh (letter w::eX m::59::r)=_;simp only[pFresh];rw[je (by omega),je trivial,hl,hd]
    simp
   ·have hd:= @iW (m/10) (by omega)
    have hd':= @iW (m%10) (by omega)
    rw[BB (by omega) h2]
    show pFresh (letter w::eX (m/10)::eX (m%10)::59::r)=_;have hne:eX (m%10)≠59:=fun e=>by rw[e]at hd';simp at hd';omega
    simp only[pFresh];rw[je (by omega),jc hne,je (by omega),je trivial,hl,hd,hd']
    have:(48+m/10-48)*10+(48+m%10-48)=m:=by omega
    rw[this];simp
 | .next t,r,n+1,hw,hn=>by
   show eC (n+1) (110::(t.str++r))=_;unfold eC;rw[je rfl,jT t r n hw (by simp[Sec.str]at hn;omega)]
 | .key t,r,n+1,hw,hn=>by
   show eC (n+1) (107::(t.str++r))=_;unfold eC;rw[jc (by decide),je rfl,jT t r n hw (by simp[Sec.str]at hn;omega)]
 | .epoch a b,r,n+1,hw,hn=>by
   show eC (n+1) (101::(a.str++b.str++r))=_;unfold eC;rw[jc (by decide),jc (by decide),jc (by decide),jc (by decide),je rfl,v3,jT a _ n hw.1 (by simp[Sec.str]at hn;omega)]
   simp only;rw[jT b r n hw.2 (by simp[Sec.str]at hn;omega)]
 | .say w t,r,n+1,hw,hn=>by
   show eC (n+1) (109::letter w::(t.str++r))=_;have hl:=jJ hw.1;have:=hw.1;unfold eC;rw[jc (by decide),jc (by decide),je rfl]
   simp only;rw[je (by omega),jT t r n hw.2 (by simp[Sec.str]at hn;omega),hl]
   simp
 | .room m t,r,n+1,hw,hn=>by
   show eC (n+1) (114::eX m::(t.str++r))=_;have hl:=iW hw.2.1;have:=hw.1;have:=hw.2.1;unfold eC;rw[jc (by decide),jc (by decide),jc (by decide),je rfl]
   simp only;rw[je (by omega),jT t r n hw.2.2 (by simp[Sec.str]at hn;omega),hl]
   simp
 | .next t,r,0,_,hn=>by omega
 | .key t,r,0,_,hn=>by omega
 | .epoch a b,r,0,_,hn=>by omega
 | .say w t,r,0,_,hn=>by omega
 | .room m t,r,0,_,hn=>by omega
theorem Sec.str_pos(t:Sec):0<t.str.length:=by cases t<;>simp[Sec.str]
theorem TP{n m:Nat}{s:S}(h1:s.length<n)(h2:s.length<m):eC n s=eC m s:=by
 cases e:eC n s with
 |some x=>
  obtain⟨t,r⟩:=x;obtain⟨hw,hs⟩:=eY e;subst hs;rw[jT t r m hw (by simp at h2;omega)]
 |none=>
  cases e':eC m s with
  |none=>rfl
  |some x=>
   obtain⟨t,r⟩:=x;obtain⟨hw,hs⟩:=eY e';subst hs;rw[jT t r n hw (by simp at h1;omega)]at e
   cases e
def pars(s:S):Option (Sec×S):=eC (s.length+1) s
theorem OJ{n:Nat}{s:S}(h:s.length<n):eC n s=pars s:=TP h (by omega)
theorem hD{s:S}{t:Sec}{r:S}(h:pars s=some (t,r)):t.wf/\s=t.str++r:=eY h
theorem CT{t:Sec}(r:S)(h:t.wf):pars (t.str++r)=some (t,r):=jT t r _ h (by simp;omega)
def pnt(s:S):Option Sec:=match pars s with|some (t,[])=>some t|_=>none
theorem pnt_some{s:S}{t:Sec}:pnt s=some t↔t.wf/\s=t.str:=by
 unfold pnt;constructor
 ·intro h;split at h
  ·rename_i t' e;cases h;obtain⟨h1,h2⟩:=hD e;exact⟨h1,by simpa using h2⟩
  ·cases h
 ·rintro⟨hw,rfl⟩;have:=CT [] hw;rw[kg]at this;rw[this]
def sec(s:S):Option Sec:=if s.length<=300 then pnt s else none
theorem mC{s:S}{t:Sec}:sec s=some t↔t.wf/\s=t.str/\s.length<=300:=by
 unfold sec;split
 ·rename_i h;rw[pnt_some];exact⟨fun⟨a,b⟩=>⟨a,b,h⟩,fun⟨a,b,_⟩=>⟨a,b⟩⟩
 ·rename_i h;exact⟨fun e=>(by cases e),fun⟨_,_,e⟩=>absurd e h⟩
def secOk(s:S):Bool:=(sec s).isSome
theorem dG{s:S}:secOk s=true↔∃t:Sec,t.wf/\s=t.str/\s.length<=300:=by
 unfold secOk;rw[qz];exact⟨fun⟨t,h⟩=>⟨t,mC.1 h⟩,fun⟨t,h⟩=>⟨t,mC.2 h⟩⟩
def mk1(p s:S):S:=if secOk s=true/\p.length+s.length<=300 then p++s else[]
def makNext(s:S):S:=mk1 [110] s
def makKey(s:S):S:=mk1 [107] s
def cE(a b:S):S:=if(secOk a=true/\secOk b=true)/\1+a.length+b.length<=300 then 101::(a++b)else[]
def dK(s:S)(w:Int):S:=if aI w then mk1 (109::CR w) s else[]
structure How where
 op:Int
 who:Int
 n:Int
 a:S
 b:S
 deriving DecidableEq,Inhabited
def Sec.how:Sec->How
 | .new w n=>⟨1,w,n,[],[]⟩
 | .next t=>⟨2,0,0,t.str,[]⟩
 | .key t=>⟨3,0,0,t.str,[]⟩
 | .epoch a b=>⟨4,0,0,a.str,b.str⟩
 | .say w t=>⟨5,w,0,t.str,[]⟩
 | .room n t=>⟨6,0,n,t.str,[]⟩
def aN(s:S):How:=match sec s with|some t=>t.how|none=>⟨0,0,0,[],[]⟩
def isKey(s:S):Bool:=decide ((aN s).op=3)
theorem kY{s:S}:(aN s).op=0↔secOk s=false:=by
 unfold aN secOk;cases sec s with
 |none=>simp
 |some t=>cases t<;>simp[Sec.how]
end Kw
namespace Kw
def lG(b:UInt8):Prop:=48<=b.toNat/\b.toNat<=57
instance(b:UInt8):Decidable (lG b):=inferInstanceAs (Decidable (_/\_))
def oP(s:S)(p k num:Nat):Int:=if k<s.length/\(ix s k).toNat=59/\aV ((ix s p).toNat-65:Int) num=(s.take (k+1)).drop p then k+1-p else 0
def pD(s:S)(p:Nat):Nat->Nat->Nat->Int
 |0,k,num=>oP s p k num
 |m+1,k,num=>if k<s.length/\lG (ix s k)then pD s p m (k+1) (num*10+((ix s k).toNat-48))else oP s p k num
def AA(s:S)(o:Option (Sec×S)):Int:=match o with|some (_,r)=>s.length-r.length|none=>0
theorem TQ(p u:S)(j:Nat)(h:j<u.length):ix (p++u) ((p.length+j:Nat):Int)=u[j]:=by
 rw[aM _ _ (by simp;omega)]
 simp
def fE(u:S)(c:UInt8)(j num:Nat):Int:=if(u.drop j).head?=some 59/\aV (c.toNat-65:Int) num=u.take (j+1)then j+1 else 0
def fG(u:S)(c:UInt8):Nat->Nat->Nat->Int
 |0,j,num=>fE u c j num
 |m+1,j,num=>match u.drop j with
  |[]=>fE u c j num
  |x::_=>if lG x then fG u c m (j+1) (num*10+(x.toNat-48))else fE u c j num
theorem KR(q u:S)(n:Nat):(List.take (q.length+n) (q++u)).drop q.length=u.take n:=by
 rw[List.take_append,List.drop_append];simp
theorem YA(u:S)(j:Nat):(u.drop j).head?=u[j]?:=by simp[List.head?_drop]
theorem sO(q u:S)(c:UInt8)(t:S)(hu:u=c::t)(j num:Nat):oP (q++u) q.length (q.length+j) num=fE u c j num:=by
 have h0:ix (q++u) (q.length:Int)=c:=by
  have:=TQ q u 0 (by rw[hu];simp)
  rw[yi]at this;rw[this];subst hu;rfl
 unfold oP fE;rw[h0,yw,KR,YA];by_cases hj:j<u.length
 ·rw[TQ q u j hj,jj hj];have e1:q.length+j< (q++u).length:=by simp;omega
  have e2:((u[j]).toNat=59)↔(some u[j]=some (59:UInt8)):=by
   rw[Option.some.injEq,<-UInt8.toNat_inj];rfl
  by_cases h:(some u[j]=some (59:UInt8))/\aV (c.toNat-65:Int) num=u.take (j+1)
  ·rw[je ⟨e1,e2.2 h.1,h.2⟩,je h];push_cast;omega
  ·rw[jc (fun e=>h ⟨e2.1 e.2.1,e.2.2⟩),jc h]
 ·rw[jc (fun e=>hj (by have:=e.1;simp at this;omega)),jc (fun e=>by rw[ql (by omega)]at e;cases e.1)]
theorem FU(q u:S)(c:UInt8)(t:S)(hu:u=c::t):∀(m j num:Nat),pD (q++u) q.length m (q.length+j) num=fG u c m j num
 |0,j,num=>sO q u c t hu j num
 |m+1,j,num=>by
  unfold pD fG;cases e:u.drop j with
  |nil=>
   have hj:u.length<=j:=by simpa using e
   rw[jc (fun e=>by have:=e.1;simp at this;omega)]
   exact sO q u c t hu j num
  |cons x v=>
   have hj:j<u.length:=by
    rcases ya j u.length with h|h
    ·exact h
    ·rw[jo h]at e;cases e
   have hx:u[j]=x:=by
    rw[qd hj]at e;exact(List.cons.inj e).1
   simp only;rw[TQ q u j hj,hx];by_cases hd:lG x
   ·rw[je ⟨by simp;omega,hd⟩,je hd]
    exact FU q u c t hu m (j+1) _
   ·rw[jc (fun e=>hd e.2),jc hd]
    exact sO q u c t hu j num
theorem TR{w n:Int}(h:99<n):aV w n=[]:=jc (fun e=>by omega)
theorem pE(w:Int):aV w 0=[]:=jc (fun e=>by omega)
theorem yS{c:UInt8}(h1:65<=c.toNat)(h2:c.toNat<=72){n:Nat}(h3:1<=n)(h4:n<=99):aV (c.toNat-65:Int) n=c::(plain n++[59]):=by
 unfold aV;rw[je ⟨⟨by omega,by omega⟩,by omega,by omega⟩]
 have:((c.toNat:Int)-65).toNat=c.toNat-65:=by omega
 unfold CR;rw[this,yR h1 h2];simp
theorem acK(c:UInt8)(t:S)(h1:65<=c.toNat)(h2:c.toNat<=72):fG (c::t) c 3 1 0=AA (c::t) (pFresh (c::t)):=by
 have dne:∀x:UInt8,lG x->x≠59:=fun x hx e=>by subst e;simp[lG]at hx
 cases t with
 |nil=>simp[fG,fE,AA,pFresh]
 |cons d t=>
  by_cases hd:lG d
  case neg=>
   have:¬(49<=d.toNat/\d.toNat<=57):=fun e=>hd ⟨by omega,e.2⟩
   simp[fG,fE,AA,pFresh,hd,this,pE]
  obtain⟨d1,d2⟩:=hd;cases t with
  |nil=>simp[fG,fE,AA,pFresh,lG,d1,d2]
  |cons e t=>
   by_cases he:lG e
   case neg=>
    have he':¬(48<=e.toNat/\e.toNat<=57):=he;by_cases h0:d.toNat=48
    ·have:¬(49<=d.toNat/\d.toNat<=57):=by omega
     simp[fG,fE,AA,pFresh,lG,d1,d2,he',this,h0,pE]
    ·have hm:aV (c.toNat-65:Int) ((0*10+(d.toNat-48):Nat):Int)=c::d::[59]:=by
      rw[yS h1 h2 (by omega) (by omega),sN (by omega),Nat.zero_mul,qu,oO (by omega) (by omega)];rfl
     have h49:49<=d.toNat:=by omega
     by_cases e59:e=59
     ·subst e59;simp only[fG,lG,d1,d2,List.drop_succ_cons,qb,and_self,ju,he',qn];unfold fE;rw[hm];simp[AA,pFresh,h1,h2,h49,d2];omega
     ·simp only[fG,lG,d1,d2,List.drop_succ_cons,qb,and_self,ju,he',qn];unfold fE;simp[AA,pFresh,h1,h2,h49,d2,e59,he']
   obtain⟨e1,e2⟩:=he;have ene:=dne e ⟨e1,e2⟩;cases t with
   |nil=>
    simp[fG,fE,AA,pFresh,lG,d1,d2,e1,e2,ene]
   |cons f t=>
    by_cases hf:lG f
    case neg=>
     have hf':¬(48<=f.toNat/\f.toNat<=57):=hf;have num:0*10+(d.toNat-48)=d.toNat-48:=by omega
     simp only[fG,lG,d1,d2,e1,e2,hf',List.drop_succ_cons,qb,and_self,ju,qn,num];unfold fE;by_cases f59:f=59
     ·subst f59;by_cases h0:d.toNat=48
      ·have:¬(49<=d.toNat/\d.toNat<=57):=by omega
       have hne:aV (c.toNat-65:Int) (((d.toNat-48)*10+(e.toNat-48):Nat):Int)≠List.take (2+1+1) (c::d::e::59::t):=by
        by_cases z:e.toNat=48
        ·have:((d.toNat-48)*10+(e.toNat-48):Nat)=0:=by omega
         rw[this];simp[pE]
        ·rw[yS h1 h2 (by omega) (by omega),sN (by omega)];simp
       rw[jc (fun x=>hne x.2)]
       simp[AA,pFresh,this]
      ·have hm:aV (c.toNat-65:Int) (((d.toNat-48)*10+(e.toNat-48):Nat):Int)=c::d::e::[59]:=by
        have q1:((d.toNat-48)*10+(e.toNat-48))/10=d.toNat-48:=by omega
        have q2:((d.toNat-48)*10+(e.toNat-48))%10=e.toNat-48:=by omega
        rw[yS h1 h2 (by omega) (by omega),BB (by omega) (by omega),q1,q2,oO (by omega) (by omega),oO (by omega) (by omega)];rfl
       have h49:49<=d.toNat:=by omega
       rw[hm];simp[AA,pFresh,h1,h2,h49,d2,e1,e2,ene];omega
     ·have:(List.drop (2+1) (c::d::e::f::t)).head?≠some 59:=by simpa using f59
      rw[jc (fun x=>this x.1)]
      simp only[AA,pFresh];by_cases h49:49<=d.toNat
      ·simp[h1,h2,h49,d2,e1,e2,ene,f59]
      ·have:¬(49<=d.toNat/\d.toNat<=57):=by omega
       simp[this]
    obtain⟨f1,f2⟩:=hf;have fne:=dne f ⟨f1,f2⟩;have num:0*10+(d.toNat-48)=d.toNat-48:=by omega
    simp only[fG,lG,d1,d2,e1,e2,f1,f2,List.drop_succ_cons,qb,and_self,ju,num];have hne:aV (c.toNat-65:Int) ((((d.toNat-48)*10+(e.toNat-48))*10+(f.toNat-48):Nat):Int)≠List.take (1+1+1+1+1) (c::d::e::f::t)\/(List.drop (1+1+1+1) (c::d::e::f::t)).head?≠some 59:=by
     cases t with
     |nil=>right;simp
     |cons g t=>
      by_cases g59:g=59
      ·left;by_cases big:99< ((d.toNat-48)*10+(e.toNat-48))*10+(f.toNat-48)
       ·rw[TR (by omega)];simp
       ·by_cases z:((d.toNat-48)*10+(e.toNat-48))*10+(f.toNat-48)=0
        ·rw[z];simp[pE]
        ·rw[yS h1 h2 (by omega) (by omega)]
         intro x;have:=wo List.length x;by_cases s:((d.toNat-48)*10+(e.toNat-48))*10+(f.toNat-48)<=9
         ·rw[sN s]at this;simp at this
         ·rw[BB (by omega) (by omega)]at this;simp at this
      ·right;simpa using g59
    unfold fE;rw[jc (fun x=>hne.elim (fun y=>y x.2) (fun y=>y x.1))]
    simp only[AA,pFresh];by_cases h49:49<=d.toNat
    ·simp[h1,h2,h49,d2,e1,e2,ene,fne]
    ·have:¬(49<=d.toNat/\d.toNat<=57):=by omega
     simp[this]
theorem acL(s:S)(p:Nat)(hp:p<s.length):(if 65<=(ix s p).toNat/\(ix s p).toNat<=72 then pD s p 3 (p+1) 0 else 0)=AA (s.drop p) (pFresh (s.drop p)):=by
 have hd:=bP s p hp;have hq:s=s.take p++s.drop p:=(List.take_append_drop p s).symm;have hl:(s.take p).length=p:=by simp;omega
 generalize ix s p=c at hd⊢;by_cases h:65<=c.toNat/\c.toNat<=72
 ·rw[je h];have:=FU (s.take p) (s.drop p) c _ hd 3 1 0;rw[hl,<-hq]at this;rw[this,hd];exact acK c _ h.1 h.2
 ·rw[jc h,hd];cases s.drop (p+1)with
  |nil=>rfl
  |cons d t=>simp only[pFresh];rw[jc (fun x=>h x.1)];rfl
end Kw
namespace Kw
def psz(u:S):Nat:=match pars u with|some (x,_)=>x.str.length|none=>0
theorem TS(u:S):AA u (pFresh u)=match pFresh u with|some (x,_)=>(x.str.length:Int)|none=>0:=by
 unfold AA;cases e:pFresh u with
 |none=>rfl
 |some x=>
  obtain⟨t,r⟩:=x;obtain⟨_,h⟩:=CS e;simp only;rw[h];simp
theorem nE{u:S}{x:Sec}{r:S}(h:pars u=some (x,r)):psz u=x.str.length/\u.drop (psz u)=r/\u.take (psz u)=x.str/\0<psz u/\psz u<=u.length:=by
 have e:psz u=x.str.length:=by unfold psz;rw[h]
 obtain⟨_,hs⟩:=hD h;refine⟨e,?_,?_,?_,?_⟩
 ·rw[e,hs];simp
 ·rw[e,hs];simp
 ·rw[e];exact x.str_pos
 ·rw[e,hs];simp
theorem oQ{u:S}(h:pars u=none):psz u=0:=by unfold psz;rw[h]
theorem TT(u:S):psz u<=u.length:=by
 cases e:pars u with
 |none=>rw[oQ e];omega
 |some x=>exact(nE (x:=x.1) (r:=x.2) e).2.2.2.2
theorem bT(c:UInt8)(t:S):pars (c::t)=
 if c=110 then(match pars t with|some (x,r)=>some (.next x,r)|none=>none)
 else if c=107 then(match pars t with|some (x,r)=>some (.key x,r)|none=>none)
 else if c=109 then(match t with
  |[]=>none
  |w::t=>if 65<=w.toNat/\w.toNat<=72 then(match pars t with|some (x,r)=>some (.say (w.toNat-65) x,r)|none=>none)else none)
 else if c=114 then(match t with
  |[]=>none
  |w::t=>if 49<=w.toNat/\w.toNat<=57 then(match pars t with|some (x,r)=>some (.room (w.toNat-48) x,r)|none=>none)else none)
 else if c=101 then(match pars t with
  |some (x,r)=>(match pars r with|some (y,r)=>some (.epoch x y,r)|none=>none)
  |none=>none)
 else pFresh (c::t):=by
 have e:pars (c::t)=eC (t.length+1+1) (c::t):=rfl;rw[e]
 conv=>lhs;unfold eC
 have e1:eC (t.length+1) t=pars t:=rfl;rw[e1];split
 ·rfl
 split
 ·rfl
 split
 ·cases t with
  |nil=>rfl
  |cons w t=>
   simp only;rw[OJ (n:=(w::t).length+1) (s:=t) (by simp;omega)]
   all_goals rfl
 split
 ·cases t with
  |nil=>rfl
  |cons w t=>
   simp only;rw[OJ (n:=(w::t).length+1) (s:=t) (by simp;omega)]
   all_goals rfl
 split
 ·cases e2:pars t with
  |none=>rfl
  |some x=>
   obtain⟨x,r⟩:=x;obtain⟨_,hs⟩:=hD e2;simp only;rw[OJ (n:=t.length+1) (s:=r) (by rw[hs];simp;omega)]
   try rfl
 ·rfl
theorem at2{c:UInt8}{t:S}(h:c=110\/c=107):psz (c::t)=if psz t=0 then 0 else 1+psz t:=by
 cases e:pars t with
 |none=>
  rw[oQ e,je rfl];unfold psz;rw[bT,e];rcases h with h|h<;>subst h<;>simp
 |some x=>
  obtain⟨x,r⟩:=x;have hp:=nE e;rw[jc (by omega),hp.1]
  unfold psz;rw[bT,e];rcases h with h|h<;>subst h<;>simp[Sec.str]<;>omega
theorem avD{w:UInt8}{t:S}(h:65<=w.toNat/\w.toNat<=72):psz (109::w::t)=if psz t=0 then 0 else 2+psz t:=by
 cases e:pars t with
 |none=>
  rw[oQ e,je rfl];unfold psz;rw[bT,jc (by decide),jc (by decide),je rfl]
  simp only;rw[je h,e]
 |some x=>
  obtain⟨x,r⟩:=x;have hp:=nE e;rw[jc (by omega),hp.1]
  unfold psz;rw[bT,jc (by decide),jc (by decide),je rfl]
  simp only;rw[je h,e];simp[Sec.str];omega
theorem al6{t:S}(h:∀w u,t=w::u->¬(65<=w.toNat/\w.toNat<=72)):psz (109::t)=0:=by
 unfold psz;rw[bT,jc (by decide),jc (by decide),je rfl]
 cases t with
 |nil=>rfl
 |cons w u=>simp only;rw[jc (h w u rfl)]
theorem avE{w:UInt8}{t:S}(h:49<=w.toNat/\w.toNat<=57):psz (114::w::t)=if psz t=0 then 0 else 2+psz t:=by
 cases e:pars t with
 |none=>
  rw[oQ e,je rfl];unfold psz;rw[bT,jc (by decide),jc (by decide),jc (by decide),je rfl]
  simp only;rw[je h,e]
 |some x=>
  obtain⟨x,r⟩:=x;have hp:=nE e;rw[jc (by omega),hp.1]
  unfold psz;rw[bT,jc (by decide),jc (by decide),jc (by decide),je rfl]
  simp only;rw[je h,e];simp[Sec.str];omega
theorem al7{t:S}(h:∀w u,t=w::u->¬(49<=w.toNat/\w.toNat<=57)):psz (114::t)=0:=by
 unfold psz;rw[bT,jc (by decide),jc (by decide),jc (by decide),je rfl]
 cases t with
 |nil=>rfl
 |cons w u=>simp only;rw[jc (h w u rfl)]
theorem avF{t:S}:psz (101::t)=if psz t=0 then 0 else if psz (t.drop (psz t))=0 then 0 else 1+psz t+psz (t.drop (psz t)):=by
 cases e:pars t with
 |none=>
  rw[oQ e,je rfl];unfold psz;rw[bT,jc (by decide),jc (by decide),jc (by decide),jc (by decide),je rfl,e]
 |some x=>
  obtain⟨x,r⟩:=x;have hp:=nE e;rw[jc (by omega),hp.2.1]
  cases e2:pars r with
  |none=>
   rw[oQ e2,je rfl];unfold psz;rw[bT,jc (by decide),jc (by decide),jc (by decide),jc (by decide),je rfl,e]
   simp only;rw[e2]
  |some y=>
   obtain⟨y,r'⟩:=y;have hq:=nE e2;rw[jc (by omega),hp.1,hq.1]
   unfold psz;rw[bT,jc (by decide),jc (by decide),jc (by decide),jc (by decide),je rfl,e]
   simp only;rw[e2];simp[Sec.str];omega
theorem avG{c:UInt8}{t:S}(h:c≠110/\c≠107/\c≠109/\c≠114/\c≠101):(psz (c::t):Int)=AA (c::t) (pFresh (c::t)):=by
 rw[TS];unfold psz;rw[bT,jc h.1,jc h.2.1,jc h.2.2.1,jc h.2.2.2.1,jc h.2.2.2.2];cases pFresh (c::t)<;>rfl
theorem YB(s:S):secOk s=decide (s≠[]/\s.length<=300/\psz s=s.length):=by
 unfold secOk sec;by_cases h:s.length<=300
 ·rw[je h];unfold pnt;cases e:pars s with
  |none=>
   have:=oQ e;cases s with
   |nil=>simp
   |cons c t=>simp[this]
  |some x=>
   obtain⟨x,r⟩:=x;have hp:=nE e;obtain⟨_,hs⟩:=hD e;have hl:s.length=x.str.length+r.length:=by rw[hs];simp
   cases r with
   |nil=>
    have:s≠[]:=fun e=>by rw[e]at hp;simp at hp;omega
    have h2:psz s=s.length:=by rw[hp.1,hl];simp
    simp[this,h,h2]
   |cons a r=>
    have h2:psz s≠s.length:=by rw[hp.1,hl];simp
    simp[h2]
 ·rw[jc h];simp[h]
end Kw
namespace Kw
def treLeaf(w:Int):Int:=if aI w then 7+w else-1
def ups(i:Nat):List Int:=if h:i=0 then[]else(((i-1)/2:Nat):Int)::ups ((i-1)/2)
def eN(n:Int):Prop:=0<=n/\n<=14
instance(w:Int):Decidable (eN w):=inferInstanceAs (Decidable (_/\_))
def bH(n:Int):List Int:=if eN n then ups n.toNat else[]
def bF(n:Int):Int:=if 1<=n/\n<=14 then(if n%2=1 then n+1 else n-1)else-1
def meetN:Nat->Nat->Nat->Nat
 |0,a,_=>a
 |f+1,a,b=>if a=b then a else if b<a then meetN f ((a-1)/2) b else meetN f a ((b-1)/2)
def treMeet(a b:Int):Int:=if eN a/\eN b then(meetN 30 a.toNat b.toNat:Nat)else-1
def treOk(keys:List S):Bool:=decide (keys.length=15)&&keys.all fun k=>decide (k=[])||isKey k
def treNew:List S:=List.replicate 15 []
def coverN:Nat->List S->Nat->List Int
 |0,_,_=>[]
 |f+1,ks,n=>if ix ks n≠[]then[(n:Int)]else if 7<=n then[]else coverN f ks (2*n+1)++coverN f ks (2*n+2)
def lH(ks:List S)(n:Int):List Int:=coverN 5 ks n.toNat
def pathOf(w:Int):List Int:=treLeaf w::bH (treLeaf w)
def clr(ks:List S)(w:Int):List S:=(pathOf w).foldl (fun ks n=>ks.set n.toNat []) ks
def mP:List Int->S->List S->List S
 |[],_,ks=>ks
 |n::ns,s,ks=>mP ns (makNext s) (ks.set n.toNat (makKey s))
def AB(ks:List S)(w:Int)(s:S):List S:=mP (pathOf w) s ks
def dI(own:List Own)(n:Int):S:=match own.find? (fun o=>o.node==n)with|some o=>o.sec|none=>[]
def pathGo:List Int->S->List Own
 |[],_=>[]
 |n::ns,s=>⟨n,s⟩::pathGo ns (makNext s)
def bG(n:Int)(s:S):List Own:=pathGo (n::bH n) s
def nL(m:Member)(k:Nat):Bool:=
 decide ((ix m.own k).node∈pathOf m.who)&&(secOk (ix m.own k).sec&&(decide (ix m.keys (ix m.own k).node≠[])&&(decide (ix m.keys (ix m.own k).node=makKey (ix m.own k).sec)&&decide (dI (m.own.take k) (ix m.own k).node=[]))))
def fitsAll(m:Member):Bool:=(List.range m.own.length).all (nL m)
def wD(m:Member):Bool:=((pathOf m.who).all fun n=>decide (ix m.keys n=[])||decide (dI m.own n≠[]))&&decide (ix m.keys (treLeaf m.who)≠[])
def memOk(m:Member):Bool:=
 if m.inn=false then decide (m.who=0/\m.keys=[]/\m.own=[]/\m.epoch=0/\m.init=[]/\m.tag=[])
 else decide (aI m.who)&&(treOk m.keys&&(fitsAll m&&(wD m&&(decide (0<=m.epoch/\m.epoch<=12)&&(secOk m.init&&decide (m.tag.length<=300))))))
def bI:Member:=⟨false,0,[],[],0,[],[]⟩
def d8(w:Int)(leaf init:S):Member:=
 if aI w/\secOk leaf=true/\secOk init=true/\leaf.length<=292 then⟨true,w,AB treNew w leaf,bG (treLeaf w) leaf,0,init,[]⟩else bI
def eZ(m:Member):List S:=if memOk m=true/\m.inn=true then m.own.map (·.sec)++[m.init]else[]
def baseT(ks:List S)(add remove:Int)(leaf:S):List S:=
 let ks:=if 0<=remove then clr ks remove else ks
 if 0<=add then(clr ks add).set (treLeaf add).toNat leaf else ks
def bN(n who:Int):Prop:= -1<=n/\n<=7/\n≠who
instance(a b:Int):Decidable (bN a b):=inferInstanceAs (Decidable (_/\_/\_))
def hasLeaf(ks:List S)(w:Int):Bool:=decide (ix ks (treLeaf w)≠[])
def twoKeys(add:Int)(leaf key:S):Bool:=if add<0 then decide (leaf=[]/\key=[])else isKey leaf&&(isKey key&&decide (leaf≠key))
def changes(ks:List S)(add remove:Int):Bool:=(decide (remove<0)||hasLeaf ks remove)&&(decide (add<0)||(!hasLeaf ks add||decide (add=remove)))
def may(m:Member)(add remove:Int)(leaf key:S):Bool:=
 m.inn&&(decide (m.epoch<12/\bN add m.who/\bN remove m.who)&&(changes m.keys add remove&&twoKeys add leaf key))
def bK(ks:List S)(add:Int)(sec:S)(cov:List Int):List Box:=(cov.filter fun n=>decide (add<0\/n≠treLeaf add)).map fun n=>⟨ix ks n,sec⟩
def boxesGo(ks:List S)(add:Int):List Own->List Box
 |a::b::r=>bK ks add b.sec (lH ks (bF a.node))++boxesGo ks add (b::r)
 |_=>[]
def qE:Commit:=⟨0,[],[],0,0,[],[],[],[],[],[],[],[]⟩
def e6(m:Member)(fresh:S)(add remove:Int)(leaf _key:S):Member:=
 let own:=bG (treLeaf m.who) fresh
 ⟨true,m.who,AB (baseT m.keys add remove leaf) m.who fresh,own,m.epoch+1,cE m.init (makNext (ix own (own.length-1)).sec),m.tag++fresh⟩
def jU(m:Member)(fresh:S)(add remove:Int)(leaf key:S):Commit:=
 let base:=baseT m.keys add remove leaf
 let own:=bG (treLeaf m.who) fresh
 let x:=e6 m fresh add remove leaf key
 let w:=if 0<=add then(key,key,x.init,key,dI x.own (treMeet (treLeaf add) (treLeaf m.who)))else([],[],[],[],[])
 ⟨m.who,m.tag,fresh,add,remove,leaf,x.keys,boxesGo base add own,w.1,w.2.1,w.2.2.1,w.2.2.2.1,w.2.2.2.2⟩
def cI(m:Member)(fresh:S)(add remove:Int)(leaf key:S):Bool:=
 memOk m&&(decide ((aN fresh).op=1)&&(may m add remove leaf key&&(decide (m.tag.length+fresh.length<=300)&&decide (m.init.length<=280))))
def iD(m:Member)(fresh:S)(add remove:Int)(leaf key:S):Option (Member×Commit):=
 if cI m fresh add remove leaf key=true then some (e6 m fresh add remove leaf key,jU m fresh add remove leaf key)else none
def jV(b:List Box):Bool:=decide (b.length<=400)&&b.all fun x=>secOk x.key&&secOk x.sec
def dJ(c:Commit):Bool:=
 decide (aI c.sender/\(aN c.name).op=1/\c.tag.length+c.name.length<=300/\bN c.add c.sender/\bN c.remove c.sender)&&(treOk c.keys&&(jV c.boxes&&(decide (c.boxes.length<=20)&&
  (if c.add<0 then decide (c.leaf=[]/\c.wkey=[]/\c.wik=[]/\c.wis=[]/\c.wsk=[]/\c.wss=[])
   else isKey c.leaf&&(isKey c.wkey&&(decide (c.leaf≠c.wkey/\c.wik=c.wkey/\c.wsk=c.wkey)&&(secOk c.wis&&secOk c.wss)))))))
def qF(own:List Own)(k:S):Bool:=own.any fun o=>decide (makKey o.sec=k)
def bQ(own:List Own):List Box->S
 |[]=>[]
 |b::r=>if qF own b.key=true then b.sec else bQ own r
def tG(ks:List S)(own:List Own):List Own:=own.filter fun o=>decide (ix ks o.node=makKey o.sec)
def iO(ks:List S)(path:List Own):Bool:=path.all fun o=>decide (ix ks o.node=makKey o.sec)
def oR(own path:List Own):List Own:=own.filter fun o=>decide (dI path o.node=[])
def kU(c:List S)(path:List Int)(t:List S):List S:=path.foldl (fun t n=>t.set n.toNat (ix c n)) t
def CU(m:Member)(c:Commit):Bool:=decide (c.keys=kU c.keys (pathOf c.sender) (baseT m.keys c.add c.remove c.leaf))
def pF(m:Member)(c:Commit):Bool:=
 m.inn&&(decide (c.tag=m.tag/\m.epoch<12/\c.sender≠m.who)&&(hasLeaf m.keys c.sender&&(changes m.keys c.add c.remove&&CU m c)))
def qG(m:Member)(c:Commit)(s:S):Member:=
 let path:=bG (treMeet (treLeaf m.who) (treLeaf c.sender)) s
 ⟨true,m.who,c.keys,tG c.keys (oR m.own path)++path,m.epoch+1,cE m.init (makNext (ix path (path.length-1)).sec),m.tag++c.name⟩
def hearPair(m:Member)(c:Commit):Member×Bool:=
 let s:=bQ m.own c.boxes
 if s=[]\/292<s.length then(m,false)else
  if iO c.keys (bG (treMeet (treLeaf m.who) (treLeaf c.sender)) s)=true then(qG m c s,secOk (qG m c s).init)else(m,false)
def eB(m:Member)(c:Commit):Member×Bool:=
 if memOk m=true/\dJ c=true then
  if pF m c=true then
   if c.remove=m.who then(bI,true)else
    if(hearPair m c).2=true then((hearPair m c).1,true)else(m,false)
  else(m,false)
 else(bI,false)
def count(s:S):Nat:=(s.filter (·==59)).length
def qI(w:Int)(leaf:S)(c:Commit):Member:=
 ⟨true,w,c.keys,⟨treLeaf w,leaf⟩::bG (treMeet (treLeaf w) (treLeaf c.sender)) c.wss,count c.tag+1,c.wis,c.tag++c.name⟩
def iP(w:Int)(leaf key:S)(c:Commit):Option Member:=
 if dJ c=true/\0<=c.add/\c.add=w/\secOk leaf=true/\secOk key=true/\makKey leaf=c.leaf/\makKey key=c.wkey/\c.wss.length<=292/\memOk (qI w leaf c)=true then some (qI w leaf c)else none
def mY(s:S):Bool:=decide (s.length<=8)&&s.all fun b=>decide (97<=b.toNat/\b.toNat<=122)
def fraOk(f:Frame):Bool:=decide (aI f.src/\(aN f.key).op=5/\(aN f.key).who=f.src/\1<=f.n/\f.n<=999)&&mY f.text
def mZ(m:Member)(n:Int)(text:S):Option Frame:=
 if memOk m=true/\m.inn=true/\1<=n/\n<=999/\mY text=true/\dK m.init m.who≠[]then some ⟨m.who,dK m.init m.who,n,text⟩else none
def winOk(w:Win):Bool:=
 decide ((aN w.key).op=5/\1<=w.top/\w.top<=999/\w.seen≠[]/\ix w.seen 0=w.top)&&((List.range w.seen.length).all fun k=>decide (k=0\/(ix w.seen k<ix w.seen (k-1:Nat)/\w.top-8<ix w.seen k/\1<=ix w.seen k)))
def seenGo(n top:Int):List Int->Bool->List Int
 |[],d=>if d then[]else[n]
 |x::r,d=>(if d=false/\x<n then[n]else[])++(if top-8<x then[x]else[])++seenGo n top r (d||decide (x<n))
def winTake(w:Win)(n:Int):Option Win:=
 if n<=w.top-8\/n∈w.seen then none else some ⟨w.key,max w.top n,seenGo n (max w.top n) w.seen false⟩
def winAt:List Win->S->Nat->Int
 |[],_,_=> -1
 |w::r,key,k=>if w.key=key then k else winAt r key (k+1)
def wE(m:Member)(f:Frame):Bool:=m.inn&&(fraOk f&&(decide (f.src≠m.who)&&(hasLeaf m.keys f.src&&decide (f.key=dK m.init f.src))))
def nM(m:Member)(wins:List Win)(f:Frame):Option (List Win):=
 if wE m f=true then
  let k:=winAt wins f.key 0
  if k<0 then some (wins++[⟨f.key,f.n,[f.n]⟩])else
   match winTake (ix wins k) f.n with
   |some x=>some (wins.set k.toNat x)
   |none=>none
 else none
def agJ:World:=⟨[],[],[],[],[],[],[],[],[],[]⟩
def bR(w:Int):World:=
 if aI w then
  ⟨(List.range 8).map fun(k:Nat)=>if(k:Int)=w then d8 w (aV w 1) (aV w 2)else bI,[],[],
   (List.range 8).map fun(k:Nat)=>if(k:Int)=w then 2 else 0,[],[],[],List.replicate 8 0,List.replicate 8 [],[]⟩
 else agJ
def dH{A:Type}(l:List A)(i:Int)(x:A):List A:=l.set i.toNat x
def commitEnd(w:World)(e:Event)(lf ky:S):World:=
 match iD (ix w.seats e.who) (aV e.who (ix w.fresh e.who+1)) e.add e.remove (makKey lf) (makKey ky)with
 |none=>w
 |some (m,c)=>
  {w with seats:=dH w.seats e.who m,log:=w.log++[c],fresh:=if 0<=e.add then dH (dH w.fresh e.who (ix w.fresh e.who+1)) e.add (ix (dH w.fresh e.who (ix w.fresh e.who+1)) e.add+2)else dH w.fresh e.who (ix w.fresh e.who+1),
          waits:=if 0<=e.add then w.waits++[⟨e.add,w.log.length,lf,ky⟩]else w.waits}
def cA(w:World)(e:Event):World:=
 if w.log.length=16\/99<=ix w.fresh e.who\/¬(-1<=e.add/\e.add<=7)\/(0<=e.add/\98<=ix w.fresh e.add)then w else
  if 0<=e.add then commitEnd w e (aV e.add (ix w.fresh e.add+1)) (aV e.add (ix w.fresh e.add+2))else commitEnd w e [] []
def dN(w:World)(who pos:Int):World:=
 let r:=eB (ix w.seats who) (ix w.log pos)
 if r.2=true then{w with seats:=dH w.seats who r.1}else w
def joinGo(w:World)(who pos:Int):List Wait->Nat->World
 |[],_=>w
 |x::r,k=>if x.who=who/\x.pos=pos then
   (match iP who x.leaf x.key (ix w.log pos)with
    |some m=>{w with seats:=dH w.seats who m,waits:=w.waits.eraseIdx k}
    |none=>joinGo w who pos r (k+1))
  else joinGo w who pos r (k+1)
def dC(w:World)(who pos:Int):World:=if(ix w.seats who).inn=true then w else joinGo w who pos w.waits 0
def cR(w:World)(who:Int):World:=
 if(ix w.seats who).inn=false\/w.stolen.length=12 then w else{w with spy:=w.spy++eZ (ix w.seats who),stolen:=w.stolen++[⟨who,(ix w.seats who).tag⟩]}
def eK(w:World)(who:Int)(text:S):World:=
 if w.frames.length=40\/ix w.said who=999 then w else
  match mZ (ix w.seats who) (ix w.said who+1) text with
  |some f=>{w with frames:=w.frames++[f],said:=dH w.said who (ix w.said who+1)}
  |none=>w
def eL(w:World)(who pos:Int):World:=
 if w.told.length=320 then w else
  match nM (ix w.seats who) (ix w.wins who) (ix w.frames pos)with
  |some x=>{w with wins:=dH w.wins who x,told:=w.told++[⟨who,pos⟩]}
  |none=>w
def step(w:World)(e:Event):World:=
 if aI e.who then
  if e.kind=1 then cA w e
  else if e.kind=4 then cR w e.who
  else if e.kind=5 then eK w e.who e.text
  else if e.kind=2 then(if 0<=e.pos/\e.pos<w.log.length then dN w e.who e.pos else w)
  else if e.kind=3 then(if 0<=e.pos/\e.pos<w.log.length then dC w e.who e.pos else w)
  else if e.kind=6 then(if 0<=e.pos/\e.pos<w.frames.length then eL w e.who e.pos else w)
  else w
 else w
end Kw
namespace Kw
open Go
def OK:S:=[99,111,109,109,105,116]
def IX:S:=[104,101,97,114]
def IY:S:=[106,111,105,110]
def TU:S:=[115,116,101,97,108]
def IZ:S:=[115,97,121]
def am9:S:=[103,101,116]
def amA:S:=[97,100,100]
def WO:S:=[114,101,109,111,118,101]
def isW(w:Int):Bool:=decide (0<=w)&&decide (w<=7)
def ltr(w:Int):S:=[(65+w).toNat.toUInt8]
def low:S->Bool
 |[]=>true
 |c::r=>decide (97<=c.toNat)&&(decide (c.toNat<=122)&&low r)
def frT(s:S):Bool:=decide (s.length<=8)&&low s
def GM(n:Int):S:=if n<10 then[(48+n).toNat.toUInt8]else[(48+n/10).toNat.toUInt8,(48+n%10).toNat.toUInt8]
def txt(e:Event):S:=
 if isW e.who=false then[]else
 if e.kind=1 then OK++32::ltr e.who++(if isW e.add then 32::amA++32::ltr e.add else[])++(if isW e.remove then 32::WO++32::ltr e.remove else[])else
 if e.kind=4 then TU++32::ltr e.who else
 if e.kind=5 then(if frT e.text then IZ++32::ltr e.who++32::e.text else[])else
 if e.kind=2\/e.kind=3\/e.kind=6 then(if 0<=e.pos/\e.pos<=99 then(if e.kind=2 then IX else if e.kind=3 then IY else am9)++32::ltr e.who++32::GM e.pos else[])else[]
def CV:S->Int
 |[]=> -1
 |c::_=>if isW ((c.toNat:Int)-65)then(c.toNat:Int)-65 else-1
def FW(s:S):Int:=if s=OK then 1 else if s=IX then 2 else if s=IY then 3 else if s=TU then 4 else if s=IZ then 5 else if s=am9 then 6 else 0
def I0(s:S):Int:=match Lib.atoiAll s with| .ok v=>v| .range=>Lib.atoiSat s|_=>0
def sP:List S->Int->Int->Int×Int
 |a::b::r,x,y=>if a=amA then sP r (CV b) y else sP r x (CV b)
 |_,x,y=>(x,y)
def YC(w0 w1:S)(rest:List S):Event:=
 let k:=FW w0
 if k=1 then⟨1,CV w1,(sP rest (-1) (-1)).1,(sP rest (-1) (-1)).2,0,[]⟩
 else if k=2\/k=3\/k=6 then⟨k,CV w1,0,0,(match rest with|[a]=>I0 a|_=>0),[]⟩
 else if k=5 then⟨k,CV w1,0,0,0,(match rest with|[a]=>a|_=>[])⟩
 else⟨k,CV w1,0,0,0,[]⟩
def YD(s:S):Option Event:=
 match spl [] s with
 |w0::w1::rest=>if 30<s.length\/FW w0=0 then none else if txt (YC w0 w1 rest)=s then some (YC w0 w1 rest)else none
 |_=>none
def CW:S->Int
 |[c]=>if isW ((c.toNat:Int)-65)then(c.toNat:Int)-65 else-1
 |_=> -1
def CX:List S->Int->Int->Option (Int×Int)
 |a::b::r,x,y=>if a=amA/\x<0/\y<0/\0<=CW b then CX r (CW b) y else if a=WO/\y<0/\0<=CW b then CX r x (CW b)else none
 |[],x,y=>some (x,y)
 |[_],_,_=>none
def dig(c:UInt8):Bool:=decide (48<=c.toNat)&&decide (c.toNat<=57)
def avH:S->Int
 |[a]=>if dig a then(a.toNat:Int)-48 else-1
 |[a,b]=>if dig a/\dig b then(if GM (((a.toNat:Int)-48)*10+((b.toNat:Int)-48))=[a,b]then((a.toNat:Int)-48)*10+((b.toNat:Int)-48)else-1)else-1
 |_=> -1
def agK(w0 w1:S)(rest:List S):Option Event:=
 if CW w1<0 then none else
 if w0=OK then(match CX rest (-1) (-1)with|some (x,y)=>some ⟨1,CW w1,x,y,0,[]⟩|none=>none)else
 if w0=TU then(if rest=[]then some ⟨4,CW w1,0,0,0,[]⟩else none)else
 if w0=IZ then(match rest with|[a]=>some ⟨5,CW w1,0,0,0,a⟩|_=>none)else
 if w0=IX\/w0=IY\/w0=am9 then(match rest with|[a]=>some ⟨if w0=IX then 2 else if w0=IY then 3 else 6,CW w1,0,0,avH a,[]⟩|_=>none)else
 some ⟨0,CW w1,0,0,0,[]⟩
def YE(s:S):Option Event:=
 match spl [] s with
 |w0::w1::rest=>if 30<s.length then none else(match agK w0 w1 rest with|some e=>if txt e=s then some e else none|none=>none)
 |_=>none
def can(e:Event):Prop:=isW e.who=true/\
 ((e.kind=1/\(-1<=e.add/\e.add<=7)/\(-1<=e.remove/\e.remove<=7)/\e.pos=0/\e.text=[])\/
  ((e.kind=2\/e.kind=3\/e.kind=6)/\e.add=0/\e.remove=0/\(0<=e.pos/\e.pos<=99)/\e.text=[])\/
  (e.kind=4/\e.add=0/\e.remove=0/\e.pos=0/\e.text=[])\/
  (e.kind=5/\e.add=0/\e.remove=0/\e.pos=0/\frT e.text=true))
theorem isW_iff{w:Int}:isW w=true↔0<=w/\w<=7:=by simp[isW]
theorem QZ(s:S): -1<=CV s/\CV s<=7:=by
 unfold CV;split
 ·omega
 ·split
  ·rename_i h;rw[isW_iff]at h;omega
  ·omega
theorem Q0(s:S): -1<=CW s/\CW s<=7:=by
 unfold CW;split
 ·split
  ·rename_i h;rw[isW_iff]at h;omega
  ·omega
 ·omega
theorem BD:∀(l:List S) (x y:Int),(-1<=x/\x<=7)->(-1<=y/\y<=7)->(-1<=(sP l x y).1/\(sP l x y).1<=7)/\(-1<=(sP l x y).2/\(sP l x y).2<=7)
 |[],x,y,hx,hy=>⟨hx,hy⟩
 |[_],x,y,hx,hy=>⟨hx,hy⟩
 |a::b::r,x,y,hx,hy=>by
  unfold sP;split
  ·exact BD r _ _ (QZ b) hy
  ·exact BD r _ _ hx (QZ b)
theorem wF:∀(l:List S) (x y:Int) (p:Int×Int),(-1<=x/\x<=7)->(-1<=y/\y<=7)->CX l x y=some p->(-1<=p.1/\p.1<=7)/\(-1<=p.2/\p.2<=7)
 |[],x,y,p,hx,hy,h=>by cases h;exact⟨hx,hy⟩
 |[_],x,y,p,hx,hy,h=>by cases h
 |a::b::r,x,y,p,hx,hy,h=>by
  unfold CX at h;split at h
  ·exact wF r _ _ p (Q0 b) hy h
  ·split at h
   ·exact wF r _ _ p hx (Q0 b) h
   ·cases h
theorem WP{e:Event}(h:txt e≠[])(hk:e.kind=2\/e.kind=3\/e.kind=6):0<=e.pos/\e.pos<=99:=by
 unfold txt at h;split at h
 ·exact absurd rfl h
 ·have n1:¬e.kind=1:=by omega
  have n4:¬e.kind=4:=by omega
  have n5:¬e.kind=5:=by omega
  rw[jc n1,jc n4,jc n5]at h;split at h
  ·assumption
  ·exact absurd rfl h
theorem acM{e:Event}(h:txt e≠[])(hk:e.kind=5):frT e.text=true:=by
 unfold txt at h;split at h
 ·exact absurd rfl h
 ·have n1:¬e.kind=1:=by omega
  have n4:¬e.kind=4:=by omega
  rw[jc n1,jc n4]at h;split at h
  ·assumption
  ·exact absurd rfl h
theorem WQ{e:Event}(h:txt e≠[]):isW e.who=true:=by
 unfold txt at h;split at h
 ·exact absurd rfl h
 ·rename_i h';simpa using h'
theorem acN{e:Event}(h:txt e≠[]):1<=e.kind/\e.kind<=6:=by
 unfold txt at h;split at h
 ·exact absurd rfl h
 ·split at h
  ·omega
  ·split at h
   ·omega
   ·split at h
    ·omega
    ·split at h
     ·omega
     ·exact absurd rfl h
theorem YF(s:S):0<=FW s/\FW s<=6:=by
 unfold FW
 repeat' split
 all_goals omega
theorem WR{s w0 w1:S}{rest:List S}(h:spl [] s=w0::w1::rest):s≠[]:=fun e=>by
 subst e;simp[spl]at h
theorem acO{s:S}{e:Event}(h:YD s=some e):can e/\txt e=s/\s.length<=30:=by
 unfold YD at h;split at h
 case h_2=>cases h
 rename_i w0 w1 rest hs;split at h
 ·cases h
 rename_i hc;split at h
 case isFalse=>cases h
 rename_i ht;cases h;have hne:txt (YC w0 w1 rest)≠[]:=by rw[ht];exact WR hs
 refine⟨⟨WQ hne,?_⟩,ht,by omega⟩
 have hk:=YF w0;have hp:=WP hne;have hf:=acM hne;revert hp hf;unfold YC;simp only;split
 ·intro _ _;have hr:=BD rest (-1) (-1) (by omega) (by omega)
  exact .inl ⟨rfl,hr.1,hr.2,rfl,rfl⟩
 ·split
  ·rename_i h1;intro hp _;exact .inr (.inl ⟨h1,rfl,rfl,hp h1,rfl⟩)
  ·split
   ·rename_i h1;intro _ hf;exact .inr (.inr (.inr ⟨h1,rfl,rfl,rfl,hf h1⟩))
   ·intro _ _;exact .inr (.inr (.inl ⟨(by show FW w0=4;omega),rfl,rfl,rfl,rfl⟩))
theorem acP{s:S}{e:Event}(h:YE s=some e):can e/\txt e=s/\s.length<=30:=by
 unfold YE at h;split at h
 case h_2=>cases h
 rename_i w0 w1 rest hs;split at h
 ·cases h
 rename_i hc;split at h
 case h_2=>cases h
 rename_i e' hr;split at h
 case isFalse=>cases h
 rename_i ht;cases h;have hne:txt e≠[]:=by rw[ht];exact WR hs
 refine⟨⟨WQ hne,?_⟩,ht,by omega⟩
 have hk:=acN hne;have hp:=WP hne;have hf:=acM hne;unfold agK at hr;split at hr
 ·cases hr
 split at hr
 ·split at hr
  case h_2=>cases hr
  rename_i x y hq;cases hr;have hr:=wF rest (-1) (-1) _ (by omega) (by omega) hq
  exact .inl ⟨rfl,hr.1,hr.2,rfl,rfl⟩
 split at hr
 ·split at hr
  case isFalse=>cases hr
  cases hr;exact .inr (.inr (.inl ⟨rfl,rfl,rfl,rfl,rfl⟩))
 split at hr
 ·split at hr
  case h_2=>cases hr
  cases hr;exact .inr (.inr (.inr ⟨rfl,rfl,rfl,rfl,hf rfl⟩))
 split at hr
 ·split at hr
  case h_2=>cases hr
  rename_i a;cases hr;have h6:(if w0=IX then(2:Int)else if w0=IY then 3 else 6)=2\/(if w0=IX then(2:Int)else if w0=IY then 3 else 6)=3\/(if w0=IX then(2:Int)else if w0=IY then 3 else 6)=6:=by
   split
   ·exact .inl rfl
   ·split
    ·exact .inr (.inl rfl)
    ·exact .inr (.inr rfl)
  exact .inr (.inl ⟨h6,rfl,rfl,hp h6,rfl⟩)
 ·cases hr;simp only at hk;omega
def KS(e:Event):Prop:=(txt e).length<=30->YD (txt e)=some e/\YE (txt e)=some e
theorem at3{a b:Event}:(a.kind=b.kind/\a.who=b.who/\a.add=b.add/\a.remove=b.remove/\a.pos=b.pos/\a.text=b.text)↔a=b:=by
 cases a;cases b;rw[Event.mk.injEq]
instance evDec:DecidableEq Event:=fun _ _=>decidable_of_iff _ at3
instance bothDec(e:Event):Decidable (KS e):=by unfold KS;infer_instance
set_option maxRecDepth 100000 in
theorem TV:∀w:Fin 8,KS ⟨4,(w.val:Int),0,0,0,[]⟩:=by decide+kernel
set_option maxRecDepth 100000 in
theorem Q1:∀w:Fin 8,∀a:Fin 9,∀r:Fin 9,KS ⟨1,(w.val:Int),(a.val:Int)-1,(r.val:Int)-1,0,[]⟩:=by decide+kernel
set_option maxRecDepth 100000 in
theorem YG:∀w:Fin 8,∀p:Fin 100,KS ⟨2,(w.val:Int),0,0,(p.val:Int),[]⟩/\KS ⟨3,(w.val:Int),0,0,(p.val:Int),[]⟩/\KS ⟨6,(w.val:Int),0,0,(p.val:Int),[]⟩:=by decide+kernel
theorem acQ:∀{s:S},low s=true->32∉s
 |[],_=>by simp
 |c::r,h=>by
  unfold low at h;simp only[jg,jb]at h;intro hm;rcases kw.1 hm with e|e
  ·subst e;simp at h
  ·exact acQ h.2.2 e
theorem amB:∀w:Fin 8,(32:UInt8)∉ltr (w.val:Int)/\CV (ltr (w.val:Int))=w.val/\CW (ltr (w.val:Int))=w.val/\isW (w.val:Int)=true:=by decide+kernel
theorem acR(w:Fin 8)(t:S)(ht:frT t=true):KS ⟨5,(w.val:Int),0,0,0,t⟩:=by
 intro hl;obtain⟨h1,h2,h3,h4⟩:=amB w;have htl:low t=true:=by unfold frT at ht;simp only[jg]at ht;exact ht.2
 have e0:txt ⟨5,(w.val:Int),0,0,0,t⟩=IZ++32::(ltr (w.val:Int)++32::t):=by
  unfold txt;simp[h4,ht]
 have e1:spl [] (IZ++32::(ltr (w.val:Int)++32::t))=[IZ,ltr (w.val:Int),t]:=by
  rw[H8 IZ [] _ (by decide),H8 _ [] _ h1,P9 t [] (acQ htl)];rfl
 have hI:YC IZ (ltr (w.val:Int)) [t]=⟨5,(w.val:Int),0,0,0,t⟩:=by
  unfold YC;have:FW IZ=5:=by decide
  simp[this,h2]
 have hS:agK IZ (ltr (w.val:Int)) [t]=some ⟨5,(w.val:Int),0,0,0,t⟩:=by
  unfold agK;rw[jc (by omega),jc (by decide),jc (by decide),je rfl,h3]
 rw[e0]at hl⊢;constructor
 ·unfold YD;rw[e1];simp only;have h5:FW IZ=5:=by decide
  rw[jc (by rw[h5];omega),hI,je e0]
 ·unfold YE;rw[e1];simp only;rw[jc (by omega),hS]
  simp only;rw[je e0]
theorem I1{n:Nat}{w:Int}(h0:0<=w)(h1:w<n):∃k:Fin n,(k.val:Int)=w:=⟨⟨w.toNat,by omega⟩,by simp;omega⟩
theorem GN{e:Event}(h:can e):KS e:=by
 obtain⟨k,w,a,r,p,t⟩:=e;obtain⟨hw,h⟩:=h;rw[isW_iff]at hw;simp only at hw h;obtain⟨w,rfl⟩:=I1 (n:=8) hw.1 (by omega)
 rcases h with⟨rfl,ha,hr,rfl,rfl⟩|⟨hk,rfl,rfl,hp,rfl⟩|⟨rfl,rfl,rfl,rfl,rfl⟩|⟨rfl,rfl,rfl,rfl,ht⟩
 ·obtain⟨a',ea⟩:=I1 (n:=9) (w:=a+1) (by omega) (by omega)
  obtain⟨r',er⟩:=I1 (n:=9) (w:=r+1) (by omega) (by omega)
  have:=Q1 w a' r';rw[ea,er]at this;simpa using this
 ·obtain⟨p',rfl⟩:=I1 (n:=100) hp.1 (by omega)
  obtain⟨h2,h3,h6⟩:=YG w p';rcases hk with rfl|rfl|rfl
  ·exact h2
  ·exact h3
  ·exact h6
 ·exact TV w
 ·exact acR w t ht
theorem at4(s:S):YD s=YE s:=by
 cases hI:YD s with
 |some e=>
  obtain⟨hc,ht,hl⟩:=acO hI;have:=(GN hc (by rw[ht];exact hl)).2
  rw[ht]at this;exact this.symm
 |none=>
  cases hS:YE s with
  |none=>rfl
  |some e=>
   obtain⟨hc,ht,hl⟩:=acP hS;have:=(GN hc (by rw[ht];exact hl)).1
   rw[ht,hI]at this;cases this
end Kw
namespace Kw
open Go Go.Proofs
theorem rz0(a:S)(l:List Row):jP 1 (rS a::l) 0=some (rS a):=rfl
theorem rz1(a:Row)(b:S)(l:List Row):jP 1 (a::rS b::l) 1=some (rS b):=rfl
theorem ae7(n:Int):(GM n).length<=2:=by unfold GM;split<;>simp
theorem G9(w:Int):(ltr w).length=1:=rfl
end Kw
namespace Kw
open Go Go.Proofs
section
variable (L D:Nat)
theorem jW(a b c:Int):ev E L (D+1) 25 [.int .i64 a,.int .i64 b,.int .i64 c] []=some (.bool (decide (b<=a)&&decide (a<=c)),[]):=by
 rw[atN];simp only[KM];by_cases h:b<=a<;>simp[h]
theorem pM(a:Int):ev E L (D+2) 35 [.int .i64 a] []=some (.bool (isW a),[]):=by
 rw[atU];simp only[KM];simp only[K1,jW]
 rfl
theorem RT(w:Int)(h:isW w=true):ev E L (D+1) 124 [.int .i64 w] []=some (.str (bs (ltr w)),[]):=by
 rw[isW_iff]at h;rw[ap1];simp only[KM];have a1:bU .i64 65 w=65+w:=aZ (by omega) (by omega)
 have a2:m8 .i32 (65+w)=65+w:=by
  unfold m8;obtain⟨k,hk⟩:=I1 (n:=8) (w:=w) (by omega) (by omega)
  have hall:∀k:Fin 8,IntKind.wrap .i32 (65+(k.val:Int))=65+(k.val:Int):=by decide+kernel
  rw[<-hk];exact hall k
 have g1:decide ((0:Int)<=65+w)=true:=by rw[jb];omega
 have g2:decide (65+w<128)=true:=by rw[jb];omega
 simp only[K1,aU,a1,a2,g1,g2]
 rfl
theorem alA(s:S)(hs:s.length<=2000000):ev E L (D+3) 84 [.str (bs s)] []=some (.int .i64 (CV s),[]):=by
 rw[auG];simp only[KM]
 match s with
 |[]=>rfl
 |c::r=>
  have hc:=c.toNat_lt;have hix:ix (c::r:S) 0=c:=rfl;have hat:sAt (bs (c::r)) 0=some (c.toNat:Int):=by rw[dX _ _ (by omega) (by simp only[jf];omega),hix]
  have w1:m8 .i64 (c.toNat:Int)=c.toNat:=cL (by omega) (by omega)
  have w2:hJ .i64 (c.toNat:Int) 65=(c.toNat:Int)-65:=dR (by omega) (by omega)
  have l0:decide (((c::r:S).length:Int)=0)=false:=by rw[jh];simp only[jf];omega
  have e1:CV (c::r)=if isW ((c.toNat:Int)-65)=true then(c.toNat:Int)-65 else-1:=rfl
  rw[e1,iEq_dec,sLen_bs,l0];simp only[bNot_f,br_true',hat,bnd_some',w1,w2,pM,gBool_b];cases isW ((c.toNat:Int)-65)<;>rfl
theorem WZ(s:S)(hs:s.length<=2000000):∀(m k:Nat),s.length<m+k->k<=s.length->G4 L D m (bs s) s.length k=some (.bool (low (s.drop k)&&decide (s.length<=8)),[])
 |0,k,h,hk=>by omega
 |m+1,k,h,hk=>by
  rw[O5];simp only[KM];by_cases hlt:k<s.length
  ·have h1:decide ((k:Int)<s.length)=true:=by rw[jb];omega
   have ih:=WZ s hs m (k+1) (by omega) (by omega)
   have a1:bU .i64 (k:Int) 1=((k+1:Nat):Int):=aH _ (by omega)
   have e:=qd hlt;have hix:ix s (k:Int)=s[k]:=aM s k hlt;rw[e,low];by_cases h97:97<=(s[k]).toNat
   ·have g1:decide (((s[k]).toNat:Int)<97)=false:=by rw[jh];omega
    by_cases h122:(s[k]).toNat<=122
    ·have g2:decide ((122:Int)< ((s[k]).toNat:Int))=false:=by rw[jh];omega
     simp(disch:=omega) only[K1,h1,a1,hix,g1,g2,ih,dX,h97,h122,ka]
    ·have g2:decide ((122:Int)< ((s[k]).toNat:Int))=true:=by rw[jb];omega
     simp(disch:=omega) only[K1,h1,hix,g1,g2,dX,h97,h122,yj,Bool.and_false]
   ·have g1:decide (((s[k]).toNat:Int)<97)=true:=by rw[jb];omega
    simp(disch:=omega) only[K1,h1,hix,g1,dX,h97,yj]
  ·have h1:decide ((k:Int)<s.length)=false:=by rw[jh];omega
   have e:s.drop k=[]:=yn (by omega)
   rw[e];by_cases h8:s.length<=8
   ·have g:decide ((s.length:Int)<=8)=true:=by rw[jb];omega
    simp(disch:=omega) only[K1,h1,low,g,h8]
   ·have g:decide ((s.length:Int)<=8)=false:=by rw[jh];omega
    simp(disch:=omega) only[K1,h1,low,g,h8,ka]
theorem auY(hL:1099511627776<=L)(s:S)(hs:s.length<=2000000):ev E L (D+1) 82 [.str (bs s)] []=some (.bool (frT s),[]):=by
 rw[auF];have:=WZ L D s hs L 0 (by omega) (by omega)
 rw[show((0:Nat):Int)=0 from rfl]at this
 rw[sLen_bs,this,qb];unfold frT;rw[Bool.and_comm]
def M7(s:S):Bool:=match Lib.atoiAll s with| .ok _=>true|_=>false
theorem arP(s:S)(hs:s.length<=2000000):ev E L (D+1) 146 [.str (bs s)] []=some (.tup [.int .i64 (I0 s),.iface (M7 s)],[]):=by
 have h:E.ext 146=some FL:=rfl;have h2:FL [.str (bs s)]=some (.tup [.int .i64 (I0 s),.iface (M7 s)]):=by
  have e:(bs s).size<=2000000:=hs;have e2:(bs s).data.toList=s:=rfl;unfold FL I0 M7;simp only[e,e2,ju];cases Lib.atoiAll s<;>rfl
 unfold ev;simp only[h,h2]
 rfl
theorem arQ(n:Int)(h0:0<=n)(h1:n<=99):ev E L (D+1) 125 [.int .i64 n] []=some (.str (bs (GM n)),[]):=by
 have h:E.ext 125=some CD:=rfl;have h2:CD [.int .i64 n]=some (.str (bs (GM n))):=by
  unfold CD;simp only;rw[je (by omega)]
  rfl
 unfold ev;simp only[h,h2]
 rfl
end
end Kw
namespace Kw
open Go Go.Proofs
def RU(s t:S):Bool:=decide (t.length<=s.length)&&decide (s.take t.length=t)
def oY:S->Int×S
 |[]=>(0,[])
 |d::r=>if 49<=d.toNat/\d.toNat<=57 then(match r with
   |e::r2=>if 48<=e.toNat/\e.toNat<=57 then(((d.toNat:Int)-48)*10+((e.toNat:Int)-48),r2)else((d.toNat:Int)-48,r)
   |[]=>((d.toNat:Int)-48,r))else(0,d::r)
theorem rQ(d:UInt8)(r:S):oY (d::r)=if 49<=d.toNat/\d.toNat<=57 then(match r with
 |e::r2=>if 48<=e.toNat/\e.toNat<=57 then(((d.toNat:Int)-48)*10+((e.toNat:Int)-48),r2)else((d.toNat:Int)-48,r)
 |[]=>((d.toNat:Int)-48,r))else(0,d::r):=rfl
theorem M8(b:Bool):gIf (.iface b)=some b:=(rfl)
theorem ae8{d:UInt8}(h:48<=d.toNat/\d.toNat<=57):∃k:Fin 10,d=UInt8.ofNat (48+k.val)/\(d.toNat:Int)-48=k.val:=by
 refine⟨⟨d.toNat-48,by omega⟩,?_,?_⟩
 ·apply UInt8.toNat_inj.1;rw[UInt8.toNat_ofNat'];simp only;omega
 ·simp only;omega
theorem W0:I0 []=0/\M7 []=false:=by decide+kernel
theorem alB:∀k:Fin 10,I0 [UInt8.ofNat (48+k.val)]=k.val/\M7 [UInt8.ofNat (48+k.val)]=true:=by decide+kernel
theorem alC:∀k j:Fin 10,I0 [UInt8.ofNat (48+k.val),UInt8.ofNat (48+j.val)]=(k.val:Int)*10+j.val/\M7 [UInt8.ofNat (48+k.val),UInt8.ofNat (48+j.val)]=true:=by decide+kernel
section
variable (L D:Nat)
theorem akB(s t:S):ev E L (D+1) 147 [.str (bs s),.str (bs t)] []=some (.bool (RU s t),[]):=by
 rw[ap9];simp only[KM];unfold RU;by_cases h:t.length<=s.length
 ·have h1:decide ((t.length:Int)<=s.length)=true:=by rw[jb];omega
  have h0:decide ((0:Int)<=t.length)=true:=by rw[jb];omega
  have h00:decide ((0:Int)<=0)=true:=rfl;simp(disch:=omega) only[K1,aU,jF,Int.reduceLE,ki,h1,h0,h,ka]
  rfl
 ·have h1:decide ((t.length:Int)<=s.length)=false:=by rw[jh];omega
  simp(disch:=omega) only[K1,h1,h,yj]
theorem arR(s t:S):ev E L (D+2) 86 [.str (bs s),.str (bs t)] []=some (.bool (RU s t),[]):=by
 rw[auI];simp only[KM];simp only[K1,akB]
theorem ae9(hL:1099511627776<=L)(s:S)(hs:s.length<=2000000):ev E L (D+2) 85 [.str (bs s)] []=some (.tup [.int .i64 (oY s).1,.str (bs (oY s).2)],[]):=by
 rw[auH];obtain⟨m,rfl⟩:∃m,L=m+3:=⟨L-3,by omega⟩
 have hA:=arP (m+3) D;have o0:decide ((0:Int)<=0)=true:=rfl;have a0:bU .i64 0 1=1:=rfl;have a1:bU .i64 1 1=2:=rfl;have d02:decide ((0:Int)<2)=true:=rfl;have d12:decide ((1:Int)<2)=true:=rfl;have d22:decide ((2:Int)<2)=false:=rfl;have o1:decide ((0:Int)<=1)=true:=rfl;have o2:decide ((0:Int)<=2)=true:=rfl
 match s with
 |[]=>
  have h0:=hA [] (by simp)
  rw[W0.1,W0.2]at h0;rw[n6];simp only[KM];simp only[K1,jS,l7,cS,jF,Int.reduceLE,Int.reduceLT,Nat.reduceAdd,ki,List.take_nil,List.drop_nil,h0,oY]
  rfl
 |d::r=>
  have hl:decide ((0:Int)< ((r.length+1:Nat):Int))=true:=by rw[jb];omega
  have hl':decide ((0:Int)<=((r.length+1:Nat):Int))=true:=by rw[jb];omega
  have hll:decide (((r.length+1:Nat):Int)<=((r.length+1:Nat):Int))=true:=by rw[jb];omega
  have hl1:decide ((1:Int)<=((r.length+1:Nat):Int))=true:=by rw[jb];omega
  have hat:sAt (bs (d::r)) 0=some (d.toNat:Int):=by rw[dX _ _ (by omega) (by simp only[jf];omega)];rfl
  rw[n6];simp only[KM];have hto:Int.toNat 0=0:=rfl;by_cases hd:48<=d.toNat/\d.toNat<=57
  ·have g1:decide ((48:Int)<=(d.toNat:Int))=true:=by rw[jb];omega
   have g2:decide ((d.toNat:Int)<=57)=true:=by rw[jb];omega
   simp only[sLen_bs,jf,iLt_dec,iLe_dec,hl,d02,br_true',hat,bnd_some',g1,g2,a0];obtain⟨k,ek,evk⟩:=ae8 hd;have one:∀q:S,q=d::r->(∀e r2,r=e::r2->¬(48<=e.toNat/\e.toNat<=57))->oY (d::r)=if 49<=d.toNat then((d.toNat:Int)-48,r)else(0,d::r):=fun q _ hn=>by
    rw[rQ];by_cases h49:49<=d.toNat
    ·rw[je ⟨h49,hd.2⟩,je h49];cases r with
     |nil=>rfl
     |cons e r2=>simp only;rw[jc (hn e r2 rfl)]
    ·rw[jc (fun x=>h49 x.1),jc h49]
   have h1:=hA [d] (by simp)
   rw[ek,(alB k).1,(alB k).2,<-ek,<-evk]at h1;have s1:mK (bs (d::r)) 0 1=bs [d]:=by rw[jF];rfl
   have s2:mK (bs (d::r)) 1 ((r.length+1:Nat):Int)=bs r:=by rw[jF,ki,<-jf (a:=d),yq];rfl
   have fin1:(∀e r2,r=e::r2->¬(48<=e.toNat/\e.toNat<=57))->
    (br (dL (iLe 0 0) (dL (iLe 0 1) (iLe 1 (sLen (bs (d::r)))))) (bnd (ev E (m+3) (D+1) 146 [MV.str (mK (bs (d::r)) 0 1)] []) fun r'=>bnd (L2 2 r'.1) fun vs=>bnd (d9 IntKind.i64 (aD vs 0)) fun n=>bnd (gIf (aD vs 1)) fun b=>br (bNot (bNot b)) (bnd (sAt (bs (d::r)) 0) fun b=>br (iEq b 48) (some (MV.tup [MV.int IntKind.i64 0,MV.str (bs (d::r))],([]:List Obj))) (br (dL (iLe 0 1) (dL (iLe 1 (sLen (bs (d::r)))) (iLe (sLen (bs (d::r))) (sLen (bs (d::r)))))) (some (MV.tup [MV.int IntKind.i64 n,MV.str (mK (bs (d::r)) 1 (sLen (bs (d::r))))],[])) none)) (some (MV.tup [MV.int IntKind.i64 0,MV.str (bs (d::r))],[]))) none)=some (.tup [.int .i64 (oY (d::r)).1,.str (bs (oY (d::r)).2)],[]):=fun hn=>by
    rw[one (d::r) rfl hn];by_cases h49:49<=d.toNat
    ·have q:decide ((d.toNat:Int)=48)=false:=by rw[jh];omega
     rw[je h49];simp only[K1,aU,Int.reduceLE,Nat.reduceAdd,s1,s2,h1,hat,q,hl1,hll,M8]
    ·have q:decide ((d.toNat:Int)=48)=true:=by rw[jb];omega
     rw[jc h49];simp only[K1,aU,Int.reduceLE,Nat.reduceAdd,s1,h1,hat,q,hl1,M8]
   rw[n6];simp only[KM]
   match r with
   |[]=>
    have hz:iLt 1 (sLen (bs [d]))=false:=rfl;rw[hz,br_false'];exact fin1 (fun e r2 h=>by cases h)
   |e::r2=>
    have hz:iLt 1 (sLen (bs (d::e::r2)))=true:=by rw[sLen_bs,iLt_dec,jb];simp only[jf];omega
    have hat1:sAt (bs (d::e::r2)) 1=some (e.toNat:Int):=by rw[dX _ _ (by omega) (by simp only[jf];omega)];rfl
    have h12:iLt 1 2=true:=rfl;rw[hz,br_true',h12,br_true',hat1,bnd_some'];by_cases he:48<=e.toNat/\e.toNat<=57
    ·have g3:iLe 48 (e.toNat:Int)=true:=by rw[iLe_dec,jb];omega
     have g4:iLe (e.toNat:Int) 57=true:=by rw[iLe_dec,jb];omega
     rw[g3,br_true',bnd_some',g4,br_true',a1,n6];simp only[KM];have l22:iLt 2 2=false:=rfl;obtain⟨j,ej,evj⟩:=ae8 he;have h2:=hA [d,e] (by simp)
     rw[ek,ej,(alC k j).1,(alC k j).2,<-ek,<-ej,<-evk,<-evj]at h2;have s3:mK (bs (d::e::r2)) 0 2=bs [d,e]:=by rw[jF];rfl
     have s4:mK (bs (d::e::r2)) 2 ((r2.length+1+1:Nat):Int)=bs r2:=by rw[jF,ki,<-jf (a:=e),<-jf (a:=d),yq];rfl
     have hl2:decide ((2:Int)<=((r2.length+1+1:Nat):Int))=true:=by rw[jb];omega
     have hll2:decide (((r2.length+1+1:Nat):Int)<=((r2.length+1+1:Nat):Int))=true:=by rw[jb];omega
     rw[l22];have hv:oY (d::e::r2)=if 49<=d.toNat then(((d.toNat:Int)-48)*10+((e.toNat:Int)-48),r2)else(0,d::e::r2):=by
      rw[rQ];by_cases h49:49<=d.toNat
      ·rw[je ⟨h49,hd.2⟩,je h49];simp only;rw[je he]
      ·rw[jc (fun x=>h49 x.1),jc h49]
     rw[hv];by_cases h49:49<=d.toNat
     ·have q:decide ((d.toNat:Int)=48)=false:=by rw[jh];omega
      rw[je h49];cases iLt 2 (sLen (bs (d::e::r2)))<;>simp only[K1,aU,Int.reduceLE,Nat.reduceAdd,s3,s4,h2,hat,q,hl2,hll2,M8]
     ·have q:decide ((d.toNat:Int)=48)=true:=by rw[jb];omega
      rw[jc h49];cases iLt 2 (sLen (bs (d::e::r2)))<;>simp only[K1,aU,Int.reduceLE,Nat.reduceAdd,s3,h2,hat,q,hl2,M8]
    ·have hn:∀e' r2',e::r2=e'::r2'->¬(48<=e'.toNat/\e'.toNat<=57):=fun e' r2' h=>by cases h;exact he
     by_cases g:48<=e.toNat
     ·have g3:iLe 48 (e.toNat:Int)=true:=by rw[iLe_dec,jb];omega
      have g4:iLe (e.toNat:Int) 57=false:=by rw[iLe_dec,jh];omega
      rw[g3,br_true',bnd_some',g4,br_false'];exact fin1 hn
     ·have g3:iLe 48 (e.toNat:Int)=false:=by rw[iLe_dec,jh];omega
      rw[g3,br_false'];exact fin1 hn
  ·have h0:=hA [] (by simp)
   rw[W0.1,W0.2]at h0;have hv:oY (d::r)=(0,d::r):=by
    rw[rQ,jc (by omega)]
   have s1:mK (bs (d::r)) 0 0=bs []:=by rw[jF];rfl
   rw[hv];by_cases g:48<=d.toNat
   ·have g1:decide ((48:Int)<=(d.toNat:Int))=true:=by rw[jb];omega
    have g2:decide ((d.toNat:Int)<=57)=false:=by rw[jh];omega
    simp only[K1,aU,Int.reduceLE,Int.reduceLT,Nat.reduceAdd,hl,hl',hat,g1,g2,s1,h0,M8]
   ·have g1:decide ((48:Int)<=(d.toNat:Int))=false:=by rw[jh];omega
    simp only[K1,aU,Int.reduceLE,Int.reduceLT,Nat.reduceAdd,hl,hl',hat,g1,s1,h0,M8]
end
end Kw
namespace Kw
open Go Go.Proofs
def hC(h:How):List MV:=[.int .i64 h.op,.int .i64 h.who,.int .i64 h.n,.str (bs h.a),.str (bs h.b)]
def NA(s:S):MV:=match pars s with
 |some (x,r)=>.tup [.agg (hC x.how),.str (bs r),.bool true]
 |none=>.tup [.agg [.int .i64 0,.int .i64 0,.int .i64 0,.str (bs []),.str (bs [])],.str (bs s),.bool false]
theorem dT{s:S}{x:Sec}{r:S}(h:pars s=some (x,r)):NA s=.tup [.agg [.int .i64 x.how.op,.int .i64 x.how.who,.int .i64 x.how.n,.str (bs x.how.a),.str (bs x.how.b)],.str (bs r),.bool true]:=by unfold NA;rw[h];rfl
theorem bS{s:S}(h:pars s=none):NA s=.tup [.agg [.int .i64 0,.int .i64 0,.int .i64 0,.str (bs []),.str (bs [])],.str (bs s),.bool false]:=by unfold NA;rw[h]
theorem W8{c:UInt8}{t:S}(h:¬(65<=c.toNat/\c.toNat<=72)):CV (c::t)= -1:=by
 show(if isW ((c.toNat:Int)-65)=true then(c.toNat:Int)-65 else-1)= -1
 rw[jc];rw[isW_iff];omega
theorem RX{c:UInt8}{t:S}(h:65<=c.toNat/\c.toNat<=72):CV (c::t)=(c.toNat:Int)-65:=by
 show(if isW ((c.toNat:Int)-65)=true then(c.toNat:Int)-65 else-1)=_
 rw[je];rw[isW_iff];omega
theorem sZ(u r:S)(h:(u++r).length<=2000000):hJ .i64 (sLen (bs (u++r))) (sLen (bs r))=u.length:=by
 rw[sLen_bs,sLen_bs];have:(u++r).length=u.length+r.length:=jl;rw[dR (by omega) (by omega)];omega
theorem yX(u r:S):mK (bs (u++r)) 0 (u.length:Int)=bs u:=by
 rw[jF,ki];simp
theorem kV(u r:S)(h:(u++r).length<=2000000):dL (iLe 0 0) (dL (iLe 0 (hJ .i64 (sLen (bs (u++r))) (sLen (bs r)))) (iLe (hJ .i64 (sLen (bs (u++r))) (sLen (bs r))) (sLen (bs (u++r)))))=true:=by
 rw[sZ u r h,sLen_bs,iLe_dec,iLe_dec,iLe_dec];have h1:(u++r).length=u.length+r.length:=jl;have a:decide ((0:Int)<=u.length)=true:=by rw[jb];omega
 have b:decide ((u.length:Int)<=(u++r).length)=true:=by rw[jb];omega
 rw[a,b];rfl
theorem W9(c:UInt8)(t:S):mK (bs (c::t)) 1 (sLen (bs (c::t)))=bs t:=by
 rw[sLen_bs,jF,ki,yq];rfl
theorem D5(c:UInt8)(t:S):dL (iLe 0 1) (dL (iLe 1 (sLen (bs (c::t)))) (iLe (sLen (bs (c::t))) (sLen (bs (c::t)))))=true:=by
 rw[sLen_bs,iLe_dec,iLe_dec,iLe_dec];have a:decide ((1:Int)<=(c::t:S).length)=true:=by rw[jb];simp only[jf];omega
 have b:decide (((c::t:S).length:Int)<=(c::t:S).length)=true:=by rw[jb];omega
 rw[a,b];rfl
theorem at0(c:UInt8)(t:S):sAt (bs (c::t)) 0=some (c.toNat:Int):=by rw[dX _ _ (by omega) (by simp only[jf];omega)];rfl
theorem aeJ(c:UInt8)(k:UInt8):iEq (c.toNat:Int) (k.toNat:Int)=decide (c=k):=by
 rw[iEq_dec];by_cases h:c=k
 ·subst h;simp
 ·rw[ji h,jh];intro e;exact h (UInt8.toNat_inj.1 (by omega))
theorem aeK:pars []=none:=rfl
theorem JV(s:S):RU s [59]=match s with|[]=>false|e::_=>decide (e=59):=by
 unfold RU;cases s with
 |nil=>rfl
 |cons e r=>
  have h1:([59]:S).length<=(e::r:S).length:=by simp
  have h2:(e::r:S).take ([59]:S).length=[e]:=rfl;rw[jd h1,h2,ka];simp
theorem aa3(c:UInt8)(t:S)(hc:65<=c.toNat/\c.toNat<=72):pFresh (c::t)=
 if(oY t).1≠0/\RU (oY t).2 [59]=true then some (.new (c.toNat-65) (oY t).1.toNat,(oY t).2.drop 1)else none:=by
 match t with
 |[]=>rfl
 |d::r=>
  rw[rQ];by_cases hd:49<=d.toNat/\d.toNat<=57
  ·rw[je hd]
   match r with
   |[]=>
    have h1:pFresh (c::d::[])=if(65<=c.toNat/\c.toNat<=72)/\49<=d.toNat/\d.toNat<=57 then none else none:=rfl
    rw[h1,je ⟨hc,hd⟩];simp only[JV];rw[jc (by simp)]
   |e::r2=>
    have h1:pFresh (c::d::e::r2)=if(65<=c.toNat/\c.toNat<=72)/\49<=d.toNat/\d.toNat<=57 then
     (if e=59 then some (.new (c.toNat-65) (d.toNat-48),r2)else if 48<=e.toNat/\e.toNat<=57 then(match r2 with
      |[]=>none
      |f::r=>if f=59 then some (.new (c.toNat-65) ((d.toNat-48)*10+(e.toNat-48)),r)else none)else none)else none:=rfl
    rw[h1,je ⟨hc,hd⟩];simp only;by_cases he:48<=e.toNat/\e.toNat<=57
    ·have e59:¬e=59:=fun x=>by subst x;revert he;decide
     rw[jc e59,je he,je he];have hv:((d.toNat:Int)-48)*10+((e.toNat:Int)-48)≠0:=by omega
     have ht:(((d.toNat:Int)-48)*10+((e.toNat:Int)-48)).toNat=(d.toNat-48)*10+(e.toNat-48):=by omega
     rw[ht]
     match r2 with
     |[]=>simp only[JV];rw[jc (by simp)]
     |f::r3=>
      simp only[JV];by_cases hf:f=59
      ·rw[je hf,je ⟨hv,by rw[hf];rfl⟩];rfl
      ·rw[jc hf,jc (fun x=>hf (by simpa using x.2))]
    ·rw[jc he,jc he];have hv:(d.toNat:Int)-48≠0:=by omega
     have ht:((d.toNat:Int)-48).toNat=d.toNat-48:=by omega
     rw[ht];simp only[JV];by_cases hf:e=59
     ·rw[je hf,je ⟨hv,by rw[hf];rfl⟩];rfl
     ·rw[jc hf,jc (fun x=>hf (by simpa using x.2))]
  ·rw[jc hd];have h1:pFresh (c::d::r)=none:=by
    show(if(65<=c.toNat/\c.toNat<=72)/\49<=d.toNat/\d.toNat<=57 then _ else none)=none
    rw[jc (fun x=>hd x.2)]
   rw[h1,jc (by simp)]
theorem aeL(t:S):0<=(oY t).1/\(oY t).1<=99/\(oY t).2.length<=t.length:=by
 match t with
 |[]=>exact⟨by decide,by decide,by decide⟩
 |d::r=>
  rw[rQ];have:=d.toNat_lt;split
  ·match r with
   |[]=>simp only[jk,jf];omega
   |e::r2=>
    simp only;have:=e.toNat_lt;split<;>simp only[jf]<;>omega
  ·simp
section
variable (L D:Nat)
theorem UW(hL:1099511627776<=L):∀(n:Nat) (s:S),s.length<=n->s.length<=1000000->ev E L (D+4+n) 46 [.str (bs s)] []=some (NA s,[])
 |n,[],_,_=>by
  rw[show D+4+n=(D+3+n)+1 by omega,al9];simp only[KM]
  rw[bS aeK,show sEq (bs []) (bs [])=true from by rw[sEq_bs];rfl,br_true']
 |0,c::t,h,_=>by simp at h
 |n+1,c::t,h,hs=>by
  have hsl:t.length<=1000000:=by simp only[jf]at hs;omega
  have htn:t.length<=n:=by simp only[jf]at h;omega
  have ih:=UW hL n t htn hsl;have ihr:∀r:S,r.length<=t.length->ev E L (D+4+n) 46 [.str (bs r)] []=some (NA r,[]):=fun r hr=>UW hL n r (by omega) (by omega)
  rw[show D+4+(n+1)=(D+4+n)+1 by omega,al9];simp only[KM]
  have e0:sEq (bs (c::t)) (bs [])=false:=by rw[sEq_bs];rfl
  have ho:=alA L (D+1+n) (c::t) (by omega)
  rw[show D+1+n+3=D+4+n by omega]at ho
  have hnum:=ae9 L (D+2+n) hL t (by omega)
  rw[show D+2+n+2=D+4+n by omega]at hnum
  have hpre:∀a b:S,ev E L (D+4+n) 86 [.str (bs a),.str (bs b)] []=some (.bool (RU a b),[]):=fun a b=>by
   have:=arR L (D+2+n) a b;rw[show D+2+n+2=D+4+n by omega]at this
   exact this
  rw[e0,br_false',ho];simp only[bnd_some',gInt_i,D5,W9,br_true',at0];have c110:iEq (c.toNat:Int) 110=decide (c=110):=aeJ c 110;have c107:iEq (c.toNat:Int) 107=decide (c=107):=aeJ c 107;have c101:iEq (c.toNat:Int) 101=decide (c=101):=aeJ c 101;have c109:iEq (c.toNat:Int) 109=decide (c=109):=aeJ c 109;have c114:iEq (c.toNat:Int) 114=decide (c=114):=aeJ c 114;have hc:=c.toNat_lt;by_cases hA:65<=c.toNat/\c.toNat<=72
  ·rw[RX hA];have g:iLe 0 ((c.toNat:Int)-65)=true:=by rw[iLe_dec,jb];omega
   rw[g,br_true',hnum];simp only[gTupN_if,cellAt_zero,cellAt_succ,jf,jk,ju,bnd_some',gInt_i,gStr_s];have hne:¬c=110/\¬c=107/\¬c=109/\¬c=114/\¬c=101:=⟨fun e=>by subst e;revert hA;decide,fun e=>by subst e;revert hA;decide,fun e=>by subst e;revert hA;decide,fun e=>by subst e;revert hA;decide,fun e=>by subst e;revert hA;decide⟩
   have hp:pars (c::t)=pFresh (c::t):=by rw[bT,jc hne.1,jc hne.2.1,jc hne.2.2.1,jc hne.2.2.2.1,jc hne.2.2.2.2]
   rw[aa3 c t hA]at hp;obtain⟨v0,v1,vl⟩:=aeL t;by_cases hz:(oY t).1=0
   ·rw[jc (fun x=>x.1 hz)]at hp
    have hq:iEq (oY t).1 0=true:=by rw[iEq_dec];exact jd hz
    rw[bS hp,hq]
    rfl
   ·have hq:iEq (oY t).1 0=false:=by rw[iEq_dec];exact ji hz
    rw[hq,bNot_f,br_true',hpre,bnd_some',gBool_b];cases hh:RU (oY t).2 [59]with
    |false=>
     rw[jc (fun x=>by rw[hh]at x;exact absurd x.2 (by simp))]at hp
     rw[bS hp]
     rfl
    |true=>
     rw[je ⟨hz,hh⟩]at hp;rw[dT hp];rw[JV]at hh
     match hn2:(oY t).2 with
     |[]=>rw[hn2]at hh;cases hh
     |e::r=>
      rw[bnd_some',bNot_t,br_false',D5,br_true',W9];have hwi:((c.toNat-65:Nat):Int)=(c.toNat:Int)-65:=by omega
      have hni:(((oY t).1.toNat:Nat):Int)=(oY t).1:=by omega
      rw[<-hwi]
      conv=>lhs;rw[<-hni]
      rfl
  ·rw[W8 hA];have g:iLe 0 (-1)=false:=rfl;rw[g,br_false',c110,c107,c101,c109,c114];by_cases h110:c=110
   ·rw[jd h110,br_true',ih,bnd_some'];have hp:pars (c::t)=match pars t with|some (x,r)=>some (.next x,r)|none=>none:=by rw[bT,je h110];try rfl
    cases hpt:pars t with
    |none=>
     rw[hpt]at hp;rw[bS hp,bS hpt];have h1:=kV [] t (by simp;omega)
     rw[qf]at h1;simp only[gTupN_if,gAggN_if,cellAt_zero,cellAt_succ,jf,jk,ju,bnd_some',gInt_i,gStr_s,gBool_b,br_true',br_false',h1,bNot_f]
    |some q=>
     obtain⟨x,r⟩:=q;rw[hpt]at hp;obtain⟨hwf,ht⟩:=hD hpt;rw[dT hp,dT hpt];have h1:=kV x.str r (by rw[<-ht];omega)
     have h2:=sZ x.str r (by rw[<-ht];omega)
     have h3:=yX x.str r;rw[<-ht]at h1 h2 h3;rw[h2]at h1;have ho4:iEq 2 4=false:=rfl;simp only[gTupN_if,gAggN_if,cellAt_zero,cellAt_succ,jf,jk,ju,bnd_some',gInt_i,gStr_s,gBool_b,br_true',br_false',h2,h3,h1,bNot_t,ho4]
     rfl
   rw[ji h110,br_false'];by_cases h107:c=107
   ·rw[jd h107,br_true',ih,bnd_some'];have hp:pars (c::t)=match pars t with|some (x,r)=>some (.key x,r)|none=>none:=by rw[bT,jc h110,je h107];try rfl
    cases hpt:pars t with
    |none=>
     rw[hpt]at hp;rw[bS hp,bS hpt];have h1:=kV [] t (by simp;omega)
     rw[qf]at h1;simp only[gTupN_if,gAggN_if,cellAt_zero,cellAt_succ,jf,jk,ju,bnd_some',gInt_i,gStr_s,gBool_b,br_true',br_false',h1,bNot_f]
    |some q=>
     obtain⟨x,r⟩:=q;rw[hpt]at hp;obtain⟨hwf,ht⟩:=hD hpt;rw[dT hp,dT hpt];have h1:=kV x.str r (by rw[<-ht];omega)
     have h2:=sZ x.str r (by rw[<-ht];omega)
     have h3:=yX x.str r;rw[<-ht]at h1 h2 h3;rw[h2]at h1;have ho4:iEq 3 4=false:=rfl;simp only[gTupN_if,gAggN_if,cellAt_zero,cellAt_succ,jf,jk,ju,bnd_some',gInt_i,gStr_s,gBool_b,br_true',br_false',h2,h3,h1,bNot_t,ho4]
     rfl
   rw[ji h107,br_false'];by_cases h101:c=101
   ·have n109:¬c=109:=by rw[h101];decide
    have n114:¬c=114:=by rw[h101];decide
    rw[jd h101,br_true',ih,bnd_some'];have hp:pars (c::t)=match pars t with|some (x,r)=>(match pars r with|some (y,r)=>some (.epoch x y,r)|none=>none)|none=>none:=by rw[bT,jc h110,jc h107,jc n109,jc n114,je h101];try rfl
    cases hpt:pars t with
    |none=>
     rw[hpt]at hp;rw[bS hp,bS hpt];have h1:=kV [] t (by simp;omega)
     rw[qf]at h1;simp only[gTupN_if,gAggN_if,cellAt_zero,cellAt_succ,jf,jk,ju,bnd_some',gInt_i,gStr_s,gBool_b,br_true',br_false',h1,bNot_f]
    |some q=>
     obtain⟨x,r⟩:=q;rw[hpt]at hp;simp only at hp;obtain⟨hwf,ht⟩:=hD hpt;rw[dT hpt];have hrl:r.length<=t.length:=by rw[ht];simp
     have h1:=kV x.str r (by rw[<-ht];omega)
     have h2:=sZ x.str r (by rw[<-ht];omega)
     have h3:=yX x.str r;rw[<-ht]at h1 h2 h3;rw[h2]at h1;have ho4:iEq 4 4=true:=rfl;simp only[gTupN_if,gAggN_if,cellAt_zero,cellAt_succ,jf,jk,ju,bnd_some',gInt_i,gStr_s,gBool_b,br_true',br_false',h2,h3,h1,bNot_t,ho4,ihr r hrl];cases hpr:pars r with
     |none=>
      rw[hpr]at hp;rw[bS hp,bS hpr];have k1:=kV [] r (by simp;omega)
      rw[qf]at k1;simp only[gTupN_if,gAggN_if,cellAt_zero,cellAt_succ,jf,jk,ju,bnd_some',gInt_i,gStr_s,gBool_b,br_true',k1,bNot_f]
     |some q=>
      obtain⟨y,r'⟩:=q;rw[hpr]at hp;obtain⟨hwf',hr⟩:=hD hpr;rw[dT hp,dT hpr];have k1:=kV y.str r' (by rw[<-hr];omega)
      have k2:=sZ y.str r' (by rw[<-hr];omega)
      have k3:=yX y.str r';rw[<-hr]at k1 k2 k3;rw[k2]at k1;simp only[gTupN_if,gAggN_if,cellAt_zero,cellAt_succ,jf,jk,ju,bnd_some',gInt_i,gStr_s,gBool_b,br_true',br_false',k2,k3,k1,bNot_t]
      rfl
   rw[ji h101,br_false'];by_cases h109:c=109
   ·rw[jd h109,br_true'];have hot:=alA L (D+1+n) t (by omega)
    rw[show D+1+n+3=D+4+n by omega]at hot
    rw[hot];simp only[bnd_some',gInt_i]
    match t with
    |[]=>
     have hp:pars [c]=none:=by rw[bT,jc h110,jc h107,je h109]
     rw[bS hp]
     rfl
    |w::t'=>
     have hp:pars (c::w::t')=if 65<=w.toNat/\w.toNat<=72 then(match pars t' with|some (x,r)=>some (.say (w.toNat-65) x,r)|none=>none)else none:=by rw[bT,jc h110,jc h107,je h109];try rfl
     by_cases hw:65<=w.toNat/\w.toNat<=72
     ·rw[je hw]at hp;rw[RX hw];have g:iLt ((w.toNat:Int)-65) 0=false:=by rw[iLt_dec,jh];omega
      have htl':t'.length<=(w::t':S).length:=by simp
      have hs':t'.length<=1000000:=by simp only[jf]at hsl;omega
      rw[g,br_false',D5,br_true',W9,ihr t' htl',bnd_some'];have hwi:((w.toNat-65:Nat):Int)=(w.toNat:Int)-65:=by omega
      cases hpt:pars t' with
      |none=>
       rw[hpt]at hp;rw[bS hp,bS hpt];have h1:=kV [] t' (by simp;omega)
       rw[qf]at h1;simp only[gTupN_if,gAggN_if,cellAt_zero,cellAt_succ,jf,jk,ju,bnd_some',gInt_i,gStr_s,gBool_b,br_true',br_false',h1,bNot_f]
      |some q=>
       obtain⟨x,r⟩:=q;rw[hpt]at hp;obtain⟨hwf,ht⟩:=hD hpt;rw[dT hp,dT hpt];have h1:=kV x.str r (by rw[<-ht];omega)
       have h2:=sZ x.str r (by rw[<-ht];omega)
       have h3:=yX x.str r;rw[<-ht]at h1 h2 h3;rw[h2]at h1;have ho4:iEq 5 4=false:=rfl;simp only[gTupN_if,gAggN_if,cellAt_zero,cellAt_succ,jf,jk,ju,bnd_some',gInt_i,gStr_s,gBool_b,br_true',br_false',h2,h3,h1,bNot_t,ho4];rw[<-hwi];rfl
     ·rw[jc hw]at hp;rw[bS hp,W8 hw]
      rfl
   rw[ji h109,br_false'];by_cases h114:c=114
   ·rw[jd h114,br_true']
    match t with
    |[]=>
     have hp:pars [c]=none:=by rw[bT,jc h110,jc h107,jc h109,je h114]
     rw[bS hp,show sEq (bs []) (bs [])=true from by rw[sEq_bs];rfl]
     rfl
    |w::t'=>
     have hp:pars (c::w::t')=if 49<=w.toNat/\w.toNat<=57 then(match pars t' with|some (x,r)=>some (.room (w.toNat-48) x,r)|none=>none)else none:=by rw[bT,jc h110,jc h107,jc h109,je h114];try rfl
     have hz:sEq (bs (w::t')) (bs [])=false:=by rw[sEq_bs];rfl
     have hwn:=w.toNat_lt;rw[hz,bNot_f,br_true',at0,bnd_some'];by_cases hw:49<=w.toNat/\w.toNat<=57
     ·rw[je hw]at hp;have g1:iLt (w.toNat:Int) 49=false:=by rw[iLt_dec,jh];omega
      have g2:iLt 57 (w.toNat:Int)=false:=by rw[iLt_dec,jh];omega
      have htl':t'.length<=(w::t':S).length:=by simp
      have hs':t'.length<=1000000:=by simp only[jf]at hsl;omega
      rw[g1,bNot_f,br_true',bnd_some',g2,br_false',bnd_some',D5,br_true',W9,ihr t' htl',bnd_some'];have w1:hJ .u8 (w.toNat:Int) 48=(w.toNat:Int)-48:=A7 (by omega) (by omega)
      have w2:m8 .i64 ((w.toNat:Int)-48)=(w.toNat:Int)-48:=cL (by omega) (by omega)
      have hwi:((w.toNat-48:Nat):Int)=(w.toNat:Int)-48:=by omega
      simp only[w1,w2];cases hpt:pars t' with
      |none=>
       rw[hpt]at hp;rw[bS hp,bS hpt];have h1:=kV [] t' (by simp;omega)
       rw[qf]at h1;simp only[gTupN_if,gAggN_if,cellAt_zero,cellAt_succ,jf,jk,ju,bnd_some',gInt_i,gStr_s,gBool_b,br_true',br_false',h1,bNot_f]
      |some q=>
       obtain⟨x,r⟩:=q;rw[hpt]at hp;obtain⟨hwf,ht⟩:=hD hpt;rw[dT hp,dT hpt];have h1:=kV x.str r (by rw[<-ht];omega)
       have h2:=sZ x.str r (by rw[<-ht];omega)
       have h3:=yX x.str r;rw[<-ht]at h1 h2 h3;rw[h2]at h1;have ho4:iEq 6 4=false:=rfl;simp only[gTupN_if,gAggN_if,cellAt_zero,cellAt_succ,jf,jk,ju,bnd_some',gInt_i,gStr_s,gBool_b,br_true',br_false',h2,h3,h1,bNot_t,ho4];rw[<-hwi];rfl
     ·rw[jc hw]at hp;rw[bS hp];by_cases g:49<=w.toNat
      ·have g1:iLt (w.toNat:Int) 49=false:=by rw[iLt_dec,jh];omega
       have g2:iLt 57 (w.toNat:Int)=true:=by rw[iLt_dec,jb];omega
       rw[g1,bNot_f,br_true',bnd_some',g2]
       rfl
      ·have g1:iLt (w.toNat:Int) 49=true:=by rw[iLt_dec,jb];omega
       rw[g1]
       rfl
   rw[ji h114,br_false'];have hp:pars (c::t)=none:=by
    rw[bT,jc h110,jc h107,jc h109,jc h114,jc h101]
    match t with
    |[]=>rfl
    |d::t'=>show(if _ then _ else none)=none;rw[jc (fun x=>hA x.1)]
   rw[bS hp]
end
end Kw
namespace Kw
open Go Go.Proofs
section
variable (L D:Nat)
theorem E3(hL:1099511627776<=L)(s:S)(hs:s.length<=2000000):ev E L (D+305) 10 [.str (bs s)] []=some (.agg [.int .i64 (aN s).op,.int .i64 (aN s).who,.int .i64 (aN s).n,.str (bs (aN s).a),.str (bs (aN s).b)],[]):=by
 rw[atG];simp only[KM];by_cases h:s.length<=300
 ·have g:iLt 300 (sLen (bs s))=false:=by rw[iLt_dec,sLen_bs,jh];omega
  have hn:=UW L D hL 300 s h (by omega)
  rw[g,br_false',hn];have e:aN s=match pars s with|some (t,[])=>t.how|_=>⟨0,0,0,[],[]⟩:=by
   unfold aN sec pnt;rw[je h];cases pars s with
   |none=>rfl
   |some q=>obtain⟨x,r⟩:=q;cases r<;>rfl
  rw[e];cases hp:pars s with
  |none=>
   rw[bS hp]
   rfl
  |some q=>
   obtain⟨x,r⟩:=q;rw[dT hp];simp only[gTupN_if,gAggN_if,cellAt_zero,cellAt_succ,jf,jk,ju,bnd_some',gInt_i,gStr_s,gBool_b,bNot_t,bNot_f,br_true',sEq_bs];cases r with
   |nil=>rfl
   |cons c t=>rfl
 ·have g:iLt 300 (sLen (bs s))=true:=by rw[iLt_dec,sLen_bs,jb];omega
  have e:aN s=⟨0,0,0,[],[]⟩:=by
   unfold aN sec;rw[jc h]
  rw[g,e]
  rfl
theorem jG(hL:1099511627776<=L)(s:S)(hs:s.length<=2000000):ev E L (D+306) 36 [.str (bs s)] []=some (.bool (secOk s),[]):=by
 rw[atV];simp only[KM];rw[E3 L D hL s hs];have h:= @kY s;simp only[gAggN_if,cellAt_zero,cellAt_succ,jf,jk,ju,bnd_some',gInt_i,gStr_s,iEq_dec];cases hk:secOk s with
 |true=>
  have:¬(aN s).op=0:=fun x=>by rw[h.1 x]at hk;cases hk
  rw[ji this];rfl
 |false=>
  rw[jd (h.2 hk)];rfl
end
end Kw
namespace Kw
open Go Go.Proofs
section
variable (L D:Nat)
theorem aeQ(l:List S)(hn:0<l.length/\l.length<=1000)(hf:l.flatten.length<=1000000):ev E L (D+1) 209 [.sl (l.map rS),.str (bs [])] []=some (.str (bs l.flatten),[]):=by
 have h:E.ext 209=some CE:=rfl;have hr:∀l:List S,sG (l.map rS)=some l:=fun l=>by
  induction l with
  |nil=>rfl
  |cons a t ih=>
   show(sG (t.map rS)).bind (fun u=>some ((bs a).data.toList::u))=_
   rw[ih];rfl
 have h2:CE [.sl (l.map rS),.str (bs [])]=some (.str (bs l.flatten)):=by
  unfold CE;simp only;rw[hr];simp only[jy];rw[je ⟨rfl,hn.2,hf,hn.1⟩]
 unfold ev;simp only[h,h2]
 rfl
theorem PG(hL:1099511627776<=L)(p s:S)(hp:p.length<=10)(hs:s.length<=500000):ev E L (D+307) 132 [.str (bs p),.sl [rS s]] []=some (.str (bs (mk1 p s)),[]):=by
 rw[adI];obtain⟨m,rfl⟩:∃m,L=m+2:=⟨L-2,by omega⟩
 have hk:=jG (m+2) D hL s (by omega)
 have n1:nrows [rS s]=1:=rfl;have l01:iLt 0 1=true:=rfl;have l11:iLt 1 1=false:=rfl;have a0:bU .i64 0 1=1:=rfl;unfold mk1;rw[n1,kQ];simp only[KM];rw[l01,br_true',rz0,bnd_some'];simp only[d5,gStr_s,bnd_some',hk,gBool_b];cases h:secOk s with
 |false=>
  rw[jc (by simp)]
  rfl
 |true=>
  rw[bNot_t,br_false',a0,kQ];simp only[KM];rw[l11,br_false'];have hj:=aeQ (m+2) (D+305) [s] (by simp) (by simp;omega)
  have ef:[s].flatten=s:=by simp
  rw[ef]at hj;have hj':ev E (m+2) (D+306) 209 [.sl [rS s],.str (bs [])] []=some (.str (bs s),[]):=hj;have hfit:eP (sLen (bs p)) (sLen (bs s)) 1=true:=by rw[sLen_bs,sLen_bs];exact aF _ _ _ (by omega)
  rw[hj',bnd_some',gStr_s,bnd_some',hfit,br_true',dB,sLen_bs];by_cases hl:p.length+s.length<=300
  ·have g:iLe ((p++s).length:Int) 300=true:=by rw[iLe_dec,jb,jl];omega
   rw[g,je ⟨by trivial,hl⟩];rfl
  ·have g:iLe ((p++s).length:Int) 300=false:=by rw[iLe_dec,jh,jl];omega
   rw[g,jc (fun x=>hl x.2)];rfl
theorem akL(hL:1099511627776<=L)(a b:S)(ha:a.length<=200000)(hb:b.length<=200000):ev E L (D+307) 132 [.str (bs [101]),.sl [rS a,rS b]] []=some (.str (bs (cE a b)),[]):=by
 rw[adI];obtain⟨m,rfl⟩:∃m,L=m+3:=⟨L-3,by omega⟩
 have hk:=jG (m+3) D hL a (by omega)
 have hk2:=jG (m+3) D hL b (by omega)
 have n1:nrows [rS a,rS b]=2:=rfl;have l02:iLt 0 2=true:=rfl;have l12:iLt 1 2=true:=rfl;have l22:iLt 2 2=false:=rfl;have a0:bU .i64 0 1=1:=rfl;have a1:bU .i64 1 1=2:=rfl;unfold cE;rw[n1,kQ];simp only[KM];rw[l02,br_true',rz0,bnd_some'];simp only[d5,gStr_s,bnd_some',hk,gBool_b];cases h:secOk a with
 |false=>
  rw[jc (fun x=>by simp at x)]
  rfl
 |true=>
  rw[bNot_t,br_false',a0,kQ];simp only[KM];rw[l12,br_true',rz1,bnd_some'];simp only[d5,gStr_s,bnd_some',hk2,gBool_b];cases h2:secOk b with
  |false=>
   rw[jc (fun x=>by simp at x)]
   rfl
  |true=>
   rw[bNot_t,br_false',a1,kQ];simp only[KM];rw[l22,br_false'];have hj:=aeQ (m+3) (D+305) [a,b] (by simp) (by simp;omega)
   have ef:[a,b].flatten=a++b:=by simp
   rw[ef]at hj;have hj':ev E (m+3) (D+306) 209 [.sl [rS a,rS b],.str (bs [])] []=some (.str (bs (a++b)),[]):=hj;have hfit:eP (sLen (bs [101])) (sLen (bs (a++b))) 1=true:=by rw[sLen_bs,sLen_bs];exact aF _ _ _ (by simp only[jl,jf,jk];omega)
   rw[hj',bnd_some',gStr_s,bnd_some',hfit,br_true',dB,sLen_bs];by_cases hl:1+a.length+b.length<=300
   ·have g:iLe (([101]++(a++b)).length:Int) 300=true:=by rw[iLe_dec,jb];simp only[jl,jf,jk];omega
    rw[g,je ⟨by simp,hl⟩];rfl
   ·have g:iLe (([101]++(a++b)).length:Int) 300=false:=by rw[iLe_dec,jh];simp only[jl,jf,jk];omega
    rw[g,jc (fun x=>hl x.2)];rfl
theorem E4(hL:1099511627776<=L)(s:S)(hs:s.length<=500000):ev E L (D+308) 201 [.str (bs s)] []=some (.str (bs (makNext s)),[]):=by
 rw[apK];simp only[KM];have h:=PG L D hL [110] s (by simp) hs
 simp only[rS]at h;simp only[h,bnd_some',gStr_s,iEq_self,br_true']
 rfl
theorem o7(hL:1099511627776<=L)(s:S)(hs:s.length<=500000):ev E L (D+308) 69 [.str (bs s)] []=some (.str (bs (makKey s)),[]):=by
 rw[au9];simp only[KM];have h:=PG L D hL [107] s (by simp) hs
 simp only[rS]at h;simp only[h,bnd_some',gStr_s,iEq_self,br_true']
 rfl
theorem JZ(hL:1099511627776<=L)(a b:S)(ha:a.length<=200000)(hb:b.length<=200000):ev E L (D+308) 200 [.str (bs a),.str (bs b)] []=some (.str (bs (cE a b)),[]):=by
 rw[apJ];simp only[KM];have h:=akL L D hL a b ha hb;simp only[rS]at h;simp only[h,bnd_some',gStr_s,iEq_self,br_true']
theorem PH(hL:1099511627776<=L)(s:S)(hs:s.length<=2000000):ev E L (D+306) 127 [.str (bs s)] []=some (.bool (isKey s),[]):=by
 rw[ap3];simp only[KM];rw[E3 L D hL s hs];simp only[gAggN_if,cellAt_zero,cellAt_succ,jf,jk,ju,bnd_some',gInt_i,gStr_s,iEq_dec]
 rfl
end
end Kw
namespace Kw
open Go Go.Proofs
theorem R2{w:Int}(h:aI w):CR w=ltr w:=by
 obtain⟨h0,h1⟩:=h;unfold CR ltr letter;have e:(65+w).toNat=65+w.toNat:=by omega
 rw[e]
theorem jX{w:Int}:isW w=decide (aI w):=by
 by_cases h:aI w
 ·rw[jd h,isW_iff];exact h
 ·rw[ji h];cases e:isW w
  ·rfl
  ·exact absurd (isW_iff.1 e) h
theorem BM{n:Int}(h0:0<=n)(h1:n<=99):plain n.toNat=GM n:=by
 unfold GM;by_cases h:n<10
 ·rw[je h,sN (by omega)]
  unfold eX;have e:(48+n).toNat=48+n.toNat:=by omega
  rw[e]
 ·rw[jc h,BB (by omega) (by omega)]
  unfold eX;have e1:(48+n/10).toNat=48+n.toNat/10:=by omega
  have e2:(48+n%10).toNat=48+n.toNat%10:=by omega
  rw[e1,e2]
section
variable (L D:Nat)
theorem D6(n:Int):ev E L (D+2) 208 [.int .i64 n] []=some (.bool (decide (eN n)),[]):=by
 rw[apO];simp only[KM];simp only[jW,bnd_some',gBool_b];by_cases h:eN n
 ·rw[jd h];rw[jd h.1,jd h.2];rfl
 ·rw[ji h];have:(decide (0<=n)&&decide (n<=14))=false:=by
   rw[Bool.and_eq_false_iff];by_cases h2:0<=n
   ·exact .inr (by rw[jh];exact fun h3=>h ⟨h2,h3⟩)
   ·exact .inl (by rw[jh];exact h2)
  rw[this]
theorem R3(hL:1099511627776<=L)(s:S)(w:Int)(hs:s.length<=500000):ev E L (D+308) 204 [.str (bs s),.int .i64 w] []=some (.str (bs (dK s w)),[]):=by
 rw[apM];simp only[KM];have h1:=pM L (D+305) w;unfold dK;rw[h1];by_cases h:aI w
 ·have hw:isW w=true:=isW_iff.2 h;have h2:=RT L (D+306) w hw;have hm:=PG L D hL (109::ltr w) s (by simp[G9]) hs
  simp only[rS]at hm;have hf:eP (sLen (bs [109])) (sLen (bs (ltr w))) 1=true:=by rw[sLen_bs,sLen_bs];exact aF _ _ _ (by simp[G9])
  rw[je h,R2 h,hw];simp only[bnd_some',gBool_b,bNot_t,br_false',h2,gStr_s,hf,br_true',iEq_self,dB,List.cons_append,qf,hm]
 ·have hw:isW w=false:=by rw[jX];exact ji h
  rw[jc h,hw]
  rfl
theorem J0(w n:Int):ev E L (D+3) 64 [.int .i64 w,.int .i64 n] []=some (.str (bs (aV w n)),[]):=by
 rw[au4];simp only[KM];have h1:=pM L D w;have h2:=jW L (D+1) n 1 99;unfold aV;rw[h1];by_cases h:aI w
 ·have hw:isW w=true:=isW_iff.2 h;have h3:=RT L (D+1) w hw;rw[hw];simp only[bnd_some',gBool_b,bNot_t,bNot_f,br_true',h2];by_cases hn:1<=n/\n<=99
  ·have e:(decide (1<=n)&&decide (n<=99))=true:=by rw[jd hn.1,jd hn.2];rfl
   have h4:=arQ L (D+1) n (by omega) hn.2
   have hl:=ae7 n;have hf:eP (sLen (bs (ltr w))) (sLen (bs (GM n))) 1=true:=by rw[sLen_bs,sLen_bs];exact aF _ _ _ (by rw[G9];omega)
   have hf2:eP (sLen (bs (ltr w++GM n))) (sLen (bs [59])) 1=true:=by rw[sLen_bs,sLen_bs];exact aF _ _ _ (by rw[jl,G9];simp;omega)
   rw[je ⟨h,hn⟩,R2 h,BM (by omega) hn.2,e]
   simp only[bNot_t,br_false',h3,bnd_some',gStr_s,h4,hf,br_true',dB,hf2]
  ·have e:(decide (1<=n)&&decide (n<=99))=false:=by
    rw[Bool.and_eq_false_iff];by_cases h2:1<=n
    ·exact .inr (by rw[jh];omega)
    ·exact .inl (by rw[jh];omega)
   rw[jc (fun x=>hn x.2),e];rfl
 ·have hw:isW w=false:=by rw[jX];exact ji h
  rw[jc (fun x=>h x.1),hw]
  rfl
theorem aeR:ev E L (D+1) 121 [] []=some (.agg [.own (treNew.map rS)],[]):=by
 rw[aoY];simp only[KM]
 rfl
theorem aeS(hL:1099511627776<=L)(s:S)(hs:s.length<=2000000):ev E L (D+307) 126 [.str (bs s)] []=some (.bool (!(decide (s=[])||isKey s)),[]):=by
 rw[ap2];simp only[KM];rw[sEq_bs,PH L D hL s hs];by_cases h:s=[]
 ·rw[jd h];rfl
 ·rw[ji h];simp only[bNot_f,br_true',bnd_some',gBool_b,Bool.false_or]
  rfl
theorem R4(hL:1099511627776<=L)(ks:List S)(hk:ks.length<=1000000)(hs:∀s∈ks,s.length<=2000000):∀(m k:Nat),ks.length<m+k->k<=ks.length->
 ∃i:Int,pJ L (D+307) m (ks.map rS) ks.length k=some (.int .i64 i,[])/\(decide (0<=i)=!((ks.drop k).all fun k=>decide (k=[])||isKey k))
 |0,k,h,hk'=>by omega
 |m+1,k,h,hk'=>by
  rw[EZ];simp only[KM];by_cases hlt:k<ks.length
  ·have h1:decide ((k:Int)<ks.length)=true:=by rw[jb];omega
   have a1:bU .i64 (k:Int) 1=((k+1:Nat):Int):=aH _ (by omega)
   have e:=qd hlt;have hix:ix ks (k:Int)=ks[k]:=aM ks k hlt;have hc:=aeS L D hL ks[k] (hs _ (jt hlt));rw[e,we];obtain⟨i,ih,hi⟩:=R4 hL ks hk hs m (k+1) (by omega) (by omega)
   simp(disch:=omega) only[iLt_dec,h1,br_true',aX,bnd_some',d5,gStr_s,hix,hc,gBool_b,a1];cases hb:(decide (ks[k]=[])||isKey ks[k])with
   |true=>
    simp only[Bool.not_true,br_false',ih,ka];exact⟨i,rfl,hi⟩
   |false=>
    simp only[Bool.not_false,br_true',yj];exact⟨k,rfl,by rw[jb];omega⟩
  ·have h1:decide ((k:Int)<ks.length)=false:=by rw[jh];omega
   have e:ks.drop k=[]:=yn (by omega)
   rw[e,iLt_dec,h1,br_false'];exact⟨-1,rfl,rfl⟩
theorem XD(hL:1099511627776<=L)(ks:List S)(hk:ks.length<=1000000)(hs:∀s∈ks,s.length<=2000000):ev E L (D+310) 65 [.agg [.sl (ks.map rS)]] []=some (.bool (treOk ks),[]):=by
 rw[au5];simp only[KM];rw[iEq_dec,nrows_map];unfold treOk;by_cases h:ks.length=15
 ·have h1:decide ((ks.length:Int)=15)=true:=by rw[jb];omega
  obtain⟨i,h2,h3⟩:=R4 L D hL ks hk hs L 0 (by omega) (by omega)
  rw[h1,br_true',adY];simp only[KM];rw[ZW,nrows_map];rw[show((0:Nat):Int)=0 from rfl]at h2
  rw[h2,jd h,ka];simp only[bnd_some',gInt_i,gBool_b,iLe_dec,h3,qb];cases (ks.all fun k=>decide (k=[])||isKey k)<;>rfl
 ·have h1:decide ((ks.length:Int)=15)=false:=by rw[jh];omega
  rw[h1,br_false',ji h];rfl
end
end Kw
namespace Kw
open Go Go.Proofs
def eO:S->Nat->List S
 |_,0=>[]
 |s,n+1=>s::eO (makNext s) n
theorem mT(s:S)(n:Nat):(eO s n).length=n:=by
 induction n generalizing s with
 |zero=>rfl
 |succ n ih=>simp[eO,ih]
theorem HC(p s:S):(mk1 p s).length<=300:=by
 unfold mk1;split
 ·rename_i h;rw[jl];exact h.2
 ·simp
theorem nH(s:S):(makNext s).length<=300:=HC _ _
theorem J1(s:S):(makKey s).length<=300:=HC _ _
theorem E5(i:Nat):ups i=if i=0 then[]else(((i-1)/2:Nat):Int)::ups ((i-1)/2):=by
 conv=>lhs;rw[ups]
 split
 ·rfl
 ·rfl
theorem ups_rng(i:Nat):∀n∈ups i,0<=n/\n<i:=by
 induction i using Nat.strongRecOn with
 |ind i ih=>
  intro n hn;rw[E5]at hn;split at hn
  ·simp at hn
  ·rcases kw.1 hn with e|e
   ·subst e;omega
   ·have:=ih ((i-1)/2) (by omega) n e;omega
theorem PI(i:Nat)(h:i<=14):(ups i).length<=3:=by
 have:∀k:Fin 15,(ups k.val).length<=3:=by
  intro k;rw[E5];split
  ·simp
  ·rw[E5];split
   ·simp
   ·rw[E5];split
    ·simp
    ·rw[E5];split
     ·simp
     ·omega
 exact this ⟨i,by omega⟩
theorem lT{n:Int}:∀k∈bH n,0<=k/\k<=14:=by
 intro k hk;unfold bH at hk;split at hk
 ·rename_i h;have:=ups_rng n.toNat k hk;obtain⟨h0,h1⟩:=h;omega
 ·simp at hk
theorem tA{w:Int}(h:aI w):treLeaf w=7+w:=je h
theorem pathOf_rng{w:Int}(h:aI w):∀k∈pathOf w,0<=k/\k<=14:=by
 intro k hk;rcases kw.1 hk with e|e
 ·rw[e,tA h];obtain⟨h0,h1⟩:=h;omega
 ·exact lT k e
theorem cN(n:Int):(bH n).length<=3:=by
 unfold bH;split
 ·rename_i h;obtain⟨h0,h1⟩:=h;exact PI _ (by omega)
 ·simp
theorem eJ(w:Int):(pathOf w).length<=4:=by
 have:=cN (treLeaf w);show(bH (treLeaf w)).length+1<=4;omega
section
variable (L D:Nat)
theorem akM(r:List Row):ev E L (D+1) 177 [.sl r] []=some (.sl r,[]):=by
 have h:E.ext 177=some FK:=rfl;unfold ev;simp only[h]
 rfl
theorem cX{F sz:Nat}(h:E.ext F=some (cY sz 1024))(rows:List Row)(ho:okR sz rows=true)(hl:rows.length<=1000000000):ev E L (D+1) F [.sl rows] []=some (.own rows,[]):=by
 have h2:cY sz 1024 [.sl rows]=some (.own rows):=by
  have hb:Nat.ble (rows.length*1024) 70368744177664=true:=Nat.ble_eq_true_of_le (by omega)
  show(if(okR sz rows&&(rows.length*1024).ble 70368744177664)=true then some (MV.own rows)else none)=_
  rw[ho,hb];rfl
 unfold ev;simp only[h,h2]
 rfl
theorem av2:∀(i m:Nat) (done:List Int),i<m->i<=100->done.length+i<=1000->DD L (D+1) m (done.map rI) i done.length=some (.sl ((done++ups i).map rI),[]):=by
 intro i;induction i using Nat.strongRecOn with
 |ind i ih=>
  intro m done hm hi hd;obtain⟨m,rfl⟩:∃k,m=k+1:=⟨m-1,by omega⟩
  rw[KW];simp only[KM];rw[E5];by_cases h:i=0
  ·subst h;have g:iLt 0 ((0:Nat):Int)=false:=rfl;rw[g,br_false',je rfl,iEq_dec,nrows_map,kg];simp only[decide_true,br_true',akM,bnd_some',gSl_r]
  ·have g:iLt 0 (i:Int)=true:=by rw[iLt_dec,jb];omega
   have a1:hJ .i64 (i:Int) 1=((i-1:Nat):Int):=by rw[dR (by omega) (by omega)];omega
   have a2:D9 .i64 ((i-1:Nat):Int) 2=(((i-1)/2:Nat):Int):=by
    rw[l9 (by omega) (by omega) (by omega)]
    exact(Int.natCast_ediv (i-1) 2).symm
   have z:iEq 2 0=false:=rfl;rw[g,br_true',z,br_false',a1,a2,jc h];have ih':=ih ((i-1)/2) (by omega) m (done++[(((i-1)/2:Nat):Int)]) (by omega) (by omega) (by simp;omega)
   have e:done++(((i-1)/2:Nat):Int)::ups ((i-1)/2)=(done++[(((i-1)/2:Nat):Int)])++ups ((i-1)/2):=by simp
   rw[e,<-ih'];have o1:okR 1 (done.map rI)=true:=kM done;have o2:okR 1 [[MV.int IntKind.i64 (((i-1)/2:Nat):Int)]]=true:=rfl;have hf:eP (nrows (done.map rI)) (nrows [[MV.int IntKind.i64 (((i-1)/2:Nat):Int)]]) 8=true:=by rw[nrows_map];exact aF _ _ _ (by show((done.length:Int)+1)*8<=_;omega)
   have c1:cG (done.map rI) [[MV.int IntKind.i64 (((i-1)/2:Nat):Int)]]=(done++[(((i-1)/2:Nat):Int)]).map rI:=cH rI done _;rw[nrows_map]at hf;simp only[iEq_self,br_true',o1,o2,hf,cS,c1,nrows_map]
theorem XE(hL:1099511627776<=L)(n:Int):ev E L (D+3) 129 [.int .i64 n] []=some (.sl ((bH n).map rI),[]):=by
 rw[ap5];simp only[KM];rw[D6];unfold bH;by_cases h:eN n
 ·obtain⟨h0,h1⟩:=h;obtain⟨k,rfl⟩:=kx h0;have:=av2 L (D+1) k L [] (by omega) (by omega) (by simp;omega)
  rw[jd ⟨h0,h1⟩,je ⟨h0,h1⟩];simp only[bnd_some',gBool_b,bNot_t,br_false'];exact this
 ·rw[ji h,jc h];rfl
theorem pR(w:Int)(h:aI w):ev E L (D+1) 128 [.int .i64 w] []=some (.int .i64 (treLeaf w),[]):=by
 rw[ap4];simp only[KM];rw[tA h];obtain⟨h0,h1⟩:=h;rw[aZ (by omega) (by omega)]
theorem E6(hL:1099511627776<=L)(w:Int)(h:aI w):ev E L (D+4) 67 [.int .i64 w] []=some (.sl ((pathOf w).map rI),[]):=by
 rw[au7];simp only[KM];rw[pR L (D+2) w h];have hu:=XE L D hL (treLeaf w);have hl:=cN (treLeaf w);have o1:okR 1 ((bH (treLeaf w)).map rI)=true:=kM _;have o2:okR 1 [[MV.int IntKind.i64 (treLeaf w)]]=true:=rfl;have hf:eP (nrows [[MV.int IntKind.i64 (treLeaf w)]]) (nrows ((bH (treLeaf w)).map rI)) 8=true:=by rw[nrows_map];exact aF _ _ _ (by show(1+((bH (treLeaf w)).length:Int))*8<=_;omega)
 simp only[bnd_some',gInt_i,hu,gSl_r,iEq_self,o1,o2,hf,cS,br_true']
 rfl
theorem XF(hL:1099511627776<=L)(n:Int):ev E L (D+4) 196 [.int .i64 n] []=some (.sl ((n::bH n).map rI),[]):=by
 rw[apF];simp only[KM];have hu:=XE L D hL n;have hl:=cN n;have o1:okR 1 ((bH n).map rI)=true:=kM _;have o2:okR 1 [[MV.int IntKind.i64 n]]=true:=rfl;have hf:eP (nrows [[MV.int IntKind.i64 n]]) (nrows ((bH n).map rI)) 8=true:=by rw[nrows_map];exact aF _ _ _ (by show(1+((bH n).length:Int))*8<=_;omega)
 simp only[bnd_some',hu,gSl_r,iEq_self,o1,o2,hf,cS,br_true']
 rfl
theorem aa6(n:Int):ev E L (D+3) 241 [.int .i64 n] []=some (.int .i64 (bF n),[]):=by
 rw[apS];simp only[KM];rw[D6];unfold bF;by_cases h:eN n
 ·rw[jd h];obtain⟨h0,h1⟩:=h;by_cases hz:n=0
  ·subst hz;rfl
  ·have g:iEq n 0=false:=by rw[iEq_dec];exact ji hz
   have z:iEq 2 0=false:=rfl;have a1:bU .i64 n 1=n+1:=aZ (by omega) (by omega)
   have a2:hJ .i64 n 1=n-1:=dR (by omega) (by omega)
   rw[je (by omega)]
   simp only[bnd_some',gBool_b,bNot_t,bNot_f,br_true',g,z,br_false',nD h0,a1,a2,iEq_dec];by_cases h2:n%2=1
   ·rw[jd h2,je h2];rfl
   ·rw[ji h2,jc h2];rfl
 ·rw[ji h,jc (fun x=>h ⟨by omega,x.2⟩)];rfl
theorem R5(ks:List S)(hk:ks.length=15)(w:Int):ev E L (D+3) 66 [.agg [.sl (ks.map rS)],.int .i64 w] []=some (.bool (decide (aI w)&&hasLeaf ks w),[]):=by
 rw[au6];simp only[KM];rw[pM,jX];by_cases h:aI w
 ·rw[jd h,ka];have hl:=pR L (D+1) w h;have e:=tA h;obtain⟨h0,h1⟩:=id h;have hr:=aX (treLeaf w) ks (by omega) (by omega)
  unfold hasLeaf;simp only[bnd_some',gBool_b,br_true',hl,gInt_i,hr,d5,gStr_s,sEq_bs];by_cases hz:ix ks (treLeaf w)=[]
  ·rw[jd hz,ji (fun x=>x hz)];rfl
  ·rw[ji hz,jd hz];rfl
 ·rw[ji h,yj];rfl
theorem HD(ks:List S)(hk:ks.length<=1000000):ev E L (D+2) 187 [.agg [.sl (ks.map rS)]] []=some (.agg [.own (ks.map rS)],[]):=by
 rw[apA];simp only[KM];rw[cX L D (F:=48) (sz:=1) rfl (ks.map rS) (iC ks) (by rw[jz];omega)]
 simp only[bnd_some',gOwn_r,iEq_self,br_true']
end
end Kw
namespace Kw
open Go Go.Proofs
section
variable (L D:Nat)
theorem R6(hL:1099511627776<=L):∀(k m:Nat) (x:S) (pre:List S),k<m->x.length<=500000->pre.length+k<=1000->
 DE L (D+308) m ((pre++[x]).map rS) ((pre.length+1+k:Nat):Int) ((pre.length+1:Nat):Int)=some (.sl ((pre++eO x (k+1)).map rS),[])
 |k,0,_,_,h,_,_=>by omega
 |k,m+1,x,pre,h,hx,hp=>by
  rw[KZ];simp only[KM];have hl:nrows ((pre++[x]).map rS)=((pre.length+1:Nat):Int):=by rw[nrows_map];simp
  rw[hl];cases k with
  |zero=>
   have g:iLt ((pre.length+1:Nat):Int) ((pre.length+1+0:Nat):Int)=false:=by rw[iLt_dec,jh];omega
   simp only[iEq_self,br_true',g,br_false']
   rfl
  |succ k=>
   have g:iLt ((pre.length+1:Nat):Int) ((pre.length+1+(k+1):Nat):Int)=true:=by rw[iLt_dec,jb];omega
   have a1:hJ .i64 ((pre.length+1:Nat):Int) 1=(pre.length:Int):=by rw[dR (by omega) (by omega)];omega
   have hix:ix (pre++[x]) (pre.length:Int)=x:=by
    rw[aM _ _ (by simp)];simp
   have r1:jP 1 ((pre++[x]).map rS) (pre.length:Int)=some (rS x):=by
    rw[aX _ (pre++[x]) (by omega) (by simp;omega),hix]
   have r2:hG ((pre++[x]).map rS) (pre.length:Int)=some (rS x):=by
    rw[jR (pre++[x]) _ (by omega) (by simp;omega),hix]
   have hn:=E4 L D hL x hx;have ih:=R6 hL k m (makNext x) (pre++[x]) (by omega) (by have:=nH x;omega) (by simp;omega)
   have o1:okR 1 ((pre++[x]).map rS)=true:=iC _;have o2:okR 1 [[MV.str (bs (makNext x))]]=true:=rfl;have hf:eP ((pre.length+1:Nat):Int) (nrows [[MV.str (bs (makNext x))]]) 16=true:=aF _ _ _ (by show(((pre.length+1:Nat):Int)+1)*16<=_;omega)
   have c1:cG ((pre++[x]).map rS) [[MV.str (bs (makNext x))]]=((pre++[x])++[makNext x]).map rS:=cH rS (pre++[x]) _;have c2:nrows (((pre++[x])++[makNext x]).map rS)=(((pre++[x]).length+1:Nat):Int):=by rw[nrows_map];simp;omega
   simp only[iEq_self,br_true',g,a1,r1,r2,bnd_some',d5,gStr_s,hn,o1,o2,hf,cS,c1,c2];have e1:((pre.length+1+(k+1):Nat):Int)=(((pre++[x]).length+1+k:Nat):Int):=by simp;omega
   rw[e1,ih];simp[eO]
theorem XG(hL:1099511627776<=L)(s:S)(n:Nat)(h1:1<=n)(hn:n<=1000)(hs:s.length<=500000):ev E L (D+309) 206 [.str (bs s),.int .i64 n] []=some (.sl ((eO s n).map rS),[]):=by
 rw[apN];simp only[KM];obtain⟨k,rfl⟩:∃k,n=k+1:=⟨n-1,by omega⟩
 have:=R6 L D hL k L s [] (by omega) hs (by simp;omega)
 simp only[qf,jk,wt,List.map_nil,qu]at this;have e:((k+1:Nat):Int)=((1+k:Nat):Int):=by omega
 rw[e];exact this
theorem aeT(hL:1099511627776<=L):∀(ns:List Int) (m:Nat) (x:S) (pre:List Int) (pres ks:List S),ns.length<m->pre.length=pres.length->pre.length+ns.length<=1000->ks.length=15->x.length<=500000->(∀n∈ns,0<=n/\n<=14)->
 DB L (D+309) m [] (ks.map rS) (nrows []) ks.length ((pre++ns).map rI) ((pres++eO x ns.length).map rS) ((pre.length+ns.length:Nat):Int) pre.length=some (.agg [.own ((mP ns x ks).map rS)],[])
 |_,0,_,_,_,_,h,_,_,_,_,_=>by omega
 |[],m+1,x,pre,pres,ks,h,he,hp,hk,hx,hr=>by
  rw[AP];simp only[KM];have g:iLt (pre.length:Int) ((pre.length+([]:List Int).length:Nat):Int)=false:=by rw[iLt_dec,jh];simp
  rw[g,br_false',iEq_dec,nrows_map,jd rfl,br_true']
  rfl
 |n::ns,m+1,x,pre,pres,ks,h,he,hp,hk,hx,hr=>by
  rw[AP];simp only[KM];obtain⟨n0,n1⟩:=hr n (by simp)
  simp only[jf]at h hp;have g:iLt (pre.length:Int) ((pre.length+(n::ns).length:Nat):Int)=true:=by rw[iLt_dec,jb];simp only[jf];omega
  have hix1:ix (pres++eO x (n::ns).length) (pre.length:Int)=x:=by
   rw[he,aM _ _ (by simp[mT])];simp[eO]
  have hix2:ix (pre++n::ns) (pre.length:Int)=n:=by
   rw[aM _ _ (by simp)];simp
  have r1:=aX (pre.length:Int) (pres++eO x (n::ns).length) (by omega) (by simp only[jl,mT,jf];omega)
  have r2:=aY (pre.length:Int) (pre++n::ns) (by omega) (by simp only[jl,jf];omega)
  rw[hix1]at r1;rw[hix2]at r2;have hkey:=o7 L (D+1) hL x hx;rw[show D+1+308=D+309 by omega]at hkey
  have r3:=aX n ks (by omega) (by omega)
  have r4:=jR ks n (by omega) (by omega)
  have a1:bU .i64 (pre.length:Int) 1=((pre.length+1:Nat):Int):=aH _ (by omega)
  have s1:setR (ks.map rS) n (rS (makKey x))=(ks.set n.toNat (makKey x)).map rS:=eV rS ks n _;have l1:eF (rS (ix ks n))=1:=rfl;have l2:iLe 1 1=true:=rfl;have ih:=aeT hL ns m (makNext x) (pre++[n]) (pres++[x]) (ks.set n.toNat (makKey x)) (by omega) (by simp[he]) (by simp;omega) (by simp[hk]) (by have:=nH x;omega) (fun k hk=>hr k (by simp[hk]))
  have e1:(pre++[n])++ns=pre++n::ns:=by simp
  have e2:(pres++[x])++eO (makNext x) ns.length=pres++eO x (n::ns).length:=by simp[eO]
  have e3:(((pre++[n]).length+ns.length:Nat):Int)=((pre.length+(n::ns).length:Nat):Int):=by simp;omega
  have e4:(pre++[n]).length=pre.length+1:=by simp
  rw[e1,e2,e3,e4,kj]at ih;have q:iEq (ks.length:Int) (nrows (ks.map rS))=true:=by rw[nrows_map,iEq_self]
  have sr:setRow (rS (ix ks n)) 0 [MV.str (bs (makKey x))]=rS (makKey x):=rfl;simp only[g,br_true',r1,r2,bnd_some',d5,gStr_s,dU,gInt_i,hkey,q,r3,r4,l1,l2,sr,s1,a1,ih]
  rfl
theorem alD(hL:1099511627776<=L)(ks:List S)(hk:ks.length=15)(w:Int)(hw:aI w)(s:S)(hs:s.length<=500000):ev E L (D+310) 122 [.agg [.sl (ks.map rS)],.int .i64 w,.str (bs s)] []=some (.agg [.own ((AB ks w s).map rS)],[]):=by
 rw[aoZ];simp only[KM];have h1:=HD L (D+307) ks (by omega)
 have h2:=E6 L (D+305) hL w hw;have hl:=eJ w;have h3:=XG L D hL s (pathOf w).length (by show 1<=(bH (treLeaf w)).length+1;omega) (by omega) hs
 have h4:=aeT L D hL (pathOf w) L s [] [] ks (by omega) rfl (by simp;omega) hk hs (pathOf_rng hw)
 simp only[qf,jk,qu]at h4;have n1:nrows ((pathOf w).map rI)=(pathOf w).length:=nrows_map ..;have n2:nrows ((eO s (pathOf w).length).map rS)=(pathOf w).length:=by rw[nrows_map,mT]
 have n3:nrows (ks.map rS)=ks.length:=nrows_map ..;simp only[h1,bnd_some',gAggN_if,jf,jk,ju,cellAt_zero,gOwn_r,h2,gSl_r,n1,h3,n2,n3];exact h4
theorem R7:∀(ns:List Int) (m:Nat) (pre:List Int) (ks:List S),ns.length<m->pre.length+ns.length<=1000->ks.length=15->(∀n∈ns,0<=n/\n<=14)->
 DG L D m [] (ks.map rS) (nrows []) ks.length ((pre++ns).map rI) ((pre.length+ns.length:Nat):Int) pre.length=some (.agg [.own ((ns.foldl (fun ks n=>ks.set n.toNat []) ks).map rS)],[])
 |_,0,_,_,h,_,_,_=>by omega
 |[],m+1,pre,ks,h,hp,hk,hr=>by
  rw[AR];simp only[KM];have g:iLt (pre.length:Int) ((pre.length+([]:List Int).length:Nat):Int)=false:=by rw[iLt_dec,jh];simp
  rw[g,br_false',iEq_dec,nrows_map,jd rfl,br_true']
  rfl
 |n::ns,m+1,pre,ks,h,hp,hk,hr=>by
  rw[AR];simp only[KM];obtain⟨n0,n1⟩:=hr n (by simp)
  simp only[jf]at h hp;have g:iLt (pre.length:Int) ((pre.length+(n::ns).length:Nat):Int)=true:=by rw[iLt_dec,jb];simp only[jf];omega
  have hix2:ix (pre++n::ns) (pre.length:Int)=n:=by
   rw[aM _ _ (by simp)];simp
  have r2:=aY (pre.length:Int) (pre++n::ns) (by omega) (by simp only[jl,jf];omega)
  rw[hix2]at r2;have r3:=aX n ks (by omega) (by omega)
  have r4:=jR ks n (by omega) (by omega)
  have a1:bU .i64 (pre.length:Int) 1=((pre.length+1:Nat):Int):=aH _ (by omega)
  have s1:setR (ks.map rS) n (rS [])=(ks.set n.toNat []).map rS:=eV rS ks n _;have l1:eF (rS (ix ks n))=1:=rfl;have l2:iLe 1 1=true:=rfl;have ih:=R7 ns m (pre++[n]) (ks.set n.toNat []) (by omega) (by simp;omega) (by simp[hk]) (fun k hk=>hr k (by simp[hk]))
  have e1:(pre++[n])++ns=pre++n::ns:=by simp
  have e3:(((pre++[n]).length+ns.length:Nat):Int)=((pre.length+(n::ns).length:Nat):Int):=by simp;omega
  have e4:(pre++[n]).length=pre.length+1:=by simp
  rw[e1,e3,e4,kj]at ih;have q:iEq (ks.length:Int) (nrows (ks.map rS))=true:=by rw[nrows_map,iEq_self]
  have sr:setRow (rS (ix ks n)) 0 [MV.str (bs [])]=rS []:=rfl;simp only[g,br_true',r2,bnd_some',dU,gInt_i,q,r3,r4,l1,l2,sr,s1,a1,ih]
  rfl
theorem XH(hL:1099511627776<=L)(ks:List S)(hk:ks.length=15)(w:Int)(hw:aI w):ev E L (D+5) 280 [.agg [.sl (ks.map rS)],.int .i64 w] []=some (.agg [.own ((clr ks w).map rS)],[]):=by
 rw[apV];simp only[KM];have h1:=HD L (D+2) ks (by omega)
 have h2:=E6 L D hL w hw;have hl:=eJ w;have h4:=R7 L (D+4) (pathOf w) L [] ks (by omega) (by simp;omega) hk (pathOf_rng hw)
 simp only[qf,jk,qu]at h4;have n1:nrows ((pathOf w).map rI)=(pathOf w).length:=nrows_map ..;have n3:nrows (ks.map rS)=ks.length:=nrows_map ..;simp only[h1,bnd_some',gAggN_if,jf,jk,ju,cellAt_zero,gOwn_r,h2,gSl_r,n1,n3];exact h4
end
end Kw
