import Derived.Test.YthjlffhckgaboaaGreatDoorS07
import Derived.Test.YthjlffhckgaboaaGreatDoorS06
set_option linter.unusedVariables false
set_option linter.unusedSimpArgs false
set_option linter.unusedSectionVars false
namespace Kw
def gM(n:Nat):UInt8:=(48+n).toUInt8
def plain(n:Nat):S:=if h:9<n then plain (n/10)++[gM (n%10)]else[gM n]
def letter(w:Nat):UInt8:=(65+w).toUInt8
def xY(w:Int):S:=[letter w.toNat]
def aR(w:Int):Prop:=0<=w/\w<=7
instance(w:Int):Decidable (aR w):=inferInstanceAs (Decidable (_/\_))
def bP(w n:Int):S:=if aR w/\1<=n/\n<=99 then xY w++plain n.toNat++[59]else[]
inductive Sec where
 |new (w n:Nat)
 |next (t:Sec)
 |key (t:Sec)
 |epoch (a b:Sec)
 |say (w:Nat) (t:Sec)
 |room (n:Nat) (t:Sec)
 deriving DecidableEq,Inhabited
def Sec.str:Sec->S
 | .new w n=>letter w::(plain n++[59])
 | .next t=>110::t.str
 | .key t=>107::t.str
 | .epoch a b=>101::(a.str++b.str)
 | .say w t=>109::letter w::t.str
 | .room n t=>114::gM n::t.str
def Sec.wf:Sec->Prop
 | .new w n=>w<=7/\1<=n/\n<=99
 | .next t=>t.wf
 | .key t=>t.wf
 | .epoch a b=>a.wf/\b.wf
 | .say w t=>w<=7/\t.wf
 | .room n t=>1<=n/\n<=9/\t.wf
def pFresh:S->Option (Sec×S)
 |c::d::t=>if(65<=c.toNat/\c.toNat<=72)/\49<=d.toNat/\d.toNat<=57 then(match t with
   |[]=>none
   |e::r=>if e=59 then some (.new (c.toNat-65) (d.toNat-48),r)else if 48<=e.toNat/\e.toNat<=57 then(match r with
     |[]=>none
     |f::r=>if f=59 then some (.new (c.toNat-65) ((d.toNat-48)*10+(e.toNat-48)),r)else none)
    else none)
   else none
 |_=>none
def e7:Nat->S->Option (Sec×S)
 |0,_=>none
 |_+1,[]=>none
 |n+1,c::t=>
  if c=110 then(match e7 n t with|some (x,r)=>some (.next x,r)|none=>none)
  else if c=107 then(match e7 n t with|some (x,r)=>some (.key x,r)|none=>none)
  else if c=109 then(match t with
   |[]=>none
   |w::t=>if 65<=w.toNat/\w.toNat<=72 then(match e7 n t with|some (x,r)=>some (.say (w.toNat-65) x,r)|none=>none)else none)
  else if c=114 then(match t with
   |[]=>none
   |w::t=>if 49<=w.toNat/\w.toNat<=57 then(match e7 n t with|some (x,r)=>some (.room (w.toNat-48) x,r)|none=>none)else none)
  else if c=101 then(match e7 n t with
   |some (x,r)=>(match e7 n r with|some (y,r)=>some (.epoch x y,r)|none=>none)
   |none=>none)
  else pFresh (c::t)
theorem jQ{w:Nat}(h:w<=7):(letter w).toNat=65+w:=by
 unfold letter;rw[UInt8.toNat_ofNat'];omega
theorem iI{n:Nat}(h:n<=9):(gM n).toNat=48+n:=by
 unfold gM;rw[UInt8.toNat_ofNat'];omega
theorem uT{c:UInt8}(h1:65<=c.toNat)(h2:c.toNat<=72):letter (c.toNat-65)=c:=by
 apply UInt8.toNat_inj.1;rw[jQ (by omega)];omega
theorem nM{c:UInt8}(h1:48<=c.toNat)(h2:c.toNat<=57):gM (c.toNat-48)=c:=by
 apply UInt8.toNat_inj.1;rw[iI (by omega)];omega
theorem tA{n:Nat}(h:n<=9):plain n=[gM n]:=by rw[plain,dif_neg (by omega)]
theorem AN{n:Nat}(h:9<n)(h':n<=99):plain n=[gM (n/10),gM (n%10)]:=by
 rw[plain,dif_pos h,tA (by omega)];rfl
theorem xZ{s:S}{t:Sec}{r:S}(h:pFresh s=some (t,r)):t.wf/\s=t.str++r:=by
 unfold pFresh at h;split at h
 ·rename_i c d u;split at h
  ·rename_i hc;split at h
   ·cases h
   ·rename_i e r';split at h
    ·rename_i he;cases h;refine⟨⟨by omega,by omega,by omega⟩,?_⟩
     show _=letter _::(plain _++[59])++_;rw[tA (by omega),uT (by omega) (by omega),nM (by omega) (by omega),he];rfl
    ·split at h
     ·rename_i he;split at h
      ·cases h
      ·rename_i f r'';split at h
       ·rename_i hf;cases h;refine⟨⟨by omega,by omega,by omega⟩,?_⟩
        show _=letter _::(plain _++[59])++_;have e1:((d.toNat-48)*10+(e.toNat-48))/10=d.toNat-48:=by omega
        have e2:((d.toNat-48)*10+(e.toNat-48))%10=e.toNat-48:=by omega
        rw[AN (by omega) (by omega),e1,e2,uT (by omega) (by omega),nM (by omega) (by omega),nM (by omega) (by omega),hf];rfl
       ·cases h
     ·cases h
  ·cases h
 ·cases h
theorem fV:∀{n:Nat} {s:S} {t:Sec} {r:S},e7 n s=some (t,r)->t.wf/\s=t.str++r
 |0,_,_,_,h=>by simp[e7]at h
 |n+1,[],_,_,h=>by simp[e7]at h
 |n+1,c::u,t,r,h=>by
  unfold e7 at h;split at h
  ·rename_i hc;split at h
   ·rename_i x r' e;cases h;obtain⟨h1,h2⟩:=fV e;exact⟨h1,by rw[hc,h2];rfl⟩
   ·cases h
  split at h
  ·rename_i hc;split at h
   ·rename_i x r' e;cases h;obtain⟨h1,h2⟩:=fV e;exact⟨h1,by rw[hc,h2];rfl⟩
   ·cases h
  split at h
  ·rename_i hc;split at h
   ·cases h
   ·rename_i w v;split at h
    ·rename_i hw;split at h
     ·rename_i x r' e;cases h;obtain⟨h1,h2⟩:=fV e;refine⟨⟨by omega,h1⟩,?_⟩
      show _=109::letter _::x.str++_;rw[uT hw.1 hw.2,hc,h2];rfl
     ·cases h
    ·cases h
  split at h
  ·rename_i hc;split at h
   ·cases h
   ·rename_i w v;split at h
    ·rename_i hw;split at h
     ·rename_i x r' e;cases h;obtain⟨h1,h2⟩:=fV e;refine⟨⟨by omega,by omega,h1⟩,?_⟩
      show _=114::gM _::x.str++_;rw[nM (by omega) (by omega),hc,h2];rfl
     ·cases h
    ·cases h
  split at h
  ·rename_i hc;split at h
   ·rename_i x r' e;split at h
    ·rename_i y r'' e';cases h;obtain⟨h1,h2⟩:=fV e;obtain⟨h3,h4⟩:=fV e';refine⟨⟨h1,h3⟩,?_⟩;show _=101::(x.str++y.str)++_;rw[hc,h2,h4];simp
    ·cases h
   ·cases h
  ·exact xZ h
theorem IW{w:Nat}(h:w<=7):letter w≠110/\letter w≠107/\letter w≠109/\letter w≠114/\letter w≠101:=by
 have:=jQ h;refine⟨?_,?_,?_,?_,?_⟩<;>intro e<;>rw[e]at this<;>simp at this<;>omega
theorem iJ:∀(t:Sec) (r:S) (n:Nat),t.wf->t.str.length<n->e7 n (t.str++r)=some (t,r)
 | .new w m,r,0,_,hn=>by omega
 | .new w m,r,n+1,⟨hw,h1,h2⟩,hn=>by
   obtain⟨a1,a2,a3,a4,a5⟩:=IW hw;show e7 (n+1) (letter w::(plain m++[59]++r))=_;unfold e7;rw[jb a1,jb a2,jb a3,jb a4,jb a5];have hl:=jQ hw;by_cases h9:m<=9
   ·have hd:=iI h9;rw[tA h9];show pFresh (letter w::gM m::59::r)=_;simp only[pFresh];rw[jd (by omega),jd trivial,hl,hd]
    simp
   ·have hd:= @iI (m/10) (by omega)
    have hd':= @iI (m%10) (by omega)
    rw[AN (by omega) h2]
    show pFresh (letter w::gM (m/10)::gM (m%10)::59::r)=_;have hne:gM (m%10)≠59:=fun e=>by rw[e]at hd';simp at hd';omega
    simp only[pFresh];rw[jd (by omega),jb hne,jd (by omega),jd trivial,hl,hd,hd']
    have:(48+m/10-48)*10+(48+m%10-48)=m:=by omega
    rw[this];simp
 | .next t,r,n+1,hw,hn=>by
   show e7 (n+1) (110::(t.str++r))=_;unfold e7;rw[jd rfl,iJ t r n hw (by simp[Sec.str]at hn;omega)]
 | .key t,r,n+1,hw,hn=>by
   show e7 (n+1) (107::(t.str++r))=_;unfold e7;rw[jb (by decide),jd rfl,iJ t r n hw (by simp[Sec.str]at hn;omega)]
 | .epoch a b,r,n+1,hw,hn=>by
   show e7 (n+1) (101::(a.str++b.str++r))=_;unfold e7;rw[jb (by decide),jb (by decide),jb (by decide),jb (by decide),jd rfl,qy,iJ a _ n hw.1 (by simp[Sec.str]at hn;omega)]
   simp only;rw[iJ b r n hw.2 (by simp[Sec.str]at hn;omega)]
 | .say w t,r,n+1,hw,hn=>by
   show e7 (n+1) (109::letter w::(t.str++r))=_;have hl:=jQ hw.1;have:=hw.1;unfold e7;rw[jb (by decide),jb (by decide),jd rfl]
   simp only;rw[jd (by omega),iJ t r n hw.2 (by simp[Sec.str]at hn;omega),hl]
   simp
 | .room m t,r,n+1,hw,hn=>by
   show e7 (n+1) (114::gM m::(t.str++r))=_;have hl:=iI hw.2.1;have:=hw.1;have:=hw.2.1;unfold e7;rw[jb (by decide),jb (by decide),jb (by decide),jd rfl]
   simp only;rw[jd (by omega),iJ t r n hw.2.2 (by simp[Sec.str]at hn;omega),hl]
   simp
 | .next t,r,0,_,hn=>by omega
 | .key t,r,0,_,hn=>by omega
 | .epoch a b,r,0,_,hn=>by omega
 | .say w t,r,0,_,hn=>by omega
 | .room m t,r,0,_,hn=>by omega
theorem Sec.str_pos(t:Sec):0<t.str.length:=by cases t<;>simp[Sec.str]
theorem O8{n m:Nat}{s:S}(h1:s.length<n)(h2:s.length<m):e7 n s=e7 m s:=by
 cases e:e7 n s with
 |some x=>
  obtain⟨t,r⟩:=x;obtain⟨hw,hs⟩:=fV e;subst hs;rw[iJ t r m hw (by simp at h2;omega)]
 |none=>
  cases e':e7 m s with
  |none=>rfl
  |some x=>
   obtain⟨t,r⟩:=x;obtain⟨hw,hs⟩:=fV e';subst hs;rw[iJ t r n hw (by simp at h1;omega)]at e
   cases e
def pars(s:S):Option (Sec×S):=e7 (s.length+1) s
theorem KD{n:Nat}{s:S}(h:s.length<n):e7 n s=pars s:=O8 h (by omega)
theorem f7{s:S}{t:Sec}{r:S}(h:pars s=some (t,r)):t.wf/\s=t.str++r:=fV h
theorem x5{t:Sec}(r:S)(h:t.wf):pars (t.str++r)=some (t,r):=iJ t r _ h (by simp;omega)
def pnt(s:S):Option Sec:=match pars s with|some (t,[])=>some t|_=>none
theorem pnt_some{s:S}{t:Sec}:pnt s=some t↔t.wf/\s=t.str:=by
 unfold pnt;constructor
 ·intro h;split at h
  ·rename_i t' e;cases h;obtain⟨h1,h2⟩:=f7 e;exact⟨h1,by simpa using h2⟩
  ·cases h
 ·rintro⟨hw,rfl⟩;have:=x5 [] hw;rw[jz]at this;rw[this]
def sec(s:S):Option Sec:=if s.length<=300 then pnt s else none
theorem nN{s:S}{t:Sec}:sec s=some t↔t.wf/\s=t.str/\s.length<=300:=by
 unfold sec;split
 ·rename_i h;rw[pnt_some];exact⟨fun⟨a,b⟩=>⟨a,b,h⟩,fun⟨a,b,_⟩=>⟨a,b⟩⟩
 ·rename_i h;exact⟨fun e=>(by cases e),fun⟨_,_,e⟩=>absurd e h⟩
def secOk(s:S):Bool:=(sec s).isSome
theorem eX{s:S}:secOk s=true↔∃t:Sec,t.wf/\s=t.str/\s.length<=300:=by
 unfold secOk;rw[qt];exact⟨fun⟨t,h⟩=>⟨t,nN.1 h⟩,fun⟨t,h⟩=>⟨t,nN.2 h⟩⟩
def mk1(p s:S):S:=if secOk s=true/\p.length+s.length<=300 then p++s else[]
def makNext(s:S):S:=mk1 [110] s
def makKey(s:S):S:=mk1 [107] s
def eH(a b:S):S:=if(secOk a=true/\secOk b=true)/\1+a.length+b.length<=300 then 101::(a++b)else[]
def eE(s:S)(w:Int):S:=if aR w then mk1 (109::xY w) s else[]
structure How where
 op:Int
 who:Int
 n:Int
 a:S
 b:S
 deriving DecidableEq,Inhabited
def Sec.how:Sec->How
 | .new w n=>⟨1,w,n,[],[]⟩
 | .next t=>⟨2,0,0,t.str,[]⟩
 | .key t=>⟨3,0,0,t.str,[]⟩
 | .epoch a b=>⟨4,0,0,a.str,b.str⟩
 | .say w t=>⟨5,w,0,t.str,[]⟩
 | .room n t=>⟨6,0,n,t.str,[]⟩
def bK(s:S):How:=match sec s with|some t=>t.how|none=>⟨0,0,0,[],[]⟩
def isKey(s:S):Bool:=decide ((bK s).op=3)
theorem jR{s:S}:(bK s).op=0↔secOk s=false:=by
 unfold bK secOk;cases sec s with
 |none=>simp
 |some t=>cases t<;>simp[Sec.how]
end Kw
namespace Kw
def jZ(b:UInt8):Prop:=48<=b.toNat/\b.toNat<=57
instance(b:UInt8):Decidable (jZ b):=inferInstanceAs (Decidable (_/\_))
def nO(s:S)(p k num:Nat):Int:=if k<s.length/\(ix s k).toNat=59/\bP ((ix s p).toNat-65:Int) num=(s.take (k+1)).drop p then k+1-p else 0
def oD(s:S)(p:Nat):Nat->Nat->Nat->Int
 |0,k,num=>nO s p k num
 |m+1,k,num=>if k<s.length/\jZ (ix s k)then oD s p m (k+1) (num*10+((ix s k).toNat-48))else nO s p k num
def vN(s:S)(o:Option (Sec×S)):Int:=match o with|some (_,r)=>s.length-r.length|none=>0
theorem O9(p u:S)(j:Nat)(h:j<u.length):ix (p++u) ((p.length+j:Nat):Int)=u[j]:=by
 rw[aZ _ _ (by simp;omega)]
 simp
def fE(u:S)(c:UInt8)(j num:Nat):Int:=if(u.drop j).head?=some 59/\bP (c.toNat-65:Int) num=u.take (j+1)then j+1 else 0
def fG(u:S)(c:UInt8):Nat->Nat->Nat->Int
 |0,j,num=>fE u c j num
 |m+1,j,num=>match u.drop j with
  |[]=>fE u c j num
  |x::_=>if jZ x then fG u c m (j+1) (num*10+(x.toNat-48))else fE u c j num
theorem GO(q u:S)(n:Nat):(List.take (q.length+n) (q++u)).drop q.length=u.take n:=by
 rw[List.take_append,List.drop_append];simp
theorem UC(u:S)(j:Nat):(u.drop j).head?=u[j]?:=by simp[List.head?_drop]
theorem qQ(q u:S)(c:UInt8)(t:S)(hu:u=c::t)(j num:Nat):nO (q++u) q.length (q.length+j) num=fE u c j num:=by
 have h0:ix (q++u) (q.length:Int)=c:=by
  have:=O9 q u 0 (by rw[hu];simp)
  rw[wc]at this;rw[this];subst hu;rfl
 unfold nO fE;rw[h0,wv,GO,UC];by_cases hj:j<u.length
 ·rw[O9 q u j hj,ji hj];have e1:q.length+j< (q++u).length:=by simp;omega
  have e2:((u[j]).toNat=59)↔(some u[j]=some (59:UInt8)):=by
   rw[Option.some.injEq,<-UInt8.toNat_inj];rfl
  by_cases h:(some u[j]=some (59:UInt8))/\bP (c.toNat-65:Int) num=u.take (j+1)
  ·rw[jd ⟨e1,e2.2 h.1,h.2⟩,jd h];push_cast;omega
  ·rw[jb (fun e=>h ⟨e2.1 e.2.1,e.2.2⟩),jb h]
 ·rw[jb (fun e=>hj (by have:=e.1;simp at this;omega)),jb (fun e=>by rw[qi (by omega)]at e;cases e.1)]
theorem BZ(q u:S)(c:UInt8)(t:S)(hu:u=c::t):∀(m j num:Nat),oD (q++u) q.length m (q.length+j) num=fG u c m j num
 |0,j,num=>qQ q u c t hu j num
 |m+1,j,num=>by
  unfold oD fG;cases e:u.drop j with
  |nil=>
   have hj:u.length<=j:=by simpa using e
   rw[jb (fun e=>by have:=e.1;simp at this;omega)]
   exact qQ q u c t hu j num
  |cons x v=>
   have hj:j<u.length:=by
    rcases vq j u.length with h|h
    ·exact h
    ·rw[jm h]at e;cases e
   have hx:u[j]=x:=by
    rw[kz hj]at e;exact(List.cons.inj e).1
   simp only;rw[O9 q u j hj,hx];by_cases hd:jZ x
   ·rw[jd ⟨by simp;omega,hd⟩,jd hd]
    exact BZ q u c t hu m (j+1) _
   ·rw[jb (fun e=>hd e.2),jb hd]
    exact qQ q u c t hu j num
theorem PA{w n:Int}(h:99<n):bP w n=[]:=jb (fun e=>by omega)
theorem oE(w:Int):bP w 0=[]:=jb (fun e=>by omega)
theorem uU{c:UInt8}(h1:65<=c.toNat)(h2:c.toNat<=72){n:Nat}(h3:1<=n)(h4:n<=99):bP (c.toNat-65:Int) n=c::(plain n++[59]):=by
 unfold bP;rw[jd ⟨⟨by omega,by omega⟩,by omega,by omega⟩]
 have:((c.toNat:Int)-65).toNat=c.toNat-65:=by omega
 unfold xY;rw[this,uT h1 h2];simp
theorem YL(c:UInt8)(t:S)(h1:65<=c.toNat)(h2:c.toNat<=72):fG (c::t) c 3 1 0=vN (c::t) (pFresh (c::t)):=by
 have dne:∀x:UInt8,jZ x->x≠59:=fun x hx e=>by subst e;simp[jZ]at hx
 cases t with
 |nil=>simp[fG,fE,vN,pFresh]
 |cons d t=>
  by_cases hd:jZ d
  case neg=>
   have:¬(49<=d.toNat/\d.toNat<=57):=fun e=>hd ⟨by omega,e.2⟩
   simp[fG,fE,vN,pFresh,hd,this,oE]
  obtain⟨d1,d2⟩:=hd;cases t with
  |nil=>simp[fG,fE,vN,pFresh,jZ,d1,d2]
  |cons e t=>
   by_cases he:jZ e
   case neg=>
    have he':¬(48<=e.toNat/\e.toNat<=57):=he;by_cases h0:d.toNat=48
    ·have:¬(49<=d.toNat/\d.toNat<=57):=by omega
     simp[fG,fE,vN,pFresh,jZ,d1,d2,he',this,h0,oE]
    ·have hm:bP (c.toNat-65:Int) ((0*10+(d.toNat-48):Nat):Int)=c::d::[59]:=by
      rw[uU h1 h2 (by omega) (by omega),tA (by omega),Nat.zero_mul,qr,nM (by omega) (by omega)];rfl
     have h49:49<=d.toNat:=by omega
     by_cases e59:e=59
     ·subst e59;simp only[fG,jZ,d1,d2,List.drop_succ_cons,kw,and_self,js,he',ql];unfold fE;rw[hm];simp[vN,pFresh,h1,h2,h49,d2];omega
     ·simp only[fG,jZ,d1,d2,List.drop_succ_cons,kw,and_self,js,he',ql];unfold fE;simp[vN,pFresh,h1,h2,h49,d2,e59,he']
   obtain⟨e1,e2⟩:=he;have ene:=dne e ⟨e1,e2⟩;cases t with
   |nil=>
    simp[fG,fE,vN,pFresh,jZ,d1,d2,e1,e2,ene]
   |cons f t=>
    by_cases hf:jZ f
    case neg=>
     have hf':¬(48<=f.toNat/\f.toNat<=57):=hf;have num:0*10+(d.toNat-48)=d.toNat-48:=by omega
     simp only[fG,jZ,d1,d2,e1,e2,hf',List.drop_succ_cons,kw,and_self,js,ql,num];unfold fE;by_cases f59:f=59
     ·subst f59;by_cases h0:d.toNat=48
      ·have:¬(49<=d.toNat/\d.toNat<=57):=by omega
       have hne:bP (c.toNat-65:Int) (((d.toNat-48)*10+(e.toNat-48):Nat):Int)≠List.take (2+1+1) (c::d::e::59::t):=by
        by_cases z:e.toNat=48
        ·have:((d.toNat-48)*10+(e.toNat-48):Nat)=0:=by omega
         rw[this];simp[oE]
        ·rw[uU h1 h2 (by omega) (by omega),tA (by omega)];simp
       rw[jb (fun x=>hne x.2)]
       simp[vN,pFresh,this]
      ·have hm:bP (c.toNat-65:Int) (((d.toNat-48)*10+(e.toNat-48):Nat):Int)=c::d::e::[59]:=by
        have q1:((d.toNat-48)*10+(e.toNat-48))/10=d.toNat-48:=by omega
        have q2:((d.toNat-48)*10+(e.toNat-48))%10=e.toNat-48:=by omega
        rw[uU h1 h2 (by omega) (by omega),AN (by omega) (by omega),q1,q2,nM (by omega) (by omega),nM (by omega) (by omega)];rfl
       have h49:49<=d.toNat:=by omega
       rw[hm];simp[vN,pFresh,h1,h2,h49,d2,e1,e2,ene];omega
     ·have:(List.drop (2+1) (c::d::e::f::t)).head?≠some 59:=by simpa using f59
      rw[jb (fun x=>this x.1)]
      simp only[vN,pFresh];by_cases h49:49<=d.toNat
      ·simp[h1,h2,h49,d2,e1,e2,ene,f59]
      ·have:¬(49<=d.toNat/\d.toNat<=57):=by omega
       simp[this]
    obtain⟨f1,f2⟩:=hf;have fne:=dne f ⟨f1,f2⟩;have num:0*10+(d.toNat-48)=d.toNat-48:=by omega
    simp only[fG,jZ,d1,d2,e1,e2,f1,f2,List.drop_succ_cons,kw,and_self,js,num];have hne:bP (c.toNat-65:Int) ((((d.toNat-48)*10+(e.toNat-48))*10+(f.toNat-48):Nat):Int)≠List.take (1+1+1+1+1) (c::d::e::f::t)\/(List.drop (1+1+1+1) (c::d::e::f::t)).head?≠some 59:=by
     cases t with
     |nil=>right;simp
     |cons g t=>
      by_cases g59:g=59
      ·left;by_cases big:99< ((d.toNat-48)*10+(e.toNat-48))*10+(f.toNat-48)
       ·rw[PA (by omega)];simp
       ·by_cases z:((d.toNat-48)*10+(e.toNat-48))*10+(f.toNat-48)=0
        ·rw[z];simp[oE]
        ·rw[uU h1 h2 (by omega) (by omega)]
         intro x;have:=vg List.length x;by_cases s:((d.toNat-48)*10+(e.toNat-48))*10+(f.toNat-48)<=9
         ·rw[tA s]at this;simp at this
         ·rw[AN (by omega) (by omega)]at this;simp at this
      ·right;simpa using g59
    unfold fE;rw[jb (fun x=>hne.elim (fun y=>y x.2) (fun y=>y x.1))]
    simp only[vN,pFresh];by_cases h49:49<=d.toNat
    ·simp[h1,h2,h49,d2,e1,e2,ene,fne]
    ·have:¬(49<=d.toNat/\d.toNat<=57):=by omega
     simp[this]
theorem YM(s:S)(p:Nat)(hp:p<s.length):(if 65<=(ix s p).toNat/\(ix s p).toNat<=72 then oD s p 3 (p+1) 0 else 0)=vN (s.drop p) (pFresh (s.drop p)):=by
 have hd:=cO s p hp;have hq:s=s.take p++s.drop p:=(List.take_append_drop p s).symm;have hl:(s.take p).length=p:=by simp;omega
 generalize ix s p=c at hd⊢;by_cases h:65<=c.toNat/\c.toNat<=72
 ·rw[jd h];have:=BZ (s.take p) (s.drop p) c _ hd 3 1 0;rw[hl,<-hq]at this;rw[this,hd];exact YL c _ h.1 h.2
 ·rw[jb h,hd];cases s.drop (p+1)with
  |nil=>rfl
  |cons d t=>simp only[pFresh];rw[jb (fun x=>h x.1)];rfl
end Kw
namespace Kw
def psz(u:S):Nat:=match pars u with|some (x,_)=>x.str.length|none=>0
theorem PB(u:S):vN u (pFresh u)=match pFresh u with|some (x,_)=>(x.str.length:Int)|none=>0:=by
 unfold vN;cases e:pFresh u with
 |none=>rfl
 |some x=>
  obtain⟨t,r⟩:=x;obtain⟨_,h⟩:=xZ e;simp only;rw[h];simp
theorem mF{u:S}{x:Sec}{r:S}(h:pars u=some (x,r)):psz u=x.str.length/\u.drop (psz u)=r/\u.take (psz u)=x.str/\0<psz u/\psz u<=u.length:=by
 have e:psz u=x.str.length:=by unfold psz;rw[h]
 obtain⟨_,hs⟩:=f7 h;refine⟨e,?_,?_,?_,?_⟩
 ·rw[e,hs];simp
 ·rw[e,hs];simp
 ·rw[e];exact x.str_pos
 ·rw[e,hs];simp
theorem nP{u:S}(h:pars u=none):psz u=0:=by unfold psz;rw[h]
theorem PC(u:S):psz u<=u.length:=by
 cases e:pars u with
 |none=>rw[nP e];omega
 |some x=>exact(mF (x:=x.1) (r:=x.2) e).2.2.2.2
theorem cR(c:UInt8)(t:S):pars (c::t)=
 if c=110 then(match pars t with|some (x,r)=>some (.next x,r)|none=>none)
 else if c=107 then(match pars t with|some (x,r)=>some (.key x,r)|none=>none)
 else if c=109 then(match t with
  |[]=>none
  |w::t=>if 65<=w.toNat/\w.toNat<=72 then(match pars t with|some (x,r)=>some (.say (w.toNat-65) x,r)|none=>none)else none)
 else if c=114 then(match t with
  |[]=>none
  |w::t=>if 49<=w.toNat/\w.toNat<=57 then(match pars t with|some (x,r)=>some (.room (w.toNat-48) x,r)|none=>none)else none)
 else if c=101 then(match pars t with
  |some (x,r)=>(match pars r with|some (y,r)=>some (.epoch x y,r)|none=>none)
  |none=>none)
 else pFresh (c::t):=by
 have e:pars (c::t)=e7 (t.length+1+1) (c::t):=rfl;rw[e]
 conv=>lhs;unfold e7
 have e1:e7 (t.length+1) t=pars t:=rfl;rw[e1];split
 ·rfl
 split
 ·rfl
 split
 ·cases t with
  |nil=>rfl
  |cons w t=>
   simp only;rw[KD (n:=(w::t).length+1) (s:=t) (by simp;omega)]
   all_goals rfl
 split
 ·cases t with
  |nil=>rfl
  |cons w t=>
   simp only;rw[KD (n:=(w::t).length+1) (s:=t) (by simp;omega)]
   all_goals rfl
 split
 ·cases e2:pars t with
  |none=>rfl
  |some x=>
   obtain⟨x,r⟩:=x;obtain⟨_,hs⟩:=f7 e2;simp only;rw[KD (n:=t.length+1) (s:=r) (by rw[hs];simp;omega)]
   try rfl
 ·rfl
theorem ajI{c:UInt8}{t:S}(h:c=110\/c=107):psz (c::t)=if psz t=0 then 0 else 1+psz t:=by
 cases e:pars t with
 |none=>
  rw[nP e,jd rfl];unfold psz;rw[cR,e];rcases h with h|h<;>subst h<;>simp
 |some x=>
  obtain⟨x,r⟩:=x;have hp:=mF e;rw[jb (by omega),hp.1]
  unfold psz;rw[cR,e];rcases h with h|h<;>subst h<;>simp[Sec.str]<;>omega
theorem alW{w:UInt8}{t:S}(h:65<=w.toNat/\w.toNat<=72):psz (109::w::t)=if psz t=0 then 0 else 2+psz t:=by
 cases e:pars t with
 |none=>
  rw[nP e,jd rfl];unfold psz;rw[cR,jb (by decide),jb (by decide),jd rfl]
  simp only;rw[jd h,e]
 |some x=>
  obtain⟨x,r⟩:=x;have hp:=mF e;rw[jb (by omega),hp.1]
  unfold psz;rw[cR,jb (by decide),jb (by decide),jd rfl]
  simp only;rw[jd h,e];simp[Sec.str];omega
theorem adV{t:S}(h:∀w u,t=w::u->¬(65<=w.toNat/\w.toNat<=72)):psz (109::t)=0:=by
 unfold psz;rw[cR,jb (by decide),jb (by decide),jd rfl]
 cases t with
 |nil=>rfl
 |cons w u=>simp only;rw[jb (h w u rfl)]
theorem alX{w:UInt8}{t:S}(h:49<=w.toNat/\w.toNat<=57):psz (114::w::t)=if psz t=0 then 0 else 2+psz t:=by
 cases e:pars t with
 |none=>
  rw[nP e,jd rfl];unfold psz;rw[cR,jb (by decide),jb (by decide),jb (by decide),jd rfl]
  simp only;rw[jd h,e]
 |some x=>
  obtain⟨x,r⟩:=x;have hp:=mF e;rw[jb (by omega),hp.1]
  unfold psz;rw[cR,jb (by decide),jb (by decide),jb (by decide),jd rfl]
  simp only;rw[jd h,e];simp[Sec.str];omega
theorem adW{t:S}(h:∀w u,t=w::u->¬(49<=w.toNat/\w.toNat<=57)):psz (114::t)=0:=by
 unfold psz;rw[cR,jb (by decide),jb (by decide),jb (by decide),jd rfl]
 cases t with
 |nil=>rfl
 |cons w u=>simp only;rw[jb (h w u rfl)]
theorem alY{t:S}:psz (101::t)=if psz t=0 then 0 else if psz (t.drop (psz t))=0 then 0 else 1+psz t+psz (t.drop (psz t)):=by
 cases e:pars t with
 |none=>
  rw[nP e,jd rfl];unfold psz;rw[cR,jb (by decide),jb (by decide),jb (by decide),jb (by decide),jd rfl,e]
 |some x=>
  obtain⟨x,r⟩:=x;have hp:=mF e;rw[jb (by omega),hp.2.1]
  cases e2:pars r with
  |none=>
   rw[nP e2,jd rfl];unfold psz;rw[cR,jb (by decide),jb (by decide),jb (by decide),jb (by decide),jd rfl,e]
   simp only;rw[e2]
  |some y=>
   obtain⟨y,r'⟩:=y;have hq:=mF e2;rw[jb (by omega),hp.1,hq.1]
   unfold psz;rw[cR,jb (by decide),jb (by decide),jb (by decide),jb (by decide),jd rfl,e]
   simp only;rw[e2];simp[Sec.str];omega
theorem alZ{c:UInt8}{t:S}(h:c≠110/\c≠107/\c≠109/\c≠114/\c≠101):(psz (c::t):Int)=vN (c::t) (pFresh (c::t)):=by
 rw[PB];unfold psz;rw[cR,jb h.1,jb h.2.1,jb h.2.2.1,jb h.2.2.2.1,jb h.2.2.2.2];cases pFresh (c::t)<;>rfl
theorem UD(s:S):secOk s=decide (s≠[]/\s.length<=300/\psz s=s.length):=by
 unfold secOk sec;by_cases h:s.length<=300
 ·rw[jd h];unfold pnt;cases e:pars s with
  |none=>
   have:=nP e;cases s with
   |nil=>simp
   |cons c t=>simp[this]
  |some x=>
   obtain⟨x,r⟩:=x;have hp:=mF e;obtain⟨_,hs⟩:=f7 e;have hl:s.length=x.str.length+r.length:=by rw[hs];simp
   cases r with
   |nil=>
    have:s≠[]:=fun e=>by rw[e]at hp;simp at hp;omega
    have h2:psz s=s.length:=by rw[hp.1,hl];simp
    simp[this,h,h2]
   |cons a r=>
    have h2:psz s≠s.length:=by rw[hp.1,hl];simp
    simp[h2]
 ·rw[jb h];simp[h]
end Kw
namespace Kw
def treLeaf(w:Int):Int:=if aR w then 7+w else-1
def ups(i:Nat):List Int:=if h:i=0 then[]else(((i-1)/2:Nat):Int)::ups ((i-1)/2)
def fN(n:Int):Prop:=0<=n/\n<=14
instance(w:Int):Decidable (fN w):=inferInstanceAs (Decidable (_/\_))
def cF(n:Int):List Int:=if fN n then ups n.toNat else[]
def cC(n:Int):Int:=if 1<=n/\n<=14 then(if n%2=1 then n+1 else n-1)else-1
def meetN:Nat->Nat->Nat->Nat
 |0,a,_=>a
 |f+1,a,b=>if a=b then a else if b<a then meetN f ((a-1)/2) b else meetN f a ((b-1)/2)
def treMeet(a b:Int):Int:=if fN a/\fN b then(meetN 30 a.toNat b.toNat:Nat)else-1
def treOk(keys:List S):Bool:=decide (keys.length=15)&&keys.all fun k=>decide (k=[])||isKey k
def treNew:List S:=List.replicate 15 []
def coverN:Nat->List S->Nat->List Int
 |0,_,_=>[]
 |f+1,ks,n=>if ix ks n≠[]then[(n:Int)]else if 7<=n then[]else coverN f ks (2*n+1)++coverN f ks (2*n+2)
def kA(ks:List S)(n:Int):List Int:=coverN 5 ks n.toNat
def pathOf(w:Int):List Int:=treLeaf w::cF (treLeaf w)
def clr(ks:List S)(w:Int):List S:=(pathOf w).foldl (fun ks n=>ks.set n.toNat []) ks
def lM:List Int->S->List S->List S
 |[],_,ks=>ks
 |n::ns,s,ks=>lM ns (makNext s) (ks.set n.toNat (makKey s))
def vO(ks:List S)(w:Int)(s:S):List S:=lM (pathOf w) s ks
def eB(own:List Own)(n:Int):S:=match own.find? (fun o=>o.node==n)with|some o=>o.sec|none=>[]
def pathGo:List Int->S->List Own
 |[],_=>[]
 |n::ns,s=>⟨n,s⟩::pathGo ns (makNext s)
def cD(n:Int)(s:S):List Own:=pathGo (n::cF n) s
def mM(m:Member)(k:Nat):Bool:=
 decide ((ix m.own k).node∈pathOf m.who)&&(secOk (ix m.own k).sec&&(decide (ix m.keys (ix m.own k).node≠[])&&(decide (ix m.keys (ix m.own k).node=makKey (ix m.own k).sec)&&decide (eB (m.own.take k) (ix m.own k).node=[]))))
def fitsAll(m:Member):Bool:=(List.range m.own.length).all (mM m)
def tB(m:Member):Bool:=((pathOf m.who).all fun n=>decide (ix m.keys n=[])||decide (eB m.own n≠[]))&&decide (ix m.keys (treLeaf m.who)≠[])
def memOk(m:Member):Bool:=
 if m.inn=false then decide (m.who=0/\m.keys=[]/\m.own=[]/\m.epoch=0/\m.init=[]/\m.tag=[])
 else decide (aR m.who)&&(treOk m.keys&&(fitsAll m&&(tB m&&(decide (0<=m.epoch/\m.epoch<=12)&&(secOk m.init&&decide (m.tag.length<=300))))))
def cI:Member:=⟨false,0,[],[],0,[],[]⟩
def fH(w:Int)(leaf init:S):Member:=
 if aR w/\secOk leaf=true/\secOk init=true/\leaf.length<=292 then⟨true,w,vO treNew w leaf,cD (treLeaf w) leaf,0,init,[]⟩else cI
def fW(m:Member):List S:=if memOk m=true/\m.inn=true then m.own.map (·.sec)++[m.init]else[]
def baseT(ks:List S)(add remove:Int)(leaf:S):List S:=
 let ks:=if 0<=remove then clr ks remove else ks
 if 0<=add then(clr ks add).set (treLeaf add).toNat leaf else ks
def cN(n who:Int):Prop:= -1<=n/\n<=7/\n≠who
instance(a b:Int):Decidable (cN a b):=inferInstanceAs (Decidable (_/\_/\_))
def hasLeaf(ks:List S)(w:Int):Bool:=decide (ix ks (treLeaf w)≠[])
def twoKeys(add:Int)(leaf key:S):Bool:=if add<0 then decide (leaf=[]/\key=[])else isKey leaf&&(isKey key&&decide (leaf≠key))
def changes(ks:List S)(add remove:Int):Bool:=(decide (remove<0)||hasLeaf ks remove)&&(decide (add<0)||(!hasLeaf ks add||decide (add=remove)))
def may(m:Member)(add remove:Int)(leaf key:S):Bool:=
 m.inn&&(decide (m.epoch<12/\cN add m.who/\cN remove m.who)&&(changes m.keys add remove&&twoKeys add leaf key))
def cL(ks:List S)(add:Int)(sec:S)(cov:List Int):List Box:=(cov.filter fun n=>decide (add<0\/n≠treLeaf add)).map fun n=>⟨ix ks n,sec⟩
def boxesGo(ks:List S)(add:Int):List Own->List Box
 |a::b::r=>cL ks add b.sec (kA ks (cC a.node))++boxesGo ks add (b::r)
 |_=>[]
def o9:Commit:=⟨0,[],[],0,0,[],[],[],[],[],[],[],[]⟩
def jL(m:Member)(fresh:S)(add remove:Int)(leaf _key:S):Member:=
 let own:=cD (treLeaf m.who) fresh
 ⟨true,m.who,vO (baseT m.keys add remove leaf) m.who fresh,own,m.epoch+1,eH m.init (makNext (ix own (own.length-1)).sec),m.tag++fresh⟩
def lZ(m:Member)(fresh:S)(add remove:Int)(leaf key:S):Commit:=
 let base:=baseT m.keys add remove leaf
 let own:=cD (treLeaf m.who) fresh
 let x:=jL m fresh add remove leaf key
 let w:=if 0<=add then(key,key,x.init,key,eB x.own (treMeet (treLeaf add) (treLeaf m.who)))else([],[],[],[],[])
 ⟨m.who,m.tag,fresh,add,remove,leaf,x.keys,boxesGo base add own,w.1,w.2.1,w.2.2.1,w.2.2.2.1,w.2.2.2.2⟩
def cT(m:Member)(fresh:S)(add remove:Int)(leaf key:S):Bool:=
 memOk m&&(decide ((bK fresh).op=1)&&(may m add remove leaf key&&(decide (m.tag.length+fresh.length<=300)&&decide (m.init.length<=280))))
def fC(m:Member)(fresh:S)(add remove:Int)(leaf key:S):Option (Member×Commit):=
 if cT m fresh add remove leaf key=true then some (jL m fresh add remove leaf key,lZ m fresh add remove leaf key)else none
def iK(b:List Box):Bool:=decide (b.length<=400)&&b.all fun x=>secOk x.key&&secOk x.sec
def eO(c:Commit):Bool:=
 decide (aR c.sender/\(bK c.name).op=1/\c.tag.length+c.name.length<=300/\cN c.add c.sender/\cN c.remove c.sender)&&(treOk c.keys&&(iK c.boxes&&(decide (c.boxes.length<=20)&&
  (if c.add<0 then decide (c.leaf=[]/\c.wkey=[]/\c.wik=[]/\c.wis=[]/\c.wsk=[]/\c.wss=[])
   else isKey c.leaf&&(isKey c.wkey&&(decide (c.leaf≠c.wkey/\c.wik=c.wkey/\c.wsk=c.wkey)&&(secOk c.wis&&secOk c.wss)))))))
def pA(own:List Own)(k:S):Bool:=own.any fun o=>decide (makKey o.sec=k)
def cX(own:List Own):List Box->S
 |[]=>[]
 |b::r=>if pA own b.key=true then b.sec else cX own r
def rP(ks:List S)(own:List Own):List Own:=own.filter fun o=>decide (ix ks o.node=makKey o.sec)
def gP(ks:List S)(path:List Own):Bool:=path.all fun o=>decide (ix ks o.node=makKey o.sec)
def mT(own path:List Own):List Own:=own.filter fun o=>decide (eB path o.node=[])
def jM(c:List S)(path:List Int)(t:List S):List S:=path.foldl (fun t n=>t.set n.toNat (ix c n)) t
def x6(m:Member)(c:Commit):Bool:=decide (c.keys=jM c.keys (pathOf c.sender) (baseT m.keys c.add c.remove c.leaf))
def pB(m:Member)(c:Commit):Bool:=
 m.inn&&(decide (c.tag=m.tag/\m.epoch<12/\c.sender≠m.who)&&(hasLeaf m.keys c.sender&&(changes m.keys c.add c.remove&&x6 m c)))
def x8(m:Member)(c:Commit)(s:S):Member:=
 let path:=cD (treMeet (treLeaf m.who) (treLeaf c.sender)) s
 ⟨true,m.who,c.keys,rP c.keys (mT m.own path)++path,m.epoch+1,eH m.init (makNext (ix path (path.length-1)).sec),m.tag++c.name⟩
def hearPair(m:Member)(c:Commit):Member×Bool:=
 let s:=cX m.own c.boxes
 if s=[]\/292<s.length then(m,false)else
  if gP c.keys (cD (treMeet (treLeaf m.who) (treLeaf c.sender)) s)=true then(x8 m c s,secOk (x8 m c s).init)else(m,false)
def f8(m:Member)(c:Commit):Member×Bool:=
 if memOk m=true/\eO c=true then
  if pB m c=true then
   if c.remove=m.who then(cI,true)else
    if(hearPair m c).2=true then((hearPair m c).1,true)else(m,false)
  else(m,false)
 else(cI,false)
def count(s:S):Nat:=(s.filter (·==59)).length
def rQ(w:Int)(leaf:S)(c:Commit):Member:=
 ⟨true,w,c.keys,⟨treLeaf w,leaf⟩::cD (treMeet (treLeaf w) (treLeaf c.sender)) c.wss,count c.tag+1,c.wis,c.tag++c.name⟩
def iL(w:Int)(leaf key:S)(c:Commit):Option Member:=
 if eO c=true/\0<=c.add/\c.add=w/\secOk leaf=true/\secOk key=true/\makKey leaf=c.leaf/\makKey key=c.wkey/\c.wss.length<=292/\memOk (rQ w leaf c)=true then some (rQ w leaf c)else none
def l7(s:S):Bool:=decide (s.length<=8)&&s.all fun b=>decide (97<=b.toNat/\b.toNat<=122)
def fraOk(f:Frame):Bool:=decide (aR f.src/\(bK f.key).op=5/\(bK f.key).who=f.src/\1<=f.n/\f.n<=999)&&l7 f.text
def jN(m:Member)(n:Int)(text:S):Option Frame:=
 if memOk m=true/\m.inn=true/\1<=n/\n<=999/\l7 text=true/\eE m.init m.who≠[]then some ⟨m.who,eE m.init m.who,n,text⟩else none
def winOk(w:Win):Bool:=
 decide ((bK w.key).op=5/\1<=w.top/\w.top<=999/\w.seen≠[]/\ix w.seen 0=w.top)&&((List.range w.seen.length).all fun k=>decide (k=0\/(ix w.seen k<ix w.seen (k-1:Nat)/\w.top-8<ix w.seen k/\1<=ix w.seen k)))
def seenGo(n top:Int):List Int->Bool->List Int
 |[],d=>if d then[]else[n]
 |x::r,d=>(if d=false/\x<n then[n]else[])++(if top-8<x then[x]else[])++seenGo n top r (d||decide (x<n))
def winTake(w:Win)(n:Int):Option Win:=
 if n<=w.top-8\/n∈w.seen then none else some ⟨w.key,max w.top n,seenGo n (max w.top n) w.seen false⟩
def winAt:List Win->S->Nat->Int
 |[],_,_=> -1
 |w::r,key,k=>if w.key=key then k else winAt r key (k+1)
def tC(m:Member)(f:Frame):Bool:=m.inn&&(fraOk f&&(decide (f.src≠m.who)&&(hasLeaf m.keys f.src&&decide (f.key=eE m.init f.src))))
def mN(m:Member)(wins:List Win)(f:Frame):Option (List Win):=
 if tC m f=true then
  let k:=winAt wins f.key 0
  if k<0 then some (wins++[⟨f.key,f.n,[f.n]⟩])else
   match winTake (ix wins k) f.n with
   |some x=>some (wins.set k.toNat x)
   |none=>none
 else none
def acJ:World:=⟨[],[],[],[],[],[],[],[],[],[]⟩
def cP(w:Int):World:=
 if aR w then
  ⟨(List.range 8).map fun(k:Nat)=>if(k:Int)=w then fH w (bP w 1) (bP w 2)else cI,[],[],
   (List.range 8).map fun(k:Nat)=>if(k:Int)=w then 2 else 0,[],[],[],List.replicate 8 0,List.replicate 8 [],[]⟩
 else acJ
def eI{A:Type}(l:List A)(i:Int)(x:A):List A:=l.set i.toNat x
def commitEnd(w:World)(e:Event)(lf ky:S):World:=
 match fC (ix w.seats e.who) (bP e.who (ix w.fresh e.who+1)) e.add e.remove (makKey lf) (makKey ky)with
 |none=>w
 |some (m,c)=>
  {w with seats:=eI w.seats e.who m,log:=w.log++[c],fresh:=if 0<=e.add then eI (eI w.fresh e.who (ix w.fresh e.who+1)) e.add (ix (eI w.fresh e.who (ix w.fresh e.who+1)) e.add+2)else eI w.fresh e.who (ix w.fresh e.who+1),
          waits:=if 0<=e.add then w.waits++[⟨e.add,w.log.length,lf,ky⟩]else w.waits}
def cU(w:World)(e:Event):World:=
 if w.log.length=16\/99<=ix w.fresh e.who\/¬(-1<=e.add/\e.add<=7)\/(0<=e.add/\98<=ix w.fresh e.add)then w else
  if 0<=e.add then commitEnd w e (bP e.add (ix w.fresh e.add+1)) (bP e.add (ix w.fresh e.add+2))else commitEnd w e [] []
def eR(w:World)(who pos:Int):World:=
 let r:=f8 (ix w.seats who) (ix w.log pos)
 if r.2=true then{w with seats:=eI w.seats who r.1}else w
def joinGo(w:World)(who pos:Int):List Wait->Nat->World
 |[],_=>w
 |x::r,k=>if x.who=who/\x.pos=pos then
   (match iL who x.leaf x.key (ix w.log pos)with
    |some m=>{w with seats:=eI w.seats who m,waits:=w.waits.eraseIdx k}
    |none=>joinGo w who pos r (k+1))
  else joinGo w who pos r (k+1)
def d8(w:World)(who pos:Int):World:=if(ix w.seats who).inn=true then w else joinGo w who pos w.waits 0
def dP(w:World)(who:Int):World:=
 if(ix w.seats who).inn=false\/w.stolen.length=12 then w else{w with spy:=w.spy++fW (ix w.seats who),stolen:=w.stolen++[⟨who,(ix w.seats who).tag⟩]}
def fJ(w:World)(who:Int)(text:S):World:=
 if w.frames.length=40\/ix w.said who=999 then w else
  match jN (ix w.seats who) (ix w.said who+1) text with
  |some f=>{w with frames:=w.frames++[f],said:=eI w.said who (ix w.said who+1)}
  |none=>w
def fX(w:World)(who pos:Int):World:=
 if w.told.length=320 then w else
  match mN (ix w.seats who) (ix w.wins who) (ix w.frames pos)with
  |some x=>{w with wins:=eI w.wins who x,told:=w.told++[⟨who,pos⟩]}
  |none=>w
def step(w:World)(e:Event):World:=
 if aR e.who then
  if e.kind=1 then cU w e
  else if e.kind=4 then dP w e.who
  else if e.kind=5 then fJ w e.who e.text
  else if e.kind=2 then(if 0<=e.pos/\e.pos<w.log.length then eR w e.who e.pos else w)
  else if e.kind=3 then(if 0<=e.pos/\e.pos<w.log.length then d8 w e.who e.pos else w)
  else if e.kind=6 then(if 0<=e.pos/\e.pos<w.frames.length then fX w e.who e.pos else w)
  else w
 else w
end Kw
namespace Kw
open Go
def KE:S:=[99,111,109,109,105,116]
def E3:S:=[104,101,97,114]
def E4:S:=[106,111,105,110]
def PD:S:=[115,116,101,97,108]
def E5:S:=[115,97,121]
def af0:S:=[103,101,116]
def af1:S:=[97,100,100]
def R5:S:=[114,101,109,111,118,101]
def isW(w:Int):Bool:=decide (0<=w)&&decide (w<=7)
def ltr(w:Int):S:=[(65+w).toNat.toUInt8]
def low:S->Bool
 |[]=>true
 |c::r=>decide (97<=c.toNat)&&(decide (c.toNat<=122)&&low r)
def frT(s:S):Bool:=decide (s.length<=8)&&low s
def CO(n:Int):S:=if n<10 then[(48+n).toNat.toUInt8]else[(48+n/10).toNat.toUInt8,(48+n%10).toNat.toUInt8]
def txt(e:Event):S:=
 if isW e.who=false then[]else
 if e.kind=1 then KE++32::ltr e.who++(if isW e.add then 32::af1++32::ltr e.add else[])++(if isW e.remove then 32::R5++32::ltr e.remove else[])else
 if e.kind=4 then PD++32::ltr e.who else
 if e.kind=5 then(if frT e.text then E5++32::ltr e.who++32::e.text else[])else
 if e.kind=2\/e.kind=3\/e.kind=6 then(if 0<=e.pos/\e.pos<=99 then(if e.kind=2 then E3 else if e.kind=3 then E4 else af0)++32::ltr e.who++32::CO e.pos else[])else[]
def x9:S->Int
 |[]=> -1
 |c::_=>if isW ((c.toNat:Int)-65)then(c.toNat:Int)-65 else-1
def B0(s:S):Int:=if s=KE then 1 else if s=E3 then 2 else if s=E4 then 3 else if s=PD then 4 else if s=E5 then 5 else if s=af0 then 6 else 0
def E6(s:S):Int:=match Lib.atoiAll s with| .ok v=>v| .range=>Lib.atoiSat s|_=>0
def qR:List S->Int->Int->Int×Int
 |a::b::r,x,y=>if a=af1 then qR r (x9 b) y else qR r x (x9 b)
 |_,x,y=>(x,y)
def UE(w0 w1:S)(rest:List S):Event:=
 let k:=B0 w0
 if k=1 then⟨1,x9 w1,(qR rest (-1) (-1)).1,(qR rest (-1) (-1)).2,0,[]⟩
 else if k=2\/k=3\/k=6 then⟨k,x9 w1,0,0,(match rest with|[a]=>E6 a|_=>0),[]⟩
 else if k=5 then⟨k,x9 w1,0,0,0,(match rest with|[a]=>a|_=>[])⟩
 else⟨k,x9 w1,0,0,0,[]⟩
def UF(s:S):Option Event:=
 match spl [] s with
 |w0::w1::rest=>if 30<s.length\/B0 w0=0 then none else if txt (UE w0 w1 rest)=s then some (UE w0 w1 rest)else none
 |_=>none
def yA:S->Int
 |[c]=>if isW ((c.toNat:Int)-65)then(c.toNat:Int)-65 else-1
 |_=> -1
def yB:List S->Int->Int->Option (Int×Int)
 |a::b::r,x,y=>if a=af1/\x<0/\y<0/\0<=yA b then yB r (yA b) y else if a=R5/\y<0/\0<=yA b then yB r x (yA b)else none
 |[],x,y=>some (x,y)
 |[_],_,_=>none
def dig(c:UInt8):Bool:=decide (48<=c.toNat)&&decide (c.toNat<=57)
def am0:S->Int
 |[a]=>if dig a then(a.toNat:Int)-48 else-1
 |[a,b]=>if dig a/\dig b then(if CO (((a.toNat:Int)-48)*10+((b.toNat:Int)-48))=[a,b]then((a.toNat:Int)-48)*10+((b.toNat:Int)-48)else-1)else-1
 |_=> -1
def acK(w0 w1:S)(rest:List S):Option Event:=
 if yA w1<0 then none else
 if w0=KE then(match yB rest (-1) (-1)with|some (x,y)=>some ⟨1,yA w1,x,y,0,[]⟩|none=>none)else
 if w0=PD then(if rest=[]then some ⟨4,yA w1,0,0,0,[]⟩else none)else
 if w0=E5 then(match rest with|[a]=>some ⟨5,yA w1,0,0,0,a⟩|_=>none)else
 if w0=E3\/w0=E4\/w0=af0 then(match rest with|[a]=>some ⟨if w0=E3 then 2 else if w0=E4 then 3 else 6,yA w1,0,0,am0 a,[]⟩|_=>none)else
 some ⟨0,yA w1,0,0,0,[]⟩
def UG(s:S):Option Event:=
 match spl [] s with
 |w0::w1::rest=>if 30<s.length then none else(match acK w0 w1 rest with|some e=>if txt e=s then some e else none|none=>none)
 |_=>none
def can(e:Event):Prop:=isW e.who=true/\
 ((e.kind=1/\(-1<=e.add/\e.add<=7)/\(-1<=e.remove/\e.remove<=7)/\e.pos=0/\e.text=[])\/
  ((e.kind=2\/e.kind=3\/e.kind=6)/\e.add=0/\e.remove=0/\(0<=e.pos/\e.pos<=99)/\e.text=[])\/
  (e.kind=4/\e.add=0/\e.remove=0/\e.pos=0/\e.text=[])\/
  (e.kind=5/\e.add=0/\e.remove=0/\e.pos=0/\frT e.text=true))
theorem isW_iff{w:Int}:isW w=true↔0<=w/\w<=7:=by simp[isW]
theorem MO(s:S): -1<=x9 s/\x9 s<=7:=by
 unfold x9;split
 ·omega
 ·split
  ·rename_i h;rw[isW_iff]at h;omega
  ·omega
theorem MP(s:S): -1<=yA s/\yA s<=7:=by
 unfold yA;split
 ·split
  ·rename_i h;rw[isW_iff]at h;omega
  ·omega
 ·omega
theorem wM:∀(l:List S) (x y:Int),(-1<=x/\x<=7)->(-1<=y/\y<=7)->(-1<=(qR l x y).1/\(qR l x y).1<=7)/\(-1<=(qR l x y).2/\(qR l x y).2<=7)
 |[],x,y,hx,hy=>⟨hx,hy⟩
 |[_],x,y,hx,hy=>⟨hx,hy⟩
 |a::b::r,x,y,hx,hy=>by
  unfold qR;split
  ·exact wM r _ _ (MO b) hy
  ·exact wM r _ _ hx (MO b)
theorem tD:∀(l:List S) (x y:Int) (p:Int×Int),(-1<=x/\x<=7)->(-1<=y/\y<=7)->yB l x y=some p->(-1<=p.1/\p.1<=7)/\(-1<=p.2/\p.2<=7)
 |[],x,y,p,hx,hy,h=>by cases h;exact⟨hx,hy⟩
 |[_],x,y,p,hx,hy,h=>by cases h
 |a::b::r,x,y,p,hx,hy,h=>by
  unfold yB at h;split at h
  ·exact tD r _ _ p (MP b) hy h
  ·split at h
   ·exact tD r _ _ p hx (MP b) h
   ·cases h
theorem R6{e:Event}(h:txt e≠[])(hk:e.kind=2\/e.kind=3\/e.kind=6):0<=e.pos/\e.pos<=99:=by
 unfold txt at h;split at h
 ·exact absurd rfl h
 ·have n1:¬e.kind=1:=by omega
  have n4:¬e.kind=4:=by omega
  have n5:¬e.kind=5:=by omega
  rw[jb n1,jb n4,jb n5]at h;split at h
  ·assumption
  ·exact absurd rfl h
theorem YN{e:Event}(h:txt e≠[])(hk:e.kind=5):frT e.text=true:=by
 unfold txt at h;split at h
 ·exact absurd rfl h
 ·have n1:¬e.kind=1:=by omega
  have n4:¬e.kind=4:=by omega
  rw[jb n1,jb n4]at h;split at h
  ·assumption
  ·exact absurd rfl h
theorem R7{e:Event}(h:txt e≠[]):isW e.who=true:=by
 unfold txt at h;split at h
 ·exact absurd rfl h
 ·rename_i h';simpa using h'
theorem YO{e:Event}(h:txt e≠[]):1<=e.kind/\e.kind<=6:=by
 unfold txt at h;split at h
 ·exact absurd rfl h
 ·split at h
  ·omega
  ·split at h
   ·omega
   ·split at h
    ·omega
    ·split at h
     ·omega
     ·exact absurd rfl h
theorem UH(s:S):0<=B0 s/\B0 s<=6:=by
 unfold B0
 repeat' split
 all_goals omega
theorem R8{s w0 w1:S}{rest:List S}(h:spl [] s=w0::w1::rest):s≠[]:=fun e=>by
 subst e;simp[spl]at h
theorem YP{s:S}{e:Event}(h:UF s=some e):can e/\txt e=s/\s.length<=30:=by
 unfold UF at h;split at h
 case h_2=>cases h
 rename_i w0 w1 rest hs;split at h
 ·cases h
 rename_i hc;split at h
 case isFalse=>cases h
 rename_i ht;cases h;have hne:txt (UE w0 w1 rest)≠[]:=by rw[ht];exact R8 hs
 refine⟨⟨R7 hne,?_⟩,ht,by omega⟩
 have hk:=UH w0;have hp:=R6 hne;have hf:=YN hne;revert hp hf;unfold UE;simp only;split
 ·intro _ _;have hr:=wM rest (-1) (-1) (by omega) (by omega)
  exact .inl ⟨rfl,hr.1,hr.2,rfl,rfl⟩
 ·split
  ·rename_i h1;intro hp _;exact .inr (.inl ⟨h1,rfl,rfl,hp h1,rfl⟩)
  ·split
   ·rename_i h1;intro _ hf;exact .inr (.inr (.inr ⟨h1,rfl,rfl,rfl,hf h1⟩))
   ·intro _ _;exact .inr (.inr (.inl ⟨(by show B0 w0=4;omega),rfl,rfl,rfl,rfl⟩))
theorem YQ{s:S}{e:Event}(h:UG s=some e):can e/\txt e=s/\s.length<=30:=by
 unfold UG at h;split at h
 case h_2=>cases h
 rename_i w0 w1 rest hs;split at h
 ·cases h
 rename_i hc;split at h
 case h_2=>cases h
 rename_i e' hr;split at h
 case isFalse=>cases h
 rename_i ht;cases h;have hne:txt e≠[]:=by rw[ht];exact R8 hs
 refine⟨⟨R7 hne,?_⟩,ht,by omega⟩
 have hk:=YO hne;have hp:=R6 hne;have hf:=YN hne;unfold acK at hr;split at hr
 ·cases hr
 split at hr
 ·split at hr
  case h_2=>cases hr
  rename_i x y hq;cases hr;have hr:=tD rest (-1) (-1) _ (by omega) (by omega) hq
  exact .inl ⟨rfl,hr.1,hr.2,rfl,rfl⟩
 split at hr
 ·split at hr
  case isFalse=>cases hr
  cases hr;exact .inr (.inr (.inl ⟨rfl,rfl,rfl,rfl,rfl⟩))
 split at hr
 ·split at hr
  case h_2=>cases hr
  cases hr;exact .inr (.inr (.inr ⟨rfl,rfl,rfl,rfl,hf rfl⟩))
 split at hr
 ·split at hr
  case h_2=>cases hr
  rename_i a;cases hr;have h6:(if w0=E3 then(2:Int)else if w0=E4 then 3 else 6)=2\/(if w0=E3 then(2:Int)else if w0=E4 then 3 else 6)=3\/(if w0=E3 then(2:Int)else if w0=E4 then 3 else 6)=6:=by
   split
   ·exact .inl rfl
   ·split
    ·exact .inr (.inl rfl)
    ·exact .inr (.inr rfl)
  exact .inr (.inl ⟨h6,rfl,rfl,hp h6,rfl⟩)
 ·cases hr;simp only at hk;omega
def GP(e:Event):Prop:=(txt e).length<=30->UF (txt e)=some e/\UG (txt e)=some e
theorem ajJ{a b:Event}:(a.kind=b.kind/\a.who=b.who/\a.add=b.add/\a.remove=b.remove/\a.pos=b.pos/\a.text=b.text)↔a=b:=by
 cases a;cases b;rw[Event.mk.injEq]
instance evDec:DecidableEq Event:=fun _ _=>decidable_of_iff _ ajJ
instance bothDec(e:Event):Decidable (GP e):=by unfold GP;infer_instance
set_option maxRecDepth 100000 in
theorem PE:∀w:Fin 8,GP ⟨4,(w.val:Int),0,0,0,[]⟩:=by decide+kernel
set_option maxRecDepth 100000 in
theorem MQ:∀w:Fin 8,∀a:Fin 9,∀r:Fin 9,GP ⟨1,(w.val:Int),(a.val:Int)-1,(r.val:Int)-1,0,[]⟩:=by decide+kernel
set_option maxRecDepth 100000 in
theorem UI:∀w:Fin 8,∀p:Fin 100,GP ⟨2,(w.val:Int),0,0,(p.val:Int),[]⟩/\GP ⟨3,(w.val:Int),0,0,(p.val:Int),[]⟩/\GP ⟨6,(w.val:Int),0,0,(p.val:Int),[]⟩:=by decide+kernel
theorem YR:∀{s:S},low s=true->32∉s
 |[],_=>by simp
 |c::r,h=>by
  unfold low at h;simp only[jf,ja]at h;intro hm;rcases kh.1 hm with e|e
  ·subst e;simp at h
  ·exact YR h.2.2 e
theorem af2:∀w:Fin 8,(32:UInt8)∉ltr (w.val:Int)/\x9 (ltr (w.val:Int))=w.val/\yA (ltr (w.val:Int))=w.val/\isW (w.val:Int)=true:=by decide+kernel
theorem YS(w:Fin 8)(t:S)(ht:frT t=true):GP ⟨5,(w.val:Int),0,0,0,t⟩:=by
 intro hl;obtain⟨h1,h2,h3,h4⟩:=af2 w;have htl:low t=true:=by unfold frT at ht;simp only[jf]at ht;exact ht.2
 have e0:txt ⟨5,(w.val:Int),0,0,0,t⟩=E5++32::(ltr (w.val:Int)++32::t):=by
  unfold txt;simp[h4,ht]
 have e1:spl [] (E5++32::(ltr (w.val:Int)++32::t))=[E5,ltr (w.val:Int),t]:=by
  rw[EI E5 [] _ (by decide),EI _ [] _ h1,LW t [] (YR htl)];rfl
 have hI:UE E5 (ltr (w.val:Int)) [t]=⟨5,(w.val:Int),0,0,0,t⟩:=by
  unfold UE;have:B0 E5=5:=by decide
  simp[this,h2]
 have hS:acK E5 (ltr (w.val:Int)) [t]=some ⟨5,(w.val:Int),0,0,0,t⟩:=by
  unfold acK;rw[jb (by omega),jb (by decide),jb (by decide),jd rfl,h3]
 rw[e0]at hl⊢;constructor
 ·unfold UF;rw[e1];simp only;have h5:B0 E5=5:=by decide
  rw[jb (by rw[h5];omega),hI,jd e0]
 ·unfold UG;rw[e1];simp only;rw[jb (by omega),hS]
  simp only;rw[jd e0]
theorem E7{n:Nat}{w:Int}(h0:0<=w)(h1:w<n):∃k:Fin n,(k.val:Int)=w:=⟨⟨w.toNat,by omega⟩,by simp;omega⟩
theorem CP{e:Event}(h:can e):GP e:=by
 obtain⟨k,w,a,r,p,t⟩:=e;obtain⟨hw,h⟩:=h;rw[isW_iff]at hw;simp only at hw h;obtain⟨w,rfl⟩:=E7 (n:=8) hw.1 (by omega)
 rcases h with⟨rfl,ha,hr,rfl,rfl⟩|⟨hk,rfl,rfl,hp,rfl⟩|⟨rfl,rfl,rfl,rfl,rfl⟩|⟨rfl,rfl,rfl,rfl,ht⟩
 ·obtain⟨a',ea⟩:=E7 (n:=9) (w:=a+1) (by omega) (by omega)
  obtain⟨r',er⟩:=E7 (n:=9) (w:=r+1) (by omega) (by omega)
  have:=MQ w a' r';rw[ea,er]at this;simpa using this
 ·obtain⟨p',rfl⟩:=E7 (n:=100) hp.1 (by omega)
  obtain⟨h2,h3,h6⟩:=UI w p';rcases hk with rfl|rfl|rfl
  ·exact h2
  ·exact h3
  ·exact h6
 ·exact PE w
 ·exact YS w t ht
theorem ajK(s:S):UF s=UG s:=by
 cases hI:UF s with
 |some e=>
  obtain⟨hc,ht,hl⟩:=YP hI;have:=(CP hc (by rw[ht];exact hl)).2
  rw[ht]at this;exact this.symm
 |none=>
  cases hS:UG s with
  |none=>rfl
  |some e=>
   obtain⟨hc,ht,hl⟩:=YQ hS;have:=(CP hc (by rw[ht];exact hl)).1
   rw[ht,hI]at this;cases this
end Kw
namespace Kw
open Go Go.Proofs
theorem rz0(a:S)(l:List Row):aL 1 (rS a::l) 0=some (rS a):=rfl
theorem rz1(a:Row)(b:S)(l:List Row):aL 1 (a::rS b::l) 1=some (rS b):=rfl
theorem Z9(n:Int):(CO n).length<=2:=by unfold CO;split<;>simp
theorem C9(w:Int):(ltr w).length=1:=rfl
end Kw
namespace Kw
open Go Go.Proofs
section
variable (L D:Nat)
theorem iO(a b c:Int):ev E L (D+1) 25 [.int .i64 a,.int .i64 b,.int .i64 c] []=some (.bool (decide (b<=a)&&decide (a<=c)),[]):=by
 rw[ajY];by_cases h:b<=a<;>simp[h]
theorem oK(a:Int):ev E L (D+2) 35 [.int .i64 a] []=some (.bool (isW a),[]):=by
 rw[ak5];simp only[K1,iO]
 rfl
theorem NI(w:Int)(h:isW w=true):ev E L (D+1) 124 [.int .i64 w] []=some (.str (bs (ltr w)),[]):=by
 rw[isW_iff]at h;rw[afI];have a1:aG .i64 65 w=65+w:=bT (by omega) (by omega)
 have a2:dQ .i32 (65+w)=65+w:=by
  unfold dQ;obtain⟨k,hk⟩:=E7 (n:=8) (w:=w) (by omega) (by omega)
  have hall:∀k:Fin 8,IntKind.wrap .i32 (65+(k.val:Int))=65+(k.val:Int):=by decide+kernel
  rw[<-hk];exact hall k
 have g1:decide ((0:Int)<=65+w)=true:=by rw[ja];omega
 have g2:decide (65+w<128)=true:=by rw[ja];omega
 simp only[K1,bJ,a1,a2,g1,g2]
 rfl
theorem adY(s:S)(hs:s.length<=2000000):ev E L (D+3) 84 [.str (bs s)] []=some (.int .i64 (x9 s),[]):=by
 rw[akW]
 match s with
 |[]=>rfl
 |c::r=>
  have hc:=c.toNat_lt;have hix:ix (c::r:S) 0=c:=rfl;have hat:sAt (bs (c::r)) 0=some (c.toNat:Int):=by rw[eQ _ _ (by omega) (by simp only[je];omega),hix]
  have w1:dQ .i64 (c.toNat:Int)=c.toNat:=dI (by omega) (by omega)
  have w2:bB .i64 (c.toNat:Int) 65=(c.toNat:Int)-65:=eL (by omega) (by omega)
  have l0:decide (((c::r:S).length:Int)=0)=false:=by rw[jg];simp only[je];omega
  have e1:x9 (c::r)=if isW ((c.toNat:Int)-65)=true then(c.toNat:Int)-65 else-1:=rfl
  rw[e1,cK,cE,l0];simp only[bW,aC,hat,aA,w1,w2,oK,aI];cases isW ((c.toNat:Int)-65)<;>rfl
theorem SP(s:S)(hs:s.length<=2000000):∀(m k:Nat),s.length<m+k->k<=s.length->C4 L D m (bs s) s.length k=some (.bool (low (s.drop k)&&decide (s.length<=8)),[])
 |0,k,h,hk=>by omega
 |m+1,k,h,hk=>by
  rw[KR];by_cases hlt:k<s.length
  ·have h1:decide ((k:Int)<s.length)=true:=by rw[ja];omega
   have ih:=SP s hs m (k+1) (by omega) (by omega)
   have a1:aG .i64 (k:Int) 1=((k+1:Nat):Int):=aO _ (by omega)
   have e:=kz hlt;have hix:ix s (k:Int)=s[k]:=aZ s k hlt;rw[e,low];by_cases h97:97<=(s[k]).toNat
   ·have g1:decide (((s[k]).toNat:Int)<97)=false:=by rw[jg];omega
    by_cases h122:(s[k]).toNat<=122
    ·have g2:decide ((122:Int)< ((s[k]).toNat:Int))=false:=by rw[jg];omega
     simp(disch:=omega) only[K1,h1,a1,hix,g1,g2,ih,eQ,h97,h122,jw]
    ·have g2:decide ((122:Int)< ((s[k]).toNat:Int))=true:=by rw[ja];omega
     simp(disch:=omega) only[K1,h1,hix,g1,g2,eQ,h97,h122,wd,Bool.and_false]
   ·have g1:decide (((s[k]).toNat:Int)<97)=true:=by rw[ja];omega
    simp(disch:=omega) only[K1,h1,hix,g1,eQ,h97,wd]
  ·have h1:decide ((k:Int)<s.length)=false:=by rw[jg];omega
   have e:s.drop k=[]:=wk (by omega)
   rw[e];by_cases h8:s.length<=8
   ·have g:decide ((s.length:Int)<=8)=true:=by rw[ja];omega
    simp(disch:=omega) only[K1,h1,low,g,h8]
   ·have g:decide ((s.length:Int)<=8)=false:=by rw[jg];omega
    simp(disch:=omega) only[K1,h1,low,g,h8,jw]
theorem alF(hL:1099511627776<=L)(s:S)(hs:s.length<=2000000):ev E L (D+1) 82 [.str (bs s)] []=some (.bool (frT s),[]):=by
 rw[akV];have:=SP L D s hs L 0 (by omega) (by omega)
 rw[show((0:Nat):Int)=0 from rfl]at this
 rw[cE,this,kw];unfold frT;rw[Bool.and_comm]
def I4(s:S):Bool:=match Lib.atoiAll s with| .ok _=>true|_=>false
theorem ai6(s:S)(hs:s.length<=2000000):ev E L (D+1) 146 [.str (bs s)] []=some (.tup [.int .i64 (E6 s),.iface (I4 s)],[]):=by
 have h:E.ext 146=some BL:=rfl;have h2:BL [.str (bs s)]=some (.tup [.int .i64 (E6 s),.iface (I4 s)]):=by
  have e:(bs s).size<=2000000:=hs;have e2:(bs s).data.toList=s:=rfl;unfold BL E6 I4;simp only[e,e2,js];cases Lib.atoiAll s<;>rfl
 unfold ev;simp only[h,h2]
 rfl
theorem ai7(n:Int)(h0:0<=n)(h1:n<=99):ev E L (D+1) 125 [.int .i64 n] []=some (.str (bs (CO n)),[]):=by
 have h:E.ext 125=some xK:=rfl;have h2:xK [.int .i64 n]=some (.str (bs (CO n))):=by
  unfold xK;simp only;rw[jd (by omega)]
  rfl
 unfold ev;simp only[h,h2]
 rfl
end
end Kw
namespace Kw
open Go Go.Proofs
def NJ(s t:S):Bool:=decide (t.length<=s.length)&&decide (s.take t.length=t)
def nW:S->Int×S
 |[]=>(0,[])
 |d::r=>if 49<=d.toNat/\d.toNat<=57 then(match r with
   |e::r2=>if 48<=e.toNat/\e.toNat<=57 then(((d.toNat:Int)-48)*10+((e.toNat:Int)-48),r2)else((d.toNat:Int)-48,r)
   |[]=>((d.toNat:Int)-48,r))else(0,d::r)
theorem pX(d:UInt8)(r:S):nW (d::r)=if 49<=d.toNat/\d.toNat<=57 then(match r with
 |e::r2=>if 48<=e.toNat/\e.toNat<=57 then(((d.toNat:Int)-48)*10+((e.toNat:Int)-48),r2)else((d.toNat:Int)-48,r)
 |[]=>((d.toNat:Int)-48,r))else(0,d::r):=rfl
theorem I5(b:Bool):gIf (.iface b)=some b:=(rfl)
theorem aa0{d:UInt8}(h:48<=d.toNat/\d.toNat<=57):∃k:Fin 10,d=UInt8.ofNat (48+k.val)/\(d.toNat:Int)-48=k.val:=by
 refine⟨⟨d.toNat-48,by omega⟩,?_,?_⟩
 ·apply UInt8.toNat_inj.1;rw[UInt8.toNat_ofNat'];simp only;omega
 ·simp only;omega
theorem SQ:E6 []=0/\I4 []=false:=by decide+kernel
theorem adZ:∀k:Fin 10,E6 [UInt8.ofNat (48+k.val)]=k.val/\I4 [UInt8.ofNat (48+k.val)]=true:=by decide+kernel
theorem ae0:∀k j:Fin 10,E6 [UInt8.ofNat (48+k.val),UInt8.ofNat (48+j.val)]=(k.val:Int)*10+j.val/\I4 [UInt8.ofNat (48+k.val),UInt8.ofNat (48+j.val)]=true:=by decide+kernel
section
variable (L D:Nat)
theorem acT(s t:S):ev E L (D+1) 147 [.str (bs s),.str (bs t)] []=some (.bool (NJ s t),[]):=by
 rw[afQ];unfold NJ;by_cases h:t.length<=s.length
 ·have h1:decide ((t.length:Int)<=s.length)=true:=by rw[ja];omega
  have h0:decide ((0:Int)<=t.length)=true:=by rw[ja];omega
  have h00:decide ((0:Int)<=0)=true:=rfl;simp(disch:=omega) only[K1,bJ,g9,Int.reduceLE,ki,h1,h0,h,jw]
  rfl
 ·have h1:decide ((t.length:Int)<=s.length)=false:=by rw[jg];omega
  simp(disch:=omega) only[K1,h1,h,wd]
theorem ai8(s t:S):ev E L (D+2) 86 [.str (bs s),.str (bs t)] []=some (.bool (NJ s t),[]):=by
 rw[akY];simp only[K1,acT]
theorem aa1(hL:1099511627776<=L)(s:S)(hs:s.length<=2000000):ev E L (D+2) 85 [.str (bs s)] []=some (.tup [.int .i64 (nW s).1,.str (bs (nW s).2)],[]):=by
 rw[akX];obtain⟨m,rfl⟩:∃m,L=m+3:=⟨L-3,by omega⟩
 have hA:=ai6 (m+3) D;have o0:decide ((0:Int)<=0)=true:=rfl;have a0:aG .i64 0 1=1:=rfl;have a1:aG .i64 1 1=2:=rfl;have d02:decide ((0:Int)<2)=true:=rfl;have d12:decide ((1:Int)<2)=true:=rfl;have d22:decide ((2:Int)<2)=false:=rfl;have o1:decide ((0:Int)<=1)=true:=rfl;have o2:decide ((0:Int)<=2)=true:=rfl
 match s with
 |[]=>
  have h0:=hA [] (by simp)
  rw[SQ.1,SQ.2]at h0;rw[m8];simp only[K1,iH,kT,dE,g9,Int.reduceLE,Int.reduceLT,Nat.reduceAdd,ki,List.take_nil,List.drop_nil,h0,nW]
  rfl
 |d::r=>
  have hl:decide ((0:Int)< ((r.length+1:Nat):Int))=true:=by rw[ja];omega
  have hl':decide ((0:Int)<=((r.length+1:Nat):Int))=true:=by rw[ja];omega
  have hll:decide (((r.length+1:Nat):Int)<=((r.length+1:Nat):Int))=true:=by rw[ja];omega
  have hl1:decide ((1:Int)<=((r.length+1:Nat):Int))=true:=by rw[ja];omega
  have hat:sAt (bs (d::r)) 0=some (d.toNat:Int):=by rw[eQ _ _ (by omega) (by simp only[je];omega)];rfl
  rw[m8];have hto:Int.toNat 0=0:=rfl;by_cases hd:48<=d.toNat/\d.toNat<=57
  ·have g1:decide ((48:Int)<=(d.toNat:Int))=true:=by rw[ja];omega
   have g2:decide ((d.toNat:Int)<=57)=true:=by rw[ja];omega
   simp only[cE,je,aN,cH,hl,d02,aC,hat,aA,g1,g2,a0];obtain⟨k,ek,evk⟩:=aa0 hd;have one:∀q:S,q=d::r->(∀e r2,r=e::r2->¬(48<=e.toNat/\e.toNat<=57))->nW (d::r)=if 49<=d.toNat then((d.toNat:Int)-48,r)else(0,d::r):=fun q _ hn=>by
    rw[pX];by_cases h49:49<=d.toNat
    ·rw[jd ⟨h49,hd.2⟩,jd h49];cases r with
     |nil=>rfl
     |cons e r2=>simp only;rw[jb (hn e r2 rfl)]
    ·rw[jb (fun x=>h49 x.1),jb h49]
   have h1:=hA [d] (by simp)
   rw[ek,(adZ k).1,(adZ k).2,<-ek,<-evk]at h1;have s1:bA (bs (d::r)) 0 1=bs [d]:=by rw[g9];rfl
   have s2:bA (bs (d::r)) 1 ((r.length+1:Nat):Int)=bs r:=by rw[g9,ki,<-je (a:=d),wo];rfl
   have fin1:(∀e r2,r=e::r2->¬(48<=e.toNat/\e.toNat<=57))->
    (br (aE (iLe 0 0) (aE (iLe 0 1) (iLe 1 (sLen (bs (d::r)))))) (bnd (ev E (m+3) (D+1) 146 [MV.str (bA (bs (d::r)) 0 1)] []) fun r'=>bnd (dZ 2 r'.1) fun vs=>bnd (fA IntKind.i64 (aH vs 0)) fun n=>bnd (gIf (aH vs 1)) fun b=>br (bNot (bNot b)) (bnd (sAt (bs (d::r)) 0) fun b=>br (iEq b 48) (some (MV.tup [MV.int IntKind.i64 0,MV.str (bs (d::r))],([]:List Obj))) (br (aE (iLe 0 1) (aE (iLe 1 (sLen (bs (d::r)))) (iLe (sLen (bs (d::r))) (sLen (bs (d::r)))))) (some (MV.tup [MV.int IntKind.i64 n,MV.str (bA (bs (d::r)) 1 (sLen (bs (d::r))))],[])) none)) (some (MV.tup [MV.int IntKind.i64 0,MV.str (bs (d::r))],[]))) none)=some (.tup [.int .i64 (nW (d::r)).1,.str (bs (nW (d::r)).2)],[]):=fun hn=>by
    rw[one (d::r) rfl hn];by_cases h49:49<=d.toNat
    ·have q:decide ((d.toNat:Int)=48)=false:=by rw[jg];omega
     rw[jd h49];simp only[K1,bJ,Int.reduceLE,Nat.reduceAdd,s1,s2,h1,hat,q,hl1,hll,I5]
    ·have q:decide ((d.toNat:Int)=48)=true:=by rw[ja];omega
     rw[jb h49];simp only[K1,bJ,Int.reduceLE,Nat.reduceAdd,s1,h1,hat,q,hl1,I5]
   rw[m8]
   match r with
   |[]=>
    have hz:iLt 1 (sLen (bs [d]))=false:=rfl;rw[hz,aD];exact fin1 (fun e r2 h=>by cases h)
   |e::r2=>
    have hz:iLt 1 (sLen (bs (d::e::r2)))=true:=by rw[cE,aN,ja];simp only[je];omega
    have hat1:sAt (bs (d::e::r2)) 1=some (e.toNat:Int):=by rw[eQ _ _ (by omega) (by simp only[je];omega)];rfl
    have h12:iLt 1 2=true:=rfl;rw[hz,aC,h12,aC,hat1,aA];by_cases he:48<=e.toNat/\e.toNat<=57
    ·have g3:iLe 48 (e.toNat:Int)=true:=by rw[cH,ja];omega
     have g4:iLe (e.toNat:Int) 57=true:=by rw[cH,ja];omega
     rw[g3,aC,aA,g4,aC,a1,m8];have l22:iLt 2 2=false:=rfl;obtain⟨j,ej,evj⟩:=aa0 he;have h2:=hA [d,e] (by simp)
     rw[ek,ej,(ae0 k j).1,(ae0 k j).2,<-ek,<-ej,<-evk,<-evj]at h2;have s3:bA (bs (d::e::r2)) 0 2=bs [d,e]:=by rw[g9];rfl
     have s4:bA (bs (d::e::r2)) 2 ((r2.length+1+1:Nat):Int)=bs r2:=by rw[g9,ki,<-je (a:=e),<-je (a:=d),wo];rfl
     have hl2:decide ((2:Int)<=((r2.length+1+1:Nat):Int))=true:=by rw[ja];omega
     have hll2:decide (((r2.length+1+1:Nat):Int)<=((r2.length+1+1:Nat):Int))=true:=by rw[ja];omega
     rw[l22];have hv:nW (d::e::r2)=if 49<=d.toNat then(((d.toNat:Int)-48)*10+((e.toNat:Int)-48),r2)else(0,d::e::r2):=by
      rw[pX];by_cases h49:49<=d.toNat
      ·rw[jd ⟨h49,hd.2⟩,jd h49];simp only;rw[jd he]
      ·rw[jb (fun x=>h49 x.1),jb h49]
     rw[hv];by_cases h49:49<=d.toNat
     ·have q:decide ((d.toNat:Int)=48)=false:=by rw[jg];omega
      rw[jd h49];cases iLt 2 (sLen (bs (d::e::r2)))<;>simp only[K1,bJ,Int.reduceLE,Nat.reduceAdd,s3,s4,h2,hat,q,hl2,hll2,I5]
     ·have q:decide ((d.toNat:Int)=48)=true:=by rw[ja];omega
      rw[jb h49];cases iLt 2 (sLen (bs (d::e::r2)))<;>simp only[K1,bJ,Int.reduceLE,Nat.reduceAdd,s3,h2,hat,q,hl2,I5]
    ·have hn:∀e' r2',e::r2=e'::r2'->¬(48<=e'.toNat/\e'.toNat<=57):=fun e' r2' h=>by cases h;exact he
     by_cases g:48<=e.toNat
     ·have g3:iLe 48 (e.toNat:Int)=true:=by rw[cH,ja];omega
      have g4:iLe (e.toNat:Int) 57=false:=by rw[cH,jg];omega
      rw[g3,aC,aA,g4,aD];exact fin1 hn
     ·have g3:iLe 48 (e.toNat:Int)=false:=by rw[cH,jg];omega
      rw[g3,aD];exact fin1 hn
  ·have h0:=hA [] (by simp)
   rw[SQ.1,SQ.2]at h0;have hv:nW (d::r)=(0,d::r):=by
    rw[pX,jb (by omega)]
   have s1:bA (bs (d::r)) 0 0=bs []:=by rw[g9];rfl
   rw[hv];by_cases g:48<=d.toNat
   ·have g1:decide ((48:Int)<=(d.toNat:Int))=true:=by rw[ja];omega
    have g2:decide ((d.toNat:Int)<=57)=false:=by rw[jg];omega
    simp only[K1,bJ,Int.reduceLE,Int.reduceLT,Nat.reduceAdd,hl,hl',hat,g1,g2,s1,h0,I5]
   ·have g1:decide ((48:Int)<=(d.toNat:Int))=false:=by rw[jg];omega
    simp only[K1,bJ,Int.reduceLE,Int.reduceLT,Nat.reduceAdd,hl,hl',hat,g1,s1,h0,I5]
end
end Kw
namespace Kw
open Go Go.Proofs
def hC(h:How):List MV:=[.int .i64 h.op,.int .i64 h.who,.int .i64 h.n,.str (bs h.a),.str (bs h.b)]
def I7(s:S):MV:=match pars s with
 |some (x,r)=>.tup [.agg (hC x.how),.str (bs r),.bool true]
 |none=>.tup [.agg [.int .i64 0,.int .i64 0,.int .i64 0,.str (bs []),.str (bs [])],.str (bs s),.bool false]
theorem eN{s:S}{x:Sec}{r:S}(h:pars s=some (x,r)):I7 s=.tup [.agg [.int .i64 x.how.op,.int .i64 x.how.who,.int .i64 x.how.n,.str (bs x.how.a),.str (bs x.how.b)],.str (bs r),.bool true]:=by unfold I7;rw[h];rfl
theorem cQ{s:S}(h:pars s=none):I7 s=.tup [.agg [.int .i64 0,.int .i64 0,.int .i64 0,.str (bs []),.str (bs [])],.str (bs s),.bool false]:=by unfold I7;rw[h]
theorem SY{c:UInt8}{t:S}(h:¬(65<=c.toNat/\c.toNat<=72)):x9 (c::t)= -1:=by
 show(if isW ((c.toNat:Int)-65)=true then(c.toNat:Int)-65 else-1)= -1
 rw[jb];rw[isW_iff];omega
theorem NL{c:UInt8}{t:S}(h:65<=c.toNat/\c.toNat<=72):x9 (c::t)=(c.toNat:Int)-65:=by
 show(if isW ((c.toNat:Int)-65)=true then(c.toNat:Int)-65 else-1)=_
 rw[jd];rw[isW_iff];omega
theorem rD(u r:S)(h:(u++r).length<=2000000):bB .i64 (sLen (bs (u++r))) (sLen (bs r))=u.length:=by
 rw[cE,cE];have:(u++r).length=u.length+r.length:=jk;rw[eL (by omega) (by omega)];omega
theorem vC(u r:S):bA (bs (u++r)) 0 (u.length:Int)=bs u:=by
 rw[g9,ki];simp
theorem jO(u r:S)(h:(u++r).length<=2000000):aE (iLe 0 0) (aE (iLe 0 (bB .i64 (sLen (bs (u++r))) (sLen (bs r)))) (iLe (bB .i64 (sLen (bs (u++r))) (sLen (bs r))) (sLen (bs (u++r)))))=true:=by
 rw[rD u r h,cE,cH,cH,cH];have h1:(u++r).length=u.length+r.length:=jk;have a:decide ((0:Int)<=u.length)=true:=by rw[ja];omega
 have b:decide ((u.length:Int)<=(u++r).length)=true:=by rw[ja];omega
 rw[a,b];rfl
theorem SZ(c:UInt8)(t:S):bA (bs (c::t)) 1 (sLen (bs (c::t)))=bs t:=by
 rw[cE,g9,ki,wo];rfl
theorem zS(c:UInt8)(t:S):aE (iLe 0 1) (aE (iLe 1 (sLen (bs (c::t)))) (iLe (sLen (bs (c::t))) (sLen (bs (c::t)))))=true:=by
 rw[cE,cH,cH,cH];have a:decide ((1:Int)<=(c::t:S).length)=true:=by rw[ja];simp only[je];omega
 have b:decide (((c::t:S).length:Int)<=(c::t:S).length)=true:=by rw[ja];omega
 rw[a,b];rfl
theorem at0(c:UInt8)(t:S):sAt (bs (c::t)) 0=some (c.toNat:Int):=by rw[eQ _ _ (by omega) (by simp only[je];omega)];rfl
theorem aaB(c:UInt8)(k:UInt8):iEq (c.toNat:Int) (k.toNat:Int)=decide (c=k):=by
 rw[cK];by_cases h:c=k
 ·subst h;simp
 ·rw[jh h,jg];intro e;exact h (UInt8.toNat_inj.1 (by omega))
theorem aaC:pars []=none:=rfl
theorem FZ(s:S):NJ s [59]=match s with|[]=>false|e::_=>decide (e=59):=by
 unfold NJ;cases s with
 |nil=>rfl
 |cons e r=>
  have h1:([59]:S).length<=(e::r:S).length:=by simp
  have h2:(e::r:S).take ([59]:S).length=[e]:=rfl;rw[jc h1,h2,jw];simp
theorem V4(c:UInt8)(t:S)(hc:65<=c.toNat/\c.toNat<=72):pFresh (c::t)=
 if(nW t).1≠0/\NJ (nW t).2 [59]=true then some (.new (c.toNat-65) (nW t).1.toNat,(nW t).2.drop 1)else none:=by
 match t with
 |[]=>rfl
 |d::r=>
  rw[pX];by_cases hd:49<=d.toNat/\d.toNat<=57
  ·rw[jd hd]
   match r with
   |[]=>
    have h1:pFresh (c::d::[])=if(65<=c.toNat/\c.toNat<=72)/\49<=d.toNat/\d.toNat<=57 then none else none:=rfl
    rw[h1,jd ⟨hc,hd⟩];simp only[FZ];rw[jb (by simp)]
   |e::r2=>
    have h1:pFresh (c::d::e::r2)=if(65<=c.toNat/\c.toNat<=72)/\49<=d.toNat/\d.toNat<=57 then
     (if e=59 then some (.new (c.toNat-65) (d.toNat-48),r2)else if 48<=e.toNat/\e.toNat<=57 then(match r2 with
      |[]=>none
      |f::r=>if f=59 then some (.new (c.toNat-65) ((d.toNat-48)*10+(e.toNat-48)),r)else none)else none)else none:=rfl
    rw[h1,jd ⟨hc,hd⟩];simp only;by_cases he:48<=e.toNat/\e.toNat<=57
    ·have e59:¬e=59:=fun x=>by subst x;revert he;decide
     rw[jb e59,jd he,jd he];have hv:((d.toNat:Int)-48)*10+((e.toNat:Int)-48)≠0:=by omega
     have ht:(((d.toNat:Int)-48)*10+((e.toNat:Int)-48)).toNat=(d.toNat-48)*10+(e.toNat-48):=by omega
     rw[ht]
     match r2 with
     |[]=>simp only[FZ];rw[jb (by simp)]
     |f::r3=>
      simp only[FZ];by_cases hf:f=59
      ·rw[jd hf,jd ⟨hv,by rw[hf];rfl⟩];rfl
      ·rw[jb hf,jb (fun x=>hf (by simpa using x.2))]
    ·rw[jb he,jb he];have hv:(d.toNat:Int)-48≠0:=by omega
     have ht:((d.toNat:Int)-48).toNat=d.toNat-48:=by omega
     rw[ht];simp only[FZ];by_cases hf:e=59
     ·rw[jd hf,jd ⟨hv,by rw[hf];rfl⟩];rfl
     ·rw[jb hf,jb (fun x=>hf (by simpa using x.2))]
  ·rw[jb hd];have h1:pFresh (c::d::r)=none:=by
    show(if(65<=c.toNat/\c.toNat<=72)/\49<=d.toNat/\d.toNat<=57 then _ else none)=none
    rw[jb (fun x=>hd x.2)]
   rw[h1,jb (by simp)]
theorem aaD(t:S):0<=(nW t).1/\(nW t).1<=99/\(nW t).2.length<=t.length:=by
 match t with
 |[]=>exact⟨by decide,by decide,by decide⟩
 |d::r=>
  rw[pX];have:=d.toNat_lt;split
  ·match r with
   |[]=>simp only[jj,je];omega
   |e::r2=>
    simp only;have:=e.toNat_lt;split<;>simp only[je]<;>omega
  ·simp
section
variable (L D:Nat)
theorem QF(hL:1099511627776<=L):∀(n:Nat) (s:S),s.length<=n->s.length<=1000000->ev E L (D+4+n) 46 [.str (bs s)] []=some (I7 s,[])
 |n,[],_,_=>by
  rw[show D+4+n=(D+3+n)+1 by omega,adX]
  rw[cQ aaC,show sEq (bs []) (bs [])=true from by rw[dH];rfl,aC]
 |0,c::t,h,_=>by simp at h
 |n+1,c::t,h,hs=>by
  have hsl:t.length<=1000000:=by simp only[je]at hs;omega
  have htn:t.length<=n:=by simp only[je]at h;omega
  have ih:=QF hL n t htn hsl;have ihr:∀r:S,r.length<=t.length->ev E L (D+4+n) 46 [.str (bs r)] []=some (I7 r,[]):=fun r hr=>QF hL n r (by omega) (by omega)
  rw[show D+4+(n+1)=(D+4+n)+1 by omega,adX]
  have e0:sEq (bs (c::t)) (bs [])=false:=by rw[dH];rfl
  have ho:=adY L (D+1+n) (c::t) (by omega)
  rw[show D+1+n+3=D+4+n by omega]at ho
  have hnum:=aa1 L (D+2+n) hL t (by omega)
  rw[show D+2+n+2=D+4+n by omega]at hnum
  have hpre:∀a b:S,ev E L (D+4+n) 86 [.str (bs a),.str (bs b)] []=some (.bool (NJ a b),[]):=fun a b=>by
   have:=ai8 L (D+2+n) a b;rw[show D+2+n+2=D+4+n by omega]at this
   exact this
  rw[e0,aD,ho];simp only[aA,bL,zS,SZ,aC,at0];have c110:iEq (c.toNat:Int) 110=decide (c=110):=aaB c 110;have c107:iEq (c.toNat:Int) 107=decide (c=107):=aaB c 107;have c101:iEq (c.toNat:Int) 101=decide (c=101):=aaB c 101;have c109:iEq (c.toNat:Int) 109=decide (c=109):=aaB c 109;have c114:iEq (c.toNat:Int) 114=decide (c=114):=aaB c 114;have hc:=c.toNat_lt;by_cases hA:65<=c.toNat/\c.toNat<=72
  ·rw[NL hA];have g:iLe 0 ((c.toNat:Int)-65)=true:=by rw[cH,ja];omega
   rw[g,aC,hnum];simp only[gTupN_if,aP,aV,je,jj,js,aA,bL,bM];have hne:¬c=110/\¬c=107/\¬c=109/\¬c=114/\¬c=101:=⟨fun e=>by subst e;revert hA;decide,fun e=>by subst e;revert hA;decide,fun e=>by subst e;revert hA;decide,fun e=>by subst e;revert hA;decide,fun e=>by subst e;revert hA;decide⟩
   have hp:pars (c::t)=pFresh (c::t):=by rw[cR,jb hne.1,jb hne.2.1,jb hne.2.2.1,jb hne.2.2.2.1,jb hne.2.2.2.2]
   rw[V4 c t hA]at hp;obtain⟨v0,v1,vl⟩:=aaD t;by_cases hz:(nW t).1=0
   ·rw[jb (fun x=>x.1 hz)]at hp
    have hq:iEq (nW t).1 0=true:=by rw[cK];exact jc hz
    rw[cQ hp,hq]
    rfl
   ·have hq:iEq (nW t).1 0=false:=by rw[cK];exact jh hz
    rw[hq,bW,aC,hpre,aA,aI];cases hh:NJ (nW t).2 [59]with
    |false=>
     rw[jb (fun x=>by rw[hh]at x;exact absurd x.2 (by simp))]at hp
     rw[cQ hp]
     rfl
    |true=>
     rw[jd ⟨hz,hh⟩]at hp;rw[eN hp];rw[FZ]at hh
     match hn2:(nW t).2 with
     |[]=>rw[hn2]at hh;cases hh
     |e::r=>
      rw[aA,bI,aD,zS,aC,SZ];have hwi:((c.toNat-65:Nat):Int)=(c.toNat:Int)-65:=by omega
      have hni:(((nW t).1.toNat:Nat):Int)=(nW t).1:=by omega
      rw[<-hwi]
      conv=>lhs;rw[<-hni]
      rfl
  ·rw[SY hA];have g:iLe 0 (-1)=false:=rfl;rw[g,aD,c110,c107,c101,c109,c114];by_cases h110:c=110
   ·rw[jc h110,aC,ih,aA];have hp:pars (c::t)=match pars t with|some (x,r)=>some (.next x,r)|none=>none:=by rw[cR,jd h110];try rfl
    cases hpt:pars t with
    |none=>
     rw[hpt]at hp;rw[cQ hp,cQ hpt];have h1:=jO [] t (by simp;omega)
     rw[qc]at h1;simp only[gTupN_if,gAggN_if,aP,aV,je,jj,js,aA,bL,bM,aI,aC,aD,h1,bW]
    |some q=>
     obtain⟨x,r⟩:=q;rw[hpt]at hp;obtain⟨hwf,ht⟩:=f7 hpt;rw[eN hp,eN hpt];have h1:=jO x.str r (by rw[<-ht];omega)
     have h2:=rD x.str r (by rw[<-ht];omega)
     have h3:=vC x.str r;rw[<-ht]at h1 h2 h3;rw[h2]at h1;have ho4:iEq 2 4=false:=rfl;simp only[gTupN_if,gAggN_if,aP,aV,je,jj,js,aA,bL,bM,aI,aC,aD,h2,h3,h1,bI,ho4]
     rfl
   rw[jh h110,aD];by_cases h107:c=107
   ·rw[jc h107,aC,ih,aA];have hp:pars (c::t)=match pars t with|some (x,r)=>some (.key x,r)|none=>none:=by rw[cR,jb h110,jd h107];try rfl
    cases hpt:pars t with
    |none=>
     rw[hpt]at hp;rw[cQ hp,cQ hpt];have h1:=jO [] t (by simp;omega)
     rw[qc]at h1;simp only[gTupN_if,gAggN_if,aP,aV,je,jj,js,aA,bL,bM,aI,aC,aD,h1,bW]
    |some q=>
     obtain⟨x,r⟩:=q;rw[hpt]at hp;obtain⟨hwf,ht⟩:=f7 hpt;rw[eN hp,eN hpt];have h1:=jO x.str r (by rw[<-ht];omega)
     have h2:=rD x.str r (by rw[<-ht];omega)
     have h3:=vC x.str r;rw[<-ht]at h1 h2 h3;rw[h2]at h1;have ho4:iEq 3 4=false:=rfl;simp only[gTupN_if,gAggN_if,aP,aV,je,jj,js,aA,bL,bM,aI,aC,aD,h2,h3,h1,bI,ho4]
     rfl
   rw[jh h107,aD];by_cases h101:c=101
   ·have n109:¬c=109:=by rw[h101];decide
    have n114:¬c=114:=by rw[h101];decide
    rw[jc h101,aC,ih,aA];have hp:pars (c::t)=match pars t with|some (x,r)=>(match pars r with|some (y,r)=>some (.epoch x y,r)|none=>none)|none=>none:=by rw[cR,jb h110,jb h107,jb n109,jb n114,jd h101];try rfl
    cases hpt:pars t with
    |none=>
     rw[hpt]at hp;rw[cQ hp,cQ hpt];have h1:=jO [] t (by simp;omega)
     rw[qc]at h1;simp only[gTupN_if,gAggN_if,aP,aV,je,jj,js,aA,bL,bM,aI,aC,aD,h1,bW]
    |some q=>
     obtain⟨x,r⟩:=q;rw[hpt]at hp;simp only at hp;obtain⟨hwf,ht⟩:=f7 hpt;rw[eN hpt];have hrl:r.length<=t.length:=by rw[ht];simp
     have h1:=jO x.str r (by rw[<-ht];omega)
     have h2:=rD x.str r (by rw[<-ht];omega)
     have h3:=vC x.str r;rw[<-ht]at h1 h2 h3;rw[h2]at h1;have ho4:iEq 4 4=true:=rfl;simp only[gTupN_if,gAggN_if,aP,aV,je,jj,js,aA,bL,bM,aI,aC,aD,h2,h3,h1,bI,ho4,ihr r hrl];cases hpr:pars r with
     |none=>
      rw[hpr]at hp;rw[cQ hp,cQ hpr];have k1:=jO [] r (by simp;omega)
      rw[qc]at k1;simp only[gTupN_if,gAggN_if,aP,aV,je,jj,js,aA,bL,bM,aI,aC,k1,bW]
     |some q=>
      obtain⟨y,r'⟩:=q;rw[hpr]at hp;obtain⟨hwf',hr⟩:=f7 hpr;rw[eN hp,eN hpr];have k1:=jO y.str r' (by rw[<-hr];omega)
      have k2:=rD y.str r' (by rw[<-hr];omega)
      have k3:=vC y.str r';rw[<-hr]at k1 k2 k3;rw[k2]at k1;simp only[gTupN_if,gAggN_if,aP,aV,je,jj,js,aA,bL,bM,aI,aC,aD,k2,k3,k1,bI]
      rfl
   rw[jh h101,aD];by_cases h109:c=109
   ·rw[jc h109,aC];have hot:=adY L (D+1+n) t (by omega)
    rw[show D+1+n+3=D+4+n by omega]at hot
    rw[hot];simp only[aA,bL]
    match t with
    |[]=>
     have hp:pars [c]=none:=by rw[cR,jb h110,jb h107,jd h109]
     rw[cQ hp]
     rfl
    |w::t'=>
     have hp:pars (c::w::t')=if 65<=w.toNat/\w.toNat<=72 then(match pars t' with|some (x,r)=>some (.say (w.toNat-65) x,r)|none=>none)else none:=by rw[cR,jb h110,jb h107,jd h109];try rfl
     by_cases hw:65<=w.toNat/\w.toNat<=72
     ·rw[jd hw]at hp;rw[NL hw];have g:iLt ((w.toNat:Int)-65) 0=false:=by rw[aN,jg];omega
      have htl':t'.length<=(w::t':S).length:=by simp
      have hs':t'.length<=1000000:=by simp only[je]at hsl;omega
      rw[g,aD,zS,aC,SZ,ihr t' htl',aA];have hwi:((w.toNat-65:Nat):Int)=(w.toNat:Int)-65:=by omega
      cases hpt:pars t' with
      |none=>
       rw[hpt]at hp;rw[cQ hp,cQ hpt];have h1:=jO [] t' (by simp;omega)
       rw[qc]at h1;simp only[gTupN_if,gAggN_if,aP,aV,je,jj,js,aA,bL,bM,aI,aC,aD,h1,bW]
      |some q=>
       obtain⟨x,r⟩:=q;rw[hpt]at hp;obtain⟨hwf,ht⟩:=f7 hpt;rw[eN hp,eN hpt];have h1:=jO x.str r (by rw[<-ht];omega)
       have h2:=rD x.str r (by rw[<-ht];omega)
       have h3:=vC x.str r;rw[<-ht]at h1 h2 h3;rw[h2]at h1;have ho4:iEq 5 4=false:=rfl;simp only[gTupN_if,gAggN_if,aP,aV,je,jj,js,aA,bL,bM,aI,aC,aD,h2,h3,h1,bI,ho4];rw[<-hwi];rfl
     ·rw[jb hw]at hp;rw[cQ hp,SY hw]
      rfl
   rw[jh h109,aD];by_cases h114:c=114
   ·rw[jc h114,aC]
    match t with
    |[]=>
     have hp:pars [c]=none:=by rw[cR,jb h110,jb h107,jb h109,jd h114]
     rw[cQ hp,show sEq (bs []) (bs [])=true from by rw[dH];rfl]
     rfl
    |w::t'=>
     have hp:pars (c::w::t')=if 49<=w.toNat/\w.toNat<=57 then(match pars t' with|some (x,r)=>some (.room (w.toNat-48) x,r)|none=>none)else none:=by rw[cR,jb h110,jb h107,jb h109,jd h114];try rfl
     have hz:sEq (bs (w::t')) (bs [])=false:=by rw[dH];rfl
     have hwn:=w.toNat_lt;rw[hz,bW,aC,at0,aA];by_cases hw:49<=w.toNat/\w.toNat<=57
     ·rw[jd hw]at hp;have g1:iLt (w.toNat:Int) 49=false:=by rw[aN,jg];omega
      have g2:iLt 57 (w.toNat:Int)=false:=by rw[aN,jg];omega
      have htl':t'.length<=(w::t':S).length:=by simp
      have hs':t'.length<=1000000:=by simp only[je]at hsl;omega
      rw[g1,bW,aC,aA,g2,aD,aA,zS,aC,SZ,ihr t' htl',aA];have w1:bB .u8 (w.toNat:Int) 48=(w.toNat:Int)-48:=wH (by omega) (by omega)
      have w2:dQ .i64 ((w.toNat:Int)-48)=(w.toNat:Int)-48:=dI (by omega) (by omega)
      have hwi:((w.toNat-48:Nat):Int)=(w.toNat:Int)-48:=by omega
      simp only[w1,w2];cases hpt:pars t' with
      |none=>
       rw[hpt]at hp;rw[cQ hp,cQ hpt];have h1:=jO [] t' (by simp;omega)
       rw[qc]at h1;simp only[gTupN_if,gAggN_if,aP,aV,je,jj,js,aA,bL,bM,aI,aC,aD,h1,bW]
      |some q=>
       obtain⟨x,r⟩:=q;rw[hpt]at hp;obtain⟨hwf,ht⟩:=f7 hpt;rw[eN hp,eN hpt];have h1:=jO x.str r (by rw[<-ht];omega)
       have h2:=rD x.str r (by rw[<-ht];omega)
       have h3:=vC x.str r;rw[<-ht]at h1 h2 h3;rw[h2]at h1;have ho4:iEq 6 4=false:=rfl;simp only[gTupN_if,gAggN_if,aP,aV,je,jj,js,aA,bL,bM,aI,aC,aD,h2,h3,h1,bI,ho4];rw[<-hwi];rfl
     ·rw[jb hw]at hp;rw[cQ hp];by_cases g:49<=w.toNat
      ·have g1:iLt (w.toNat:Int) 49=false:=by rw[aN,jg];omega
       have g2:iLt 57 (w.toNat:Int)=true:=by rw[aN,ja];omega
       rw[g1,bW,aC,aA,g2]
       rfl
      ·have g1:iLt (w.toNat:Int) 49=true:=by rw[aN,ja];omega
       rw[g1]
       rfl
   rw[jh h114,aD];have hp:pars (c::t)=none:=by
    rw[cR,jb h110,jb h107,jb h109,jb h114,jb h101]
    match t with
    |[]=>rfl
    |d::t'=>show(if _ then _ else none)=none;rw[jb (fun x=>hA x.1)]
   rw[cQ hp]
end
end Kw
namespace Kw
open Go Go.Proofs
section
variable (L D:Nat)
theorem AZ(hL:1099511627776<=L)(s:S)(hs:s.length<=2000000):ev E L (D+305) 10 [.str (bs s)] []=some (.agg [.int .i64 (bK s).op,.int .i64 (bK s).who,.int .i64 (bK s).n,.str (bs (bK s).a),.str (bs (bK s).b)],[]):=by
 rw[ajP];by_cases h:s.length<=300
 ·have g:iLt 300 (sLen (bs s))=false:=by rw[aN,cE,jg];omega
  have hn:=QF L D hL 300 s h (by omega)
  rw[g,aD,hn];have e:bK s=match pars s with|some (t,[])=>t.how|_=>⟨0,0,0,[],[]⟩:=by
   unfold bK sec pnt;rw[jd h];cases pars s with
   |none=>rfl
   |some q=>obtain⟨x,r⟩:=q;cases r<;>rfl
  rw[e];cases hp:pars s with
  |none=>
   rw[cQ hp]
   rfl
  |some q=>
   obtain⟨x,r⟩:=q;rw[eN hp];simp only[gTupN_if,gAggN_if,aP,aV,je,jj,js,aA,bL,bM,aI,bI,bW,aC,dH];cases r with
   |nil=>rfl
   |cons c t=>rfl
 ·have g:iLt 300 (sLen (bs s))=true:=by rw[aN,cE,ja];omega
  have e:bK s=⟨0,0,0,[],[]⟩:=by
   unfold bK sec;rw[jb h]
  rw[g,e]
  rfl
theorem hD(hL:1099511627776<=L)(s:S)(hs:s.length<=2000000):ev E L (D+306) 36 [.str (bs s)] []=some (.bool (secOk s),[]):=by
 rw[ak6,AZ L D hL s hs];have h:= @jR s;simp only[gAggN_if,aP,aV,je,jj,js,aA,bL,bM,cK];cases hk:secOk s with
 |true=>
  have:¬(bK s).op=0:=fun x=>by rw[h.1 x]at hk;cases hk
  rw[jh this];rfl
 |false=>
  rw[jc (h.2 hk)];rfl
end
end Kw
namespace Kw
open Go Go.Proofs
section
variable (L D:Nat)
theorem aaM(l:List S)(hn:0<l.length/\l.length<=1000)(hf:l.flatten.length<=1000000):ev E L (D+1) 209 [.sl (l.map rS),.str (bs [])] []=some (.str (bs l.flatten),[]):=by
 have h:E.ext 209=some xL:=rfl;have hr:∀l:List S,qJ (l.map rS)=some l:=fun l=>by
  induction l with
  |nil=>rfl
  |cons a t ih=>
   show(qJ (t.map rS)).bind (fun u=>some ((bs a).data.toList::u))=_
   rw[ih];rfl
 have h2:xL [.sl (l.map rS),.str (bs [])]=some (.str (bs l.flatten)):=by
  unfold xL;simp only;rw[hr];simp only[jv];rw[jd ⟨rfl,hn.2,hf,hn.1⟩]
 unfold ev;simp only[h,h2]
 rfl
theorem K5(hL:1099511627776<=L)(p s:S)(hp:p.length<=10)(hs:s.length<=500000):ev E L (D+307) 132 [.str (bs p),.sl [rS s]] []=some (.str (bs (mk1 p s)),[]):=by
 rw[Z5];obtain⟨m,rfl⟩:∃m,L=m+2:=⟨L-2,by omega⟩
 have hk:=hD (m+2) D hL s (by omega)
 have n1:nrows [rS s]=1:=rfl;have l01:iLt 0 1=true:=rfl;have l11:iLt 1 1=false:=rfl;have a0:aG .i64 0 1=1:=rfl;unfold mk1;rw[n1,jH,l01,aC,rz0,aA];simp only[eU,bM,aA,hk,aI];cases h:secOk s with
 |false=>
  rw[jb (by simp)]
  rfl
 |true=>
  rw[bI,aD,a0,jH,l11,aD];have hj:=aaM (m+2) (D+305) [s] (by simp) (by simp;omega)
  have ef:[s].flatten=s:=by simp
  rw[ef]at hj;have hj':ev E (m+2) (D+306) 209 [.sl [rS s],.str (bs [])] []=some (.str (bs s),[]):=hj;have hfit:bH (sLen (bs p)) (sLen (bs s)) 1=true:=by rw[cE,cE];exact aJ _ _ _ (by omega)
  rw[hj',aA,bM,aA,hfit,aC,d7,cE];by_cases hl:p.length+s.length<=300
  ·have g:iLe ((p++s).length:Int) 300=true:=by rw[cH,ja,jk];omega
   rw[g,jd ⟨rfl,hl⟩];rfl
  ·have g:iLe ((p++s).length:Int) 300=false:=by rw[cH,jg,jk];omega
   rw[g,jb (fun x=>hl x.2)];rfl
theorem adB(hL:1099511627776<=L)(a b:S)(ha:a.length<=200000)(hb:b.length<=200000):ev E L (D+307) 132 [.str (bs [101]),.sl [rS a,rS b]] []=some (.str (bs (eH a b)),[]):=by
 rw[Z5];obtain⟨m,rfl⟩:∃m,L=m+3:=⟨L-3,by omega⟩
 have hk:=hD (m+3) D hL a (by omega)
 have hk2:=hD (m+3) D hL b (by omega)
 have n1:nrows [rS a,rS b]=2:=rfl;have l02:iLt 0 2=true:=rfl;have l12:iLt 1 2=true:=rfl;have l22:iLt 2 2=false:=rfl;have a0:aG .i64 0 1=1:=rfl;have a1:aG .i64 1 1=2:=rfl;unfold eH;rw[n1,jH,l02,aC,rz0,aA];simp only[eU,bM,aA,hk,aI];cases h:secOk a with
 |false=>
  rw[jb (fun x=>by simp at x)]
  rfl
 |true=>
  rw[bI,aD,a0,jH,l12,aC,rz1,aA];simp only[eU,bM,aA,hk2,aI];cases h2:secOk b with
  |false=>
   rw[jb (fun x=>by simp at x)]
   rfl
  |true=>
   rw[bI,aD,a1,jH,l22,aD];have hj:=aaM (m+3) (D+305) [a,b] (by simp) (by simp;omega)
   have ef:[a,b].flatten=a++b:=by simp
   rw[ef]at hj;have hj':ev E (m+3) (D+306) 209 [.sl [rS a,rS b],.str (bs [])] []=some (.str (bs (a++b)),[]):=hj;have hfit:bH (sLen (bs [101])) (sLen (bs (a++b))) 1=true:=by rw[cE,cE];exact aJ _ _ _ (by simp only[jk,je,jj];omega)
   rw[hj',aA,bM,aA,hfit,aC,d7,cE];by_cases hl:1+a.length+b.length<=300
   ·have g:iLe (([101]++(a++b)).length:Int) 300=true:=by rw[cH,ja];simp only[jk,je,jj];omega
    rw[g,jd ⟨by simp,hl⟩];rfl
   ·have g:iLe (([101]++(a++b)).length:Int) 300=false:=by rw[cH,jg];simp only[jk,je,jj];omega
    rw[g,jb (fun x=>hl x.2)];rfl
theorem A0(hL:1099511627776<=L)(s:S)(hs:s.length<=500000):ev E L (D+308) 201 [.str (bs s)] []=some (.str (bs (makNext s)),[]):=by
 rw[ag1];have h:=K5 L D hL [110] s (by simp) hs
 simp only[rS]at h;simp only[h,aA,bM,aU,aC]
 rfl
theorem nY(hL:1099511627776<=L)(s:S)(hs:s.length<=500000):ev E L (D+308) 69 [.str (bs s)] []=some (.str (bs (makKey s)),[]):=by
 rw[akP];have h:=K5 L D hL [107] s (by simp) hs
 simp only[rS]at h;simp only[h,aA,bM,aU,aC]
 rfl
theorem F6(hL:1099511627776<=L)(a b:S)(ha:a.length<=200000)(hb:b.length<=200000):ev E L (D+308) 200 [.str (bs a),.str (bs b)] []=some (.str (bs (eH a b)),[]):=by
 rw[ag0];have h:=adB L D hL a b ha hb;simp only[rS]at h;simp only[h,aA,bM,aU,aC]
theorem K6(hL:1099511627776<=L)(s:S)(hs:s.length<=2000000):ev E L (D+306) 127 [.str (bs s)] []=some (.bool (isKey s),[]):=by
 rw[afK,AZ L D hL s hs];simp only[gAggN_if,aP,aV,je,jj,js,aA,bL,bM,cK]
 rfl
end
end Kw
namespace Kw
open Go Go.Proofs
theorem NR{w:Int}(h:aR w):xY w=ltr w:=by
 obtain⟨h0,h1⟩:=h;unfold xY ltr letter;have e:(65+w).toNat=65+w.toNat:=by omega
 rw[e]
theorem iP{w:Int}:isW w=decide (aR w):=by
 by_cases h:aR w
 ·rw[jc h,isW_iff];exact h
 ·rw[jh h];cases e:isW w
  ·rfl
  ·exact absurd (isW_iff.1 e) h
theorem wW{n:Int}(h0:0<=n)(h1:n<=99):plain n.toNat=CO n:=by
 unfold CO;by_cases h:n<10
 ·rw[jd h,tA (by omega)]
  unfold gM;have e:(48+n).toNat=48+n.toNat:=by omega
  rw[e]
 ·rw[jb h,AN (by omega) (by omega)]
  unfold gM;have e1:(48+n/10).toNat=48+n.toNat/10:=by omega
  have e2:(48+n%10).toNat=48+n.toNat%10:=by omega
  rw[e1,e2]
section
variable (L D:Nat)
theorem zT(n:Int):ev E L (D+2) 208 [.int .i64 n] []=some (.bool (decide (fN n)),[]):=by
 rw[ag5];simp only[iO,aA,aI];by_cases h:fN n
 ·rw[jc h];rw[jc h.1,jc h.2];rfl
 ·rw[jh h];have:(decide (0<=n)&&decide (n<=14))=false:=by
   rw[Bool.and_eq_false_iff];by_cases h2:0<=n
   ·exact .inr (by rw[jg];exact fun h3=>h ⟨h2,h3⟩)
   ·exact .inl (by rw[jg];exact h2)
  rw[this]
theorem NS(hL:1099511627776<=L)(s:S)(w:Int)(hs:s.length<=500000):ev E L (D+308) 204 [.str (bs s),.int .i64 w] []=some (.str (bs (eE s w)),[]):=by
 rw[ag3];have h1:=oK L (D+305) w;unfold eE;rw[h1];by_cases h:aR w
 ·have hw:isW w=true:=isW_iff.2 h;have h2:=NI L (D+306) w hw;have hm:=K5 L D hL (109::ltr w) s (by simp[C9]) hs
  simp only[rS]at hm;have hf:bH (sLen (bs [109])) (sLen (bs (ltr w))) 1=true:=by rw[cE,cE];exact aJ _ _ _ (by simp[C9])
  rw[jd h,NR h,hw];simp only[aA,aI,bI,aD,h2,bM,hf,aC,aU,d7,List.cons_append,qc,hm]
 ·have hw:isW w=false:=by rw[iP];exact jh h
  rw[jb h,hw]
  rfl
theorem F7(w n:Int):ev E L (D+3) 64 [.int .i64 w,.int .i64 n] []=some (.str (bs (bP w n)),[]):=by
 rw[akK];have h1:=oK L D w;have h2:=iO L (D+1) n 1 99;unfold bP;rw[h1];by_cases h:aR w
 ·have hw:isW w=true:=isW_iff.2 h;have h3:=NI L (D+1) w hw;rw[hw];simp only[aA,aI,bI,bW,aC,h2];by_cases hn:1<=n/\n<=99
  ·have e:(decide (1<=n)&&decide (n<=99))=true:=by rw[jc hn.1,jc hn.2];rfl
   have h4:=ai7 L (D+1) n (by omega) hn.2
   have hl:=Z9 n;have hf:bH (sLen (bs (ltr w))) (sLen (bs (CO n))) 1=true:=by rw[cE,cE];exact aJ _ _ _ (by rw[C9];omega)
   have hf2:bH (sLen (bs (ltr w++CO n))) (sLen (bs [59])) 1=true:=by rw[cE,cE];exact aJ _ _ _ (by rw[jk,C9];simp;omega)
   rw[jd ⟨h,hn⟩,NR h,wW (by omega) hn.2,e]
   simp only[bI,aD,h3,aA,bM,h4,hf,aC,d7,hf2]
  ·have e:(decide (1<=n)&&decide (n<=99))=false:=by
    rw[Bool.and_eq_false_iff];by_cases h2:1<=n
    ·exact .inr (by rw[jg];omega)
    ·exact .inl (by rw[jg];omega)
   rw[jb (fun x=>hn x.2),e];rfl
 ·have hw:isW w=false:=by rw[iP];exact jh h
  rw[jb (fun x=>h x.1),hw]
  rfl
theorem aaN:ev E L (D+1) 121 [] []=some (.agg [.own (treNew.map rS)],[]):=by
 rw[afF]
 rfl
theorem aaO(hL:1099511627776<=L)(s:S)(hs:s.length<=2000000):ev E L (D+307) 126 [.str (bs s)] []=some (.bool (!(decide (s=[])||isKey s)),[]):=by
 rw[afJ,dH,K6 L D hL s hs];by_cases h:s=[]
 ·rw[jc h];rfl
 ·rw[jh h];simp only[bW,aC,aA,aI,Bool.false_or]
  rfl
theorem NT(hL:1099511627776<=L)(ks:List S)(hk:ks.length<=1000000)(hs:∀s∈ks,s.length<=2000000):∀(m k:Nat),ks.length<m+k->k<=ks.length->
 ∃i:Int,oH L (D+307) m (ks.map rS) ks.length k=some (.int .i64 i,[])/\(decide (0<=i)=!((ks.drop k).all fun k=>decide (k=[])||isKey k))
 |0,k,h,hk'=>by omega
 |m+1,k,h,hk'=>by
  rw[AV];by_cases hlt:k<ks.length
  ·have h1:decide ((k:Int)<ks.length)=true:=by rw[ja];omega
   have a1:aG .i64 (k:Int) 1=((k+1:Nat):Int):=aO _ (by omega)
   have e:=kz hlt;have hix:ix ks (k:Int)=ks[k]:=aZ ks k hlt;have hc:=aaO L D hL ks[k] (hs _ (jr hlt));rw[e,va];obtain⟨i,ih,hi⟩:=NT hL ks hk hs m (k+1) (by omega) (by omega)
   simp(disch:=omega) only[aN,h1,aC,bQ,aA,eU,bM,hix,hc,aI,a1];cases hb:(decide (ks[k]=[])||isKey ks[k])with
   |true=>
    simp only[Bool.not_true,aD,ih,jw];exact⟨i,rfl,hi⟩
   |false=>
    simp only[Bool.not_false,aC,wd];exact⟨k,rfl,by rw[ja];omega⟩
  ·have h1:decide ((k:Int)<ks.length)=false:=by rw[jg];omega
   have e:ks.drop k=[]:=wk (by omega)
   rw[e,aN,h1,aD];exact⟨-1,rfl,rfl⟩
theorem TB(hL:1099511627776<=L)(ks:List S)(hk:ks.length<=1000000)(hs:∀s∈ks,s.length<=2000000):ev E L (D+310) 65 [.agg [.sl (ks.map rS)]] []=some (.bool (treOk ks),[]):=by
 rw[akL,cK,aF];unfold treOk;by_cases h:ks.length=15
 ·have h1:decide ((ks.length:Int)=15)=true:=by rw[ja];omega
  obtain⟨i,h2,h3⟩:=NT L D hL ks hk hs L 0 (by omega) (by omega)
  rw[h1,aC,ZZ,VO,aF];rw[show((0:Nat):Int)=0 from rfl]at h2
  rw[h2,jc h,jw];simp only[aA,bL,aI,cH,h3,kw];cases (ks.all fun k=>decide (k=[])||isKey k)<;>rfl
 ·have h1:decide ((ks.length:Int)=15)=false:=by rw[jg];omega
  rw[h1,aD,jh h];rfl
end
end Kw
namespace Kw
open Go Go.Proofs
def fO:S->Nat->List S
 |_,0=>[]
 |s,n+1=>s::fO (makNext s) n
theorem lU(s:S)(n:Nat):(fO s n).length=n:=by
 induction n generalizing s with
 |zero=>rfl
 |succ n ih=>simp[fO,ih]
theorem DC(p s:S):(mk1 p s).length<=300:=by
 unfold mk1;split
 ·rename_i h;rw[jk];exact h.2
 ·simp
theorem mJ(s:S):(makNext s).length<=300:=DC _ _
theorem F8(s:S):(makKey s).length<=300:=DC _ _
theorem A7(i:Nat):ups i=if i=0 then[]else(((i-1)/2:Nat):Int)::ups ((i-1)/2):=by
 conv=>lhs;rw[ups]
 split
 ·rfl
 ·rfl
theorem ups_rng(i:Nat):∀n∈ups i,0<=n/\n<i:=by
 induction i using Nat.strongRecOn with
 |ind i ih=>
  intro n hn;rw[A7]at hn;split at hn
  ·simp at hn
  ·rcases kh.1 hn with e|e
   ·subst e;omega
   ·have:=ih ((i-1)/2) (by omega) n e;omega
theorem K7(i:Nat)(h:i<=14):(ups i).length<=3:=by
 have:∀k:Fin 15,(ups k.val).length<=3:=by
  intro k;rw[A7];split
  ·simp
  ·rw[A7];split
   ·simp
   ·rw[A7];split
    ·simp
    ·rw[A7];split
     ·simp
     ·omega
 exact this ⟨i,by omega⟩
theorem kM{n:Int}:∀k∈cF n,0<=k/\k<=14:=by
 intro k hk;unfold cF at hk;split at hk
 ·rename_i h;have:=ups_rng n.toNat k hk;obtain⟨h0,h1⟩:=h;omega
 ·simp at hk
theorem rG{w:Int}(h:aR w):treLeaf w=7+w:=jd h
theorem pathOf_rng{w:Int}(h:aR w):∀k∈pathOf w,0<=k/\k<=14:=by
 intro k hk;rcases kh.1 hk with e|e
 ·rw[e,rG h];obtain⟨h0,h1⟩:=h;omega
 ·exact kM k e
theorem dK(n:Int):(cF n).length<=3:=by
 unfold cF;split
 ·rename_i h;obtain⟨h0,h1⟩:=h;exact K7 _ (by omega)
 ·simp
theorem fI(w:Int):(pathOf w).length<=4:=by
 have:=dK (treLeaf w);show(cF (treLeaf w)).length+1<=4;omega
section
variable (L D:Nat)
theorem adC(r:List Row):ev E L (D+1) 177 [.sl r] []=some (.sl r,[]):=by
 have h:E.ext 177=some BK:=rfl;unfold ev;simp only[h]
 rfl
theorem dX{F sz:Nat}(h:E.ext F=some (dS sz 1024))(rows:List Row)(ho:okR sz rows=true)(hl:rows.length<=1000000000):ev E L (D+1) F [.sl rows] []=some (.own rows,[]):=by
 have h2:dS sz 1024 [.sl rows]=some (.own rows):=by
  have hb:Nat.ble (rows.length*1024) 70368744177664=true:=Nat.ble_eq_true_of_le (by omega)
  show(if(okR sz rows&&(rows.length*1024).ble 70368744177664)=true then some (MV.own rows)else none)=_
  rw[ho,hb];rfl
 unfold ev;simp only[h,h2]
 rfl
theorem alJ:∀(i m:Nat) (done:List Int),i<m->i<=100->done.length+i<=1000->yY L (D+1) m (done.map rI) i done.length=some (.sl ((done++ups i).map rI),[]):=by
 intro i;induction i using Nat.strongRecOn with
 |ind i ih=>
  intro m done hm hi hd;obtain⟨m,rfl⟩:∃k,m=k+1:=⟨m-1,by omega⟩
  rw[GT,A7];by_cases h:i=0
  ·subst h;have g:iLt 0 ((0:Nat):Int)=false:=rfl;rw[g,aD,jd rfl,cK,aF,jz];simp only[yd,aC,adC,aA,eY]
  ·have g:iLt 0 (i:Int)=true:=by rw[aN,ja];omega
   have a1:bB .i64 (i:Int) 1=((i-1:Nat):Int):=by rw[eL (by omega) (by omega)];omega
   have a2:iD .i64 ((i-1:Nat):Int) 2=(((i-1)/2:Nat):Int):=by
    rw[kU (by omega) (by omega) (by omega)]
    exact(Int.natCast_ediv (i-1) 2).symm
   have z:iEq 2 0=false:=rfl;rw[g,aC,z,aD,a1,a2,jb h];have ih':=ih ((i-1)/2) (by omega) m (done++[(((i-1)/2:Nat):Int)]) (by omega) (by omega) (by simp;omega)
   have e:done++(((i-1)/2:Nat):Int)::ups ((i-1)/2)=(done++[(((i-1)/2:Nat):Int)])++ups ((i-1)/2):=by simp
   rw[e,<-ih'];have o1:okR 1 (done.map rI)=true:=jE done;have o2:okR 1 [[MV.int IntKind.i64 (((i-1)/2:Nat):Int)]]=true:=rfl;have hf:bH (nrows (done.map rI)) (nrows [[MV.int IntKind.i64 (((i-1)/2:Nat):Int)]]) 8=true:=by rw[aF];exact aJ _ _ _ (by show((done.length:Int)+1)*8<=_;omega)
   have c1:aM (done.map rI) [[MV.int IntKind.i64 (((i-1)/2:Nat):Int)]]=(done++[(((i-1)/2:Nat):Int)]).map rI:=dD rI done _;rw[aF]at hf;simp only[aU,aC,o1,o2,hf,dE,c1,aF]
theorem TC(hL:1099511627776<=L)(n:Int):ev E L (D+3) 129 [.int .i64 n] []=some (.sl ((cF n).map rI),[]):=by
 rw[afM,zT];unfold cF;by_cases h:fN n
 ·obtain⟨h0,h1⟩:=h;obtain⟨k,rfl⟩:=kv h0;have:=alJ L (D+1) k L [] (by omega) (by omega) (by simp;omega)
  rw[jc ⟨h0,h1⟩,jd ⟨h0,h1⟩];simp only[aA,aI,bI,aD];exact this
 ·rw[jh h,jb h];rfl
theorem oQ(w:Int)(h:aR w):ev E L (D+1) 128 [.int .i64 w] []=some (.int .i64 (treLeaf w),[]):=by
 rw[afL,rG h];obtain⟨h0,h1⟩:=h;rw[bT (by omega) (by omega)]
theorem A8(hL:1099511627776<=L)(w:Int)(h:aR w):ev E L (D+4) 67 [.int .i64 w] []=some (.sl ((pathOf w).map rI),[]):=by
 rw[akN,oQ L (D+2) w h];have hu:=TC L D hL (treLeaf w);have hl:=dK (treLeaf w);have o1:okR 1 ((cF (treLeaf w)).map rI)=true:=jE _;have o2:okR 1 [[MV.int IntKind.i64 (treLeaf w)]]=true:=rfl;have hf:bH (nrows [[MV.int IntKind.i64 (treLeaf w)]]) (nrows ((cF (treLeaf w)).map rI)) 8=true:=by rw[aF];exact aJ _ _ _ (by show(1+((cF (treLeaf w)).length:Int))*8<=_;omega)
 simp only[aA,bL,hu,eY,aU,o1,o2,hf,dE,aC]
 rfl
theorem TD(hL:1099511627776<=L)(n:Int):ev E L (D+4) 196 [.int .i64 n] []=some (.sl ((n::cF n).map rI),[]):=by
 rw[afW];have hu:=TC L D hL n;have hl:=dK n;have o1:okR 1 ((cF n).map rI)=true:=jE _;have o2:okR 1 [[MV.int IntKind.i64 n]]=true:=rfl;have hf:bH (nrows [[MV.int IntKind.i64 n]]) (nrows ((cF n).map rI)) 8=true:=by rw[aF];exact aJ _ _ _ (by show(1+((cF n).length:Int))*8<=_;omega)
 simp only[aA,hu,eY,aU,o1,o2,hf,dE,aC]
 rfl
theorem V7(n:Int):ev E L (D+3) 241 [.int .i64 n] []=some (.int .i64 (cC n),[]):=by
 rw[ag9,zT];unfold cC;by_cases h:fN n
 ·rw[jc h];obtain⟨h0,h1⟩:=h;by_cases hz:n=0
  ·subst hz;rfl
  ·have g:iEq n 0=false:=by rw[cK];exact jh hz
   have z:iEq 2 0=false:=rfl;have a1:aG .i64 n 1=n+1:=bT (by omega) (by omega)
   have a2:bB .i64 n 1=n-1:=eL (by omega) (by omega)
   rw[jd (by omega)]
   simp only[aA,aI,bI,bW,aC,g,z,aD,mE h0,a1,a2,cK];by_cases h2:n%2=1
   ·rw[jc h2,jd h2];rfl
   ·rw[jh h2,jb h2];rfl
 ·rw[jh h,jb (fun x=>h ⟨by omega,x.2⟩)];rfl
theorem NU(ks:List S)(hk:ks.length=15)(w:Int):ev E L (D+3) 66 [.agg [.sl (ks.map rS)],.int .i64 w] []=some (.bool (decide (aR w)&&hasLeaf ks w),[]):=by
 rw[akM,oK,iP];by_cases h:aR w
 ·rw[jc h,jw];have hl:=oQ L (D+1) w h;have e:=rG h;obtain⟨h0,h1⟩:=id h;have hr:=bQ (treLeaf w) ks (by omega) (by omega)
  unfold hasLeaf;simp only[aA,aI,aC,hl,bL,hr,eU,bM,dH];by_cases hz:ix ks (treLeaf w)=[]
  ·rw[jc hz,jh (fun x=>x hz)];rfl
  ·rw[jh hz,jc hz];rfl
 ·rw[jh h,wd];rfl
theorem DD(ks:List S)(hk:ks.length<=1000000):ev E L (D+2) 187 [.agg [.sl (ks.map rS)]] []=some (.agg [.own (ks.map rS)],[]):=by
 rw[afR,dX L D (F:=48) (sz:=1) rfl (ks.map rS) (gF ks) (by rw[kb];omega)]
 simp only[aA,eC,aU,aC]
end
end Kw
namespace Kw
open Go Go.Proofs
section
variable (L D:Nat)
theorem NV(hL:1099511627776<=L):∀(k m:Nat) (x:S) (pre:List S),k<m->x.length<=500000->pre.length+k<=1000->
 yZ L (D+308) m ((pre++[x]).map rS) ((pre.length+1+k:Nat):Int) ((pre.length+1:Nat):Int)=some (.sl ((pre++fO x (k+1)).map rS),[])
 |k,0,_,_,h,_,_=>by omega
 |k,m+1,x,pre,h,hx,hp=>by
  rw[GW];have hl:nrows ((pre++[x]).map rS)=((pre.length+1:Nat):Int):=by rw[aF];simp
  rw[hl];cases k with
  |zero=>
   have g:iLt ((pre.length+1:Nat):Int) ((pre.length+1+0:Nat):Int)=false:=by rw[aN,jg];omega
   simp only[aU,aC,g,aD]
   rfl
  |succ k=>
   have g:iLt ((pre.length+1:Nat):Int) ((pre.length+1+(k+1):Nat):Int)=true:=by rw[aN,ja];omega
   have a1:bB .i64 ((pre.length+1:Nat):Int) 1=(pre.length:Int):=by rw[eL (by omega) (by omega)];omega
   have hix:ix (pre++[x]) (pre.length:Int)=x:=by
    rw[aZ _ _ (by simp)];simp
   have r1:aL 1 ((pre++[x]).map rS) (pre.length:Int)=some (rS x):=by
    rw[bQ _ (pre++[x]) (by omega) (by simp;omega),hix]
   have r2:aS ((pre++[x]).map rS) (pre.length:Int)=some (rS x):=by
    rw[iG (pre++[x]) _ (by omega) (by simp;omega),hix]
   have hn:=A0 L D hL x hx;have ih:=NV hL k m (makNext x) (pre++[x]) (by omega) (by have:=mJ x;omega) (by simp;omega)
   have o1:okR 1 ((pre++[x]).map rS)=true:=gF _;have o2:okR 1 [[MV.str (bs (makNext x))]]=true:=rfl;have hf:bH ((pre.length+1:Nat):Int) (nrows [[MV.str (bs (makNext x))]]) 16=true:=aJ _ _ _ (by show(((pre.length+1:Nat):Int)+1)*16<=_;omega)
   have c1:aM ((pre++[x]).map rS) [[MV.str (bs (makNext x))]]=((pre++[x])++[makNext x]).map rS:=dD rS (pre++[x]) _;have c2:nrows (((pre++[x])++[makNext x]).map rS)=(((pre++[x]).length+1:Nat):Int):=by rw[aF];simp;omega
   simp only[aU,aC,g,a1,r1,r2,aA,eU,bM,hn,o1,o2,hf,dE,c1,c2];have e1:((pre.length+1+(k+1):Nat):Int)=(((pre++[x]).length+1+k:Nat):Int):=by simp;omega
   rw[e1,ih];simp[fO]
theorem TE(hL:1099511627776<=L)(s:S)(n:Nat)(h1:1<=n)(hn:n<=1000)(hs:s.length<=500000):ev E L (D+309) 206 [.str (bs s),.int .i64 n] []=some (.sl ((fO s n).map rS),[]):=by
 rw[ag4];obtain⟨k,rfl⟩:∃k,n=k+1:=⟨n-1,by omega⟩
 have:=NV L D hL k L s [] (by omega) hs (by simp;omega)
 simp only[qc,jj,vi,List.map_nil,qr]at this;have e:((k+1:Nat):Int)=((1+k:Nat):Int):=by omega
 rw[e];exact this
theorem aaP(hL:1099511627776<=L):∀(ns:List Int) (m:Nat) (x:S) (pre:List Int) (pres ks:List S),ns.length<m->pre.length=pres.length->pre.length+ns.length<=1000->ks.length=15->x.length<=500000->(∀n∈ns,0<=n/\n<=14)->
 yW L (D+309) m [] (ks.map rS) (nrows []) ks.length ((pre++ns).map rI) ((pres++fO x ns.length).map rS) ((pre.length+ns.length:Nat):Int) pre.length=some (.agg [.own ((lM ns x ks).map rS)],[])
 |_,0,_,_,_,_,h,_,_,_,_,_=>by omega
 |[],m+1,x,pre,pres,ks,h,he,hp,hk,hx,hr=>by
  rw[v6];have g:iLt (pre.length:Int) ((pre.length+([]:List Int).length:Nat):Int)=false:=by rw[aN,jg];simp
  rw[g,aD,cK,aF,jc rfl,aC]
  rfl
 |n::ns,m+1,x,pre,pres,ks,h,he,hp,hk,hx,hr=>by
  rw[v6];obtain⟨n0,n1⟩:=hr n (by simp)
  simp only[je]at h hp;have g:iLt (pre.length:Int) ((pre.length+(n::ns).length:Nat):Int)=true:=by rw[aN,ja];simp only[je];omega
  have hix1:ix (pres++fO x (n::ns).length) (pre.length:Int)=x:=by
   rw[he,aZ _ _ (by simp[lU])];simp[fO]
  have hix2:ix (pre++n::ns) (pre.length:Int)=n:=by
   rw[aZ _ _ (by simp)];simp
  have r1:=bQ (pre.length:Int) (pres++fO x (n::ns).length) (by omega) (by simp only[jk,lU,je];omega)
  have r2:=bR (pre.length:Int) (pre++n::ns) (by omega) (by simp only[jk,je];omega)
  rw[hix1]at r1;rw[hix2]at r2;have hkey:=nY L (D+1) hL x hx;rw[show D+1+308=D+309 by omega]at hkey
  have r3:=bQ n ks (by omega) (by omega)
  have r4:=iG ks n (by omega) (by omega)
  have a1:aG .i64 (pre.length:Int) 1=((pre.length+1:Nat):Int):=aO _ (by omega)
  have s1:setR (ks.map rS) n (rS (makKey x))=(ks.set n.toNat (makKey x)).map rS:=fT rS ks n _;have l1:cA (rS (ix ks n))=1:=rfl;have l2:iLe 1 1=true:=rfl;have ih:=aaP hL ns m (makNext x) (pre++[n]) (pres++[x]) (ks.set n.toNat (makKey x)) (by omega) (by simp[he]) (by simp;omega) (by simp[hk]) (by have:=mJ x;omega) (fun k hk=>hr k (by simp[hk]))
  have e1:(pre++[n])++ns=pre++n::ns:=by simp
  have e2:(pres++[x])++fO (makNext x) ns.length=pres++fO x (n::ns).length:=by simp[fO]
  have e3:(((pre++[n]).length+ns.length:Nat):Int)=((pre.length+(n::ns).length:Nat):Int):=by simp;omega
  have e4:(pre++[n]).length=pre.length+1:=by simp
  rw[e1,e2,e3,e4,kf]at ih;have q:iEq (ks.length:Int) (nrows (ks.map rS))=true:=by rw[aF,aU]
  have sr:setRow (rS (ix ks n)) 0 [MV.str (bs (makKey x))]=rS (makKey x):=rfl;simp only[g,aC,r1,r2,aA,eU,bM,eK,bL,hkey,q,r3,r4,l1,l2,sr,s1,a1,ih]
  rfl
theorem ae2(hL:1099511627776<=L)(ks:List S)(hk:ks.length=15)(w:Int)(hw:aR w)(s:S)(hs:s.length<=500000):ev E L (D+310) 122 [.agg [.sl (ks.map rS)],.int .i64 w,.str (bs s)] []=some (.agg [.own ((vO ks w s).map rS)],[]):=by
 rw[afG];have h1:=DD L (D+307) ks (by omega)
 have h2:=A8 L (D+305) hL w hw;have hl:=fI w;have h3:=TE L D hL s (pathOf w).length (by show 1<=(cF (treLeaf w)).length+1;omega) (by omega) hs
 have h4:=aaP L D hL (pathOf w) L s [] [] ks (by omega) rfl (by simp;omega) hk hs (pathOf_rng hw)
 simp only[qc,jj,qr]at h4;have n1:nrows ((pathOf w).map rI)=(pathOf w).length:=aF ..;have n2:nrows ((fO s (pathOf w).length).map rS)=(pathOf w).length:=by rw[aF,lU]
 have n3:nrows (ks.map rS)=ks.length:=aF ..;simp only[h1,aA,gAggN_if,je,jj,js,aP,eC,h2,eY,n1,h3,n2,n3];exact h4
theorem NW:∀(ns:List Int) (m:Nat) (pre:List Int) (ks:List S),ns.length<m->pre.length+ns.length<=1000->ks.length=15->(∀n∈ns,0<=n/\n<=14)->
 y4 L D m [] (ks.map rS) (nrows []) ks.length ((pre++ns).map rI) ((pre.length+ns.length:Nat):Int) pre.length=some (.agg [.own ((ns.foldl (fun ks n=>ks.set n.toNat []) ks).map rS)],[])
 |_,0,_,_,h,_,_,_=>by omega
 |[],m+1,pre,ks,h,hp,hk,hr=>by
  rw[v8];have g:iLt (pre.length:Int) ((pre.length+([]:List Int).length:Nat):Int)=false:=by rw[aN,jg];simp
  rw[g,aD,cK,aF,jc rfl,aC]
  rfl
 |n::ns,m+1,pre,ks,h,hp,hk,hr=>by
  rw[v8];obtain⟨n0,n1⟩:=hr n (by simp)
  simp only[je]at h hp;have g:iLt (pre.length:Int) ((pre.length+(n::ns).length:Nat):Int)=true:=by rw[aN,ja];simp only[je];omega
  have hix2:ix (pre++n::ns) (pre.length:Int)=n:=by
   rw[aZ _ _ (by simp)];simp
  have r2:=bR (pre.length:Int) (pre++n::ns) (by omega) (by simp only[jk,je];omega)
  rw[hix2]at r2;have r3:=bQ n ks (by omega) (by omega)
  have r4:=iG ks n (by omega) (by omega)
  have a1:aG .i64 (pre.length:Int) 1=((pre.length+1:Nat):Int):=aO _ (by omega)
  have s1:setR (ks.map rS) n (rS [])=(ks.set n.toNat []).map rS:=fT rS ks n _;have l1:cA (rS (ix ks n))=1:=rfl;have l2:iLe 1 1=true:=rfl;have ih:=NW ns m (pre++[n]) (ks.set n.toNat []) (by omega) (by simp;omega) (by simp[hk]) (fun k hk=>hr k (by simp[hk]))
  have e1:(pre++[n])++ns=pre++n::ns:=by simp
  have e3:(((pre++[n]).length+ns.length:Nat):Int)=((pre.length+(n::ns).length:Nat):Int):=by simp;omega
  have e4:(pre++[n]).length=pre.length+1:=by simp
  rw[e1,e3,e4,kf]at ih;have q:iEq (ks.length:Int) (nrows (ks.map rS))=true:=by rw[aF,aU]
  have sr:setRow (rS (ix ks n)) 0 [MV.str (bs [])]=rS []:=rfl;simp only[g,aC,r2,aA,eK,bL,q,r3,r4,l1,l2,sr,s1,a1,ih]
  rfl
theorem TF(hL:1099511627776<=L)(ks:List S)(hk:ks.length=15)(w:Int)(hw:aR w):ev E L (D+5) 280 [.agg [.sl (ks.map rS)],.int .i64 w] []=some (.agg [.own ((clr ks w).map rS)],[]):=by
 rw[agC];have h1:=DD L (D+2) ks (by omega)
 have h2:=A8 L D hL w hw;have hl:=fI w;have h4:=NW L (D+4) (pathOf w) L [] ks (by omega) (by simp;omega) hk (pathOf_rng hw)
 simp only[qc,jj,qr]at h4;have n1:nrows ((pathOf w).map rI)=(pathOf w).length:=aF ..;have n3:nrows (ks.map rS)=ks.length:=aF ..;simp only[h1,aA,gAggN_if,je,jj,js,aP,eC,h2,eY,n1,n3];exact h4
end
end Kw
