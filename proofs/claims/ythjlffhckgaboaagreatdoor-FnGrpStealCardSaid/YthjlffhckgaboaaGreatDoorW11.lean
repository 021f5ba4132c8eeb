import Derived.Test.YthjlffhckgaboaaGreatDoorW10
set_option linter.unusedVariables false
set_option linter.unusedSimpArgs false
set_option linter.unusedSectionVars false
namespace Kw
def axR(m:Member)(f:S)(a:Int)(lf ky:S):Prop:=
 (∃n,3<=n/\n<=99/\f=aO m.who n)/\((a<0/\lf=[]/\ky=[])\/(aH a/\∃n,1<=n/\n≠2/\n<=98/\lf=makKey (aO a n)/\ky=makKey (aO a (n+1))))
structure PI(M:Member->Prop)(C:Commit->Prop)(Q:S->Prop):Prop where
 no:M bC
 first:∀w,aH w->M (dP w (aO w 1) (aO w 2))
 com:∀m f a r lf ky,M m->cH m f a r lf ky=true->axR m f a lf ky->M (dG m f a r lf ky)/\C (eY m f a r lf ky)
 hear:∀m c b,M m->C c->memOk m=true->cP c=true->oB m c=true->c.remove≠m.who->b∈c.boxes->b.sec.length<=292->oR m.own b.key=true->eZ c.keys (aU (treMeet (treLeaf m.who) (treLeaf c.sender)) b.sec)=true->secOk (mS m c b.sec).init=true->M (mS m c b.sec)
 join:∀w lf c,C c->cP c=true->0<=c.add->c.add=w->secOk lf=true->makKey lf=c.leaf->memOk (pP w lf c)=true->M (pP w lf c)
 know:∀m s,M m->memOk m=true->m.inn=true->s=m.init\/(∃o∈m.own,s=o.sec)->Q s
structure WI(M:Member->Prop)(C:Commit->Prop)(Q:S->Prop)(w:World):Prop where
 mem:∀k:Nat,k<8->M (ix w.seats (k:Int))
 log:∀c∈w.log,C c
 spy:∀s∈w.spy,Q s
 fr:∀k:Nat,k<8->(ix w.fresh (k:Int)=0\/2<=ix w.fresh (k:Int))/\((ix w.seats (k:Int)).inn=true->2<=ix w.fresh (k:Int))
 wt:∀x∈w.waits,aH x.who/\2<=ix w.fresh x.who
theorem findBox_mem(own:List Own):∀(l:List Box),bP own l=[]\/∃b∈l,oR own b.key=true/\bP own l=b.sec
 |[]=>.inl rfl
 |b::r=>by
  unfold bP;split
  ·rename_i h;exact .inr ⟨b,qk,h,rfl⟩
  ·rcases findBox_mem own r with h|⟨x,hx,h⟩
   ·exact .inl h
   ·exact .inr ⟨x,kz _ hx,h⟩
theorem memHear_cases{m:Member}{c:Commit}(h:(dH m c).2=true):(dH m c).1=bC\/
 memOk m=true/\cP c=true/\oB m c=true/\c.remove≠m.who/\∃b∈c.boxes,b.sec.length<=292/\oR m.own b.key=true/\eZ c.keys (aU (treMeet (treLeaf m.who) (treLeaf c.sender)) b.sec)=true/\secOk (mS m c b.sec).init=true/\(dH m c).1=mS m c b.sec:=by
 unfold dH at h⊢;split at h
 case isFalse=>cases h
 rename_i h1;rw[je h1];split at h
 case isFalse=>cases h
 rename_i h2;rw[je h2];split at h
 ·rename_i h3;rw[je h3];exact .inl rfl
 ·rename_i h3;rw[jc h3];split at h
  case isFalse=>cases h
  rename_i h4;rw[je h4];right;refine⟨h1.1,h1.2,h2,h3,?_⟩;unfold hearPair at h4⊢;simp only at h4⊢;split at h4
  ·cases h4
  ·rename_i h5;rw[jc h5];split at h4
   case isFalse=>cases h4
   rename_i h6;rw[je h6];rcases findBox_mem m.own c.boxes with e|⟨b,hb,ho,e⟩
   ·exact absurd (.inl e) h5
   ·rw[e]at h4 h5 h6⊢;exact⟨b,hb,Nat.le_of_not_lt fun x=>h5 (.inr x),ho,h6,h4,rfl⟩
theorem RG{m:Member}{s:S}(h:s∈cO m):memOk m=true/\m.inn=true/\(s=m.init\/∃o∈m.own,s=o.sec):=by
 unfold cO at h;split at h
 ·rename_i h1;refine⟨h1.1,h1.2,?_⟩;rcases jv.1 h with h|h
  ·obtain⟨o,ho,e⟩:=qf.1 h;exact .inr ⟨o,ho,e.symm⟩
  ·exact .inl (qc.1 h)
 ·cases h
section
variable {M:Member->Prop} {C:Commit->Prop} {Q:S->Prop}
theorem WI.at{w:World}(z:WI M C Q w){i:Int}(hi:aH i):M (ix w.seats i):=by
 obtain⟨i0,i1⟩:=hi;obtain⟨k,rfl⟩:=kv i0;exact z.mem k (by omega)
theorem WI.frAt{w:World}(z:WI M C Q w){i:Int}(hi:aH i):(ix w.fresh i=0\/2<=ix w.fresh i)/\((ix w.seats i).inn=true->2<=ix w.fresh i):=by
 obtain⟨i0,i1⟩:=hi;obtain⟨k,rfl⟩:=kv i0;exact z.fr k (by omega)
theorem I6{A:Type} [Inhabited A]{l:List A}(hl:l.length=8){i:Int}(hi:aH i)(x:A)(k:Nat)(hk:k<8):ix (cA l i x) (k:Int)=if(k:Int)=i then x else ix l (k:Int):=by
 obtain⟨i0,i1⟩:=hi;unfold cA;split
 ·rename_i e;subst e;exact oE _ _ _ i0 (by omega)
 ·rename_i e;exact nK _ _ _ _ i0 (by omega) e
theorem XL{w:World}(p:PI M C Q)(g:WG w)(z:WI M C Q w){i:Int}{m:Member}(hi:aH i)(hm:M m)(hf:m.inn=true->2<=ix w.fresh i):
 (∀k:Nat,k<8->M (ix (cA w.seats i m) (k:Int)))/\∀k:Nat,k<8->(ix (cA w.seats i m) (k:Int)).inn=true->2<=ix w.fresh (k:Int):=by
 refine⟨fun k hk=>?_,fun k hk h=>?_⟩
 ·rw[I6 g.seats hi _ k hk];split
  ·exact hm
  ·exact z.mem k hk
 ·rw[I6 g.seats hi _ k hk]at h;split at h
  ·rename_i e;rw[e];exact hf h
  ·exact(z.fr k hk).2 h
theorem WI.new(p:PI M C Q){who:Int}(hw:aH who):WI M C Q (bN who):=by
 unfold bN;rw[je hw];refine⟨fun k hk=>?_,by simp,by simp,fun k hk=>?_,by simp⟩
 ·rw[aK _ k (by simpa using hk)]
  simp only[yw,List.getElem_range];split
  ·exact p.first _ hw
  ·exact p.no
 ·rw[aK _ k (by simpa using hk),aK _ k (by simpa using hk)]
  simp only[yw,List.getElem_range];split
  ·exact⟨.inr (by omega),fun _=>by omega⟩
  ·exact⟨.inl rfl,fun h=>by cases h⟩
theorem RH{m m':Member}{c:Commit}{fresh:S}{add remove:Int}{leaf key:S}(h:iA m fresh add remove leaf key=some (m',c)):cH m fresh add remove leaf key=true/\m'=dG m fresh add remove leaf key/\c=eY m fresh add remove leaf key:=pV h
theorem WI.commit(p:PI M C Q){w:World}(g:WG w)(z:WI M C Q w){e:Event}(hw:aH e.who){lf ky:S}(h99:ix w.fresh e.who<99)
 (ha:(e.add<0/\lf=[]/\ky=[])\/(aH e.add/\ix w.fresh e.add<98/\lf=aO e.add (ix w.fresh e.add+1)/\ky=aO e.add (ix w.fresh e.add+2))):WI M C Q (commitEnd w e lf ky):=by
 unfold commitEnd;split
 ·exact z
 ·rename_i m c hm;obtain⟨h1,h2,h3⟩:=RH hm;obtain⟨_,c2,_⟩:=jH h1;obtain⟨g1,g2⟩:=g.at hw;have gw:=g2 c2;have f1:=(z.frAt hw).2 c2;have hA:axR (ix w.seats e.who) (aO e.who (ix w.fresh e.who+1)) e.add (makKey lf) (makKey ky):=by
   refine⟨⟨ix w.fresh e.who+1,by omega,by omega,by rw[gw]⟩,?_⟩
   rcases ha with⟨a0,a1,a2⟩|⟨a0,a1,a2,a3⟩
   ·exact .inl ⟨a0,by rw[a1];decide+kernel,by rw[a2];decide+kernel⟩
   ·refine .inr ⟨a0,ix w.fresh e.add+1,?_,?_,by omega,by rw[a2],by rw[a3,Int.add_assoc];rfl⟩
    ·rcases(z.frAt a0).1 with h|h<;>omega
    ·rcases(z.frAt a0).1 with h|h<;>omega
  obtain⟨p1,p2⟩:=p.com _ _ _ _ _ _ (z.at hw) h1 hA;rw[<-h2]at p1;rw[<-h3]at p2;obtain⟨q1,q2⟩:=XL p g z hw (m:=m) p1 (fun _=>f1)
  have hfr:∀k:Nat,k<8->ix (cA w.fresh e.who (ix w.fresh e.who+1)) (k:Int)=if(k:Int)=e.who then ix w.fresh e.who+1 else ix w.fresh (k:Int):=fun k hk=>I6 g.fresh hw _ k hk
  have hle:∀k:Nat,k<8->ix w.fresh (k:Int)<=ix (if 0<=e.add then cA (cA w.fresh e.who (ix w.fresh e.who+1)) e.add (ix (cA w.fresh e.who (ix w.fresh e.who+1)) e.add+2)else cA w.fresh e.who (ix w.fresh e.who+1)) (k:Int)/\
   (ix (if 0<=e.add then cA (cA w.fresh e.who (ix w.fresh e.who+1)) e.add (ix (cA w.fresh e.who (ix w.fresh e.who+1)) e.add+2)else cA w.fresh e.who (ix w.fresh e.who+1)) (k:Int)=ix w.fresh (k:Int)\/2<=ix (if 0<=e.add then cA (cA w.fresh e.who (ix w.fresh e.who+1)) e.add (ix (cA w.fresh e.who (ix w.fresh e.who+1)) e.add+2)else cA w.fresh e.who (ix w.fresh e.who+1)) (k:Int))/\
   (0<=e.add->(k:Int)=e.add->2<=ix (if 0<=e.add then cA (cA w.fresh e.who (ix w.fresh e.who+1)) e.add (ix (cA w.fresh e.who (ix w.fresh e.who+1)) e.add+2)else cA w.fresh e.who (ix w.fresh e.who+1)) (k:Int)):=fun k hk=>by
   have hk0:=(z.fr k hk).1;split
   ·rename_i h0;have hadd:aH e.add:=by
     rcases ha with⟨a0,_⟩|⟨a0,_⟩
     ·omega
     ·exact a0
    rw[I6 (by rw[sK];exact g.fresh) hadd _ k hk]
    split
    ·rename_i ek;rw[<-ek,hfr k hk];split<;>rename_i e2
     ·rw[<-e2]at f1⊢;omega
     ·omega
    ·rename_i ek;rw[hfr k hk];split<;>rename_i e2
     ·rw[<-e2]at f1⊢;exact⟨by omega,by omega,fun _ x=>absurd x ek⟩
     ·exact⟨by omega,by omega,fun _ x=>absurd x ek⟩
   ·rename_i h0;rw[hfr k hk];split<;>rename_i e2
    ·rw[<-e2]at f1⊢;exact⟨by omega,by omega,fun x=>absurd x h0⟩
    ·exact⟨by omega,by omega,fun x=>absurd x h0⟩
  refine⟨q1,fun d hd=>?_,z.spy,fun k hk=>⟨?_,fun hi=>?_⟩,fun x hx=>?_⟩
  ·rcases jv.1 hd with hd|hd
   ·exact z.log d hd
   ·rw[qc.1 hd];exact p2
  ·have:=hle k hk;have:=(z.fr k hk).1;simp only;omega
  ·have:=hle k hk;have:=q2 k hk hi;simp only;omega
  ·simp only at hx⊢;have old:∀x∈w.waits,aH x.who/\2<=ix (if 0<=e.add then cA (cA w.fresh e.who (ix w.fresh e.who+1)) e.add (ix (cA w.fresh e.who (ix w.fresh e.who+1)) e.add+2)else cA w.fresh e.who (ix w.fresh e.who+1)) x.who:=fun x hx=>by
    obtain⟨x1,x2⟩:=z.wt x hx;refine⟨x1,?_⟩;obtain⟨i0,i1⟩:=x1;obtain⟨k,hk⟩:=kv i0;rw[hk]at x2⊢;have:=hle k (by omega)
    omega
   by_cases h0:0<=e.add
   ·rw[je h0]at hx;rcases jv.1 hx with hx|hx
    ·exact old x hx
    ·rw[qc.1 hx];have hadd:aH e.add:=by
      rcases ha with⟨a0,_⟩|⟨a0,_⟩
      ·omega
      ·exact a0
     refine⟨hadd,?_⟩;obtain⟨i0,i1⟩:=hadd;obtain⟨k,hk⟩:=kv i0;have:=(hle k (by omega)).2.2 h0 hk.symm
     rw[<-hk]at this;exact this
   ·rw[jc h0]at hx;exact old x hx
theorem WI.step(p:PI M C Q){w:World}(g:WG w)(z:WI M C Q w)(e:Event):WI M C Q (step w e):=by
 unfold Kw.step;by_cases hw:aH e.who
 ·rw[je hw];split
  ·unfold bV;split
   ·exact z
   ·rename_i h;have h99:ix w.fresh e.who<99:=by
     refine Int.lt_of_not_ge fun x=>h (.inr (.inl x))
    have ha: -1<=e.add/\e.add<=7:=by
     refine Decidable.byContradiction fun x=>h (.inr (.inr (.inl x)))
    split
    ·rename_i h0;exact WI.commit p g z hw h99 (.inr ⟨⟨h0,ha.2⟩,Int.lt_of_not_ge fun x=>h (.inr (.inr (.inr ⟨h0,x⟩))),rfl,rfl⟩)
    ·exact WI.commit p g z hw h99 (.inl ⟨by omega,rfl,rfl⟩)
  split
  ·unfold cF;split
   ·exact z
   ·refine⟨z.mem,z.log,fun s hs=>?_,z.fr,z.wt⟩
    rcases jv.1 hs with hs|hs
    ·exact z.spy s hs
    ·obtain⟨k1,k2,k3⟩:=RG hs;exact p.know _ _ (z.at hw) k1 k2 k3
  split
  ·unfold eM;split
   ·exact z
   ·split
    ·exact⟨z.mem,z.log,z.spy,z.fr,z.wt⟩
    ·exact z
  split
  ·split
   ·rename_i hp;unfold dQ;simp only;split
    ·rename_i h;have hc:=z.log _ (UL (l:=w.log) hp.1 hp.2);have hM:M (dH (ix w.seats e.who) (ix w.log e.pos)).1:=by
      rcases memHear_cases h with e|⟨h1,h2,h3,h8,b,hb,h4,h5,h6,h7,e⟩
      ·rw[e];exact p.no
      ·rw[e];exact p.hear _ _ _ (z.at hw) hc h1 h2 h3 h8 hb h4 h5 h6 h7
     obtain⟨q1,q2⟩:=XL p g z hw hM (fun hi=>(z.frAt hw).2 ((EK h).2 hi).1)
     exact⟨q1,z.log,z.spy,fun k hk=>⟨(z.fr k hk).1,q2 k hk⟩,z.wt⟩
    ·exact z
   ·exact z
  split
  ·split
   ·rename_i hp;have hc:=z.log _ (UL (l:=w.log) hp.1 hp.2);unfold dF;split
    ·exact z
    ·have:∀(l:List Wait) (k:Nat),(∀x∈l,x∈w.waits)->WI M C Q (joinGo w e.who e.pos l k):=fun l=>by
      induction l with
      |nil=>intro k _;exact z
      |cons x r ih=>
       intro k hl;rw[joinGo];split
       ·rename_i hx;split
        ·rename_i m hm;unfold iR at hm;split at hm
         case isFalse=>cases hm
         rename_i h1;cases hm;obtain⟨a1,a2,a3,a4,_,a6,_,_,a9⟩:=h1;have hM:=p.join e.who x.leaf _ hc a1 a2 a3 a4 a6 a9;obtain⟨q1,q2⟩:=XL p g z hw hM (fun _=>by
          have:=(z.wt x (hl x qk)).2;rw[hx.1]at this;exact this)
         exact⟨q1,z.log,z.spy,fun k hk=>⟨(z.fr k hk).1,q2 k hk⟩,fun y hy=>z.wt y (List.mem_of_mem_eraseIdx hy)⟩
        ·exact ih (k+1) (fun y hy=>hl y (kz _ hy))
       ·exact ih (k+1) (fun y hy=>hl y (kz _ hy))
     exact this _ _ fun x hx=>hx
   ·exact z
  split
  ·split
   ·unfold eN;split
    ·exact z
    ·split
     ·exact⟨z.mem,z.log,z.spy,z.fr,z.wt⟩
     ·exact z
   ·exact z
  ·exact z
 ·rw[jc hw];exact z
theorem WI.run(p:PI M C Q){w:World}(g:WG w)(z:WI M C Q w)(l:List Event):WI M C Q (run w l):=by
 unfold Kw.run;induction l generalizing w with
 |nil=>exact z
 |cons e r ih=>exact ih (g.step e) (z.step p g e)
end
end Kw
namespace Kw
def NR(s:S):Prop:=(114:UInt8)∉s
theorem NR.nil:NR []:=by simp[NR]
theorem NR.mk1{p s:S}(hp:NR p)(h:NR s):NR (Kw.mk1 p s):=by
 unfold Kw.mk1;split
 ·unfold NR at*;simp[hp,h]
 ·exact NR.nil
theorem NR.next{s:S}(h:NR s):NR (makNext s):=NR.mk1 (by simp[NR]) h
theorem NR.key{s:S}(h:NR s):NR (makKey s):=NR.mk1 (by simp[NR]) h
theorem NR.epoch{a b:S}(ha:NR a)(hb:NR b):NR (bO a b):=by
 unfold bO;split
 ·unfold NR at*;simp[ha,hb]
 ·exact NR.nil
theorem XM{n:Nat}(h:n<=7):letter n≠114:=fun e=>by
 have:=jG h;rw[e]at this;have:(114:UInt8).toNat=114:=rfl;omega
theorem GR{n:Nat}(h:n<=9):hD n≠114:=fun e=>by
 have:=eR h;rw[e]at this;have:(114:UInt8).toNat=114:=rfl;omega
theorem NR.new(w n:Int):NR (aO w n):=by
 unfold aO;split
 ·rename_i h;obtain⟨⟨w0,w1⟩,n0,n1⟩:=h;have hl:=XM (n:=w.toNat) (by omega)
  unfold NR C0;by_cases h9:n.toNat<=9
  ·rw[nI h9];have:=GR h9;simp[Ne.symm hl,Ne.symm this]
  ·rw[yT (by omega) (by omega)]
   have d1:=GR (n:=n.toNat/10) (by omega)
   have d2:=GR (n:=n.toNat%10) (by omega)
   simp[Ne.symm hl,Ne.symm d1,Ne.symm d2]
 ·exact NR.nil
theorem NR.path:∀(ns:List Int) {s:S},NR s->∀o∈pathGo ns s,NR o.sec
 |[],_,_,_,h=>by cases h
 |n::ns,s,h,o,ho=>by
  rcases ko.1 ho with rfl|ho
  ·exact h
  ·exact NR.path ns h.next o ho
def NRM(m:Member):Prop:=NR m.init/\(∀o∈m.own,NR o.sec)/\∀k∈m.keys,NR k
structure NRC(c:Commit):Prop where
 keys:∀k∈c.keys,NR k
 box:∀b∈c.boxes,NR b.key/\NR b.sec
 leaf:NR c.leaf
 wel:NR c.wik/\NR c.wis/\NR c.wsk/\NR c.wss
theorem room_mem{n:Nat}{t:Sec}:¬NR (Sec.room n t).str:=by simp[NR,Sec.str]
theorem aqO{l:List S}(hl:∀s∈l,s.head?=some 114):∀t:Sec,NR t.str->mkS (inS l) t=false:=by
 intro t;have key:∀t:Sec,NR t.str->inS l t.str=false:=fun t ht=>by
  unfold inS;rw[jh];intro hm;have:=hl _ hm;apply ht;cases e:t.str with
  |nil=>rw[e]at this;cases this
  |cons c r=>rw[e]at this;simp only[List.head?_cons,Option.some.injEq]at this;rw[this];exact qk
 induction t with
 |new w n=>intro h;exact key _ h
 |next t ih|key t ih=>
  intro h;have hs:NR t.str:=by unfold NR at*;simp[Sec.str]at h;exact h
  simp[mkS,key _ h,ih hs]
 |say w t ih=>
  intro h;have hs:NR t.str:=by unfold NR at*;simp[Sec.str]at h;exact h.2
  simp[mkS,key _ h,ih hs]
 |room n t ih=>intro h;exact absurd h room_mem
 |epoch a b ha hb=>
  intro h;have hs:NR a.str/\NR b.str:=by unfold NR at*;simp[Sec.str]at h;exact h
  simp[mkS,key _ h,ha hs.1]
theorem RI{l:List S}(hl:∀s∈l,s.head?=some 114){s:S}(h:NR s):dR l s=false:=by
 unfold dR;split
 ·rename_i t e;obtain⟨_,rfl,_⟩:=iX.1 e;exact aqO hl t h
 ·rfl
def LnM(m:Member):Prop:=m.inn=true->m.epoch=(count m.tag:Nat)/\m.init.length<=4+9*count m.tag
def LnC(c:Commit):Prop:=(ix c.keys 0).length<=8/\(0<=c.add->c.wis.length<=4+9*(count c.tag+1))
end Kw
namespace Kw
theorem PN{c:Commit}(h:cP c=true):(rK c).length<=22/\∀b∈rK c,secOk b.key=true/\secOk b.sec=true:=by
 unfold cP at h;simp only[jg,jb]at h;obtain⟨_,_,h7,h8,h9⟩:=h;unfold iQ at h7;simp only[jg,kj]at h7;unfold rK;split
 ·rename_i h0;rw[jc (by omega)]at h9
  simp only[jg,jb]at h9;obtain⟨_,k2,⟨_,k4,k5⟩,k6,k7⟩:=h9;refine⟨by simp;omega,fun b hb=>?_⟩
  rcases jv.1 hb with hb|hb
  ·exact h7.2 b hb
  ·simp only[ko,List.not_mem_nil,or_false]at hb;have hk:=nJ k2;rcases hb with rfl|rfl
   ·exact⟨by rw[k4];exact hk,k6⟩
   ·exact⟨by rw[k5];exact hk,k7⟩
 ·refine⟨by simp;omega,fun b hb=>?_⟩
  rw[ka]at hb;exact h7.2 b hb
theorem LO{w:World}(z:WG w):(cY w).length<=352/\(∀b∈cY w,secOk b.key=true/\secOk b.sec=true)/\iQ (cY w)=true:=by
 have h1:∀l:List Commit,(∀c∈l,cP c=true)->(l.flatMap rK).length<=22*l.length/\∀b∈l.flatMap rK,secOk b.key=true/\secOk b.sec=true:=fun l=>by
  induction l with
  |nil=>intro _;simp
  |cons c r ih=>
   intro h;obtain⟨a1,a2⟩:=PN (h c qk);obtain⟨b1,b2⟩:=ih fun x hx=>h x (kz _ hx)
   rw[kx];refine⟨by rw[jl,jf];omega,fun b hb=>?_⟩
   rcases jv.1 hb with hb|hb
   ·exact a2 b hb
   ·exact b2 b hb
 obtain⟨a,b⟩:=h1 w.log z.logI;have hl:=z.log;have hle:(cY w).length<=352:=by unfold cY;omega
 refine⟨hle,b,?_⟩;unfold iQ;simp only[jg,jb,kj];exact⟨by omega,b⟩
theorem ac5{known:List S}{boxes:List Box}(hk:∀s∈known,secOk s=true)(hb:∀b∈boxes,secOk b.key=true/\secOk b.sec=true):∀s∈hY known boxes,secOk s=true:=fun s hs=>by
 rcases opened_from hs with h|⟨b,h,rfl⟩
 ·exact hk s h
 ·exact(hb b h).2
theorem UP{w:World}(z:WG w):∀s∈eW w,secOk s=true:=ac5 z.spyI (LO z).2.1
theorem PO{w:World}(z:WG w){s:S}(h:s∈eW w):C8 w s=true:=by
 unfold C8 C7;rw[UP z s h];exact oY h (UP z s h)
theorem akQ{w:World}(z:WG w)(h:w.stolen=[]):w.spy=[]:=by
 have:=z.spyN;rw[h]at this;exact ym (by simpa using this)
theorem LP{w:World}{e:Event}(hk:e.kind=4)(hw:aH e.who):step w e=cF w e.who:=by
 unfold step;rw[je hw,jc (by omega),je hk]
theorem one{w:World}(z:WG w)(h:w.stolen=[]){i:Int}(hi:aH i)(hin:(ix w.seats i).inn=true){e:Event}(hk:e.kind=4)(he:e.who=i):
 eW (step w e)=hY (cO (ix w.seats i)) (cY w)/\C8 (step w e) (ix w.seats i).init=true:=by
 have zs:=z.step e;have e1:step w e={w with spy:=w.spy++cO (ix w.seats i),stolen:=w.stolen++[⟨i,(ix w.seats i).tag⟩]}:=by
  rw[LP hk (he▸hi),he];unfold cF;rw[jc];rw[hin,h];simp
 refine⟨?_,PO zs ?_⟩
 ·rw[e1];unfold eW;show hY (w.spy++cO _) (cY w)=_;rw[akQ z h];rfl
 ·unfold eW;apply pW;rw[e1];refine jn _ ?_;unfold cO;rw[je ⟨(z.at hi).1,hin⟩];simp
theorem I7{s:S}{r:Int}(hs:secOk s=true)(hl:s.length<=298)(h1:1<=r)(h2:r<=9):∃t:Sec,t.wf/\s=t.str/\(Sec.room r.toNat t).wf/\dA s r=(Sec.room r.toNat t).str/\secOk (dA s r)=true:=by
 obtain⟨t,t1,t2,t3⟩:=cK.1 hs;have e:dA s r=(Sec.room r.toNat t).str:=by
  unfold dA mk1;rw[je ⟨h1,h2⟩,nI (by omega),je ⟨hs,by simp;omega⟩,t2]
  rfl
 have hw:(Sec.room r.toNat t).wf:=⟨by omega,by omega,t1⟩
 refine⟨t,t1,t2,hw,e,?_⟩;rw[e];exact cK.2 ⟨_,hw,rfl,by rw[t2]at hl;simp[Sec.str];omega⟩
theorem LQ{l:List S}{s:S}{r:Int}(hs:secOk s=true)(hl:s.length<=298)(h1:1<=r)(h2:r<=9)(hn:dA s r∉l):dR l (dA s r)=dR l s:=by
 obtain⟨t,t1,t2,t3,t4,t5⟩:=I7 hs hl h1 h2;have e1:sec (dA s r)=some (Sec.room r.toNat t):=by
  rw[t4];exact I4 t3 (by rw[t2]at hl;simp[Sec.str];omega)
 have e2:sec s=some t:=by rw[t2];exact I4 t1 (by rw[<-t2];omega)
 unfold dR;rw[e1,e2];have:inS l (Sec.room r.toNat t).str=false:=by unfold inS;rw[<-t4];exact ji hn
 simp[mkS,this]
structure RoomsOk(w:World):Prop where
 g:WG w
 nr:WI NRM NRC NR w
 ln:WI LnM LnC (fun _=>True) w
theorem UQ{w:World}(z:RoomsOk w):∀b∈cY w,NR b.key/\NR b.sec:=fun b hb=>by
 obtain⟨c,hc,hb⟩:=List.mem_flatMap.1 hb;have h:=z.nr.log c hc;unfold rK at hb;rcases jv.1 hb with hb|hb
 ·exact h.box b hb
 ·split at hb
  ·simp only[ko,List.not_mem_nil,or_false]at hb;rcases hb with rfl|rfl
   ·exact⟨h.wel.1,h.wel.2.1⟩
   ·exact⟨h.wel.2.2.1,h.wel.2.2.2⟩
  ·cases hb
theorem PP{w:World}(z:RoomsOk w){i:Int}(hi:aH i)(hin:(ix w.seats i).inn=true):secOk (ix w.seats i).init=true/\(ix w.seats i).init.length<=298/\NR (ix w.seats i).init:=by
 have e:=pU (z.g.at hi).1 hin;obtain⟨l1,l2⟩:=z.ln.at hi hin;have h12:=e.ep.2;exact⟨e.init,by omega,(z.nr.at hi).1⟩
theorem PQ{s:S}{r:Int}(h:dA s r≠[]):(dA s r).head?=some 114:=by
 unfold dA mk1 at h⊢;split
 ·rename_i h1;rw[je h1]at h;split
  ·rfl
  ·rename_i h2;rw[jc h2]at h;exact absurd rfl h
 ·rename_i h1;rw[jc h1]at h;exact absurd rfl h
theorem agU{s:S}{r r':Int}(hs:secOk s=true)(hl:s.length<=298)(h1:1<=r/\r<=9)(h2:1<=r'/\r'<=9)(h:dA s r=dA s r'):r=r':=by
 unfold dA mk1 at h;rw[je h1,je h2,nI (by omega),nI (by omega),je ⟨hs,by simp;omega⟩,je ⟨hs,by simp;omega⟩]at h
 simp only[Js,qg,List.cons.injEq,and_true,true_and]at h;have:=wo UInt8.toNat h;rw[eR (by omega),eR (by omega)]at this
 omega
theorem room{w:World}(z:RoomsOk w){i r r':Int}(hi:aH i)(hin:(ix w.seats i).inn=true)(h1:1<=r/\r<=9)(h2:1<=r'/\r'<=9)(hne:r≠r'):
 C7 [dA (ix w.seats i).init r] (cY w) (ix w.seats i).init=false/\C7 [dA (ix w.seats i).init r] (cY w) (dA (ix w.seats i).init r')=false/\
 C7 [(ix w.seats i).init] (cY w) (dA (ix w.seats i).init r)=true:=by
 obtain⟨a,b,c⟩:=PP z hi hin;obtain⟨_,_,_,_,_,ho⟩:=I7 a b h1.1 h1.2;obtain⟨_,_,_,_,_,ho'⟩:=I7 a b h2.1 h2.2;have hop:∀s∈hY [dA (ix w.seats i).init r] (cY w),s=dA (ix w.seats i).init r:=by
  refine LL (fun x hx l hl hm=>?_) (by simp)
  rw[RI (fun s hs=>by rw[hl s hs];exact PQ (mT ho)) (UQ z x hx).1]at hm
  cases hm
 have hhd:∀s∈hY [dA (ix w.seats i).init r] (cY w),s.head?=some 114:=fun s hs=>by rw[hop s hs];exact PQ (mT ho)
 unfold C7;refine⟨?_,?_,?_⟩
 ·rw[RI hhd c,Bool.and_false]
 ·rw[LQ a b h2.1 h2.2 (fun hm=>hne (agU a b h1 h2 (hop _ hm).symm)),RI hhd c,Bool.and_false]
 ·rw[ho,jy];by_cases hm:dA (ix w.seats i).init r∈hY [(ix w.seats i).init] (cY w)
  ·exact oY hm ho
  ·rw[LQ a b h1.1 h1.2 hm];exact oY (pW (qc.2 rfl)) a
theorem US{w:World}(z:WG w){e:Event}(hk:e.kind=4)(hw:aH e.who):
 (∀s∈eW w,s∈eW (step w e))/\(w.stolen.length< (step w e).stolen.length->∀s∈cO (ix w.seats e.who),s∈eW (step w e))/\
 ({step w e with spy:=w.spy,stolen:=w.stolen}=w):=by
 rw[LP hk hw];unfold cF;split
 ·exact⟨fun s hs=>hs,fun h=>absurd h (yz _),rfl⟩
 ·refine⟨fun s hs=>?_,fun _ s hs=>pW (jn _ hs),rfl⟩
  refine HZ (fun x hx=>pW (jw _ hx)) (fun b hb=>hb) s hs
end Kw
namespace Kw
open Go Go.Proofs
theorem aoW(a b:S):sEq (bs a) (bs b)=decide (a=b):=sEq_bs a b
section
variable (L D:Nat)
theorem aiL(hL:1099511627776<=L)(s:S)(hs:secOk s=true):ev E L (D+307) 138 [.str (bs s)] []=some (.bool false,[]):=by
 have hl:=bS hs;rw[atL];simp only[KM];rw[jI L D hL s (by omega),hs]
 rfl
theorem P2(hL:1099511627776<=L)(l:List S)(hl:l.length<=1000000)(hs:∀s∈l,secOk s=true):∀(m k:Nat),l.length<m+k->k<=l.length->
 oF L (D+307) m (l.map rS) l.length k=some (.int .i64 (-1),[])
 |0,k,h,hk'=>by omega
 |m+1,k,h,hk'=>by
  rw[sW];simp only[KM];by_cases hlt:k<l.length
  ·have h1:iLt (k:Int) l.length=true:=by rw[iLt_dec,jb];omega
   have a1:bR .i64 (k:Int) 1=((k+1:Nat):Int):=aG _ (by omega)
   have r:=aW (k:Int) l (by omega) (by omega)
   rw[aK l k hlt]at r;have hc:=aiL L D hL l[k] (hs l[k] (jt hlt));have ih:=P2 hL l hl hs m (k+1) (by omega) (by omega)
   simp only[h1,br_true',r,bnd_some',dX,gStr_s,hc,gBool_b,br_false',a1];exact ih
  ·have h1:iLt (k:Int) l.length=false:=by rw[iLt_dec,jh];omega
   rw[h1,br_false']
theorem adV(hL:1099511627776<=L)(known:List S)(l:List Box)(hk:known.length<=400)(hks:∀s∈known,secOk s=true)(hl:l.length<=400)(hs:∀b∈l,secOk b.key=true/\secOk b.sec=true):
 ev E L (D+310) 76 [.sl (known.map rS),.sl (l.map rB)] []=some (.bool true,[]):=by
 rw[apN];simp only[KM];rw[nrows_map,nrows_map,iLe_dec,iLe_dec];have g0:decide ((known.length:Int)<=400)=true:=by rw[jb];omega
 have g:decide ((l.length:Int)<=400)=true:=by rw[jb];omega
 obtain⟨i,h2,h3⟩:=GX L D hL l (by omega) (fun b hb=>⟨by have:=bS (hs b hb).1;omega,by have:=bS (hs b hb).2;omega⟩) L 0 (by omega) (by omega)
 have hz:=P2 L D hL known (by omega) hks L 0 (by omega) (by omega)
 have ha:((l.drop 0).all fun b=>secOk b.key&&secOk b.sec)=true:=by
  rw[qb,kj];intro b hb;rw[(hs b hb).1,(hs b hb).2];rfl
 rw[ha]at h3;rw[show((0:Nat):Int)=0 from rfl]at h2 hz
 rw[g0,br_true',g,br_true',UW];simp only[KM];rw[PW,nrows_map,hz];have gm:iLe 0 (-1)=false:=rfl;simp only[bnd_some',gInt_i,gm,gBool_b,bNot_f,br_true'];rw[PV];simp only[KM];rw[PX,nrows_map,h2];simp only[bnd_some',gInt_i,gBool_b,iLe_dec,h3]
 rfl
def oG(es:List (ByteArray×Bool))(l:List S):Prop:=∀s:S,nG es (bs s)=inS l s
theorem oG.nil:oG [] []:=fun _=>rfl
theorem oG.put{es:List (ByteArray×Bool)}{l:List S}(h:oG es l)(s:S):oG (wY es (bs s) true) (l++[s]):=fun x=>by
 rw[CW,h x];have e:((bs s).toList==(bs x).toList)=decide (s=x):=aoW s x;rw[e];unfold inS;by_cases hx:s=x
 ·subst hx;simp
 ·rw[ji hx];simp[Ne.symm hx]
def Sec.ht:Sec->Nat
 | .new _ _=>0
 | .next t=>t.ht+1
 | .key t=>t.ht+1
 | .epoch a b=>a.ht+b.ht+1
 | .say _ t=>t.ht+1
 | .room _ t=>t.ht+1
theorem awQ(t:Sec):t.ht<t.str.length:=by
 induction t with
 |new=>simp[Sec.ht,Sec.str]
 |epoch a b ha hb=>simp[Sec.ht,Sec.str];omega
 |_=>simp[Sec.ht,Sec.str];omega
theorem MH{t:Sec}(hw:t.wf)(hl:t.str.length<=300):aN t.str=t.how:=by
 unfold aN;rw[I4 hw hl]
theorem aaL(hL:1099511627776<=L)(k:Nat)(es:List (ByteArray×Bool))(l:List S)(hm:oG es l){t u:Sec}(hw:t.wf)(hl:t.str.length<=300)(ho:1<t.how.op)(ha:t.how.a=u.str)(hb:t.how.b=[])(hk:mkS (inS l) t=(inS l t.str||mkS (inS l) u))
 (ih:ev E L (D+305+k) 152 [.mapr (.imp 0),.str (bs u.str)] [.map es]=some (.bool (mkS (inS l) u),[.map es])):
 ev E L (D+305+(k+1)) 152 [.mapr (.imp 0),.str (bs t.str)] [.map es]=some (.bool (mkS (inS l) t),[.map es]):=by
 rw[show D+305+(k+1)=D+305+k+1 by omega,X1];simp only[KM];rw[hm,hk]
 have h1:=wJ L (D+k) hL t.str (by omega)
 rw[show D+k+305=D+305+k by omega,MH hw hl,ha,hb]at h1
 have g:iLt 1 t.how.op=true:=by rw[iLt_dec];exact jd ho
 have se:sEq (bs []) (bs [])=true:=by rw[sEq_bs];exact jd rfl
 cases inS l t.str with
 |true=>rfl
 |false=>
  simp only[br_false',h1,bnd_some',gAggN_if,jf,jk,ju,cellAt_zero,cellAt_succ,gInt_i,gStr_s,g,br_true',ih,iG,CS,gBool_b,se,bNot_t,Bool.false_or];cases mkS (inS l) u<;>rfl
theorem aAU(hL:1099511627776<=L)(es:List (ByteArray×Bool))(l:List S)(hm:oG es l):∀(t:Sec) (k:Nat),t.wf->t.str.length<=300->t.ht<=k->
 ev E L (D+305+(k+1)) 152 [.mapr (.imp 0),.str (bs t.str)] [.map es]=some (.bool (mkS (inS l) t),[.map es]):=by
 intro t;induction t with
 |new w n=>
  intro k hw hl _;rw[show D+305+(k+1)=D+305+k+1 by omega,X1];simp only[KM];rw[hm]
  have h1:=wJ L (D+k) hL (Sec.new w n).str (by omega)
  rw[show D+k+305=D+305+k by omega,MH hw hl]at h1
  have g:iLt 1 1=false:=rfl;show _=some (MV.bool (inS l (Sec.new w n).str),_);cases inS l (Sec.new w n).str with
  |true=>rfl
  |false=>
   simp only[Sec.how]at h1;simp only[br_false',h1,bnd_some',gAggN_if,jf,jk,ju,cellAt_zero,cellAt_succ,gInt_i,gStr_s,g]
 |next t ih=>
  intro k hw hl hk;obtain⟨k,rfl⟩:∃j,k=j+1:=⟨k-1,by simp[Sec.ht]at hk;omega⟩
  exact aaL L D hL (k+1) es l hm (t:=.next t) hw hl (by show(1:Int)<2;decide) rfl rfl rfl (ih k hw (by simp[Sec.str]at hl;omega) (by simp[Sec.ht]at hk;omega))
 |key t ih=>
  intro k hw hl hk;obtain⟨k,rfl⟩:∃j,k=j+1:=⟨k-1,by simp[Sec.ht]at hk;omega⟩
  exact aaL L D hL (k+1) es l hm (t:=.key t) hw hl (by show(1:Int)<3;decide) rfl rfl rfl (ih k hw (by simp[Sec.str]at hl;omega) (by simp[Sec.ht]at hk;omega))
 |say w t ih=>
  intro k hw hl hk;obtain⟨k,rfl⟩:∃j,k=j+1:=⟨k-1,by simp[Sec.ht]at hk;omega⟩
  exact aaL L D hL (k+1) es l hm (t:=.say w t) hw hl (by show(1:Int)<5;decide) rfl rfl rfl (ih k hw.2 (by simp[Sec.str]at hl;omega) (by simp[Sec.ht]at hk;omega))
 |room n t ih=>
  intro k hw hl hk;obtain⟨k,rfl⟩:∃j,k=j+1:=⟨k-1,by simp[Sec.ht]at hk;omega⟩
  exact aaL L D hL (k+1) es l hm (t:=.room n t) hw hl (by show(1:Int)<6;decide) rfl rfl rfl (ih k hw.2.2 (by simp[Sec.str]at hl;omega) (by simp[Sec.ht]at hk;omega))
 |epoch a b iha ihb=>
  intro k hw hl hk;obtain⟨k,rfl⟩:∃j,k=j+1:=⟨k-1,by simp[Sec.ht]at hk;omega⟩
  have hl':a.str.length+b.str.length+1<=300:=by simpa [Sec.str,jl]using hl
  simp only[Sec.ht]at hk;have ha:=iha k hw.1 (by omega) (by omega)
  have hb:=ihb k hw.2 (by omega) (by omega)
  rw[show D+305+(k+1+1)=D+305+(k+1)+1 by omega,X1];simp only[KM];rw[hm]
  have h1:=wJ L (D+(k+1)) hL (Sec.epoch a b).str (by omega)
  rw[show D+(k+1)+305=D+305+(k+1) by omega,MH hw hl]at h1
  simp only[Sec.how]at h1;have g:iLt 1 4=true:=rfl;have sb:sEq (bs b.str) (bs [])=false:=by
   rw[sEq_bs,jh];intro e;have:=Sec.str_pos b;rw[e]at this;exact yz _ this
  show _=some (MV.bool (inS l (Sec.epoch a b).str||(mkS (inS l) a&&mkS (inS l) b)),_);cases inS l (Sec.epoch a b).str with
  |true=>rfl
  |false=>
   simp only[br_false',h1,bnd_some',gAggN_if,jf,jk,ju,cellAt_zero,cellAt_succ,gInt_i,gStr_s,g,br_true',ha,iG,CS,gBool_b,Bool.false_or];cases mkS (inS l) a with
   |false=>rfl
   |true=>
    simp only[br_true',sb,bNot_f,hb,bnd_some',iG,CS,gBool_b,jy]
theorem awR(hL:1099511627776<=L)(es:List (ByteArray×Bool))(l:List S)(hm:oG es l)(s:S)(hs:secOk s=true):ev E L (D+606) 152 [.mapr (.imp 0),.str (bs s)] [.map es]=some (.bool (dR l s),[.map es]):=by
 obtain⟨t,h1,rfl,h3⟩:=cK.1 hs;have:=awQ t;have h:=aAU L D hL es l hm t 300 h1 h3 (by omega)
 unfold dR;rw[I4 h1 h3];exact h
theorem apS(hL:1099511627776<=L)(es:List (ByteArray×Bool))(l:List S)(hm:oG es l)(hl:l.length<=100000)(s:S):∃es',oG es' (qG l s)/\
 ev E L (D+1) 151 [.str (bs s),.ptr (.imp 0) 0,.ptr (.imp 1) 0] [.cells [.mapr (.imp 2)],.cells [.own (l.map rS)],.map es]=some (.tup [],[.cells [.mapr (.imp 2)],.cells [.own ((qG l s).map rS)],.map es']):=by
 rw[atO];simp only[KM];rw[hm];unfold qG inS;by_cases h:s∈l
 ·rw[jd h,je h];refine⟨es,hm,?_⟩;simp only[bNot_t,br_false',iEq_self,br_true']
 ·rw[ji h,jc h];refine⟨_,hm.put s,?_⟩;have e1:[[MV.str (bs s)]]=[rS s]:=rfl;have q1:okR 1 [rS s]=true:=rfl;have q2:eL (l.length:Int) (nrows [rS s]) 16=true:=aE _ _ _ (by show((l.length:Int)+1)*16<=_;omega)
  have c:cB (l.map rS) [rS s]=(l++[s]).map rS:=cJ rS l s;simp only[bNot_f,br_true',e1,iEq_self,nrows_map,iI,q1,q2,Jf,cN,c]
theorem aaM(l:List S)(s:S):(qG l s).length<=l.length+1:=by unfold qG;split<;>simp
theorem VD{boxes:List Box}{out:List S}{s:S}(h:s∉out){b:Box}(hb:b∈boxes)(e:b.sec=s):(qG out s).length+nL boxes (qG out s)<=out.length+nL boxes out:=by
 unfold qG;rw[jc h];have:=aa2 (boxes:=boxes) (out:=out) (out':=out++[s]) (fun x hx=>jw _ hx) hb (by rw[e];exact h) (by rw[e];simp)
 rw[jl,List.length_singleton];omega
theorem VE(boxes:List Box):∀(r:List Box) (out:List S),(∀b∈r,b∈boxes)->(dK r out).length+nL boxes (dK r out)<=out.length+nL boxes out
 |[],_,_=>kg _
 |b::r,out,h=>by
  have ih:=VE boxes r (hG out b) fun x hx=>h x (kz _ hx)
  refine kb ih ?_;unfold hG;split
  ·exact kg _
  ·rename_i h1;split
   ·have:=VD h1 (h b qk) rfl;unfold qG at this;rw[jc h1]at this;exact this
   ·exact kg _
theorem P3(boxes:List Box):∀(f:Nat) (out:List S),(wX boxes f out).length<=out.length+nL boxes out
 |0,_=>Nat.le_add_right _ _
 |f+1,out=>by
  have h:=VE boxes boxes out fun b h=>h
  unfold wX;split
  ·have:=P3 boxes f (dK boxes out);omega
  ·omega
theorem aiM(l:List S):(onceS l).length<=l.length:=by
 have:∀(l out:List S),(l.foldl qG out).length<=out.length+l.length:=fun l=>by
  induction l with
  |nil=>intro out;exact kg _
  |cons a l ih=>
   intro out;have:=ih (qG out a);have:=aaM out a;rw[List.foldl_cons,jf];omega
 have:=this l [];unfold onceS;simpa using this
theorem YF(known:List S)(boxes:List Box):(hY known boxes).length<=known.length+boxes.length+1:=by
 have h:=P3 boxes (boxes.length+1) (onceS known);have:=aiM known;have:=shut_len boxes (onceS known);unfold hY;omega
theorem P4{w:World}(z:WG w):(eW w).length<=500:=by
 have:=YF w.spy (cY w);have:=z.spy;have:=(LO z).1;unfold eW;omega
theorem aoX(r:List Row):ev E L (D+1) 88 [.sl r] []=some (.sl r,[]):=by
 have h:E.ext 88=some DX:=rfl;unfold ev;simp only[h]
 rfl
theorem apT(hL:1099511627776<=L)(bx:List Row)(known:List S)(hn:known.length<=1000):∀(m k:Nat) (out:List S) (es:List (ByteArray×Bool)),known.length<m+k->k<=known.length->oG es out->out.length<=k->
 ∃es',oG es' ((known.drop k).foldl qG out)/\((known.drop k).foldl qG out).length<=known.length/\JE L (D+1) m (out.map rS) es out.length bx (known.map rS) known.length k=pX L (D+1) L (((known.drop k).foldl qG out).map rS) es' ((known.drop k).foldl qG out).length bx true
 |0,k,_,_,h,hk,_,_=>by omega
 |m+1,k,out,es,h,hk,hm,ho=>by
  rw[R3];simp only[KM];by_cases hlt:k<known.length
  ·have h1:iLt (k:Int) known.length=true:=by rw[iLt_dec,jb];omega
   have a1:bR .i64 (k:Int) 1=((k+1:Nat):Int):=aG _ (by omega)
   have r:=aW (k:Int) known (by omega) (by omega)
   rw[aK known k hlt]at r;obtain⟨es1,hm1,hp⟩:=apS L D hL es out hm (by omega) known[k]
   have hpl:=aaM out known[k];obtain⟨es',i1,i2,ih⟩:=apT hL bx known hn m (k+1) (qG out known[k]) es1 (by omega) (by omega) hm1 (by omega)
   rw[qa hlt,List.foldl_cons];refine⟨es',i1,i2,?_⟩;have g2:OI 2 (MV.mapr (H.imp 2))=some ():=rfl;simp only[h1,br_true',r,bnd_some',dX,gStr_s,nrows_map,iEq_self,hp,iG,afA,bK,jf,jk,ju,cellAt_zero,gOwn_r,CS,gTupN_if,a1,g2];exact ih
  ·have h1:iLt (k:Int) known.length=false:=by rw[iLt_dec,jh];omega
   rw[h1,br_false',wx (by omega)]
   exact⟨es,hm,by show out.length<=_;omega,rfl⟩
theorem SF(hL:1099511627776<=L)(all:List Box)(ha:all.length<=1000)(hb:∀b∈all,secOk b.key=true/\secOk b.sec=true)(n10:Nat)(st:Int):∀(m k:Nat) (out:List S) (es:List (ByteArray×Bool)),all.length<m+k->k<=all.length->oG es out->out.length+nL all out<=2000->
 ∃es',oG es' (dK (all.drop k) out)/\(dK (all.drop k) out).length+nL all (dK (all.drop k) out)<=out.length+nL all out/\
  sL L (D+606) m n10 (out.map rS) es out.length (all.map rB) st (all.map rB) all.length k=pX L (D+606) n10 ((dK (all.drop k) out).map rS) es' (dK (all.drop k) out).length (all.map rB) (iLt st (dK (all.drop k) out).length)
 |0,k,_,_,h,hk,_,_=>by omega
 |m+1,k,out,es,h,hk,hm,ho=>by
  rw[M7];simp only[KM];by_cases hlt:k<all.length
  ·have h1:iLt (k:Int) all.length=true:=by rw[iLt_dec,jb];omega
   have a1:bR .i64 (k:Int) 1=((k+1:Nat):Int):=aG _ (by omega)
   have r:=rH (k:Int) all (by omega) (by omega)
   rw[aK all k hlt]at r;have hbm:=jt hlt;have c0:aC (rB all[k]) 0=.str (bs all[k].key):=rfl;have c1:aC (rB all[k]) 1=.str (bs all[k].sec):=rfl;have hmk:=awR L D hL es out hm all[k].key (hb _ hbm).1;have hg:=hm all[k].sec;rw[qa hlt];show∃es',oG es' (dK (all.drop (k+1)) (hG out all[k]))/\(dK (all.drop (k+1)) (hG out all[k])).length+nL all (dK (all.drop (k+1)) (hG out all[k]))<=out.length+nL all out/\_=pX L (D+606) n10 ((dK (all.drop (k+1)) (hG out all[k])).map rS) es' (dK (all.drop (k+1)) (hG out all[k])).length (all.map rB) (iLt st (dK (all.drop (k+1)) (hG out all[k])).length);unfold hG;by_cases hin:all[k].sec∈out
   ·have hi:inS out all[k].sec=true:=jd hin;rw[je hin];obtain⟨es',i1,i2,ih⟩:=SF hL all ha hb n10 st m (k+1) out es (by omega) (by omega) hm ho
    refine⟨es',i1,i2,?_⟩;simp only[h1,br_true',r,bnd_some',c0,c1,gStr_s,hg,hi,bNot_t,br_false',a1];exact ih
   ·have hi:inS out all[k].sec=false:=ji hin;rw[jc hin];by_cases hc:dR out all[k].key=true
    ·rw[je hc];rw[hc]at hmk;obtain⟨es1,hm1,hp⟩:=apS L (D+605) hL es out hm (by omega) all[k].sec
     have hps:qG out all[k].sec=out++[all[k].sec]:=by unfold qG;rw[jc hin]
     have hsh:=VD hin hbm rfl;rw[hps]at hm1 hp hsh;obtain⟨es',i1,i2,ih⟩:=SF hL all ha hb n10 st m (k+1) (out++[all[k].sec]) es1 (by omega) (by omega) hm1 (by omega)
     refine⟨es',i1,by omega,?_⟩
     have g2:OI 2 (MV.mapr (H.imp 2))=some ():=rfl;simp only[h1,br_true',r,bnd_some',c0,c1,gStr_s,hg,hi,bNot_f,hmk,iG,CS,gBool_b,nrows_map,iEq_self];rw[show D+606=D+605+1 from rfl,hp]
     simp only[bnd_some',iG,afA,bK,jf,jk,ju,cellAt_zero,gOwn_r,CS,gTupN_if,a1,g2,nrows_map];exact ih
    ·rw[jc hc];rw[Jt]at hc;rw[hc]at hmk;obtain⟨es',i1,i2,ih⟩:=SF hL all ha hb n10 st m (k+1) out es (by omega) (by omega) hm ho
     refine⟨es',i1,i2,?_⟩;simp only[h1,br_true',r,bnd_some',c0,c1,gStr_s,hg,hi,bNot_f,hmk,iG,CS,gBool_b,br_false',a1];exact ih
  ·have h1:iLt (k:Int) all.length=false:=by rw[iLt_dec,jh];omega
   rw[h1,br_false',wx (by omega),nrows_map,iEq_self,br_true']
   exact⟨es,hm,kg _,rfl⟩
theorem aiN(hL:1099511627776<=L)(all:List Box)(ha:all.length<=1000)(hb:∀b∈all,secOk b.key=true/\secOk b.sec=true):∀(f n:Nat) (out:List S) (es:List (ByteArray×Bool)),nL all out<f->f<n->oG es out->out.length+nL all out<=2000->
 pX L (D+606) n (out.map rS) es out.length (all.map rB) true=some (.sl ((wX all f out).map rS),[])
 |0,_,_,_,h,_,_,_=>by omega
 |f+1,0,_,_,_,h,_,_=>by omega
 |f+1,n+1,out,es,h,hn,hm,ho=>by
  obtain⟨es',i1,i2,ih⟩:=SF L D hL all ha hb n out.length L 0 out es (by omega) (by omega) hm ho
  rw[show((0:Nat):Int)=0 from rfl,qb]at ih
  rw[qb]at i1 i2;rw[CH];simp only[KM];rw[br_true',nrows_map,nrows_map,iEq_self,br_true',ih,iLt_dec];unfold wX;by_cases hg:(dK all out).length>out.length
  ·rw[je hg,jd (show(out.length:Int)< (dK all out).length by omega)]
   exact aiN hL all ha hb f n _ es' (by have:=PM hg;omega) (by omega) i1 (by omega)
  ·rw[jc hg,ji (show¬(out.length:Int)< (dK all out).length by omega)]
   obtain⟨n,rfl⟩:∃j,n=j+1:=⟨n-1,by omega⟩
   have hc:=aoX L (D+605) ((dK all out).map rS);rw[CH];simp only[KM];rw[br_false',nrows_map,iEq_self,br_true',show D+606=D+605+1 from rfl,hc]
   rfl
theorem aiO(hL:1099511627776<=L)(known:List S)(l:List Box)(hk:known.length<=400)(hl:l.length<=400)(hs:∀b∈l,secOk b.key=true/\secOk b.sec=true):
 ev E L (D+607) 91 [.sl (known.map rS),.sl (l.map rB)] []=some (.sl ((hY known l).map rS),[]):=by
 obtain⟨es',h1,h2,h3⟩:=apT L (D+605) hL (l.map rB) known (by omega) L 0 [] [] (by omega) (by omega) oG.nil (by simp)
 rw[qb]at h1 h2 h3;have hsh:=shut_len l (onceS known);have h4:=aiN L D hL l (by omega) hs (l.length+1) L (onceS known) es' hsh (by omega) h1 (by unfold onceS;unfold onceS at hsh;omega)
 rw[azI,nrows_map];exact h3.trans h4
theorem adW(hL:1099511627776<=L)(known:List S)(l:List Box)(hk:known.length<=400)(hks:∀s∈known,secOk s=true)(hl:l.length<=400)(hs:∀b∈l,secOk b.key=true/\secOk b.sec=true):
 ev E L (D+608) 54 [.sl (known.map rS),.sl (l.map rB)] []=some (.sl ((hY known l).map rS),[]):=by
 rw[ayY];simp only[KM];rw[adV L (D+297) hL known l hk hks hl hs];simp only[bnd_some',gBool_b,bNot_t,br_false',aiO L D hL known l hk hl hs,gSl_r]
theorem aiP(hL:1099511627776<=L)(log:List Commit)(hl:log.length<=1000)(hc:∀c∈log,c.boxes.length<=1000):∀(m k:Nat) (out:List Box),log.length<m+k->k<=log.length->out.length<=2000*k->
 EW L (D+1) m (out.map rB) out.length (log.map rC) log.length k=some (.sl ((out++(log.drop k).flatMap rK).map rB),[])
 |0,k,_,h,hk,_=>by omega
 |m+1,k,out,h,hk,ho=>by
  rw[RZ];simp only[KM];by_cases hlt:k<log.length
  ·have h1:iLt (k:Int) log.length=true:=by rw[iLt_dec,jb];omega
   have a1:bR .i64 (k:Int) 1=((k+1:Nat):Int):=aG _ (by omega)
   have r:=mN (k:Int) log (by omega) (by omega)
   rw[aK log k hlt]at r;have hbx:=hc _ (jt hlt);have e:=qa hlt;generalize log[k]=c at r hbx e;have e1:[[MV.str (bs c.wik),MV.str (bs c.wis)],[MV.str (bs c.wsk),MV.str (bs c.wss)]]=[(⟨c.wik,c.wis⟩:Box),⟨c.wsk,c.wss⟩].map rB:=rfl;have q1:eL (out.length:Int) (c.boxes.length:Int) 32=true:=aE _ _ _ (by omega)
   have q2:eL ((out++c.boxes).length:Int) ([(⟨c.wik,c.wis⟩:Box),⟨c.wsk,c.wss⟩].length:Int) 32=true:=aE _ _ _ (by simp;omega)
   have cc:∀a b:List Box,cB (a.map rB) (b.map rB)=(a++b).map rB:=fun a b=>d7 rB a b
   rw[e,kx,<-qm];simp only[h1,br_true',r,bnd_some',ID,IE,IG,IH,II,IJ,IK,IL,IM,IO,wT,wU,wV,gInt_i,gStr_s,gSl_r,e1,nrows_map,iEq_self,HD,q1,q2,cc,Jf,cN,iLe_dec,a1];unfold rK;by_cases h0:0<=c.add
   ·rw[jd h0,br_true',je h0];have ih:=aiP hL log hl hc m (k+1) (out++c.boxes++[⟨c.wik,c.wis⟩,⟨c.wsk,c.wss⟩]) (by omega) (by omega) (by simp;omega)
    rw[qm out]at ih;rw[qm out];exact ih
   ·rw[ji h0,br_false',jc h0,ka];exact aiP hL log hl hc m (k+1) (out++c.boxes) (by omega) (by omega) (by simp;omega)
  ·have h1:iLt (k:Int) log.length=false:=by rw[iLt_dec,jh];omega
   have h:=dB L D (F:=92) (sz:=2) rfl (out.map rB) (HD out) (by rw[kf];omega)
   rw[h1,br_false',wx (by omega),nrows_map,iEq_self,br_true',h,List.flatMap_nil,ka]
   simp only[bnd_some',gOwn_r,iEq_self,br_true']
theorem YG(hL:1099511627776<=L)(w:World)(z:WG w):ev E L (D+2) 55 [.agg (wS w)] []=some (.sl ((cY w).map rB),[]):=by
 have hlog:=z.log;unfold wS;rw[ayZ,nrows_map];have:=aiP L D hL w.log (by omega) (fun c hc=>by
  have:=(PN (z.logI c hc)).1;unfold rK at this;rw[jl]at this;omega) L 0 [] (by omega) (by omega) (by simp)
 rw[qb,qg]at this;exact this
theorem MI(hL:1099511627776<=L)(w:World)(z:WG w):ev E L (D+609) 15 [.agg (wS w)] []=some (.sl ((eW w).map rS),[]):=by
 have h1:=SD L (D+292) hL w z;have h2:=YG L (D+606) hL w z;obtain⟨b1,b2,_⟩:=LO z;have hsp:=z.spy;have h3:=adW L D hL w.spy (cY w) (by omega) z.spyI (by omega) b2
 unfold wS at h1 h2⊢;rw[ay8];simp only[KM];rw[h1];simp only[bnd_some',gBool_b,bNot_t,br_false',h2,gSl_r,h3]
 rfl
theorem VF(l:List S)(s:S)(hl:l.length<=1000000):∀(m k:Nat),l.length<m+k->k<=l.length->JA L D m (l.map rS) (bs s) k=some (.bool (inS (l.drop k) s),[])
 |0,k,h,hk=>by omega
 |m+1,k,h,hk=>by
  rw[RW];simp only[KM];rw[nrows_map];by_cases hlt:k<l.length
  ·have h1:iLt (k:Int) l.length=true:=by rw[iLt_dec,jb];omega
   have a1:bR .i64 (k:Int) 1=((k+1:Nat):Int):=aG _ (by omega)
   have r:=aW (k:Int) l (by omega) (by omega)
   rw[aK l k hlt]at r;have ih:=VF l s hl m (k+1) (by omega) (by omega)
   rw[qa hlt];simp only[h1,br_true',r,bnd_some',dX,gStr_s,sEq_bs,a1];unfold inS at ih⊢;by_cases he:l[k]=s
   ·rw[jd he,br_true',jd (by rw[he];exact qk)]
   ·rw[ji he,br_false',ih];have:(s∈l[k]::l.drop (k+1))↔s∈l.drop (k+1):=by rw[ko];exact⟨fun h=>h.elim (fun e=>absurd e.symm he) id,.inr⟩
    rw[decide_eq_decide.2 this]
  ·have h1:iLt (k:Int) l.length=false:=by rw[iLt_dec,jh];omega
   rw[h1,br_false',wx (by omega)]
   rfl
theorem aaN(hL:1099511627776<=L)(l:List S)(s:S)(hl:l.length<=1000000):ev E L (D+1) 16 [.sl (l.map rS),.str (bs s)] []=some (.bool (inS l s),[]):=by
 rw[ay9];exact VF L D l s hl L 0 (by omega) (by omega)
end
end Kw
