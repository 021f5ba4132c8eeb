import Derived.Test.YthjlffhckgaboaaGreatDoorW03
import Derived.Laws.StructEq
set_option linter.unusedVariables false
set_option linter.unusedSimpArgs false
set_option linter.unusedSectionVars false
namespace Kw
open Go
variable [Gl]
section
variable {R:Type} {r:R} {w:World} {g:G} {tmps:Array Value} {fr:Fr} {cu:H->Int}
def resF(tmps:Array Value):ResultVar->Sem Value
 | .tmp t=>pure (tmps.getD t undef)
 | .cell a t=>do loadVar t (<-asAddr (tmps.getD a undef))
theorem WS(fn:Func)(tmps:Array Value):results fn tmps=(do
 let vs<-fn.results.mapM (resF tmps)
 pure (if h:vs.size=1 then vs[0]else .tuple vs)):=rfl
theorem Q3{E:Env}(S:Sim fr g tmps w):∀(rs:List ResultVar) {k:List MV->Option R},WB E fr rs k=some r->
 ∃ms vs,k ms=some r/\Rl (RV g (cur fr.ob) w) vs ms/\(rs.mapM (resF tmps)).run E.P w=.ok vs w
 |[],k,h=>⟨[],[],h,.nil,by simp⟩
 | .tmp t::rs,k,h=>by
   simp only[WB]at h;obtain⟨ms,vs,hk,hr,hm⟩:=Q3 S rs h;have ho:=bF (a:=⟨tmps,[]⟩) S (.tmp t);refine⟨_,(tmps.getD t undef)::vs,hk,.cons ho hr,?_⟩;simp[List.mapM_cons,resF,hm]
 | .cell t ty::rs,k,h=>by
   simp only[WB]at h;split at h
   case isFalse=>simp at h
   rename_i hk;split at h
   ·rename_i hd off ex;split at h
    ·rename_i cs ec;split at h
     ·rename_i hle;obtain⟨ms,vs,hkk,hr,hm⟩:=Q3 S rs h;have hx:RV g (cur fr.ob) w (tmps.getD t undef) (.ptr hd off):=by
       have:=bF (a:=⟨tmps,[]⟩) S (.tmp t);simp only[aL,ex]at this;exact this
      obtain⟨b,arr,ty',e,hh,hn,hs,hv⟩:=obj_of S.o ec (by simp)
      have ep:=GC hx e;obtain⟨⟨d,hu⟩,h1,_⟩:=oW hk;have hcell:∀j,j<tsize E.P ty->w.cell? ⟨b,off+j,none⟩=some (arr.getD (off+j) undef):=by
       intro j hj;rw[lM hh,ql,kq (by omega)];simp
      have hlv:=Y6 hu _ hcell (fun e=>by rw[h1 e];exact Nat.one_pos)
      refine⟨_,_::vs,hkk,.cons (DQ hk (by simp;omega) (fun j=>arr.getD (off+j) undef) (fun j m hj=>?_)) hr,?_⟩
      ·have hj':j<tsize E.P ty:=by
        have:=(jm.1 hj).1;simp at this;omega
       rw[qp hj',wy]at hj;exact hv (off+j) _ m (by rw[ql,kq (by omega)];simp) hj
      ·simp[List.mapM_cons,resF,ep,asAddr,hlv,hm]
     ·simp at h
    ·simp at h
   ·simp at h
theorem pB{vs:List Value}{ms:List MV}(h:Rl (RV g cu w) vs ms):BVs g cu w vs ms []:=by
 induction h with
 |nil=>exact .nil
 |cons h _ ih=>exact .cons (.one (.rv h)) ih
theorem afS{v:Value}{m:MV}{f:List Nat}(h:BV g cu w v m f):ResR g cu w v m f:=by
 by_cases hm:∃ms,m=.tup ms
 ·obtain⟨ms,e⟩:=hm;subst e;cases h with
  |one h=>
   cases h with
   |rv h=>
    obtain⟨vs,ev,hl,hr⟩:=WC h;subst ev;refine .tup ?_;exact pB (n7 (Rr:=RV g cu w) vs.toList ms (by simpa using hl) fun j v m h1 h2=>hr j v m (by simpa using h1) h2)
 ·exact .one h fun ms e=>hm ⟨ms,e⟩
theorem afT{vs:List Value}{ms:List MV}{f:List Nat}(h:BVs g cu w vs ms f):ResR g cu w (if h:vs.toArray.size=1 then vs.toArray[0]else .tuple vs.toArray) (aeX ms) f:=by
 cases h with
 |nil=>exact .tup .nil
 | @cons v m f1 vs ms fs h t=>
   cases t with
   |nil=>
    have:f1++[]=f1:=by simp
    rw[this];exact afS h
   | @cons v' m' f2 vs ms fs h' t=>
     exact .tup (.cons h (.cons h' t))
theorem newBox_loc(ms:List MV):yD ms=[]\/∃t j,yD ms=[.loc t j]:=by
 unfold yD;split
 ·exact .inr ⟨_,_,rfl⟩
 ·exact .inr ⟨_,_,rfl⟩
 ·exact .inl rfl
theorem aqC{n j:Nat}{l:List H}(hj:j<n):((List.range n).map H.imp++l)[j]?=some (.imp j):=by
 rw[yd (by simpa using hj),jo,yn hj];rfl
theorem afU(n:Nat)(ms:List MV):((List.range n).map H.imp++yD ms).Nodup:=by
 rw[qt];refine⟨?_,?_,?_⟩
 ·exact List.Pairwise.map _ (fun a b (hne:a≠b) e=>hne (by injection e)) List.nodup_range
 ·rcases newBox_loc ms with e|⟨t,j,e⟩<;>rw[e]<;>simp
 ·intro a ha b hb e;subst e;obtain⟨i,_,e⟩:=qf.1 ha;rcases newBox_loc ms with e'|⟨t,j,e'⟩<;>rw[e']at hb<;>simp at hb
  rw[hb]at e;cases e
theorem KT:∀{gs:List GH},(∀(i j:Nat) (x y:GH) (b:Nat),i<j->gs[i]?=some x->gs[j]?=some y->x.blk=some b->y.blk≠some b)->(blks gs).Nodup
 |[],_=>.nil
 |x::gs,h=>by
  have ih:=KT (gs:=gs) fun i j x y b hij h1 h2=>h (i+1) (j+1) x y b (by omega) (by simpa using h1) (by simpa using h2)
  unfold blks at ih⊢;cases e:x.blk with
  |none=>rw[List.filterMap_cons_none e];exact ih
  |some b=>
   rw[List.filterMap_cons_some e,wz];refine⟨fun hm=>?_,ih⟩
   obtain⟨y,hy,ey⟩:=List.mem_filterMap.1 hm;obtain⟨j,hj,ej⟩:=qh.1 hy;exact h 0 (j+1) x y b (by omega) rfl (by simp[jj hj,ej]) e ey
theorem Q4{ob:Ob}(S:SimO ob g w){h:H}{b:Nat}(e:g.rho h=.box b):cur ob h= -1:=by
 by_cases hm:h∈ob.map (·.1)
 ·have:=S.obj _ _ (lS hm);unfold cur;cases ho:look ob h with
  |rows rs=>rw[ho]at this;rcases this with⟨e',_⟩|⟨_,_,_,_,_,e',_⟩<;>(rw[e]at e';cases e')
  |froz rs=>rw[ho]at this;rcases this with⟨e',_⟩|⟨_,_,_,_,_,e',_⟩<;>(rw[e]at e';cases e')
  |_=>rfl
 ·unfold cur;rw[rX hm]
theorem TQ{fr2:Fr}{g2:G}{f:List Nat}{gs:List GH}{hs:List H}(S:Sim fr g tmps w)(G12:Gv fr fr2 g g2 f tmps w)(hnd:hs.Nodup)(hl:gs.length=hs.length)(hbx:∀(j:Nat) (h:H) (b:GH),hs[j]?=some h->gs[j]?=some b->g2.rho h=b):
 (f++blks gs).Nodup/\(∀b∈f++blks gs,∃h,(g.rho h).blk=some b)/\(∀b∈f++blks gs,b<w.heap.size)/\∀b∈blks gs,∃h,(g2.rho h).blk=some b:=by
 have hat:∀(i:Nat) (x:GH),gs[i]?=some x->∃h,hs[i]?=some h/\g2.rho h=x:=fun i x e=>by
  have hi':i<hs.length:=by rw[<-hl];exact(jm.1 e).1
  exact⟨_,jj hi',hbx i _ x (jj hi') e⟩
 have hbs1:∀b∈blks gs,∃h,(g2.rho h).blk=some b:=fun b hb=>by
  obtain⟨x,hx,e⟩:=eK.1 hb;obtain⟨i,hi,ei⟩:=qh.1 hx;obtain⟨h,_,e2⟩:=hat i x (by rw[jj hi,ei])
  exact⟨h,by rw[e2];exact e⟩
 have hndb:(blks gs).Nodup:=KT fun i j x y b hij h1 h2 e1 e2=>by
  obtain⟨h,k1,q1⟩:=hat i x h1;obtain⟨h',k2,q2⟩:=hat j y h2;have:=G12.sim.o.inj h h' b (by rw[q1];exact e1) (by rw[q2];exact e2)
  obtain⟨l1,m1⟩:=jm.1 k1;obtain⟨l2,m2⟩:=jm.1 k2;exact ww.1 hnd i j l1 l2 hij (by rw[m1,m2];exact this)
 have hfg:∀b,b∈f++blks gs->∃h,(g.rho h).blk=some b:=fun b hb=>by
  rcases jv.1 hb with x|x
  ·obtain⟨⟨h,e,_⟩,_⟩:=G12.own b x;exact⟨h,e⟩
  ·obtain⟨h,e⟩:=hbs1 b x;exact⟨h,G12.blk h b e⟩
 refine⟨qt.2 ⟨G12.nod,hndb,fun a ha b hb e=>?_⟩,hfg,fun b hb=>?_,hbs1⟩
 ·subst e;obtain⟨h,e⟩:=hbs1 a hb;exact(G12.own a ha).2.1 h e
 ·obtain⟨h,e⟩:=hfg b hb;exact S.o.lt h b e
theorem ZR{fr2:Fr}{g2:G}{f:List Nat}{gs:List GH}{hs:List H}{os:List Obj}(S:SimO fr2.ob g2 w)(B:BOs g2 (cur fr2.ob) w gs os f)(hl:gs.length=hs.length)(hbx:∀(j:Nat) (h:H) (b:GH),hs[j]?=some h->gs[j]?=some b->g2.rho h=b)(hrw:∀(j:Nat) (h:H) (x:List Row),hs[j]?=some h->os[j]?=some (.rows x)->fr2.obj h=.rows x):
 ∀i,(fun h'=>match frI hs h' with|some h=>cur fr2.ob h|none=> -1) (.imp i)<=cuB (os.map (B0 (toI hs))) (.imp i):=by
 refine aqB hl B (fun j h x h1 h2=>?_) fun j h h1 h2=>?_
 ·have:=hrw j h x h1 h2;unfold Fr.obj at this;unfold cur;rw[this]
 ·have hj:j<gs.length:=by rw[hl];exact(jm.1 h1).1
  have e:=jj hj;rcases B.rowsAt j _ e with⟨b,eb⟩|⟨rs,er⟩
  ·rw[Q4 S ((hbx j h _ h1 e).trans eb)];exact jz _
  ·exact absurd er (h2 rs)
theorem aqD{E:Env}{f:FuncId}{fn:Func}{n:Nat}{ex:Ex}{res:Res}{w0:World}{g0:G}{gs:List GH}{prot:Nat->Prop}{fa fo:List Nat}(h:fin E f fn n ex fr=some res)(S:Sim fr g tmps w)(F:Fm g0 w0 g w)
 (hb0:∀h b,(g0.rho h).blk=some b->b∈fa++fo++blks gs) (hp0:g0.prot=prot) (hi0:∀i,g0.rho (.imp i)=(gB gs prot).rho (.imp i)) (hn:n=gs.length):
 abD ex∈[Exit.normal,Exit.ret]/\∃v,(results fn tmps).run E.P w=.ok v w/\axJ gs prot w0 fa fo res v w:=by
 have hex:abD ex∈[Exit.normal,Exit.ret]/\(WB E fr fn.results.toList fun res=>nZ (E.keep f) res fr fun res fr=>
  jD ((List.range n).map .imp++yD res) fr fun os _=>some (aeX (res.map (F7 (toI ((List.range n).map .imp++yD res)))),os.map (B0 (toI ((List.range n).map .imp++yD res)))))=some res:=by
  unfold fin at h;cases ex with
  |exit _=>simp at h
  |normal=>exact⟨by simp[abD],h⟩
  |ret=>exact⟨by simp[abD],h⟩
 refine⟨hex.1,?_⟩;have h:=hex.2;obtain⟨ms,vs,h,hr,hm⟩:=Q3 S _ h;obtain⟨ms1,fr1,g1,f1,h,G1,B1⟩:=D3 _ h S hr;obtain⟨os,fr2,g2,f2,gs1,h,G2,B2,hl,hbx,hrw⟩:=yN _ h G1.sim;have hres:=Option.some.inj h;have hnd:=afU n ms1;have G12:=G1.trans G2;have B1':=B1.next G2 fun b hb=>(G1.own b hb).2.1
 obtain⟨hnod,hfg,_,_⟩:=TQ S G12 hnd hl hbx;have hcu:=ZR G2.sim.o B2 hl hbx hrw;have htake:∀i,i<n->gs1[i]?=gs[i]?:=fun i hi=>by
  have hlt:i<gs1.length:=by rw[hl];simp;omega
  have e1:gs1[i]?=some (gs1[i]'hlt):=jj hlt;have na:=B2.ne i _ e1;have nd:=B2.nd i _ e1;have e2:=hbx i _ _ (aqC hi) e1;have step:∀{a b:GH},a=gs1[i]'hlt->(a=b\/a=.dead\/a=.absent)->b=gs1[i]'hlt:=fun{a b} ea hx=>by
   rcases hx with x|x|x
   ·rw[<-x];exact ea
   ·rw[ea]at x;exact absurd x nd
   ·rw[ea]at x;exact absurd x na
  have e5:=step (step (step e2 (G2.imp i)) (G1.imp i)) (F.imp i);rw[hi0 i]at e5;unfold gB at e5;simp only at e5;cases eg:gs[i]? with
  |none=>rw[eg]at e5;exact absurd e5.symm na
  |some x=>rw[eg]at e5;rw[e1];exact wo some e5.symm
 have hpre:gs1=gs++gs1.drop n:=by
  have:gs1.take n=gs:=by
   apply List.ext_getElem?;intro i;rw[Jq];split
   ·rename_i hi;exact htake i hi
   ·rw[qo (by omega)]
  conv=>lhs;rw[<-List.take_append_drop n gs1,this]
 refine⟨if h:vs.toArray.size=1 then vs.toArray[0]else .tuple vs.toArray,?_,gs1.drop n,g2.prot,f1,f2,?_⟩
 ·rw[WS];simp[Array.mapM_eq_mapM_toList,hm]
 ·rw[<-hpre,<-hres];refine⟨afT (B1'.out hnd hl hbx hcu),B2.out hnd hl hbx hcu,hnod,fun b hb=>?_,G2.sim.o.plt,F.os,F.tape,F.output,F.size,fun b hlt hn=>F.heap b hlt fun h e=>hn (hb0 h b e),fun b hb=>?_,fun b hp=>?_,fun b hp=>?_⟩
  ·obtain⟨h,e⟩:=hfg b hb;exact S.o.lt h b e
  ·obtain⟨h,e⟩:=hfg b hb;rcases F.own h b e with x|⟨h0,x⟩
   ·exact .inl x
   ·exact .inr (hb0 h0 b x)
  ·exact G12.later.prot b (F.prot b (by rw[hp0];exact hp))
  ·have:g.prot b\/∃h,(g.rho h).blk=some b:=(G12.prot' b hp).imp id fun⟨h,e,_⟩=>⟨h,e⟩
   rcases this with x|⟨h,x⟩
   ·rcases F.prot' b x with y|y|⟨h0,y⟩
    ·exact .inl (by rw[<-hp0];exact y)
    ·exact .inr (.inl y)
    ·exact .inr (.inr (hb0 h0 b y))
   ·rcases F.own h b x with y|⟨h0,y⟩
    ·exact .inr (.inl y)
    ·exact .inr (.inr (hb0 h0 b y))
theorem cE{P:Program}{f:FuncId}{fn:Func}{c:Code}(hf:P.funcs[f]?=some fn)(hname:(fn.name== "runtime.NumGoroutine")=false)(hb:fn.body=some c)(args:Array Value)(w:World):
 (callFunc f args).run P w=.ok (.enter f args) w:=by
 have h1:fn.name≠ "runtime.NumGoroutine" :=by simpa using hname
 simp[callFunc,hf,h1,hb]
theorem apG{E:Env}{L:Nat}(hname:∀(f:FuncId) (fn:Func),E.P.funcs[f]?=some fn->(fn.name== "runtime.NumGoroutine")=false)
 (hreg:∀run,cL E.P run->∀(f:FuncId) (fn:Func) (c:Code),E.P.funcs[f]?=some fn->fn.body=some c->E.okf f=true->tP (TK E run) c)
 (hext:∀f q,E.ext f=some q->cL E.P fun f' args imps=>if f'=f then(q args).map fun m=>(m,imps)else none):∀D,cL E.P (ev E L D)
 |0=>by intro h;simp[ev]at h
 |D+1=>by
  rename_i f args imps res vals w gs prot fa fo;intro h p;unfold ev at h;split at h
  ·rename_i q hq;exact hext f q hq (by simpa using h) p
  ·split at h
   ·simp at h
   ·rename_i fn hf;split at h
    ·simp at h
    ·rename_i c hc;split at h
     case isFalse=>simp at h
     rename_i hok;obtain⟨fr,g,h,S,hb0,hp0,hi0⟩:=afR h p;unfold pL;rw[cE hf (hname f fn hf) hc];simp only;refine calls_of_wp hf hc (wp_mono (lU afK c (hreg _ (apG hname hreg hext D) f fn c hf hc hok) (R:=Res) (a:=⟨_,[]⟩) h S) ?_);rintro e a' w' ⟨ex,he,hd,fr',g',hk,S',F⟩;subst he;obtain⟨hin,v,hres,hpost⟩:=aqD hk S' F hb0 hp0 hi0 (by have:=p.os.len;omega)
     cases ex with
     |exit _=>simp[abD]at hin
     |normal=>exact⟨hd,v,hres,v,rfl,hpost⟩
     |ret=>exact⟨hd,v,hres,v,rfl,hpost⟩
end
end Kw
namespace Kw
open Go
variable [Gl]
def MV.pl:MV->Bool| .bool _| .int _ _| .str _| .sl _| .own _| .ownK _| .iface _=>true|_=>false
def MV.plV:MV->Bool| .agg cs=>cs.all MV.pl|m=>m.pl
section
variable {R:Type} {r:R} {E:Env} {own:Bool}
theorem KU{n:Nat}{m:MV}{cs:List MV}(h:G8 n m=some cs):m=.agg cs/\cs.length=n:=by
 unfold G8 at h;split at h
 ·split at h
  ·rename_i hl;cases h;exact⟨rfl,hl⟩
  ·cases h
 ·cases h
theorem WT{n:Nat}{m:MV}{cs:List MV}(h:OK n m=some cs):m=.tup cs/\cs.length=n:=by
 unfold OK at h;split at h
 ·split at h
  ·rename_i hl;cases h;exact⟨rfl,hl⟩
  ·cases h
 ·cases h
theorem D5{n:Nat}{m:Obj}{cs:List MV}(h:qI n m=some cs):m=.cells cs/\cs.length=n:=by
 unfold qI at h;split at h
 ·split at h
  ·rename_i hl;cases h;exact⟨rfl,hl⟩
  ·cases h
 ·cases h
theorem O4{m:Obj}{cs:List (ByteArray×Bool)}(h:JU m=some cs):m=.map cs:=by
 unfold JU at h;split at h
 ·cases h;rfl
 ·cases h
theorem ZS{sh:Sh}{m:MV}{k:MV->Option R}(h:SS own sh m k=some r):k m=some r/\m.pl=true:=by
 unfold SS at h;split at h
 ·obtain⟨b,hb,h⟩:=aF h;rw[jE hb];exact⟨h,rfl⟩
 ·obtain⟨b,hb,h⟩:=aF h;rw[o9 hb];exact⟨h,rfl⟩
 ·obtain⟨b,hb,h⟩:=aF h;rw[AW hb];exact⟨h,rfl⟩
 ·split at h
  ·obtain⟨b,hb,h⟩:=aF h;rw[GB hb];exact⟨h,rfl⟩
  ·obtain⟨b,hb,h⟩:=aF h;rw[DP hb];exact⟨h,rfl⟩
 ·obtain⟨b,hb,h⟩:=aF h;rw[J1 hb];exact⟨h,rfl⟩
 ·simp at h
theorem abI{row:Row}{c:Nat}(h:(aC row c).pl=true):row.drop c=aC row c::row.drop (c+1):=by
 have hlt:c<row.length:=by
  rcases yo c row.length with h'|h'
  ·exact h'
  ·unfold aC at h;rw[jr,qo h']at h;simp[MV.pl]at h
 rw[qa hlt];unfold aC;rw[jr,jj hlt];rfl
theorem Q5:∀(shs:List Sh) (row:Row) (c:Nat) (k:List MV->Option R),opn own shs row c k=some r->
 k ((row.drop c).take shs.length)=some r/\((row.drop c).take shs.length).all MV.pl=true
 |[],row,c,k,h=>⟨by simpa [opn]using h,by simp⟩
 |sh::shs,row,c,k,h=>by
  unfold opn at h;obtain⟨h,hp⟩:=ZS h;obtain⟨h,ha⟩:=Q5 shs row (c+1) _ h;have e:(row.drop c).take (sh::shs).length=aC row c::(row.drop (c+1)).take shs.length:=by
   rw[abI hp,jf,List.take_succ_cons]
  rw[e];exact⟨h,by simp only[yb,hp,ha,Jf]⟩
theorem ZT{t:TypeId}{m:MV}{k:MV->Option R}(h:V9 E own t m k=some r):k m=some r/\m.plV=true:=by
 unfold V9 at h;split at h
 ·obtain⟨cs,hc,h⟩:=aF h;obtain⟨em,hl⟩:=KU hc;obtain⟨h,ha⟩:=Q5 _ _ _ _ h;have e:(cs.drop 0).take (jP E.P t).length=cs:=by rw[qb,<-hl,Jg]
  rw[e]at h ha;rw[em];exact⟨h,ha⟩
 ·split at h
  ·obtain⟨h,hp⟩:=ZS h;refine⟨h,?_⟩;cases m<;>first|exact hp|(cases hp;done)
  ·simp at h
theorem ZU:∀(ts:List TypeId) (ms:List MV) (j:Nat) (k:List MV->Option R),QD E own ts ms j k=some r->k ((ms.drop j).take ts.length)=some r/\((ms.drop j).take ts.length).all MV.plV=true
 |[],ms,j,k,h=>⟨by simpa [QD]using h,by simp⟩
 |t::ts,ms,j,k,h=>by
  unfold QD at h;obtain⟨h,hp⟩:=ZT h;obtain⟨h,ha⟩:=ZU ts ms (j+1) _ h;have hlt:j<ms.length:=by
   rcases yo j ms.length with h'|h'
   ·exact h'
   ·unfold aC at hp;rw[jr,qo h']at hp;simp[MV.plV,MV.pl]at hp
  have e:(ms.drop j).take (t::ts).length=aC ms j::(ms.drop (j+1)).take ts.length:=by
   rw[qa hlt,jf,List.take_succ_cons];unfold aC;rw[jr,jj hlt];rfl
  rw[e];exact⟨h,by simp only[yb,hp,ha,Jf]⟩
theorem ZV{t:TypeId}{m:MV}{k:List MV->Bool->Option R}(h:SU E own t m k=some r):∃ms b,k ms b=some r/\ms.all MV.plV=true/\((b=true/\m=.tup ms)\/(b=false/\ms=[m])):=by
 unfold SU at h;split at h
 ·obtain⟨vs,hc,h⟩:=aF h;obtain⟨em,hl⟩:=WT hc;obtain⟨h,ha⟩:=ZU _ _ _ _ h;rename_i ts _ _ _;have e:(vs.drop 0).take ts.toList.length=vs:=by rw[qb,Array.length_toList,<-hl,Jg]
  rw[e]at h ha;exact⟨vs,true,h,ha,.inl ⟨rfl,em⟩⟩
 ·obtain⟨h,hp⟩:=ZT h;exact⟨_,false,h,by simp[hp],.inr ⟨rfl,rfl⟩⟩
variable {g g':G} {cu cu':H->Int} {w:World} {v:Value} {f:List Nat}
theorem KV{m:MV}{r:List Row}(h:DJ m=some r):m=.ownK r:=by cases m<;>first|(cases h;rfl)|cases h
theorem BC.plain{m:MV}(h:BC g cu w v m f)(hp:m.pl=true)(e:g'.prot=g.prot):BC g' cu' w v m f:=by
 cases h with
 |rv h=>
  cases h<;>first|(cases hp;done)|skip
  rename_i h;exact .rv (.sv (by rw[e];exact h))
 |own0=>exact .own0
 |own hh hn hs hl hr=>exact .own hh (by rw[e];exact hn) hs hl (by rw[e];exact hr)
 |ownK0=>exact .ownK0
 |ownK hh hn hs hl hr=>exact .ownK hh (by rw[e];exact hn) hs hl (by rw[e];exact hr)
theorem BCs.plain{vs:List Value}{ms:List MV}(h:BCs g cu w vs ms f)(hp:ms.all MV.pl=true)(e:g'.prot=g.prot):BCs g' cu' w vs ms f:=by
 induction h with
 |nil=>exact .nil
 |cons h _ ih=>
  simp only[yb,jg]at hp;exact .cons (h.plain hp.1 e) (ih hp.2)
theorem BV.plain{m:MV}(h:BV g cu w v m f)(hp:m.plV=true)(e:g'.prot=g.prot):BV g' cu' w v m f:=by
 by_cases ha:m.isAg=true
 ·obtain⟨cs,em⟩:=HK ha;subst em;obtain⟨vs,ev,hc⟩:=afL h;subst ev;exact .agg (hc.plain hp e)
 ·have ha:m.isAg=false:=by simpa using ha
  exact .one ((h.bc_of ha).plain (by cases m<;>first|exact hp|(cases ha;done)) e)
theorem BVs.plain{vs:List Value}{ms:List MV}(h:BVs g cu w vs ms f)(hp:ms.all MV.plV=true)(e:g'.prot=g.prot):BVs g' cu' w vs ms f:=by
 induction h with
 |nil=>exact .nil
 |cons h _ ih=>
  simp only[yb,jg]at hp;exact .cons (h.plain hp.1 e) (ih hp.2)
theorem KW{m:MV}{ms:List MV}{b:Bool}(h:ResR g cu w v m f)(hm:(b=true/\m=.tup ms)\/(b=false/\ms=[m]))(hp:ms.all MV.plV=true):
 ∃vs,BVs g cu w vs ms f/\∀{g1:G} {cu1:H->Int} {w1:World} {ms1:List MV},Rl (RV g1 cu1 w1) vs ms1->RV g1 cu1 w1 v (rV ms1 b):=by
 rcases hm with⟨e,em⟩|⟨e,em⟩
 ·subst e;subst em;cases h with
  |one _ hm=>exact absurd rfl (hm ms)
  | @tup vs _ _ h=>
    refine⟨_,h,fun hr=>?_⟩
    exact .tup (by have:=hr.len;simpa using this) fun j v m h1 h2=>hr.at j v m (by simpa using h1) h2
 ·subst e;subst em;cases h with
  |one h _=>
   refine⟨[v],?_,fun hr=>?_⟩
   ·have:=BVs.cons h .nil
    rwa [ka]at this
   ·cases hr with
    |cons h t=>cases t;exact h
  |tup h=>simp[MV.plV,MV.pl]at hp
theorem ZW{m:MV}{vs:Value}(h:BV g cu w vs m f)(hs:m.scal=true){g1:G}{cu1:H->Int}{w1:World}:RV g1 cu1 w1 vs m:=by
 cases h with
 |one h=>
  cases h with
  |rv h=>
   cases h<;>first|(cases hs;done)|skip
   rename_i h;cases h<;>first|(cases hs;done)|skip
   ·exact .sv (.bool _)
   ·exact .sv (.int _ _)
   ·exact .sv (.str _)
  |own0=>cases hs
  |own=>cases hs
  |ownK0=>cases hs
  |ownK=>cases hs
 |agg=>cases hs
theorem afV{ms:List MV}{vs:List Value}(h:BVs g cu w vs ms f)(hs:ms.all MV.scal=true){g1:G}{cu1:H->Int}{w1:World}:Rl (RV g1 cu1 w1) vs ms:=by
 induction h with
 |nil=>exact .nil
 |cons h _ ih=>
  simp only[yb,jg]at hs;exact .cons (ZW h hs.1) (ih hs.2)
theorem sameP_ok{q:H->Option H}{old new:MV}{x:Unit}(h:aeU q old new=some x):
 (∃hd h1 o,old=.ptr hd o/\q hd=some h1/\new=.ptr h1 o)\/(∃hd h1,old=.mapr hd/\q hd=some h1/\new=.mapr h1)\/(old=.nilp/\new=.nilp):=by
 unfold aeU at h;split at h
 ·split at h
  ·rename_i hq;unfold apC at h;split at h
   ·split at h
    ·rename_i hc;obtain⟨e1,e2⟩:=hc;subst e1;subst e2;exact .inl ⟨_,_,_,rfl,hq,rfl⟩
    ·cases h
   ·cases h
  ·cases h
 ·split at h
  ·rename_i hq;unfold OI at h;split at h
   ·split at h
    ·rename_i hc;subst hc;exact .inr (.inl ⟨_,_,rfl,hq,rfl⟩)
    ·cases h
   ·cases h
  ·cases h
 ·unfold apD at h;split at h
  ·exact .inr (.inr ⟨rfl,rfl⟩)
  ·cases h
 ·cases h
theorem akE{v:Value}(h:RV g cu w v .nilp):v=.pointer none:=by
 cases h with
 |sv h=>cases h
 |nilp=>rfl
variable {gs:List GH} {prot:Nat->Prop} {q:H->Option H}
theorem abJ{old new:MV}{k:MV->Option R}(h:F8 q old new k=some r)(hv:BC (gB gs prot) cu w v new f)(ep:g'.prot=prot)(hnd:∀h,(gB gs prot).rho h≠ .dead)
 (hq:∀hd h1,q hd=some h1->∀b,(gB gs prot).rho h1=.box b->g'.rho hd=.box b):∃m,k m=some r/\BC g' cu' w v m f:=by
 unfold F8 at h;split at h
 ·obtain⟨b,hb,h⟩:=aF h;rw[jE hb]at hv;exact⟨_,h,hv.plain rfl ep⟩
 ·obtain⟨b,hb,h⟩:=aF h;rw[o9 hb]at hv;exact⟨_,h,hv.plain rfl ep⟩
 ·obtain⟨b,hb,h⟩:=aF h;rw[AW hb]at hv;exact⟨_,h,hv.plain rfl ep⟩
 ·obtain⟨b,hb,h⟩:=aF h;rw[DP hb]at hv;exact⟨_,h,hv.plain rfl ep⟩
 ·obtain⟨b,hb,h⟩:=aF h;rw[GB hb]at hv;exact⟨_,h,hv.plain rfl ep⟩
 ·obtain⟨b,hb,h⟩:=aF h;rw[KV hb]at hv;exact⟨_,h,hv.plain rfl ep⟩
 ·obtain⟨x,hb,hk⟩:=aF h;rcases sameP_ok hb with⟨hd,h1,o,eo,eq,en⟩|⟨hd,h1,eo,eq,en⟩|⟨eo,en⟩
  ·subst en;subst eo;obtain⟨ef,hv2⟩:=hv.rv_of rfl;subst ef;cases hv2 with
   |sv h=>cases h
   |ptr e'=>exact⟨_,hk,.rv (.ptr (hq hd h1 eq _ e'))⟩
   |deadP e' _=>exact absurd e' (hnd h1)
  ·subst en;subst eo;obtain⟨ef,hv2⟩:=hv.rv_of rfl;subst ef;cases hv2 with
   |sv h=>cases h
   |mapr e'=>exact⟨_,hk,.rv (.mapr (hq hd h1 eq _ e'))⟩
   |deadM e' _=>exact absurd e' (hnd h1)
  ·subst en;subst eo;obtain⟨ef,hv2⟩:=hv.rv_of rfl;subst ef;rw[akE hv2];exact⟨_,hk,.rv .nilp⟩
theorem O5(ep:g'.prot=prot)(hnd:∀h,(gB gs prot).rho h≠ .dead)(hq:∀hd h1,q hd=some h1->∀b,(gB gs prot).rho h1=.box b->g'.rho hd=.box b):∀(os:List MV) {j:Nat} {ns:List MV} {vs:List Value} {f:List Nat} {k:List MV->Option R},w6 q os j ns k=some r->
 BCs (gB gs prot) cu w vs (ns.drop j) f->(ns.drop j).length=os.length->∃ms,k ms=some r/\BCs g' cu' w vs ms f
 |[],j,ns,vs,f,k,h,hv,hl=>by
  have:ns.drop j=[]:=ym hl;rw[this]at hv;cases hv;exact⟨[],h,.nil⟩
 |o::os,j,ns,vs,f,k,h,hv,hl=>by
  unfold w6 at h;have hlt:j<ns.length:=by rw[Jm,jf]at hl;omega
  have hd:ns.drop j=aC ns j::ns.drop (j+1):=by
   rw[qa hlt];unfold aC;rw[jr,jj hlt];rfl
  rw[hd]at hv hl;generalize aC ns j=new at hv h hl;cases hv with
  |cons hv ht=>
   obtain⟨m,h,hm⟩:=abJ (cu':=cu') h hv ep hnd hq;obtain⟨ms,h,hms⟩:=O5 ep hnd hq os h ht (by simpa using hl)
   exact⟨_,h,.cons hm hms⟩
theorem D6(ep:g'.prot=prot)(hnd:∀h,(gB gs prot).rho h≠ .dead)(hq:∀hd h1,q hd=some h1->∀b,(gB gs prot).rho h1=.box b->g'.rho hd=.box b):∀(os:List Obj) {rs:List Obj} {b1 b2:List GH} {f:List Nat} {k:List Obj->Option R},lR q os rs k=some r->
 BOs (gB gs prot) cu w (b1++b2) rs f->b1.length=os.length->∃ns f1 f2,k ns=some r/\f=f1++f2/\BOs g' cu' w b1 ns f1/\BOs (gB gs prot) cu w b2 (rs.drop os.length) f2/\∀(j:Nat) (y:List Row),ns[j]?=some (.rows y)->∃x,os[j]?=some (.rows x)/\nrows y=nrows x
 |[],rs,b1,b2,f,k,h,hv,hl=>by
  have:b1=[]:=ym hl;subst this;exact⟨[],[],f,h,rfl,.nil,hv,fun j y h=>by simp at h⟩
 |o::os,rs,b1,b2,f,k,h,hv,hl=>by
  cases b1 with
  |nil=>simp at hl
  |cons b b1=>
   cases hv with
   | @cons _ o' fa _ rs fs hv ht=>
     cases o with
     |cells cs0=>
      simp only[lR,hdO,tlO,List.headD_cons,List.tail_cons]at h;obtain⟨ns,hn,hk⟩:=aF h;obtain⟨eo,hlen⟩:=D5 hn;subst eo;cases hv with
      |cells hh hnp hc=>
       obtain⟨ms,h,hms⟩:=O5 (cu':=cu') ep hnd hq _ hk (by simpa using hc) (by simpa using hlen)
       obtain⟨ns',f1,f2,h,ef,h1,h2,h3⟩:=D6 ep hnd hq os h ht (by simpa using hl)
       refine⟨_,fa++f1,f2,h,by rw[ef,qm],.cons (.cells hh (by rw[ep];exact hnp) hms) h1,by simpa using h2,fun j y hy=>?_⟩
       cases j with
       |zero=>simp at hy
       |succ j=>exact h3 j y (by simpa using hy)
     |map es0=>
      simp only[lR,hdO,tlO,List.headD_cons,List.tail_cons]at h;obtain⟨es,hn,hk⟩:=aF h;have eo:=O4 hn;subst eo;cases hv with
      |map hh hnp hm=>
       obtain⟨ns',f1,f2,h,ef,h1,h2,h3⟩:=D6 ep hnd hq os hk ht (by simpa using hl)
       refine⟨_,[]++f1,f2,h,by rw[ef];rfl,.cons (.map hh (by rw[ep];exact hnp) hm) h1,by simpa using h2,fun j y hy=>?_⟩
       cases j with
       |zero=>simp at hy
       |succ j=>exact h3 j y (by simpa using hy)
     |rows x0=>
      simp only[lR,hdO,tlO,List.headD_cons,List.tail_cons]at h;obtain⟨y0,hn,hk⟩:=aF h;have eo:o'=.rows y0:=by
       unfold rR at hn;split at hn
       ·cases hn;rfl
       ·cases hn
      subst eo;rcases br_some hk with⟨hc,hk⟩|⟨_,hk⟩
      case inr=>simp at hk
      have hlen:=iEq_true hc;have hB:BO g' cu' w b (.rows y0) []/\fa=[]:=by
       cases hv with
       |rows hh hnp hs hl hr=>exact⟨.rows hh (by rw[ep];exact hnp) hs hl (by rw[ep];exact hr),rfl⟩
       |rowsN=>exact⟨.rowsN,rfl⟩
      obtain⟨hB,efa⟩:=hB;subst efa;obtain⟨ns',f1,f2,h,ef,h1,h2,h3⟩:=D6 ep hnd hq os hk ht (by simpa using hl)
      refine⟨_,[]++f1,f2,h,by rw[ef];rfl,.cons hB h1,by simpa using h2,fun j y hy=>?_⟩
      cases j with
      |zero=>simp at hy;subst hy;exact⟨x0,rfl,hlen⟩
      |succ j=>exact h3 j y (by simpa using hy)
     |none=>simp[lR]at h
     |froz _=>simp[lR]at h
end
end Kw
namespace Kw
open Go
variable [Gl]
theorem HL:∀l:List H,(OJ l).Nodup
 |[]=>.nil
 |h::hs=>by
  unfold OJ;refine wz.2 ⟨fun hm=>?_,(HL hs).filter _⟩
  have:=(wv.1 hm).2;simp at this
section
variable {R:Type} {r:R} {g g' gx:G} {cu cu' cux:H->Int} {w w':World} {fr:Fr} {tmps:Array Value}
theorem yP(hs:List H)(os:List Obj)(ob:Ob):(jT hs os ob).map (·.1)=ob.map (·.1):=by
 unfold jT;rw[List.map_map];refine Jb fun p _=>?_
 simp only[Function.comp];split<;>rfl
theorem yQ{hs:List H}{os:List Obj}{h:H}(e:idx hs h 0=none):∀ob:Ob,look (jT hs os ob) h=look ob h
 |[]=>rfl
 |(a,o)::ob=>by
  have ih:=yQ (os:=os) e ob;unfold jT at ih⊢;simp only[yh];by_cases ea:a=h
  ·subst ea;rw[e];simp[look]
  ·cases e':idx hs a 0 with
   |none=>simp only[look,jc ea];exact ih
   |some i=>simp only[look,jc ea];exact ih
theorem afW{p q:Prop} [Decidable p] [Decidable q]{α:Type}(h:p↔q)(x y:α):(if p then x else y)=if q then x else y:=by
 by_cases hq:q
 ·rw[je hq,je (h.2 hq)]
 ·rw[jc hq,jc fun hp=>hq (h.1 hp)]
theorem qK{hs:List H}{os:List Obj}{h:H}{i:Nat}(e:idx hs h 0=some i):∀ob:Ob,look (jT hs os ob) h=if h∈ob.map (·.1)then forgetO (os.getD i .none)else .none
 |[]=>rfl
 |(a,o)::ob=>by
  have ih:=qK (os:=os) e ob;unfold jT at ih⊢;simp only[yh];by_cases ea:a=h
  ·subst ea;rw[e];simp[look]
  ·have hm:h∈(a::ob.map (·.1))↔h∈ob.map (·.1):=by simp[Ne.symm ea]
   rw[afW hm];cases e':idx hs a 0 with
   |none=>simp only[look,jc ea];exact ih
   |some i=>simp only[look,jc ea];exact ih
theorem ZX:∀(hs:List H) (h:H) (n i:Nat),idx hs h n=some i->h∈hs
 |[],h,n,i,e=>by simp[idx]at e
 |a::hs,h,n,i,e=>by
  unfold idx at e;split at e
  ·rename_i ea;rw[ea];exact qk
  ·exact kz _ (ZX hs h _ i e)
theorem BOs.get{bs:List GH}{os:List Obj}{f:List Nat}(h:BOs g cu w bs os f):∀(i:Nat) (b:GH),bs[i]?=some b->∃o f,os[i]?=some o/\BO g cu w b o f:=by
 induction h with
 |nil=>intro i b hb;simp at hb
 |cons h _ ih=>
  intro i b hb;cases i with
  |zero=>simp at hb;subst hb;exact⟨_,_,rfl,h⟩
  |succ i=>exact ih i b (by simpa using hb)
theorem akF{hs:List H}{ns:List Obj}{gs:List GH}{F F' fo:List Nat}{prot':Nat->Prop}(S:Sim fr g tmps w)(hnd:hs.Nodup)(hl:gs.length=hs.length)(hbx:∀(j:Nat) (h:H) (b:GH),hs[j]?=some h->gs[j]?=some b->g.rho h=b)
 (B:BOs gx cux w' gs ns fo) (hgx:gx.prot=prot') (hlen:∀(j:Nat) (h:H) (y:List Row),hs[j]?=some h->ns[j]?=some (.rows y)->cur fr.ob h=nrows y) (K:Frm F g.prot w F' prot' w') (hF:∀b∈F,(b∈blks gs\/∀h,(g.rho h).blk≠some b)/\¬g.prot b) (hplt:∀b,prot' b->b<w'.heap.size):
 Sim {fr with ob:=jT hs ns fr.ob} ⟨g.rho,prot'⟩ tmps w'/\∀h,cur (jT hs ns fr.ob) h=cur fr.ob h:=by
 have hin:∀h i,idx hs h 0=some i->∃x,hs[i]?=some h/\gs[i]?=some x/\g.rho h=x:=fun h i e=>by
  have hi:=((yO hs h 0 i hnd).1 e).2;simp only[Nat.sub_zero]at hi;have hlt:i<gs.length:=by rw[hl];exact(jm.1 hi).1
  exact⟨_,hi,jj hlt,hbx i h _ hi (jj hlt)⟩
 have hcur:∀h,cur (jT hs ns fr.ob) h=cur fr.ob h:=fun h=>by
  cases e:idx hs h 0 with
  |none=>unfold cur;rw[yQ e]
  |some i=>
   obtain⟨x,h1,h2,h3⟩:=hin h i e;obtain⟨o',f',ho',hB⟩:=B.get i x h2;have hk:h∈fr.ob.map (·.1):=by
    refine Classical.byContradiction fun hn=>?_
    rw[(S.o.abs h).2 hn]at h3;exact B.ne i x h2 h3.symm
   have hlk:look (jT hs ns fr.ob) h=forgetO o':=by
    rw[qK e,je hk,jr,ho'];rfl
   cases hB with
   |cells=>rw[Q4 S.o h3];unfold cur;rw[hlk];rfl
   |map=>rw[Q4 S.o h3];unfold cur;rw[hlk];rfl
   |rows=>rw[hlen i h _ h1 ho'];unfold cur;rw[hlk];rfl
   |rowsN=>rw[hlen i h _ h1 ho'];unfold cur;rw[hlk];rfl
 have hprotF:∀b,g.prot b->b∉F:=fun b hp hm=>(hF b hm).2 hp
 have L:Later g ⟨g.rho,prot'⟩ (cur fr.ob) (cur (jT hs ns fr.ob)) w w':=by
  refine⟨fun _ _ e=>.inl e,fun h _ _ _ e=>.inr ⟨?_,.inl e⟩,fun h e=>.inr ⟨?_,.inl e⟩,fun _ e=>e,K.psub,fun b hp=>K.heap b (S.o.plt b hp) (hprotF b hp)⟩
  ·rw[hcur h];exact jz _
  ·rw[hcur h];exact jz _
 refine⟨S.later L ⟨by rw[yP];exact S.o.keys,fun h=>by rw[yP];exact S.o.abs h,fun h o hm=>?_,S.o.inj,fun h b e=>v3 (S.o.lt h b e) K.size,hplt,S.o.gl.mono L.prot L.heap⟩,hcur⟩
 unfold jT at hm;obtain⟨p,hp,e⟩:=qf.1 hm;cases ei:idx hs p.1 0 with
 |none=>
  rw[ei]at e;simp only at e;subst e;have hnb:∀b,(g.rho h).blk=some b->b∉F:=fun b eb hm=>by
   rcases(hF b hm).1 with hx|hx
   ·obtain⟨x,hx,ex⟩:=eK.1 hx;obtain⟨j,hj,ej⟩:=qh.1 hx;have hj':j<hs.length:=by rw[<-hl];exact hj
    have e2:=hbx j _ x (jj hj') (by rw[jj hj,ej])
    have:=S.o.inj _ _ _ eb (by rw[e2];exact ex)
    have hi:=(yO hs h 0 j hnd).2 ⟨by omega,by rw[this];simp⟩
    simp only at ei;rw[ei]at hi;cases hi
   ·exact hx h eb
  refine(S.o.obj h o hp).mono L rfl (fun b eb=>K.heap b (S.o.lt h b eb) (hnb b eb)) (fun b eb hn hp'=>?_)
  rcases K.pnew b hp' with x|x|x
  ·exact hn x
  ·have:=S.o.lt h b eb;omega
  ·exact hnb b eb x
 |some i=>
  rw[ei]at e;simp only at e;cases e;obtain⟨x,_,hb,er⟩:=hin _ _ ei;obtain⟨o',f',ho',hB⟩:=B.get i x hb;rw[jr,ho'];simp only[Jl];cases hB with
  | @cells b arr ty cs _ hh hn hc=>
    refine⟨b,arr,ty,er,hh,by rw[hgx]at hn;exact hn,by have:=hc.len;simpa using this,fun j v m h1 h2=>?_⟩
    rw[jo]at h2;obtain⟨m',_,e⟩:=kw.1 h2;rw[<-e];exact .undef _
  | @map b _ _ _ hh hn hm=>exact⟨b,_,_,er,hh,by rw[hgx]at hn;exact hn,hm⟩
  | @rows b cap sz arr ty rs hh hn hs hl hr=>exact .inr ⟨b,cap,sz,arr,ty,er,hh,by rw[hgx]at hn;exact hn,hs.weak (fun e=>by cases e),hl,by rw[hgx]at hr;exact hr⟩
  |rowsN=>exact .inl ⟨er,rfl⟩
def G.lent(g:G):G:=⟨g.rho,fun b=>g.prot b\/∃h,(g.rho h).blk=some b⟩
theorem WU:Later g g.lent cu cu w w:=
 ⟨fun _ _ e=>.inl e,fun h _ _ _ e=>.inr ⟨jz _,.inl e⟩,fun h e=>.inr ⟨jz _,.inl e⟩,fun _ e=>e,fun _ h=>.inl h,fun _ _=>rfl⟩
theorem TR{m:MV}{k:MV->Option R}{v:Value}(h:B6 fr m k=some r)(S:Sim fr g tmps w)(hv:RV g (cur fr.ob) w v m):∃m',k m'=some r/\RV g.lent (cur fr.ob) w v m':=by
 unfold B6 at h;split at h
 ·rename_i hd n;split at h
  ·rename_i x e;rcases br_some h with⟨en,h⟩|⟨_,h⟩
   ·refine⟨_,h,.sv ?_⟩;have hn:=iEq_true en;have hcur:n=cur fr.ob hd:=by unfold cur;unfold Fr.obj at e;rw[e];exact hn
    rcases obj_of S.o e (by simp)with⟨er,ex⟩|⟨b,cap,sz,arr,ty,er,hh,hnp,hs,hl,hr⟩
    ·subst ex;obtain⟨a0,ev⟩:=tN hv er hcur;rw[ev];exact J6 _ _
    ·rw[yG hv er hcur,hn];have:(nrows x).toNat=x.length:=by unfold nrows;simp
     rw[this];exact QM (.inr ⟨_,by rw[er];rfl⟩) hh hl (hr.mono (fun _ h=>.inl h) fun _ _=>rfl)
   ·simp at h
  ·rename_i x e;rcases br_some h with⟨en,h⟩|⟨_,h⟩
   ·exact⟨_,h,.sv ((QN S e (iEq_true en) hv).mono (fun _ h=>.inl h) fun _ _=>rfl)⟩
   ·simp at h
  ·simp at h
 ·rw[I1 hv];exact⟨_,h,.sv (J6 _ _)⟩
 ·exact⟨_,h,hv.mono WU⟩
theorem TS(S:Sim fr g tmps w):∀(ms:List MV) {vs:List Value} {k:List MV->Option R},G7 fr ms k=some r->Rl (RV g (cur fr.ob) w) vs ms->∃ms',k ms'=some r/\Rl (RV g.lent (cur fr.ob) w) vs ms'
 |[],vs,k,h,hv=>by cases hv;exact⟨[],h,.nil⟩
 |m::ms,vs,k,h,hv=>by
  cases hv with
  |cons hv ht=>
   simp only[G7]at h;obtain⟨m',h,h1⟩:=TR h S hv;obtain⟨ms',h,h2⟩:=TS S ms h ht;exact⟨_,h,.cons h1 h2⟩
theorem KX{m:MV}(ha:m.isAg=false)(ms:List MV)(k:List MV->Option R):w5 fr (m::ms) k=B6 fr m fun m=>w5 fr ms fun ms=>k (m::ms):=by
 cases m<;>first|rfl|(cases ha;done)
theorem KY(S:Sim fr g tmps w):∀(ms:List MV) {vs:List Value} {k:List MV->Option R},w5 fr ms k=some r->Rl (RV g (cur fr.ob) w) vs ms->∃ms',k ms'=some r/\Rl (RV g.lent (cur fr.ob) w) vs ms'
 |[],vs,k,h,hv=>by cases hv;exact⟨[],h,.nil⟩
 |m::ms,vs,k,h,hv=>by
  cases hv with
  |cons hv ht=>
   by_cases ha:m.isAg=true
   ·obtain⟨cs,e⟩:=HK ha;subst e;simp only[w5]at h;obtain⟨us,ev,hl,hr⟩:=yF hv;obtain⟨cs',h,h1⟩:=TS S cs h (n7 us.toList cs (by simpa using hl) fun j v m h1 h2=>hr j v m (by simpa using h1) h2)
    obtain⟨ms',h,h2⟩:=KY S ms h ht;refine⟨_,h,.cons ?_ h2⟩;rw[ev];exact .agg (by have:=h1.len;simpa using this) fun q x y e1 e2=>h1.at q x y (by simpa using e1) e2
   ·have ha:m.isAg=false:=by simpa using ha
    rw[KX ha]at h;obtain⟨m',h,h1⟩:=TR h S hv;obtain⟨ms',h,h2⟩:=KY S ms h ht;exact⟨_,h,.cons h1 h2⟩
theorem O6(S:Sim fr g tmps w)(hw:∀b,b<w.heap.size->w'.heap[b]?=w.heap[b]?)(hs:w.heap.size<=w'.heap.size):Sim fr g tmps w':=by
 have L:Later g g (cur fr.ob) (cur fr.ob) w w':=
  ⟨fun _ _ e=>.inl e,fun _ _ _ _ e=>.inr ⟨jz _,.inl e⟩,fun _ e=>.inr ⟨jz _,.inl e⟩,fun _ e=>e,fun _ h=>h,fun b hp=>hw b (S.o.plt b hp)⟩
 exact S.later L ⟨S.o.keys,S.o.abs,fun h o hm=>(S.o.obj h o hm).mono L rfl (fun b e=>hw b (S.o.lt h b e)) fun _ _ hn=>hn,S.o.inj,fun h b e=>v3 (S.o.lt h b e) hs,fun b hp=>v3 (S.o.plt b hp) hs,S.o.gl.mono L.prot L.heap⟩
theorem pL.mono{P:Program}{f:FuncId}{vals:Array Value}{Rq Rq':Value->World->Prop}(h:pL P f vals w Rq)(hm:∀v w',Rq v w'->Rq' v w'):pL P f vals w Rq':=by
 unfold pL at*;split
 ·rename_i e;rw[e]at h;simp only at h;exact h.mono fun e w'' ⟨v,he,hr⟩=>⟨v,he,hm _ _ hr⟩
 ·rename_i e;rw[e]at h;exact hm _ _ h
 ·rename_i h1 h2;split at h
  ·rename_i e;exact absurd e (h1 _ _ _)
  ·rename_i e;exact absurd e (h2 _ _)
  ·exact h
end
end Kw
namespace Kw
open Go
variable [Gl]
section
variable {R:Type} {r:R} {g:G} {w:World} {fr:Fr} {E:Env} {run:Run}
theorem D7{k:Fr->Option R}{fr1:Fr}{g g':G}{w w':World}{a:Act}{dst:Option Tmp}{v:Value}{m:MV}
 (hk:k (fr1.finish dst m)=some r) (S:Sim fr1 g' a.tmps w') (h:RV g' (cur fr1.ob) w' v m) (F:Fm g w g' w'):iD r k g w a (a.put dst v) w':=rZ hk S h F
theorem afX{f:FuncId}{tmps:Array Value}{ms:List MV}{vs:List Value}{k:List MV->Fr->Option R}(h:w8 E f ms fr k=some r)(S:Sim fr g tmps w)(hv:Rl (RV g (cur fr.ob) w) vs ms):
 ∃ms' fr' g' f,k ms' fr'=some r/\Gv fr fr' g g' f tmps w/\BVs g' (cur fr'.ob) w vs ms' f:=by
 unfold w8 at h;split at h
 ·exact⟨ms,fr,g,[],h,Gv.refl S,pB hv⟩
 ·exact D3 _ h S hv
theorem abK(hrun:cL E.P run){f:FuncId}{margs:List MV}{vals:Array Value}{o:Oper}{k:Fr->Option R}{a:Act}
 (h:QF E run f margs fr o k=some r) (S:Sim fr g a.tmps w) (hv:Rl (RV g (cur fr.ob) w) vals.toList margs):
 pL E.P f vals w fun v w'=>iD r k g w a (a.put o.dst v) w':=by
 unfold QF lF at h;simp only at h;split at h
 ·obtain⟨args',h,hv'⟩:=KY S _ h hv;obtain⟨res,hres,h⟩:=aF h;have hb:BVs (gB [] g.lent.prot) (cuB []) w vals.toList (args'.map (F7 (toI []))) []:=
   (pB hv').out (hs:=[]) (gs:=[]) .nil rfl (fun j h b h1=>by simp at h1) (fun i=>by simp[frI,cuB])
  have p:Pre [] g.lent.prot w vals.toList (args'.map (F7 (toI []))) [] [] []:=
   ⟨hb,.nil,.nil,fun b hb=>by simp[blks]at hb,fun b hp=>hp.elim (S.o.plt b) fun⟨h,e⟩=>S.o.lt h b e,S.o.gl.mono (fun _ h=>.inl h) fun _ _=>rfl⟩
  refine(hrun hres p).mono fun v w' ⟨ex,prot',fa',fo',hR,_,_,_,_,K⟩=>?_
  obtain⟨ms,b,h,hp,hm⟩:=ZV h;split at h
  case isFalse=>simp at h
  rename_i hs;obtain⟨vs,hvs,hun⟩:=KW hR hm hp;have hheap:∀b,b<w.heap.size->w'.heap[b]?=w.heap[b]?:=fun b hb=>K.heap b hb (by simp[blks])
  exact D7 h (O6 S hheap K.size) (hun (afV hvs hs)) ⟨K.os,K.tape,K.output,K.size,fun b hb _=>hheap b hb,fun h b e=>.inr ⟨h,e⟩,fun _ h=>h,fun _ h=>.inl h,fun _=>.inl rfl⟩
 ·obtain⟨args',fr1,g1,f1,h,G1,B1⟩:=afX h S hv;obtain⟨os,fr2,g2,f2,gs,h,G2,B2,hl,hbx,hrw⟩:=yN _ h G1.sim;have hnd:(iT fr1 (args'.flatMap cI++iU E f args')).Nodup:=HL _;generalize iT fr1 (args'.flatMap cI++iU E f args')=hs at*;have G12:=G1.trans G2;have B1':=B1.next G2 fun b hb=>(G1.own b hb).2.1
  obtain⟨hnod,hfg,hlt,hbsb⟩:=TQ S G12 hnd hl hbx;obtain⟨res,hres,h⟩:=aF h;have hcu:=ZR G2.sim.o B2 hl hbx hrw;have p:Pre gs g2.prot w vals.toList (args'.map (F7 (toI hs))) (os.map (B0 (toI hs))) f1 f2:=
   ⟨B1'.out hnd hl hbx hcu,B2.out hnd hl hbx hcu,hnod,hlt,G2.sim.o.plt,G2.sim.o.gl⟩
  refine(hrun hres p).mono fun v w' ⟨ex,prot',fa',fo',hR,hO,hnod',hlt',hplt',K⟩=>?_
  have hosl:gs.length=os.length:=B2.len;have ebl:blks (gs++ex)=blks gs++blks ex:=List.filterMap_append;have hdead:∀h,(gB (gs++ex) prot').rho h≠ .dead:=fun h=>by
   cases h with
   |imp i=>
    unfold gB;simp only;cases e:(gs++ex)[i]? with
    |none=>simp
    |some x=>exact hO.nd i x e
   |impc i j=>simp[gB]
   |loc t j=>simp[gB]
  have hq:∀hd h1,toI hs hd=some h1->∀b,(gB (gs++ex) prot').rho h1=.box b->(⟨g2.rho,prot'⟩:G).rho hd=.box b:=by
   intro hd h1 e b eb;have e':=(I2 hnd hd h1).1 e;cases h1 with
   |imp i=>
    simp only[frI]at e';have hlti:i<gs.length:=by rw[hl];exact(jm.1 e').1
    have hgi:(gs++ex)[i]?=some (gs[i]'hlti):=by rw[yd hlti,jj hlti]
    rw[Q2 hgi]at eb;exact(hbx i hd _ e' (jj hlti)).trans eb
   |impc i j=>cases e'
   |loc t j=>cases e'
  obtain⟨ns,fo1,fo2,h,ef,BN,BX,hlen⟩:=D6 (cu':=cur fr2.ob) (g':=⟨g2.rho,prot'⟩) rfl hdead hq os h hO hosl;subst ef;have hF:∀b∈f1++f2++blks gs,(b∈blks gs\/∀h,(g2.rho h).blk≠some b)/\¬g2.prot b:=fun b hb=>by
   rcases jv.1 hb with x|x
   ·exact⟨.inr (G12.own b x).2.1,(G12.own b x).2.2⟩
   ·exact⟨.inl x,B2.bnp b x⟩
  obtain⟨S3,hc3⟩:=akF G2.sim hnd hl hbx BN rfl (fun j h y h1 h2=>by
   obtain⟨x,h3,h4⟩:=hlen j y h2;have:=hrw j h x h1 h3;unfold Fr.obj at this;unfold cur;rw[this,h4]) K hF hplt'
  rw[ebl]at hnod' K;have L3:Later (⟨g2.rho,prot'⟩:G) ⟨g2.rho,prot'⟩ (cur fr2.ob) (cur (jT hs ns fr2.ob)) w' w':=
   ⟨fun _ _ e=>.inl e,fun h _ _ _ e=>.inr ⟨by rw[hc3 h];exact jz _,.inl e⟩,fun h e=>.inr ⟨by rw[hc3 h];exact jz _,.inl e⟩,fun _ e=>e,fun _ h=>h,fun _ _=>rfl⟩
  have BN3:BOs (⟨g2.rho,prot'⟩:G) (cur (jT hs ns fr2.ob)) w' gs ns fo1:=BN.mono L3 (fun b hb=>⟨rfl,BN.np b hb⟩) fun x _ b hb=>⟨rfl,id⟩
  obtain⟨hn1,hn2,hn3⟩:=qt.1 hnod';obtain⟨hna,hno,hao⟩:=qt.1 hn1;obtain⟨hno1,hno2,ho12⟩:=qt.1 hno;obtain⟨hbs,hex,hbe⟩:=qt.1 hn2;have hnew:∀b,b∈fa'++(fo1++fo2)++(blks gs++blks ex)->b∉blks gs->∀h,(g2.rho h).blk≠some b:=fun b hb hnb h e=>by
   rcases K.own b hb with x|x
   ·have:=G2.sim.o.lt h b e;omega
   ·rcases jv.1 x with y|y
    ·exact(G12.own b y).2.1 h e
    ·exact hnb y
  have hnA:∀b∈fa',∀h,(g2.rho h).blk≠some b:=fun b hb=>hnew b (by simp[hb]) fun hx=>hn3 b (by simp[hb]) b (by simp[hx]) rfl
  have hnO:∀b∈fo1++fo2,∀h,(g2.rho h).blk≠some b:=fun b hb=>hnew b (by simp only[jv]at hb⊢;exact .inl (.inr hb)) fun hx=>hn3 b (by simp only[jv]at hb⊢;exact .inr hb) b (by simp[hx]) rfl
  have hnX:∀b∈blks ex,∀h,(g2.rho h).blk≠some b:=fun b hb=>hnew b (by simp[hb]) fun hx=>hbe b hx b hb rfl
  have hFm:∀g5:G,g5.prot=prot'->(∀h b,(g5.rho h).blk=some b->(g2.rho h).blk=some b\/b∈fa'++(fo1++fo2)++(blks gs++blks ex))->(∀i,g5.rho (.imp i)=g2.rho (.imp i))->Fm g w g5 w':=fun g5 e1 e2 e3=>by
   refine⟨K.os,K.tape,K.output,K.size,fun b hb hn=>K.heap b hb fun hm=>?_,fun h b e=>?_,fun b hp=>?_,fun b hp=>?_,fun i=>?_⟩
   ·obtain⟨h,e⟩:=hfg b hm;exact hn h e
   ·rcases e2 h b e with x|x
    ·exact .inr ⟨h,G12.blk h b x⟩
    ·rcases K.own b x with y|y
     ·exact .inl y
     ·obtain⟨h,e⟩:=hfg b y;exact .inr ⟨h,e⟩
   ·rw[e1];exact K.psub b (G12.later.prot b hp)
   ·rw[e1]at hp;rcases K.pnew b hp with x|x|x
    ·rcases G12.prot' b x with y|⟨h,y,_⟩
     ·exact .inl y
     ·exact .inr (.inr ⟨h,y⟩)
    ·exact .inr (.inl x)
    ·obtain⟨h,e⟩:=hfg b x;exact .inr (.inr ⟨h,e⟩)
   ·rw[e3];exact G12.imp i
  have hback:∀{kk:Fr->Option R},eG (nmB (o.dst.getD 0)) hs ns 0 {fr2 with ob:=jT hs ns fr2.ob} kk=some r->∃fr4 g4,kk fr4=some r/\Sim fr4 g4 a.tmps w'/\g4.prot=prot'/\(∀h b,(g4.rho h).blk=some b->(g2.rho h).blk=some b\/b∈fo1)/\∀i,g4.rho (.imp i)=g2.rho (.imp i):=fun hk=>by
   obtain⟨fr4,g4,hk,S4,A4⟩:=sC (nm:=nmB (o.dst.getD 0)) (by simp[nmB]) hs ns hk S3 BN3 hbx hno1 (fun b hb=>hnO b (by simp[hb]))
   exact⟨fr4,g4,hk,S4,A4.prot,A4.blk,A4.imp⟩
  split at h
  ·
   rename_i e _;obtain⟨_,hnP,h⟩:=aF h;obtain⟨cs,hcs,h⟩:=aF h;have em:res.1=.ptr (.imp hs.length) 0:=by
    unfold aeV at hnP;split at hnP
    ·rename_i hm;split at hnP
     ·rename_i hc;rw[hm,hc.1,hc.2]
     ·cases hnP
    ·cases hnP
   rw[em]at hR;have hRV:RV (gB (gs++ex) prot') (cuB res.2) w' v (.ptr (.imp hs.length) 0)/\fa'=[]:=by
    cases hR with
    |one h _=>exact⟨((h.bc_of rfl).rv_of rfl).2,((h.bc_of rfl).rv_of rfl).1⟩
   obtain⟨hRV,efa⟩:=hRV;subst efa;cases ex with
   |nil=>
    exfalso;have:(gB (gs++[]) prot').rho (.imp hs.length)=.absent:=by simp[gB,<-hl]
    cases hRV with
    |sv h=>cases h
    |ptr e'=>rw[this]at e';cases e'
    |deadP e' _=>rw[this]at e';cases e'
   |cons x ex=>
    have exx:(gB (gs++x::ex) prot').rho (.imp hs.length)=x:=Q2 (by rw[<-hl];simp)
    have hbx0:∃b,x=.box b:=by
     cases hRV with
     |sv h=>cases h
     |ptr e'=>exact⟨_,exx.symm.trans e'⟩
     |deadP e' _=>exact absurd e' (hdead _)
    obtain⟨b,exb⟩:=hbx0;subst exb;have ev:=GC hRV exx;have ebx:blks (GH.box b::ex)=b::blks ex:=rfl;rw[ebx]at hn2 hn3 hnX hFm hnew hex hbe;have hdrop:∃o' rs,res.2.drop os.length=o'::rs:=by
     cases hd:res.2.drop os.length with
     |nil=>rw[hd]at BX;cases BX
     |cons o' rs=>exact⟨o',rs,rfl⟩
    obtain⟨o',rs,hd⟩:=hdrop;rw[hd]at BX;have hget:MZ res.2 hs.length=o':=by
     unfold MZ;rw[jr,<-hl,hosl];have:=wo (fun l=>l[0]?) hd
     simp only[wy,yv,List.getElem?_cons_zero]at this;rw[this];rfl
    rw[hget]at hcs;obtain⟨eo,hlen⟩:=D5 hcs;subst eo;cases BX with
    | @cons _ _ fx _ _ fs hB hBt=>
      cases hB with
      | @cells _ arr ty _ _ hh hnp hc=>
        obtain⟨h,hpl⟩:=Q5 _ _ _ _ h;have ecs:(cs.drop 0).take (jP E.P e).length=cs:=by rw[qb,<-hlen,Jg]
        rw[ecs]at h hpl;obtain⟨fr4,g4,h,S4,ep4,hb4,hi4⟩:=hback h;obtain⟨hfx,hfs,hxs⟩:=qt.1 hno2;have hb4':∀x,(∀h,(g2.rho h).blk≠some x)->x∉fo1->∀h,(g4.rho h).blk≠some x:=fun x h1 h2 h e'=>by
         rcases hb4 h x e' with y|y
         ·exact h1 h y
         ·exact h2 y
        obtain⟨cs',fr5,g5,h,S5,A5,hr5⟩:=AZ (nm:=nmR (o.dst.getD 0) 1) (by simp[nmR]) cs h S4 (hc.plain hpl ep4) hfx (fun x hx=>hb4' x (hnO x (by simp[hx])) fun hy=>ho12 x hy x (by simp[hx]) rfl)
        obtain⟨hfree,h⟩:=iE h;have hbx5:∀h',(g5.rho h').blk≠some b:=fun h' e'=>by
         rcases A5.blk h' b e' with y|y
         ·exact hb4' b (hnX b (by simp)) (fun hy=>hn3 b (by simp[hy]) b (by simp) rfl) h' y
         ·exact hn3 b (by simp[y]) b (by simp) rfl
        obtain⟨S6,A6⟩:=ZO S5 (by simp) hfree (.cells cs') (.box b) [b] (by simp) (fun x e'=>by cases e';simp) (fun x e'=>by cases e';exact⟨heap_lt hh,hbx5⟩)
         (fun L=>⟨b,arr,ty,aI,hh,by rw[show(g5.setR (.loc (o.dst.getD 0) 0) (.box b)).prot=g5.prot from rfl,A5.prot,ep4];exact hnp,by have:=hr5.len;simpa using this,fun j x m h1 h2=>(hr5.at j x m (by simpa using h1) h2).mono L⟩)
        refine D7 h S6 (by rw[ev];exact .ptr aI) (hFm _ ?_ (fun h' x e'=>?_) fun i=>?_)
        ·exact(A6.prot.trans A5.prot).trans ep4
        ·rcases A6.blk h' x e' with y|y
         ·rcases A5.blk h' x y with z|z
          ·rcases hb4 h' x z with u|u
           ·exact .inl u
           ·exact .inr (by simp[u])
          ·exact .inr (by simp[z])
         ·simp at y;subst y;exact .inr (by simp)
        ·exact((A6.imp i).trans (A5.imp i)).trans (hi4 i)
  ·
   obtain⟨_,hnP,h⟩:=aF h;obtain⟨es,hes,h⟩:=aF h;have em:res.1=.mapr (.imp hs.length):=by
    unfold apY at hnP;split at hnP
    ·rename_i hm;split at hnP
     ·rename_i hc;rw[hm,hc]
     ·cases hnP
    ·cases hnP
   rw[em]at hR;have hRV:RV (gB (gs++ex) prot') (cuB res.2) w' v (.mapr (.imp hs.length))/\fa'=[]:=by
    cases hR with
    |one h _=>exact⟨((h.bc_of rfl).rv_of rfl).2,((h.bc_of rfl).rv_of rfl).1⟩
   obtain⟨hRV,efa⟩:=hRV;subst efa;cases ex with
   |nil=>
    exfalso;have:(gB (gs++[]) prot').rho (.imp hs.length)=.absent:=by simp[gB,<-hl]
    cases hRV with
    |sv h=>cases h
    |mapr e'=>rw[this]at e';cases e'
    |deadM e' _=>rw[this]at e';cases e'
   |cons x ex=>
    have exx:(gB (gs++x::ex) prot').rho (.imp hs.length)=x:=Q2 (by rw[<-hl];simp)
    have hbx0:∃b,x=.box b:=by
     cases hRV with
     |sv h=>cases h
     |mapr e'=>exact⟨_,exx.symm.trans e'⟩
     |deadM e' _=>exact absurd e' (hdead _)
    obtain⟨b,exb⟩:=hbx0;subst exb;have ev:=QK hRV exx;have ebx:blks (GH.box b::ex)=b::blks ex:=rfl;rw[ebx]at hn2 hn3 hnX hFm hnew hex hbe;have hdrop:∃o' rs,res.2.drop os.length=o'::rs:=by
     cases hd:res.2.drop os.length with
     |nil=>rw[hd]at BX;cases BX
     |cons o' rs=>exact⟨o',rs,rfl⟩
    obtain⟨o',rs,hd⟩:=hdrop;rw[hd]at BX;have hget:MZ res.2 hs.length=o':=by
     unfold MZ;rw[jr,<-hl,hosl];have:=wo (fun l=>l[0]?) hd
     simp only[wy,yv,List.getElem?_cons_zero]at this;rw[this];rfl
    rw[hget]at hes;have eo:=O4 hes;subst eo;cases BX with
    | @cons _ _ fx _ _ fs hB hBt=>
      cases hB with
      |map hh hnp hm=>
       obtain⟨fr4,g4,h,S4,ep4,hb4,hi4⟩:=hback h;obtain⟨hfree,h⟩:=iE h;have hbx4:∀h',(g4.rho h').blk≠some b:=fun h' e'=>by
        rcases hb4 h' b e' with y|y
        ·exact hnX b (by simp) h' y
        ·exact hn3 b (by simp[y]) b (by simp) rfl
       obtain⟨S6,A6⟩:=ZO S4 (by simp) hfree (.map es) (.box b) [b] (by simp) (fun x e'=>by cases e';simp) (fun x e'=>by cases e';exact⟨heap_lt hh,hbx4⟩)
        (fun L=>⟨b,_,_,aI,hh,by rw[show(g4.setR (.loc (o.dst.getD 0) 0) (.box b)).prot=g4.prot from rfl,ep4];exact hnp,hm⟩)
       refine D7 h S6 (by rw[ev];exact .mapr aI) (hFm _ ?_ (fun h' x e'=>?_) fun i=>?_)
       ·exact A6.prot.trans ep4
       ·rcases A6.blk h' x e' with y|y
        ·rcases hb4 h' x y with u|u
         ·exact .inl u
         ·exact .inr (by simp[u])
        ·simp at y;subst y;exact .inr (by simp)
       ·exact(A6.imp i).trans (hi4 i)
  ·obtain⟨ms,b,h,hp,hm⟩:∃ms b,(eG (nmB (o.dst.getD 0)) hs ns 0 {sl:=fr2.sl,ob:=jT hs ns fr2.ob} fun fr=>mH (nmR (o.dst.getD 0)) ms 0 fr fun ms fr=>k (fr.finish o.dst (rV ms b)))=some r/\
    ms.all MV.plV=true/\((b=true/\res.1=.tup ms)\/(b=false/\ms=[res.1])):=by
    split at h
    ·obtain⟨x,hx,h⟩:=aF h;exact⟨[.ownK x],false,h,by simp[MV.plV,MV.pl],.inr ⟨rfl,by rw[KV hx]⟩⟩
    ·exact ZV h
   obtain⟨vs,hvs,hun⟩:=KW hR hm hp;obtain⟨fr4,g4,h,S4,ep4,hb4,hi4⟩:=hback h;obtain⟨ms',fr5,g5,h,S5,A5,hr5⟩:=A0 (nm:=nmR (o.dst.getD 0)) (by simp[nmR]) ms h S4 (hvs.plain hp ep4) hna (fun x hx h' e'=>by
    rcases hb4 h' x e' with y|y
    ·exact hnA x hx h' y
    ·exact hao x hx x (by simp[y]) rfl)
   refine D7 h S5 (hun hr5) (hFm _ (A5.prot.trans ep4) (fun h' x e'=>?_) fun i=>(A5.imp i).trans (hi4 i))
   rcases A5.blk h' x e' with y|y
   ·rcases hb4 h' x y with u|u
    ·exact .inl u
    ·exact .inr (by simp[u])
   ·exact .inr (by simp[y])
theorem akG(hrun:cL E.P run){o:Oper}{Q:Exit->Act->World->Prop}{c:Call}{x:Operand}(ho:o.op=.call c)(hc:c.callee=.value x):Ask E run o Q:=by
 intro R r k fr g a w h S;unfold dM at h;simp only[ho,hc]at h;split at h
 case h_2=>simp at h
 rename_i gf caps ex;have hx:=bF S x;rw[ex]at hx;obtain⟨vs,ev,hl,hr⟩:=af0 hx;have hargs:Rl (RV g (cur fr.ob) w) (c.args.map a.eval++vs).toList (c.args.toList.map (aL fr)++caps):=by
  rw[Array.toList_append,Array.toList_map];refine Rl.append ?_ (n7 _ _ (by simpa using hl) fun j v m h1 h2=>hr j v m (by simpa using h1) h2)
  generalize c.args.toList=l;induction l with
  |nil=>exact .nil
  |cons y l ih=>exact .cons (bF S y) ih
 have hU:=abK hrun h S hargs;have hex:(execOp a.eval o).run E.P w=(callFunc gf (c.args.map a.eval++vs)).run E.P w:=by
  unfold execOp;rw[ho];simp[resolve,hc,ev,Deferred.ofValue,invoke]
 rw[hex];unfold pL at hU;split at hU
 ·rename_i e;rw[e];exact hU.mono fun e w'' ⟨v,he,hg⟩=>by subst he;exact hg
 ·rename_i e;rw[e];exact hU
 ·exact hU.elim
end
end Kw
namespace Kw
open Go
variable [Gl]
section
variable {P:Program} {g:G} {cu:H->Int} {w:World}
def afY(P:Program)(g:G)(cu:H->Int)(w:World)(t:TypeId)(v:Value)(xs:List MV):Prop:=
 (isAgg P t=true->∃vs:Array Value,v=.agg vs/\Rl (RV g cu w) vs.toList xs)/\(isAgg P t=false->∀m,xs=[m]->RV g cu w v m)
theorem Rl.drop{vs:List Value}{ms:List MV}(h:Rl (RV g cu w) vs ms)(n:Nat):Rl (RV g cu w) (vs.drop n) (ms.drop n):=
 n7 _ _ (by simp[h.len]) fun j v m h1 h2=>h.at (n+j) v m (by rw[wy]at h1;exact h1) (by rw[wy]at h2;exact h2)
theorem Rl.take{vs:List Value}{ms:List MV}(h:Rl (RV g cu w) vs ms)(n:Nat):Rl (RV g cu w) (vs.take n) (ms.take n):=
 n7 _ _ (by simp[h.len]) fun j v m h1 h2=>by
  rw[Jq]at h1 h2;split at h1
  ·rename_i hj;rw[je hj]at h2;exact h.at j v m h1 h2
  ·cases h1
theorem ZY{vs:Array Value}{xs:List MV}(hr:Rl (RV g cu w) vs.toList xs){t:TypeId}{d:TypeDesc}(hu:P.underlying t=some d)(off:Nat)(hn:isAgg P t=false->∃m,(xs.drop off).take (tsize P t)=[m]):
 ∃v,(part t vs off).run P w=.ok v w/\afY P g cu w t v ((xs.drop off).take (tsize P t)):=by
 obtain⟨i,hi⟩:=DN hu;unfold part;by_cases ha:isAgg P t=true
 ·refine⟨.agg (vs.extract off (off+tsize P t)),?_,fun _=>⟨_,rfl,?_⟩,fun e=>by rw[ha]at e;cases e⟩
  ·simp[AV hu,ha,n6 hi]
  ·have e:(vs.extract off (off+tsize P t)).toList=(vs.toList.drop off).take (tsize P t):=by
    simp[List.extract_eq_take_drop]
   rw[e];exact(hr.drop off).take _
 ·have ha:isAgg P t=false:=by simpa using ha
  obtain⟨m,hm⟩:=hn ha;have hr2:=(hr.drop off).take (tsize P t);rw[hm]at hr2⊢;cases hd:vs[off]? with
  |none=>
   exfalso;have:vs.toList.drop off=[]:=js (by
    rw[Array.getElem?_eq_none_iff]at hd;simpa using hd)
   rw[this]at hr2;have:=hr2.len;simp at this
  |some v=>
   refine⟨v,by simp[AV hu,ha,hd],fun e=>(by rw[ha]at e;cases e),fun _ m' e=>?_⟩
   cases e;have h0:vs.toList.drop off=v::vs.toList.drop (off+1):=by
    obtain⟨hlt,e⟩:=Je.1 hd;rw[qa (by simpa using hlt)]
    simp[e]
   rw[h0]at hr2;have hl:=hr2.len;cases hs:tsize P t with
   |zero=>rw[hs]at hl;simp at hl
   |succ n=>
    rw[hs,List.take_succ_cons]at hr2;cases hr2 with
    |cons h _=>exact h
theorem WV{rec:TypeId->List MV->List MV->Option Bool}{D:Nat}{vs ws:Array Value}{xs ys:List MV}(hx:Rl (RV g cu w) vs.toList xs)(hy:Rl (RV g cu w) ws.toList ys)
 (hrec:∀t xs ys b,rec t xs ys=some b->(∃d,P.underlying t=some d)/\(isAgg P t=false->(∃m,xs=[m])/\∃m,ys=[m])/\∀v1 v2,afY P g cu w t v1 xs->afY P g cu w t v2 ys->(Op.equalIn D t v1 v2).run P w=.ok b w):
 ∀(fs:List Field) (b:Bool),eqF P rec xs ys fs=some b->(Op.eqFields D vs ws fs).run P w=.ok b w
 |[],b,h=>by simp only[eqF]at h;cases h;simp[Op.eqFields]
 |f::fs,b,h=>by
  unfold eqF at h;unfold Op.eqFields;split at h
  ·rename_i hn;obtain⟨b1,h1,h⟩:=aF h;obtain⟨b2,h2,h⟩:=aF h;cases h;obtain⟨⟨d,hu⟩,hone,heq⟩:=hrec _ _ _ _ h1;obtain⟨v1,p1,r1⟩:=ZY hx hu f.offset fun e=>(hone e).1
   obtain⟨v2,p2,r2⟩:=ZY hy hu f.offset fun e=>(hone e).2
   have:=WV hx hy hrec fs b2 h2;rw[je hn];simp only[Sem.run_bind,p1,p2,Result.andThen_ok,heq v1 v2 r1 r2];cases b1
   ·simp[d5]
   ·simpa [d5]using this
  ·rename_i hn;rw[jc hn];exact WV hx hy hrec fs b h
theorem afZ:∀(d:Nat) (n:Nat) (t:TypeId) (xs ys:List MV) (b:Bool),eqT P d t xs ys=some b->
 (∃d,P.underlying t=some d)/\(isAgg P t=false->(∃m,xs=[m])/\∃m,ys=[m])/\∀v1 v2,afY P g cu w t v1 xs->afY P g cu w t v2 ys->(Op.equalIn (n+d) t v1 v2).run P w=.ok b w
 |0,n,t,xs,ys,b,h=>by simp[eqT]at h
 |d+1,n,t,xs,ys,b,h=>by
  unfold eqT at h;split at h
  ·rename_i hu;have ha:isAgg P t=false:=by unfold isAgg;rw[hu]
   split at h
   ·cases h;refine⟨⟨_,hu⟩,fun _=>⟨⟨_,rfl⟩,⟨_,rfl⟩⟩,fun v1 v2 h1 h2=>?_⟩
    rw[mK (h1.2 ha _ rfl),mK (h2.2 ha _ rfl)];exact run_equalIn_bool w (n+d) t _ _ hu
   ·cases h
  ·rename_i hu;have ha:isAgg P t=false:=by unfold isAgg;rw[hu]
   split at h
   ·split at h
    ·rename_i e;subst e;cases h;refine⟨⟨_,hu⟩,fun _=>⟨⟨_,rfl⟩,⟨_,rfl⟩⟩,fun v1 v2 h1 h2=>?_⟩
     rw[jR (h1.2 ha _ rfl),jR (h2.2 ha _ rfl)];exact run_equalIn_int w (n+d) t _ _ _ _ hu
    ·cases h
   ·cases h
  ·rename_i hu;have ha:isAgg P t=false:=by unfold isAgg;rw[hu]
   split at h
   ·cases h;refine⟨⟨_,hu⟩,fun _=>⟨⟨_,rfl⟩,⟨_,rfl⟩⟩,fun v1 v2 h1 h2=>?_⟩
    rw[oJ (h1.2 ha _ rfl),oJ (h2.2 ha _ rfl)];exact run_equalIn_string w (n+d) t _ _ hu
   ·cases h
  ·rename_i fs hu;have ha:isAgg P t=true:=by unfold isAgg;rw[hu]
   split at h
   ·cases h
   ·rename_i hst;refine⟨⟨_,hu⟩,fun e=>(by rw[ha]at e;cases e),fun v1 v2 h1 h2=>?_⟩
    obtain⟨vs,e1,r1⟩:=h1.1 ha;obtain⟨ws,e2,r2⟩:=h2.1 ha;have hf:P.fieldsOf t=fs:=by unfold Program.fieldsOf;rw[hu]
    rw[e1,e2];have:=run_equalIn_struct w (n+d) t vs ws (by rw[hf];exact hu) (by simpa using hst)
    rw[show n+(d+1)=(n+d)+1 from rfl,this,hf]
    exact WV r1 r2 (fun t xs ys b h=>afZ d n t xs ys b h) fs.toList b h
  ·cases h
theorem aqE{E:Env}{run:Run}{o:Oper}{Q:Exit->Act->World->Prop}{op:BinOp}{t yt:TypeId}{x y:Operand}(ho:o.op=.binOp op t x y yt)(ha:isAgg E.P t=true):Ask E run o Q:=by
 intro R r k fr g a w h S;unfold dM at h;simp only[ho]at h;rw[je ha]at h;split at h
 case h_2=>simp at h
 rename_i xs ys ex ey;split at h
 ·simp at h
 rename_i hg;obtain⟨b,hb,h⟩:=aF h;have hx:=bF S x;have hy:=bF S y;rw[ex]at hx;rw[ey]at hy;obtain⟨vs,e1,l1,r1⟩:=yF hx;obtain⟨ws,e2,l2,r2⟩:=yF hy;have q1:Rl (RV g (cur fr.ob) w) vs.toList xs:=n7 _ _ (by simpa using l1) fun j v m h1 h2=>r1 j v m (by simpa using h1) h2
 have q2:Rl (RV g (cur fr.ob) w) ws.toList ys:=n7 _ _ (by simpa using l2) fun j v m h1 h2=>r2 j v m (by simpa using h1) h2
 obtain⟨_,_,heq⟩:=afZ (g:=g) (cu:=cur fr.ob) (w:=w) 8 9992 t xs ys b hb;have he:=heq (.agg vs) (.agg ws) ⟨fun _=>⟨_,rfl,q1⟩,fun e=>(by rw[ha]at e;cases e)⟩ ⟨fun _=>⟨_,rfl,q2⟩,fun e=>(by rw[ha]at e;cases e)⟩
 have hgd:=run_eqGuard_agg (P:=E.P) w op t x y vs ws (by simpa using hg)
 split at h
 ·refine aS (v:=.bool b) ?_ h S (.sv (.bool _)) (Fm.refl _ _);have:=run_eql_struct (P:=E.P) w t vs ws;rw[he]at this;unfold execOp;rw[ho];generalize a.eval=ρ at*;simp[e1,e2,hgd,this]
 ·refine aS (v:=.bool (!b)) ?_ h S (.sv (.bool _)) (Fm.refl _ _);have:=run_neq_struct (P:=E.P) w t vs ws;rw[he]at this;unfold execOp;rw[ho];generalize a.eval=ρ at*;simp[e1,e2,hgd,this]
 ·simp at h
end
end Kw
namespace Kw
open Go
variable [Gl]
def AgH(fr fr':Fr)(h:H):Prop:=look fr.ob h=look fr'.ob h/\(h∈fr.ob.map (·.1)↔h∈fr'.ob.map (·.1))
theorem AgH.refl(fr:Fr)(h:H):AgH fr fr h:=⟨rfl,Iff.rfl⟩
theorem AgH.symm{fr fr':Fr}{h:H}(a:AgH fr fr' h):AgH fr' fr h:=⟨a.1.symm,a.2.symm⟩
theorem AgH.trans{fr fr' fr'':Fr}{h:H}(a:AgH fr fr' h)(b:AgH fr' fr'' h):AgH fr fr'' h:=⟨a.1.trans b.1,a.2.trans b.2⟩
theorem AgH.obj{fr fr':Fr}{h:H}(a:AgH fr fr' h):fr'.obj h=fr.obj h:=a.1.symm
theorem abL{fr fr':Fr}{h:H}(o:Obj){x:H}(a:x≠h->AgH fr fr' x):AgH (fr.setObj h o) (fr'.setObj h o) x:=by
 unfold Fr.setObj AgH;simp only;by_cases e:x=h
 ·subst e;rw[iW,iW];exact⟨rfl,by rw[kG,kG];simp⟩
 ·rw[jY e,jY e];refine⟨(a e).1,?_⟩;rw[kG,kG];simp only[e,false_or];exact(a e).2
theorem aqF{fr:Fr}{h:H}(o:Obj){x:H}(e:x≠h):AgH fr (fr.setObj h o) x:=by
 unfold Fr.setObj AgH;simp only;rw[jY e,kG];exact⟨rfl,by simp[e]⟩
def cV{A:Type}(F W:H->Prop)(c:(R:Type)->Fr->(A->Fr->Option R)->Option R)(fr:Fr)(x:A)(fr1:Fr):Prop:=
 (∀(R:Type) k,c R fr k=k x fr1)/\fr1.sl=fr.sl/\∀fr',(∀h,F h->AgH fr fr' h)->∃fr1',(∀(R:Type) k,c R fr' k=k x fr1')/\fr1'.sl=fr'.sl/\(∀h,F h->AgH fr1 fr1' h)/\∀h,¬W h->AgH fr' fr1' h
section
variable {A B:Type} {F W:H->Prop} {fr fr1 fr2:Fr}
theorem cV.pure(x:A):cV F W (fun R fr k=>k x fr) fr x fr:=⟨fun _ _=>rfl,rfl,fun fr' h=>⟨fr',fun _ _=>rfl,rfl,h,fun h _=>AgH.refl _ _⟩⟩
theorem cV.same{c:(R:Type)->Fr->(A->Fr->Option R)->Option R}{x:A}(h:cV F W c fr x fr1):∀h,¬W h->AgH fr fr1 h:=by
 obtain⟨fr1',h1,_,_,h3⟩:=h.2.2 fr fun h _=>AgH.refl _ _
 have e:=h1 Fr fun _ fr=>some fr
 rw[h.1]at e;cases e;exact h3
theorem cV.bind{c:(R:Type)->Fr->(A->Fr->Option R)->Option R}{c2:A->(R:Type)->Fr->(B->Fr->Option R)->Option R}{x:A}{y:B}(h1:cV F W c fr x fr1)(h2:cV F W (c2 x) fr1 y fr2):
 cV F W (fun R fr k=>c R fr fun x fr=>c2 x R fr k) fr y fr2:=by
 refine⟨fun R k=>(by show c R fr (fun x fr=>c2 x R fr k)=_;rw[h1.1,h2.1]),h2.2.1.trans h1.2.1,fun fr' ha=>?_⟩
 obtain⟨fr1',e1,s1,a1,w1⟩:=h1.2.2 fr' ha;obtain⟨fr2',e2,s2,a2,w2⟩:=h2.2.2 fr1' a1;exact⟨fr2',fun R k=>(by show c R fr' (fun x fr=>c2 x R fr k)=_;rw[e1,e2]),s2.trans s1,a2,fun h hw=>(w1 h hw).trans (w2 h hw)⟩
theorem cV.map{c:(R:Type)->Fr->(A->Fr->Option R)->Option R}{x:A}(q:A->B)(h1:cV F W c fr x fr1):cV F W (fun R fr k=>c R fr fun x fr=>k (q x) fr) fr (q x) fr1:=
 h1.bind (c2:=fun x R fr k=>k (q x) fr) (cV.pure (q x))
theorem cV.setObj{c:(R:Type)->Fr->(A->Fr->Option R)->Option R}{h:H}{o:Obj}{x:A}(hF:F h)(hW:W h)(hc:∀(R:Type) fr' k,(fr'.obj h=fr.obj h/\(h∈fr.ob.map (·.1)↔h∈fr'.ob.map (·.1)))->c R fr' k=k x (fr'.setObj h o)):cV F W c fr x (fr.setObj h o):=by
 refine⟨fun R k=>hc R fr k ⟨rfl,Iff.rfl⟩,rfl,fun fr' ha=>⟨fr'.setObj h o,fun R k=>hc R fr' k ⟨(ha h hF).obj,(ha h hF).2⟩,rfl,fun x hx=>abL o fun _=>ha x hx,fun x hx=>aqF o fun e=>hx (e▸hW)⟩⟩
theorem cV.keep{c:(R:Type)->Fr->(A->Fr->Option R)->Option R}{x:A}(hc:∀(R:Type) fr' k,(∀h,F h->AgH fr fr' h)->c R fr' k=k x fr'):cV F W c fr x fr:=
 ⟨fun R k=>hc R fr k fun _ _=>AgH.refl _ _,rfl,fun fr' ha=>⟨fr',fun R k=>hc R fr' k ha,rfl,ha,fun _ _=>AgH.refl _ _⟩⟩
variable {R:Type} {r:R}
theorem lI{h:H}{o:Obj}{k:Fr->Option R}(hF:F h)(hW:W h)(e:fr.lay h o k=some r):k (fr.setObj h o)=some r/\cV F W (fun R fr k=>fr.lay h o fun fr=>k () fr) fr () (fr.setObj h o):=by
 obtain⟨hf,hk⟩:=iE e;refine⟨hk,cV.setObj hF hW fun R fr' k ⟨_,h2⟩=>?_⟩
 have hf':h∉fr'.ob.map (·.1):=fun hm=>hf (h2.2 hm)
 unfold Fr.lay;have:fr'.ob.any (fun p=>p.1==h)=false:=by
  rw[yc];intro ha;obtain⟨p,hp,he⟩:=List.any_eq_true.1 ha;exact hf' (qf.2 ⟨p,hp,by simpa using he⟩)
 rw[this];rfl
theorem TT{m:MV}{k:MV->Fr->Option R}(hF:∀h∈lQ m,F h/\W h)(h:oT fr m k=some r):∃x fr1,k x fr1=some r/\cV F W (fun R fr k=>oT fr m k) fr x fr1:=by
 cases m with
 |ref hd n=>
  obtain⟨f1,f2⟩:=hF hd (by simp[lQ])
  simp only[oT]at h;split at h
  ·rename_i x e;rcases br_some h with⟨en,h⟩|⟨_,h⟩
   ·exact⟨_,_,h,cV.setObj f1 f2 fun R fr' k ⟨e',_⟩=>by simp only[oT,e',e,en,br];rfl⟩
   ·simp at h
  ·rename_i x e;rcases br_some h with⟨en,h⟩|⟨_,h⟩
   ·exact⟨_,_,h,cV.keep fun R fr' k ha=>by simp only[oT,(ha hd f1).obj,e,en,br];rfl⟩
   ·simp at h
  ·simp at h
 |nils=>exact⟨_,_,h,cV.pure _⟩
 |bool b=>exact⟨_,_,h,cV.pure _⟩
 |int kd n=>exact⟨_,_,h,cV.pure _⟩
 |str s=>exact⟨_,_,h,cV.pure _⟩
 |sl s=>exact⟨_,_,h,cV.pure _⟩
 |_=>simp[oT]at h
theorem yR:∀(ms:List MV) {fr:Fr} {k:List MV->Fr->Option R},(∀h∈ms.flatMap lQ,F h/\W h)->nQ ms fr k=some r->∃x fr1,k x fr1=some r/\cV F W (fun R fr k=>nQ ms fr k) fr x fr1
 |[],fr,k,_,h=>⟨_,_,h,cV.pure _⟩
 |m::ms,fr,k,hF,h=>by
  simp only[nQ]at h;obtain⟨x,fr1,h,l1⟩:=TT (fun h hm=>hF h (by simp[hm])) h
  obtain⟨xs,fr2,h,l2⟩:=yR ms (fun h hm=>hF h (by simp only[kx,jv];exact .inr hm)) h
  exact⟨_,_,h,l1.bind (c2:=fun x R fr k=>nQ ms fr fun ms fr=>k (x::ms) fr) (l2.map (fun ms=>x::ms))⟩
theorem O7{mv:Bool}{m:MV}{k:MV->Fr->Option R}(hF:∀h∈lQ m,F h/\W h)(h:oO mv fr m k=some r):∃x fr1,k x fr1=some r/\cV F W (fun R fr k=>oO mv fr m k) fr x fr1/\(∀h,(∀y,fr.obj h≠ .rows y)->fr1.obj h=fr.obj h)/\(∀h,dL (fr1.obj h)=dL (fr.obj h)/\oP (fr1.obj h)=oP (fr.obj h))/\cI x=cI m/\rQ x=rQ m:=by
 cases m with
 |ref hd n=>
  obtain⟨f1,f2⟩:=hF hd (by simp[lQ])
  simp only[oO]at h;split at h
  ·rename_i x e;have hkeep:∀o h,(∀y,fr.obj h≠ .rows y)->(fr.setObj hd o).obj h=fr.obj h:=fun o h hn=>by
    by_cases eh:h=hd
    ·subst eh;exact absurd e (hn x)
    ·exact jY eh
   have hkeep2:∀o,dL o=[]->oP o=[]->∀h,dL ((fr.setObj hd o).obj h)=dL (fr.obj h)/\oP ((fr.setObj hd o).obj h)=oP (fr.obj h):=fun o ho ho' h=>by
    by_cases eh:h=hd
    ·rw[eh,show(fr.setObj hd o).obj hd=o from iW,ho,ho',e];exact⟨rfl,rfl⟩
    ·rw[show(fr.setObj hd o).obj h=fr.obj h from jY eh];exact⟨rfl,rfl⟩
   rcases br_some h with⟨en,h⟩|⟨_,h⟩
   ·split at h
    ·rename_i hm;split at h
     ·rename_i hkk;exact⟨_,_,h,cV.setObj f1 f2 fun R fr' k ⟨e',_⟩=>by simp only[oO,e',e,en,hm,hkk,br];rfl,hkeep _,hkeep2 _ rfl rfl,rfl,rfl⟩
     ·rename_i hkk;rw[Jt]at hkk;exact⟨_,_,h,cV.setObj f1 f2 fun R fr' k ⟨e',_⟩=>by simp only[oO,e',e,en,hm,hkk,br];rfl,hkeep _,hkeep2 _ rfl rfl,rfl,rfl⟩
    ·rename_i hm;exact⟨_,_,h,cV.setObj f1 f2 fun R fr' k ⟨e',_⟩=>by simp only[oO,e',e,en,hm,br];rfl,hkeep _,hkeep2 _ rfl rfl,rfl,rfl⟩
   ·simp at h
  ·rename_i x e;rcases br_some h with⟨en,h⟩|⟨_,h⟩
   ·exact⟨_,_,h,cV.keep fun R fr' k ha=>by simp only[oO,(ha hd f1).obj,e,en,br];rfl,fun _ _=>rfl,fun _=>⟨rfl,rfl⟩,rfl,rfl⟩
   ·simp at h
  ·simp at h
 |nils=>
  simp only[oO]at h;split at h
  ·rename_i hm;exact⟨_,_,h,cV.keep fun R fr' k ha=>by simp only[oO,hm];rfl,fun _ _=>rfl,fun _=>⟨rfl,rfl⟩,rfl,rfl⟩
  ·rename_i hm;exact⟨_,_,h,cV.keep fun R fr' k ha=>by simp only[oO,hm];rfl,fun _ _=>rfl,fun _=>⟨rfl,rfl⟩,rfl,rfl⟩
 |_=>exact⟨_,_,h,cV.pure _,fun _ _=>rfl,fun _=>⟨rfl,rfl⟩,rfl,rfl⟩
theorem GF{mv:Bool}:∀(ms:List MV) {fr:Fr} {k:List MV->Fr->Option R},(∀h∈ms.flatMap lQ,F h/\W h)->DK mv ms fr k=some r->∃x fr1,k x fr1=some r/\cV F W (fun R fr k=>DK mv ms fr k) fr x fr1/\(∀h,(∀y,fr.obj h≠ .rows y)->fr1.obj h=fr.obj h)/\(∀h,dL (fr1.obj h)=dL (fr.obj h)/\oP (fr1.obj h)=oP (fr.obj h))/\x.flatMap rQ=ms.flatMap rQ
 |[],fr,k,_,h=>⟨_,_,h,cV.pure _,fun _ _=>rfl,fun _=>⟨rfl,rfl⟩,rfl⟩
 |m::ms,fr,k,hF,h=>by
  simp only[DK]at h;obtain⟨x,fr1,h,l1,o1,p1,_,q1⟩:=O7 (fun h hm=>hF h (by simp[hm])) h
  obtain⟨xs,fr2,h,l2,o2,p2,q2⟩:=GF ms (fun h hm=>hF h (by simp only[kx,jv];exact .inr hm)) h
  exact⟨_,_,h,l1.bind (c2:=fun x R fr k=>DK mv ms fr fun ms fr=>k (x::ms) fr) (l2.map (fun ms=>x::ms)),fun h hn=>(o2 h (by rw[o1 h hn];exact hn)).trans (o1 h hn),fun h=>⟨(p2 h).1.trans (p1 h).1,(p2 h).2.trans (p1 h).2⟩,by rw[kx,kx,q1,q2]⟩
theorem GG{mv:Bool}:∀(ms:List MV) {fr:Fr} {k:List MV->Fr->Option R},(∀h∈ms.flatMap kW,F h/\W h)->nZ mv ms fr k=some r->∃x fr1,k x fr1=some r/\cV F W (fun R fr k=>nZ mv ms fr k) fr x fr1/\(∀h,(∀y,fr.obj h≠ .rows y)->fr1.obj h=fr.obj h)/\(∀h,dL (fr1.obj h)=dL (fr.obj h)/\oP (fr1.obj h)=oP (fr.obj h))/\x.flatMap cI=ms.flatMap cI
 |[],fr,k,_,h=>⟨_,_,h,cV.pure _,fun _ _=>rfl,fun _=>⟨rfl,rfl⟩,rfl⟩
 |m::ms,fr,k,hF,h=>by
  have hF2:∀h∈ms.flatMap kW,F h/\W h:=fun h hm=>hF h (by simp only[kx,jv];exact .inr hm)
  by_cases ha:m.isAg=true
  ·obtain⟨cs,e⟩:=HK ha;subst e;simp only[nZ]at h;obtain⟨x,fr1,h,l1,o1,p1,q1⟩:=GF cs (fun h hm=>hF h (by simp only[kx,jv,kW];exact .inl hm)) h
   obtain⟨xs,fr2,h,l2,o2,p2,q2⟩:=GG ms hF2 h;exact⟨_,_,h,l1.bind (c2:=fun x R fr k=>nZ mv ms fr fun ms fr=>k (MV.agg x::ms) fr) (l2.map (fun ms=>MV.agg x::ms)),fun h hn=>(o2 h (by rw[o1 h hn];exact hn)).trans (o1 h hn),fun h=>⟨(p2 h).1.trans (p1 h).1,(p2 h).2.trans (p1 h).2⟩,by rw[kx,kx,q2];simp only[cI,q1]⟩
  ·have ha:m.isAg=false:=by simpa using ha
   rw[KS ha]at h;have hr:kW m=lQ m:=by cases m<;>first|rfl|(cases ha;done)
   obtain⟨x,fr1,h,l1,o1,p1,q1,_⟩:=O7 (fun h hm=>hF h (by simp only[kx,jv,hr];exact .inl hm)) h
   obtain⟨xs,fr2,h,l2,o2,p2,q2⟩:=GG ms hF2 h;refine⟨_,_,h,?_,fun h hn=>(o2 h (by rw[o1 h hn];exact hn)).trans (o1 h hn),fun h=>⟨(p2 h).1.trans (p1 h).1,(p2 h).2.trans (p1 h).2⟩,by rw[kx,kx,q2,q1]⟩
   have e:(fun(R:Type) (fr:Fr) (k:List MV->Fr->Option R)=>nZ mv (m::ms) fr k)=fun R fr k=>oO mv fr m fun m fr=>nZ mv ms fr fun ms fr=>k (m::ms) fr:=by
    funext R fr k;exact KS ha _ _ _
   rw[e];exact l1.bind (c2:=fun x R fr k=>nZ mv ms fr fun ms fr=>k (x::ms) fr) (l2.map (fun ms=>x::ms))
theorem A7:∀(hs:List H) {fr:Fr} {k:List Obj->Fr->Option R},(∀h∈hs,F h)->(∀h∈hs.flatMap (fun h=>oP (fr.obj h)),F h/\W h)->jD hs fr k=some r->∃x fr1,k x fr1=some r/\cV F W (fun R fr k=>jD hs fr k) fr x fr1
 |[],fr,k,_,_,h=>⟨_,_,h,cV.pure _⟩
 |h0::hs,fr,k,hH,hF,h=>by
  simp only[jD]at h;have f0:=hH h0 (by simp)
  split at h
  ·rename_i cs ec;obtain⟨x,fr1,h,l1,o1,p1,_⟩:=GF cs (fun h hm=>hF h (by rw[kx,ec];exact jw _ hm)) h
   obtain⟨xs,fr2,h,l2⟩:=A7 hs (fun h hm=>hH h (kz _ hm)) (fun h hm=>hF h (by
    rw[kx];refine jn _ ?_;obtain⟨a,ha,hm⟩:=List.mem_flatMap.1 hm;exact List.mem_flatMap.2 ⟨a,ha,by rw[<-(p1 a).2];exact hm⟩)) h
   refine⟨_,_,h,?_⟩;have:=l1.bind (c2:=fun x R fr k=>jD hs fr fun os fr=>k (Obj.cells x::os) fr) (l2.map (fun os=>Obj.cells x::os))
   refine⟨fun R k=>?_,this.2.1,fun fr' ha=>?_⟩
   ·show jD (h0::hs) fr k=_;simp only[jD,ec];exact this.1 R k
   ·obtain⟨fr1',e1,h1⟩:=this.2.2 fr' ha;refine⟨fr1',fun R k=>?_,h1⟩
    show jD (h0::hs) fr' k=_;simp only[jD,(ha h0 f0).obj,ec];exact e1 R k
  ·rename_i es ec;obtain⟨xs,fr2,h,l2⟩:=A7 hs (fun h hm=>hH h (kz _ hm)) (fun h hm=>hF h (by
    rw[kx];exact jn _ hm)) h
   refine⟨_,_,h,?_⟩;have:=l2.map (fun os=>Obj.map es::os)
   refine⟨fun R k=>?_,this.2.1,fun fr' ha=>?_⟩
   ·show jD (h0::hs) fr k=_;simp only[jD,ec];exact this.1 R k
   ·obtain⟨fr1',e1,h1⟩:=this.2.2 fr' ha;refine⟨fr1',fun R k=>?_,h1⟩
    show jD (h0::hs) fr' k=_;simp only[jD,(ha h0 f0).obj,ec];exact e1 R k
  ·rename_i y ec;split at h
   ·simp at h
   rename_i hnk;rw[Jt]at hnk;obtain⟨xs,fr2,h,l2⟩:=A7 hs (fun h hm=>hH h (kz _ hm)) (fun h hm=>hF h (by
    rw[kx];exact jn _ hm)) h
   split at h
   ·rename_i x ex;refine⟨_,_,h,fun R k=>?_,l2.2.1,fun fr' ha=>?_⟩
    ·show jD (h0::hs) fr k=_;simp only[jD,ec,hnk,qd,qr];refine(l2.1 R _).trans ?_;simp only[ex]
    ·obtain⟨fr2',e2,s2,a2,w2⟩:=l2.2.2 fr' ha;refine⟨fr2',fun R k=>?_,s2,a2,w2⟩
     show jD (h0::hs) fr' k=_;simp only[jD,(ha h0 f0).obj,ec,hnk,qd,qr];refine(e2 R _).trans ?_;simp only[(a2 h0 f0).obj,ex]
   ·simp at h
  ·simp at h
theorem sD{nm:Nat->H}(hn:∀j,(F (nm j)/\W (nm j))/\F (kn (nm j))/\W (kn (nm j))):∀(ms:List MV) {j:Nat} {fr:Fr} {k:List MV->Fr->Option R},qE nm ms j fr k=some r->∃x fr1,k x fr1=some r/\cV F W (fun R fr k=>qE nm ms j fr k) fr x fr1
 |[],j,fr,k,h=>⟨_,_,h,cV.pure _⟩
 |m::ms,j,fr,k,h=>by
  by_cases hm:m.isOwn=true
  ·rcases own_of hm with⟨rs,e|e⟩
   ·subst e;simp only[qE]at h;obtain⟨h,l1⟩:=lI (hn j).1.1 (hn j).1.2 h;obtain⟨x,fr2,h,l2⟩:=sD hn ms h;exact⟨_,_,h,l1.bind (c2:=fun _ R fr k=>qE nm ms (j+1) fr fun ms fr=>k (MV.ref (nm j) (nrows rs)::ms) fr) (l2.map (fun ms=>MV.ref (nm j) (nrows rs)::ms))⟩
   ·subst e;simp only[qE]at h;obtain⟨h,l1⟩:=lI (hn j).2.1 (hn j).2.2 h;obtain⟨x,fr2,h,l2⟩:=sD hn ms h;exact⟨_,_,h,l1.bind (c2:=fun _ R fr k=>qE nm ms (j+1) fr fun ms fr=>k (MV.ref (kn (nm j)) (nrows rs)::ms) fr) (l2.map (fun ms=>MV.ref (kn (nm j)) (nrows rs)::ms))⟩
  ·have hm:m.isOwn=false:=by simpa using hm
   rw[Q0 hm]at h;obtain⟨x,fr2,h,l2⟩:=sD hn ms h;have e:(fun(R:Type) (fr:Fr) (k:List MV->Fr->Option R)=>qE nm (m::ms) j fr k)=fun R fr k=>qE nm ms (j+1) fr fun ms fr=>k (m::ms) fr:=by
    funext R fr k;exact Q0 hm _ _ _ _
   rw[e];exact⟨_,_,h,l2.map (fun ms=>m::ms)⟩
theorem sE{nm:Nat->Nat->H}(hn:∀t j,(F (nm t j)/\W (nm t j))/\F (kn (nm t j))/\W (kn (nm t j))):∀(ms:List MV) {j:Nat} {fr:Fr} {k:List MV->Fr->Option R},mH nm ms j fr k=some r->∃x fr1,k x fr1=some r/\cV F W (fun R fr k=>mH nm ms j fr k) fr x fr1
 |[],j,fr,k,h=>⟨_,_,h,cV.pure _⟩
 |m::ms,j,fr,k,h=>by
  by_cases hm:m.isOwn=true
  ·rcases own_of hm with⟨rs,e|e⟩
   ·subst e;simp only[mH]at h;obtain⟨h,l1⟩:=lI (hn j 0).1.1 (hn j 0).1.2 h;obtain⟨x,fr2,h,l2⟩:=sE hn ms h;exact⟨_,_,h,l1.bind (c2:=fun _ R fr k=>mH nm ms (j+1) fr fun ms fr=>k (MV.ref (nm j 0) (nrows rs)::ms) fr) (l2.map (fun ms=>MV.ref (nm j 0) (nrows rs)::ms))⟩
   ·subst e;simp only[mH]at h;obtain⟨h,l1⟩:=lI (hn j 0).2.1 (hn j 0).2.2 h;obtain⟨x,fr2,h,l2⟩:=sE hn ms h;exact⟨_,_,h,l1.bind (c2:=fun _ R fr k=>mH nm ms (j+1) fr fun ms fr=>k (MV.ref (kn (nm j 0)) (nrows rs)::ms) fr) (l2.map (fun ms=>MV.ref (kn (nm j 0)) (nrows rs)::ms))⟩
  ·have hm:m.isOwn=false:=by simpa using hm
   by_cases ha:m.isAg=true
   ·obtain⟨cs,e⟩:=HK ha;subst e;simp only[mH]at h;obtain⟨x,fr1,h,l1⟩:=sD (hn j) cs h;obtain⟨xs,fr2,h,l2⟩:=sE hn ms h;exact⟨_,_,h,l1.bind (c2:=fun x R fr k=>mH nm ms (j+1) fr fun ms fr=>k (MV.agg x::ms) fr) (l2.map (fun ms=>MV.agg x::ms))⟩
   ·have ha:m.isAg=false:=by simpa using ha
    rw[Q1 hm ha]at h;obtain⟨x,fr2,h,l2⟩:=sE hn ms h;have e:(fun(R:Type) (fr:Fr) (k:List MV->Fr->Option R)=>mH nm (m::ms) j fr k)=fun R fr k=>mH nm ms (j+1) fr fun ms fr=>k (m::ms) fr:=by
     funext R fr k;exact Q1 hm ha _ _ _ _
    rw[e];exact⟨_,_,h,l2.map (fun ms=>m::ms)⟩
theorem pC{nm:Nat->Nat->H}(hn:∀t j,(F (nm t j)/\W (nm t j))/\F (kn (nm t j))/\W (kn (nm t j))):∀(hs:List H) (os:List Obj) {i:Nat} {fr:Fr} {k:Fr->Option R},(∀h∈hs,F h/\W h)->eG nm hs os i fr k=some r->∃fr1,k fr1=some r/\cV F W (fun R fr k=>eG nm hs os i fr fun fr=>k () fr) fr () fr1
 |[],os,i,fr,k,_,h=>⟨fr,by unfold eG at h;exact h,cV.keep fun R fr' k _=>by unfold eG;rfl⟩
 |h0::hs,[],i,fr,k,_,h=>⟨fr,by unfold eG at h;exact h,cV.keep fun R fr' k _=>by unfold eG;rfl⟩
 |h0::hs,o::os,i,fr,k,hH,h=>by
  have f0:=hH h0 (by simp)
  have hH2:∀h∈hs,F h/\W h:=fun h hm=>hH h (kz _ hm)
  cases o with
  |cells cs=>
   simp only[eG]at h;obtain⟨x,fr1,h,l1⟩:=sD (hn i) cs h;obtain⟨fr2,h,l2⟩:=pC hn hs os hH2 h;have l3:cV F W (fun R fr k=>k () (fr.setObj h0 (.cells x))) fr1 () (fr1.setObj h0 (.cells x)):=cV.setObj f0.1 f0.2 fun R fr' k _=>rfl
   exact⟨_,h,l1.bind (c2:=fun x R fr k=>eG nm hs os (i+1) (fr.setObj h0 (.cells x)) fun fr=>k () fr) (l3.bind (c2:=fun _ R fr k=>eG nm hs os (i+1) fr fun fr=>k () fr) l2)⟩
  |_=>
   simp only[eG]at h;obtain⟨fr2,h,l2⟩:=pC hn hs os hH2 h;exact⟨_,h,l2⟩
theorem akH{hs:List H}{ns:List Obj}(hH:∀h∈hs,F h/\W h)(fr:Fr):cV F W (fun R fr k=>k () {fr with ob:=jT hs ns fr.ob}) fr () {fr with ob:=jT hs ns fr.ob}:=by
 refine⟨fun _ _=>rfl,rfl,fun fr' ha=>⟨{fr' with ob:=jT hs ns fr'.ob},fun _ _=>rfl,rfl,fun h hF=>?_,fun h hW=>?_⟩⟩
 ·unfold AgH;simp only;rw[yP,yP];refine⟨?_,(ha h hF).2⟩;cases e:idx hs h 0 with
  |none=>rw[yQ e,yQ e];exact(ha h hF).1
  |some i=>rw[qK e,qK e];exact afW (ha h hF).2 _ _
 ·unfold AgH;simp only;rw[yP];refine⟨?_,Iff.rfl⟩;cases e:idx hs h 0 with
  |none=>rw[yQ e]
  |some i=>exact absurd (hH h (ZX _ _ _ _ e)).2 hW
end
end Kw
namespace Kw
open Go
variable [Gl]
def Fp.tch(p:Fp)(h:H):Prop:=h∈p.rd\/h∈p.wr\/∃d j,p.fam=some d/\h=.loc d j
def Fp.wrt(p:Fp)(h:H):Prop:=h∈p.wr\/∃d j,p.fam=some d/\h=.loc d j
def TU(sl:List MV)(d:Option Tmp)(m:MV):List MV:=match d with|some d=>sl.set d m|none=>sl
theorem A8(fr:Fr)(d:Option Tmp)(m:MV):(fr.finish d m).sl=TU fr.sl d m:=by cases d<;>rfl
theorem GI(fr:Fr)(d:Option Tmp)(m:MV):(fr.finish d m).ob=fr.ob:=by cases d<;>rfl
theorem abM{fr fr':Fr}{h:H}(a:AgH fr fr' h)(d:Option Tmp)(m m':MV):AgH (fr.finish d m) (fr'.finish d m') h:=by
 unfold AgH;rw[GI,GI];exact a
theorem tR{fr fr':Fr}{h:H}(a:AgH fr fr' h)(d:Option Tmp)(m:MV):AgH fr (fr'.finish d m) h:=by
 unfold AgH;rw[GI];exact a
section
variable {E:Env} {run:Run} {o:Oper} {fr fr1:Fr}
structure Cond(E:Env)(o:Oper)(fr fr':Fr):Prop where
 op:∀x∈o.op.operands.toList,aL fr' x=aL fr x
 ag:∀h,(fp E o fr).tch h->AgH fr fr' h
def HM(E:Env)(run:Run)(o:Oper)(fr fr1:Fr):Prop:=
 ∃m,fr1.sl=TU fr.sl o.dst m/\(∀h,¬(fp E o fr).wrt h->AgH fr fr1 h)/\(∀(R:Type) (k':Fr->Option R),dM E run o fr k'=k' fr1)/\
 ∀fr',Cond E o fr fr'->∃fr1',(∀(R:Type) (k':Fr->Option R),dM E run o fr' k'=k' fr1')/\fp E o fr'=fp E o fr/\(∀h,(fp E o fr).tch h->AgH fr1 fr1' h)/\(∀h,¬(fp E o fr).wrt h->AgH fr' fr1' h)/\
  fr1'.sl=TU fr'.sl o.dst m
theorem Cond.refl(fr:Fr):Cond E o fr fr:=⟨fun _ _=>rfl,fun _ _=>AgH.refl _ _⟩
theorem lB{c:(R:Type)->Fr->(MV->Fr->Option R)->Option R}{m:MV}{fr0:Fr}(hc:cV (fp E o fr).tch (fp E o fr).wrt c fr m fr0)
 (he:∀fr',Cond E o fr fr'->∀(R:Type) (k':Fr->Option R),dM E run o fr' k'=c R fr' fun m fr=>k' (fr.finish o.dst m)) (hf:∀fr',Cond E o fr fr'->fp E o fr'=fp E o fr):HM E run o fr (fr0.finish o.dst m):=by
 refine⟨m,by rw[A8,hc.2.1],fun h hh=>tR (hc.same h hh) _ _,fun R k'=>by rw[he fr (Cond.refl fr),hc.1],fun fr' C=>?_⟩
 obtain⟨fr1',e1,s1,a1,w1⟩:=hc.2.2 fr' C.ag;exact⟨fr1'.finish o.dst m,fun R k'=>by rw[he fr' C,e1],hf fr' C,fun h hh=>abM (a1 h hh) _ _ _,fun h hh=>tR (w1 h hh) _ _,by rw[A8,s1]⟩
theorem aX{m:MV}(he:∀fr',Cond E o fr fr'->∀(R:Type) (k':Fr->Option R),dM E run o fr' k'=k' (fr'.finish o.dst m))(hf:∀fr',Cond E o fr fr'->fp E o fr'=fp E o fr):HM E run o fr (fr.finish o.dst m):=
 lB (cV.pure m) he hf
variable {R:Type} {r:R} {k:Fr->Option R}
theorem yS{m:MV}{q:List Row->Option R}(h:fr.rows m q=some r):∃rs,q rs=some r/\∀fr',(∀h∈hOf m,AgH fr fr' h)->∀(R:Type) (k':List Row->Option R),fr'.rows m k'=k' rs:=by
 cases m with
 |sl rs=>exact⟨rs,h,fun _ _ _ _=>rfl⟩
 |nils=>exact⟨[],h,fun _ _ _ _=>rfl⟩
 |ref hd n=>
  simp only[Fr.rows]at h;split at h
  ·rename_i x e;rcases br_some h with⟨en,h⟩|⟨_,h⟩
   ·exact⟨x,h,fun fr' ha R k'=>by simp only[Fr.rows,(ha hd (by simp[hOf])).obj,e,en,br];rfl⟩
   ·simp at h
  ·rename_i x e;rcases br_some h with⟨en,h⟩|⟨_,h⟩
   ·exact⟨x,h,fun fr' ha R k'=>by simp only[Fr.rows,(ha hd (by simp[hOf])).obj,e,en,br];rfl⟩
   ·simp at h
  ·simp at h
 |_=>simp[Fr.rows]at h
theorem TV{m:MV}{q:Option R}(h:fr.live m q=some r):q=some r/\∀fr',(∀h∈hOf m,AgH fr fr' h)->∀(R:Type) (k':Option R),fr'.live m k'=k':=by
 cases m with
 |ptr hd o=>
  simp only[Fr.live]at h;split at h
  ·rename_i cs e;exact⟨h,fun fr' ha R k'=>by simp only[Fr.live,(ha hd (by simp[hOf])).obj,e]⟩
  ·simp at h
 |ptrE hd n i c=>
  simp only[Fr.live]at h;split at h
  ·rename_i x e;rcases br_some h with⟨en,h⟩|⟨_,h⟩
   ·exact⟨h,fun fr' ha R k'=>by simp only[Fr.live,(ha hd (by simp[hOf])).obj,e,en,br];rfl⟩
   ·simp at h
  ·rename_i x e;rcases br_some h with⟨en,h⟩|⟨_,h⟩
   ·exact⟨h,fun fr' ha R k'=>by simp only[Fr.live,(ha hd (by simp[hOf])).obj,e,en,br];rfl⟩
   ·simp at h
  ·simp at h
 |_=>exact⟨h,fun _ _ _ _=>rfl⟩
theorem TW{own:Bool}{sh:Sh}{m:MV}{q:MV->Option R}(h:SS own sh m q=some r):q m=some r/\∀(R:Type) (k':MV->Option R),SS own sh m k'=k' m:=by
 unfold SS at h⊢;split at h
 ·obtain⟨b,hb,hk⟩:=aF h;have:=jE hb;subst this;exact⟨hk,fun _ _=>rfl⟩
 ·obtain⟨b,hb,hk⟩:=aF h;have:=o9 hb;subst this;exact⟨hk,fun _ _=>by simp only[hb,bnd];rfl⟩
 ·obtain⟨b,hb,hk⟩:=aF h;have:=AW hb;subst this;exact⟨hk,fun _ _=>rfl⟩
 ·split at h
  ·rename_i ho;obtain⟨b,hb,hk⟩:=aF h;have:=GB hb;subst this;exact⟨hk,fun _ _=>by simp only[ho,ju];rfl⟩
  ·rename_i ho;obtain⟨b,hb,hk⟩:=aF h;have:=DP hb;subst this;exact⟨hk,fun _ _=>by simp only[ho];rfl⟩
 ·obtain⟨b,hb,hk⟩:=aF h;have:=J1 hb;subst this;exact⟨hk,fun _ _=>rfl⟩
 ·simp at h
theorem A9{own:Bool}:∀(shs:List Sh) (row:Row) (c:Nat) (q:List MV->Option R),opn own shs row c q=some r->∃ms,q ms=some r/\∀(R:Type) (k':List MV->Option R),opn own shs row c k'=k' ms
 |[],row,c,q,h=>⟨[],h,fun _ _=>rfl⟩
 |sh::shs,row,c,q,h=>by
  unfold opn at h;obtain⟨h,h1⟩:=TW h;obtain⟨ms,h,h2⟩:=A9 shs row (c+1) _ h;exact⟨_,h,fun R k'=>by unfold opn;rw[h1,h2]⟩
theorem WW{t:TypeId}{a:MV}{q:MV->Option R}(h:F9 E t a fr q=some r):∃m,q m=some r/\∀fr',(∀h∈hOf a,AgH fr fr' h)->∀(R:Type) (k':MV->Option R),F9 E t a fr' k'=k' m:=by
 unfold F9 at h⊢;split at h
 case isFalse=>simp at h
 rename_i hk;simp only[hk,ju];split at h
 ·rename_i hd off;split at h
  ·rename_i cs ec;split at h
   ·rename_i hle;exact⟨_,h,fun fr' ha R k'=>by simp only[(ha hd (by simp[hOf])).obj,ec,hle,ju]⟩
   ·simp at h
  ·simp at h
 ·rename_i row c;obtain⟨ms,h,h1⟩:=A9 _ _ _ _ h;exact⟨_,h,fun fr' ha R k'=>by simp only[h1]⟩
 ·rename_i hd n i c;split at h
  ·rename_i rows e;rcases br_some h with⟨en,h⟩|⟨_,h⟩
   ·obtain⟨row,hr,h⟩:=aF h;obtain⟨ms,h,h1⟩:=A9 _ _ _ _ h;exact⟨_,h,fun fr' ha R k'=>by simp only[(ha hd (by simp[hOf])).obj,e,en,br,hr,bnd,kh,h1];rfl⟩
   ·simp at h
  ·rename_i rows e;rcases br_some h with⟨en,h⟩|⟨_,h⟩
   ·obtain⟨row,hr,h⟩:=aF h;obtain⟨ms,h,h1⟩:=A9 _ _ _ _ h;exact⟨_,h,fun fr' ha R k'=>by simp only[(ha hd (by simp[hOf])).obj,e,en,br,hr,bnd,kh,h1];rfl⟩
   ·simp at h
  ·simp at h
 ·simp at h
theorem abN{ub:Bool}{op:BinOp}{x y:MV}{q:MV->Option R}(h:wZ ub op x y q=some r):∃m,q m=some r/\∀(R:Type) (k':MV->Option R),wZ ub op x y k'=k' m:=by
 unfold wZ at h;split at h
 ·split at h
  ·rename_i e;subst e;split at h
   all_goals first
    |(simp at h;done)
    |exact⟨_,h,fun R k'=>by simp only[wZ,ju]⟩
    |(rcases br_some h with⟨_,h⟩|⟨e,h⟩
      ·simp at h
      ·exact⟨_,h,fun R k'=>by simp only[wZ,ju,e,br,cond_false]⟩)
  ·simp at h
 ·split at h
  ·rcases br_some h with⟨e,h⟩|⟨_,h⟩
   ·exact⟨_,h,fun R k'=>by simp only[wZ,e,br,cond_true]⟩
   ·simp at h
  ·exact⟨_,h,fun R k'=>rfl⟩
  ·exact⟨_,h,fun R k'=>rfl⟩
  ·simp at h
 ·split at h
  ·rename_i hu;split at h
   ·exact⟨_,h,fun R k'=>by simp only[wZ,hu,ju]⟩
   ·exact⟨_,h,fun R k'=>by simp only[wZ,hu,ju]⟩
   ·simp at h
  ·simp at h
 ·simp at h
theorem CY{fr':Fr}:∀ps:List (Nat×Operand),(∀p∈ps,aL fr' p.2=aL fr p.2)->lL fr' ps=lL fr ps
 |[],_=>rfl
 |(i,x)::ps,h=>by
  unfold lL;rw[show aL fr' x=aL fr x from h (i,x) (by simp),CY ps fun p hp=>h p (kz _ hp)]
end
end Kw
namespace Kw
open Go
variable [Gl]
section
variable {E:Env} {run:Run} {o:Oper} {fr:Fr} {R:Type} {r:R}
theorem TX{own:Bool}{t:TypeId}{m:MV}{q:MV->Option R}(h:V9 E own t m q=some r):q m=some r/\∀(R:Type) (k':MV->Option R),V9 E own t m k'=k' m:=by
 unfold V9 at h⊢;split at h
 ·rename_i ha;simp only[ha,ju];obtain⟨cs,hc,h⟩:=aF h;obtain⟨em,hl⟩:=KU hc;obtain⟨ms,hk,h1⟩:=A9 _ _ _ _ h;have e:(cs.drop 0).take (jP E.P t).length=cs:=by rw[qb,<-hl,Jg]
  have ems:ms=cs:=by
   have h2:=h1 (List MV) some;have h3:=Q5 (own:=own) (jP E.P t) cs 0 (some:List MV->Option (List MV)) (r:=ms) h2;rw[e]at h3;exact(Option.some.inj h3.1).symm
  subst ems;rw[em];refine⟨hk,fun R k'=>?_⟩
  have hc':G8 (jP E.P t).length (.agg ms)=some ms:=by rw[<-em];exact hc
  simp only[hc',bnd,kh,h1]
 ·rename_i ha;split at h
  ·rename_i sh hs;obtain⟨h,h1⟩:=TW h;refine⟨h,fun R k'=>?_⟩
   rw[jc ha];simp only[hs,h1]
  ·simp at h
theorem TY{own:Bool}:∀(ts:List TypeId) (ms:List MV) (j:Nat) (q:List MV->Option R),QD E own ts ms j q=some r->∃x,q x=some r/\∀(R:Type) (k':List MV->Option R),QD E own ts ms j k'=k' x
 |[],ms,j,q,h=>⟨[],h,fun _ _=>rfl⟩
 |t::ts,ms,j,q,h=>by
  unfold QD at h;obtain⟨h,h1⟩:=TX h;obtain⟨x,h,h2⟩:=TY ts ms (j+1) _ h;exact⟨_,h,fun R k'=>by unfold QD;rw[h1,h2]⟩
theorem TZ{own:Bool}{t:TypeId}{m:MV}{q:List MV->Bool->Option R}(h:SU E own t m q=some r):∃ms b,q ms b=some r/\∀(R:Type) (k':List MV->Bool->Option R),SU E own t m k'=k' ms b:=by
 unfold SU at h⊢;split at h
 ·rename_i ts hu;obtain⟨vs,hc,h⟩:=aF h;obtain⟨x,h,h1⟩:=TY _ _ _ _ h;exact⟨_,_,h,fun R k'=>by simp only[hu,hc,bnd,kh,h1]⟩
 ·obtain⟨h,h1⟩:=TX h;exact⟨_,_,h,fun R k'=>by rw[h1]⟩
theorem WX{f:H->Option H}{old new:MV}{q:MV->Option R}(h:F8 f old new q=some r):∃x,q x=some r/\∀(R:Type) (k':MV->Option R),F8 f old new k'=k' x:=by
 unfold F8 at h⊢;split at h
 ·obtain⟨b,hb,hk⟩:=aF h;exact⟨_,hk,fun R k'=>by simp only[hb,bnd,kh]⟩
 ·obtain⟨b,hb,hk⟩:=aF h;exact⟨_,hk,fun R k'=>by simp only[hb,bnd,kh]⟩
 ·obtain⟨b,hb,hk⟩:=aF h;exact⟨_,hk,fun R k'=>by simp only[hb,bnd,kh]⟩
 ·obtain⟨b,hb,hk⟩:=aF h;exact⟨_,hk,fun R k'=>by simp only[hb,bnd,kh]⟩
 ·obtain⟨b,hb,hk⟩:=aF h;exact⟨_,hk,fun R k'=>by simp only[hb,bnd,kh]⟩
 ·obtain⟨b,hb,hk⟩:=aF h;exact⟨_,hk,fun R k'=>by simp only[hb,bnd,kh]⟩
 ·obtain⟨b,hb,hk⟩:=aF h;exact⟨_,hk,fun R k'=>by simp only[hb,bnd,kh]⟩
theorem KZ{f:H->Option H}:∀(os:List MV) (j:Nat) (ns:List MV) (q:List MV->Option R),w6 f os j ns q=some r->∃x,q x=some r/\∀(R:Type) (k':List MV->Option R),w6 f os j ns k'=k' x
 |[],j,ns,q,h=>⟨[],h,fun _ _=>rfl⟩
 |o::os,j,ns,q,h=>by
  unfold w6 at h;obtain⟨x,h,h1⟩:=WX h;obtain⟨xs,h,h2⟩:=KZ os (j+1) ns _ h;exact⟨_,h,fun R k'=>by unfold w6;rw[h1,h2]⟩
theorem BA{f:H->Option H}:∀(os:List Obj) (rs:List Obj) (q:List Obj->Option R),lR f os rs q=some r->∃x,q x=some r/\∀(R:Type) (k':List Obj->Option R),lR f os rs k'=k' x
 |[],rs,q,h=>⟨[],h,fun _ _=>rfl⟩
 | .cells cs::os,rs,q,h=>by
   simp only[lR]at h;obtain⟨ns,hn,hk⟩:=aF h;obtain⟨x,hk,h1⟩:=KZ _ _ _ _ hk;obtain⟨xs,hk,h2⟩:=BA os (tlO rs) _ hk;exact⟨_,hk,fun R k'=>by simp only[lR,hn,bnd,kh,h1,h2]⟩
 | .map es::os,rs,q,h=>by
   simp only[lR]at h;obtain⟨ns,hn,hk⟩:=aF h;obtain⟨xs,hk,h2⟩:=BA os (tlO rs) _ hk;exact⟨_,hk,fun R k'=>by simp only[lR,hn,bnd,kh,h2]⟩
 | .rows x::os,rs,q,h=>by
   simp only[lR]at h;obtain⟨ns,hn,hk⟩:=aF h;rcases br_some hk with⟨hc,hk⟩|⟨_,hk⟩
   ·obtain⟨xs,hk,h2⟩:=BA os (tlO rs) _ hk;exact⟨_,hk,fun R k'=>by simp only[lR,hn,bnd,kh,hc,br,cond_true,h2]⟩
   ·simp at hk
 | .none::os,rs,q,h=>by simp[lR]at h
 | .froz _::os,rs,q,h=>by simp[lR]at h
theorem O8{m:MV}{q:MV->Option R}(h:B6 fr m q=some r):∃x,q x=some r/\∀fr',(∀h∈lQ m,AgH fr fr' h)->∀(R:Type) (k':MV->Option R),B6 fr' m k'=k' x:=by
 cases m with
 |ref hd n=>
  simp only[B6]at h;split at h
  ·rename_i x e;rcases br_some h with⟨en,h⟩|⟨_,h⟩
   ·exact⟨_,h,fun fr' ha R k'=>by simp only[B6,(ha hd (by simp[lQ])).obj,e,en,br];rfl⟩
   ·simp at h
  ·rename_i x e;rcases br_some h with⟨en,h⟩|⟨_,h⟩
   ·exact⟨_,h,fun fr' ha R k'=>by simp only[B6,(ha hd (by simp[lQ])).obj,e,en,br];rfl⟩
   ·simp at h
  ·simp at h
 |_=>exact⟨_,h,fun _ _ _ _=>rfl⟩
theorem O9:∀(ms:List MV) {q:List MV->Option R},G7 fr ms q=some r->∃x,q x=some r/\∀fr',(∀h∈ms.flatMap lQ,AgH fr fr' h)->∀(R:Type) (k':List MV->Option R),G7 fr' ms k'=k' x
 |[],q,h=>⟨[],h,fun _ _ _ _=>rfl⟩
 |m::ms,q,h=>by
  simp only[G7]at h;obtain⟨x,h,h1⟩:=O8 h;obtain⟨xs,h,h2⟩:=O9 ms h;exact⟨_,h,fun fr' ha R k'=>by simp only[G7];rw[h1 fr' (fun h hm=>ha h (by rw[kx];exact jw _ hm)),h2 fr' (fun h hm=>ha h (by rw[kx];exact jn _ hm))]⟩
theorem GJ:∀(ms:List MV) {q:List MV->Option R},w5 fr ms q=some r->∃x,q x=some r/\∀fr',(∀h∈ms.flatMap kW,AgH fr fr' h)->∀(R:Type) (k':List MV->Option R),w5 fr' ms k'=k' x
 |[],q,h=>⟨[],h,fun _ _ _ _=>rfl⟩
 |m::ms,q,h=>by
  by_cases ha:m.isAg=true
  ·obtain⟨cs,e⟩:=HK ha;subst e;simp only[w5]at h;obtain⟨x,h,h1⟩:=O9 cs h;obtain⟨xs,h,h2⟩:=GJ ms h;exact⟨_,h,fun fr' ha R k'=>by simp only[w5];rw[h1 fr' (fun h hm=>ha h (by rw[kx];exact jw _ hm)),h2 fr' (fun h hm=>ha h (by rw[kx];exact jn _ hm))]⟩
  ·have ha:m.isAg=false:=by simpa using ha
   have hr:kW m=lQ m:=by cases m<;>first|rfl|(cases ha;done)
   rw[KX ha]at h;obtain⟨x,h,h1⟩:=O8 h;obtain⟨xs,h,h2⟩:=GJ ms h;exact⟨_,h,fun fr' hag R k'=>by rw[KX ha,h1 fr' (fun h hm=>hag h (by rw[kx,hr];exact jw _ hm)),h2 fr' (fun h hm=>hag h (by rw[kx];exact jn _ hm))]⟩
theorem GK:∀{l:List H} {h:H},h∈l->h∈OJ l
 |a::l,h,hm=>by
  unfold OJ;by_cases e:h=a
  ·subst e;exact qk
  ·refine kz _ (wv.2 ⟨GK ((ko.1 hm).resolve_left e),by simpa using e⟩)
theorem jF{A B:Type}{f g:A->List B}:∀{l:List A},(∀a∈l,f a=g a)->l.flatMap f=l.flatMap g
 |[],_=>rfl
 |a::l,h=>by rw[kx,kx,h a (by simp),jF fun b hb=>h b (kz _ hb)]
theorem tS{fr fr':Fr}{L:List H}(h:∀x∈L,dL (fr'.obj x)=dL (fr.obj x)):iT fr' L=iT fr L:=by
 unfold iT;rw[jF h]
theorem abO{F W:H->Prop}{f:FuncId}(ms:List MV){k:List MV->Fr->Option R}(hF:∀h∈ms.flatMap kW,F h/\W h)(h:w8 E f ms fr k=some r):∃x fr1,k x fr1=some r/\cV F W (fun R fr k=>w8 E f ms fr k) fr x fr1/\(∀h,dL (fr1.obj h)=dL (fr.obj h)/\oP (fr1.obj h)=oP (fr.obj h))/\x.flatMap cI=ms.flatMap cI/\iU E f x=iU E f ms:=by
 by_cases hio:E.io f=true
 ·unfold w8 at h;rw[je hio]at h;refine⟨ms,fr,h,?_,fun _=>⟨rfl,rfl⟩,rfl,rfl⟩
  exact cV.keep fun R fr' k _=>by unfold w8;rw[je hio]
 ·unfold w8 at h;rw[jc hio]at h;obtain⟨x,fr1,h,l,_,p,q⟩:=GG ms hF h;refine⟨x,fr1,h,?_,p,q,by unfold iU;rw[jc hio,jc hio]⟩
  have e:(fun(R:Type) (fr:Fr) (k:List MV->Fr->Option R)=>w8 E f ms fr k)=fun R fr k=>nZ (E.mv f) ms fr k:=by
   funext R fr k;unfold w8;rw[jc hio]
  rw[e];exact l
theorem T0{f:FuncId}{args:List MV}{k:MV->Fr->Option R}(h:lF E run f args fr o k=some r):
 ∃m fr1,k m fr1=some r/\cV (cC E f args fr o).tch (cC E f args fr o).wrt (fun R fr k=>lF E run f args fr o k) fr m fr1/\∀fr',(∀h,(cC E f args fr o).tch h->AgH fr fr' h)->cC E f args fr' o=cC E f args fr o:=by
 by_cases hl:(!(E.mv f||E.io f)&&(QE E o.type&&(args.flatMap cI).isEmpty))=true
 ·have hfp:∀fr',cC E f args fr' o=⟨args.flatMap kW,[],none⟩:=fun fr'=>by unfold cC;rw[je hl]
  unfold lF at h;simp only at h;rw[je hl]at h;obtain⟨as,h,h1⟩:=GJ _ h;obtain⟨res,hres,h⟩:=aF h;obtain⟨ms,b,h,h2⟩:=TZ h;split at h
  ·rename_i hs;refine⟨_,_,h,cV.keep fun R fr' k ha=>?_,fun fr' _=>by rw[hfp,hfp]⟩
   unfold lF;simp only;rw[je hl,h1 fr' fun h hm=>ha h (.inl (by rw[hfp];exact hm))]
   simp only[hres,bnd,kh,h2,hs,ju]
  ·simp at h
 ·have hfp:∀fr',cC E f args fr' o=⟨[],args.flatMap kW++(iT fr' (args.flatMap cI++iU E f args)++(iT fr' (args.flatMap cI++iU E f args)).flatMap fun h=>oP (fr'.obj h)),some (o.dst.getD 0)⟩:=fun fr'=>by unfold cC;rw[jc hl]
  have hwr:∀h,(cC E f args fr o).wrt h->(cC E f args fr o).tch h:=fun h hh=>hh.elim (fun x=>.inr (.inl x)) fun x=>.inr (.inr x)
  have hin:∀h,h∈args.flatMap kW++(iT fr (args.flatMap cI++iU E f args)++(iT fr (args.flatMap cI++iU E f args)).flatMap fun h=>oP (fr.obj h))->(cC E f args fr o).tch h/\(cC E f args fr o).wrt h:=fun h hh=>by
   have:(cC E f args fr o).wrt h:=.inl (by rw[hfp];exact hh)
   exact⟨hwr h this,this⟩
  have hfam:∀j,(cC E f args fr o).tch (.loc (o.dst.getD 0) j)/\(cC E f args fr o).wrt (.loc (o.dst.getD 0) j):=fun j=>by
   have:(cC E f args fr o).wrt (.loc (o.dst.getD 0) j):=.inr ⟨_,j,by rw[hfp],rfl⟩
   exact⟨hwr _ this,this⟩
  have hfpc:∀fr',(∀h,(cC E f args fr o).tch h->AgH fr fr' h)->cC E f args fr' o=cC E f args fr o:=fun fr' ha=>by
   have hc:iT fr' (args.flatMap cI++iU E f args)=iT fr (args.flatMap cI++iU E f args):=tS fun x hx=>by
    have hx':x∈iT fr (args.flatMap cI++iU E f args):=GK (jw _ hx);rw[(ha x (hin x (jn _ (jw _ hx'))).1).obj]
   rw[hfp,hfp,hc,jF (g:=fun h=>oP (fr.obj h)) fun x hx=>by
    rw[(ha x (hin x (jn _ (jw _ hx))).1).obj]]
  have h0:=h;unfold lF at h;simp only at h;rw[jc hl]at h;obtain⟨as,fr1,h,l1,p1,q1,q2⟩:=abO (E:=E) (f:=f) args (fun h hm=>hin h (jw _ hm)) h
  have hcl:iT fr1 (as.flatMap cI++iU E f as)=iT fr (args.flatMap cI++iU E f args):=by
   rw[q1,q2];exact tS fun x _=>(p1 x).1
  rw[hcl]at h;generalize hhs:iT fr (args.flatMap cI++iU E f args)=hs at h hcl;have hH:∀h∈hs,(cC E f args fr o).tch h/\(cC E f args fr o).wrt h:=fun h hm=>hin h (jn _ (jw _ (by rw[hhs];exact hm)))
  obtain⟨os,fr2,h,l2⟩:=A7 hs (fun h hm=>(hH h hm).1) (fun h hm=>by
   obtain⟨a,ha,hm⟩:=List.mem_flatMap.1 hm;rw[(p1 a).2]at hm;exact hin h (jn _ (jn _ (List.mem_flatMap.2 ⟨a,by rw[hhs];exact ha,hm⟩)))) h
  obtain⟨res,hres,h⟩:=aF h;obtain⟨ns,h,hlike⟩:=BA _ _ _ h;have l3:=akH (F:=(cC E f args fr o).tch) (W:=(cC E f args fr o).wrt) (ns:=ns) hH fr2;have hB:∀t j,((cC E f args fr o).tch (nmB (o.dst.getD 0) t j)/\(cC E f args fr o).wrt (nmB (o.dst.getD 0) t j))/\(cC E f args fr o).tch (kn (nmB (o.dst.getD 0) t j))/\(cC E f args fr o).wrt (kn (nmB (o.dst.getD 0) t j)):=fun t j=>⟨hfam _,hfam _⟩
  have hR:∀t j,((cC E f args fr o).tch (nmR (o.dst.getD 0) t j)/\(cC E f args fr o).wrt (nmR (o.dst.getD 0) t j))/\(cC E f args fr o).tch (kn (nmR (o.dst.getD 0) t j))/\(cC E f args fr o).wrt (kn (nmR (o.dst.getD 0) t j)):=fun t j=>⟨hfam _,hfam _⟩
  have hcl':∀(fr1':Fr),(∀h,(cC E f args fr o).tch h->AgH fr1 fr1' h)->iT fr1' (as.flatMap cI++iU E f as)=hs:=fun fr1' ha=>by
   rw[<-hcl];refine tS fun x hx=>?_
   have hx':x∈hs:=by rw[<-hcl];exact GK (jw _ hx)
   rw[(ha x (hH x hx').1).obj]
  have fin:∀{m:MV} {frE:Fr} (c:(R:Type)->Fr->(MV->Fr->Option R)->Option R),cV (cC E f args fr o).tch (cC E f args fr o).wrt c {fr2 with ob:=jT hs ns fr2.ob} m frE->
   (∀(R:Type) (k:MV->Fr->Option R) (frx:Fr),(match WA E o.type with
      | .ptr e=>bnd (aeV hs.length res.1) fun _=>bnd (qI (jP E.P e).length (MZ res.2 hs.length)) fun cs=>opn (E.keep f) (jP E.P e) cs 0 fun cs=>
       eG (nmB (o.dst.getD 0)) hs ns 0 frx fun fr=>qE (nmR (o.dst.getD 0) 1) cs 0 fr fun cs fr=>fr.lay (.loc (o.dst.getD 0) 0) (.cells cs) fun fr=>k (.ptr (.loc (o.dst.getD 0) 0) 0) fr
      | .map=>bnd (apY hs.length res.1) fun _=>bnd (JU (MZ res.2 hs.length)) fun es=>
       eG (nmB (o.dst.getD 0)) hs ns 0 frx fun fr=>fr.lay (.loc (o.dst.getD 0) 0) (.map es) fun fr=>k (.mapr (.loc (o.dst.getD 0) 0)) fr
      | .no=>if E.kr f then bnd (DJ res.1) fun x=>eG (nmB (o.dst.getD 0)) hs ns 0 frx fun fr=>mH (nmR (o.dst.getD 0)) [.ownK x] 0 fr fun ms fr=>k (rV ms false) fr else SU E (E.keep f) o.type res.1 fun ms b=>
       eG (nmB (o.dst.getD 0)) hs ns 0 frx fun fr=>mH (nmR (o.dst.getD 0)) ms 0 fr fun ms fr=>k (rV ms b) fr)=c R frx k)->
   cV (cC E f args fr o).tch (cC E f args fr o).wrt (fun R fr k=>lF E run f args fr o k) fr m frE:=by
   intro m frE c lc hc;have whole:=l1.bind (c2:=fun as R fr k=>jD hs fr fun os fr=>(fun(_:Unit) (fr:Fr)=>c R fr k) () {fr with ob:=jT hs ns fr.ob})
    (l2.bind (c2:=fun os R fr k=>(fun(_:Unit) (fr:Fr)=>c R fr k) () {fr with ob:=jT hs ns fr.ob}) (l3.bind (c2:=fun _ R fr k=>c R fr k) lc))
   have key:∀(fr' fr1' fr2':Fr),(∀(R:Type) k,w8 E f args fr' k=(k as fr1':Option R))->iT fr1' (as.flatMap cI++iU E f as)=hs->(∀(R:Type) k,jD hs fr1' k=(k os fr2':Option R))->∀(R:Type) (k:MV->Fr->Option R),lF E run f args fr' o k=c R {fr2' with ob:=jT hs ns fr2'.ob} k:=by
    intro fr' fr1' fr2' e1 e2 e3 R k;unfold lF;simp only;rw[jc hl,e1];simp only[e2];rw[e3];simp only[hres,bnd,kh];rw[hlike];exact hc R k _
   refine⟨fun R k=>?_,whole.2.1,fun fr' ha=>?_⟩
   ·show lF E run f args fr o k=_;rw[key fr fr1 fr2 l1.1 hcl l2.1,lc.1]
   ·obtain⟨fr1',e1,s1,a1,w1⟩:=l1.2.2 fr' ha;obtain⟨fr2',e2,s2,a2,w2⟩:=l2.2.2 fr1' a1;obtain⟨fr3',e3,s3,a3,w3⟩:=(l3.bind (c2:=fun _ R fr k=>c R fr k) lc).2.2 fr2' a2
    refine⟨fr3',fun R k=>?_,(s3.trans s2).trans s1,a3,fun h hw=>((w1 h hw).trans (w2 h hw)).trans (w3 h hw)⟩
    show lF E run f args fr' o k=_;rw[key fr' fr1' fr2' e1 (hcl' fr1' a1) e2];exact e3 R k
  cases hbt:WA E o.type with
  |ptr e=>
   simp only[hbt]at h;obtain⟨u,hu,h⟩:=aF h;obtain⟨cs,hcs,h⟩:=aF h;obtain⟨cs',h,hop⟩:=A9 _ _ _ _ h;obtain⟨fr4,h,l4⟩:=pC hB hs ns (fun h hm=>hH h hm) h
   obtain⟨cs2,fr5,h,l5⟩:=sD (hR 1) cs' h;obtain⟨h,l6⟩:=lI (hfam 0).1 (hfam 0).2 h;refine⟨_,_,h,fin (fun R fr k=>eG (nmB (o.dst.getD 0)) hs ns 0 fr fun fr=>qE (nmR (o.dst.getD 0) 1) cs' 0 fr fun cs fr=>fr.lay (.loc (o.dst.getD 0) 0) (.cells cs) fun fr=>k (.ptr (.loc (o.dst.getD 0) 0) 0) fr) ?_ (fun R k frx=>?_),hfpc⟩
   ·exact l4.bind (c2:=fun _ R fr k=>qE (nmR (o.dst.getD 0) 1) cs' 0 fr fun cs fr=>fr.lay (.loc (o.dst.getD 0) 0) (.cells cs) fun fr=>k (MV.ptr (.loc (o.dst.getD 0) 0) 0) fr)
     (l5.bind (c2:=fun cs R fr k=>fr.lay (.loc (o.dst.getD 0) 0) (.cells cs) fun fr=>k (MV.ptr (.loc (o.dst.getD 0) 0) 0) fr) (l6.map fun _=>MV.ptr (.loc (o.dst.getD 0) 0) 0))
   ·simp only[hbt,hu,hcs,bnd,kh];rw[hop]
  |map=>
   simp only[hbt]at h;obtain⟨u,hu,h⟩:=aF h;obtain⟨es,hes,h⟩:=aF h;obtain⟨fr4,h,l4⟩:=pC hB hs ns (fun h hm=>hH h hm) h
   obtain⟨h,l6⟩:=lI (hfam 0).1 (hfam 0).2 h;refine⟨_,_,h,fin (fun R fr k=>eG (nmB (o.dst.getD 0)) hs ns 0 fr fun fr=>fr.lay (.loc (o.dst.getD 0) 0) (.map es) fun fr=>k (.mapr (.loc (o.dst.getD 0) 0)) fr) ?_ (fun R k frx=>?_),hfpc⟩
   ·exact l4.bind (c2:=fun _ R fr k=>fr.lay (.loc (o.dst.getD 0) 0) (.map es) fun fr=>k (MV.mapr (.loc (o.dst.getD 0) 0)) fr) (l6.map fun _=>MV.mapr (.loc (o.dst.getD 0) 0))
   ·simp only[hbt,hu,hes,bnd,kh]
  |no=>
   simp only[hbt]at h;split at h
   ·rename_i hkr;obtain⟨x,hx,h⟩:=aF h;obtain⟨fr4,h,l4⟩:=pC hB hs ns (fun h hm=>hH h hm) h
    obtain⟨ms2,fr5,h,l5⟩:=sE hR [.ownK x] h;refine⟨_,_,h,fin (fun R fr k=>eG (nmB (o.dst.getD 0)) hs ns 0 fr fun fr=>mH (nmR (o.dst.getD 0)) [.ownK x] 0 fr fun ms fr=>k (rV ms false) fr) ?_ (fun R k frx=>?_),hfpc⟩
    ·exact l4.bind (c2:=fun _ R fr k=>mH (nmR (o.dst.getD 0)) [.ownK x] 0 fr fun ms fr=>k (rV ms false) fr) (l5.map fun ms=>rV ms false)
    ·simp only[hbt,hkr,ju,hx,bnd,kh]
   ·rename_i hkr;obtain⟨ms,b,h,hrs⟩:=TZ h;obtain⟨fr4,h,l4⟩:=pC hB hs ns (fun h hm=>hH h hm) h
    obtain⟨ms2,fr5,h,l5⟩:=sE hR ms h;refine⟨_,_,h,fin (fun R fr k=>eG (nmB (o.dst.getD 0)) hs ns 0 fr fun fr=>mH (nmR (o.dst.getD 0)) ms 0 fr fun ms fr=>k (rV ms b) fr) ?_ (fun R k frx=>?_),hfpc⟩
    ·exact l4.bind (c2:=fun _ R fr k=>mH (nmR (o.dst.getD 0)) ms 0 fr fun ms fr=>k (rV ms b) fr) (l5.map fun ms=>rV ms b)
    ·simp only[hbt];rw[jc hkr,hrs]
end
end Kw
