import Derived.Test.YthjlffhckgaboaaGreatDoorW01
import Derived.Laws.CopyRow
import Derived.Laws.BytesString
import Derived.Deep.AppendSrc
import Derived.Laws.AppendOwn
import Derived.Deep.Upon
import Derived.Great.BuildSlice
import Derived.Laws.MakeOwn
set_option linter.unusedVariables false
set_option linter.unusedSimpArgs false
set_option linter.unusedSectionVars false
namespace Kw
open Go
variable [Gl]
def G.setR(g:G)(h:H)(x:GH):G:=⟨fun h'=>if h'=h then x else g.rho h',g.prot⟩
theorem aI{g:G}{h:H}{x:GH}:(g.setR h x).rho h=x:=by simp[G.setR]
theorem bB{g:G}{h h':H}{x:GH}(e:h'≠h):(g.setR h x).rho h'=g.rho h':=by simp[G.setR,e]
theorem iE{R:Type}{fr:Fr}{h:H}{o:Obj}{k:Fr->Option R}{r:R}(e:fr.lay h o k=some r):h∉fr.ob.map (·.1)/\k (fr.setObj h o)=some r:=by
 unfold Fr.lay at e;split at e
 ·simp at e
 ·rename_i hn;refine⟨fun hm=>hn ?_,e⟩
  obtain⟨p,hp,he⟩:=qf.1 hm;exact List.any_eq_true.2 ⟨p,hp,by simp[he]⟩
theorem IW{fr:Fr}{g:G}{tmps:Array Value}{w:World}(S:Sim fr g tmps w){h:H}(hf:h∉fr.ob.map (·.1))(o:Obj)(x:GH)(nb:Go.Obj)
 (hx:x≠ .absent) (him:∀i,h≠ .imp i) (hb:∀b,x.blk=some b->b=w.heap.size)
 (ho:∀g' w',g'=g.setR h x->w'={w with heap:=w.heap.push nb}->Later g g' (cur fr.ob) (cur (put fr.ob h o)) w w'->IC g' (cur (put fr.ob h o)) w' h o):
 Sim (fr.setObj h o) (g.setR h x) tmps {w with heap:=w.heap.push nb}/\Fm g w (g.setR h x) {w with heap:=w.heap.push nb}:=by
 have habs:g.rho h=.absent:=(S.o.abs h).2 hf;have hheap:∀b,b<w.heap.size->({w with heap:=w.heap.push nb}:World).heap[b]?=w.heap[b]?:=fun b hb=>by
  simp only;rw[Array.getElem?_push_lt hb,kq hb]
 have L:Later g (g.setR h x) (cur fr.ob) (cur (put fr.ob h o)) w {w with heap:=w.heap.push nb}:=by
  have ne:∀h',g.rho h'≠ .absent->h'≠h:=fun h' hn e=>hn (e▸habs)
  refine⟨fun h' b e=>.inl ((bB (ne h' (by rw[e];simp))).trans e),fun h' b c s e=>.inr ?_,fun h' e=>.inr ?_,fun h' e=>(bB (ne h' (by rw[e];simp))).trans e,fun b hp=>hp,fun b hp=>hheap b (S.o.plt b hp)⟩
  ·have:=ne h' (by rw[e];simp)
   exact⟨by rw[dC this];exact jz _,.inl ((bB this).trans e)⟩
  ·have:=ne h' (by rw[e];simp)
   exact⟨by rw[dC this];exact jz _,.inl ((bB this).trans e)⟩
 refine⟨S.later L (S.o.upd h o (fun h' e=>bB e) (by rw[aI];exact hx) L (fun h' b _ e=>hheap b (S.o.lt h' b e)) (fun _ _ _ _ hn=>hn)
  (ho _ _ rfl rfl L) (fun h' b _ e e'=>?_) (fun b e=>?_) (by simp) (fun b hp=>by simp;exact Nat.lt_succ_of_lt (S.o.plt b hp))),?_⟩
 ·rw[aI]at e;have:=S.o.lt h' b e';rw[hb b e]at this;omega
 ·rw[aI]at e;simp[hb b e]
 ·refine⟨rfl,rfl,rfl,by simp,fun b hb' _=>hheap b hb',fun h' b e=>?_,fun _ hp=>hp,fun _ hp=>.inl hp,fun i=>?_⟩
  by_cases eh:h'=h
  ·subst eh;rw[aI]at e;exact .inl (by rw[hb b e];exact kg _)
  ·rw[bB eh]at e;exact .inr ⟨h',e⟩
  ·by_cases eh:(H.imp i)=h
   ·exact absurd eh.symm (him i)
   ·exact .inl (bB eh)
section
variable {P:Program} {R:Type} {r:R} {k:Fr->Option R} {fr:Fr} {g:G} {a:Act} {w:World} {o:Oper} {Q:Exit->Act->World->Prop}
theorem Y8(S:Sim fr g a.tmps w){h:H}(hi:∀i,h≠ .imp i)(hf:h∉fr.ob.map (·.1))(arr:Array Value)(ty:TypeId)(cs:List MV)(hl:arr.size=cs.length)
 (hv:∀(j:Nat) (v:Value) (m:MV),arr[j]?=some v->cs[j]?=some m->RV g (cur fr.ob) w v m):
 Sim (fr.setObj h (.cells cs)) (g.setR h (.box w.heap.size)) a.tmps {w with heap:=w.heap.push (.cells arr ty (0,0))}/\Fm g w (g.setR h (.box w.heap.size)) {w with heap:=w.heap.push (.cells arr ty (0,0))}:=by
 refine IW S hf _ _ _ (by simp) hi (fun b e=>by cases e;rfl) (fun g' w' eg ew L=>?_)
 subst eg;subst ew;exact⟨w.heap.size,arr,ty,aI,by simp,fun hp=>yz _ (S.o.plt _ hp),hl,fun j v m h1 h2=>(hv j v m h1 h2).mono L⟩
theorem cG{t:TypeId}(hk:okT P t=true):∃i v,P.info? t=some i/\i.zero=some v/\v.cells.toList=nB P t/\v.cells.size=tsize P t:=by
 have h2:=(oW hk).2.2;unfold okT at hk;simp only[jg]at hk;have hz:=hk.2.1;unfold JV at hz;split at hz
 ·rename_i i hi;split at hz
  ·rename_i v hv;have:nB P t=v.cells.toList:=by unfold nB;rw[hi];simp[hv]
   exact⟨i,v,hi,hv,this.symm,by rw[<-h2,this];simp⟩
  ·simp at hz
 ·simp at hz
theorem s_alloc{t:TypeId}(ho:o.op=.alloc t)(h:(if okT P t then fr.lay (.loc (o.dst.getD 0) 0) (.cells ((nB P t).map oI)) fun fr=>k (fr.finish o.dst (.ptr (.loc (o.dst.getD 0) 0) 0))else none)=some r)(S:Sim fr g a.tmps w):
 o.upon P a (iD r k g w a) Q ((execOp a.eval o).run P w):=by
 split at h
 case isFalse=>simp at h
 rename_i hk;obtain⟨hf,h⟩:=iE h;obtain⟨i,v,hi,hz,hc,hs⟩:=cG hk;obtain⟨S',F⟩:=Y8 S (by simp) hf v.cells t ((nB P t).map oI) (by rw[<-hc];simp) (fun j x m h1 h2=>by
  rw[<-hc,jo,qj,h1]at h2;cases h2;exact rv_ofCell g _ w x)
 refine aS (v:=.pointer (some ⟨w.heap.size,0,none⟩)) ?_ h S' (.ptr aI) F;unfold execOp;rw[ho];simp[Instr.alloc,aeZ hi hz,newVar,newRow]
theorem cellsOf_one{m:MV}(hm:m.one=true):cellsOf m=[m]:=by unfold cellsOf;split<;>simp_all [MV.one]
theorem J4{cu:H->Int}{v:Value}{m:MV}(hx:RV g cu w v m)(hm:m.one=true\/∃cs,m=.agg cs):v.cells.size=(cellsOf m).length/\∀(j:Nat) (v':Value) (m':MV),v.cells[j]?=some v'->(cellsOf m)[j]?=some m'->RV g cu w v' m':=by
 rcases hm with hm|⟨cs,e⟩
 ·rw[cellsOf_one hm,(hx.one hm).2];refine⟨rfl,fun j v' m' h1 h2=>?_⟩
  cases j with
  |zero=>simp at h1 h2;rw[<-h1,<-h2];exact hx
  |succ j=>simp at h2
 ·subst e;obtain⟨vs,ev,hl,hr⟩:=yF hx;rw[ev];exact⟨hl,hr⟩
theorem s_box{t:TypeId}{x:Operand}(ho:o.op=.box t x)(h:(match aL fr x with
 | .agg cs=>fr.lay (.loc (o.dst.getD 0) 0) (.cells cs) fun fr=>k (fr.finish o.dst (.ptr (.loc (o.dst.getD 0) 0) 0))
 |m=>if m.one then fr.lay (.loc (o.dst.getD 0) 0) (.cells [m]) fun fr=>k (fr.finish o.dst (.ptr (.loc (o.dst.getD 0) 0) 0))else none)=some r) (S:Sim fr g a.tmps w):
 o.upon P a (iD r k g w a) Q ((execOp a.eval o).run P w):=by
 have hx:=bF S x;have hr:(execOp a.eval o).run P w=.ok (.value (.pointer (some ⟨w.heap.size,0,none⟩))) {w with heap:=w.heap.push (.cells (a.eval x).cells t (0,0))}:=by
  unfold execOp;rw[ho];generalize a.eval=ρ at*;simp[Instr.box,newVar,newRow]
 have key:∀m,aL fr x=m->(m.one=true\/∃cs,m=.agg cs)->fr.lay (.loc (o.dst.getD 0) 0) (.cells (cellsOf m)) (fun fr=>k (fr.finish o.dst (.ptr (.loc (o.dst.getD 0) 0) 0)))=some r->
  o.upon P a (iD r k g w a) Q ((execOp a.eval o).run P w):=by
  intro m em hm h;obtain⟨hf,h⟩:=iE h;rw[em]at hx;have hcell:(a.eval x).cells.size=(cellsOf m).length/\∀(j:Nat) (v:Value) (m':MV),(a.eval x).cells[j]?=some v->(cellsOf m)[j]?=some m'->RV g (cur fr.ob) w v m':=J4 hx hm;obtain⟨S',F⟩:=Y8 S (by simp) hf (a.eval x).cells t (cellsOf m) hcell.1 hcell.2
  exact aS hr h S' (.ptr aI) F
 split at h
 ·rename_i cs e;exact key _ e (.inr ⟨cs,rfl⟩) h
 ·split at h
  ·rename_i hm;exact key _ rfl (.inl hm) (by rw[cellsOf_one hm];exact h)
  ·simp at h
end
end Kw
namespace Kw
open Go
variable [Gl]
def G.guard(g:G)(b:Nat):G:=⟨g.rho,fun b'=>g.prot b'\/b'=b⟩
section
variable {fr:Fr} {g:G} {tmps:Array Value} {w:World}
theorem SZ(S:SimO fr.ob g w){ob':Ob}{b:Nat}(hc:∀h,cur ob' h=cur fr.ob h):Later g (g.guard b) (cur fr.ob) (cur ob') w w:=
 ⟨fun _ _ e=>.inl e,fun h _ _ _ e=>.inr ⟨by rw[hc];exact jz _,.inl e⟩,fun h e=>.inr ⟨by rw[hc];exact jz _,.inl e⟩,fun _ e=>e,fun _ h=>.inl h,fun _ _=>rfl⟩
theorem af1(h:H){b:Nat}(e:(g.rho h).blk=some b):Fm g w (g.guard b) w:=
 ⟨rfl,rfl,rfl,kg _,fun _ _ _=>rfl,fun h' b' e'=>.inr ⟨h',e'⟩,fun _ hp=>.inl hp,fun b' hp=>hp.elim .inl (fun e'=>.inr (.inr ⟨h,by rw[e'];exact e⟩)),fun _=>.inl rfl⟩
theorem af2{ob:Ob}{h:H}{x:List Row}(e:look ob h=.rows x)(h':H):cur (put ob h (.froz x)) h'=cur ob h':=by
 by_cases eh:h'=h
 ·subst eh;unfold cur;rw[iW,e]
 ·exact dC eh
theorem QM{arr:Array Value}{ty:TypeId}{b cap sz:Nat}{rs:List Row}{p:Nat->Prop}(hp:p b)(hh:w.heap[b]?=some (.cells arr ty (0,0)))(hl:rs.length<=cap)(hr:iC w p arr sz rs):
 SV w p (.slice (some ⟨b,0,none⟩) rs.length cap) (.sl rs):=by
 have key:∀(i:Nat) (row:Row) (j:Nat) (m:MV),rs[i]?=some row->row[j]?=some m->arr[i*sz+j]?=some (arr.getD (i*sz+j) undef)/\SV w p (arr.getD (i*sz+j) undef) m:=by
  intro i row j m h1 h2;obtain⟨v,hv,hs⟩:=(hr i row h1).2 j m h2;rw[ql,hv];exact⟨rfl,hs⟩
 exact .sl sz (fun i j=>arr.getD (i*sz+j) undef) rfl hl (fun i row h=>(hr i row h).1)
  (fun _=>⟨⟨b,0,none⟩,rfl,rfl,hp,fun i row j m h1 h2=>by rw[lM hh];simpa using(key i row j m h1 h2).1⟩) (fun i row j m h1 h2=>(key i row j m h1 h2).2)
theorem J5(S:Sim fr g tmps w){h:H}{x:List Row}{n:Int}{v:Value}(e:fr.obj h=.rows x)(hn:n=nrows x)(hv:RV g (cur fr.ob) w v (.ref h n)):
 ∃g',Sim (fr.setObj h (.froz x)) g' tmps w/\SV w g'.prot v (.sl x)/\Later g g' (cur fr.ob) (cur (fr.setObj h (.froz x)).ob) w w/\Fm g w g' w/\g'.rho=g.rho/\∀b,g'.prot b->g.prot b\/(g.rho h).blk=some b:=by
 have hcur:n=cur fr.ob h:=by unfold cur;unfold Fr.obj at e;rw[e];exact hn
 have hc:∀h',cur (put fr.ob h (.froz x)) h'=cur fr.ob h':=af2 e;rcases obj_of S.o e (by simp)with⟨er,ex⟩|⟨b,cap,sz,arr,ty,er,hh,hnp,hs,hl,hr⟩
 ·subst ex;obtain⟨a0,ev⟩:=tN hv er hcur;have L:Later g g (cur fr.ob) (cur (put fr.ob h (.froz []))) w w:=
   ⟨fun _ _ e=>.inl e,fun h _ _ _ e=>.inr ⟨by rw[hc];exact jz _,.inl e⟩,fun h e=>.inr ⟨by rw[hc];exact jz _,.inl e⟩,fun _ e=>e,fun _ h=>h,fun _ _=>rfl⟩
  refine⟨g,S.later L (S.o.upd h _ (fun _ _=>rfl) (by rw[er];simp) L (fun _ _ _ _=>rfl) (fun _ _ _ _ hn=>hn) (.inl ⟨er,rfl⟩) (fun h' b _ e1=>by rw[er]at e1;cases e1) (fun b e1=>by rw[er]at e1;cases e1) (kg _) S.o.plt),?_,L,Fm.refl _ _,rfl,fun _ hp=>.inl hp⟩
  rw[ev];exact .sl 0 (fun _ _=>undef) rfl (kg _) (fun i row h=>by simp at h) (fun h=>by simp at h) (fun i row j m h=>by simp at h)
 ·have ev:=yG hv er hcur;have L:Later g (g.guard b) (cur fr.ob) (cur (put fr.ob h (.froz x))) w w:=SZ S.o hc;have hr':iC w (g.guard b).prot arr sz x:=hr.mono (fun _ h=>.inl h) (fun _ _=>rfl)
  have hb:(g.rho h).blk=some b:=by rw[er];rfl
  refine⟨g.guard b,S.later L (S.o.upd h _ (fun _ _=>rfl) (by show g.rho h≠_;rw[er];simp) L (fun _ _ _ _=>rfl) (fun h' b' ne e1 hn hp=>?_) (.inr ⟨b,cap,sz,arr,ty,er,hh,.inr rfl,hs,hl,hr'⟩)
   (fun h' b' ne e1 e2=>ne (S.o.inj h' h b' e2 e1)) (fun b' e1=>S.o.lt h b' e1) (kg _) (fun b' hp=>hp.elim (S.o.plt b') (fun e=>e▸S.o.lt h b hb))),?_,L,af1 h hb,rfl,fun b' hp=>hp.imp id (fun e=>by rw[e];exact hb)⟩
  ·rcases hp with hp|hp
   ·exact hn hp
   ·subst hp;exact ne (S.o.inj h' h _ e1 hb)
  ·rw[ev,hn];have:(nrows x).toNat=x.length:=by unfold nrows;simp
   rw[this];exact QM (.inr rfl) hh hl hr'
theorem QN(S:Sim fr g tmps w){h:H}{x:List Row}{n:Int}{v:Value}(e:fr.obj h=.froz x)(hn:n=nrows x)(hv:RV g (cur fr.ob) w v (.ref h n)):SV w g.prot v (.sl x):=by
 have hcur:n=cur fr.ob h:=by unfold cur;unfold Fr.obj at e;rw[e];exact hn
 rcases obj_of S.o e (by simp)with⟨er,ex⟩|⟨b,cap,sz,arr,ty,er,hh,hp,hs,hl,hr⟩
 ·subst ex;obtain⟨a0,ev⟩:=tN hv er hcur;rw[ev];exact .sl 0 (fun _ _=>undef) rfl (kg _) (fun i row h=>by simp at h) (fun h=>by simp at h) (fun i row j m h=>by simp at h)
 ·rw[yG hv er hcur,hn];have:(nrows x).toNat=x.length:=by unfold nrows;simp
  rw[this];exact QM hp hh hl hr
theorem J6(w:World)(p:Nat->Prop){a:Option Addr}:SV w p (.slice a 0 0) (.sl []):=
 .sl 0 (fun _ _=>undef) rfl (kg _) (fun i row h=>by simp at h) (fun h=>by simp at h) (fun i row j m h=>by simp at h)
theorem iEq_true{a b:Int}(h:iEq a b=true):a=b:=by simpa [iEq]using h
variable {R:Type} {r:R}
structure Froze(fr fr':Fr)(g g':G)(tmps:Array Value)(w:World):Prop where
 sim:Sim fr' g' tmps w
 later:Later g g' (cur fr.ob) (cur fr'.ob) w w
 fm:Fm g w g' w
 sl:fr'.sl=fr.sl
theorem Later.refl{ob:Ob}:Later g g (cur ob) (cur ob) w w:=
 ⟨fun _ _ e=>.inl e,fun _ _ _ _ e=>.inr ⟨jz _,.inl e⟩,fun _ e=>.inr ⟨jz _,.inl e⟩,fun _ e=>e,fun _ h=>h,fun _ _=>rfl⟩
theorem Froze.refl(S:Sim fr g tmps w):Froze fr fr g g tmps w:=⟨S,Later.refl,Fm.refl _ _,rfl⟩
theorem WH{m:MV}{k:MV->Fr->Option R}{v:Value}(h:oT fr m k=some r)(S:Sim fr g tmps w)(hv:RV g (cur fr.ob) w v m):
 ∃m' fr' g',k m' fr'=some r/\Froze fr fr' g g' tmps w/\SV w g'.prot v m':=by
 unfold oT at h;split at h
 ·split at h
  ·rename_i x e;rcases br_some h with⟨en,h⟩|⟨_,h⟩
   ·obtain⟨g',S',sv,L,F,_⟩:=J5 S e (iEq_true en) hv;exact⟨_,_,g',h,⟨S',L,F,rfl⟩,sv⟩
   ·simp at h
  ·rename_i x e;rcases br_some h with⟨en,h⟩|⟨_,h⟩
   ·exact⟨_,_,g,h,Froze.refl S,QN S e (iEq_true en) hv⟩
   ·simp at h
  ·simp at h
 ·refine⟨_,_,g,h,Froze.refl S,?_⟩;cases hv with
  |sv h=>cases h
  |nils=>exact J6 _ _
 ·rw[mK hv];exact⟨_,_,g,h,Froze.refl S,.bool _⟩
 ·rw[jR hv];exact⟨_,_,g,h,Froze.refl S,.int _ _⟩
 ·rw[oJ hv];exact⟨_,_,g,h,Froze.refl S,.str _⟩
 ·exact⟨_,_,g,h,Froze.refl S,rv_sl hv⟩
 ·simp at h
end
end Kw
namespace Kw
open Go
variable [Gl]
inductive Rl(Rr:Value->MV->Prop):List Value->List MV->Prop
 |nil:Rl Rr [] []
 |cons {v:Value} {m:MV} {vs:List Value} {ms:List MV} (h:Rr v m) (t:Rl Rr vs ms):Rl Rr (v::vs) (m::ms)
section
variable {Rr Rr':Value->MV->Prop}
theorem n7:∀(vs:List Value) (ms:List MV),vs.length=ms.length->(∀(j:Nat) (v:Value) (m:MV),vs[j]?=some v->ms[j]?=some m->Rr v m)->Rl Rr vs ms
 |[],[],_,_=>.nil
 |v::vs,m::ms,hl,h=>.cons (h 0 v m rfl rfl) (n7 vs ms (by simpa using hl) (fun j v m h1 h2=>h (j+1) v m h1 h2))
 |[],_::_,hl,_=>by simp at hl
 |_::_,[],hl,_=>by simp at hl
theorem Rl.len{vs:List Value}{ms:List MV}(h:Rl Rr vs ms):vs.length=ms.length:=by
 induction h with
 |nil=>rfl
 |cons _ _ ih=>simp[ih]
theorem Rl.at{vs:List Value}{ms:List MV}(h:Rl Rr vs ms):∀(j:Nat) (v:Value) (m:MV),vs[j]?=some v->ms[j]?=some m->Rr v m:=by
 induction h with
 |nil=>intro j v m h;simp at h
 |cons h _ ih=>
  intro j v m h1 h2;cases j with
  |zero=>simp at h1 h2;rw[<-h1,<-h2];exact h
  |succ j=>exact ih j v m (by simpa using h1) (by simpa using h2)
theorem Rl.mono{vs:List Value}{ms:List MV}(h:Rl Rr vs ms)(hm:∀v m,Rr v m->Rr' v m):Rl Rr' vs ms:=by
 induction h with
 |nil=>exact .nil
 |cons h _ ih=>exact .cons (hm _ _ h) ih
theorem Rl.append{vs vs':List Value}{ms ms':List MV}(h:Rl Rr vs ms)(h':Rl Rr vs' ms'):Rl Rr (vs++vs') (ms++ms'):=by
 induction h with
 |nil=>exact h'
 |cons h _ ih=>exact .cons h ih
theorem Rl.get{vs:List Value}{ms:List MV}(h:Rl Rr vs ms){j:Nat}{m:MV}(hj:ms[j]?=some m):∃v,vs[j]?=some v/\Rr v m:=by
 have hl:=h.len;have:j<ms.length:=(jm.1 hj).1;have hv:vs[j]?=some (vs[j]'(by omega)):=jj (by omega)
 exact⟨_,hv,h.at j _ m hv hj⟩
theorem Rl.set{vs:List Value}{ms:List MV}(h:Rl Rr vs ms){v:Value}{m:MV}(hv:Rr v m)(j:Nat):Rl Rr (vs.set j v) (ms.set j m):=by
 induction h generalizing j with
 |nil=>exact .nil
 |cons h t ih=>cases j with
  |zero=>exact .cons hv t
  |succ j=>exact .cons h (ih j)
def qF(r:List Value)(c:Nat):List Value->List Value
 |[]=>r
 |v::vs=>qF (r.set c v) (c+1) vs
theorem Y9{vs:List Value}{ms:List MV}(h:Rl Rr vs ms):∀{rv:List Value} {rm:Row} (c:Nat),Rl Rr rv rm->Rl Rr (qF rv c vs) (BZ rm c ms):=by
 induction h with
 |nil=>intro rv rm c h;exact h
 |cons h _ ih=>intro rv rm c hr;exact ih (c+1) (hr.set h c)
theorem QO:∀(vs r:List Value) (c:Nat),c+vs.length<=r.length->qF r c vs=r.take c++vs++r.drop (c+vs.length)
 |[],r,c,_=>by simp[qF]
 |v::vs,r,c,h=>by
  simp only[jf]at h;rw[qF,QO vs (r.set c v) (c+1) (by simp;omega),list_seg_step r c v vs (by omega)]
  simp only[jf]
end
section
variable {fr:Fr} {g:G} {tmps:Array Value} {w:World}
theorem Later.trans{g1 g2 g3:G}{c1 c2 c3:H->Int}{w1 w2 w3:World}(a:Later g1 g2 c1 c2 w1 w2)(b:Later g2 g3 c2 c3 w2 w3):Later g1 g3 c1 c3 w1 w3 where
 box:=fun h x e=>by
  rcases a.box h x e with e'|e'
  ·exact b.box h x e'
  ·exact .inr (b.dead h e')
 mem:=fun h x c s e=>by
  rcases a.mem h x c s e with e'|⟨hc,e'|⟨hl,x',c',s',e'⟩⟩
  ·exact .inl (b.dead h e')
  ·rcases b.mem h x c s e' with e''|⟨hc',e''|⟨hl,y⟩⟩
   ·exact .inl e''
   ·exact .inr ⟨by omega,.inl e''⟩
   ·exact .inr ⟨by omega,.inr ⟨by omega,y⟩⟩
  ·rcases b.mem h x' c' s' e' with e''|⟨hc',e''|⟨hl',y⟩⟩
   ·exact .inl e''
   ·exact .inr ⟨by omega,.inr ⟨by omega,_,_,_,e''⟩⟩
   ·exact .inr ⟨by omega,.inr ⟨by omega,y⟩⟩
 nil:=fun h e=>by
  rcases a.nil h e with e'|⟨hc,e'|⟨hl,x',c',s',e'⟩⟩
  ·exact .inl (b.dead h e')
  ·rcases b.nil h e' with e''|⟨hc',e''|⟨hl,y⟩⟩
   ·exact .inl e''
   ·exact .inr ⟨by omega,.inl e''⟩
   ·exact .inr ⟨by omega,.inr ⟨by omega,y⟩⟩
  ·rcases b.mem h x' c' s' e' with e''|⟨hc',e''|⟨hl',y⟩⟩
   ·exact .inl e''
   ·exact .inr ⟨by omega,.inr ⟨by omega,_,_,_,e''⟩⟩
   ·exact .inr ⟨by omega,.inr ⟨by omega,y⟩⟩
 dead:=fun h e=>b.dead h (a.dead h e)
 prot:=fun x h=>b.prot x (a.prot x h)
 heap:=fun x h=>(b.heap x (a.prot x h)).trans (a.heap x h)
theorem Froze.trans{fr1 fr2 fr3:Fr}{g1 g2 g3:G}(a:Froze fr1 fr2 g1 g2 tmps w)(b:Froze fr2 fr3 g2 g3 tmps w):Froze fr1 fr3 g1 g3 tmps w:=
 ⟨b.sim,a.later.trans b.later,a.fm.trans b.fm,b.sl.trans a.sl⟩
variable {R:Type} {r:R}
theorem SV.up{g g':G}{c c':H->Int}{w w':World}{v:Value}{m:MV}(h:SV w g.prot v m)(L:Later g g' c c' w w'):SV w' g'.prot v m:=h.mono L.prot L.heap
theorem CP:∀{ms:List MV} {vs:List Value} {fr:Fr} {g:G} {k:List MV->Fr->Option R},nQ ms fr k=some r->Sim fr g tmps w->Rl (RV g (cur fr.ob) w) vs ms->
 ∃ms' fr' g',k ms' fr'=some r/\Froze fr fr' g g' tmps w/\Rl (SV w g'.prot) vs ms'
 |[],_,fr,g,k,h,S,hv=>by cases hv;exact⟨[],fr,g,h,Froze.refl S,.nil⟩
 |m::ms,_,fr,g,k,h,S,hv=>by
  cases hv with
  |cons hm ht=>
   unfold nQ at h;obtain⟨m',fr1,g1,h,F1,sv⟩:=WH h S hm;obtain⟨ms',fr2,g2,h,F2,svs⟩:=CP h F1.sim (ht.mono fun _ _ h=>h.mono F1.later)
   exact⟨_,fr2,g2,h,F1.trans F2,.cons (sv.up F2.later) svs⟩
theorem IX{m:MV}{v:Value}{k:List Row->Option R}(h:fr.rows m k=some r)(S:Sim fr g tmps w)(hv:RV g (cur fr.ob) w v m):
 ∃rows a c,k rows=some r/\v=.slice a rows.length c/\rows.length<=c/\
  ∃(sz:Nat) (vf:Nat->Nat->Value),(∀(i:Nat) (row:Row),rows[i]?=some row->row.length=sz)/\
   (0<rows.length->∃ad:Addr,a=some ad/\ad.spot=none/\∀(i:Nat) (row:Row) (j:Nat) (m:MV),rows[i]?=some row->row[j]?=some m->w.cell? ⟨ad.block,ad.off+(i*sz+j),none⟩=some (vf i j))/\
   (∀(i:Nat) (row:Row) (j:Nat) (m:MV),rows[i]?=some row->row[j]?=some m->SV w g.prot (vf i j) m):=by
 unfold Fr.rows at h;have hmem:∀{hd:H} {n:Int} {x:List Row},RV g (cur fr.ob) w v (.ref hd n)->n=nrows x->cur fr.ob hd=nrows x->(g.rho hd=.nil/\x=[]\/∃b cap sz arr ty,g.rho hd=.mem b cap sz/\w.heap[b]?=some (.cells arr ty (0,0))/\x.length<=cap/\iC w g.prot arr sz x)->
  k x=some r->∃rows a c,k rows=some r/\v=.slice a rows.length c/\rows.length<=c/\
  ∃(sz:Nat) (vf:Nat->Nat->Value),(∀(i:Nat) (row:Row),rows[i]?=some row->row.length=sz)/\
   (0<rows.length->∃ad:Addr,a=some ad/\ad.spot=none/\∀(i:Nat) (row:Row) (j:Nat) (m:MV),rows[i]?=some row->row[j]?=some m->w.cell? ⟨ad.block,ad.off+(i*sz+j),none⟩=some (vf i j))/\
   (∀(i:Nat) (row:Row) (j:Nat) (m:MV),rows[i]?=some row->row[j]?=some m->SV w g.prot (vf i j) m):=by
  intro hd n x hv hn hc ho h;rcases ho with⟨e,ex⟩|⟨b,cap,sz,arr,ty,e,hh,hle,hr⟩
  ·subst ex;obtain⟨a0,ev⟩:=tN hv e (by rw[hc];exact hn)
   refine⟨[],a0,0,h,ev,kg _,0,fun _ _=>undef,fun i row h=>by simp at h,fun h=>by simp at h,fun i row j m h=>by simp at h⟩
  ·have ev:=yG hv e (by rw[hc];exact hn)
   have e1:n.toNat=x.length:=by rw[hn];unfold nrows;simp
   rw[e1]at ev;refine⟨x,_,cap,h,ev,hle,sz,fun i j=>arr.getD (i*sz+j) undef,fun i row h=>(hr i row h).1,fun _=>⟨⟨b,0,none⟩,rfl,rfl,fun i row j m h1 h2=>?_⟩,fun i row j m h1 h2=>?_⟩
   ·obtain⟨u,hu,_⟩:=(hr i row h1).2 j m h2;rw[lM hh];simp[hu,ql]
   ·obtain⟨u,hu,hs⟩:=(hr i row h1).2 j m h2;show SV w g.prot (arr.getD (i*sz+j) undef) m;rw[ql,hu];exact hs
 split at h
 ·cases rv_sl hv with
  |sl sz vf hn hc hrow had hsv=>
   subst hn;exact⟨_,_,_,h,rfl,hc,sz,vf,hrow,fun h0=>let⟨ad,e,hs,_,hcell⟩:=had h0;⟨ad,e,hs,hcell⟩,hsv⟩
 ·cases hv with
  |sv h=>cases h
  |nils=>exact⟨[],none,0,h,rfl,kg _,0,fun _ _=>undef,fun i row h=>by simp at h,fun h=>by simp at h,fun i row j m h=>by simp at h⟩
 ·split at h
  ·rename_i x e;rcases br_some h with⟨en,h⟩|⟨_,h⟩
   ·refine hmem hv (iEq_true en) (by unfold cur;unfold Fr.obj at e;rw[e]) ?_ h
    rcases obj_of S.o e (by simp)with y|⟨b,cap,sz,arr,ty,e,hh,_,_,hle,hr⟩
    ·exact .inl y
    ·exact .inr ⟨b,cap,sz,arr,ty,e,hh,hle,hr⟩
   ·simp at h
  ·rename_i x e;rcases br_some h with⟨en,h⟩|⟨_,h⟩
   ·refine hmem hv (iEq_true en) (by unfold cur;unfold Fr.obj at e;rw[e]) ?_ h
    rcases obj_of S.o e (by simp)with y|⟨b,cap,sz,arr,ty,e,hh,_,_,hle,hr⟩
    ·exact .inl y
    ·exact .inr ⟨b,cap,sz,arr,ty,e,hh,hle,hr⟩
   ·simp at h
  ·simp at h
 ·simp at h
end
end Kw
namespace Kw
open Go
variable [Gl]
section
variable {P:Program} {R:Type} {r:R} {k:Fr->Option R} {fr:Fr} {g:G} {a:Act} {w:World} {o:Oper} {Q:Exit->Act->World->Prop}
theorem ZA{m:MV}{v:Value}{k:Option R}(h:fr.live m k=some r)(S:Sim fr g a.tmps w)(hv:RV g (cur fr.ob) w v m):k=some r/\
 (∀hh off,m=.ptr hh off->∃b,g.rho hh=.box b)/\(∀hh n i c,m=.ptrE hh n i c->n=cur fr.ob hh/\∃b cap s,g.rho hh=.mem b cap s):=by
 unfold Fr.live at h;have he:∀{hh:H} {n i:Int} {c:Nat} {x:List Row},RV g (cur fr.ob) w v (.ptrE hh n i c)->iEq n (nrows x)=true->(fr.obj hh=.rows x\/fr.obj hh=.froz x)->n=cur fr.ob hh/\∃b cap s,g.rho hh=.mem b cap s:=by
  intro hh n i c x hv en e;have hc:n=cur fr.ob hh:=by
   unfold cur;unfold Fr.obj at e;rcases e with e|e<;>rw[e]<;>exact iEq_true en
  refine⟨hc,?_⟩;cases hv with
  |sv h=>cases h
  |ptrE e'=>exact⟨_,_,_,e'⟩
  |ptrEN _ _ hz=>exact absurd hc hz
  |deadE e'=>
   rcases e with e|e
   ·rcases obj_of S.o e (by simp)with⟨y,_⟩|⟨_,_,_,_,_,y,_⟩<;>rw[e']at y<;>cases y
   ·rcases obj_of S.o e (by simp)with⟨y,_⟩|⟨_,_,_,_,_,y,_⟩<;>rw[e']at y<;>cases y
 split at h
 ·split at h
  ·rename_i hh off cs e;obtain⟨b,_,_,eb,_⟩:=obj_of S.o e (by simp)
   exact⟨h,fun _ _ e=>by cases e;exact⟨b,eb⟩,fun _ _ _ _ e=>by cases e⟩
  ·simp at h
 ·split at h
  ·rename_i x e;rcases br_some h with⟨en,h⟩|⟨_,h⟩
   ·exact⟨h,fun _ _ e=>by(cases e),fun _ _ _ _ e'=>by(cases e';exact he hv en (.inl e))⟩
   ·simp at h
  ·rename_i x e;rcases br_some h with⟨en,h⟩|⟨_,h⟩
   ·exact⟨h,fun _ _ e=>by(cases e),fun _ _ _ _ e'=>by(cases e';exact he hv en (.inr e))⟩
   ·simp at h
  ·simp at h
 ·rename_i h1 h2;exact⟨h,fun hh off e=>absurd e (h1 hh off),fun hh n i c e=>absurd e (h2 hh n i c)⟩
theorem s_nilCheck{x:Operand}(ho:o.op=.nilCheck x)(h:fr.live (aL fr x) (match aL fr x with| .ptr h o'=>k (fr.finish o.dst (.ptr h o'))| .fn g c=>k (fr.finish o.dst (.fn g c))| .ptrE h n i c=>k (fr.finish o.dst (.ptrE h n i c))| .ptrS r c=>k (fr.finish o.dst (.ptrS r c))|_=>none)=some r)
 (S:Sim fr g a.tmps w):
 o.upon P a (iD r k g w a) Q ((execOp a.eval o).run P w):=by
 have hx:=bF S x;obtain⟨h,hd,he⟩:=ZA h S hx;split at h
 ·rename_i hh off ex;obtain⟨b,e⟩:=hd hh off ex;rw[ex]at hx;have ev:=GC hx e;refine aS (v:=a.eval x) ?_ h S hx (Fm.refl _ _);unfold execOp;rw[ho];generalize a.eval=ρ at*;simp[ev]
 ·rename_i gg c ex;rw[ex]at hx;obtain⟨vs,ev,_⟩:=af0 hx;refine aS (v:=a.eval x) ?_ h S hx (Fm.refl _ _);unfold execOp;rw[ho];generalize a.eval=ρ at*;simp[ev]
 ·rename_i hh n i c ex;obtain⟨en,b,cap,s,e⟩:=he hh n i c ex;rw[ex]at hx;have ev:=IV hx e en;refine aS (v:=a.eval x) ?_ h S hx (Fm.refl _ _);unfold execOp;rw[ho];generalize a.eval=ρ at*;simp[ev]
 ·rename_i row c ex;rw[ex]at hx;obtain⟨ad,vf,ev,_⟩:=QL hx;refine aS (v:=a.eval x) ?_ h S hx (Fm.refl _ _);unfold execOp;rw[ho];generalize a.eval=ρ at*;simp[ev]
 ·simp at h
theorem nH{t e:TypeId}(h:wR P t=some e):P.underlying t=some (.slice e)/\∃f,P.info? e=some f:=by
 unfold wR at h;split at h
 ·rename_i e' hu;split at h
  ·rename_i f hf;cases h;exact⟨hu,f,hf⟩
  ·simp at h
 ·simp at h
theorem CA{t:TypeId}{f:Nat}{p:Nat×TypeId}(h:rP P t f=some p):∃(fs:Array Field) (x:Field),P.underlying t=some (.struct fs)/\fs[f]?=some x/\p=(x.offset,x.type):=by
 unfold rP at h;split at h
 ·rename_i fs e;split at h
  ·rename_i x ex;exact⟨fs,x,e,ex,by simpa using h.symm⟩
  ·simp at h
 ·simp at h
theorem ab4{t:TypeId}(h:tsize P t≠0):∃i,P.info? t=some i:=by
 unfold tsize at h;split at h
 ·rename_i i e;exact⟨i,e⟩
 ·simp at h
theorem J7{f:Field}{b off:Nat}(h:tsize P f.type≠0):(fieldPlace ⟨b,off,none⟩ f).run P w=.ok ⟨b,off+f.offset,none⟩ w:=by
 obtain⟨i,hi⟩:=ab4 h;unfold fieldPlace;simp[n6 hi,h,OP]
theorem s_fieldAddr{t:TypeId}{x:Operand}{f:Nat}(ho:o.op=.fieldAddr t x f)(h:(bnd (rP P t f) fun p=>if tsize P p.2=0 then none else fr.live (aL fr x) (match aL fr x with
 | .ptr h o'=>k (fr.finish o.dst (.ptr h (o'+p.1)))
 | .ptrS row c=>k (fr.finish o.dst (.ptrS row (c+p.1)))
 | .ptrE h n i c=>k (fr.finish o.dst (.ptrE h n i (c+p.1)))
 |_=>none))=some r)
 (S:Sim fr g a.tmps w):
 o.upon P a (iD r k g w a) Q ((execOp a.eval o).run P w):=by
 have hx:=bF S x;obtain⟨p,hp,h⟩:=aF h;obtain⟨fs,fl,hu,hf,ep⟩:=CA hp;subst ep;split at h
 ·simp at h
 rename_i hz;obtain⟨h,hd,he⟩:=ZA h S hx;have hrun:∀b off,a.eval x=.pointer (some ⟨b,off,none⟩)->(execOp a.eval o).run P w=.ok (.value (.pointer (some ⟨b,off+fl.offset,none⟩))) w:=by
  intro b off e;unfold execOp;rw[ho];generalize a.eval=ρ at*;simp[e,Instr.fieldAt,run_und hu,hf,Instr.sureAddr,J7 hz]
 split at h
 ·rename_i hh off ex;obtain⟨b,e⟩:=hd hh off ex;rw[ex]at hx;have ev:=GC hx e;exact aS (hrun b off ev) h S (.ptr e) (Fm.refl _ _)
 ·rename_i row c ex;rw[ex]at hx;obtain⟨ad,vf,ev,hp,hc,hs⟩:=QL hx;have:=hrun _ _ ev;rw[Jj]at this;exact aS this h S (.ptrS (ad:=⟨ad.block,ad.off,none⟩) vf hp rfl hc hs) (Fm.refl _ _)
 ·rename_i hh n i c ex;obtain⟨en,b,cap,s,e⟩:=he hh n i c ex;rw[ex]at hx;have ev:=IV hx e en;have:=hrun _ _ ev;rw[Jj]at this;exact aS this h S (.ptrE e (by rw[en];exact jz _) (fun _=>rfl) rfl) (Fm.refl _ _)
 ·simp at h
end
end Kw
namespace Kw
open Go
variable [Gl]
section
variable {P:Program} {R:Type} {r:R} {k:Fr->Option R} {fr:Fr} {g:G} {a:Act} {w:World} {o:Oper} {Q:Exit->Act->World->Prop}
theorem af3{t:TypeId}(hk:okT P t=true){vs:Array Value}{off:Nat}(hl:off+tsize P t<=vs.size):
 (part t vs off).run P w=.ok (if isAgg P t then .agg ((List.range (tsize P t)).map fun j=>vs.getD (off+j) undef).toArray else vs.getD (off+0) undef) w:=by
 obtain⟨⟨d,hu⟩,h1,_⟩:=oW hk;obtain⟨i,hi⟩:=DN hu;unfold part;simp only[Sem.run_bind,AV hu,Result.andThen_ok];cases e:isAgg P t with
 |true=>
  simp only[n6 hi,ju,Result.andThen_ok,Sem.run_bind,Sem.run_pure]
  congr 2
  apply Array.ext
  ·simp;omega
  ·intro j h2 h3;simp at h2 h3;simp;rw[kq (by omega)];rfl
 |false=>
  have:=h1 e;simp only[qd,qr];rw[ql,kq (show off+0<vs.size by omega),kq (show off<vs.size by omega)]
  simp
theorem s_field{t:TypeId}{x:Operand}{f:Nat}(ho:o.op=.field t x f)(h:(bnd (rP P t f) fun p=>(match aL fr x with
 | .agg cs=>if okT P p.2&&Nat.ble (p.1+tsize P p.2) cs.length then k (fr.finish o.dst (MX P p.2 ((cs.drop p.1).take (tsize P p.2))))else none
 |_=>none))=some r) (S:Sim fr g a.tmps w):
 o.upon P a (iD r k g w a) Q ((execOp a.eval o).run P w):=by
 have hx:=bF S x;obtain⟨p,hp,h⟩:=aF h;obtain⟨fs,fl,hu,hf,ep⟩:=CA hp;subst ep;split at h
 ·rename_i cs ex;split at h
  ·rename_i hc;simp only[jg,Nat.ble_eq]at hc;obtain⟨hk,hl⟩:=hc;rw[ex]at hx;obtain⟨vs,ev,hs,hr⟩:=yF hx;refine aS ?_ h S (DQ hk (by simp;omega) (fun j=>vs.getD (fl.offset+j) undef) (fun j m hj=>?_)) (Fm.refl _ _)
   ·unfold execOp;rw[ho];generalize a.eval=ρ at*;simp only[ev,Instr.field,Sem.run_bind,run_und hu,Result.andThen_ok,hf,asAgg];simp only[Sem.run_pure,Result.andThen_ok];rw[af3 hk (by omega)];simp
   ·have hj':j<tsize P fl.type:=by
     have:=(jm.1 hj).1;simp at this;omega
    rw[qp hj',wy]at hj;exact hr (fl.offset+j) _ m (by rw[ql,kq (by omega)];simp) hj
  ·simp at h
 ·simp at h
theorem OU{sz:Nat}{rows:List Row}{n:Int}{row:Row}(h:kF sz rows n=some row):0<=n/\rows[n.toNat]?=some row/\row.length=sz:=by
 unfold kF at h;split at h
 ·rename_i h0;split at h
  ·rename_i x e;split at h
   ·rename_i hl;cases h;exact⟨h0,e,hl⟩
   ·simp at h
  ·simp at h
 ·simp at h
theorem HA{t e:TypeId}{x i:Operand}(ho:o.op=.indexAddr t x i)(hu:P.underlying t=some (.slice e))(he:∃f,P.info? e=some f){ρ:Operand->Value}{b off len c:Nat}{kd:IntKind}{n:Int}
 (hx:ρ x=.slice (some ⟨b,off,none⟩) len c) (hi:ρ i=.int kd n) (h0:0<=n) (hn:n<len):
 (execOp ρ o).run P w=.ok (.value (.pointer (some ⟨b,off+n.toNat*tsize P e,none⟩))) w:=by
 obtain⟨f,hf⟩:=he;unfold execOp;rw[ho];simp[hx,hi,Instr.indexAt,asIntOf,run_und hu,h0,hn,n6 hf,OP]
theorem s_indexAddr{t:TypeId}{x i:Operand}(ho:o.op=.indexAddr t x i)(h:(match aL fr i,aL fr x with
 | .int _ n,.sl rows=>bnd (wR P t) fun e=>bnd (kF (tsize P e) rows n) fun row=>k (fr.finish o.dst (.ptrS row 0))
 | .int _ n,.ref h m=>bnd (wR P t) fun e=>fr.rows (.ref h m) fun rows=>bnd (kF (tsize P e) rows n) fun _=>k (fr.finish o.dst (.ptrE h m n 0))
 |_,_=>none)=some r) (S:Sim fr g a.tmps w):
 o.upon P a (iD r k g w a) Q ((execOp a.eval o).run P w):=by
 have hx:=bF S x;have hy:=bF S i;split at h
 ·rename_i kd n rows ei ex;rw[ex]at hx;rw[ei]at hy;have hy:=jR hy;obtain⟨e,he,h⟩:=aF h;obtain⟨row,hrow,h⟩:=aF h;obtain⟨h0,hr,hl⟩:=OU hrow;obtain⟨hu,hi⟩:=nH he;have hlt:=(jm.1 hr).1;have hsv:=rv_sl hx;generalize hv:a.eval x=v at hsv;cases hsv with
  |sl sz vf hn hc hrow had hsv=>
   have hsz:=hrow _ _ hr;rw[hl]at hsz;obtain⟨ad,e1,hsp,hp,hcell⟩:=had (by omega)
   subst e1;have e2:ad=⟨ad.block,ad.off,none⟩:=by cases ad;simp at hsp;subst hsp;rfl
   rw[e2]at hv;refine aS (HA ho hu hi hv hy h0 (by omega)) h S ?_ (Fm.refl _ _)
   refine .ptrS (ad:=⟨ad.block,ad.off+n.toNat*tsize P e,none⟩) (c:=0) (vf n.toNat) hp rfl (fun j m hj=>?_) (fun j m hj=>hsv _ _ j m hr hj)
   rw[Jj,hsz];exact hcell _ _ j m hr hj
 ·rename_i kd n hd m ei ex;rw[ex]at hx;rw[ei]at hy;have hy:=jR hy;obtain⟨e,he,h⟩:=aF h;obtain⟨hu,hi⟩:=nH he;have key:∀rows:List Row,cur fr.ob hd=nrows rows->(g.rho hd=.nil/\rows=[]\/∃b cap sz arr ty,g.rho hd=.mem b cap sz/\w.heap[b]?=some (.cells arr ty (0,0))/\rows.length<=cap/\iC w g.prot arr sz rows)->
   (br (iEq m (nrows rows)) (bnd (kF (tsize P e) rows n) fun _=>k (fr.finish o.dst (.ptrE hd m n 0))) none)=some r->
   o.upon P a (iD r k g w a) Q ((execOp a.eval o).run P w):=by
   intro rows hcur hob h;rcases br_some h with⟨en,h⟩|⟨_,h⟩
   case inr=>simp at h
   have hm:m=cur fr.ob hd:=by rw[hcur];exact iEq_true en
   obtain⟨row,hrow,h⟩:=aF h;obtain⟨h0,hr,hl⟩:=OU hrow;have hlt:=(jm.1 hr).1;rcases hob with⟨_,e⟩|⟨b,cap,sz,arr,ty,eg,hh,hle,hrr⟩
   ·subst e;simp at hr
   ·have hsz:=(hrr _ _ hr).1;rw[hl]at hsz;have ev:=yG hx eg hm;have e1:m.toNat=rows.length:=by rw[iEq_true en];unfold nrows;simp
    rw[e1]at ev;refine aS (HA ho hu hi ev hy h0 (by omega)) h S (.ptrE eg (by rw[hm];exact jz _) (fun _=>?_) rfl) (Fm.refl _ _)
    rw[hsz];simp
  unfold Fr.rows at h;simp only at h;split at h
  ·rename_i rows er;refine key rows (by unfold cur;unfold Fr.obj at er;rw[er]) ?_ h
   rcases obj_of S.o er (by simp)with x|⟨b,cap,sz,arr,ty,e,hh,_,_,hle,hrr⟩
   ·exact .inl x
   ·exact .inr ⟨b,cap,sz,arr,ty,e,hh,hle,hrr⟩
  ·rename_i rows er;refine key rows (by unfold cur;unfold Fr.obj at er;rw[er]) ?_ h
   rcases obj_of S.o er (by simp)with x|⟨b,cap,sz,arr,ty,e,hh,_,_,hle,hrr⟩
   ·exact .inl x
   ·exact .inr ⟨b,cap,sz,arr,ty,e,hh,hle,hrr⟩
  ·simp at h
 ·simp at h
end
end Kw
namespace Kw
open Go
variable [Gl]
section
variable {P:Program} {R:Type} {r:R} {k:Fr->Option R} {fr:Fr} {g:G} {a:Act} {w:World} {o:Oper} {Q:Exit->Act->World->Prop}
theorem eQ{x y:Bool}(h:d5 x y=true):x=true/\y=true:=by simpa [d5]using h
theorem mL{x y:Int}(h:iLe x y=true):x<=y:=by simpa [iLe]using h
theorem af4{x y:Int}(h:iLt x y=true):x<y:=by simpa [iLt]using h
theorem s_convert{src dst:TypeId}{x:Operand}(ho:o.op=.convert src dst x)(h:(match P.underlying src,P.underlying dst,aL fr x with
 |some _,some (.int kd),.int _ n=>k (fr.finish o.dst (.int kd (nX kd n)))
 |some _,some .string,.str s=>k (fr.finish o.dst (.str s))
 |some _,some .string,.int _ n=>br (d5 (iLe 0 n) (iLt n 128)) (k (fr.finish o.dst (.str (aaZ n)))) none
 |some (.slice e),some .string,m=>if AQ P e then fr.rows m fun rows=>bnd (tI rows) fun s=>k (fr.finish o.dst (.str s))else none
 |_,_,_=>none)=some r) (S:Sim fr g a.tmps w):
 o.upon P a (iD r k g w a) Q ((execOp a.eval o).run P w):=by
 have hx:=bF S x;split at h
 ·rename_i d kd kd' n e1 e2 ex;rw[ex]at hx;have hx:=jR hx;refine aS (v:=.int kd (kd.wrap n)) ?_ h S (.sv (.int _ _)) (Fm.refl _ _);unfold execOp;rw[ho];generalize a.eval=ρ at*;simp[hx,convert,run_und e1,run_und e2,Conv.intToInt]
 ·rename_i d s e1 e2 ex;rw[ex]at hx;have hx:=oJ hx;refine aS (v:=.string s) ?_ h S (.sv (.str _)) (Fm.refl _ _);unfold execOp;rw[ho];generalize a.eval=ρ at*;simp[hx,convert,run_und e1,run_und e2]
 ·rename_i d kd n e1 e2 ex;rw[ex]at hx;have hx:=jR hx;rcases br_some h with⟨hc,h⟩|⟨_,h⟩
  ·obtain⟨h0,h1⟩:=eQ hc;have h0:=mL h0;have h1:=af4 h1;refine aS (v:=.string (aaZ n)) ?_ h S (.sv (.str _)) (Fm.refl _ _);have hen:Utf8.encode n=aaZ n:=by
    unfold Utf8.encode Utf8.valid aaZ;have a1:(decide (0<=n)&&decide (n<55296))=true:=by simp;omega
    have a2:n.toNat<128:=by omega
    simp[a1,a2]
   unfold execOp;rw[ho];generalize a.eval=ρ at*;simp[hx,convert,run_und e1,run_und e2,Conv.intToString,hen]
  ·simp at h
 ·rename_i m e e1 e2 _ _;split at h
  ·rename_i hb;have hbt:P.underlying e=some (.int .u8):=by unfold AQ at hb;split at hb<;>simp_all
   obtain⟨rows,ad,c,h,ev,hle,sz,vf,hrow,had,hsv⟩:=IX h S hx;obtain⟨s,hs,h⟩:=aF h;unfold tI at hs;obtain⟨bs,hbs,hs⟩:=aF hs;cases hs;have hrb:∀(rows:List Row) (bs:List UInt8),rowsBytes1 rows=some bs->bs.length=rows.length/\∀(i:Nat) (row:Row),rows[i]?=some row->∃n:Int,row=[.int .u8 n]/\bs[i]?=some n.toNat.toUInt8:=by
    intro rows;induction rows with
    |nil=>intro bs h;simp[rowsBytes1]at h;subst h;exact⟨rfl,fun i row h=>by simp at h⟩
    |cons row rows ih=>
     intro bs h;unfold rowsBytes1 at h;split at h
     ·rename_i h';simp at h'
     ·rename_i n rest h';cases h';obtain⟨t,ht,h⟩:=aF h;cases h;obtain⟨hl,hi⟩:=ih t ht;refine⟨by simp[hl],fun i row h=>?_⟩
      cases i with
      |zero=>simp at h;exact⟨n,h.symm,rfl⟩
      |succ i=>exact hi i row (by simpa using h)
     ·simp at h
   obtain⟨hbl,hbi⟩:=hrb rows bs hbs;refine aS (v:=.string ⟨bs.toArray⟩) ?_ h S (.sv (.str _)) (Fm.refl _ _);unfold execOp;rw[ho];generalize a.eval=ρ at*;simp only[Sem.run_bind];rw[ev,run_convert_bytes_string w src dst e ad _ _ e1 hbt e2];by_cases h0:rows.length=0
   ·have:rows=[]:=ym h0;subst this;have:bs=[]:=ym hbl;subst this;cases ad with
    |none=>simp[Conv.bytesToString];rfl
    |some ad=>
     rw[run_bytesToString w ad _ c [] (by simp[loadCells,loadCellsFrom])]
     simp;rfl
   ·obtain⟨ad',e3,hsp,hcell⟩:=had (by omega)
    subst e3;have e4:ad'=⟨ad'.block,ad'.off,none⟩:=by cases ad';simp at hsp;subst hsp;rfl
    have hone:sz=1:=by
     have h1:rows[0]?=some (rows[0]'(by omega)):=jj (by omega)
     obtain⟨n,hn,_⟩:=hbi 0 _ h1;have:=hrow 0 _ h1;rw[hn]at this;simpa using this.symm
    subst hone;have hv:∀i,i<rows.length->∃n:Int,vf i 0=.int .u8 n/\bs[i]?=some n.toNat.toUInt8/\w.cell? ⟨ad'.block,ad'.off+i,none⟩=some (vf i 0):=by
     intro i hi;have h1:rows[i]?=some (rows[i]'hi):=jj hi;obtain⟨n,hn,hb⟩:=hbi i _ h1;rw[hn]at h1;have:=hsv i _ 0 _ h1 rfl;refine⟨n,?_,hb,by simpa using hcell i _ 0 _ h1 rfl⟩
     generalize vf i 0=z at this;cases this;rfl
    have hld:(loadCells ad' rows.length).run P w=.ok ((List.range rows.length).map fun i=>vf i 0).toArray w:=by
     rw[e4];exact OS (fun i=>vf i 0) (fun j hj=>(hv j hj).choose_spec.2.2)
    have hns:(List.range rows.length).map (fun i=>vf i 0)=((List.range rows.length).map fun i=>(match vf i 0 with| .int _ n=>n|_=>0)).map (Value.int .u8):=by
     rw[List.map_map];apply Jb;intro i hi;obtain⟨n,hn,_⟩:=hv i (v5.1 hi);simp[hn]
    rw[hns]at hld;rw[run_bytesToString w ad' _ c _ hld];have hfold:∀(ns:List Int) (s:ByteArray),ns.foldl (fun r n=>r.push (UInt8.ofNat n.toNat)) s=⟨s.data++(ns.map fun n=>n.toNat.toUInt8).toArray⟩:=by
     intro ns;induction ns with
     |nil=>intro s;simp
     |cons n ns ih=>intro s;rw[List.foldl_cons,ih];simp[ByteArray.push]
    rw[hfold];have hbs':bs=((List.range rows.length).map fun i=>(match vf i 0 with| .int _ n=>n|_=>0)).map fun n=>n.toNat.toUInt8:=by
     apply List.ext_getElem?;intro i;by_cases hi:i<rows.length
     ·obtain⟨n,hn,hb,_⟩:=hv i hi;rw[hb];simp[hi,hn]
     ·rw[qo (by omega),qo (by simp;omega)]
    rw[hbs'];simp
  ·simp at h
 ·simp at h
end
end Kw
namespace Kw
open Go
variable [Gl]
theorem DR{fr:Fr}{g:G}{tmps:Array Value}{w w':World}(S:Sim fr g tmps w)(h:H)(o:Obj)(x:GH)
 (hx:x≠ .absent) (himp:(∀i,h≠ .imp i)\/x=g.rho h)
 (hL:((∃b,g.rho h=.box b)/\x=g.rho h)\/(x=g.rho h/\cur fr.ob h<=cur (put fr.ob h o) h/\((∃b c s,g.rho h=.mem b c s)\/g.rho h=.nil))\/(((∃b c s,g.rho h=.mem b c s)\/g.rho h=.nil)/\(∃b c s,x=.mem b c s)/\cur fr.ob h<cur (put fr.ob h o) h))
 (hheap:∀b,b<w.heap.size->(g.rho h).blk≠some b->w'.heap[b]?=w.heap[b]?)
 (hnp:∀b,(g.rho h).blk=some b->¬g.prot b)
 (hsz:w.heap.size<=w'.heap.size)
 (hblk:∀b,x.blk=some b->(g.rho h).blk=some b\/(w.heap.size<=b/\b<w'.heap.size))
 (hos:w'.os=w.os) (htp:w'.tape=w.tape) (hout:w'.output=w.output)
 (ho:∀g',g'=g.setR h x->Later g g' (cur fr.ob) (cur (put fr.ob h o)) w w'->IC g' (cur (put fr.ob h o)) w' h o):
 Sim (fr.setObj h o) (g.setR h x) tmps w'/\Fm g w (g.setR h x) w'/\Later g (g.setR h x) (cur fr.ob) (cur (put fr.ob h o)) w w':=by
 have L:Later g (g.setR h x) (cur fr.ob) (cur (put fr.ob h o)) w w':=by
  refine⟨fun h' b e=>?_,fun h' b c s e=>?_,fun h' e=>?_,fun h' e=>?_,fun b hp=>hp,fun b hp=>hheap b (S.o.plt b hp) (fun e=>hnp b e hp)⟩
  ·by_cases eh:h'=h
   ·subst eh;rw[aI];rcases hL with⟨_,hL⟩|⟨hL,_,⟨_,_,_,e'⟩|e'⟩|⟨⟨_,_,_,e'⟩|e',_⟩
    ·exact .inl (hL.trans e)
    all_goals (rw[e]at e';cases e')
   ·exact .inl ((bB eh).trans e)
  ·by_cases eh:h'=h
   ·subst eh;rw[aI];rcases hL with⟨⟨_,e'⟩,hL⟩|⟨hL,hc,_⟩|⟨_,hm,hc⟩
    ·rw[e]at e';cases e'
    ·exact .inr ⟨hc,.inl (hL.trans e)⟩
    ·exact .inr ⟨by omega,.inr ⟨hc,hm⟩⟩
   ·exact .inr ⟨by rw[dC eh];exact jz _,.inl ((bB eh).trans e)⟩
  ·by_cases eh:h'=h
   ·subst eh;rw[aI];rcases hL with⟨⟨_,e'⟩,hL⟩|⟨hL,hc,_⟩|⟨_,hm,hc⟩
    ·rw[e]at e';cases e'
    ·exact .inr ⟨hc,.inl (hL.trans e)⟩
    ·exact .inr ⟨by omega,.inr ⟨hc,hm⟩⟩
   ·exact .inr ⟨by rw[dC eh];exact jz _,.inl ((bB eh).trans e)⟩
  ·by_cases eh:h'=h
   ·subst eh;rcases hL with⟨⟨_,e'⟩,_⟩|⟨_,_,⟨_,_,_,e'⟩|e'⟩|⟨⟨_,_,_,e'⟩|e',_⟩<;>(rw[e]at e';cases e')
   ·exact(bB eh).trans e
 refine⟨S.later L (S.o.upd h o (fun h' e=>bB e) (by rw[aI];exact hx) L (fun h' b ne e=>hheap b (S.o.lt h' b e) (fun e'=>ne (S.o.inj h' h b e e'))) (fun _ _ _ _ hn=>hn)
  (ho _ rfl L) (fun h' b ne e e'=>?_) (fun b e=>?_) hsz (fun b hp=>v3 (S.o.plt b hp) hsz)),?_,L⟩
 ·rw[aI]at e;rcases hblk b e with y|⟨y,_⟩
  ·exact ne (S.o.inj h' h b e' y)
  ·have:=S.o.lt h' b e';omega
 ·rw[aI]at e;rcases hblk b e with y|⟨_,y⟩
  ·exact v3 (S.o.lt h b y) hsz
  ·exact y
 ·refine⟨hos,htp,hout,hsz,fun b hb hn=>hheap b hb (hn h),fun h' b e=>?_,fun _ hp=>hp,fun _ hp=>.inl hp,fun i=>?_⟩
  by_cases eh:h'=h
  ·subst eh;rw[aI]at e;rcases hblk b e with y|⟨y,_⟩
   ·exact .inr ⟨_,y⟩
   ·exact .inl y
  ·rw[bB eh]at e;exact .inr ⟨h',e⟩
  ·by_cases eh:(H.imp i)=h
   ·rw[eh,aI];rcases himp with e|e
    ·exact absurd eh.symm (e i)
    ·exact .inl e
   ·exact .inl (bB eh)
theorem lT{g:G}{h:H}{x:GH}(e:x=g.rho h):g.setR h x=g:=by
 subst e;unfold G.setR
 congr 1
 funext h'
 by_cases e:h'=h
 ·subst e;simp
 ·simp[e]
section
variable {P:Program} {R:Type} {r:R} {k:Fr->Option R} {fr:Fr} {g:G} {a:Act} {w:World} {o:Oper} {Q:Exit->Act->World->Prop}
theorem ajX{p:Nat->Prop}{v:Value}{m:MV}(h:SV w p v m):v.oneCell'=true/\v.cells= #[v]:=by cases h<;>exact⟨rfl,rfl⟩
theorem WL{cu:H->Int}{v:Value}{m:MV}(hx:RV g cu w v m)(hone:(cellsOf m).all MV.one=true):Rl (RV g cu w) v.cells.toList (cellsOf m)/\∀u∈v.cells.toList,u.oneCell'=true:=by
 have hm:m.one=true\/∃cs,m=.agg cs:=by
  unfold cellsOf at hone;split at hone
  ·exact .inr ⟨_,rfl⟩
  ·exact .inl (by simpa using hone)
 obtain⟨hl,hr⟩:=J4 hx hm;have hrl:Rl (RV g cu w) v.cells.toList (cellsOf m):=n7 _ _ (by simpa using hl) (fun j v' m' h1 h2=>hr j v' m' (by simpa using h1) h2)
 refine⟨hrl,fun u hu=>?_⟩
 obtain⟨j,hj,e⟩:=qh.1 hu;have hj':j< (cellsOf m).length:=by rw[<-hrl.len];exact hj
 have h1:v.cells.toList[j]?=some u:=by rw[jj hj,e]
 have h2:(cellsOf m)[j]?=some ((cellsOf m)[j]'hj'):=jj hj';exact((hrl.at j u _ h1 h2).one (kj.1 hone _ (jt hj'))).1
theorem HB{t:TypeId}{x y:Operand}{b off:Nat}{v:Value}{arr:Array Value}{ty:TypeId}(ho:o.op=.store t x y)(hk:okT P t=true){ρ:Operand->Value}(hx:ρ x=.pointer (some ⟨b,off,none⟩))(hy:ρ y=v)(hs:v.cells.size=tsize P t)
 (hh:w.heap[b]?=some (.cells arr ty (0,0))) (hl:off+v.cells.size<=arr.size) (h1:∀u∈v.cells.toList,u.oneCell'=true):
 (execOp ρ o).run P w=.ok .skip (w.setRow b (qF arr.toList off v.cells.toList).toArray):=by
 obtain⟨⟨d,hu⟩,_,_⟩:=oW hk;obtain⟨i,hi⟩:=DN hu;have hst:=run_storeCells_at (P:=P) b off ty v.cells.toList 0 arr w hh (by simpa using hl) h1
 rw[QO _ _ _ (by simpa using hl)]
 simp only[yv]at hst;unfold execOp;rw[ho];simp[hx,hy,Instr.storeAt,Instr.sureAddr,storeVar,n6 hi,hs,hst]
theorem ajY{hd:H}{off:Nat}{cs:List MV}(S:Sim fr g a.tmps w)(ec:fr.obj hd=.cells cs){v:Value}(hv:RV g (cur fr.ob) w v (.ptr hd off)):
 ∃b arr ty,v=.pointer (some ⟨b,off,none⟩)/\g.rho hd=.box b/\w.heap[b]?=some (.cells arr ty (0,0))/\¬g.prot b/\Rl (RV g (cur fr.ob) w) arr.toList cs:=by
 obtain⟨b,arr,ty,e,hh,hn,hs,hr⟩:=obj_of S.o ec (by simp)
 exact⟨b,arr,ty,GC hv e,e,hh,hn,n7 _ _ (by simpa using hs) (fun j v m h1 h2=>hr j v m (by simpa using h1) h2)⟩
end
end Kw
namespace Kw
open Go
variable [Gl]
section
variable {P:Program} {R:Type} {r:R} {k:Fr->Option R} {fr:Fr} {g:G} {a:Act} {w:World} {o:Oper} {Q:Exit->Act->World->Prop}
theorem DS:∀(vs r:List Value) (c:Nat),(qF r c vs).length=r.length
 |[],_,_=>rfl
 |v::vs,r,c=>by rw[qF,DS vs];simp
theorem yH:∀(vs r:List Value) (c j:Nat),(j<c\/c+vs.length<=j)->(qF r c vs)[j]?=r[j]?
 |[],_,_,_,_=>rfl
 |v::vs,r,c,j,h=>by
  rw[qF,yH vs _ _ j (by simp at h;omega),Ja]
  have:¬c=j:=by simp at h;omega
  simp[this]
theorem J8:∀(vs r:List Value) (c i:Nat) (v:Value),vs[i]?=some v->c+vs.length<=r.length->(qF r c vs)[c+i]?=some v
 |[],_,_,_,_,h,_=>by simp at h
 |u::vs,r,c,i,v,h,hl=>by
  simp only[jf]at hl;cases i with
  |zero=>
   simp at h;subst h;rw[qF,yH vs _ _ _ (by omega),Ja]
   simp;omega
  |succ i=>
   rw[qF,show c+(i+1)=c+1+i by omega]
   exact J8 vs _ _ i v (by simpa using h) (by simp;omega)
theorem DT:∀(ms:List MV) (r:Row) (c:Nat),(BZ r c ms).length=r.length
 |[],_,_=>rfl
 |m::ms,r,c=>by rw[BZ,DT ms];simp
theorem J9:∀(ms:List MV) (r:Row) (c j:Nat),(j<c\/c+ms.length<=j)->(BZ r c ms)[j]?=r[j]?
 |[],_,_,_,_=>rfl
 |m::ms,r,c,j,h=>by
  rw[BZ,J9 ms _ _ j (by simp at h;omega),Ja]
  have:¬c=j:=by simp at h;omega
  simp[this]
theorem S7:∀(ms:List MV) (r:Row) (c i:Nat) (m:MV),(BZ r c ms)[c+i]?=some m->i<ms.length->ms[i]?=some m
 |[],_,_,_,_,_,h=>by simp at h
 |u::ms,r,c,i,m,h,hl=>by
  cases i with
  |zero=>
   rw[BZ,J9 ms _ _ _ (by omega),Ja]at h
   simp at h;simp[h.2]
  |succ i=>
   rw[BZ,show c+(i+1)=c+1+i by omega]at h
   simpa using S7 ms _ _ i m h (by simpa using hl)
theorem s_store{E:Env}(hP:E.P=P){t:TypeId}{x y:Operand}(ho:o.op=.store t x y)(h:oU E t (aL fr x) (aL fr y) fr (fun fr=>k (fr.finish o.dst .undef))=some r)(S:Sim fr g a.tmps w):
 o.upon P a (iD r k g w a) Q ((execOp a.eval o).run P w):=by
 subst hP;have hx:=bF S x;have hy:=bF S y;unfold oU at h;split at h
 case isFalse=>simp at h
 rename_i hc;simp only[jg,beq_iff_eq]at hc;obtain⟨hk,hl,hone⟩:=hc;obtain⟨hrl,h1⟩:=WL hy hone;have hsize:(a.eval y).cells.size=tsize E.P t:=by have:=hrl.len;simp at this;omega
 split at h
 ·rename_i hd off ex;rw[ex]at hx;split at h
  ·rename_i cs ec;split at h
   ·rename_i hle;obtain⟨b,arr,ty,ev,e,hh,hn,hr⟩:=ajY S ec hx;have hal:arr.size=cs.length:=by have:=hr.len;simpa using this
    have hcur:cur (put fr.ob hd (.cells (BZ cs off (cellsOf (aL fr y))))) hd=cur fr.ob hd:=by
     unfold cur;rw[iW];unfold Fr.obj at ec;rw[ec]
    obtain⟨S',F,L⟩:=DR (w':=w.setRow b (qF arr.toList off (a.eval y).cells.toList).toArray) S hd (.cells (BZ cs off (cellsOf (aL fr y)))) (g.rho hd) (by rw[e];simp) (.inr rfl) (.inl ⟨⟨b,e⟩,rfl⟩)
     (fun b' hb hne=>setRow_other _ _ _ _ (fun eb=>hne (by rw[e,eb];rfl))) (fun b' e'=>by rw[e]at e';cases e';exact hn) (by simp) (fun b' e'=>.inl e') rfl rfl rfl
     (fun g' eg L=>by
      rw[lT rfl]at eg;subst eg;refine⟨b,_,ty,e,setRow_heap _ _ _ _ _ _ hh,hn,by simp[DS,DT,hal],fun j v m h1 h2=>?_⟩
      exact((Y9 hrl off hr).at j v m (by simpa using h1) h2).mono L)
    rw[lT rfl]at S' F;exact QI (m:=.undef) (HB ho hk ev rfl hsize hh (by omega) h1) h S' F
   ·simp at h
  ·simp at h
 ·rename_i hd n i c ex;rw[ex]at hx;obtain⟨ms,fr1,g1,h,Fz,svs⟩:=CP h S hrl;have S1:=Fz.sim;have hx1:=hx.mono Fz.later;split at h
  ·rename_i rows er;rcases br_some h with⟨en,h⟩|⟨_,h⟩
   case inr=>simp at h
   obtain⟨row,hrow,h⟩:=aF h;rcases br_some h with⟨el,h⟩|⟨_,h⟩
   case inr=>simp at h
   have hcl:((c+ms.length:Nat):Int)<=(row.length:Int):=mL el;unfold setRow at h;have hn:n=cur fr1.ob hd:=by unfold cur;unfold Fr.obj at er;rw[er];exact iEq_true en
   unfold iP at hrow;split at hrow
   case isFalse=>simp at hrow
   rename_i hi0;rcases obj_of S1.o er (by simp)with⟨_,e⟩|⟨b,cap,sz,arr,ty,e,hh,hnp,⟨hs,hz⟩,hle,hrr⟩
   ·subst e;simp at hrow
   have ev:=IV hx1 e hn;obtain⟨hlen,hcells⟩:=hrr i.toNat row hrow;have hi:i.toNat<rows.length:=(jm.1 hrow).1;have hml:ms.length=(a.eval y).cells.toList.length:=svs.len.symm;have hbound:i.toNat*sz+c+(a.eval y).cells.size<=arr.size:=by
    have:(i.toNat+1)*sz<=cap*sz:=qn _ (by omega)
    rw[yl]at this;simp at hml;omega
   have hcur:cur (put fr1.ob hd (.rows (setR rows i (BZ row c ms)))) hd=cur fr1.ob hd:=by
    unfold cur;rw[iW];unfold Fr.obj at er;rw[er];unfold nrows Kw.setR;simp
   obtain⟨S',F,L⟩:=DR (w':=w.setRow b (qF arr.toList (i.toNat*sz+c) (a.eval y).cells.toList).toArray) S1 hd (.rows (setR rows i (BZ row c ms))) (g1.rho hd) (by rw[e];simp) (.inr rfl) (.inr (.inl ⟨rfl,by rw[hcur];exact jz _,.inl ⟨b,cap,sz,e⟩⟩))
    (fun b' hb hne=>setRow_other _ _ _ _ (fun eb=>hne (by rw[e,eb];rfl))) (fun b' e'=>by rw[e]at e';cases e';exact hnp) (by simp) (fun b' e'=>.inl e') rfl rfl rfl
    (fun g' eg L=>by
     rw[lT rfl]at eg;subst eg;refine .inr ⟨b,cap,sz,_,ty,e,setRow_heap _ _ _ _ _ _ hh,hnp,⟨by simp[DS,hs],fun e'=>?_⟩,?_,fun q row' hq=>?_⟩
     ·have:rows=[]:=by
       unfold Kw.setR at e';simpa using e'
      exact hz this
     ·unfold Kw.setR;simp;exact hle
     ·unfold Kw.setR at hq;rw[Ja]at hq;by_cases eq:i.toNat=q
      ·subst eq;simp[hi]at hq;subst hq;refine⟨by rw[DT];exact hlen,fun j m hj=>?_⟩
       by_cases hjc:j<c\/c+ms.length<=j
       ·rw[J9 _ _ _ _ hjc]at hj;obtain⟨v,hv,hsv⟩:=hcells j m hj;refine⟨v,?_,hsv.up L⟩;rw[qv,yH _ _ _ _ (by simp at hml⊢;omega)]
        simpa using hv
       ·have:j=c+(j-c):=by omega
        rw[this]at hj;have hm:=S7 ms row c (j-c) m hj (by omega)
        obtain⟨v,hv,hsv⟩:=svs.get hm;refine⟨v,?_,hsv.up L⟩;rw[qv,show i.toNat*sz+j=i.toNat*sz+c+(j-c) by omega]
        exact J8 _ _ _ _ _ hv (by simpa using hbound)
      ·simp[eq]at hq;obtain⟨hl',hc'⟩:=hrr q row' hq;refine⟨hl',fun j m hj=>?_⟩
       obtain⟨v,hv,hsv⟩:=hc' j m hj;refine⟨v,?_,hsv.up L⟩;have hjs:j<sz:=by rw[<-hl'];exact(jm.1 hj).1
       rw[qv,yH _ _ _ _ ?_]
       ·simpa using hv
       ·simp at hml⊢;rcases Nat.lt_or_gt_of_ne eq with hlt|hgt
        ·have:(i.toNat+1)*sz<=q*sz:=qn _ hlt;rw[yl]at this;omega
        ·have:(q+1)*sz<=i.toNat*sz:=qn _ hgt;rw[yl]at this;omega)
   rw[lT rfl]at S' F;exact QI (m:=.undef) (HB ho hk ev rfl hsize hh hbound h1) h S' (Fz.fm.trans F)
  ·simp at h
 ·simp at h
end
end Kw
namespace Kw
open Go
variable [Gl]
section
variable {P:Program} {R:Type} {r:R} {fr:Fr} {g:G} {tmps:Array Value} {w:World}
theorem DU{sz:Nat}{rows:List Row}:okR sz rows=true↔∀row∈rows,row.length=sz:=by simp[okR]
theorem af5{w':World}(S:Sim fr g tmps w)(hw:w'.heap=w.heap):Sim fr g tmps w':=by
 have L:Later g g (cur fr.ob) (cur fr.ob) w w':=⟨fun _ _ e=>.inl e,fun _ _ _ _ e=>.inr ⟨jz _,.inl e⟩,fun _ e=>.inr ⟨jz _,.inl e⟩,fun _ e=>e,fun _ h=>h,fun _ _=>by rw[hw]⟩
 exact⟨S.size,fun t v m h1 h2=>(S.slot t v m h1 h2).mono L,S.o.keys,S.o.abs,fun h o hm=>(S.o.obj h o hm).mono L rfl (fun _ _=>by rw[hw]) (fun _ _ hn=>hn),S.o.inj,fun h b e=>by rw[hw];exact S.o.lt h b e,fun b e=>by rw[hw];exact S.o.plt b e,S.o.gl.mono (fun _ h=>h) (fun _ _=>by rw[hw])⟩
theorem aq4{m:MV}{v:Value}{kk:List Row->Option R}(h:fr.rows m kk=some r)(S:Sim fr g tmps w)(hv:RV g (cur fr.ob) w v m)(size:Nat){tx e':TypeId}(hk:P.underlying tx=some (.slice e')):
 ∃xs,kk xs=some r/\(okR size xs=true->∃news,Src P size tx v xs.length news w/\iC w g.prot news.toArray size xs):=by
 obtain⟨rows,ad,c,h,ev,hle,sz,vf,hrow,had,hsv⟩:=IX h S hv;refine⟨rows,h,fun hok=>?_⟩
 subst ev;by_cases h0:rows.length=0
 ·have:rows=[]:=ym h0;subst this;refine⟨[],?_,fun i row h=>by simp at h⟩
  cases ad with
  |none=>exact Src.ofNil w hk c
  |some ad=>exact Src.ofSlice w hk ad 0 c [] (by simp) (fun j u h=>by simp at h) (fun u h=>by cases h)
 ·obtain⟨ad',e3,hsp,hcell⟩:=had (by omega)
  subst e3;have e4:ad'=⟨ad'.block,ad'.off,none⟩:=by cases ad';simp at hsp;subst hsp;rfl
  have hsz:sz=size:=by
   have h1:rows[0]?=some (rows[0]'(by omega)):=jj (by omega)
   rw[<-hrow 0 _ h1];exact DU.1 hok _ (jt _)
  subst hsz;have hget:∀q,q<rows.length*sz->∃i j row m,q=i*sz+j/\j<sz/\rows[i]?=some row/\row[j]?=some m:=by
   intro q hq;have hpos:0<sz:=Nat.pos_of_ne_zero (fun e=>by subst e;simp at hq)
   have hi:q/sz<rows.length:=(Nat.div_lt_iff_lt_mul hpos).2 hq;have h1:rows[q/sz]?=some (rows[q/sz]'hi):=jj hi;have hl:=hrow _ _ h1;have hj:=Nat.mod_lt q hpos;exact⟨q/sz,q%sz,_,_,by rw[yq];exact(Nat.div_add_mod q sz).symm,hj,h1,jj (by omega)⟩
  have hdm:∀i j,j<sz->(i*sz+j)/sz=i/\(i*sz+j)%sz=j:=by
   intro i j hj;have hpos:0<sz:=by omega
   refine⟨?_,?_⟩
   ·rw[yq,Nat.mul_add_div hpos,Nat.div_eq_of_lt hj,yv]
   ·rw[yq,Nat.mul_add_mod,Nat.mod_eq_of_lt hj]
  refine⟨(List.range (rows.length*sz)).map fun q=>vf (q/sz) (q%sz),Src.ofSlice w hk ad' _ c _ (by simp) (fun q u h=>?_) (fun u hu=>?_),fun i row hi=>⟨hrow i row hi,fun j m hj=>?_⟩⟩
  ·have hq:q<rows.length*sz:=by
    have:=(jm.1 h).1;simpa using this
   obtain⟨i,j,row,m,e,hj,h1,h2⟩:=hget q hq;obtain⟨d1,d2⟩:=hdm i j hj;rw[jo,yn hq]at h;simp only[yi,Option.some.injEq]at h;rw[<-h,e,d1,d2,e4,OP];exact hcell i row j m h1 h2
  ·obtain⟨q,hq,rfl⟩:=qf.1 hu;obtain⟨i,j,row,m,e,hj,h1,h2⟩:=hget q (v5.1 hq);obtain⟨d1,d2⟩:=hdm i j hj;rw[e,d1,d2];exact(ajX (hsv i row j m h1 h2)).1
  ·have hjs:j<sz:=by rw[<-hrow i row hi];exact(jm.1 hj).1
   obtain⟨d1,d2⟩:=hdm i j hjs;have hil:=(jm.1 hi).1;have hlt:i*sz+j<rows.length*sz:=by
    have:(i+1)*sz<=rows.length*sz:=qn _ (by omega)
    rw[yl]at this;omega
   refine⟨vf i j,?_,hsv i row j m hi hj⟩;rw[qv,jo,yn hlt];simp[d1,d2]
theorem ajZ{s:ByteArray}{tx:TypeId}(hk:P.underlying tx=some .string){p:Nat->Prop}:∃news,Src P 1 tx (.string s) (pG s).length news w/\iC w p news.toArray 1 (pG s):=by
 have hl:(pG s).length=s.size:=by unfold pG;rw[kf,Array.length_toList];rfl
 refine⟨byteCells s,by rw[hl];exact Src.ofString w hk s,fun i row h=>?_⟩
 unfold pG at h;rw[jo]at h;obtain⟨b,hb,e⟩:=kw.1 h;subst e;refine⟨rfl,fun j m hj=>?_⟩
 cases j with
 |zero=>
  simp at hj;subst hj;refine⟨.int .u8 b.toNat,?_,.int _ _⟩;rw[qv];unfold byteCells;rw[jo];simp at hb;simp[hb]
 |succ j=>simp at hj
theorem S8{p:Nat->Prop}{arr:Array Value}{sz:Nat}{rows xs:List Row}{a1:List Value}{n1:List Value}(h1:iC w p a1.toArray sz rows)(h2:iC w p n1.toArray sz xs)
 (ha:∀q,q<rows.length*sz->arr[q]?=a1[q]?) (hn:∀q,q<n1.length->arr[rows.length*sz+q]?=n1[q]?):iC w p arr sz (rows++xs):=by
 intro i row hi;by_cases hr:i<rows.length
 ·rw[yd hr]at hi;obtain⟨hl,hc⟩:=h1 i row hi;refine⟨hl,fun j m hj=>?_⟩
  obtain⟨v,hv,hs⟩:=hc j m hj;have hjs:j<sz:=by rw[<-hl];exact(jm.1 hj).1
  have:(i+1)*sz<=rows.length*sz:=qn _ hr;rw[yl]at this;exact⟨v,by rw[ha _ (by omega)];simpa using hv,hs⟩
 ·rw[yr (by omega)]at hi
  obtain⟨hl,hc⟩:=h2 _ row hi;refine⟨hl,fun j m hj=>?_⟩
  obtain⟨v,hv,hs⟩:=hc j m hj;rw[qv]at hv;have:=hn ((i-rows.length)*sz+j) (jm.1 hv).1;refine⟨v,?_,hs⟩;rw[<-hv,<-this]
  congr 1
  have e:i=rows.length+(i-rows.length):=by omega
  rw[e,yl];have:rows.length+(i-rows.length)-rows.length=i-rows.length:=by omega
  rw[this];omega
end
end Kw
namespace Kw
open Go
variable [Gl]
theorem KA{P:Program}{w:World}{b off:Nat}{arr:Array Value}{ty:TypeId}(vs:List Value)(hh:w.heap[b]?=some (.cells arr ty (0,0)))(hl:off+vs.length<=arr.size)(h1:∀u∈vs,u.oneCell'=true):
 (storeCells ⟨b,off,none⟩ vs).run P w=.ok () (w.setRow b (qF arr.toList off vs).toArray):=by
 have hst:=run_storeCells_at (P:=P) b off ty vs 0 arr w hh (by simpa using hl) h1
 rw[QO _ _ _ (by simpa using hl)]
 simpa using hst
theorem M0{P:Program}{w:World}{t tx ty e:TypeId}{i:TypeInfo}(ht:P.underlying t=some (.slice e))(hi:P.info? e=some i){b sLen sCap:Nat}{x:Value}{n:Nat}{news:List Value}(hs:Src P i.size tx x n news w)
 {arr:Array Value} {ty':TypeId} (hh:w.heap[b]?=some (.cells arr ty' (0,0))) (hroom:sLen+n<=sCap) (hl:sLen*i.size+news.length<=arr.size):
 (Builtin.append_ #[t,tx] ty #[.slice (some ⟨b,0,none⟩) sLen sCap,x]).run P w=.ok (.slice (some ⟨b,0,none⟩) (sLen+n) sCap) (w.setRow b (qF arr.toList (sLen*i.size) news).toArray):=by
 have hst:=KA (P:=P) news hh hl hs.one;rcases hs.kind with⟨e',hk⟩|hk<;>simp[Builtin.append_,run_underlying ht,run_underlying hk,Go.sizeOf,typeInfo,hi,hs.len,hroom,hs.cells,Addr.add_lit,hst]
section
variable {P:Program} {R:Type} {r:R} {fr:Fr} {g:G} {tmps:Array Value} {w:World}
theorem sA{ob:Ob}{h:H}{rows:List Row}:cur (put ob h (.rows rows)) h=nrows rows:=by unfold cur;rw[iW]
theorem ab5{a b:List Row}:nrows (a++b)=nrows a+nrows b:=by unfold nrows;simp
theorem grown{t tx ty e:TypeId}(ht:P.underlying t=some (.slice e))(hk:okT P e=true)(hb:1<=bT P e){base:Option Addr}{rows xs:List Row}{cap:Nat}{olds news:List Value}{xv:Value}
 (hold:(Builtin.firstCells (tsize P e) rows.length (.slice base rows.length cap)).run P w.drew=.ok olds.toArray w.drew) (hol:olds.length=rows.length*tsize P e)
 (hs:Src P (tsize P e) tx xv xs.length news w) (hg:cap<rows.length+xs.length) (hf:eL (nrows rows) (nrows xs) (bT P e)=true)
 (hr1:iC w g.prot olds.toArray (tsize P e) rows) (hr2:iC w g.prot news.toArray (tsize P e) xs):
 ∃(arr:Array Value) (c:Nat),(Builtin.append_ #[t,tx] ty #[.slice base rows.length cap,xv]).run P w=.ok (.slice (some ⟨w.heap.size,0,none⟩) (rows.length+xs.length) c) {w.drew with heap:=w.heap.push (.cells arr e (0,0))}/\
  arr.size=c*tsize P e/\rows.length+xs.length<=c/\iC w g.prot arr (tsize P e) (rows++xs):=by
 obtain⟨i,z,hi,hz,hzc,hzs⟩:=cG hk;have hsz:i.size=tsize P e:=by unfold tsize;rw[hi]
 have hby:i.bytes=bT P e:=by unfold bT;rw[hi]
 have hfit:(rows.length+xs.length)*bT P e<=2^46:=by
  unfold eL nrows at hf;simp only[jb]at hf;have:(((rows.length+xs.length)*bT P e:Nat):Int)<=((2^46:Nat):Int):=by
   rw[Int.natCast_mul,Int.natCast_add];exact hf
  exact Int.ofNat_le.1 this
 have h46:rows.length+xs.length<=2^46:=kb (Nat.le_mul_of_pos_right _ hb) hfit;have hrun:=run_append_grow_src (P:=P) w t tx ty e i z ht hi hz base rows.length cap olds (by rw[hsz];exact hold) xv xs.length news (by rw[hsz];exact hs) hg (by omega) (by rw[hby];exact growslice_fits hg (by omega))
 refine⟨_,_,hrun,?_,grownCap_ge _ _ _ _,?_⟩
 ·have hge:=grownCap_ge w (rows.length+xs.length) cap e;simp only[Array.size_append,List.size_toArray,jl,size_zeroCells,hol,hs.newsLen,hzs];rw[<-yl,<-yl]
  congr 1;omega
 ·refine S8 hr1 hr2 (fun q hq=>?_) (fun q hq=>?_)
  ·rw[Jd (by simp;omega),qv,yd (by omega)]
  ·rw[Jd (by simp;omega),qv,<-hol,yr (by omega)]
   congr 1;omega
theorem HC{E:Env}(hP:E.P=P){d:Nat}{m:MV}{v:Value}{t tx ty e:TypeId}{xs:List Row}{xv:Value}{kk:MV->Fr->Option R}(h:iV E d m e xs fr kk=some r)(S:Sim fr g tmps w)(hv:RV g (cur fr.ob) w v m)
 (ht:P.underlying t=some (.slice e)) (hsrc:okR (tsize P e) xs=true->∃news,Src P (tsize P e) tx xv xs.length news w/\iC w g.prot news.toArray (tsize P e) xs):
 ∃v' w' m' fr' g',(Builtin.append_ #[t,tx] ty #[v,xv]).run P w=.ok v' w'/\kk m' fr'=some r/\Sim fr' g' tmps w'/\Fm g w g' w'/\RV g' (cur fr'.ob) w' v' m':=by
 subst hP;unfold iV at h;split at h
 case isFalse=>simp at h
 rename_i hkb;simp only[jg,Nat.ble_eq]at hkb;obtain⟨hk,hb⟩:=hkb;obtain⟨i,z,hi,hz,hzc,hzs⟩:=cG hk;have hsz:i.size=tsize E.P e:=by unfold tsize;rw[hi]
 split at h
 ·rename_i hd n;split at h
  ·simp at h
  rename_i hnI;have hni:∀i,hd≠ .imp i:=fun i e=>by rw[e]at hnI;simp[Y1]at hnI
  split at h
  ·rename_i rows er;rcases br_some h with⟨hc,h⟩|⟨_,h⟩
   case inr=>simp at h
   obtain⟨hn,hc⟩:=eQ hc;obtain⟨hro,hc⟩:=eQ hc;obtain⟨hxo,hf⟩:=eQ hc;obtain⟨news,hs,hr2⟩:=hsrc hxo;have hcurn:cur fr.ob hd=nrows rows:=by unfold cur;unfold Fr.obj at er;rw[er]
   have hn':n=cur fr.ob hd:=by rw[hcurn];exact iEq_true hn
   have hnn:n.toNat=rows.length:=by rw[iEq_true hn];unfold nrows;simp
   have hrv:∀(x:GH) (c:Nat) (b:Nat),x=.mem b c (tsize E.P e)->RV (g.setR hd x) (cur (put fr.ob hd (.rows (rows++xs)))) w (.slice (some ⟨b,0,none⟩) (rows.length+xs.length) c) (.ref hd (nrows (cB rows xs)))->True:=fun _ _ _ _ _=>trivial
   by_cases hxs:xs=[]
   ·subst hxs;have hnews:news=[]:=by
     have:=hs.newsLen;simpa using this
    subst hnews;have hcat:cB rows []=rows:=by unfold cB;simp
    rw[hcat]at h;have hrun:∃base cap,v=.slice base rows.length cap/\rows.length<=cap:=by
     rcases obj_of S.o er (by simp)with⟨eg,ex⟩|⟨b,cap,sz,arr,ty,eg,hh,hnp,_,hle,_⟩
     ·subst ex;obtain⟨a0,ev⟩:=tN hv eg hn';exact⟨a0,0,ev,kg _⟩
     ·have:=yG hv eg hn';rw[hnn]at this;exact⟨_,cap,this,hle⟩
    obtain⟨base,cap,ev,hle⟩:=hrun;have hput:fr.setObj hd (.rows rows)=fr:=by
     have hm:∀ob:Ob,look ob hd=.rows rows->put ob hd (.rows rows)=ob:=by
      intro ob;induction ob with
      |nil=>intro h;simp[look]at h
      |cons p ob ih=>
       intro h;obtain⟨h',o'⟩:=p;unfold look at h;unfold put;by_cases e:h'=hd
       ·rw[je e]at h⊢;rw[h,e]
       ·rw[jc e]at h⊢;rw[ih h]
     unfold Fr.setObj;rw[hm _ er]
    rw[hput]at h;refine⟨v,w,_,fr,g,?_,h,S,Fm.refl _ _,?_⟩
    ·rw[ev];exact run_append_nothing w t tx ty e i ht hi base rows.length cap hle xv (by rw[hsz];exact hs)
    ·rw[<-iEq_true hn];exact hv
   ·have hpos:0<xs.length:=wu.2 hxs;have hlt:cur fr.ob hd<cur (put fr.ob hd (.rows (cB rows xs))) hd:=by
     rw[sA,hcurn];unfold cB;rw[ab5];unfold nrows;omega
    have hval:(nrows (cB rows xs)).toNat=rows.length+xs.length:=by unfold cB nrows;simp;omega
    have growth:∀(base:Option Addr) (cap:Nat) (olds:List Value),v=.slice base rows.length cap->cap<rows.length+xs.length->
     (Builtin.firstCells (tsize E.P e) rows.length (.slice base rows.length cap)).run E.P w.drew=.ok olds.toArray w.drew->olds.length=rows.length*tsize E.P e->iC w g.prot olds.toArray (tsize E.P e) rows->
     ((∃b c s,g.rho hd=.mem b c s)\/g.rho hd=.nil)->(∀b,(g.rho hd).blk=some b->¬g.prot b)->
     ∃v' w' m' fr' g',(Builtin.append_ #[t,tx] ty #[v,xv]).run E.P w=.ok v' w'/\kk m' fr'=some r/\Sim fr' g' tmps w'/\Fm g w g' w'/\RV g' (cur fr'.ob) w' v' m':=by
     intro base cap olds ev hg hold hol hr1 hrho hnp;obtain⟨arr,c,hrun,hsa,hle,hrr⟩:=grown (P:=E.P) (g:=g) (ty:=ty) ht hk hb hold hol hs hg hf hr1 hr2;obtain⟨S',F,L⟩:=DR (w':={w.drew with heap:=w.heap.push (.cells arr e (0,0))}) S hd (.rows (cB rows xs)) (.mem w.heap.size c (tsize E.P e)) (by simp) (.inl hni) (.inr (.inr ⟨hrho,⟨_,_,_,rfl⟩,hlt⟩))
      (fun b hb' _=>by simp only;rw[Array.getElem?_push_lt hb',kq hb']) hnp (by simp) (fun b e=>.inr (by cases e;simp)) rfl rfl rfl
      (fun g' eg L=>by
       subst eg;refine .inr ⟨w.heap.size,c,tsize E.P e,arr,e,aI,by simp,fun hp=>yz _ (S.o.plt _ hp),⟨Nat.le_of_eq hsa.symm,fun e'=>?_⟩,?_,hrr.mono L.prot L.heap⟩
       ·unfold cB at e';simp at e';exact absurd e'.2 hxs
       ·unfold cB;simp;omega)
     refine⟨_,_,_,_,_,by rw[ev];exact hrun,h,S',F,.ref aI ?_ (fun _=>?_) rfl⟩
     ·show _<=cur (put fr.ob hd _) hd;rw[sA];exact jz _
     ·rw[hval]
    rcases obj_of S.o er (by simp)with⟨eg,ex⟩|⟨b,cap,sz,arr,ty',eg,hh,hnp,⟨hsa,hz0⟩,hle,hrr⟩
    ·subst ex;obtain⟨a0,ev⟩:=tN hv eg hn';exact growth a0 0 [] ev (by simp;exact hpos) (by cases a0 with|none=>exact run_firstCells_none _ _ _ _ _|some b=>exact run_firstCells_some _ _ 0 _ _ _ [] (by simp) (fun j u h=>by simp at h)) (by simp) (fun i row h=>by simp at h) (.inr eg) (fun b e=>by rw[eg]at e;cases e)
    ·have ev:=yG hv eg hn';rw[hnn]at ev;have hnp':∀b',(g.rho hd).blk=some b'->¬g.prot b':=fun b' e'=>by rw[eg]at e';cases e';exact hnp
     by_cases hc0:rows=[]/\cap=0
     ·obtain⟨hr0,hcap⟩:=hc0;subst hr0;subst hcap;exact growth (some ⟨b,0,none⟩) 0 [] ev (by simp;exact hpos) (run_firstCells_some _ _ 0 _ _ _ [] (by simp) (fun j u h=>by simp at h)) (by simp) (fun i row h=>by simp at h) (.inl ⟨_,_,_,eg⟩) hnp'
     ·have hsz':sz=tsize E.P e:=by
       by_cases hr0:rows=[]
       ·rcases hz0 hr0 with hcap|⟨hkk,hs4⟩
        ·exact absurd ⟨hr0,hcap⟩ hc0
        ·simp only[hkk,jy,ya,yu,beq_eq_false_iff_ne,not_or,Decidable.not_not]at hnI;rw[hs4];exact hnI.2.symm
       ·have hlen:0<rows.length:=wu.2 hr0;have h1:rows[0]?=some (rows[0]'hlen):=jj hlen;rw[<-(hrr 0 _ h1).1];exact DU.1 hro _ (jt _)
      subst hsz';have hle2:rows.length*tsize E.P e<=arr.size:=kb (qn _ hle) hsa;by_cases hroom:rows.length+xs.length<=cap
      ·have hlb:rows.length*tsize E.P e+news.length<=arr.size:=by
        rw[hs.newsLen,<-yl];exact kb (qn _ hroom) hsa
       have hrun:=M0 (P:=E.P) (ty:=ty) ht hi (by rw[hsz];exact hs) hh hroom (by rw[hsz];exact hlb)
       rw[hsz]at hrun;obtain⟨S',F,L⟩:=DR (w':=w.setRow b (qF arr.toList (rows.length*tsize E.P e) news).toArray) S hd (.rows (cB rows xs)) (g.rho hd) (by rw[eg];simp) (.inr rfl) (.inr (.inl ⟨rfl,by omega,.inl ⟨_,_,_,eg⟩⟩))
        (fun b' hb' hne=>setRow_other _ _ _ _ (fun eb=>hne (by rw[eg,eb];rfl))) hnp' (by simp) (fun b' e'=>.inl e') rfl rfl rfl
        (fun g' eg' L=>by
         rw[lT rfl]at eg';subst eg';refine .inr ⟨b,cap,tsize E.P e,_,ty',eg,setRow_heap _ _ _ _ _ _ hh,hnp,⟨by simp[DS,hsa],fun e'=>?_⟩,?_,?_⟩
         ·unfold cB at e';simp at e';exact absurd e'.2 hxs
         ·unfold cB;simp;exact hroom
         ·refine iC.mono (w:=w) ?_ (fun _ h=>h) L.heap
          unfold cB;refine S8 (a1:=arr.toList) (by simpa using hrr) hr2 (fun q hq=>?_) (fun q hq=>?_)
          ·rw[qv,yH _ _ _ _ (.inl hq)]
          ·rw[qv];have hnq:news[q]?=some (news[q]'hq):=jj hq;rw[hnq];exact J8 _ _ _ _ _ hnq (by simpa using hlb))
       rw[lT rfl]at S' F;refine⟨_,_,_,_,_,by rw[ev];exact hrun,h,S',F,.ref eg ?_ (fun _=>?_) rfl⟩
       ·show _<=cur (put fr.ob hd _) hd;rw[sA];exact jz _
       ·rw[hval]
      ·refine growth (some ⟨b,0,none⟩) cap (arr.toList.take (rows.length*tsize E.P e)) ev (by omega) (run_firstCells_some _ _ _ _ _ _ _ (by simp;omega) (fun j u hj=>?_)) (by simp;omega) ?_ (.inl ⟨_,_,_,eg⟩) hnp'
       ·rw[OP];have:w.drew.cell? ⟨b,0+j,none⟩=w.cell? ⟨b,0+j,none⟩:=oV _ _ rfl;rw[this,lM hh];rw[Jq]at hj;split at hj
        ·simpa using hj
        ·simp at hj
       ·intro q row hq;obtain⟨hl,hc⟩:=hrr q row hq;refine⟨hl,fun j m hj=>?_⟩
        obtain⟨u,hu,hsu⟩:=hc j m hj;refine⟨u,?_,hsu⟩;have hjs:j<tsize E.P e:=by rw[<-hl];exact(jm.1 hj).1
        have hql:=(jm.1 hq).1;have:(q+1)*tsize E.P e<=rows.length*tsize E.P e:=qn _ hql;rw[yl]at this;rw[qv,qp (by omega)]
        simpa using hu
  ·simp at h
 ·rcases br_some h with⟨hc,h⟩|⟨_,h⟩
  case inr=>simp at h
  obtain⟨hxo,hf⟩:=eQ hc;obtain⟨news,hs,hr2⟩:=hsrc hxo;have ev:v=.slice none 0 0:=by
   cases hv with
   |sv h=>cases h
   |nils=>rfl
  subst ev;obtain⟨hfree,h⟩:=iE h;by_cases hxs:xs=[]
  ·subst hxs;have hnews:news=[]:=by
    have:=hs.newsLen;simpa using this
   subst hnews;have habs:g.rho (.loc d 0)=.absent:=(S.o.abs _).2 hfree;have hcur:∀h',g.rho h'≠ .absent->cur (put fr.ob (.loc d 0) (.rows [])) h'=cur fr.ob h':=fun h' hn=>dC (fun e=>hn (e▸habs))
   have ne:∀h',g.rho h'≠ .absent->h'≠(.loc d 0):=fun h' hn e=>hn (e▸habs)
   have L:Later g (g.setR (.loc d 0) .nil) (cur fr.ob) (cur (put fr.ob (.loc d 0) (.rows []))) w w:=
    ⟨fun h' b e=>.inl ((bB (ne h' (by rw[e];simp))).trans e),fun h' b c s e=>.inr ⟨by rw[hcur h' (by rw[e];simp)];exact jz _,.inl ((bB (ne h' (by rw[e];simp))).trans e)⟩,
     fun h' e=>.inr ⟨by rw[hcur h' (by rw[e];simp)];exact jz _,.inl ((bB (ne h' (by rw[e];simp))).trans e)⟩,fun h' e=>(bB (ne h' (by rw[e];simp))).trans e,fun _ h=>h,fun _ _=>rfl⟩
   have S':Sim (fr.setObj (.loc d 0) (.rows [])) (g.setR (.loc d 0) .nil) tmps w:=
    S.later L (S.o.upd _ _ (fun h' e=>bB e) (by rw[aI];simp) L (fun _ _ _ _=>rfl) (fun _ _ _ _ hn=>hn) (.inl ⟨aI,rfl⟩) (fun h' b _ e=>by rw[aI]at e;cases e) (fun b e=>by rw[aI]at e;cases e) (kg _) S.o.plt)
   refine⟨_,w,_,_,_,run_append_nothing w t tx ty e i ht hi none 0 0 (kg _) xv (by rw[hsz];exact hs),h,S',⟨rfl,rfl,rfl,kg _,fun _ _ _=>rfl,fun h' b e=>?_,fun _ hp=>hp,fun _ hp=>.inl hp,fun i=>.inl (bB (by simp))⟩,.refN aI ?_ (fun _=>⟨_,rfl⟩) rfl⟩
   ·by_cases eh:h'=.loc d 0
    ·subst eh;rw[aI]at e;cases e
    ·rw[bB eh]at e;exact .inr ⟨h',e⟩
   ·show _<=cur (put fr.ob _ _) _;rw[sA];exact jz _
  ·have hpos:0<xs.length:=wu.2 hxs;obtain⟨arr,c,hrun,hsa,hle,hrr⟩:=grown (P:=E.P) (g:=g) (ty:=ty) (rows:=[]) (olds:=[]) (cap:=0) (base:=none) ht hk hb (run_firstCells_none _ _ _ _ _) (by simp) hs (by simp;exact hpos) (by simpa [nrows]using hf) (fun i row h=>by simp at h) hr2
   simp only[jk,qx,qg]at hrun hle hrr;have Sd:Sim fr g tmps w.drew:=af5 S rfl;obtain⟨S',F⟩:=IW Sd hfree (.rows xs) (.mem w.heap.size c (tsize E.P e)) (.cells arr e (0,0)) (by simp) (by simp) (fun b e=>by cases e;rfl) (fun g' w' eg ew L=>by
    subst eg;subst ew;refine .inr ⟨w.heap.size,c,tsize E.P e,arr,e,aI,(by show(w.heap.push _)[w.heap.size]?=_;simp),fun hp=>yz _ (S.o.plt _ hp),⟨Nat.le_of_eq hsa.symm,fun e'=>absurd e' hxs⟩,hle,?_⟩
    exact iC.mono (w:=w) hrr (fun _ h=>h) L.heap)
   refine⟨_,_,_,_,_,hrun,h,S',⟨F.os,F.tape,F.output,F.size,F.heap,F.own,F.prot,F.prot',F.imp⟩,.ref aI ?_ (fun _=>?_) rfl⟩
   ·show _<=cur (put fr.ob _ _) _;rw[sA];exact jz _
   ·unfold nrows;simp
 ·simp at h
end
end Kw
namespace Kw
open Go
variable [Gl]
section
variable {P:Program} {R:Type} {r:R} {k:Fr->Option R} {fr:Fr} {g:G} {a:Act} {w:World} {o:Oper} {Q:Exit->Act->World->Prop}
theorem ax1{α:Type}{x:Array α}{a:α}(h:x.toList=[a]):x= #[a]:=by apply Array.ext';simp[h]
theorem ak0{α:Type}{x:Array α}{a b:α}(h:x.toList=[a,b]):x= #[a,b]:=by apply Array.ext';simp[h]
theorem s_append{E:Env}(hP:E.P=P){c:Call}(ho:o.op=.call c)(hc:c.callee=.builtin .append)(h:(match c.argTypes.toList,c.args.toList with
        |[t,tx],[x,y]=>(match wR P t,P.underlying tx with
         |some e,some .string=>(match aL fr y with
          | .str b=>if AQ P e then iV E (o.dst.getD 0) (aL fr x) e (pG b) fr fun m fr=>k (fr.finish o.dst m)else none
          |_=>none)
         |some e,some (.slice _)=>fr.rows (aL fr y) fun xs=>iV E (o.dst.getD 0) (aL fr x) e xs fr fun m fr=>k (fr.finish o.dst m)
         |_,_=>none)
        |_,_=>none)=some r) (S:Sim fr g a.tmps w):o.upon P a (iD r k g w a) Q ((execOp a.eval o).run P w):=by
 split at h
 ·rename_i t tx x y et ea;have et:=ak0 et;have ea:=ak0 ea;have hx:=bF S x;have hy:=bF S y;have hrun:∀v' w',(Builtin.append_ #[t,tx] o.type #[a.eval x,a.eval y]).run P w=.ok v' w'->(execOp a.eval o).run P w=.ok (.value v') w':=by
   intro v' w' hr;unfold execOp;rw[ho];generalize a.eval=ρ at*;simp[resolve,hc,et,ea,invoke,builtin,hr]
  split at h
  ·rename_i e e1 e2;obtain⟨hu,_⟩:=nH e1;split at h
   ·rename_i b ey;split at h
    ·rename_i hb;have hbt:P.underlying e=some (.int .u8):=by unfold AQ at hb;split at hb<;>simp_all
     rw[ey]at hy;have hy:=oJ hy;by_cases h1:tsize P e=1
     ·obtain⟨news,hs,hr⟩:=ajZ (P:=P) (w:=w) (s:=b) e2 (p:=g.prot);obtain⟨v',w',m',fr',g',hr,hk,S',F,hv⟩:=HC (tx:=tx) (ty:=o.type) (xv:=.string b) hP h S hx hu (fun _=>⟨news,by rw[h1];exact hs,by rw[h1];exact hr⟩)
      exact aS (hrun v' w' (by rw[hy];exact hr)) hk S' hv F
     ·
      exfalso;unfold iV at h;rw[hP]at h;split at h
      ·rename_i hk;simp only[jg]at hk;obtain⟨_,h2,_⟩:=oW hk.1;refine h1 (h2 ?_);unfold isAgg;rw[hbt]
      ·simp at h
    ·simp at h
   ·simp at h
  ·rename_i e e' e1 e2;obtain⟨hu,_⟩:=nH e1;obtain⟨xs,h,hsrc⟩:=aq4 h S hy (tsize P e) e2;obtain⟨v',w',m',fr',g',hr,hk,S',F,hv⟩:=HC (tx:=tx) (ty:=o.type) hP h S hx hu hsrc;exact aS (hrun v' w' hr) hk S' hv F
  ·simp at h
 ·simp at h
theorem s_len{c:Call}(ho:o.op=.call c)(hc:c.callee=.builtin .len)(h:(match c.argTypes.toList,c.args.toList with
        |[t],[x]=>(match P.underlying t,aL fr x with
         |some .string,.str s=>k (fr.finish o.dst (.int .i64 (sLen s)))
         |some (.slice _),m=>fr.rows m fun rows=>k (fr.finish o.dst (.int .i64 (nrows rows)))
         |_,_=>none)
        |_,_=>none)=some r) (S:Sim fr g a.tmps w):o.upon P a (iD r k g w a) Q ((execOp a.eval o).run P w):=by
 split at h
 ·rename_i t x et ea;have et:=ax1 et;have ea:=ax1 ea;have hx:=bF S x;have hrun:∀v' w',(Builtin.len_ #[t] o.type #[a.eval x]).run P w=.ok v' w'->(execOp a.eval o).run P w=.ok (.value v') w':=by
   intro v' w' hr;unfold execOp;rw[ho];generalize a.eval=ρ at*;simp[resolve,hc,et,ea,invoke,builtin,hr]
  split at h
  ·rename_i s e1 ex;rw[ex]at hx;have hx:=oJ hx;exact aS (hrun (.int .i64 (sLen s)) w (by rw[hx];simp[Builtin.len_,run_und e1,goInt,sLen])) h S (.sv (.int _ _)) (Fm.refl _ _)
  ·rename_i _ _ e e1;obtain⟨rows,ad,cp,h,ev,_⟩:=IX h S hx;exact aS (hrun (.int .i64 (nrows rows)) w (by rw[ev];simp[Builtin.len_,run_und e1,goInt,nrows])) h S (.sv (.int _ _)) (Fm.refl _ _)
  ·simp at h
 ·simp at h
theorem s_max{c:Call}(ho:o.op=.call c)(hc:c.callee=.builtin .max)(h:(match c.args.toList with
        |[x,y]=>(match aL fr x,aL fr y with
         | .int .i64 a,.int .i64 b=>k (fr.finish o.dst (.int .i64 (IB a b)))
         |_,_=>none)
        |_=>none)=some r) (S:Sim fr g a.tmps w):o.upon P a (iD r k g w a) Q ((execOp a.eval o).run P w):=by
 split at h
 ·rename_i x y ea;have ea:=ak0 ea;have hx:=bF S x;have hy:=bF S y;split at h
  ·rename_i n m ex ey;rw[ex]at hx;rw[ey]at hy;have hx:=jR hx;have hy:=jR hy;refine aS (v:=.int .i64 (IB n m)) ?_ h S (.sv (.int _ _)) (Fm.refl _ _);have:(if n<m then m else n)=IB n m:=by
    unfold IB;by_cases h1:n<m
    ·rw[je h1,jc (by omega)]
    ·rw[jc h1,je (by omega)]
   unfold execOp;rw[ho];generalize a.eval=ρ at*;simp[resolve,hc,ea,invoke,builtin,Builtin.max_,hx,hy,Builtin.max2,this]
  ·simp at h
 ·simp at h
theorem s_min{c:Call}(ho:o.op=.call c)(hc:c.callee=.builtin .min)(h:(match c.args.toList with
        |[x,y]=>(match aL fr x,aL fr y with
         | .int .i64 a,.int .i64 b=>k (fr.finish o.dst (.int .i64 (aeS a b)))
         |_,_=>none)
        |_=>none)=some r) (S:Sim fr g a.tmps w):o.upon P a (iD r k g w a) Q ((execOp a.eval o).run P w):=by
 split at h
 ·rename_i x y ea;have ea:=ak0 ea;have hx:=bF S x;have hy:=bF S y;split at h
  ·rename_i n m ex ey;rw[ex]at hx;rw[ey]at hy;have hx:=jR hx;have hy:=jR hy;refine aS (v:=.int .i64 (aeS n m)) ?_ h S (.sv (.int _ _)) (Fm.refl _ _);have:(if m<n then m else n)=aeS n m:=by
    unfold aeS;by_cases h1:m<n
    ·rw[je h1,jc (by omega)]
    ·rw[jc h1,je (by omega)]
   unfold execOp;rw[ho];generalize a.eval=ρ at*;simp[resolve,hc,ea,invoke,builtin,Builtin.min_,hx,hy,Builtin.min2,this]
  ·simp at h
 ·simp at h
theorem s_makeMap{t:TypeId}(ho:o.op=.makeMap t none)(h:(fr.lay (.loc (o.dst.getD 0) 0) (.map []) fun fr=>k (fr.finish o.dst (.mapr (.loc (o.dst.getD 0) 0))))=some r)(S:Sim fr g a.tmps w):
 o.upon P a (iD r k g w a) Q ((execOp a.eval o).run P w):=by
 obtain⟨hf,h⟩:=iE h;obtain⟨S',F⟩:=IW S hf (.map []) (.box w.heap.size) (.map #[] 0) (by simp) (by simp) (fun b e=>by cases e;rfl) (fun g' w' eg ew L=>by
  subst eg;subst ew;refine⟨w.heap.size, #[],0,aI,by simp,fun hp=>yz _ (S.o.plt _ hp),fun e he=>by simp at he,fun s=>?_⟩
  simp[nG])
 refine aS (v:=.map (some w.heap.size)) ?_ h S' (.mapr aI) F;unfold execOp;rw[ho];simp[Instr.makeMap]
end
end Kw
namespace Kw
open Go
variable [Gl]
section
variable {P:Program} {R:Type} {r:R} {k:Fr->Option R} {fr:Fr} {g:G} {a:Act} {w:World} {o:Oper} {Q:Exit->Act->World->Prop}
theorem OW{x:Value}{y n:Nat}{code:BoundsCode}(h:n<=y)(hx:x=.int .i64 n):(Instr.sliceBound x y code).run P w=.ok n w:=by
 subst hx;simp[Instr.sliceBound,asIntOf,h]
theorem CR{sl:Bool}{len cap:Nat}{lo hi:Option Value}{l h:Nat}(hlo:lo=some (.int .i64 l)\/(lo=none/\l=0))(hhi:hi=some (.int .i64 h)\/(hi=none/\h=len))(h1:l<=h)(h2:h<=cap):
 (Instr.sliceBounds sl len cap lo hi none).run P w=.ok (l,h,cap) w:=by
 unfold Instr.sliceBounds;rcases hlo with hlo|⟨hlo,e1⟩<;>rcases hhi with hhi|⟨hhi,e2⟩<;>subst hlo<;>subst hhi<;>
  (try subst e1)<;>(try subst e2)<;>
  simp[OW h1 rfl,OW h2 rfl]
theorem pA(S:Sim fr g a.tmps w){y:Option Operand}{d n:Int}(h:eI .i64 (jQ fr y d)=some n):
 (y.map a.eval=some (.int .i64 n))\/(y.map a.eval=none/\n=d):=by
 unfold jQ at h;cases y with
 |none=>have:=o9 h;simp at this;exact .inr ⟨rfl,this.symm⟩
 |some y=>
  have hy:=bF S y;have e:=o9 h;simp only at e;rw[e]at hy;exact .inl (by simp[jR hy])
theorem s_slice{t:TypeId}{x:Operand}{lo hi mx:Option Operand}(h:(match P.underlying t,aL fr x,mx with
 |some .string,.str s,none=>
  let l:MV:=jQ fr lo 0
  let h:MV:=jQ fr hi (sLen s)
  bnd (eI .i64 l) fun l=>bnd (eI .i64 h) fun h=>br (d5 (iLe 0 l) (d5 (iLe l h) (iLe h (sLen s)))) (k (fr.finish o.dst (.str (nA s l h)))) none
 |some (.slice e),.sl rows,none=>if(P.info? e).isSome then
  let l:MV:=jQ fr lo 0
  let h:MV:=jQ fr hi (nrows rows)
  bnd (eI .i64 l) fun l=>bnd (eI .i64 h) fun h=>br (d5 (okR (tsize P e) rows) (d5 (iLe 0 l) (d5 (iLe l h) (iLe h (nrows rows))))) (k (fr.finish o.dst (.sl (CM rows l h)))) none else none
 |some (.slice e),.ref hd n,none=>if(P.info? e).isSome then
  fr.rows (.ref hd n) fun rows=>
  let l:MV:=jQ fr lo 0
  let h:MV:=jQ fr hi (nrows rows)
  bnd (eI .i64 l) fun l=>bnd (eI .i64 h) fun h=>br (d5 (iEq l 0) (iEq h (nrows rows))) (k (fr.finish o.dst (.ref hd n))) none else none
 |_,_,_=>none)=some r) (ho:o.op=.slice t x lo hi mx) (S:Sim fr g a.tmps w):o.upon P a (iD r k g w a) Q ((execOp a.eval o).run P w):=by
 have hx:=bF S x;split at h
 ·rename_i s e1 ex;rw[ex]at hx;have hx:=oJ hx;obtain⟨l,hl,h⟩:=aF h;obtain⟨u,hu,h⟩:=aF h;rcases br_some h with⟨hc,h⟩|⟨_,h⟩
  case inr=>simp at h
  obtain⟨c0,hc⟩:=eQ hc;obtain⟨c1,c2⟩:=eQ hc;have c0:=mL c0;have c1:=mL c1;have c2:=mL c2;unfold sLen at c2;have vl:=pA (a:=a) (d:=0) S hl;have vu:=pA (a:=a) (d:=sLen s) S hu;have el:l=((l.toNat:Nat):Int):=by omega
  have eu:u=((u.toNat:Nat):Int):=by omega
  refine aS (v:=.string (nA s l u)) ?_ h S (.sv (.str _)) (Fm.refl _ _);have hb:=CR (P:=P) (w:=w) (sl:=false) (len:=s.size) (cap:=s.size) (lo:=lo.map a.eval) (hi:=hi.map a.eval) (l:=l.toNat) (h:=u.toNat)
   (by rcases vl with v|⟨v,e⟩
       ·exact .inl (by rw[v,<-el])
       ·exact .inr ⟨v,by omega⟩)
   (by rcases vu with v|⟨v,e⟩
       ·exact .inl (by rw[v,<-eu])
       ·exact .inr ⟨v,by unfold sLen at e;omega⟩) (by omega) (by omega)
  unfold execOp;rw[ho];generalize a.eval=ρ at*;simp[hx,Instr.sliceAt,run_und e1,Instr.slice,hb,nA]
 ·rename_i e rows e1 ex;rw[ex]at hx;split at h
  case isFalse=>simp at h
  rename_i hf;obtain⟨f,hf⟩:=v9.1 hf;obtain⟨l,hl,h⟩:=aF h;obtain⟨u,hu,h⟩:=aF h;rcases br_some h with⟨hc,h⟩|⟨_,h⟩
  case inr=>simp at h
  obtain⟨hok,hc⟩:=eQ hc;obtain⟨c0,hc⟩:=eQ hc;obtain⟨c1,c2⟩:=eQ hc;have c0:=mL c0;have c1:=mL c1;have c2:=mL c2;unfold nrows at c2;have vl:=pA (a:=a) (d:=0) S hl;have vu:=pA (a:=a) (d:=nrows rows) S hu;have el:l=((l.toNat:Nat):Int):=by omega
  have eu:u=((u.toNat:Nat):Int):=by omega
  have hs:=rv_sl hx;generalize hv:a.eval x=v at hs;cases hs with
  | @sl ad n c _ sz vf hn hcap hrow had hsv=>
    subst hn;have hb:=CR (P:=P) (w:=w) (sl:=true) (len:=rows.length) (cap:=c) (lo:=lo.map a.eval) (hi:=hi.map a.eval) (l:=l.toNat) (h:=u.toNat)
     (by rcases vl with v|⟨v,e⟩
         ·exact .inl (by rw[v,<-el])
         ·exact .inr ⟨v,by omega⟩)
     (by rcases vu with v|⟨v,e⟩
         ·exact .inl (by rw[v,<-eu])
         ·exact .inr ⟨v,by unfold nrows at e;omega⟩) (by omega) (by omega)
    refine aS (v:=.slice (if c=l.toNat then ad else ad.map (·.add (l.toNat*tsize P e))) (u.toNat-l.toNat) (c-l.toNat)) ?_ h S (.sv ?_) (Fm.refl _ _)
    ·unfold execOp;rw[ho];generalize a.eval=ρ at*;simp[hv,Instr.sliceAt,run_und e1,Instr.slice,hb,n6 hf]
    ·have hsub:∀(i:Nat) (row:Row),(CM rows l u)[i]?=some row->rows[l.toNat+i]?=some row/\l.toNat+i<u.toNat:=by
      intro i row hi;unfold CM at hi;rw[wy,Jq]at hi;split at hi
      ·rename_i hlt;exact⟨hi,hlt⟩
      ·simp at hi
     refine .sl sz (fun i j=>vf (l.toNat+i) j) (by unfold CM;simp;omega) (by omega) (fun i row hi=>hrow _ row (hsub i row hi).1) (fun hpos=>?_) (fun i row j m hi hj=>hsv _ row j m (hsub i row hi).1 hj)
     obtain⟨ad',e3,hsp,hp,hcell⟩:=had (by omega)
     subst e3;have e4:ad'=⟨ad'.block,ad'.off,none⟩:=by cases ad';simp at hsp;subst hsp;rfl
     have hne:¬c=l.toNat:=by omega
     have hsz:sz=tsize P e:=by
      have h1:rows[0]?=some (rows[0]'(by omega)):=jj (by omega)
      rw[<-hrow 0 _ h1];exact DU.1 hok _ (jt _)
     refine⟨⟨ad'.block,ad'.off+l.toNat*sz,none⟩,?_,rfl,hp,fun i row j m hi hj=>?_⟩
     ·rw[jc hne,e4,<-hsz];simp[OP]
     ·have:=hcell _ row j m (hsub i row hi).1 hj;have e5:ad'.off+l.toNat*sz+(i*sz+j)=ad'.off+((l.toNat+i)*sz+j):=by rw[yl];omega
      show w.cell? ⟨ad'.block,ad'.off+l.toNat*sz+(i*sz+j),none⟩=_;rw[e5];exact this
 ·rename_i e hd n e1 ex;rw[ex]at hx;split at h
  case isFalse=>simp at h
  rename_i hf;obtain⟨f,hf⟩:=v9.1 hf;obtain⟨rows,ad,cp,h,ev,hle,_⟩:=IX h S hx;obtain⟨l,hl,h⟩:=aF h;obtain⟨u,hu,h⟩:=aF h;rcases br_some h with⟨hc,h⟩|⟨_,h⟩
  case inr=>simp at h
  obtain⟨c0,c1⟩:=eQ hc;have c0:=iEq_true c0;have c1:=iEq_true c1;have vl:=pA (a:=a) (d:=0) S hl;have vu:=pA (a:=a) (d:=nrows rows) S hu;have hb:=CR (P:=P) (w:=w) (sl:=true) (len:=rows.length) (cap:=cp) (lo:=lo.map a.eval) (hi:=hi.map a.eval) (l:=0) (h:=rows.length)
   (by rcases vl with v|⟨v,e⟩
       ·exact .inl (by rw[v,c0];rfl)
       ·exact .inr ⟨v,rfl⟩)
   (by rcases vu with v|⟨v,e⟩
       ·exact .inl (by rw[v,c1];rfl)
       ·exact .inr ⟨v,rfl⟩) (by omega) hle
  refine aS (v:=a.eval x) ?_ h S hx (Fm.refl _ _);have hz:(ad.map fun x=>x.add 0)=ad:=by cases ad with
   |none=>rfl
   |some y=>simp[Addr.add]
  unfold execOp;rw[ho];generalize a.eval=ρ at*;simp[ev,Instr.sliceAt,run_und e1,Instr.slice,hb,n6 hf,hz]
 ·simp at h
end
end Kw
namespace Kw
open Go
variable [Gl]
section
variable {Rr:Value->MV->Prop}
theorem ZG:∀(l:List Value) (k off:Nat) (cs:Array Value),(l.zipIdx k).foldl (fun cs (c,j)=>cs.setIfInBounds (off+j) c) cs=(qF cs.toList (off+k) l).toArray
 |[],_,_,cs=>by simp[qF]
 |v::l,k,off,cs=>by
  rw[List.zipIdx_cons,List.foldl_cons,ZG l (k+1) off,qF];simp[Jj]
theorem afE(vs cs:Array Value)(off:Nat):vs.zipIdx.foldl (fun cs (c,j)=>cs.setIfInBounds (off+j) c) cs=(qF cs.toList off vs.toList).toArray:=by
 rw[<-Array.foldl_toList,Array.toList_zipIdx,ZG];simp
inductive PR(Rr:Value->MV->Prop):List (Nat×Value)->List (Nat×List MV)->Prop
 |nil:PR Rr [] []
 |cons {i:Nat} {v:Value} {ms:List MV} {ps:List (Nat×Value)} {qs:List (Nat×List MV)} (h:Rl Rr v.cells.toList ms) (t:PR Rr ps qs):PR Rr ((i,v)::ps) ((i,ms)::qs)
theorem PR.mono{Rr':Value->MV->Prop}{ps:List (Nat×Value)}{qs:List (Nat×List MV)}(h:PR Rr ps qs)(hm:∀v m,Rr v m->Rr' v m):PR Rr' ps qs:=by
 induction h with
 |nil=>exact .nil
 |cons h _ ih=>exact .cons (h.mono hm) ih
theorem ZH{place:Nat->Option (Nat×Nat)}{ps:List (Nat×Value)}{qs:List (Nat×List MV)}(h:PR Rr ps qs):∀{cells:Array Value} {mc out:List MV},Rl Rr cells.toList mc->fillE place mc qs=some out->
 ∃out':Array Value,Instr.fill place cells ps=some out'/\Rl Rr out'.toList out:=by
 induction h with
 |nil=>intro cells mc out hc he;simp[fillE]at he;subst he;exact⟨cells,rfl,hc⟩
 | @cons i v ms ps qs hv t ih=>
   intro cells mc out hc he;unfold fillE at he;unfold Instr.fill;split at he
   ·simp at he
   ·rename_i off size hp;split at he
    ·rename_i hcond;simp only[jg,beq_iff_eq,Nat.ble_eq]at hcond;obtain⟨h1,h2⟩:=hcond;have hl:=hv.len;have hlc:=hc.len;simp at hl hlc;have hno:¬(v.cells.size≠size\/off+v.cells.size>cells.size):=by omega
     simp only[hp];rw[jc (by simpa using hno),afE]
     exact ih (by simpa using Y9 hv off hc) he
    ·simp at he
end
section
variable {P:Program} {R:Type} {r:R} {k:Fr->Option R} {fr:Fr} {g:G} {a:Act} {w:World} {o:Oper} {Q:Exit->Act->World->Prop}
theorem AY(S:Sim fr g a.tmps w):∀{ps:List (Nat×Operand)} {qs:List (Nat×List MV)},lL fr ps=some qs->PR (RV g (cur fr.ob) w) (ps.map fun p=>(p.1,a.eval p.2)) qs
 |[],qs,h=>by simp[lL]at h;subst h;exact .nil
 |(i,x)::ps,qs,h=>by
  have hx:=bF S x;unfold lL at h;split at h
  ·rename_i cs rr e1 e2;cases h;rw[e1]at hx;obtain⟨hl,hr⟩:=J4 hx (.inr ⟨cs,rfl⟩);exact .cons (n7 _ _ (by simpa [cellsOf]using hl) (fun j v' m' h1 h2=>hr j v' m' (by simpa using h1) h2)) (AY S e2)
  ·rename_i m rr e2 _;split at h
   ·rename_i hone;cases h;have:=(hx.one hone).2;exact .cons (by simp only[this];exact .cons hx .nil) (AY S e2)
   ·simp at h
  ·simp at h
theorem KF{tmps:Array Value}:∀{qs:List (Nat×List MV)} {ps:List (Nat×Value)} {fr:Fr} {g:G} {kk:List (Nat×List MV)->Fr->Option R},nR qs fr kk=some r->Sim fr g tmps w->PR (RV g (cur fr.ob) w) ps qs->
 ∃qs' fr' g',kk qs' fr'=some r/\Froze fr fr' g g' tmps w/\PR (SV w g'.prot) ps qs'
 |[],_,fr,g,kk,h,S,hp=>by cases hp;exact⟨[],fr,g,h,Froze.refl S,.nil⟩
 |(i,ms)::qs,_,fr,g,kk,h,S,hp=>by
  cases hp with
  |cons hv t=>
   unfold nR at h;obtain⟨ms',fr1,g1,h,F1,sv⟩:=CP h S hv;obtain⟨qs',fr2,g2,h,F2,svs⟩:=KF h F1.sim (t.mono fun _ _ h=>h.mono F1.later)
   exact⟨_,fr2,g2,h,F1.trans F2,.cons (sv.mono fun _ _ h=>h.up F2.later) svs⟩
theorem s_build{t:TypeId}{parts:Array (Nat×Operand)}(ho:o.op=.build t parts)(h:(match P.underlying t with
 |some (.struct fs)=>(match lL fr parts.toList with
  |some ps=>if JV P t&&fs.all (fun f=>(P.info? f.type).isSome)then
   (match fillE (fun i=>match fs[i]? with|some f=>some (f.offset,tsize P f.type)|none=>none) ((nB P t).map oI) ps with
   |some out=>k (fr.finish o.dst (.agg out))
   |none=>none)else none
  |none=>none)
 |_=>none)=some r) (S:Sim fr g a.tmps w):o.upon P a (iD r k g w a) Q ((execOp a.eval o).run P w):=by
 split at h
 case h_2=>simp at h
 rename_i fs hu;split at h
 case h_2=>simp at h
 rename_i ps hps;split at h
 case isFalse=>simp at h
 rename_i hc;simp only[jg]at hc;obtain⟨hz,hinf⟩:=hc;split at h
 case h_2=>simp at h
 rename_i out hfill;have hpr:=AY S hps;have hzz:∃i v,P.info? t=some i/\i.zero=some v/\v.cells.toList=nB P t:=by
  unfold JV at hz;split at hz
  ·rename_i i hi;split at hz
   ·rename_i v hv;exact⟨i,v,hi,hv,by unfold nB;rw[hi];simp[hv]⟩
   ·simp at hz
  ·simp at hz
 obtain⟨it,z,hit,hz,hzc⟩:=hzz;have hr0:Rl (RV g (cur fr.ob) w) z.cells.toList ((nB P t).map oI):=by
  rw[<-hzc];refine n7 _ _ (by simp) (fun j v m h1 h2=>?_)
  rw[jo,h1]at h2;cases h2;exact rv_ofCell g _ w v
 obtain⟨out',hf,hr⟩:=ZH hpr hr0 hfill;have hpl:∀l:List Field,(∀f∈l,(P.info? f.type).isSome=true)->l.mapM (fun f=>(P.info? f.type).map fun i=>(f.offset,i.size))=some (l.map fun f=>(f.offset,tsize P f.type)):=by
  intro l;induction l with
  |nil=>intro _;rfl
  |cons f l ih=>
   intro hl;obtain⟨i,hi⟩:=v9.1 (hl f (by simp))
   have:tsize P f.type=i.size:=by unfold tsize;rw[hi]
   simp[List.mapM_cons,hi,ih (fun f' h'=>hl f' (by simp[h'])),this]
 have hbuilt:P.built t (parts.toList.map fun p=>(p.1,a.eval p.2))=some out':=by
  unfold Program.built;rw[hit,hu];simp only[hz];rw[hpl fs.toList (fun f hf=>by
   have:=Array.all_eq_true.1 hinf;obtain⟨j,hj,e⟩:=qh.1 hf;have:=this j (by simpa using hj)
   rw[<-e];simpa using this)]
  simp only;rw[<-hf]
  congr 1
  funext i
  rw[qv,jo,qj];cases fs[i]?<;>rfl
 refine aS (v:=.agg out') ?_ h S (.agg (by have:=hr.len;simpa using this) (fun j v m h1 h2=>hr.at j v m (by simpa using h1) h2)) (Fm.refl _ _)
 have hb:=run_build w t (parts.map fun p=>(p.1,a.eval p.2)) out' (by rw[Array.toList_map];exact hbuilt)
 unfold execOp;rw[ho];generalize a.eval=ρ at*;simp only[Sem.run_bind];rw[show(parts.map fun(i,x)=>(i,ρ x))=parts.map fun p=>(p.1,ρ p.2)from rfl,hb]
 rfl
end
end Kw
namespace Kw
open Go
variable [Gl]
section
variable {P:Program} {R:Type} {r:R} {k:Fr->Option R} {fr:Fr} {g:G} {a:Act} {w:World} {o:Oper} {Q:Exit->Act->World->Prop}
theorem TD{tmps:Array Value}(S:Sim fr g tmps w){h:H}(hi:∀i,h≠ .imp i)(hf:h∉fr.ob.map (·.1))(arr:Array Value)(ty:TypeId)(sz:Nat)(rows:List Row)(hs:arr.size=rows.length*sz)(hr:iC w g.prot arr sz rows):
 Sim (fr.setObj h (.rows rows)) (g.setR h (.mem w.heap.size rows.length sz)) tmps {w with heap:=w.heap.push (.cells arr ty (0,0))}/\Fm g w (g.setR h (.mem w.heap.size rows.length sz)) {w with heap:=w.heap.push (.cells arr ty (0,0))}/\
  RV (g.setR h (.mem w.heap.size rows.length sz)) (cur (fr.setObj h (.rows rows)).ob) {w with heap:=w.heap.push (.cells arr ty (0,0))} (.slice (some ⟨w.heap.size,0,none⟩) rows.length rows.length) (.ref h (nrows rows)):=by
 obtain⟨S',F⟩:=IW S hf (.rows rows) (.mem w.heap.size rows.length sz) (.cells arr ty (0,0)) (by simp) hi (fun b e=>by cases e;rfl) (fun g' w' eg ew L=>by
  subst eg;subst ew;exact .inr ⟨w.heap.size,rows.length,sz,arr,ty,aI,by simp,fun hp=>yz _ (S.o.plt _ hp),⟨Nat.le_of_eq hs.symm,fun e=>.inl (by rw[e];rfl)⟩,kg _,iC.mono (w:=w) hr (fun _ h=>h) L.heap⟩)
 refine⟨S',F,.ref aI ?_ (fun _=>?_) rfl⟩
 ·show _<=cur (put fr.ob h _) h;rw[sA];exact jz _
 ·unfold nrows;simp
theorem OZ{p:Nat->Prop}{v:Value}{m:MV}(h:m=.undef\/SV w p v m)(hm:m.svOne=true):SV w p v m:=by
 rcases h with h|h
 ·subst h;simp[MV.svOne]at hm
 ·exact h
theorem TE{e:TypeId}{p:Nat->Prop}(j:Nat){v:Value}(hv:(nB P e)[j]?=some v){m:MV}(hm:(iB P e)[j]?=some m):m=.undef\/SV w p v m:=by
 unfold iB at hm;rw[jo,hv]at hm;simp only[yi,Option.some.injEq]at hm;subst hm;unfold oI;split<;>rename_i hc
 ·split at hc<;>first|cases hc|skip
  exact .inr (J6 w p)
 ·exact .inl rfl
 ·split at hc<;>first|(exact absurd rfl hc)|skip
  all_goals first
   |exact .inr (.bool _)
   |exact .inr (.int _ _)
   |exact .inr .ifN
   |exact .inr (.str _)
   |exact .inl rfl
   |skip
  all_goals simp_all
theorem HF{e:TypeId}(hk:okT P e=true):(iB P e).length=tsize P e:=by
 unfold iB;rw[kf];exact(oW hk).2.2
theorem s_makeSlice{t:TypeId}{l c:Operand}(ho:o.op=.makeSlice t l c)(h:(match wR P t,aL fr l,aL fr c with
 |some e,.int _ n,.int _ m=>if okT P e&&(Nat.ble 1 (bT P e)&&(iB P e).all MV.svOne)then br (d5 (iEq n m) (d5 (iLe 0 n) (eL n 0 (bT P e)))) (fr.lay (.loc (o.dst.getD 0) 0) (.rows (jX n (iB P e))) fun fr=>k (fr.finish o.dst (.ref (.loc (o.dst.getD 0) 0) (nrows (jX n (iB P e)))))) none else none
 |_,_,_=>none)=some r) (S:Sim fr g a.tmps w):o.upon P a (iD r k g w a) Q ((execOp a.eval o).run P w):=by
 have hx:=bF S l;have hy:=bF S c;split at h
 case h_2=>simp at h
 rename_i e kl n kc m he el ec;rw[el]at hx;rw[ec]at hy;have hx:=jR hx;have hy:=jR hy;split at h
 case isFalse=>simp at h
 rename_i hc;simp only[jg,Nat.ble_eq]at hc;obtain⟨hk,hb,hone⟩:=hc;rcases br_some h with⟨hc,h2⟩|⟨_,h2⟩
 case inr=>simp at h2
 clear h;obtain⟨hnm,hc⟩:=eQ hc;obtain⟨h0,hfit⟩:=eQ hc;have hnm:=iEq_true hnm;subst hnm;have h0:=mL h0;obtain⟨hf,h⟩:=iE h2;obtain⟨hu,_⟩:=nH he;obtain⟨i,z,hi,hz,hzc,hzs⟩:=cG hk;have hsz:i.size=tsize P e:=by unfold tsize;rw[hi]
 have hby:i.bytes=bT P e:=by unfold bT;rw[hi]
 obtain⟨q,hq⟩:∃q:Nat,n=q:=⟨n.toNat,by omega⟩
 subst hq;have hfit':q*bT P e<=2^46:=by
  unfold eL at hfit;simp only[jb,Int.add_zero]at hfit;have:((q*bT P e:Nat):Int)<=((2^46:Nat):Int):=by rw[Int.natCast_mul];exact hfit
  exact Int.ofNat_le.1 this
 have hq46:q<=2^46:=kb (Nat.le_mul_of_pos_right _ hb) hfit';have hrun:=run_make (P:=P) w t e i z hu hi hz kl kc (q:Int) (q:Int) h0 (jz _) (by
  rw[hby,<-Int.natCast_mul,yq];have:((q*bT P e:Nat):Int)<=((2^46:Nat):Int):=Int.ofNat_le.2 hfit';omega) (by omega)
 have hrl:(jX (q:Int) (iB P e)).length=q:=by unfold jX;simp
 have hzl:=HF hk;obtain⟨S',F,hv⟩:=TD S (by simp) hf (madeCells z.cells (q*i.size)) e (tsize P e) (jX (q:Int) (iB P e)) (by rw[hrl,hsz];simp[madeCells]) (fun j row hj=>by
  have hjq:j<q:=by rw[<-hrl];exact(jm.1 hj).1
  have hrow:row=iB P e:=by
   unfold jX at hj;rw[List.getElem?_replicate]at hj;simp[hjq]at hj;exact hj.symm
  subst hrow;refine⟨hzl,fun p m hp=>?_⟩
  have hps:p<tsize P e:=by rw[<-hzl];exact(jm.1 hp).1
  have hlt:j*tsize P e+p<q*tsize P e:=by
   have:(j+1)*tsize P e<=q*tsize P e:=qn _ hjq;rw[yl]at this;omega
  have hmod:(j*tsize P e+p)%z.cells.size=p:=by
   rw[hzs,yq,Nat.mul_add_mod,Nat.mod_eq_of_lt hps]
  have hv:(nB P e)[p]?=some (z.cells[p]'(by omega)):=by
   rw[<-hzc,qj,kq (by omega)]
  refine⟨z.cells[p]'(by omega),?_,OZ (TE p hv hp) (kj.1 hone _ (qi hp))⟩
  unfold madeCells;rw[hsz,Array.getElem?_map,Array.getElem?_range,je hlt];simp only[yi];rw[hmod,getElem!_pos z.cells p (by omega)])
 refine aS ?_ h S' hv F;rw[hrl];unfold execOp;rw[ho];generalize a.eval=ρ at*;simp only[Sem.run_bind,hx,hy,hrun,Result.andThen_ok]
 rfl
end
end Kw
namespace Kw
open Go
variable [Gl]
section
variable {P:Program} {R:Type} {r:R} {k:Fr->Option R} {fr:Fr} {g:G} {a:Act} {w:World} {o:Oper} {Q:Exit->Act->World->Prop}
theorem O0{place:Nat->Option (Nat×Nat)}:∀{qs:List (Nat×List MV)} {mc out:List MV},fillE place mc qs=some out->out.length=mc.length
 |[],mc,out,h=>by simp[fillE]at h;rw[h]
 |(i,ms)::qs,mc,out,h=>by
  unfold fillE at h;split at h
  ·simp at h
  ·split at h
   ·have:=O0 h;rw[this,DT]
   ·simp at h
theorem IP{w:World}{t e:TypeId}{len:Nat}{parts:Array (Nat×Value)}{cells:Array Value}{ie:TypeInfo}(hu:P.underlying t=some (.slice e))(hie:P.info? e=some ie)(h0:len*ie.size=0)
 (h:Instr.fill (fun i=>some (i*ie.size,ie.size)) #[] parts.toList=some cells):
 (Instr.buildSlice t len parts).run P w=.ok (.slice (some ⟨w.heap.size,0,none⟩) len len) (w.alloc (.cells cells e)):=by
 have e0:∀f:Nat->Value,(Array.range 0).map f= #[]:=fun f=>by apply Array.ext';simp
 simp[Instr.buildSlice,run_underlying hu,Go.sizeOf,typeInfo,hie,h0,newRow];rw[e0,h];simp
theorem s_buildSlice{t:TypeId}{n:Nat}{parts:Array (Nat×Operand)}(ho:o.op=.buildSlice t n parts)(h:(match wR P t with
 |some e=>(match lL fr parts.toList with
  |some ps=>nR ps fr fun ps fr=>
   (match fillE (fun i=>some (i*tsize P e,tsize P e)) (tJ P e n) ps with
   |some out=>if okT P e&&(Nat.ble (n*tsize P e) 16777216&&out.all MV.svOne)then
    fr.lay (.loc (o.dst.getD 0) 0) (.rows (GA (tsize P e) n out)) fun fr=>k (fr.finish o.dst (.ref (.loc (o.dst.getD 0) 0) (nrows (GA (tsize P e) n out))))else none
   |none=>none)
  |none=>none)
 |none=>none)=some r) (S:Sim fr g a.tmps w):o.upon P a (iD r k g w a) Q ((execOp a.eval o).run P w):=by
 split at h
 case h_2=>simp at h
 rename_i e he;obtain⟨hu,_⟩:=nH he;split at h
 case h_2=>simp at h
 rename_i ps hps;obtain⟨qs,fr1,g1,h,Fz,hpr⟩:=KF h S (AY S hps);split at h
 case h_2=>simp at h
 rename_i out hfill;split at h
 case isFalse=>simp at h
 rename_i hc;simp only[jg,Nat.ble_eq]at hc;obtain⟨hk,hsm,hone⟩:=hc;obtain⟨hf,h⟩:=iE h;obtain⟨i,z,hi,hz,hzc,hzs⟩:=cG hk;have hsz:i.size=tsize P e:=by unfold tsize;rw[hi]
 have hzl:=HF hk;have hol:out.length=n*tsize P e:=by rw[O0 hfill];unfold tJ;simp
 have hr0:Rl (fun v m=>m=.undef\/SV w g1.prot v m) ((Array.range (n*i.size)).map (z.cells[·%z.cells.size]!)).toList (tJ P e n):=by
  refine n7 _ _ (by unfold tJ;simp[hsz]) (fun q v m h1 h2=>?_)
  have hq:q<n*tsize P e:=by
   have:=(jm.1 h2).1;unfold tJ at this;simpa using this
  have hpos:0<tsize P e:=Nat.pos_of_ne_zero (fun e0=>by rw[e0]at hq;simp at hq)
  have hm:=Nat.mod_lt q hpos;rw[qj,Array.getElem?_map,hsz,Array.getElem?_range,je hq]at h1;unfold tJ at h2;rw[jo,yn hq]at h2;simp only[yi,Option.some.injEq]at h1 h2;rw[hzs,getElem!_pos z.cells _ (by omega)]at h1
  have hz1:(iB P e)[q%tsize P e]?=some ((iB P e)[q%tsize P e]'(by omega)):=jj (by omega)
  rw[jr,hz1]at h2;simp only[Jl]at h2;rw[<-h1];refine TE (P:=P) (e:=e) (q%tsize P e) ?_ (by rw[hz1,h2])
  rw[<-hzc,qj,kq (by omega)]
 obtain⟨cells,hfl,hr⟩:=ZH (hpr.mono fun v m h=>.inr h) hr0 hfill
 have hcl:cells.size=n*tsize P e:=by have:=hr.len;simp at this;omega
 have hrl:(GA (tsize P e) n out).length=n:=by unfold GA;simp
 have hrun:(Instr.buildSlice t n (parts.map fun p=>(p.1,a.eval p.2))).run P w=.ok (.slice (some ⟨w.heap.size,0,none⟩) n n) (w.alloc (.cells cells e)):=by
  by_cases h0:n*i.size=0
  ·refine IP hu hi h0 ?_;rw[Array.toList_map,<-hfl,hsz,<-hsz,h0]
   congr 1
   apply Array.ext';simp
  ·refine run_buildSlice w t e n _ cells i z hu hi hz (by rw[hsz];omega) h0 ?_
   rw[Array.toList_map,<-hfl,hsz]
 obtain⟨S',F,hv⟩:=TD Fz.sim (by simp) hf cells e (tsize P e) (GA (tsize P e) n out) (by rw[hrl,hcl]) (fun q row hq=>by
  have hqn:q<n:=by rw[<-hrl];exact(jm.1 hq).1
  unfold GA at hq;rw[jo,yn hqn]at hq;simp only[yi,Option.some.injEq]at hq;have hle:(q+1)*tsize P e<=n*tsize P e:=qn _ hqn;rw[yl]at hle;subst hq;refine⟨by simp;omega,fun j m hj=>?_⟩
  have hjs:j<tsize P e:=by
   have:=(jm.1 hj).1;simp at this;omega
  rw[qp hjs,wy]at hj;obtain⟨v,hv,hs⟩:=hr.get hj;exact⟨v,by simpa using hv,OZ hs (kj.1 hone _ (qi hj))⟩)
 refine aS ?_ h S' hv (Fz.fm.trans F);rw[hrl];unfold execOp;rw[ho];generalize a.eval=ρ at*;simp only[Sem.run_bind];rw[show(parts.map fun(i,x)=>(i,ρ x))=parts.map fun p=>(p.1,ρ p.2)from rfl,hrun]
 rfl
end
end Kw
