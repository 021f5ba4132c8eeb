import Derived.Test.YthjlffhckgaboaaGreatDoorW02
import Derived.Orders
import Derived.Deep.LoopGhost
set_option linter.unusedVariables false
set_option linter.unusedSimpArgs false
set_option linter.unusedSectionVars false
namespace Kw
open Go
variable [Gl]
theorem WP{a b:ByteArray}(h:a.toList=b.toList):a=b:=by
 rw[ByteArray.toList_eq,ByteArray.toList_eq]at h;cases a;cases b;simp at h;rw[h]
theorem afF(a b:ByteArray):(a==b)=(b.toList==a.toList):=by
 have h:(a==b)=(a.data==b.data):=by cases a;cases b;rfl
 rw[h,yp,ByteArray.toList_eq,ByteArray.toList_eq];simp only[beq_iff_eq];exact⟨fun h=>by rw[h],fun h=>by rw[Array.toList_inj.1 h]⟩
theorem findNow_str(s:ByteArray):∀(l:List MapEntry) (i:Nat),(∀e∈l,∃s b,e.key=.string s/\e.val=.bool b)->
 (Instr.findNow .string (.string s) l i=some none/\l.find? (kp s)=none)\/
 ∃j e,l[j]?=some e/\Instr.findNow .string (.string s) l i=some (some (i+j,e.val))/\l.find? (kp s)=some e/\e.key=.string s/\∀j' e',j'<j->l[j']?=some e'->kp s e'=false
 |[],i,_=>.inl ⟨rfl,rfl⟩
 |e::l,i,h=>by
  obtain⟨s',b,hk,hv⟩:=h e (by simp)
  unfold Instr.findNow;rw[hk];simp only[Instr.sameNow,afF];cases hc:(s'.toList==s.toList)with
  |true=>
   have hkp:kp s e=true:=by unfold kp;rw[hk];exact hc
   have:s'=s:=WP (by simpa using hc)
   subst this;exact .inr ⟨0,e,rfl,by simp,by simp[yj,hkp],hk,fun j' e' h=>absurd h (Nat.not_lt_zero _)⟩
  |false=>
   have hkp:kp s e=false:=by unfold kp;rw[hk];exact hc
   rcases findNow_str s l (i+1) (fun e' h'=>h e' (by simp[h']))with⟨h1,h2⟩|⟨j,e',h1,h2,h3,h4,h5⟩
   ·exact .inl ⟨by simpa using h1,by simp[yj,hkp,h2]⟩
   ·refine .inr ⟨j+1,e',by simpa using h1,?_,by simp[yj,hkp,h3],h4,fun j' e'' hj he=>?_⟩
    ·simp only[h2];congr 3;omega
    ·cases j' with
     |zero=>simp at he;subst he;exact hkp
     |succ j'=>exact h5 j' e'' (by omega) (by simpa using he)
theorem CW(es:List (ByteArray×Bool))(s s':ByteArray)(b:Bool):nG (wY es s b) s'=if s.toList==s'.toList then b else nG es s':=by
 unfold nG wY;rw[yj];cases h:(s.toList==s'.toList)<;>simp
theorem WQ{s s':ByteArray}{e:MapEntry}(h:e.key=.string s):kp s' e=(s.toList==s'.toList):=by unfold kp;rw[h]
theorem HG{s s':ByteArray}{f:MapEntry->MapEntry}:∀{l:List MapEntry} {j:Nat} {e:MapEntry},l[j]?=some e->e.key=.string s->(f e).key=.string s->(∀j' e',j'<j->l[j']?=some e'->kp s e'=false)->
 (l.modify j f).find? (kp s')=if s.toList==s'.toList then some (f e)else l.find? (kp s')
 |[],j,e,h,_,_,_=>by simp at h
 |x::l,0,e,h,hk,hf,_=>by
  simp at h;subst h;rw[List.modify_zero_cons,yj,yj,WQ hf,WQ hk];cases (s.toList==s'.toList)<;>simp
 |x::l,j+1,e,h,hk,hf,hb=>by
  rw[List.modify_succ_cons,yj,yj];have ih:=HG (s':=s') (f:=f) (l:=l) (j:=j) (by simpa using h) hk hf (fun j' e' hj he=>hb (j'+1) e' (by omega) (by simpa using he))
  have hx:=hb 0 x (by omega) rfl
  rw[ih];cases hc:(s.toList==s'.toList)with
  |true=>
   have:s=s':=WP (by simpa using hc)
   subst this;rw[hx]
  |false=>simp
section
variable {P:Program} {R:Type} {r:R} {k:Fr->Option R} {fr:Fr} {g:G} {a:Act} {w:World} {o:Oper} {Q:Exit->Act->World->Prop}
theorem KG{t:TypeId}(h:OL P t=true):∃kt et i,P.underlying t=some (.map kt et)/\P.underlying kt=some .string/\P.info? et=some i/\i.zero=some (.bool false):=by
 unfold OL at h;split at h
 ·rename_i kt et hu;simp only[jg]at h;obtain⟨h1,h2⟩:=h;have hs:P.underlying kt=some .string:=by unfold isStringT at h1;split at h1<;>simp_all
  split at h2
  ·rename_i i hi;split at h2
   ·rename_i b hz;simp at h2;subst h2;exact⟨kt,et,i,hu,hs,hi,hz⟩
   ·simp at h2
  ·simp at h2
 ·simp at h
theorem oX{kt:TypeId}(hs:P.underlying kt=some .string)(e:Bool)(v:Value):(Instr.checkKey e 10000 kt v).run P w=.ok () w:=by
 show(Instr.checkKey e (9999+1) kt v).run P w=.ok () w;unfold Instr.checkKey;simp[run_und hs]
theorem I0{b:Nat}{ents:Array MapEntry}{clk:Nat}(h:w.heap[b]?=some (.map ents clk)):(getObj b).run P w=.ok (.map ents clk) w:=by
 simp only[getObj,Sem.run,h]
theorem ZI{b:Nat}{ents ents':Array MapEntry}{clk clk':Nat}(h:w.heap[b]?=some (.map ents clk)):(setObj b (.map ents' clk')).run P w=.ok () {w with heap:=w.heap.setIfInBounds b (.map ents' clk')}:=by
 simp only[setObj,Sem.run,h]
theorem s_lookup{t:TypeId}{x key:Operand}{ok:Bool}(h:(if OL P t then(match aL fr x,aL fr key,ok with
 | .mapr h,.str s,false=>(match fr.obj h with
   | .map es=>k (fr.finish o.dst (.bool (nG es s)))
   |_=>none)
 |_,_,_=>none)else none)=some r) (ho:o.op=.lookup t x key ok) (S:Sim fr g a.tmps w):o.upon P a (iD r k g w a) Q ((execOp a.eval o).run P w):=by
 have hx:=bF S x;have hy:=bF S key;split at h
 case isFalse=>simp at h
 rename_i hm;obtain⟨kt,et,i,hu,hs,hi,hz⟩:=KG hm;split at h
 case h_2=>simp at h
 rename_i hd s ex ey;rw[ex]at hx;rw[ey]at hy;have hy:=oJ hy;split at h
 case h_2=>simp at h
 rename_i es ec;obtain⟨b,ents,clk,e,hh,hn,hkeys,hget⟩:=obj_of S.o ec (by simp)
 have hx:=QK hx e;refine aS (v:=.bool (nG es s)) ?_ h S (.sv (.bool _)) (Fm.refl _ _);have hg:=hget s;unfold execOp;rw[ho];generalize a.eval=ρ at*;rcases findNow_str s ents.toList 0 hkeys with⟨h1,h2⟩|⟨j,en,_,h1,h2,_⟩
 ·rw[h2]at hg;simp at hg;simp[hx,hy,Instr.lookup,run_und hu,I0 hh,oX hs,Instr.findKey,run_und hs,h1,zeroValue,J0 hi,hz,hg]
 ·rw[h2]at hg;simp at hg;simp[hx,hy,Instr.lookup,run_und hu,I0 hh,oX hs,Instr.findKey,run_und hs,h1,hg]
theorem s_mapUpdate{t:TypeId}{m key x:Operand}(ho:o.op=.mapUpdate t m key x)(h:(if OL P t then(match aL fr m,aL fr key,aL fr x with
 | .mapr h,.str s,.bool b=>(match fr.obj h with
   | .map es=>k ((fr.setObj h (.map (wY es s b))).finish o.dst .undef)
   |_=>none)
 |_,_,_=>none)else none)=some r) (S:Sim fr g a.tmps w):o.upon P a (iD r k g w a) Q ((execOp a.eval o).run P w):=by
 have hm':=bF S m;have hy:=bF S key;have hx:=bF S x;split at h
 case isFalse=>simp at h
 rename_i hm;obtain⟨kt,et,i,hu,hs,hi,hz⟩:=KG hm;split at h
 case h_2=>simp at h
 rename_i hd s b em ey ex;rw[em]at hm';rw[ey]at hy;rw[ex]at hx;have hy:=oJ hy;have hx:=mK hx;split at h
 case h_2=>simp at h
 rename_i es ec;obtain⟨blk,ents,clk,e,hh,hn,hkeys,hget⟩:=obj_of S.o ec (by simp)
 have hm':=QK hm' e;have hblk:blk<w.heap.size:=S.o.lt hd blk (by rw[e];rfl)
 have fin:∀(ents':Array MapEntry) (clk':Nat),(execOp a.eval o).run P w=.ok .skip {w with heap:=w.heap.setIfInBounds blk (.map ents' clk')}->apZ ents' (wY es s b)->
  o.upon P a (iD r k g w a) Q ((execOp a.eval o).run P w):=by
  intro ents' clk' hrun hmr;obtain⟨S',F,L⟩:=DR (w':={w with heap:=w.heap.setIfInBounds blk (.map ents' clk')}) S hd (.map (wY es s b)) (g.rho hd) (by rw[e];simp) (.inr rfl) (.inl ⟨⟨blk,e⟩,rfl⟩)
   (fun b' hb hne=>by
    have:blk≠b':=fun eb=>hne (by rw[e,eb];rfl)
    simp[this]) (fun b' e'=>by rw[e]at e';cases e';exact hn) (by simp) (fun b' e'=>.inl e') rfl rfl rfl
   (fun g' eg L=>by
    rw[lT rfl]at eg;subst eg;exact⟨blk,ents',clk',e,by simp[hblk],hn,hmr⟩)
  rw[lT rfl]at S' F;exact QI (m:=.undef) hrun h S' F
 have hrun0:∀(ents':Array MapEntry) (clk':Nat),(Instr.mapUpdate t (a.eval m) (a.eval key) (a.eval x)).run P w=.ok () {w with heap:=w.heap.setIfInBounds blk (.map ents' clk')}->(execOp a.eval o).run P w=.ok .skip {w with heap:=w.heap.setIfInBounds blk (.map ents' clk')}:=by
  intro ents' clk' hr;unfold execOp;rw[ho];generalize a.eval=ρ at*;simp[hr]
 rcases findNow_str s ents.toList 0 hkeys with⟨h1,h2⟩|⟨j,en,hj,h1,h2,hkey,hbefore⟩
 ·refine fin (ents.push {key:=.string s,val:=.bool b,born:=clk}) (clk+1) (hrun0 _ _ ?_) ⟨fun e' he'=>?_,fun s'=>?_⟩
  ·rw[hm',hy,hx];simp[Instr.mapUpdate,run_und hu,I0 hh,oX hs,Instr.findKey,run_und hs,h1,ZI hh]
  ·simp only[Array.toList_push,jv,qc]at he';rcases he' with he'|he'
   ·exact hkeys e' he'
   ·subst he';exact⟨s,b,rfl,rfl⟩
  ·have hg:=hget s';rw[Array.toList_push,List.find?_append,CW];cases hc:(s.toList==s'.toList)with
   |true=>
    have:s=s':=WP (by simpa using hc)
    subst this;rw[h2];simp[yj,kp]
   |false=>
    have hk:kp s' {key:=.string s,val:=.bool b,born:=clk}=false:=by rw[WQ rfl];exact hc
    simp only[yj,hk,List.find?_nil,Option.or_none];exact hg
 ·refine fin (ents.modify j fun e=>{e with key:=.string s,val:=.bool b}) clk (hrun0 _ _ ?_) ⟨fun e' he'=>?_,fun s'=>?_⟩
  ·have hj':ents[j]?=some en:=by simpa using hj
   have hb:Instr.sameBits 10000 (.string s) (.string s)=true:=by
    show(s==s)=true;rw[afF];simp
   rw[hm',hy,hx];simp[Instr.mapUpdate,run_und hu,I0 hh,oX hs,Instr.findKey,run_und hs,h1,hj',hkey,Instr.keyThatStays,hb,ZI hh]
  ·rw[Array.toList_modify]at he';obtain⟨q,hq,e1⟩:=qh.1 he';have e2:(ents.toList.modify j fun e=>{e with key:=.string s,val:=.bool b})[q]?=some e':=by rw[jj hq,e1]
   rw[List.getElem?_modify]at e2;obtain⟨e3,h3,h4⟩:=kw.1 e2;split at h4
   ·subst h4;exact⟨s,b,rfl,rfl⟩
   ·subst h4;exact hkeys _ (qi h3)
  ·have hg:=hget s';rw[Array.toList_modify,HG hj hkey rfl hbefore,CW];cases hc:(s.toList==s'.toList)with
   |true=>simp
   |false=>simpa using hg
end
end Kw
namespace Kw
open Go
variable [Gl]
section
variable {R:Type} {r:R} {k:Fr->Option R} {fr:Fr} {g:G} {a:Act} {w:World} {o:Oper} {Q:Exit->Act->World->Prop}
def Ask(E:Env)(run:Run)(o:Oper)(Q:Exit->Act->World->Prop):Prop:=
 ∀{R:Type} {r:R} {k:Fr->Option R} {fr:Fr} {g:G} {a:Act} {w:World},dM E run o fr k=some r->Sim fr g a.tmps w->o.upon E.P a (iD r k g w a) Q ((execOp a.eval o).run E.P w)
theorem akC{E:Env}{run:Run}
 (hcall:∀c f,o.op=.call c->c.callee=.value f->Ask E run o Q)
 (heq:∀op t x y yt,o.op=.binOp op t x y yt->isAgg E.P t=true->Ask E run o Q):Ask E run o Q:=by
 intro R r k fr g a w h S;have h0:=h;unfold dM at h;simp only at h;split at h
 ·rename_i x ho;exact s_move (.inl ho) h S
 ·rename_i x ho;exact s_move (.inr ho) h S
 ·rename_i c x y ho;exact s_pick ho h S
 ·rename_i t ho;exact s_alloc ho h S
 ·rename_i t x ho;exact s_box ho h S
 ·rename_i t x ho;exact s_load rfl ho h S
 ·rename_i t x y ho;exact s_store rfl ho h S
 ·rename_i x ho;exact s_nilCheck ho h S
 ·rename_i op t x y yt ho;split at h
  ·rename_i hag;exact heq _ _ _ _ _ ho hag h0 S
  ·split at h
   ·rename_i ex;split at h
    ·rename_i hi;simp only[jg]at hi;exact aq2 h ho ex hi.1 hi.2 S
    ·simp at h
   ·exact awY ho h S
 ·rename_i op t x ho;exact s_un h ho S
 ·rename_i src dst x ho;exact s_convert ho h S
 ·rename_i f first caps ho;split at h
  ·rename_i gf;split at h
   ·rename_i hf;exact s_makeFunc ho hf h S
   ·simp at h
  ·simp at h
 ·rename_i t ho;exact s_makeMap ho h S
 ·rename_i t l c ho;exact s_makeSlice ho h S
 ·rename_i t n parts ho;exact s_buildSlice ho h S
 ·rename_i t parts ho;exact s_build ho h S
 ·rename_i t x lo hi mx ho;exact s_slice h ho S
 ·rename_i t x f ho;exact s_fieldAddr ho h S
 ·rename_i t x f ho;exact s_field ho h S
 ·rename_i t x i ho;exact s_indexAddr ho h S
 ·rename_i t x i ho;split at h
  ·rename_i hs;exact s_index ho h (by unfold isStringT at hs;split at hs<;>simp_all) S
  ·simp at h
 ·rename_i x j ho;exact s_extract ho h S
 ·rename_i t x key ok ho;exact s_lookup h ho S
 ·rename_i t m key x ho;exact s_mapUpdate ho h S
 ·rename_i c ho;split at h
  ·rename_i hc;exact s_len ho hc h S
  ·rename_i hc;exact s_max ho hc h S
  ·rename_i hc;exact s_min ho hc h S
  ·rename_i hc;exact s_append rfl ho hc h S
  ·rename_i f hc;exact hcall _ _ ho hc h0 S
  ·simp at h
 ·simp at h
end
end Kw
namespace Kw
open Go
variable [Gl]
section
variable {R:Type} {r:R} {g:G} {w:World} {Q:Exit->Act->World->Prop}
theorem O1{fr:Fr}{tmps:Array Value}(S:Sim fr g tmps w){d:Nat}{b:Bool}(h:fr.get d=.bool b):tmps[d]?=some (.bool b):=by
 have hlt:d<fr.sl.length:=by
  rcases yo d fr.sl.length with h'|h'
  ·exact h'
  ·unfold Fr.get at h;rw[jr,qo h']at h;simp at h
 have h1:fr.sl[d]?=some (.bool b):=by
  unfold Fr.get at h;rw[jr,jj hlt]at h;rw[jj hlt];simpa using h
 have h2:tmps[d]?=some (tmps[d]'(by rw[S.size];exact hlt)):=kq _
 rw[h2]
 congr 1
 exact mK (S.slot d _ _ h2 h1)
theorem QW{g:G}{cu:H->Int}{w:World}:RV g cu w undef (.tup []):=.tup rfl (fun j v m h _=>by simp at h)
theorem TH{m:MV}(h:AR m=true):m=.tup []:=by
 unfold AR at h;split at h
 ·rfl
 ·cases h
theorem TI{fr:Fr}{tmps:Array Value}(S:Sim fr g tmps w){d:Nat}(h0:AR (fr.get d)=true):tmps[d]?=some undef:=by
 have h:=TH h0;have hlt:d<fr.sl.length:=by
  rcases yo d fr.sl.length with h'|h'
  ·exact h'
  ·unfold Fr.get at h;rw[jr,qo h']at h;simp at h
 have h1:fr.sl[d]?=some (.tup []):=by
  unfold Fr.get at h;rw[jr,jj hlt]at h;rw[jj hlt];simpa using h
 have h2:tmps[d]?=some (tmps[d]'(by rw[S.size];exact hlt)):=kq _
 rw[h2]
 congr 1
 have:=S.slot d _ _ h2 h1;generalize tmps[d]'_=v at this⊢;cases this with
 |sv h=>cases h
 |tup hl hr=>
  rename_i vs;have:vs= #[]:=Array.eq_empty_of_size_eq_zero hl;rw[this];rfl
theorem KL{fr:Fr}{tmps:Array Value}(S:Sim fr g tmps w){d:Nat}{v:Value}{m:MV}(ht:tmps[d]?=some v)(h:RV g (cur fr.ob) w v m):Sim (fr.set d m) g tmps w:=by
 have:=S.set d h;have e:tmps.setIfInBounds d v=tmps:=by
  apply Array.ext
  ·simp
  ·intro j h1 h2;rw[Array.getElem_setIfInBounds (by simpa using h1)]
   split
   ·rename_i ej;subst ej;rw[kq h2]at ht;exact(Option.some.inj ht).symm
   ·rfl
 rwa [e]at this
theorem D0{E:Env}{run:Run}{all:Array Oper}{k:Fr->Option R}(hask:∀(i:Nat) (o:Oper),all[i]?=some o->Ask E run o Q):∀(n:Nat) (i:Nat) {fr:Fr} {g:G} {a:Act} {w:World},i+n=all.size->
 yA E run all (all.toList.drop i) fr k=some r->Sim fr g a.tmps w->
 (∀a' w',iD r k g w a a' w'->Q .normal a' w')->wpOps E.P all Q (List.range' i n) a w
 |0,i,fr,g,a,w,hi,h,S,hQ=>by
  have:all.toList.drop i=[]:=js (by simp;omega)
  rw[this]at h;exact hQ a w ⟨rfl,fr,g,h,S,Fm.refl _ _⟩
 |n+1,i,fr,g,a,w,hi,h,S,hQ=>by
  have hlt:i<all.toList.length:=by simp;omega
  have hd:all.toList.drop i=all[i]'(by omega)::all.toList.drop (i+1):=by
   rw[qa hlt];simp
  have ho:all[i]?=some (all[i]'(by omega)):=kq _
  generalize all[i]'(by omega)=o at hd ho
  rw[hd]at h;rw[List.range'_succ];simp only[wpOps,ho];unfold yA at h;have go:∀fr1,Sim fr1 g a.tmps w->dM E run o fr1 (fun fr=>yA E run all (all.toList.drop (i+1)) fr k)=some r->o.wp E.P a w (wpOps E.P all Q (List.range' (i+1) n)) Q:=by
   intro fr1 S1 h1;refine Oper.wp_mono (fun a' w' hg=>?_) (hask i o ho h1 S1)
   obtain⟨hdf,fr',g',hk,S',F⟩:=hg;exact D0 hask n (i+1) (by omega) hk S' (fun a'' w'' ⟨hd',fr'',g'',hk',S'',F'⟩=>hQ a'' w'' ⟨hd'.trans hdf,fr'',g'',hk',S'',F.trans F'⟩)
  split at h
  ·rename_i hg;have:Region.wanted o (yielded all a.tmps)=true:=by unfold Region.wanted;rw[hg]
   rw[je this];exact .inl (go fr S h)
  ·rename_i j want hg;split at h
   ·rename_i d hdst;split at h
    ·rename_i hsk;have ht:=TI S hsk;have hy:yielded all a.tmps j=none:=by unfold yielded;rw[hdst];simp[ht,undef]
     have hw:Region.wanted o (yielded all a.tmps)=false:=by unfold Region.wanted;rw[hg];simp only[hy];rfl
     rw[hw,jc (by simp)]
     have hput:iD r (fun fr=>yA E run all (all.toList.drop (i+1)) fr k) g w a (a.put o.dst undef) w:=rZ (m:=.tup []) h S QW (Fm.refl _ _)
     obtain⟨hdf,fr',g',hk,S',F⟩:=hput;exact D0 hask n (i+1) (by omega) hk S' (fun a'' w'' ⟨hd',fr'',g'',hk',S'',F'⟩=>hQ a'' w'' ⟨hd'.trans hdf,fr'',g'',hk',S'',F.trans F'⟩)
    obtain⟨b,hb,h⟩:=aF h;have hb:=jE hb;have ht:=O1 S hb;have hy:yielded all a.tmps j=some b:=by unfold yielded;rw[hdst];simp[ht]
    have hw:Region.wanted o (yielded all a.tmps)=(some b==some want):=by unfold Region.wanted;rw[hg];simp only[hy]
    rcases br_some h with⟨hc,hh⟩|⟨hc,hh⟩
    ·have:b=want:=by cases want<;>cases b<;>simp_all [bNot]
     subst this;rw[hw,je (by simp)]
     exact .inl (go _ (KL S ht (.sv (.bool _))) hh)
    ·have:b=!want:=by cases want<;>cases b<;>simp_all [bNot]
     subst this;rw[hw,jc (by cases want<;>simp)]
     have S1:=KL S ht (.sv (.bool (!want)));have hput:iD r (fun fr=>yA E run all (all.toList.drop (i+1)) fr k) g w a (a.put o.dst undef) w:=rZ (m:=.tup []) hh S1 QW (Fm.refl _ _)
     obtain⟨hdf,fr',g',hk,S',F⟩:=hput;exact D0 hask n (i+1) (by omega) hk S' (fun a'' w'' ⟨hd',fr'',g'',hk',S'',F'⟩=>hQ a'' w'' ⟨hd'.trans hdf,fr'',g'',hk',S'',F.trans F'⟩)
   ·simp at h
end
end Kw
namespace Kw
open Go
variable [Gl]
def abD:Ex->Exit
 | .normal=>.normal
 | .ret=>.ret
 | .exit id=>.exit id
section
variable {R:Type} {r:R}
def TJ(r:R)(k:Ex->Fr->Option R)(g:G)(w:World)(ds:List Deferred)(e:Exit)(a':Act)(w':World):Prop:=
 ∃ex,e=abD ex/\a'.defers=ds/\∃fr' g',k ex fr'=some r/\Sim fr' g' a'.tmps w'/\Fm g w g' w'
theorem TJ.trans{k:Ex->Fr->Option R}{g g1:G}{w w1:World}{ds:List Deferred}{e:Exit}{a':Act}{w':World}(h:TJ r k g1 w1 ds e a' w')(F:Fm g w g1 w1):TJ r k g w ds e a' w':=by
 obtain⟨ex,he,hd,fr',g',hk,S,F'⟩:=h;exact⟨ex,he,hd,fr',g',hk,S,F.trans F'⟩
def TK(E:Env)(run:Run)(id:Nat)(ops:Array Oper)(draw:Bool):Prop:=
 ∀{R:Type} {r:R} {k:Ex->Fr->Option R} {fr:Fr} {g:G} {a:Act} {w:World},(if draw then rA E run ops ops.toList [] (fr.kill (tK ops.toList)) (fun fr=>k .normal fr)else yA E run ops ops.toList (fr.kill (tK ops.toList)) (fun fr=>k .normal fr))=some r->Sim fr g a.tmps w->
  (Code.region id ops draw).wp E.P (TJ r k g w a.defers) a w
def tP(p:Nat->Array Oper->Bool->Prop):Code->Prop
 | .region id ops d=>p id ops d
 | .seq a b=>tP p a/\tP p b
 | .cond _ a b=>tP p a/\tP p b
 | .block _ c=>tP p c
 | .loop c=>tP p c
 |_=>True
theorem lU{E:Env}{run:Run}{L:Nat}{f:FuncId}(hhead:∀(fr:Fr) (an:Ann) (g:G) (tmps:Array Value) (w:World),Sim fr g tmps w->∃g',Sim (fr.head an) g' tmps w/\Fm g w g' w):
 ∀(c:Code),tP (TK E run) c->∀{R:Type} {r:R} {k:Ex->Fr->Option R} {fr:Fr} {g:G} {a:Act} {w:World},iM E run L f c fr k=some r->Sim fr g a.tmps w->c.wp E.P (TJ r k g w a.defers) a w
 | .skip,_,R,r,k,fr,g,a,w,h,S=>wp_skip ⟨.normal,rfl,rfl,fr,g,h,S,Fm.refl _ _⟩
 | .region id ops d,hr,R,r,k,fr,g,a,w,h,S=>hr h S
 | .seq x y,hr,R,r,k,fr,g,a,w,h,S=>by
   refine wp_seq (wp_mono (lU hhead x hr.1 (by exact h) S) ?_)
   rintro e a' w' ⟨ex,he,hd,fr',g',hk,S',F⟩;subst he;cases ex with
   |normal=>
    simp only at hk;split at hk
    ·rename_i an _;obtain⟨g2,S2,F2⟩:=hhead _ an _ _ _ S';refine wp_mono (lU hhead y hr.2 (by exact hk) S2) (fun e a'' w'' hg=>?_)
     rw[hd]at hg;exact hg.trans (F.trans F2)
    ·refine wp_mono (lU hhead y hr.2 hk S') (fun e a'' w'' hg=>?_)
     rw[hd]at hg;exact hg.trans F
   |ret=>exact⟨.ret,rfl,hd,fr',g',hk,S',F⟩
   |exit id=>exact⟨.exit id,rfl,hd,fr',g',hk,S',F⟩
 | .cond c x y,hr,R,r,k,fr,g,a,w,h,S=>by
   unfold iM at h;obtain⟨b,hb,h⟩:=aF h;have hc:=bF S c;rw[jE hb]at hc;have hc:=mK hc;rcases br_some h with⟨e,h⟩|⟨e,h⟩
   ·subst e;exact wp_cond_true hc (lU hhead x hr.1 h S)
   ·subst e;exact wp_cond_false hc (lU hhead y hr.2 h S)
 | .block id c,hr,R,r,k,fr,g,a,w,h,S=>by
   refine wp_block (wp_mono (lU hhead c hr (by exact h) S) ?_)
   rintro e a' w' ⟨ex,he,hd,fr',g',hk,S',F⟩;subst he;cases ex with
   |normal=>exact⟨.normal,rfl,hd,fr',g',hk,S',F⟩
   |ret=>exact⟨.ret,rfl,hd,fr',g',hk,S',F⟩
   |exit i=>
    simp only at hk;show Exit.inBlock id _ (.exit i) a' w';unfold Exit.inBlock;by_cases e:i=id
    ·rw[je e]at hk;subst e;simp only[ju];exact⟨.normal,rfl,hd,fr',g',hk,S',F⟩
    ·rw[jc e]at hk;simp only[e,qr];exact⟨.exit i,rfl,hd,fr',g',hk,S',F⟩
 | .loop c,hr,R,r,k,fr,g,a,w,h,S=>by
   unfold iM at h;obtain⟨g0,S0,F0⟩:=hhead _ (E.ann f (d6 c)) _ _ _ S;refine wp_loop_ghost (fun n a' w'=>a'.defers=a.defers/\∃fr' g',JX f (d6 c) n (iM E run L f c) (fun fr=>fr.head (E.ann f (d6 c))) fr' k=some r/\Sim fr' g' a'.tmps w'/\Fm g w g' w') L
    ⟨rfl,_,g0,h,S0,F0⟩ ?_
   rintro n a1 w1 ⟨hd1,fr1,g1,h1,S1,F1⟩;cases n with
   |zero=>simp[JX]at h1
   |succ n=>
    unfold JX at h1;refine wp_mono (lU hhead c hr h1 S1) ?_;rintro e a' w' ⟨ex,he,hd,fr',g',hk,S',F⟩;subst he;cases ex with
    |normal=>
     obtain⟨g2,S2,F2⟩:=hhead _ (E.ann f (d6 c)) _ _ _ S';exact⟨n,Nat.lt_succ_self n,hd.trans hd1,_,g2,hk,S2,(F1.trans F).trans F2⟩
    |ret=>exact⟨.ret,rfl,hd.trans hd1,fr',g',hk,S',F1.trans F⟩
    |exit id=>exact⟨.exit id,rfl,hd.trans hd1,fr',g',hk,S',F1.trans F⟩
 | .exit id,_,R,r,k,fr,g,a,w,h,S=>wp_exit ⟨.exit id,rfl,rfl,fr,g,h,S,Fm.refl _ _⟩
 | .ret,_,R,r,k,fr,g,a,w,h,S=>wp_ret ⟨.ret,rfl,rfl,fr,g,h,S,Fm.refl _ _⟩
 | .label _,_,R,r,k,fr,g,a,w,h,S=>by simp[iM]at h
 | .goto _,_,R,r,k,fr,g,a,w,h,S=>by simp[iM]at h
end
end Kw
namespace Kw
open Go
variable [Gl]
section
variable {g:G} {cu cu':H->Int} {w:World} {f fi:H->Option H}
def G.sub(g:G)(fi:H->Option H):G:=⟨fun h=>match fi h with|some h0=>g.rho h0|none=>.absent,g.prot⟩
def Inv(f fi:H->Option H):Prop:=∀h h',f h=some h'↔fi h'=some h
theorem iJ(hi:Inv f fi){h h':H}(e:f h=some h'):(g.sub fi).rho h'=g.rho h:=by simp[G.sub,(hi h h').1 e]
theorem ZK(hi:Inv f fi)(hc:∀h h',f h=some h'->cu' h'=cu h){v:Value}{m:MV}(h:RV g cu w v m):RV (g.sub fi) cu' w v (MY f m):=by
 cases h with
 |undef=>exact .undef _
 |sv h=>cases h with
  |bool=>exact .sv (.bool _)
  |int=>exact .sv (.int _ _)
  |str=>exact .sv (.str _)
  |ifN=>exact .sv .ifN
  |ifS=>exact .sv (.ifS _ _)
  |sl sz vf a b c d e=>exact .sv (.sl sz vf a b c d e)
 |nilp=>exact .nilp
 |nils=>exact .nils
 | @ptr hd _ _ e=>
   simp only[MY];cases hk:f hd with
   |none=>exact .undef _
   |some h'=>exact .ptr ((iJ hi hk).trans e)
 | @mapr hd _ e=>
   simp only[MY];cases hk:f hd with
   |none=>exact .undef _
   |some h'=>exact .mapr ((iJ hi hk).trans e)
 | @ref _ hd _ _ _ _ e hle hv h1=>
   simp only[MY];cases hk:f hd with
   |none=>exact .undef _
   |some h'=>exact .ref ((iJ hi hk).trans e) (by rw[hc _ _ hk];exact hle) (by rw[hc _ _ hk];exact hv) h1
 | @refN _ hd _ e hle hv h1=>
   simp only[MY];cases hk:f hd with
   |none=>exact .undef _
   |some h'=>exact .refN ((iJ hi hk).trans e) (by rw[hc _ _ hk];exact hle) (by rw[hc _ _ hk];exact hv) h1
 |ptrS vf a b c d=>exact .ptrS vf a b c d
 |ptrE=>exact .undef _
 |ptrEN=>exact .undef _
 | @deadP _ hd _ e h1=>
   simp only[MY];cases hk:f hd with
   |none=>exact .undef _
   |some h'=>exact .deadP ((iJ hi hk).trans e) h1
 | @deadM _ hd e h1=>
   simp only[MY];cases hk:f hd with
   |none=>exact .undef _
   |some h'=>exact .deadM ((iJ hi hk).trans e) h1
 | @deadR _ hd _ e h1=>
   simp only[MY];cases hk:f hd with
   |none=>exact .undef _
   |some h'=>exact .deadR ((iJ hi hk).trans e) h1
 |deadE=>exact .undef _
 |fn=>exact .undef _
 |agg=>exact .undef _
 |tup=>exact .undef _
theorem D1{g':G}{q:MV->MV}{vs:Array Value}{cs:List MV}(hf:∀v m,RV g cu w v m->RV g' cu' w v (q m))(hr:∀(j:Nat) (v:Value) (m:MV),vs[j]?=some v->cs[j]?=some m->RV g cu w v m):
 ∀(j:Nat) (v:Value) (m:MV),vs[j]?=some v->(cs.map q)[j]?=some m->RV g' cu' w v m:=by
 intro j v m h1 h2;rw[jo]at h2;obtain⟨m',h3,e⟩:=kw.1 h2;rw[<-e];exact hf v m' (hr j v m' h1 h3)
theorem D2(hi:Inv f fi)(hc:∀h h',f h=some h'->cu' h'=cu h){v:Value}{m:MV}(h:RV g cu w v m):RV (g.sub fi) cu' w v (ST f m):=by
 have h0:=ZK hi hc h;unfold ST;split
 ·rename_i _ caps;obtain⟨vs,ev,hl,hr⟩:=af0 h;rw[ev];exact .fn (by simpa using hl) (D1 (fun v m h=>ZK hi hc h) hr)
 ·exact h0
theorem ZL(hi:Inv f fi)(hc:∀h h',f h=some h'->cu' h'=cu h){v:Value}{m:MV}(h:RV g cu w v m):RV (g.sub fi) cu' w v (F7 f m):=by
 unfold F7;split
 ·rename_i hd n i c;cases hk:f hd with
  |none=>exact .undef _
  |some h'=>
   cases h with
   |sv h=>cases h
   |ptrE e hle hv h1=>exact .ptrE ((iJ hi hk).trans e) (by rw[hc _ _ hk];exact hle) (by rw[hc _ _ hk];exact hv) h1
   |ptrEN e hle hz h1=>exact .ptrEN ((iJ hi hk).trans e) (by rw[hc _ _ hk];exact hle) (by rw[hc _ _ hk];exact hz) h1
   |deadE e h1=>exact .deadE ((iJ hi hk).trans e) h1
 ·rename_i cs;obtain⟨vs,ev,hl,hr⟩:=yF h;rw[ev];exact .agg (by simpa using hl) (D1 (fun v m h=>D2 hi hc h) hr)
 ·rename_i cs;obtain⟨vs,ev,hl,hr⟩:=WC h;rw[ev];exact .tup (by simpa using hl) (D1 (fun v m h=>D2 hi hc h) hr)
 ·exact D2 hi hc h
theorem ZM{ob:Ob}{h:H}{o:Obj}(hm:(h,o)∈mI f ob):∃h0 o0,(h0,o0)∈ob/\f h0=some h/\o=B0 f o0:=by
 unfold mI at hm;obtain⟨p,hp,e⟩:=List.mem_filterMap.1 hm;cases hk:f p.1 with
 |none=>rw[hk]at e;simp at e
 |some h'=>
  rw[hk]at e;simp only[Option.some.injEq,Prod.mk.injEq]at e;exact⟨p.1,p.2,hp,by rw[hk,e.1],e.2.symm⟩
theorem tQ{ob:Ob}{h:H}:h∈(mI f ob).map (·.1)↔∃h0,h0∈ob.map (·.1)/\f h0=some h:=by
 constructor
 ·intro hm;obtain⟨p,hp,e⟩:=qf.1 hm;obtain⟨h0,o0,h1,h2,_⟩:=ZM (f:=f) (h:=p.1) (o:=p.2) hp;exact⟨h0,Jc (f:=(·.1)) h1,by rw[h2,e]⟩
 ·rintro⟨h0,hm,e⟩;obtain⟨p,hp,e'⟩:=qf.1 hm;refine qf.2 ⟨(h,B0 f p.2),List.mem_filterMap.2 ⟨p,hp,?_⟩,rfl⟩;rw[e',e]
theorem abE(hi:Inv f fi){ob:Ob}(hk:(ob.map (·.1)).Nodup):((mI f ob).map (·.1)).Nodup:=by
 induction ob with
 |nil=>simp[mI]
 |cons p ob ih=>
  simp only[yh,wz]at hk;have ih:=ih hk.2;cases e:f p.1 with
  |none=>
   have:mI f (p::ob)=mI f ob:=by simp[mI,List.filterMap_cons,e]
   rw[this];exact ih
  |some h'=>
   have:mI f (p::ob)=(h',B0 f p.2)::mI f ob:=by simp[mI,List.filterMap_cons,e]
   rw[this,yh,wz];refine⟨fun hm=>?_,ih⟩
   obtain⟨h0,hm0,e0⟩:=tQ.1 hm;have h1:=(hi _ _).1 e;have h2:=(hi _ _).1 e0;rw[h1]at h2;rw[Option.some.inj h2]at hk;exact hk.1 hm0
theorem TL(hi:Inv f fi){h h':H}(hk:f h=some h'):∀ob:Ob,look (mI f ob) h'=B0 f (look ob h)
 |[]=>rfl
 |(a,o)::ob=>by
  have ih:=TL hi hk ob;unfold mI at ih⊢;cases e:f a with
  |none=>
   have ne:a≠h:=fun e'=>by rw[e',hk]at e;cases e
   simp only[List.filterMap_cons,e,look,jc ne];exact ih
  |some a'=>
   simp only[List.filterMap_cons,e,look];by_cases ea:a=h
   ·subst ea;rw[e]at hk;rw[je (Option.some.inj hk),je rfl]
   ·rw[jc ea,jc (fun e'=>ea ?_)]
    ·exact ih
    ·have h1:=(hi _ _).1 e;have h2:=(hi _ _).1 hk;rw[e',h2]at h1;exact(Option.some.inj h1).symm
theorem akD(hi:Inv f fi){h h':H}(hk:f h=some h')(ob:Ob):cur (mI f ob) h'=cur ob h:=by
 unfold cur;rw[TL hi hk];cases look ob h<;>rfl
theorem QX(hK:∀h h',f h=some h'->isK h=true->isK h'=true)(hi:Inv f fi)(him:∀i h,fi (.imp i)=some h->h=.imp i){fr:Fr}{tmps:Array Value}(S:Sim fr g tmps w):Sim (fr.sub f) (g.sub fi) tmps w/\Fm g w (g.sub fi) w:=by
 have hc:∀h h',f h=some h'->cur (mI f fr.ob) h'=cur fr.ob h:=fun h h' hk=>akD hi hk _
 have hrho:∀h,(g.sub fi).rho h≠ .absent->∃h0,f h0=some h/\(g.sub fi).rho h=g.rho h0:=by
  intro h hn;cases e:fi h with
  |none=>exact absurd (by simp[G.sub,e]) hn
  |some h0=>exact⟨h0,(hi _ _).2 e,by simp[G.sub,e]⟩
 have hblk:∀h b,((g.sub fi).rho h).blk=some b->∃h0,f h0=some h/\(g.rho h0).blk=some b:=by
  intro h b e;obtain⟨h0,e0,e'⟩:=hrho h (fun e0=>by rw[e0]at e;cases e)
  exact⟨h0,e0,by rw[<-e'];exact e⟩
 refine⟨⟨by simp[Fr.sub,S.size],fun t v m h1 h2=>?_,?_⟩,?_⟩
 ·simp only[Fr.sub,jo]at h2;obtain⟨m',h3,e⟩:=kw.1 h2;rw[<-e];exact ZL hi hc (S.slot t v m' h1 h3)
 ·refine⟨abE hi S.o.keys,fun h=>?_,fun h o hm=>?_,fun h h' b e e'=>?_,fun h b e=>?_,fun b hp=>S.o.plt b hp,S.o.gl⟩
  ·show _↔h∉(mI f fr.ob).map (·.1);rw[tQ];cases e:fi h with
   |none=>
    refine⟨fun _ ⟨h0,_,e0⟩=>?_,fun _=>by simp[G.sub,e]⟩
    rw[(hi _ _).1 e0]at e;cases e
   |some h0=>
    have:(g.sub fi).rho h=g.rho h0:=by simp[G.sub,e]
    rw[this,S.o.abs];refine⟨fun hn ⟨h1,hm,e1⟩=>?_,fun hn hm=>hn ⟨h0,hm,(hi _ _).2 e⟩⟩
    rw[(hi _ _).1 e1]at e;cases e;exact hn hm
  ·obtain⟨h0,o0,hm0,hk,e⟩:=ZM hm;have ho:=S.o.obj h0 o0 hm0;subst e;show IC (g.sub fi) (cur (mI f fr.ob)) w h _;cases o0 with
   |none=>exact(iJ hi hk).trans ho
   |cells cs=>
    obtain⟨b,arr,ty,e,hh,hn,hs,hv⟩:=ho;exact⟨b,arr,ty,(iJ hi hk).trans e,hh,hn,by simpa using hs,D1 (fun v m h=>D2 hi hc h) hv⟩
   |map es=>
    obtain⟨b,ents,clk,e,hh,hn,hs⟩:=ho;exact⟨b,ents,clk,(iJ hi hk).trans e,hh,hn,hs⟩
   |rows rs=>
    rcases ho with⟨e,hz⟩|⟨b,cap,sz,arr,ty,e,hh,hn,hs,hl,hv⟩
    ·exact .inl ⟨(iJ hi hk).trans e,hz⟩
    ·exact .inr ⟨b,cap,sz,arr,ty,(iJ hi hk).trans e,hh,hn,hs.weak (hK _ _ hk),hl,hv⟩
   |froz rs=>
    rcases ho with⟨e,hz⟩|⟨b,cap,sz,arr,ty,e,hh,hn,hs,hl,hv⟩
    ·exact .inl ⟨(iJ hi hk).trans e,hz⟩
    ·exact .inr ⟨b,cap,sz,arr,ty,(iJ hi hk).trans e,hh,hn,hs.weak (hK _ _ hk),hl,hv⟩
  ·obtain⟨h0,k0,e0⟩:=hblk h b e;obtain⟨h1,k1,e1⟩:=hblk h' b e';have:=S.o.inj h0 h1 b e0 e1;subst this;rw[k0]at k1;exact Option.some.inj k1
  ·obtain⟨h0,k0,e0⟩:=hblk h b e;exact S.o.lt h0 b e0
 ·refine⟨rfl,rfl,rfl,kg _,fun _ _ _=>rfl,fun h b e=>.inr ?_,fun _ hp=>hp,fun _ hp=>.inl hp,fun i=>?_⟩
  ·obtain⟨h0,k0,e0⟩:=hblk h b e;exact⟨h0,e0⟩
  ·cases e:fi (.imp i)with
   |none=>exact .inr (.inr (by simp[G.sub,e]))
   |some h0=>rw[him i h0 e]at e;exact .inl (by simp[G.sub,e])
theorem QY{kp:H->Bool}{fr:Fr}{tmps:Array Value}(S:Sim fr g tmps w):∃g',Sim (fr.cut kp) g' tmps w/\Fm g w g' w:=by
 refine⟨_,QX (fi:=fun h=>if kp h then some h else none) (fun h h' e hk=>by split at e<;>first|(cases e;exact hk)|(cases e;done)) (fun h h'=>?_) (fun i h e=>?_) S⟩
 ·constructor<;>intro e<;>simp only at e⊢<;>split at e<;>first|(cases e;done)|(rename_i hk;cases e;rw[je hk])
 ·split at e
  ·exact(Option.some.inj e).symm
  ·cases e
theorem TM{fr:Fr}{tmps:Array Value}(S:Sim fr g tmps w)(ks:List Nat):∃g',Sim (fr.kill ks) g' tmps w/\Fm g w g' w:=by
 unfold Fr.kill;split
 ·exact⟨g,S,Fm.refl _ _⟩
 ·split
  ·exact QY S
  ·exact⟨g,S,Fm.refl _ _⟩
theorem ZN{fr:Fr}{tmps:Array Value}(S:Sim fr g tmps w){a b:H}(hb:B8 b=true)(hab':isK a=true->isK b=true):∃g',Sim (fr.ren a b) g' tmps w/\Fm g w g' w:=by
 by_cases hab:a=b
 ·subst hab;refine⟨_,QX (fi:=fun h=>some h) (fun h h' e hk=>?_) (fun h h'=>?_) (fun i h e=>?_) S⟩
  ·by_cases e1:h=a
   ·simp only[e1,ju]at e;cases e;rw[<-e1];exact hk
   ·simp only[e1,qr]at e;cases e;exact hk
  ·by_cases e:h=a
   ·subst e;simp[eq_comm]
   ·simp[e,eq_comm]
  ·exact(Option.some.inj e).symm
 ·refine⟨_,QX (fi:=fun h=>if h=b then some a else if h=a then none else some h) (fun h h' e hk=>?_) (fun h h'=>?_) (fun i h e=>?_) S⟩
  ·by_cases e1:h=a
   ·simp only[e1,ju]at e;cases e;rw[e1]at hk;exact hab' hk
   ·simp only[e1,qr]at e;split at e
    ·cases e
    ·cases e;exact hk
  ·constructor
   ·intro e;simp only at e⊢;split at e
    ·rename_i e1;cases e;rw[je rfl,e1]
    ·rename_i e1;split at e
     ·cases e
     ·rename_i e2;cases e;rw[jc e2,jc e1]
   ·intro e;simp only at e⊢;split at e
    ·rename_i e1;cases e;rw[je rfl,e1]
    ·rename_i e1;split at e
     ·cases e
     ·rename_i e2;cases e;rw[jc e2,jc e1]
  ·by_cases e1:(H.imp i)=b
   ·rw[<-e1]at hb;simp[B8]at hb
   ·rw[jc e1]at e;split at e
    ·cases e
    ·exact(Option.some.inj e).symm
end
end Kw
namespace Kw
open Go
variable [Gl]
section
variable {g:G} {w:World} {E:Env} {run:Run} {L:Nat} {f:FuncId}
theorem TN{id:Nat}{ops:Array Oper}(hask:∀(i:Nat) (o:Oper) (Q:Exit->Act->World->Prop),ops[i]?=some o->Ask E run o Q):TK E run id ops false:=by
 intro R r k fr g a w h S;simp only[qd,qr]at h;obtain⟨g1,S1,F1⟩:=TM S (tK ops.toList);refine wp_region ?_;rw[List.range_eq_range'];refine D0 (fun i o ho=>hask i o _ ho) ops.size 0 (by omega) (by simpa using h) S1 (fun a' w' hg=>?_)
 obtain⟨hd,fr',g',hk,S',F'⟩:=hg;exact⟨.normal,rfl,hd,fr',g',hk,S',F1.trans F'⟩
theorem QZ{fr:Fr}{tmps:Array Value}(S:Sim fr g tmps w)(ls:List Nat):Sim {fr with sl:=pH ls fr.sl} g tmps w:=by
 refine⟨by simp[pH,S.size],fun t v m h1 h2=>?_,S.o⟩
 simp only[pH,jo,List.getElem?_zipIdx]at h2;cases hm:fr.sl[t]? with
 |none=>rw[hm]at h2;simp at h2
 |some m'=>
  rw[hm]at h2;simp only[yi,Option.some.injEq]at h2;subst h2;show RV g _ w v (if _ then m' else .undef)
  split
  ·exact S.slot t v m' h1 hm
  ·exact .undef _
theorem abF{fr:Fr}{tmps:Array Value}(S:Sim fr g tmps w){h:H}(hni:∀i,h≠ .imp i)(hf:h∉fr.ob.map (·.1)):Sim (fr.setObj h (.rows [])) (g.setR h .nil) tmps w/\Fm g w (g.setR h .nil) w:=by
 have habs:g.rho h=.absent:=(S.o.abs h).2 hf;have ne:∀h',g.rho h'≠ .absent->h'≠h:=fun h' hn e=>hn (e▸habs)
 have hcur:∀h',g.rho h'≠ .absent->cur (put fr.ob h (.rows [])) h'=cur fr.ob h':=fun h' hn=>dC (ne h' hn)
 have L:Later g (g.setR h .nil) (cur fr.ob) (cur (put fr.ob h (.rows []))) w w:=
  ⟨fun h' b e=>.inl ((bB (ne h' (by rw[e];simp))).trans e),fun h' b c s e=>.inr ⟨by rw[hcur h' (by rw[e];simp)];exact jz _,.inl ((bB (ne h' (by rw[e];simp))).trans e)⟩,
   fun h' e=>.inr ⟨by rw[hcur h' (by rw[e];simp)];exact jz _,.inl ((bB (ne h' (by rw[e];simp))).trans e)⟩,fun h' e=>(bB (ne h' (by rw[e];simp))).trans e,fun _ h=>h,fun _ _=>rfl⟩
 refine⟨S.later L (S.o.upd _ _ (fun h' e=>bB e) (by rw[aI];simp) L (fun _ _ _ _=>rfl) (fun _ _ _ _ hn=>hn) (.inl ⟨aI,rfl⟩) (fun h' b _ e=>by rw[aI]at e;cases e) (fun b e=>by rw[aI]at e;cases e) (kg _) S.o.plt),?_⟩
 refine⟨rfl,rfl,rfl,kg _,fun _ _ _=>rfl,fun h' b e=>?_,fun _ hp=>hp,fun _ hp=>.inl hp,fun i=>?_⟩
 ·by_cases eh:h'=h
  ·subst eh;rw[aI]at e;cases e
  ·rw[bB eh]at e;exact .inr ⟨h',e⟩
 ·by_cases eh:(H.imp i)=h
  ·exact absurd eh.symm (hni i)
  ·exact .inl (bB eh)
theorem KN{fr:Fr}{tmps:Array Value}(S:Sim fr g tmps w)(h:H)(hl:B8 h=true):∃g',Sim (fr.layNil h) g' tmps w/\Fm g w g' w/\g'.rho h=.nil/\cur (fr.layNil h).ob h=0:=by
 obtain⟨g1,S1,F1⟩:=QY (kp:=fun h'=>h' !=h) S
 have hf:h∉(fr.cut fun h'=>h' !=h).ob.map (·.1):=fun hm=>by
  have hm:h∈(mI (fun h'=>if(h' !=h)=true then some h' else none) fr.ob).map (·.1):=hm
  obtain⟨h0,_,e⟩:=tQ.1 hm;split at e
  ·rename_i hne;cases e;simp at hne
  ·cases e
 obtain⟨S2,F2⟩:=abF S1 (fun i e=>by rw[e]at hl;cases hl) hf
 refine⟨_,S2,F1.trans F2,aI,?_⟩;show cur (put _ _ _) _=0;unfold cur;rw[iW];rfl
theorem I1{cu:H->Int}{v:Value}(h:RV g cu w v .nils):v=.slice none 0 0:=by
 cases h with
 |sv h=>cases h
 |nils=>rfl
theorem afH{fr:Fr}{tmps:Array Value}(S:Sim fr g tmps w){s:Nat}{m:MV}(hm:fr.get s=m)(hu:m≠ .undef):∃v,tmps[s]?=some v/\RV g (cur fr.ob) w v m:=by
 have hlt:s<fr.sl.length:=by
  rcases yo s fr.sl.length with h'|h'
  ·exact h'
  ·unfold Fr.get at hm;rw[jr,qo h']at hm;exact absurd hm.symm hu
 have h1:fr.sl[s]?=some m:=by
  unfold Fr.get at hm;rw[jr,jj hlt]at hm;rw[jj hlt];simpa using hm
 have h2:tmps[s]?=some (tmps[s]'(by rw[S.size];exact hlt)):=kq _
 exact⟨_,h2,S.slot s _ _ h2 h1⟩
theorem abG{fr:Fr}{tmps:Array Value}(S:Sim fr g tmps w){b:H}{cs:List MV}(ho:fr.obj b=.cells cs){c:Nat}{m:MV}(hm:∀v,RV g (cur fr.ob) w v (cs.getD c .undef)->RV g (cur fr.ob) w v m):
 Sim (fr.setObj b (.cells (cs.set c m))) g tmps w:=by
 have hk:b∈fr.ob.map (·.1):=rY (by show fr.obj b≠ .none;rw[ho];simp)
 have hmem:=lS hk;have hob:look fr.ob b=.cells cs:=ho;rw[hob]at hmem;obtain⟨k,arr,ty,e,hh,hn,hs,hv⟩:=S.o.obj _ _ hmem;have hcur:∀h,cur (put fr.ob b (.cells (cs.set c m))) h=cur fr.ob h:=fun h=>by
  by_cases eh:h=b
  ·subst eh;unfold cur;rw[iW,hob]
  ·exact dC eh
 have hcur':cur (put fr.ob b (.cells (cs.set c m)))=cur fr.ob:=funext hcur;have L:Later g g (cur fr.ob) (cur (put fr.ob b (.cells (cs.set c m)))) w w:=by
  rw[hcur'];exact⟨fun _ _ e=>.inl e,fun _ _ _ _ e=>.inr ⟨jz _,.inl e⟩,fun _ e=>.inr ⟨jz _,.inl e⟩,fun _ e=>e,fun _ h=>h,fun _ _=>rfl⟩
 refine S.later L (S.o.upd b _ (fun _ _=>rfl) (by rw[e];simp) L (fun _ _ _ _=>rfl) (fun _ _ _ _ h=>h) ?_ (fun h' x ne e1 e2=>ne (S.o.inj h' b x e2 e1)) (fun x e1=>S.o.lt b x e1) (kg _) S.o.plt)
 refine⟨k,arr,ty,e,hh,hn,by simpa using hs,fun j v m' h1 h2=>?_⟩
 rw[hcur'];by_cases ej:c=j
 ·subst ej;have hlt:c<cs.length:=by
   have:=(jm.1 h2).1;simpa using this
  rw[List.getElem?_set_self hlt]at h2;cases h2;refine hm v (hv c v _ h1 ?_);rw[jr,jj hlt];rfl
 ·rw[List.getElem?_set_ne ej]at h2;exact hv j v m' h1 h2
theorem afI{fr:Fr}{tmps:Array Value}(S:Sim fr g tmps w)(x:Nat×Option Nat×H)(hb:B8 x.2.2=true):∃g',Sim (fr.own1 x) g' tmps w/\Fm g w g' w:=by
 have id:∃g',Sim fr g' tmps w/\Fm g w g' w:=⟨g,S,Fm.refl _ _⟩;obtain⟨s,oc,h⟩:=x;have href:∀{g1:G} {ob:Ob} {v:Value},g1.rho h=.nil->cur ob h=0->v=.slice none 0 0->RV g1 (cur ob) w v (.ref h (nrows [])):=fun e ec ev=>by
  subst ev;exact .refN e (by rw[ec];exact jz _) (fun _=>⟨_,rfl⟩) rfl
 cases oc with
 |none=>
  unfold Fr.own1;simp only;split
  ·rename_i hs;obtain⟨g1,S1,F1,e1,ec⟩:=KN S h hb;split
   ·rename_i hs1;obtain⟨v,hv,hr⟩:=afH S1 hs1 (by simp)
    exact⟨g1,KL S1 hv (href e1 ec (I1 hr)),F1⟩
   ·exact id
  ·split
   ·exact id
   ·rename_i hne;exact ZN S hb (fun hk=>by
     simp only[not_or,hk,jy,yu,Bool.not_eq_false]at hne;exact hne.2.2)
  ·exact id
 |some c=>
  unfold Fr.own1;simp only;split
  ·rename_i b _ hs;split
   ·rename_i cs hob;split
    ·obtain⟨g1,S1,F1,e1,ec⟩:=KN S h hb;split
     ·rename_i cs' hob';split
      ·rename_i hn;exact⟨g1,abG S1 hob' (fun v hv=>by rw[hn]at hv;exact href e1 ec (I1 hv)),F1⟩
      ·exact id
     ·exact id
    ·split
     ·exact id
     ·rename_i hne;exact ZN S hb (fun hk=>by
       simp only[not_or,hk,jy,yu,Bool.not_eq_false]at hne;exact hne.2.2)
    ·exact id
   ·exact id
  ·exact id
theorem TO{tmps:Array Value}:∀(l:List (Nat×Option Nat×H)) {fr:Fr} {g:G},(∀x∈l,B8 x.2.2=true)->Sim fr g tmps w->∃g',Sim (l.foldl Fr.own1 fr) g' tmps w/\Fm g w g' w
 |[],fr,g,_,S=>⟨g,S,Fm.refl _ _⟩
 |x::l,fr,g,hl,S=>by
  obtain⟨g1,S1,F1⟩:=afI S x (hl x qk);obtain⟨g2,S2,F2⟩:=TO l (fun y hy=>hl y (kz _ hy)) S1
  exact⟨g2,S2,F1.trans F2⟩
theorem KO(p:H×Obj):∀ob:Ob,(Y3 p ob).Perm (p::ob)
 |[]=>.refl _
 |q::r=>by
  unfold Y3;split
  ·exact .refl _
  ·exact((KO p r).cons q).trans (.swap p q r)
theorem HJ:∀ob:Ob,(rD ob).Perm ob
 |[]=>.refl _
 |p::r=>(KO p (rD r)).trans ((HJ r).cons p)
theorem afJ{fr:Fr}{tmps:Array Value}(S:Sim fr g tmps w):Sim fr.sort g tmps w:=by
 have hp:=HJ fr.ob;have hk:(rD fr.ob|>.map (·.1)).Perm (fr.ob.map (·.1)):=hp.map _;have hn:(rD fr.ob|>.map (·.1)).Nodup:=hk.nodup_iff.2 S.o.keys;have hl:∀h,look (rD fr.ob) h=look fr.ob h:=fun h=>by
  by_cases hm:h∈fr.ob.map (·.1)
  ·exact G9 hn (hp.mem_iff.2 (lS hm))
  ·rw[rX hm,rX (fun e=>hm (hk.mem_iff.1 e))]
 have hc:cur (rD fr.ob)=cur fr.ob:=funext fun h=>by unfold cur;rw[hl]
 refine⟨S.size,fun t v m h1 h2=>?_,hn,fun h=>?_,fun h o hm=>?_,S.o.inj,S.o.lt,S.o.plt,S.o.gl⟩
 ·show RV g (cur (rD fr.ob)) w v m;rw[hc];exact S.slot t v m h1 h2
 ·exact(S.o.abs h).trans (not_congr hk.mem_iff).symm
 ·show IC g (cur (rD fr.ob)) w h o;rw[hc];exact S.o.obj h o (hp.mem_iff.1 hm)
theorem afK(fr:Fr)(an:Ann)(g:G)(tmps:Array Value)(w:World)(S:Sim fr g tmps w):∃g',Sim (fr.head an) g' tmps w/\Fm g w g' w:=by
 obtain⟨g1,S1,F1⟩:=TO (an.own.filter fun x=>B8 x.2.2) (fun x hx=>(wv.1 hx).2) (QZ S an.live)
 obtain⟨g2,S2,F2⟩:=QY (kp:=fun h=>(Y2 ((an.own.filter fun x=>B8 x.2.2).foldl Fr.own1 {fr with sl:=pH an.live fr.sl}).sl (((an.own.filter fun x=>B8 x.2.2).foldl Fr.own1 {fr with sl:=pH an.live fr.sl}).ob.filter fun p=>(Y2 ((an.own.filter fun x=>B8 x.2.2).foldl Fr.own1 {fr with sl:=pH an.live fr.sl}).sl []).contains p.1)).contains h||(match h with| .imp _=>true| .impc _ _=>true|_=>false)) S1
 exact⟨g2,afJ S2,F1.trans F2⟩
end
end Kw
namespace Kw
open Go
variable [Gl]
inductive BC(g:G)(cu:H->Int)(w:World):Value->MV->List Nat->Prop
 |rv {v:Value} {m:MV} (h:RV g cu w v m):BC g cu w v m []
 |own0 {a:Option Addr}:BC g cu w (.slice a 0 0) (.own []) []
 |own {b cap sz:Nat} {arr:Array Value} {ty:TypeId} {rs:List Row} (hh:w.heap[b]?=some (.cells arr ty (0,0))) (hn:¬g.prot b) (hs:JY false arr cap sz rs) (hl:rs.length<=cap) (hr:iC w g.prot arr sz rs):
  BC g cu w (.slice (some ⟨b,0,none⟩) rs.length cap) (.own rs) [b]
 |ownK0 {a:Option Addr}:BC g cu w (.slice a 0 0) (.ownK []) []
 |ownK {b cap sz:Nat} {arr:Array Value} {ty:TypeId} {rs:List Row} (hh:w.heap[b]?=some (.cells arr ty (0,0))) (hn:¬g.prot b) (hs:JY true arr cap sz rs) (hl:rs.length<=cap) (hr:iC w g.prot arr sz rs):
  BC g cu w (.slice (some ⟨b,0,none⟩) rs.length cap) (.ownK rs) [b]
inductive BCs(g:G)(cu:H->Int)(w:World):List Value->List MV->List Nat->Prop
 |nil:BCs g cu w [] [] []
 |cons {v:Value} {m:MV} {f:List Nat} {vs:List Value} {ms:List MV} {fs:List Nat} (h:BC g cu w v m f) (t:BCs g cu w vs ms fs):BCs g cu w (v::vs) (m::ms) (f++fs)
inductive BV(g:G)(cu:H->Int)(w:World):Value->MV->List Nat->Prop
 |one {v:Value} {m:MV} {f:List Nat} (h:BC g cu w v m f):BV g cu w v m f
 |agg {vs:Array Value} {cs:List MV} {f:List Nat} (h:BCs g cu w vs.toList cs f):BV g cu w (.agg vs) (.agg cs) f
inductive BVs(g:G)(cu:H->Int)(w:World):List Value->List MV->List Nat->Prop
 |nil:BVs g cu w [] [] []
 |cons {v:Value} {m:MV} {f:List Nat} {vs:List Value} {ms:List MV} {fs:List Nat} (h:BV g cu w v m f) (t:BVs g cu w vs ms fs):BVs g cu w (v::vs) (m::ms) (f++fs)
inductive BO(g:G)(cu:H->Int)(w:World):GH->Obj->List Nat->Prop
 |cells {b:Nat} {arr:Array Value} {ty:TypeId} {cs:List MV} {f:List Nat} (hh:w.heap[b]?=some (.cells arr ty (0,0))) (hn:¬g.prot b) (h:BCs g cu w arr.toList cs f):BO g cu w (.box b) (.cells cs) f
 |map {b:Nat} {ents:Array MapEntry} {clk:Nat} {es:List (ByteArray×Bool)} (hh:w.heap[b]?=some (.map ents clk)) (hn:¬g.prot b) (h:apZ ents es):BO g cu w (.box b) (.map es) []
 |rows {b cap sz:Nat} {arr:Array Value} {ty:TypeId} {rs:List Row} (hh:w.heap[b]?=some (.cells arr ty (0,0))) (hn:¬g.prot b) (hs:JY false arr cap sz rs) (hl:rs.length<=cap) (hr:iC w g.prot arr sz rs):BO g cu w (.mem b cap sz) (.rows rs) []
 |rowsN:BO g cu w .nil (.rows []) []
inductive BOs(g:G)(cu:H->Int)(w:World):List GH->List Obj->List Nat->Prop
 |nil:BOs g cu w [] [] []
 |cons {x:GH} {o:Obj} {f:List Nat} {gs:List GH} {os:List Obj} {fs:List Nat} (h:BO g cu w x o f) (t:BOs g cu w gs os fs):BOs g cu w (x::gs) (o::os) (f++fs)
section
variable {g g':G} {cu cu':H->Int} {w w':World} {f fi:H->Option H}
theorem BC.mono{v:Value}{m:MV}{fp:List Nat}(h:BC g cu w v m fp)(L:Later g g' cu cu' w w')(hf:∀b∈fp,w'.heap[b]?=w.heap[b]?/\¬g'.prot b):BC g' cu' w' v m fp:=by
 cases h with
 |rv h=>exact .rv (h.mono L)
 |own0=>exact .own0
 |own hh hn hs hl hr=>exact .own ((hf _ (by simp)).1.trans hh) (hf _ (by simp)).2 hs hl (hr.mono L.prot L.heap)
 |ownK0=>exact .ownK0
 |ownK hh hn hs hl hr=>exact .ownK ((hf _ (by simp)).1.trans hh) (hf _ (by simp)).2 hs hl (hr.mono L.prot L.heap)
theorem BCs.mono{vs:List Value}{ms:List MV}{fp:List Nat}(h:BCs g cu w vs ms fp)(L:Later g g' cu cu' w w')(hf:∀b∈fp,w'.heap[b]?=w.heap[b]?/\¬g'.prot b):BCs g' cu' w' vs ms fp:=by
 induction h with
 |nil=>exact .nil
 |cons h _ ih=>exact .cons (h.mono L fun b hb=>hf b (jw _ hb)) (ih fun b hb=>hf b (jn _ hb))
theorem BV.mono{v:Value}{m:MV}{fp:List Nat}(h:BV g cu w v m fp)(L:Later g g' cu cu' w w')(hf:∀b∈fp,w'.heap[b]?=w.heap[b]?/\¬g'.prot b):BV g' cu' w' v m fp:=by
 cases h with
 |one h=>exact .one (h.mono L hf)
 |agg h=>exact .agg (h.mono L hf)
theorem BVs.mono{vs:List Value}{ms:List MV}{fp:List Nat}(h:BVs g cu w vs ms fp)(L:Later g g' cu cu' w w')(hf:∀b∈fp,w'.heap[b]?=w.heap[b]?/\¬g'.prot b):BVs g' cu' w' vs ms fp:=by
 induction h with
 |nil=>exact .nil
 |cons h _ ih=>exact .cons (h.mono L fun b hb=>hf b (jw _ hb)) (ih fun b hb=>hf b (jn _ hb))
theorem BO.mono{x:GH}{o:Obj}{fp:List Nat}(h:BO g cu w x o fp)(L:Later g g' cu cu' w w')(hf:∀b∈fp,w'.heap[b]?=w.heap[b]?/\¬g'.prot b)(hb:∀b,x.blk=some b->w'.heap[b]?=w.heap[b]?/\(¬g.prot b->¬g'.prot b)):BO g' cu' w' x o fp:=by
 cases h with
 |cells hh hn h=>exact .cells ((hb _ rfl).1.trans hh) ((hb _ rfl).2 hn) (h.mono L hf)
 |map hh hn h=>exact .map ((hb _ rfl).1.trans hh) ((hb _ rfl).2 hn) h
 |rows hh hn hs hl hr=>exact .rows ((hb _ rfl).1.trans hh) ((hb _ rfl).2 hn) hs hl (hr.mono L.prot L.heap)
 |rowsN=>exact .rowsN
theorem BOs.mono{gs:List GH}{os:List Obj}{fp:List Nat}(h:BOs g cu w gs os fp)(L:Later g g' cu cu' w w')(hf:∀b∈fp,w'.heap[b]?=w.heap[b]?/\¬g'.prot b)(hb:∀x∈gs,∀b,x.blk=some b->w'.heap[b]?=w.heap[b]?/\(¬g.prot b->¬g'.prot b)):BOs g' cu' w' gs os fp:=by
 induction h with
 |nil=>exact .nil
 |cons h _ ih=>exact .cons (h.mono L (fun b hb=>hf b (jw _ hb)) (hb _ (by simp))) (ih (fun b hb=>hf b (jn _ hb)) fun x hx=>hb x (kz _ hx))
theorem BC.sub(hi:Inv f fi)(hc:∀h h',f h=some h'->cu' h'=cu h){v:Value}{m:MV}{fp:List Nat}(h:BC g cu w v m fp):BC (g.sub fi) cu' w v (ST f m) fp:=by
 cases h with
 |rv h=>exact .rv (D2 hi hc h)
 |own0=>exact .own0
 |own hh hn hs hl hr=>exact .own hh hn hs hl hr
 |ownK0=>exact .ownK0
 |ownK hh hn hs hl hr=>exact .ownK hh hn hs hl hr
theorem BCs.sub(hi:Inv f fi)(hc:∀h h',f h=some h'->cu' h'=cu h){vs:List Value}{ms:List MV}{fp:List Nat}(h:BCs g cu w vs ms fp):BCs (g.sub fi) cu' w vs (ms.map (ST f)) fp:=by
 induction h with
 |nil=>exact .nil
 |cons h _ ih=>exact .cons (h.sub hi hc) ih
theorem BV.sub(hi:Inv f fi)(hc:∀h h',f h=some h'->cu' h'=cu h){v:Value}{m:MV}{fp:List Nat}(h:BV g cu w v m fp):BV (g.sub fi) cu' w v (F7 f m) fp:=by
 cases h with
 |one h=>
  cases h with
  |rv h=>exact .one (.rv (ZL hi hc h))
  |own0=>exact .one .own0
  |own hh hn hs hl hr=>exact .one (.own hh hn hs hl hr)
  |ownK0=>exact .one .ownK0
  |ownK hh hn hs hl hr=>exact .one (.ownK hh hn hs hl hr)
 |agg h=>exact .agg (h.sub hi hc)
theorem BVs.sub(hi:Inv f fi)(hc:∀h h',f h=some h'->cu' h'=cu h){vs:List Value}{ms:List MV}{fp:List Nat}(h:BVs g cu w vs ms fp):BVs (g.sub fi) cu' w vs (ms.map (F7 f)) fp:=by
 induction h with
 |nil=>exact .nil
 |cons h _ ih=>exact .cons (h.sub hi hc) ih
theorem BO.sub(hi:Inv f fi)(hc:∀h h',f h=some h'->cu' h'=cu h){b:GH}{o:Obj}{fp:List Nat}(h:BO g cu w b o fp):BO (g.sub fi) cu' w b (B0 f o) fp:=by
 cases h with
 |cells hh hn h=>exact .cells hh hn (h.sub hi hc)
 |map hh hn h=>exact .map hh hn h
 |rows hh hn hs hl hr=>exact .rows hh hn hs hl hr
 |rowsN=>exact .rowsN
theorem BOs.sub(hi:Inv f fi)(hc:∀h h',f h=some h'->cu' h'=cu h){bs:List GH}{os:List Obj}{fp:List Nat}(h:BOs g cu w bs os fp):BOs (g.sub fi) cu' w bs (os.map (B0 f)) fp:=by
 induction h with
 |nil=>exact .nil
 |cons h _ ih=>exact .cons (h.sub hi hc) ih
theorem abH{vs:List Value}{ms:List MV}(h:Rl (RV g cu w) vs ms):BCs g cu w vs ms []:=by
 induction h with
 |nil=>exact .nil
 |cons h _ ih=>exact .cons (.rv h) ih
theorem afL{v:Value}{cs:List MV}{fp:List Nat}(h:BV g cu w v (.agg cs) fp):∃vs:Array Value,v=.agg vs/\BCs g cu w vs.toList cs fp:=by
 cases h with
 |one h=>
  cases h with
  |rv h=>
   obtain⟨vs,e,hl,hr⟩:=yF h;exact⟨vs,e,abH (n7 _ _ (by simpa using hl) fun j v m h1 h2=>hr j v m (by simpa using h1) h2)⟩
 |agg h=>exact⟨_,rfl,h⟩
structure Ad(fr fr':Fr)(g g':G)(F:List Nat)(w:World):Prop where
 later:Later g g' (cur fr.ob) (cur fr'.ob) w w
 blk:∀h b,(g'.rho h).blk=some b->(g.rho h).blk=some b\/b∈F
 prot:g'.prot=g.prot
 keep:∀h,g.rho h≠ .absent->g'.rho h=g.rho h
 imp:∀i,g'.rho (.imp i)=g.rho (.imp i)
 sl:fr'.sl=fr.sl
theorem Ad.refl(fr:Fr)(g:G)(w:World):Ad fr fr g g [] w:=⟨Later.refl,fun _ _ e=>.inl e,rfl,fun _ _=>rfl,fun _=>rfl,rfl⟩
theorem Ad.trans{fr1 fr2 fr3:Fr}{g1 g2 g3:G}{F F':List Nat}(a:Ad fr1 fr2 g1 g2 F w)(b:Ad fr2 fr3 g2 g3 F' w):Ad fr1 fr3 g1 g3 (F++F') w where
 later:=a.later.trans b.later
 blk:=fun h k e=>by
  rcases b.blk h k e with x|x
  ·rcases a.blk h k x with y|y
   ·exact .inl y
   ·exact .inr (jw _ y)
  ·exact .inr (jn _ x)
 prot:=b.prot.trans a.prot
 keep:=fun h e=>(b.keep h (by rw[a.keep h e];exact e)).trans (a.keep h e)
 imp:=fun i=>(b.imp i).trans (a.imp i)
 sl:=b.sl.trans a.sl
variable {fr:Fr} {tmps:Array Value} {R:Type} {r:R}
theorem ZO(S:Sim fr g tmps w){h:H}(him:∀i,h≠ .imp i)(hf:h∉fr.ob.map (·.1))(o:Obj)(x:GH)(F:List Nat)(hx:x≠ .absent)(hF:∀b,x.blk=some b->b∈F)
 (hb:∀b,x.blk=some b->b<w.heap.size/\∀h',(g.rho h').blk≠some b)
 (ho:Later g (g.setR h x) (cur fr.ob) (cur (put fr.ob h o)) w w->IC (g.setR h x) (cur (put fr.ob h o)) w h o):
 Sim (fr.setObj h o) (g.setR h x) tmps w/\Ad fr (fr.setObj h o) g (g.setR h x) F w:=by
 have habs:g.rho h=.absent:=(S.o.abs h).2 hf;have ne:∀h',g.rho h'≠ .absent->h'≠h:=fun h' hn e=>hn (e▸habs)
 have L:Later g (g.setR h x) (cur fr.ob) (cur (put fr.ob h o)) w w:=by
  refine⟨fun h' b e=>.inl ((bB (ne h' (by rw[e];simp))).trans e),fun h' b c s e=>.inr ?_,fun h' e=>.inr ?_,fun h' e=>(bB (ne h' (by rw[e];simp))).trans e,fun b hp=>hp,fun b hp=>rfl⟩
  ·have:=ne h' (by rw[e];simp)
   exact⟨by rw[dC this];exact jz _,.inl ((bB this).trans e)⟩
  ·have:=ne h' (by rw[e];simp)
   exact⟨by rw[dC this];exact jz _,.inl ((bB this).trans e)⟩
 refine⟨S.later L (S.o.upd h o (fun h' e=>bB e) (by rw[aI];exact hx) L (fun _ _ _ _=>rfl) (fun _ _ _ _ hn=>hn)
  (ho L) (fun h' b _ e e'=>?_) (fun b e=>?_) (kg _) S.o.plt),L,fun h' b e=>?_,rfl,fun h' e=>bB (ne h' e),fun i=>bB (fun e=>him i e.symm),rfl⟩
 ·rw[aI]at e;exact(hb b e).2 h' e'
 ·rw[aI]at e;exact(hb b e).1
 ·by_cases eh:h'=h
  ·subst eh;rw[aI]at e;exact .inr (hF b e)
  ·rw[bB eh]at e;exact .inl e
theorem heap_lt{b:Nat}{o:Go.Obj}(h:w.heap[b]?=some o):b<w.heap.size:=(Je.1 h).1
theorem afM{h:H}{i:Nat}(hn:h≠ .imp i):kn h≠ .imp i:=by cases h<;>simp_all [kn]
theorem afN{h:H}(hn:∀i,h≠ .imp i):isK (kn h)=true:=by
 cases h with
 |imp i=>exact absurd rfl (hn i)
 |impc i j=>simp[kn,isK]
 |loc t j=>simp[kn,isK]
theorem O2(S:Sim fr g tmps w){h:H}(him:∀i,h≠ .imp i)(hf:h∉fr.ob.map (·.1)){rs:List Row}{b cap sz:Nat}{arr:Array Value}{ty:TypeId}(hh:w.heap[b]?=some (.cells arr ty (0,0)))(hn:¬g.prot b)(hs:JY (isK h) arr cap sz rs)(hl:rs.length<=cap)(hr:iC w g.prot arr sz rs)(hb:∀h',(g.rho h').blk≠some b):
 ∃g',Sim (fr.setObj h (.rows rs)) g' tmps w/\Ad fr (fr.setObj h (.rows rs)) g g' [b] w/\RV g' (cur (fr.setObj h (.rows rs)).ob) w (.slice (some ⟨b,0,none⟩) rs.length cap) (.ref h (nrows rs)):=by
 have hcur:cur (put fr.ob h (.rows rs)) h=nrows rs:=by unfold cur;rw[iW]
 obtain⟨S',A⟩:=ZO S him hf (.rows rs) (.mem b cap sz) [b] (by simp) (fun b e=>by cases e;simp) (fun b' e=>by cases e;exact⟨heap_lt hh,hb⟩) (fun _=>.inr ⟨b,cap,sz,arr,ty,aI,hh,hn,hs,hl,hr⟩)
 refine⟨_,S',A,.ref aI (by show _<=cur (put _ _ _) _;rw[hcur];exact jz _) (fun _=>?_) rfl⟩
 have:(nrows rs).toNat=rs.length:=by unfold nrows;simp
 rw[this]
theorem KP(S:Sim fr g tmps w){h:H}(him:∀i,h≠ .imp i)(hf:h∉fr.ob.map (·.1)){a:Option Addr}:
 ∃g',Sim (fr.setObj h (.rows [])) g' tmps w/\Ad fr (fr.setObj h (.rows [])) g g' [] w/\RV g' (cur (fr.setObj h (.rows [])).ob) w (.slice a 0 0) (.ref h (nrows [])):=by
 have hcur:cur (put fr.ob h (.rows [])) h=nrows []:=by unfold cur;rw[iW]
 obtain⟨S',A⟩:=ZO S him hf (.rows []) .nil [] (by simp) (fun b e=>by cases e) (fun b e=>by cases e) (fun _=>.inl ⟨aI,rfl⟩)
 exact⟨_,S',A,.refN aI (by show _<=cur (put _ _ _) _;rw[hcur];exact jz _) (fun _=>⟨_,rfl⟩) rfl⟩
theorem O3(S:Sim fr g tmps w){h:H}(him:∀i,h≠ .imp i)(hf:h∉fr.ob.map (·.1)){rs:List Row}{v:Value}{f:List Nat}{cu:H->Int}(hv:BC g cu w v (.own rs) f)(hb:∀b∈f,∀h',(g.rho h').blk≠some b):
 ∃g',Sim (fr.setObj h (.rows rs)) g' tmps w/\Ad fr (fr.setObj h (.rows rs)) g g' f w/\RV g' (cur (fr.setObj h (.rows rs)).ob) w v (.ref h (nrows rs)):=by
 cases hv with
 |rv h=>cases h with|sv h=>cases h
 |own0=>exact KP S him hf
 |own hh hn hs hl hr=>exact O2 S him hf hh hn (hs.weak fun e=>by cases e) hl hr (hb _ (by simp))
theorem KQ(S:Sim fr g tmps w){h:H}(him:∀i,h≠ .imp i)(hK:isK h=true)(hf:h∉fr.ob.map (·.1)){rs:List Row}{v:Value}{f:List Nat}{cu:H->Int}(hv:BC g cu w v (.ownK rs) f)(hb:∀b∈f,∀h',(g.rho h').blk≠some b):
 ∃g',Sim (fr.setObj h (.rows rs)) g' tmps w/\Ad fr (fr.setObj h (.rows rs)) g g' f w/\RV g' (cur (fr.setObj h (.rows rs)).ob) w v (.ref h (nrows rs)):=by
 cases hv with
 |rv h=>cases h with|sv h=>cases h
 |ownK0=>exact KP S him hf
 |ownK hh hn hs hl hr=>exact O2 S him hf hh hn (by rw[hK];exact hs) hl hr (hb _ (by simp))
theorem BC.np{v:Value}{m:MV}{f:List Nat}(h:BC g cu w v m f):∀b∈f,¬g.prot b:=by
 cases h with
 |rv=>intro b hb;simp at hb
 |own0=>intro b hb;simp at hb
 |own hh hn=>intro b hb;simp at hb;subst hb;exact hn
 |ownK0=>intro b hb;simp at hb
 |ownK hh hn=>intro b hb;simp at hb;subst hb;exact hn
theorem BCs.np{vs:List Value}{ms:List MV}{f:List Nat}(h:BCs g cu w vs ms f):∀b∈f,¬g.prot b:=by
 induction h with
 |nil=>intro b hb;simp at hb
 |cons h _ ih=>intro b hb;exact(jv.1 hb).elim (h.np b) (ih b)
theorem BV.np{v:Value}{m:MV}{f:List Nat}(h:BV g cu w v m f):∀b∈f,¬g.prot b:=by
 cases h with
 |one h=>exact h.np
 |agg h=>exact h.np
theorem BVs.np{vs:List Value}{ms:List MV}{f:List Nat}(h:BVs g cu w vs ms f):∀b∈f,¬g.prot b:=by
 induction h with
 |nil=>intro b hb;simp at hb
 |cons h _ ih=>intro b hb;exact(jv.1 hb).elim (h.np b) (ih b)
theorem BO.np{x:GH}{o:Obj}{f:List Nat}(h:BO g cu w x o f):∀b∈f,¬g.prot b:=by
 cases h with
 |cells _ _ h=>exact h.np
 |map=>intro b hb;simp at hb
 |rows=>intro b hb;simp at hb
 |rowsN=>intro b hb;simp at hb
theorem BOs.np{bs:List GH}{os:List Obj}{f:List Nat}(h:BOs g cu w bs os f):∀b∈f,¬g.prot b:=by
 induction h with
 |nil=>intro b hb;simp at hb
 |cons h _ ih=>intro b hb;exact(jv.1 hb).elim (h.np b) (ih b)
theorem BOs.ne{gs:List GH}{os:List Obj}{f:List Nat}(h:BOs g cu w gs os f):∀(j:Nat) (x:GH),gs[j]?=some x->x≠ .absent:=by
 induction h with
 |nil=>intro j x hx;simp at hx
 |cons h _ ih=>
  intro j x hx;cases j with
  |zero=>simp at hx;subst hx;cases h<;>simp
  |succ j=>exact ih j x (by simpa using hx)
theorem BOs.nd{gs:List GH}{os:List Obj}{f:List Nat}(h:BOs g cu w gs os f):∀(j:Nat) (x:GH),gs[j]?=some x->x≠ .dead:=by
 induction h with
 |nil=>intro j x hx;simp at hx
 |cons h _ ih=>
  intro j x hx;cases j with
  |zero=>simp at hx;subst hx;cases h<;>simp
  |succ j=>exact ih j x (by simpa using hx)
def MV.isOwn:MV->Bool| .own _| .ownK _=>true|_=>false
theorem own_of{m:MV}(h:m.isOwn=true):∃rs,m=.own rs\/m=.ownK rs:=by cases m<;>simp_all [MV.isOwn]
theorem BC.rv_of{v:Value}{m:MV}{f:List Nat}(h:BC g cu w v m f)(hm:m.isOwn=false):f=[]/\RV g cu w v m:=by
 cases h with
 |rv h=>exact⟨rfl,h⟩
 |own0=>simp[MV.isOwn]at hm
 |own=>simp[MV.isOwn]at hm
 |ownK0=>simp[MV.isOwn]at hm
 |ownK=>simp[MV.isOwn]at hm
theorem Q0{nm:Nat->H}{m:MV}(hm:m.isOwn=false)(ms:List MV)(j:Nat)(fr:Fr)(k:List MV->Fr->Option R):qE nm (m::ms) j fr k=qE nm ms (j+1) fr fun ms fr=>k (m::ms) fr:=by
 cases m<;>first|rfl|simp[MV.isOwn]at hm
theorem AZ{nm:Nat->H}(hnm:∀j i,nm j≠ .imp i):∀(ms:List MV) {vs:List Value} {f:List Nat} {j:Nat} {fr:Fr} {g:G} {k:List MV->Fr->Option R},qE nm ms j fr k=some r->Sim fr g tmps w->BCs g (cur fr.ob) w vs ms f->f.Nodup->(∀b∈f,∀h,(g.rho h).blk≠some b)->
 ∃ms' fr' g',k ms' fr'=some r/\Sim fr' g' tmps w/\Ad fr fr' g g' f w/\Rl (RV g' (cur fr'.ob) w) vs ms'
 |[],vs,f,j,fr,g,k,h,S,hv,_,_=>by
  cases hv;exact⟨[],fr,g,h,S,Ad.refl _ _ _,.nil⟩
 |m::ms,vs,f,j,fr,g,k,h,S,hv,hnd,hb=>by
  cases hv with
  | @cons v _ f1 vs _ fs hv ht=>
    obtain⟨hnd1,hnd2,hdis⟩:=qt.1 hnd;by_cases hm:m.isOwn=true
    ·rcases own_of hm with⟨rs,e|e⟩
     ·subst e;simp only[qE]at h;obtain⟨hfree,h⟩:=iE h;obtain⟨g1,S1,A1,hr1⟩:=O3 S (hnm j) hfree hv (fun b hb'=>hb b (jw _ hb'))
      obtain⟨ms',fr',g',hk,S',A',hr'⟩:=AZ hnm ms h S1 (ht.mono A1.later fun b hb'=>⟨rfl,by rw[A1.prot];exact ht.np b hb'⟩) hnd2 (fun b hb' h' e=>by
       rcases A1.blk h' b e with x|x
       ·exact hb b (jn _ hb') h' x
       ·exact hdis b x b hb' rfl)
      exact⟨_,fr',g',hk,S',A1.trans A',.cons (hr1.mono A'.later) hr'⟩
     ·subst e;simp only[qE]at h;obtain⟨hfree,h⟩:=iE h;obtain⟨g1,S1,A1,hr1⟩:=KQ S (fun i=>afM (hnm j i)) (afN (hnm j)) hfree hv (fun b hb'=>hb b (jw _ hb'))
      obtain⟨ms',fr',g',hk,S',A',hr'⟩:=AZ hnm ms h S1 (ht.mono A1.later fun b hb'=>⟨rfl,by rw[A1.prot];exact ht.np b hb'⟩) hnd2 (fun b hb' h' e=>by
       rcases A1.blk h' b e with x|x
       ·exact hb b (jn _ hb') h' x
       ·exact hdis b x b hb' rfl)
      exact⟨_,fr',g',hk,S',A1.trans A',.cons (hr1.mono A'.later) hr'⟩
    ·have hm:m.isOwn=false:=by simpa using hm
     rw[Q0 hm]at h;obtain⟨e,hr⟩:=hv.rv_of hm;subst e;obtain⟨ms',fr',g',hk,S',A',hr'⟩:=AZ hnm ms h S ht hnd2 (fun b hb'=>hb b (jn _ hb'))
     exact⟨_,fr',g',hk,S',A',.cons (hr.mono A'.later) hr'⟩
def MV.isAg:MV->Bool| .agg _=>true|_=>false
theorem HK{m:MV}(h:m.isAg=true):∃rs,m=.agg rs:=by cases m<;>simp_all [MV.isAg]
theorem BV.bc_of{v:Value}{m:MV}{f:List Nat}(h:BV g cu w v m f)(hm:m.isAg=false):BC g cu w v m f:=by
 cases h with
 |one h=>exact h
 |agg=>simp[MV.isAg]at hm
theorem Q1{nm:Nat->Nat->H}{m:MV}(hm:m.isOwn=false)(ha:m.isAg=false)(ms:List MV)(j:Nat)(fr:Fr)(k:List MV->Fr->Option R):mH nm (m::ms) j fr k=mH nm ms (j+1) fr fun ms fr=>k (m::ms) fr:=by
 cases m<;>first|rfl|(cases hm;done)|(cases ha;done)
theorem A0{nm:Nat->Nat->H}(hnm:∀t j i,nm t j≠ .imp i):∀(ms:List MV) {vs:List Value} {f:List Nat} {j:Nat} {fr:Fr} {g:G} {k:List MV->Fr->Option R},mH nm ms j fr k=some r->Sim fr g tmps w->BVs g (cur fr.ob) w vs ms f->f.Nodup->(∀b∈f,∀h,(g.rho h).blk≠some b)->
 ∃ms' fr' g',k ms' fr'=some r/\Sim fr' g' tmps w/\Ad fr fr' g g' f w/\Rl (RV g' (cur fr'.ob) w) vs ms'
 |[],vs,f,j,fr,g,k,h,S,hv,_,_=>by
  cases hv;exact⟨[],fr,g,h,S,Ad.refl _ _ _,.nil⟩
 |m::ms,vs,f,j,fr,g,k,h,S,hv,hnd,hb=>by
  cases hv with
  | @cons v _ f1 vs _ fs hv ht=>
    obtain⟨hnd1,hnd2,hdis⟩:=qt.1 hnd;by_cases hm:m.isOwn=true
    ·rcases own_of hm with⟨rs,e|e⟩
     ·subst e;simp only[mH]at h;obtain⟨hfree,h⟩:=iE h;obtain⟨g1,S1,A1,hr1⟩:=O3 S (hnm j 0) hfree (hv.bc_of rfl) (fun b hb'=>hb b (jw _ hb'))
      obtain⟨ms',fr',g',hk,S',A',hr'⟩:=A0 hnm ms h S1 (ht.mono A1.later fun b hb'=>⟨rfl,by rw[A1.prot];exact ht.np b hb'⟩) hnd2 (fun b hb' h' e=>by
       rcases A1.blk h' b e with x|x
       ·exact hb b (jn _ hb') h' x
       ·exact hdis b x b hb' rfl)
      exact⟨_,fr',g',hk,S',A1.trans A',.cons (hr1.mono A'.later) hr'⟩
     ·subst e;simp only[mH]at h;obtain⟨hfree,h⟩:=iE h;obtain⟨g1,S1,A1,hr1⟩:=KQ S (fun i=>afM (hnm j 0 i)) (afN (hnm j 0)) hfree (hv.bc_of rfl) (fun b hb'=>hb b (jw _ hb'))
      obtain⟨ms',fr',g',hk,S',A',hr'⟩:=A0 hnm ms h S1 (ht.mono A1.later fun b hb'=>⟨rfl,by rw[A1.prot];exact ht.np b hb'⟩) hnd2 (fun b hb' h' e=>by
       rcases A1.blk h' b e with x|x
       ·exact hb b (jn _ hb') h' x
       ·exact hdis b x b hb' rfl)
      exact⟨_,fr',g',hk,S',A1.trans A',.cons (hr1.mono A'.later) hr'⟩
    ·have hm:m.isOwn=false:=by simpa using hm
     by_cases ha:m.isAg=true
     ·obtain⟨cs,e⟩:=HK ha;subst e;simp only[mH]at h;obtain⟨us,ev,hc⟩:=afL hv;obtain⟨cs',fr1,g1,h,S1,A1,hr1⟩:=AZ (hnm j) cs h S hc hnd1 (fun b hb'=>hb b (jw _ hb'))
      obtain⟨ms',fr',g',hk,S',A',hr'⟩:=A0 hnm ms h S1 (ht.mono A1.later fun b hb'=>⟨rfl,by rw[A1.prot];exact ht.np b hb'⟩) hnd2 (fun b hb' h' e=>by
       rcases A1.blk h' b e with x|x
       ·exact hb b (jn _ hb') h' x
       ·exact hdis b x b hb' rfl)
      refine⟨_,fr',g',hk,S',A1.trans A',.cons ?_ hr'⟩;have hr2:=hr1.mono (Rr':=RV g' (cur fr'.ob) w) fun _ _ hx=>hx.mono A'.later
      rw[ev];exact .agg (by have:=hr2.len;simpa using this) fun q x y h1 h2=>hr2.at q x y (by simpa using h1) h2
     ·have ha:m.isAg=false:=by simpa using ha
      rw[Q1 hm ha]at h;obtain⟨e,hr⟩:=(hv.bc_of ha).rv_of hm;subst e;obtain⟨ms',fr',g',hk,S',A',hr'⟩:=A0 hnm ms h S ht hnd2 (fun b hb'=>hb b (jn _ hb'))
      exact⟨_,fr',g',hk,S',A',.cons (hr.mono A'.later) hr'⟩
theorem afO(S:Sim fr g tmps w){h:H}{b:Nat}{arr:Array Value}{ty:TypeId}{cs:List MV}(e:g.rho h=.box b)(hh:w.heap[b]?=some (.cells arr ty (0,0)))(hv:Rl (RV g (cur fr.ob) w) arr.toList cs):
 Sim (fr.setObj h (.cells cs)) g tmps w/\cur (put fr.ob h (.cells cs))=cur fr.ob:=by
 have hk:h∈fr.ob.map (·.1):=by
  refine Classical.byContradiction fun hn=>?_
  rw[(S.o.abs h).2 hn]at e;cases e
 have hmem:=lS hk;have hob:=S.o.obj _ _ hmem;have hcc:cur fr.ob h= -1/\¬g.prot b:=by
  unfold cur;cases ho:look fr.ob h with
  |none=>rw[ho]at hob;have:g.rho h=.dead:=hob;rw[this]at e;cases e
  |cells cs0=>rw[ho]at hob;obtain⟨b',_,_,e',_,hn,_⟩:=hob;rw[e]at e';cases e';exact⟨rfl,hn⟩
  |map es=>rw[ho]at hob;obtain⟨b',_,_,e',hh',_⟩:=hob;rw[e]at e';cases e';rw[hh]at hh';cases hh'
  |rows rs=>rw[ho]at hob;rcases hob with⟨e',_⟩|⟨_,_,_,_,_,e',_⟩<;>(rw[e]at e';cases e')
  |froz rs=>rw[ho]at hob;rcases hob with⟨e',_⟩|⟨_,_,_,_,_,e',_⟩<;>(rw[e]at e';cases e')
 have hcur:cur (put fr.ob h (.cells cs))=cur fr.ob:=funext fun h'=>by
  by_cases eh:h'=h
  ·subst eh;rw[hcc.1];unfold cur;rw[iW]
  ·exact dC eh
 have L:Later g g (cur fr.ob) (cur (put fr.ob h (.cells cs))) w w:=by rw[hcur];exact Later.refl
 refine⟨S.later L (S.o.upd h _ (fun _ _=>rfl) (by rw[e];simp) L (fun _ _ _ _=>rfl) (fun _ _ _ _ h=>h) ?_ (fun h' x ne e1 e2=>ne (S.o.inj h' h x e2 e1)) (fun x e1=>S.o.lt h x e1) (kg _) S.o.plt),hcur⟩
 rw[hcur];exact⟨b,arr,ty,e,hh,hcc.2,by have:=hv.len;simpa using this,fun j v m h1 h2=>hv.at j v m (by simpa using h1) h2⟩
theorem sC{nm:Nat->Nat->H}(hnm:∀t j i,nm t j≠ .imp i):∀(hs:List H) (os:List Obj) {bs:List GH} {fs:List Nat} {i:Nat} {fr:Fr} {g:G} {k:Fr->Option R},eG nm hs os i fr k=some r->Sim fr g tmps w->BOs g (cur fr.ob) w bs os fs->
 (∀(j:Nat) (h:H) (b:GH),hs[j]?=some h->bs[j]?=some b->g.rho h=b)->fs.Nodup->(∀b∈fs,∀h,(g.rho h).blk≠some b)->
 ∃fr' g',k fr'=some r/\Sim fr' g' tmps w/\Ad fr fr' g g' fs w
 |[],os,bs,fs,i,fr,g,k,h,S,hv,_,_,_=>by
  have A:=Ad.refl fr g w;refine⟨fr,g,?_,S,⟨A.later,fun h b e=>.inl e,A.prot,A.keep,A.imp,rfl⟩⟩
  unfold eG at h;exact h
 |h0::hs,[],bs,fs,i,fr,g,k,h,S,hv,_,_,_=>by
  have A:=Ad.refl fr g w;refine⟨fr,g,?_,S,⟨A.later,fun h b e=>.inl e,A.prot,A.keep,A.imp,rfl⟩⟩
  unfold eG at h;exact h
 |h0::hs,o::os,bs,fs,i,fr,g,k,h,S,hv,hbx,hnd,hb=>by
  cases hv with
  | @cons b _ f1 bs _ fs hv ht=>
    obtain⟨hnd1,hnd2,hdis⟩:=qt.1 hnd;cases hv with
    | @cells b arr ty cs _ hh hn hc=>
      simp only[eG]at h;obtain⟨cs',fr1,g1,h,S1,A1,hr1⟩:=AZ (hnm i) cs h S hc hnd1 (fun b hb'=>hb b (jw _ hb'))
      have e0:g.rho h0=.box b:=hbx 0 h0 _ rfl rfl;have e1:g1.rho h0=.box b:=(A1.keep h0 (by rw[e0];simp)).trans e0
      obtain⟨S2,hcur⟩:=afO S1 e1 hh hr1;have L12:Later g1 g1 (cur fr1.ob) (cur (put fr1.ob h0 (.cells cs'))) w w:=by rw[hcur];exact Later.refl
      have A2:Ad fr (fr1.setObj h0 (.cells cs')) g g1 f1 w:=⟨A1.later.trans L12,A1.blk,A1.prot,A1.keep,A1.imp,A1.sl⟩;obtain⟨fr',g',hk,S',A'⟩:=sC hnm hs os h S2 (ht.mono A2.later (fun b hb'=>⟨rfl,by rw[A1.prot];exact ht.np b hb'⟩) fun x _ b _=>⟨rfl,fun hn=>by rw[A1.prot];exact hn⟩) (fun j h b h1 h2=>by
       have:=hbx (j+1) h b (by simpa using h1) (by simpa using h2)
       exact(A1.keep h (by rw[this];exact ht.ne j b (by simpa using h2))).trans this) hnd2 (fun b hb' h' e=>by
       rcases A1.blk h' b e with x|x
       ·exact hb b (jn _ hb') h' x
       ·exact hdis b x b hb' rfl)
      exact⟨fr',g',hk,S',A2.trans A'⟩
    |map hh hn hm=>
     simp only[eG]at h;obtain⟨fr',g',hk,S',A'⟩:=sC hnm hs os h S ht (fun j h b h1 h2=>hbx (j+1) h b (by simpa using h1) (by simpa using h2)) hnd2 (fun b hb'=>hb b (jn _ hb'))
     exact⟨fr',g',hk,S',A'⟩
    |rows hh hn hm=>
     simp only[eG]at h;obtain⟨fr',g',hk,S',A'⟩:=sC hnm hs os h S ht (fun j h b h1 h2=>hbx (j+1) h b (by simpa using h1) (by simpa using h2)) hnd2 (fun b hb'=>hb b (jn _ hb'))
     exact⟨fr',g',hk,S',A'⟩
    |rowsN=>
     simp only[eG]at h;obtain⟨fr',g',hk,S',A'⟩:=sC hnm hs os h S ht (fun j h b h1 h2=>hbx (j+1) h b (by simpa using h1) (by simpa using h2)) hnd2 (fun b hb'=>hb b (jn _ hb'))
     exact⟨fr',g',hk,S',A'⟩
end
end Kw
namespace Kw
open Go
variable [Gl]
section
variable {fr:Fr} {g g':G} {tmps:Array Value} {w:World} {R:Type} {r:R}
structure Gv(fr fr':Fr)(g g':G)(f:List Nat)(tmps:Array Value)(w:World):Prop where
 sim:Sim fr' g' tmps w
 later:Later g g' (cur fr.ob) (cur fr'.ob) w w
 box:∀h b,g.rho h=.box b->g'.rho h=.box b
 blk:∀h b,(g'.rho h).blk=some b->(g.rho h).blk=some b
 own:∀b∈f,(∃h,(g.rho h).blk=some b/\∀b',g.rho h≠ .box b')/\(∀h,(g'.rho h).blk≠some b)/\¬g'.prot b
 nod:f.Nodup
 prot':∀b,g'.prot b->g.prot b\/∃h,(g.rho h).blk=some b/\∀b',g.rho h≠ .box b'
 imp:∀i,g'.rho (.imp i)=g.rho (.imp i)\/g'.rho (.imp i)=.dead\/g'.rho (.imp i)=.absent
 sl:fr'.sl=fr.sl
theorem Gv.refl(S:Sim fr g tmps w):Gv fr fr g g [] tmps w:=
 ⟨S,Later.refl,fun _ _ e=>e,fun _ _ e=>e,fun b hb=>by simp at hb,.nil,fun _ h=>.inl h,fun _=>.inl rfl,rfl⟩
theorem Gv.trans{fr1 fr2 fr3:Fr}{g1 g2 g3:G}{f f':List Nat}(a:Gv fr1 fr2 g1 g2 f tmps w)(b:Gv fr2 fr3 g2 g3 f' tmps w):Gv fr1 fr3 g1 g3 (f++f') tmps w where
 sim:=b.sim
 later:=a.later.trans b.later
 box:=fun h k e=>b.box h k (a.box h k e)
 blk:=fun h k e=>a.blk h k (b.blk h k e)
 own:=fun k hk=>by
  rcases jv.1 hk with x|x
  ·obtain⟨h1,h2,h3⟩:=a.own k x;refine⟨h1,fun h e=>h2 h (b.blk h k e),fun hp=>?_⟩
   rcases b.prot' k hp with y|⟨h,y,_⟩
   ·exact h3 y
   ·exact h2 h y
  ·obtain⟨⟨h0,h1,hnb⟩,h2,h3⟩:=b.own k x;refine⟨⟨h0,a.blk _ _ h1,fun b' e=>hnb b' (a.box h0 b' e)⟩,h2,h3⟩
 nod:=qt.2 ⟨a.nod,b.nod,fun x hx y hy e=>by
  subst e;obtain⟨⟨h0,h1,_⟩,_⟩:=b.own x hy;exact(a.own x hx).2.1 h0 h1⟩
 prot':=fun k hp=>by
  rcases b.prot' k hp with x|⟨h,x,hn⟩
  ·exact a.prot' k x
  ·exact .inr ⟨h,a.blk h k x,fun b' e=>hn b' (a.box h b' e)⟩
 imp:=fun i=>by
  rcases b.imp i with x|x
  ·rcases a.imp i with y|y
   ·exact .inl (x.trans y)
   ·exact .inr (by rw[x];exact y)
  ·exact .inr x
 sl:=b.sl.trans a.sl
theorem rows_nobox(S:SimO fr.ob g w){h:H}{x:List Row}(e:fr.obj h=.rows x):g.rho h=.nil\/∃b c s,g.rho h=.mem b c s:=by
 rcases obj_of S e (by simp)with⟨er,_⟩|⟨b,c,s,_,_,er,_⟩
 ·exact .inl er
 ·exact .inr ⟨b,c,s,er⟩
theorem afP(S:Sim fr g tmps w){h:H}{x:List Row}{n:Int}{v:Value}(e:fr.obj h=.rows x)(hn:n=nrows x)(hv:RV g (cur fr.ob) w v (.ref h n)):
 ∃f,Gv fr (fr.setObj h .none) g (g.setR h .dead) f tmps w/\BC (g.setR h .dead) (cur (fr.setObj h .none).ob) w v (if isK h=true then .ownK x else .own x) f:=by
 have hcur:n=cur fr.ob h:=by unfold cur;unfold Fr.obj at e;rw[e];exact hn
 have hnb:=rows_nobox S.o e;have hnb':∀b,g.rho h≠ .box b:=fun b e'=>by rcases hnb with x|⟨_,_,_,x⟩<;>(rw[e']at x;cases x)
 have L:Later g (g.setR h .dead) (cur fr.ob) (cur (put fr.ob h .none)) w w:=by
  refine⟨fun h' b e'=>?_,fun h' b c s e'=>?_,fun h' e'=>?_,fun h' e'=>?_,fun _ hp=>hp,fun _ _=>rfl⟩
  ·by_cases eh:h'=h
   ·subst eh;exact absurd e' (hnb' b)
   ·exact .inl ((bB eh).trans e')
  ·by_cases eh:h'=h
   ·subst eh;exact .inl aI
   ·exact .inr ⟨by rw[dC eh];exact jz _,.inl ((bB eh).trans e')⟩
  ·by_cases eh:h'=h
   ·subst eh;exact .inl aI
   ·exact .inr ⟨by rw[dC eh];exact jz _,.inl ((bB eh).trans e')⟩
  ·by_cases eh:h'=h
   ·subst eh;exact aI
   ·exact(bB eh).trans e'
 have S':Sim (fr.setObj h .none) (g.setR h .dead) tmps w:=
  S.later L (S.o.upd h .none (fun h' e=>bB e) (by rw[aI];simp) L (fun _ _ _ _=>rfl) (fun _ _ _ _ hn=>hn) (aI)
    (fun h' b _ e=>by rw[aI]at e;cases e) (fun b e=>by rw[aI]at e;cases e) (kg _) S.o.plt)
 have G':∀f,(∀b∈f,(g.rho h).blk=some b/\¬g.prot b)->f.Nodup->Gv fr (fr.setObj h .none) g (g.setR h .dead) f tmps w:=fun f hf hnd=>by
  refine⟨S',L,fun h' b e'=>?_,fun h' b e'=>?_,fun b hb=>⟨⟨h,(hf b hb).1,hnb'⟩,fun h' e'=>?_,(hf b hb).2⟩,hnd,fun _ hp=>.inl hp,fun i=>?_,rfl⟩
  ·exact(bB fun eh=>hnb' b (by rw[<-eh];exact e')).trans e'
  ·by_cases eh:h'=h
   ·subst eh;rw[aI]at e';cases e'
   ·rw[bB eh]at e';exact e'
  ·by_cases eh:h'=h
   ·subst eh;rw[aI]at e';cases e'
   ·rw[bB eh]at e';exact eh (S.o.inj h' h b e' (hf b hb).1)
  ·by_cases eh:(H.imp i)=h
   ·exact .inr (.inl (by rw[eh,aI]))
   ·exact .inl (bB eh)
 rcases obj_of S.o e (by simp)with⟨er,ex⟩|⟨b,cap,sz,arr,ty,er,hh,hnp,hs,hl,hr⟩
 ·subst ex;obtain⟨a0,ev⟩:=tN hv er hcur;rw[ev];refine⟨[],G' [] (fun b hb=>by simp at hb) .nil,?_⟩
  split
  ·exact .ownK0
  ·exact .own0
 ·refine⟨[b],G' [b] (fun b' hb=>?_) (by simp),?_⟩
  ·simp at hb;subst hb;exact⟨by rw[er];rfl,hnp⟩
  ·rw[yG hv er hcur,hn];have:(nrows x).toNat=x.length:=by unfold nrows;simp
   rw[this];split
   ·rename_i hk;rw[hk]at hs;exact .ownK hh hnp hs hl hr
   ·rename_i hk;rw[Jt]at hk;rw[hk]at hs;exact .own hh hnp hs hl hr
theorem TP{mv:Bool}{m:MV}{k:MV->Fr->Option R}{v:Value}(h:oO mv fr m k=some r)(S:Sim fr g tmps w)(hv:RV g (cur fr.ob) w v m):
 ∃m' fr' g' f,k m' fr'=some r/\Gv fr fr' g g' f tmps w/\BC g' (cur fr'.ob) w v m' f:=by
 unfold oO at h;split at h
 ·split at h
  ·rename_i x e;rcases br_some h with⟨en,h⟩|⟨_,h⟩
   ·split at h
    ·obtain⟨f,G',B'⟩:=afP S e (iEq_true en) hv;split at h
     ·rename_i hk;rw[je hk]at B';exact⟨_,_,_,f,h,G',B'⟩
     ·rename_i hk;rw[jc hk]at B';exact⟨_,_,_,f,h,G',B'⟩
    ·obtain⟨g',S',sv,L,F,er,hp⟩:=J5 S e (iEq_true en) hv;refine⟨_,_,g',[],h,⟨S',L,fun h b e=>by rw[er];exact e,fun h b e=>by rw[er]at e;exact e,fun b hb=>by simp at hb,.nil,fun b hb=>?_,F.imp,rfl⟩,.rv (.sv sv)⟩
     rcases hp b hb with y|y
     ·exact .inl y
     ·refine .inr ⟨_,y,fun b' e'=>?_⟩
      rcases rows_nobox S.o e with z|⟨_,_,_,z⟩<;>(rw[e']at z;cases z)
   ·simp at h
  ·rename_i x e;rcases br_some h with⟨en,h⟩|⟨_,h⟩
   ·exact⟨_,_,g,[],h,Gv.refl S,.rv (.sv (QN S e (iEq_true en) hv))⟩
   ·simp at h
  ·simp at h
 ·have ev:=I1 hv;subst ev;split at h
  ·exact⟨_,_,g,[],h,Gv.refl S,.own0⟩
  ·exact⟨_,_,g,[],h,Gv.refl S,.rv (.sv (J6 _ _))⟩
 ·exact⟨_,_,g,[],h,Gv.refl S,.rv hv⟩
theorem BC.next{fr1 fr2:Fr}{v:Value}{m:MV}{f f':List Nat}(h:BC g (cur fr1.ob) w v m f)(G':Gv fr1 fr2 g g' f' tmps w)(hf:∀b∈f,∀h,(g.rho h).blk≠some b):BC g' (cur fr2.ob) w v m f:=
 h.mono G'.later fun b hb=>⟨rfl,fun hp=>(G'.prot' b hp).elim (h.np b hb) fun⟨h0,e,_⟩=>hf b hb h0 e⟩
theorem BCs.next{fr1 fr2:Fr}{v:List Value}{m:List MV}{f f':List Nat}(h:BCs g (cur fr1.ob) w v m f)(G':Gv fr1 fr2 g g' f' tmps w)(hf:∀b∈f,∀h,(g.rho h).blk≠some b):BCs g' (cur fr2.ob) w v m f:=
 h.mono G'.later fun b hb=>⟨rfl,fun hp=>(G'.prot' b hp).elim (h.np b hb) fun⟨h0,e,_⟩=>hf b hb h0 e⟩
theorem BV.next{fr1 fr2:Fr}{v:Value}{m:MV}{f f':List Nat}(h:BV g (cur fr1.ob) w v m f)(G':Gv fr1 fr2 g g' f' tmps w)(hf:∀b∈f,∀h,(g.rho h).blk≠some b):BV g' (cur fr2.ob) w v m f:=
 h.mono G'.later fun b hb=>⟨rfl,fun hp=>(G'.prot' b hp).elim (h.np b hb) fun⟨h0,e,_⟩=>hf b hb h0 e⟩
theorem BVs.next{fr1 fr2:Fr}{v:List Value}{m:List MV}{f f':List Nat}(h:BVs g (cur fr1.ob) w v m f)(G':Gv fr1 fr2 g g' f' tmps w)(hf:∀b∈f,∀h,(g.rho h).blk≠some b):BVs g' (cur fr2.ob) w v m f:=
 h.mono G'.later fun b hb=>⟨rfl,fun hp=>(G'.prot' b hp).elim (h.np b hb) fun⟨h0,e,_⟩=>hf b hb h0 e⟩
theorem KR{mv:Bool}:∀(ms:List MV) {vs:List Value} {fr:Fr} {g:G} {k:List MV->Fr->Option R},DK mv ms fr k=some r->Sim fr g tmps w->Rl (RV g (cur fr.ob) w) vs ms->
 ∃ms' fr' g' f,k ms' fr'=some r/\Gv fr fr' g g' f tmps w/\BCs g' (cur fr'.ob) w vs ms' f
 |[],vs,fr,g,k,h,S,hv=>by
  cases hv;exact⟨[],fr,g,[],h,Gv.refl S,.nil⟩
 |m::ms,vs,fr,g,k,h,S,hv=>by
  cases hv with
  |cons hv ht=>
   simp only[DK]at h;obtain⟨m',fr1,g1,f1,h,G1,B1⟩:=TP h S hv;obtain⟨ms',fr',g',f',hk,G',B'⟩:=KR ms h G1.sim (ht.mono fun _ _ hx=>hx.mono G1.later)
   exact⟨_,fr',g',f1++f',hk,G1.trans G',.cons (B1.next G' fun b hb=>(G1.own b hb).2.1) B'⟩
theorem KS{mv:Bool}{m:MV}(ha:m.isAg=false)(ms:List MV)(fr:Fr)(k:List MV->Fr->Option R):nZ mv (m::ms) fr k=oO mv fr m fun m fr=>nZ mv ms fr fun ms fr=>k (m::ms) fr:=by
 cases m<;>first|rfl|(cases ha;done)
theorem D3{mv:Bool}:∀(ms:List MV) {vs:List Value} {fr:Fr} {g:G} {k:List MV->Fr->Option R},nZ mv ms fr k=some r->Sim fr g tmps w->Rl (RV g (cur fr.ob) w) vs ms->
 ∃ms' fr' g' f,k ms' fr'=some r/\Gv fr fr' g g' f tmps w/\BVs g' (cur fr'.ob) w vs ms' f
 |[],vs,fr,g,k,h,S,hv=>by
  cases hv;exact⟨[],fr,g,[],h,Gv.refl S,.nil⟩
 |m::ms,vs,fr,g,k,h,S,hv=>by
  cases hv with
  |cons hv ht=>
   by_cases ha:m.isAg=true
   ·obtain⟨cs,e⟩:=HK ha;subst e;simp only[nZ]at h;obtain⟨us,ev,hl,hr⟩:=yF hv;obtain⟨cs',fr1,g1,f1,h,G1,B1⟩:=KR cs h S (n7 us.toList cs (by simpa using hl) fun j v m h1 h2=>hr j v m (by simpa using h1) h2)
    obtain⟨ms',fr',g',f',hk,G',B'⟩:=D3 ms h G1.sim (ht.mono fun _ _ hx=>hx.mono G1.later)
    subst ev;exact⟨_,fr',g',f1++f',hk,G1.trans G',.cons (.agg (B1.next G' fun b hb=>(G1.own b hb).2.1)) B'⟩
   ·have ha:m.isAg=false:=by simpa using ha
    rw[KS ha]at h;obtain⟨m',fr1,g1,f1,h,G1,B1⟩:=TP h S hv;obtain⟨ms',fr',g',f',hk,G',B'⟩:=D3 ms h G1.sim (ht.mono fun _ _ hx=>hx.mono G1.later)
    exact⟨_,fr',g',f1++f',hk,G1.trans G',.cons (.one (B1.next G' fun b hb=>(G1.own b hb).2.1)) B'⟩
theorem yN:∀(hs:List H) {fr:Fr} {g:G} {k:List Obj->Fr->Option R},jD hs fr k=some r->Sim fr g tmps w->
 ∃os fr' g' f bs,k os fr'=some r/\Gv fr fr' g g' f tmps w/\BOs g' (cur fr'.ob) w bs os f/\bs.length=hs.length/\(∀(j:Nat) (h:H) (b:GH),hs[j]?=some h->bs[j]?=some b->g'.rho h=b)/\∀(j:Nat) (h:H) (x:List Row),hs[j]?=some h->os[j]?=some (.rows x)->fr'.obj h=.rows x
 |[],fr,g,k,h,S=>⟨[],fr,g,[],[],h,Gv.refl S,.nil,rfl,fun j h b h1=>(by simp at h1),fun j h b h1=>(by simp at h1)⟩
 |h0::hs,fr,g,k,h,S=>by
  unfold jD at h;split at h
  ·rename_i cs ec;obtain⟨b,arr,ty,e,hh,hn,hs0,hv⟩:=obj_of S.o ec (by simp)
   obtain⟨cs',fr1,g1,f1,h,G1,B1⟩:=KR cs h S (n7 arr.toList cs (by simpa using hs0) fun j v m h1 h2=>hv j v m (by simpa using h1) h2)
   obtain⟨os,fr',g',f',bs,hk,G',B',hl,hbx,hrw⟩:=yN hs h G1.sim;have e1:=G1.box h0 b e;have hn1:¬g1.prot b:=fun hp=>(G1.prot' b hp).elim hn fun⟨h1,e1',hnb⟩=>by
    have:=S.o.inj h1 h0 b e1' (by rw[e];rfl)
    subst this;exact hnb b e
   have hn':¬g'.prot b:=fun hp=>(G'.prot' b hp).elim hn1 fun⟨h1,e1',hnb⟩=>by
    have:=G1.sim.o.inj h1 h0 b e1' (by rw[e1];rfl)
    subst this;exact hnb b e1
   refine⟨_,fr',g',f1++f',.box b::bs,hk,G1.trans G',.cons (.cells hh hn' (B1.next G' fun b hb=>(G1.own b hb).2.1)) B',by simp[hl],fun j h b' h1 h2=>?_,fun j h x h1 h2=>?_⟩
   ·cases j with
    |zero=>simp at h1 h2;subst h1;subst h2;exact G'.box _ _ e1
    |succ j=>exact hbx j h b' (by simpa using h1) (by simpa using h2)
   ·cases j with
    |zero=>simp at h2
    |succ j=>exact hrw j h x (by simpa using h1) (by simpa using h2)
  ·rename_i es ec;obtain⟨b,ents,clk,e,hh,hn,hm⟩:=obj_of S.o ec (by simp)
   obtain⟨os,fr',g',f',bs,hk,G',B',hl,hbx,hrw⟩:=yN hs h S;have hn':¬g'.prot b:=fun hp=>(G'.prot' b hp).elim hn fun⟨h1,e1',hnb⟩=>by
    have:=S.o.inj h1 h0 b e1' (by rw[e];rfl)
    subst this;exact hnb b e
   refine⟨_,fr',g',[]++f',.box b::bs,hk,G',.cons (.map hh hn' hm) B',by simp[hl],fun j h b' h1 h2=>?_,fun j h x h1 h2=>?_⟩
   ·cases j with
    |zero=>simp at h1 h2;subst h1;subst h2;exact G'.box _ _ e
    |succ j=>exact hbx j h b' (by simpa using h1) (by simpa using h2)
   ·cases j with
    |zero=>simp at h2
    |succ j=>exact hrw j h x (by simpa using h1) (by simpa using h2)
  ·split at h
   ·simp at h
   rename_i hnk;rw[Jt]at hnk;obtain⟨os,fr',g',f',bs,hk,G',B',hl,hbx,hrw⟩:=yN hs h S;split at hk
   ·rename_i x ex;refine⟨_,fr',g',[]++f',g'.rho h0::bs,hk,G',.cons ?_ B',by simp[hl],fun j h b' h1 h2=>?_,fun j h y h1 h2=>?_⟩
    ·rcases obj_of G'.sim.o ex (by simp)with⟨er,exx⟩|⟨b,cap,sz,arr,ty,er,hh,hnp,hs',hl',hr⟩
     ·rw[er,exx];exact .rowsN
     ·rw[er];rw[hnk]at hs';exact .rows hh hnp hs' hl' hr
    ·cases j with
     |zero=>simp at h1 h2;subst h1;subst h2;rfl
     |succ j=>exact hbx j h b' (by simpa using h1) (by simpa using h2)
    ·cases j with
     |zero=>simp at h1 h2;subst h1;subst h2;exact ex
     |succ j=>exact hrw j h y (by simpa using h1) (by simpa using h2)
   ·simp at hk
  ·simp at h
end
end Kw
namespace Kw
open Go
variable [Gl]
def gB(gs:List GH)(prot:Nat->Prop):G:=⟨fun h=>match h with| .imp i=>(match gs[i]? with|some x=>x|none=>.absent)|_=>.absent,prot⟩
def cuB(os:List Obj):H->Int:=fun h=>match h with| .imp i=>(match os[i]? with|some (.rows x)=>nrows x|_=> -1)|_=> -1
def blks(gs:List GH):List Nat:=gs.filterMap GH.blk
section
variable {gs:List GH} {prot:Nat->Prop} {w:World}
theorem eK{b:Nat}:b∈blks gs↔∃x∈gs,x.blk=some b:=by unfold blks;rw[List.mem_filterMap]
theorem GE{h:H}{b:Nat}(e:((gB gs prot).rho h).blk=some b):∃i x,h=.imp i/\gs[i]?=some x/\x.blk=some b:=by
 unfold gB at e;cases h with
 |imp i=>
  simp only at e;split at e
  ·rename_i x hx;exact⟨i,x,rfl,hx,e⟩
  ·cases e
 |impc i j=>cases e
 |loc t j=>cases e
theorem Q2{i:Nat}{x:GH}(e:gs[i]?=some x):(gB gs prot).rho (.imp i)=x:=by simp[gB,e]
theorem D4{cu cu':H->Int}(hc:∀i,cu (.imp i)<=cu' (.imp i)):Later (gB gs prot) (gB gs prot) cu cu' w w:=by
 have key:∀h,(gB gs prot).rho h≠ .absent->cu h<=cu' h:=fun h hn=>by
  cases h with
  |imp i=>exact hc i
  |impc i j=>exact absurd rfl hn
  |loc t j=>exact absurd rfl hn
 exact⟨fun _ _ e=>.inl e,fun h _ _ _ e=>.inr ⟨key h (by rw[e];simp),.inl e⟩,fun h e=>.inr ⟨key h (by rw[e];simp),.inl e⟩,fun _ e=>e,fun _ h=>h,fun _ _=>rfl⟩
theorem BCs.free{cu cu':H->Int}(hc:∀i,cu (.imp i)<=cu' (.imp i)){vs:List Value}{ms:List MV}{f:List Nat}(h:BCs (gB gs prot) cu w vs ms f):BCs (gB gs prot) cu' w vs ms f:=h.mono (D4 hc) fun b hb=>⟨rfl,h.np b hb⟩
theorem BV.free{cu cu':H->Int}(hc:∀i,cu (.imp i)<=cu' (.imp i)){vs:Value}{ms:MV}{f:List Nat}(h:BV (gB gs prot) cu w vs ms f):BV (gB gs prot) cu' w vs ms f:=h.mono (D4 hc) fun b hb=>⟨rfl,h.np b hb⟩
theorem BVs.free{cu cu':H->Int}(hc:∀i,cu (.imp i)<=cu' (.imp i)){vs:List Value}{ms:List MV}{f:List Nat}(h:BVs (gB gs prot) cu w vs ms f):BVs (gB gs prot) cu' w vs ms f:=h.mono (D4 hc) fun b hb=>⟨rfl,h.np b hb⟩
theorem BOs.free{cu cu':H->Int}(hc:∀i,cu (.imp i)<=cu' (.imp i)){vs:List GH}{ms:List Obj}{f:List Nat}(h:BOs (gB gs prot) cu w vs ms f):BOs (gB gs prot) cu' w vs ms f:=h.mono (D4 hc) (fun b hb=>⟨rfl,h.np b hb⟩) fun _ _ _ _=>⟨rfl,id⟩
variable {g:G} {cu:H->Int}
theorem BOs.bnp{os:List Obj}{f:List Nat}(h:BOs g cu w gs os f):∀b∈blks gs,¬g.prot b:=by
 induction h with
 |nil=>intro b hb;simp[blks]at hb
 |cons h _ ih=>
  intro b hb;obtain⟨x,hx,e⟩:=eK.1 hb;rcases ko.1 hx with y|y
  ·subst y;cases h with
   |cells _ hn _=>cases e;exact hn
   |map _ hn _=>cases e;exact hn
   |rows _ hn=>cases e;exact hn
   |rowsN=>cases e
  ·exact ih b (eK.2 ⟨x,y,e⟩)
theorem BOs.len{os:List Obj}{f:List Nat}(h:BOs g cu w gs os f):gs.length=os.length:=by
 induction h with
 |nil=>rfl
 |cons h _ ih=>simp[ih]
theorem BOs.rowsAt{os:List Obj}{f:List Nat}(h:BOs g cu w gs os f):∀(i:Nat) (x:GH),gs[i]?=some x->(∃b,x=.box b)\/∃rs,os[i]?=some (.rows rs):=by
 induction h with
 |nil=>intro i x hx;simp at hx
 |cons h _ ih=>
  intro i x hx;cases i with
  |zero=>simp at hx;subst hx;cases h with
   |cells=>exact .inl ⟨_,rfl⟩
   |map=>exact .inl ⟨_,rfl⟩
   |rows=>exact .inr ⟨_,rfl⟩
   |rowsN=>exact .inr ⟨_,rfl⟩
  |succ i=>exact ih i x (by simpa using hx)
theorem BCs.len{vs:List Value}{ms:List MV}{f:List Nat}(h:BCs g cu w vs ms f):vs.length=ms.length:=by
 induction h with
 |nil=>rfl
 |cons h _ ih=>simp[ih]
theorem BVs.len{vs:List Value}{ms:List MV}{f:List Nat}(h:BVs g cu w vs ms f):vs.length=ms.length:=by
 induction h with
 |nil=>rfl
 |cons h _ ih=>simp[ih]
theorem yO:∀(hs:List H) (h:H) (n i:Nat),hs.Nodup->(idx hs h n=some i↔n<=i/\hs[i-n]?=some h)
 |[],h,n,i,_=>by simp[idx]
 |a::hs,h,n,i,hnd=>by
  obtain⟨h1,h2⟩:=wz.1 hnd;unfold idx;by_cases e:a=h
  ·subst e;rw[je rfl];constructor
   ·intro e;cases e;simp
   ·rintro⟨hle,hi⟩;by_cases e0:i=n
    ·rw[e0]
    ·have:i-n=(i-n-1)+1:=by omega
     rw[this,List.getElem?_cons_succ]at hi;exact absurd (qi hi) h1
  ·rw[jc e,yO hs h (n+1) i h2];constructor
   ·rintro⟨hle,hi⟩;have:i-n=(i-(n+1))+1:=by omega
    exact⟨by omega,by rw[this,List.getElem?_cons_succ];exact hi⟩
   ·rintro⟨hle,hi⟩;by_cases e0:i=n
    ·subst e0;simp at hi;exact absurd hi e
    ·have:i-n=(i-(n+1))+1:=by omega
     rw[this,List.getElem?_cons_succ]at hi;exact⟨by omega,hi⟩
def frI(hs:List H)(h:H):Option H:=match h with| .imp i=>hs[i]?|_=>none
theorem I2{hs:List H}(hnd:hs.Nodup):Inv (toI hs) (frI hs):=by
 intro h h';unfold toI frI;constructor
 ·intro e;split at e
  ·rename_i i hi;cases e;have:=(yO hs h 0 i hnd).1 hi;simpa using this.2
  ·cases e
 ·intro e;cases h' with
  |imp i=>
   simp only at e;have:=(yO hs h 0 i hnd).2 ⟨by omega,by simpa using e⟩
   rw[this]
  |impc _ _=>cases e
  |loc _ _=>cases e
theorem afQ{hs:List H}(hl:gs.length=hs.length)(hb:∀(j:Nat) (h:H) (b:GH),hs[j]?=some h->gs[j]?=some b->g.rho h=b):g.sub (frI hs)=gB gs g.prot:=by
 unfold G.sub gB
 congr 1
 funext h
 cases h with
 |imp i=>
  simp only[frI];cases e:hs[i]? with
  |none=>
   have:gs[i]?=none:=by rw[List.getElem?_eq_none_iff]at e⊢;omega
   rw[this]
  |some h0=>
   have hi:i<gs.length:=by rw[hl];exact(jm.1 e).1
   rw[jj hi];exact hb i h0 _ e (jj hi)
 |impc _ _=>rfl
 |loc _ _=>rfl
theorem ZP{hs:List H}(hnd:hs.Nodup)(cu:H->Int):∀h h',toI hs h=some h'->(fun h'=>match frI hs h' with|some h=>cu h|none=> -1) h'=cu h:=by
 intro h h' e;have:=(I2 hnd h h').1 e;simp only[this]
theorem aqB{hs:List H}(hl:gs.length=hs.length){os:List Obj}{f:List Nat}(B:BOs g cu w gs os f)(hrw:∀(j:Nat) (h:H) (x:List Row),hs[j]?=some h->os[j]?=some (.rows x)->cu h=nrows x)(hbx:∀(j:Nat) (h:H),hs[j]?=some h->(∀x,os[j]?≠some (.rows x))->cu h<=-1):
 ∀i,(fun h'=>match frI hs h' with|some h=>cu h|none=> -1) (.imp i)<=cuB (os.map (B0 (toI hs))) (.imp i):=by
 intro i;simp only[frI,cuB];cases e:hs[i]? with
 |none=>
  have:os[i]?=none:=by
   have:=B.len;rw[List.getElem?_eq_none_iff]at e⊢;omega
  rw[jo,this];exact jz _
 |some h=>
  simp only;rw[jo];cases eo:os[i]? with
  |none=>exact hbx i h e (by rw[eo];simp)
  |some o=>
   cases o with
   |rows x=>simp only[yi,B0];rw[hrw i h x e eo];exact jz _
   |_=>simp only[yi,B0];exact hbx i h e (by rw[eo];simp)
theorem BVs.out{hs:List H}(hnd:hs.Nodup)(hl:gs.length=hs.length)(hb:∀(j:Nat) (h:H) (b:GH),hs[j]?=some h->gs[j]?=some b->g.rho h=b){cu':H->Int}(hc:∀i,(fun h'=>match frI hs h' with|some h=>cu h|none=> -1) (.imp i)<=cu' (.imp i)){vs:List Value}{ms:List MV}{f:List Nat}(h:BVs g cu w vs ms f):
 BVs (gB gs g.prot) cu' w vs (ms.map (F7 (toI hs))) f:=by
 have:=h.sub (I2 hnd) (ZP hnd cu);rw[afQ hl hb]at this;exact this.free hc
theorem BOs.out{hs:List H}(hnd:hs.Nodup)(hl:gs.length=hs.length)(hb:∀(j:Nat) (h:H) (b:GH),hs[j]?=some h->gs[j]?=some b->g.rho h=b){cu':H->Int}(hc:∀i,(fun h'=>match frI hs h' with|some h=>cu h|none=> -1) (.imp i)<=cu' (.imp i)){vs:List GH}{ms:List Obj}{f:List Nat}(h:BOs g cu w vs ms f):
 BOs (gB gs g.prot) cu' w vs (ms.map (B0 (toI hs))) f:=by
 have:=h.sub (I2 hnd) (ZP hnd cu);rw[afQ hl hb]at this;exact this.free hc
end
structure Pre(gs:List GH)(prot:Nat->Prop)(w:World)(vals:List Value)(args:List MV)(imps:List Obj)(fa fo:List Nat):Prop where
 vs:BVs (gB gs prot) (cuB imps) w vals args fa
 os:BOs (gB gs prot) (cuB imps) w gs imps fo
 nod:(fa++fo++blks gs).Nodup
 lt:∀b∈fa++fo++blks gs,b<w.heap.size
 plt:∀b,prot b->b<w.heap.size
 gl:yE prot w
structure Frm(F:List Nat)(prot:Nat->Prop)(w:World)(F':List Nat)(prot':Nat->Prop)(w':World):Prop where
 os:w'.os=w.os
 tape:w'.tape=w.tape
 output:w'.output=w.output
 size:w.heap.size<=w'.heap.size
 heap:∀b,b<w.heap.size->b∉F->w'.heap[b]?=w.heap[b]?
 own:∀b∈F',w.heap.size<=b\/b∈F
 psub:∀b,prot b->prot' b
 pnew:∀b,prot' b->prot b\/w.heap.size<=b\/b∈F
inductive ResR(g:G)(cu:H->Int)(w:World):Value->MV->List Nat->Prop
 |one {v:Value} {m:MV} {f:List Nat} (h:BV g cu w v m f) (hm:∀ms,m≠ .tup ms):ResR g cu w v m f
 |tup {vs:Array Value} {ms:List MV} {f:List Nat} (h:BVs g cu w vs.toList ms f):ResR g cu w (.tuple vs) (.tup ms) f
def axJ(gs:List GH)(prot:Nat->Prop)(w:World)(fa fo:List Nat)(res:Res)(v:Value)(w':World):Prop:=
 ∃ex prot' fa' fo',ResR (gB (gs++ex) prot') (cuB res.2) w' v res.1 fa'/\BOs (gB (gs++ex) prot') (cuB res.2) w' (gs++ex) res.2 fo'/\(fa'++fo'++blks (gs++ex)).Nodup/\
  (∀b∈fa'++fo'++blks (gs++ex),b<w'.heap.size)/\(∀b,prot' b->b<w'.heap.size)/\Frm (fa++fo++blks gs) prot w (fa'++fo'++blks (gs++ex)) prot' w'
def pL(P:Program)(f:FuncId)(vals:Array Value)(w:World)(R:Value->World->Prop):Prop:=
 match(callFunc f vals).run P w with
 | .ok (.enter f' args') w'=>Calls P f' args' w' fun e w''=>∃v,e=.returned v/\R v w''
 | .ok (.value v) w'=>R v w'
 |_=>False
def cL(P:Program)(run:Run):Prop:=
 ∀{f:FuncId} {args:List MV} {imps:List Obj} {res:Res} {vals:Array Value} {w:World} {gs:List GH} {prot:Nat->Prop} {fa fo:List Nat},
  run f args imps=some res->Pre gs prot w vals.toList args imps fa fo->pL P f vals w (axJ gs prot w fa fo res)
section
variable {R:Type} {r:R} {w:World}
theorem ZQ{prot:Nat->Prop}(hplt:∀b,prot b->b<w.heap.size){g1:G}{cu:H->Int}:∀(os:List Obj) {gs0 gs:List GH} {f:List Nat} {fr:Fr} {k:Fr->Option R},ajR os gs0.length fr k=some r->Sim fr (gB gs0 prot) #[] w->BOs g1 cu w gs os f->g1.prot=prot->(blks (gs0++gs)).Nodup->
 (∀b∈blks gs,b<w.heap.size)->fr.sl=[]->∃fr',k fr'=some r/\Sim fr' (gB (gs0++gs) prot) #[] w/\fr'.sl=[]/\(∀i o,os[i]?=some o->look fr'.ob (.imp (gs0.length+i))=forgetO o)/\∀h,(∀i,h≠ .imp (gs0.length+i))->look fr'.ob h=look fr.ob h
 |[],gs0,gs,f,fr,k,h,S,hv,_,_,_,hsl=>by
  cases hv;exact⟨fr,h,by rw[ka];exact S,hsl,fun i o ho=>by simp at ho,fun _ _=>rfl⟩
 |o::os,gs0,gs,f,fr,k,h,S,hv,hp,hnd,hlt,hsl=>by
  cases hv with
  | @cons x _ f1 gs _ fs hv ht=>
    simp only[ajR]at h;obtain⟨hfree,h⟩:=iE h;have hx0:∀b,x.blk=some b->b∉blks gs0:=fun b eb hm=>by
     unfold blks at hnd hm;rw[List.filterMap_append]at hnd;exact(qt.1 hnd).2.2 b hm b (by simp[eb]) rfl
    have hxa:x≠ .absent:=by cases hv<;>simp
    have eg:(gB gs0 prot).setR (.imp gs0.length) x=gB (gs0++[x]) prot:=by
     unfold G.setR gB
     congr 1
     funext h'
     by_cases e:h'=.imp gs0.length
     ·subst e;simp
     ·rw[jc e];cases h' with
      |imp i=>
       have hi:i≠gs0.length:=fun e'=>e (by rw[e'])
       simp only;by_cases hlt:i<gs0.length
       ·rw[yd hlt]
       ·rw[qo (by omega),qo (by simp;omega)]
      |impc _ _=>rfl
      |loc _ _=>rfl
    have ne:∀h',(gB gs0 prot).rho h'≠ .absent->h'≠ .imp gs0.length:=fun h' hn e=>hn (by subst e;exact(S.o.abs _).2 hfree)
    have L:Later (gB gs0 prot) ((gB gs0 prot).setR (.imp gs0.length) x) (cur fr.ob) (cur (put fr.ob (.imp gs0.length) (forgetO o))) w w:=by
     refine⟨fun h' b e=>.inl ((bB (ne h' (by rw[e];simp))).trans e),fun h' b c s e=>.inr ?_,fun h' e=>.inr ?_,fun h' e=>(bB (ne h' (by rw[e];simp))).trans e,fun b hp=>hp,fun b hp=>rfl⟩
     ·have:=ne h' (by rw[e];simp)
      exact⟨by rw[dC this];exact jz _,.inl ((bB this).trans e)⟩
     ·have:=ne h' (by rw[e];simp)
      exact⟨by rw[dC this];exact jz _,.inl ((bB this).trans e)⟩
    have hob:IC ((gB gs0 prot).setR (.imp gs0.length) x) (cur (put fr.ob (.imp gs0.length) (forgetO o))) w (.imp gs0.length) (forgetO o):=by
     cases hv with
     | @cells b arr ty cs _ hh hn hc=>
       refine⟨b,arr,ty,aI,hh,by rw[hp]at hn;exact hn,by have:=hc.len;simpa using this,fun j v m h1 h2=>?_⟩
       rw[jo]at h2;obtain⟨m',_,e⟩:=kw.1 h2;rw[<-e];exact .undef _
     | @map b _ _ _ hh hn hm=>exact⟨b,_,_,aI,hh,by rw[hp]at hn;exact hn,hm⟩
     | @rows b cap sz arr ty rs hh hn hs hl hr=>exact .inr ⟨b,cap,sz,arr,ty,aI,hh,by rw[hp]at hn;exact hn,hs,hl,by rw[hp]at hr;exact hr⟩
     |rowsN=>exact .inl ⟨aI,rfl⟩
    have S1:Sim (fr.setObj (.imp gs0.length) (forgetO o)) (gB (gs0++[x]) prot) #[] w:=by
     rw[<-eg];refine S.later L (S.o.upd _ _ (fun h' e=>bB e) (by rw[aI];exact hxa) L (fun _ _ _ _=>rfl) (fun _ _ _ _ hn=>hn) hob (fun h' y _ e e'=>?_) (fun y e=>?_) (kg _) hplt)
     ·rw[aI]at e;obtain⟨i,z,_,hi,ez⟩:=GE e';exact hx0 y e (eK.2 ⟨z,qi hi,ez⟩)
     ·rw[aI]at e;exact hlt _ (eK.2 ⟨x,by simp,e⟩)
    have hlen:gs0.length+1=(gs0++[x]).length:=by simp
    rw[hlen]at h;obtain⟨fr',hk,S',hs',hlk,hlo⟩:=ZQ hplt os h S1 ht hp (by simpa using hnd) (fun y hy=>by
     obtain⟨z,hz,e⟩:=eK.1 hy;exact hlt y (eK.2 ⟨z,kz _ hz,e⟩)) hsl
    refine⟨fr',hk,by simpa using S',hs',fun i o' ho'=>?_,fun h' hn=>?_⟩
    ·cases i with
     |zero=>
      simp at ho';subst ho';rw[hlo (.imp (gs0.length+0)) (fun i e=>by simp at e;omega)]
      exact iW
     |succ i=>
      have:=hlk i o' (by simpa using ho')
      rw[<-hlen]at this;rw[show gs0.length+(i+1)=gs0.length+1+i by omega];exact this
    ·rw[hlo h' (fun i e=>hn (i+1) (by rw[e];simp;omega))]
     exact jY (fun e=>hn 0 (by rw[e];simp))
theorem afR{fn:Func}{vals:Array Value}{args:List MV}{imps:List Obj}{gs:List GH}{prot:Nat->Prop}{fa fo:List Nat}{k:Fr->Option R}(h:SW fn args imps k=some r)(p:Pre gs prot w vals.toList args imps fa fo):
 ∃fr g,k fr=some r/\Sim fr g (vals++Array.replicate (fn.ntmps-vals.size) undef) w/\(∀h b,(g.rho h).blk=some b->b∈fa++fo++blks gs)/\g.prot=prot/\∀i,g.rho (.imp i)=(gB gs prot).rho (.imp i):=by
 unfold SW at h;have S0:Sim ⟨[],[]⟩ (gB [] prot) #[] w:=by
  refine⟨rfl,fun t v m h1=>by simp at h1,⟨by simp,fun h=>⟨fun _=>by simp,fun _=>?_⟩,fun h o hm=>by simp at hm,fun h h' b e=>?_,fun h b e=>?_,p.plt,p.gl⟩⟩
  ·cases h<;>rfl
  ·obtain⟨i,x,_,hi,_⟩:=GE e;simp at hi
  ·obtain⟨i,x,_,hi,_⟩:=GE e;simp at hi
 obtain⟨hnd1,hnd2,hdis⟩:=qt.1 p.nod;obtain⟨hnda,hndo,hdao⟩:=qt.1 hnd1;obtain⟨fr1,h,S1,hs1,hlk,_⟩:=ZQ p.plt imps (gs0:=[]) h S0 p.os rfl (by simpa using hnd2) (fun b hb=>p.lt b (jn _ hb)) rfl
 rw[qg]at S1;have hcu:∀i,cuB imps (.imp i)<=cur fr1.ob (.imp i):=fun i=>by
  unfold cuB;simp only;cases e:imps[i]? with
  |none=>
   have:look fr1.ob (.imp i)=.none:=by
    refine rX fun hm=>?_
    have:=S1.o.abs (.imp i);have ha:(gB gs prot).rho (.imp i)=.absent:=by
     have hn:gs[i]?=none:=by
      have:=p.os.len;rw[List.getElem?_eq_none_iff]at e⊢;omega
     simp[gB,hn]
    exact this.1 ha hm
   unfold cur;rw[this];exact jz _
  |some o=>
   have:=hlk i o e;simp only[jk,qx]at this;unfold cur;rw[this];cases o<;>simp[forgetO]
   all_goals (unfold nrows;omega)
 obtain⟨fr2,g2,h,S2,A2⟩:=sC (nm:=fun i j=>.impc i j) (by simp) _ imps h S1 (p.os.free hcu) (fun j h b h1 h2=>by
  rw[jo]at h1;obtain⟨j',h3,e⟩:=kw.1 h1;rw[yn (by
   have:=(jm.1 h3).1;simpa using this)]at h3
  cases h3;subst e;exact Q2 h2) hndo (fun b hb h e=>by
   obtain⟨i,x,_,hi,ex⟩:=GE e;exact hdis b (jn _ hb) b (eK.2 ⟨x,qi hi,ex⟩) rfl)
 have hav:BVs g2 (cur fr2.ob) w vals.toList args fa:=(p.vs.free hcu).mono A2.later fun b hb=>⟨rfl,by rw[A2.prot];exact p.vs.np b hb⟩
 obtain⟨sl,fr3,g3,h,S3,A3,hr⟩:=A0 (nm:=fun t j=>.loc t j) (by simp) args h S2 hav hnda (fun b hb h e=>by
  rcases A2.blk h b e with x|x
  ·obtain⟨i,y,_,hi,ey⟩:=GE x;exact hdis b (jw _ hb) b (eK.2 ⟨y,qi hi,ey⟩) rfl
  ·exact hdao b hb b x rfl)
 have hlen:args.length=vals.size:=by have:=p.vs.len;simpa using this.symm
 have hsl:sl.length=vals.size:=by have:=hr.len;simpa using this.symm
 refine⟨_,g3,h,⟨by simp[hsl,hlen],fun t v m h1 h2=>?_,S3.o⟩,fun h b e=>?_,A3.prot.trans A2.prot,fun i=>(A3.imp i).trans (A2.imp i)⟩
 ·simp only at h2;by_cases ht:t<vals.size
  ·rw[Jd ht]at h1;rw[yd (by omega)]at h2
   exact hr.at t v m (by simpa using h1) h2
  ·rw[yr (by omega)]at h2
   have:=qi h2;rw[List.mem_replicate]at this;rw[this.2];exact .undef _
 ·rcases A3.blk h b e with x|x
  ·rcases A2.blk h b x with y|y
   ·obtain⟨i,z,_,hi,ez⟩:=GE y;exact jn _ (eK.2 ⟨z,qi hi,ez⟩)
   ·exact jw _ (jn _ y)
  ·exact jw _ (jw _ x)
end
end Kw
