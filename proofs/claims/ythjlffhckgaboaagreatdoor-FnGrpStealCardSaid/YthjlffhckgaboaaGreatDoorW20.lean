import Derived.Test.YthjlffhckgaboaaGreatDoorW19
import Derived.Test.YthjlffhckgaboaaGreatDoorW16
import Derived.ChangeSlices
import Derived.ChangeOld
import Derived.Carry
import Derived.LaidMore
import Derived.LaidLaws
import Derived.Stop.LaidErr
import Derived.Stop.Joined
set_option linter.unusedVariables false
set_option linter.unusedSimpArgs false
set_option linter.unusedSectionVars false
namespace Kw
open Go Go.RowKit
variable [Gl]
section
variable {g:G} {cu:H->Int} {w:World} {f:List Nat}
theorem axH{v:Value}{m:MV}(h:RV g cu w v m)(hm:m.im=true):SV w g.prot v m:=(BV.im (f:=[]) (.one (.rv h)) hm).2
theorem aq9{vs:List Value}{ms:List MV}(h:BCs g cu w vs ms f)(hm:ms.all MV.im=true):f=[]/\Rl (fun v m=>SV w g.prot v m) vs ms:=by
 induction h with
 |nil=>exact⟨rfl,.nil⟩
 |cons h _ ih=>
  simp only[yb,jg]at hm;obtain⟨e1,s1⟩:=(BV.one h).im hm.1;obtain⟨e2,s2⟩:=ih hm.2;exact⟨by rw[e1,e2];rfl,.cons s1 s2⟩
theorem aqA{v:Value}{ms:List MV}(h:BV g cu w v (.agg ms) f)(hm:ms.all MV.im=true):f=[]/\∃vs,v=.agg vs/\Rl (fun v m=>SV w g.prot v m) vs.toList ms:=by
 cases h with
 |one h=>
  cases h with
  |rv h=>
   cases h with
   |sv h=>cases h
   |agg hl hr=>
    rename_i vs;refine⟨rfl,vs,rfl,n7 _ _ (by simpa using hl) fun j v m h1 h2=>?_⟩
    rw[qj]at h1;exact axH (hr j v m h1 h2) (kj.1 hm m (qi h2))
 |agg h=>
  obtain⟨e,r⟩:=aq9 h hm;exact⟨e,_,rfl,r⟩
end
theorem axI{R:Value->MV->Prop}{vs:List Value}{ms:List MV}(h:Rl R vs ms):vs.length=ms.length/\∀(j:Nat) (v:Value) (m:MV),vs[j]?=some v->ms[j]?=some m->R v m:=by
 induction h with
 |nil=>exact⟨rfl,fun j v m h=>by simp at h⟩
 |cons h _ ih=>
  refine⟨by simp[ih.1],fun j v m h1 h2=>?_⟩
  cases j with
  |zero=>simp at h1 h2;rw[<-h1,<-h2];exact h
  |succ j=>simp at h1 h2;exact ih.2 j v m h1 h2
theorem akA{P:Program}{f:FuncId}{q:List MV->Option MV}(hq:∀args m,q args=some m->∃ms m2 rs r2,args=[.agg ms,m2]/\ms.all MV.im=true/\m2.im=true/\m=.tup [.agg rs,r2])
 (hcall:∀(ms:List MV) (m2:MV) (rs:List MV) (r2:MV),q [.agg ms,m2]=some (.tup [.agg rs,r2])->∀(vs:Array Value) (v2:Value) (w:World) (prot:Nat->Prop),(∀b,prot b->b<w.heap.size)->Rl (fun v m=>SV w prot v m) vs.toList ms->SV w prot v2 m2->
  pL P f #[.agg vs,v2] w fun v w'=>(∃us u2,v=.tuple #[.agg us,u2]/\Rl (fun v m=>SV w' (PD prot w w') v m) us.toList rs/\SV w' (PD prot w w') u2 r2)/\Below w.heap.size w w'):
 cL P fun f' args imps=>if f'=f then(q args).map fun m=>(m,imps)else none:=by
 intro f' args imps res vals w gs prot fa fo h p;simp only at h;split at h
 case isFalse=>simp at h
 rename_i ef;subst ef;obtain⟨m,hm,e⟩:=kw.1 h;subst e;obtain⟨ms,m2,rs,r2,ea,h1,h2,em⟩:=hq args m hm;subst ea;subst em;obtain⟨efa,vs,v2,ev,hv1,hv2⟩:fa=[]/\∃vs v2,vals= #[.agg vs,v2]/\Rl (fun v m=>SV w prot v m) vs.toList ms/\SV w prot v2 m2:=by
  obtain⟨l⟩:=vals;have pv:=p.vs;change BVs _ _ w l _ fa at pv;cases pv with
  |cons a t=>
   cases t with
   |cons b t2=>
    cases t2;obtain⟨e1,vs,ev,r1⟩:=aqA a h1;obtain⟨e2,r2⟩:=b.im h2;exact⟨by rw[e1,e2];rfl,vs,_,by rw[ev],r1,r2⟩
 subst efa;subst ev;refine(hcall ms m2 rs r2 hm vs v2 w prot p.plt hv1 hv2).mono fun v w' ⟨⟨us,u2,ev,k1,k2⟩,hB⟩=>?_
 subst ev;have hblk:∀b,b<w.heap.size->w'.heap[b]?=w.heap[b]?:=fun b hb=>hB.block b hb
 have L:Later (gB gs prot) (gB gs (PD prot w w')) (cuB imps) (cuB imps) w w':=
  ⟨fun _ _ e=>.inl e,fun _ _ _ _ e=>.inr ⟨jz _,.inl e⟩,fun _ e=>.inr ⟨jz _,.inl e⟩,fun _ e=>e,fun _ h=>.inl h,fun b hp=>hblk b (p.plt b hp)⟩
 have hnp:∀b,b<w.heap.size->¬prot b->¬PD prot w w' b:=fun b hb hn h=>h.elim hn fun h=>absurd h.1 (by omega)
 refine⟨[],PD prot w w',[],fo,?_,?_,?_,?_,fun b hp=>hp.elim (fun hp=>v3 (p.plt b hp) hB.size) fun h=>h.2,?_⟩
 ·rw[ka];refine .tup (pB (.cons ?_ (.cons (.sv k2) .nil)));obtain⟨hl,hr⟩:=axI k1;exact .agg (by simpa using hl) fun j v m ha hb=>.sv (hr j v m (by rw[qj];exact ha) hb)
 ·rw[ka];exact p.os.mono L (fun b hb=>⟨hblk b (p.lt b (by simp[hb])),hnp b (p.lt b (by simp[hb])) (p.os.np b hb)⟩) fun x hx b e=>⟨hblk b (p.lt b (jn _ (eK.2 ⟨x,hx,e⟩))),hnp b (p.lt b (jn _ (eK.2 ⟨x,hx,e⟩)))⟩
 ·rw[ka];exact p.nod
 ·rw[ka];exact fun b hb=>v3 (p.lt b hb) hB.size
 ·rw[ka];exact⟨hB.os,hB.tape,hB.output,hB.size,fun b hb _=>hblk b hb,fun b hb=>.inr hb,fun _ h=>.inl h,fun _ h=>h.elim .inl fun h=>.inr (.inl h.1)⟩
theorem ZJ{w:World}{prot:Nat->Prop}{g:Nat}{l:List Int}(hp:l≠[]->prot g)(hc:∀j v,(l.map (Value.int .i64))[j]?=some v->w.cell? ⟨g,0+j,none⟩=some v):
 SV w prot (.slice (some ⟨g,0,none⟩) l.length l.length) (.sl (l.map KJ)):=by
 refine .sl 1 (fun i _=>.int .i64 (l.getD i 0)) (by simp) (kg _) (fun i row hi=>?_) (fun h0=>⟨_,rfl,rfl,hp (wu.1 h0),fun i row j m hi hj=>?_⟩) (fun i row j m hi hj=>?_)
 ·rw[jo]at hi;obtain⟨x,_,e⟩:=kw.1 hi;rw[<-e];rfl
 ·rw[jo]at hi;obtain⟨x,hx,e⟩:=kw.1 hi;subst e;cases j with
  |succ j=>simp[KJ]at hj
  |zero=>
   have:=hc i (.int .i64 x) (by rw[jo,hx];rfl)
   simp only[Nat.mul_one,yv,jr,hx,Jl];exact this
 ·rw[jo]at hi;obtain⟨x,hx,e⟩:=kw.1 hi;subst e;cases j with
  |succ j=>simp[KJ]at hj
  |zero=>
   simp[KJ]at hj;subst hj;simp only[jr,hx,Jl];exact .int _ _
theorem KK:∀{rows:List Row} {l:List Int},KI rows=some l->rows=l.map KJ
 |[],l,h=>by
  rw[KI]at h;cases h;rfl
 |[.int .i64 n]::r,l,h=>by
  rw[KI]at h;obtain⟨t,ht,e⟩:=Jk.1 h;cases e;rw[KK ht];rfl
theorem akB{w:World}{prot:Nat->Prop}{v:Value}{l:List Int}(h:SV w prot v (.sl (l.map KJ)))(h0:l≠[]):∃(b off c:Nat),v=.slice (some ⟨b,off,none⟩) l.length c/\l.length<=c/\prot b/\∀j u,(l.map (Value.int .i64))[j]?=some u->w.cell? ⟨b,off+j,none⟩=some u:=by
 cases h with
 | @sl a n c _ sz vf hn hc hrow had hsv=>
   rw[kf]at hn;subst hn;have hp:0<l.length:=wu.2 h0;obtain⟨⟨b,off,spot⟩,e,hs,hpb,hcell⟩:=had hp;subst e;simp only at hs;subst hs;refine⟨b,off,c,rfl,hc,hpb,fun j u hj=>?_⟩
   rw[jo]at hj;obtain⟨x,hx,e⟩:=kw.1 hj;have hi:(l.map KJ)[j]?=some (KJ x):=by rw[jo,hx];rfl
   have h1:=hcell j (KJ x) 0 (.int .i64 x) hi rfl;have h2:=hsv j (KJ x) 0 (.int .i64 x) hi rfl;have h3:sz=1:=(hrow j _ hi).symm;subst h3;cases hv:vf j 0 with
   |int k n=>
    rw[hv]at h1 h2;cases h2;rw[<-e];simpa using h1
   |_=>rw[hv]at h2;cases h2
end Kw
namespace Kw
open Go Go.RowKit Go.Proofs
set_option maxRecDepth 100000 in
theorem aoE(v u:Value)(w:World):(callFunc 205 #[v,u]).run Tryz.prog w=.ok (.enter 205 #[v,u]) w:=
 cE (c:=(match Tryz.f205.body with|some c=>c|none=>.skip)) Tryz.func205 (by kernel_rfl) (by kernel_rfl) _ _
variable [Gl]
set_option maxRecDepth 100000 in
theorem azX:cL Tryz.prog fun f' args imps=>if f'=205 then(HI args).map fun m=>(m,imps)else none:=by
 refine akA (q:=HI) (fun args m h=>?_) fun ms m2 rs r2 h vs v2 w prot hp hv hv2=>?_
 ·unfold HI at h;split at h
  ·obtain⟨l,hl,h⟩:=Jk.1 h;split at h
   ·split at h
    ·cases h;exact⟨_,_,_,_,rfl,rfl,rfl,rfl⟩
    ·cases h;exact⟨_,_,_,_,rfl,rfl,rfl,rfl⟩
   ·cases h
  ·cases h
 ·unfold HI at h;split at h
  case h_2=>cases h
  rename_i k top rows n heq;cases heq;obtain⟨l,hl,h⟩:=Jk.1 h;split at h
  case isFalse=>cases h
  rename_i hc;obtain⟨h0,hln,ht0,ht1,hn0,hn1⟩:=hc;have hrw:=KK hl;subst hrw;obtain⟨vl⟩:=vs;change Rl _ vl _ at hv;cases hv with
  |cons a1 hv=>
  cases hv with
  |cons a2 hv=>
  cases hv with
  |cons a3 hv=>
  cases hv;cases a1;cases a2;cases hv2;obtain⟨b,off,c,e3,hlc,hpb,hcell⟩:=akB a3 h0;subst e3;refine eV (aoE _ _ w) ((aoD b off l.length c l k top n w rfl (wu.2 h0) hln hlc ht0 ht1 hn0 hn1 hcell).mono fun e w' ⟨g,r,hr,hg,hB,hx⟩=>?_)
  have hpg:r≠[]->PD prot w w' g:=fun hr0=>.inr ⟨hg,by
   have h1:(r.map (Value.int .i64))[0]?=some (.int .i64 (r[0]'(wu.2 hr0))):=by rw[jo,jj (wu.2 hr0)];rfl
   exact block_lt_of_cell (hr 0 _ h1)⟩
  rcases hx with⟨he,er,hno⟩|⟨he,er,hno⟩
  ·rw[je hno]at h;cases h;refine⟨_,he,⟨_,_,rfl,?_,.bool _⟩,hB⟩;subst er;exact .cons (.str _) (.cons (.int _ _) (.cons (ZJ hpg hr) .nil))
  ·rw[jc hno]at h;cases h;refine⟨_,he,⟨_,_,rfl,?_,.bool _⟩,hB⟩;rw[<-er];exact .cons (.str _) (.cons (.int _ _) (.cons (ZJ hpg hr) .nil))
end Kw
namespace Kw
open Go Go.RowKit Go.Proofs
theorem dS{P:Program}{f k:FuncId}{q q':List MV->Option MV}{r:Option (List MV->Option MV)}(h:(bif f==k then some q' else r)=some q)
 (hk:cL P fun f' args imps=>if f'=k then(q' args).map fun m=>(m,imps)else none) (hr:r=some q->cL P fun f' args imps=>if f'=f then(q args).map fun m=>(m,imps)else none):
 cL P fun f' args imps=>if f'=f then(q args).map fun m=>(m,imps)else none:=by
 cases hf:(f==k)with
 |true=>
  rw[hf]at h;cases h;have:f=k:=by simpa using hf
  subst this;exact @hk
 |false=>rw[hf]at h;exact @hr h
theorem adL{P:Program}{f k k2:FuncId}{q q':List MV->Option MV}{r:Option (List MV->Option MV)}(h:(bif f==k||f==k2 then some q' else r)=some q)
 (hk:cL P fun f' args imps=>if f'=k then(q' args).map fun m=>(m,imps)else none) (hk2:cL P fun f' args imps=>if f'=k2 then(q' args).map fun m=>(m,imps)else none) (hr:r=some q->cL P fun f' args imps=>if f'=f then(q args).map fun m=>(m,imps)else none):
 cL P fun f' args imps=>if f'=f then(q args).map fun m=>(m,imps)else none:=by
 cases hf:(f==k)with
 |true=>
  rw[hf]at h;cases h;have:f=k:=by simpa using hf
  subst this;exact @hk
 |false=>
  rw[hf]at h;cases hf2:(f==k2)with
  |true=>
   rw[hf2]at h;cases h;have:f=k2:=by simpa using hf2
   subst this;exact @hk2
  |false=>rw[hf2]at h;exact @hr h
set_option maxRecDepth 100000 in
theorem hext(f:FuncId)(q:List MV->Option MV)(hq:E.ext f=some q):cL E.P fun f' args imps=>if f'=f then(q args).map fun m=>(m,imps)else none:=by
 refine @dS _ f 146 q _ _ hq (axV ⟨rfl,rfl⟩) fun hq=> @dS _ f 125 q _ _ hq axU fun hq=> @dS _ f 209 q _ _ hq axW fun hq=> @adL _ f 177 88 q _ _ hq ac7 agV fun hq=> @dS _ f 48 q _ _ hq agX fun hq=> @dS _ f 92 q _ _ hq ah0 fun hq=> @dS _ f 105 q _ _ hq acD fun hq=> @dS _ f 106 q _ _ hq acG fun hq=> @dS _ f 107 q _ _ hq acJ fun hq=> @dS _ f 108 q _ _ hq acL fun hq=> @dS _ f 109 q _ _ hq acO fun hq=> @dS _ f 110 q _ _ hq acR fun hq=> @dS _ f 111 q _ _ hq acU fun hq=> @dS _ f 112 q _ _ hq acX fun hq=> @dS _ f 188 q _ _ hq ad0 fun hq=> @dS _ f 189 q _ _ hq ad3 fun hq=> @dS _ f 203 q _ _ hq aAM fun hq=> @dS _ f 149 q _ _ hq aqQ fun hq=> @dS _ f 11 q _ _ hq aoC fun hq=> @dS _ f 205 q _ _ hq azX fun hq=>?_
 cases hq
set_option maxRecDepth 100000 in
theorem aAR{L:Nat}(D:Nat):cL Tryz.prog (ev E L D):=by
 have hm:E.P.follows .mixedOrders=true:=mixed;have hn:∀(f:FuncId) (fn:Func),E.P.funcs[f]?=some fn->(fn.name== "runtime.NumGoroutine")=false:=ao9;have h:cL E.P (ev E L D):=apH (L:=L) hm hn at3 hext D;exact @h
end Kw
namespace Kw
open Go Go.ChangeShapes Go.WideShapes Go.ChangeAt Go.RowKit
variable [Gl]
theorem aq3{n:Int}(h:(Lit.int .u8 n).wf=true):0<=n/\n<=255:=by
 simp[Lit.wf,IntKind.min,IntKind.max,IntKind.signed,IntKind.bits]at h;omega
theorem ax0{H:Type}{enc:TypeId×Value->H}{P:Program}{W:World}{base:Nat}{t e:TypeId}{v:Value}{d:DataW H}{p:List MemPlace}(ht:P.underlying t=some (.slice e))(he:P.underlying e=some (.int .u8))(hc:P.cellsOf e=1)
 (hval:Value.okWide P W .any base t v) (h:DataW.Trod enc P W 0 (fun _=>true) true t v d p):∃l:List UInt8,SV W (EB W) v (.sl (l.map fun x=>[.int .u8 x.toNat])):=by
 obtain⟨a1,len,cap,rfl⟩:=okWide_slice ht hval;obtain⟨fuel,hf⟩:=h;rcases open_ints ht he hc hf with⟨hcs,hx⟩|⟨a,len',cap',zs,hcs,_,hl,hm,hz,hx,hcell,hwz⟩
 ·simp[Value.cells]at hcs;obtain⟨rfl,rfl,rfl⟩:=hcs;exact⟨[],.sl 1 (fun _ _=>.int .u8 0) rfl (kg _) (fun i row hi=>by simp at hi) (fun h=>absurd h (yz 0)) (fun i row j m hi=>by simp at hi)⟩
 ·simp[Value.cells]at hcs;obtain⟨rfl,rfl,rfl⟩:=hcs;simp only[Prod.mk.injEq]at hx;obtain⟨rfl,rfl⟩:=hx;simp only[ju]at hz;have hlen:((zs.take len).map fun n=>UInt8.ofNat n.toNat).length=len:=by simp;omega
  refine⟨(zs.take len).map fun n=>UInt8.ofNat n.toNat,?_⟩
  by_cases h0:len=0
  ·subst h0;exact .sl 1 (fun _ _=>.int .u8 0) (by simp) hl (fun i row hi=>by simp at hi) (fun h=>absurd h (yz 0)) (fun i row j m hi=>by simp at hi)
  ·have hc0:=hcell 0 (by omega)
   obtain⟨ab,ao,spot⟩:=a;have hspot:spot=none:=by simpa [Addr.add]using World.cell?_spot hc0
   subst hspot;have hin:ab<W.heap.size:=by
    have:=DataW.trod_lt _ _ _ _ hf (.cell ab ao) (by
     simp only[MemPlace.row,qf,v5];exact⟨0,by omega,rfl⟩)
    exact this
   refine ag4 rfl hin hl _ hlen fun i x hi=>?_
   rw[jo]at hi;obtain⟨n,hn,e⟩:=kw.1 hi;obtain⟨hi',hn'⟩:=jm.1 hn;have hil:i<zs.length:=by simp at hi';omega
   have hcj:=hcell i hil;rw[Addr.add_lit]at hcj;rw[hcj,<-e];have en:zs.getD i 0=n:=by
    rw[<-hn'];simp[List.getD,hil]
   rw[en];have hb:=aq3 (hwz n (by rw[<-hn'];exact List.mem_of_mem_take (jt hi')))
   congr 2
   simp only[UInt8.toNat_ofNat'];omega
end Kw
namespace Kw
open Go Go.ChangeShapes Go.WideShapes Go.ChangeAt Go.RowKit
theorem ajW{w:World}{a:Addr}{v:Value}(h:w.cell? a=some v):a.block<w.heap.size:=by
 rcases yo a.block w.heap.size with h'|h'
 ·exact h'
 ·unfold World.cell? at h;simp[Jo h']at h
theorem Y7{P:Program}{w:World}{n:String}{d:DataW Unit}:∀{l:List (String×DataW Unit)},laidMet P l w->(n,d)∈l->
 ∃g t cs fuel p,P.globalNamed n=some g/\(P.globals[g]?).map (·.type)=some t/\w.var? P n=some cs/\DataW.trod (fun _=>()) P w 0 (fun _=>true) false fuel t cs.toList=some (d,p)
 |[],_,hm=>by simp at hm
 |x::l,h,hm=>by
  rcases ko.1 hm with e|e
  ·subst e;obtain⟨ps,⟨g,t,cs,fuel,p,q,h1,h2,h3,h4,_⟩,_⟩:=h;exact⟨g,t,cs,fuel,p,h1,h2,h3,h4⟩
  ·exact Y7 h.tail e
theorem awZ{P:Program}{w:World}{n nm:String}{d:DataW Unit}{l:List (String×DataW Unit)}{g t:Nat}{ms:Array (String×TypeId)}(h:laidMet P l w)(hm:(n,.iface nm d)∈l)
 (hg:P.globalNamed n=some g) (ht:(P.globals[g]?).map (·.type)=some t) (hi:P.underlying t=some (.interface ms)):
 EB w g/\∃x,w.cell? ⟨g,0,none⟩=some x/\SV w (EB w) x (.iface false):=by
 obtain⟨g',t',cs,fuel,p,h1,h2,h3,h4⟩:=Y7 h hm;obtain rfl:=Option.some.inj (hg.symm.trans h1);obtain rfl:=Option.some.inj (ht.symm.trans h2);obtain⟨_,u,v,e,_,_⟩:=iface_of_trod hi h4;have hc:w.cell? ⟨g,0,none⟩=some (.iface u v):=by
  have:=World.var?_cell hg h3 0;rw[this];rw[<-qj,e];rfl
 exact⟨ajW hc,_,hc,.ifS u v⟩
end Kw
