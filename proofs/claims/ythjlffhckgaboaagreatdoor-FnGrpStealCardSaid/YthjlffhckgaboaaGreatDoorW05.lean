import Derived.Test.YthjlffhckgaboaaGreatDoorW04
import Derived.Shelf.SlicesE.Clone
import Derived.Lib.Join
import Derived.Lib.AtoiAllCases
import Derived.KernelRfl
import Derived.Test.YthjlffhckgaboaaGreatDoorProg
set_option linter.unusedVariables false
set_option linter.unusedSimpArgs false
set_option linter.unusedSectionVars false
namespace Kw
open Go
variable [Gl]
section
variable {E:Env} {run:Run} {o:Oper} {fr:Fr} {R:Type} {r:R} {k:Fr->Option R}
theorem CZ:∀(l:List (Nat×Operand)) (ps:List (Nat×List MV)),lL fr l=some ps->∀h∈ps.flatMap (fun p=>p.2.flatMap lQ),h∈l.flatMap (fun p=>kW (aL fr p.2))
 |[],ps,h0,h,hm=>by cases h0;simp at hm
 |(i,x)::l,ps,h0,h,hm=>by
  unfold lL at h0;rw[kx];split at h0
  ·rename_i cs ps' ex e;cases h0;rw[kx]at hm;rcases jv.1 hm with y|y
   ·refine jw _ ?_;simp only[ex,kW];exact y
   ·exact jn _ (CZ l _ e h y)
  ·rename_i ps' e hna;split at h0
   ·rename_i hone;cases h0;rw[kx]at hm;rcases jv.1 hm with y|y
    ·refine jw _ ?_;have:kW (aL fr x)=lQ (aL fr x):=by
      cases hx:aL fr x<;>first|rfl|exact absurd hx (hna _)
     rw[this];simpa using y
    ·exact jn _ (CZ l _ e h y)
   ·cases h0
  ·cases h0
theorem HN{F W:H->Prop}:∀(ps:List (Nat×List MV)) {fr:Fr} {k:List (Nat×List MV)->Fr->Option R},(∀h∈ps.flatMap (fun p=>p.2.flatMap lQ),F h/\W h)->nR ps fr k=some r->∃x fr1,k x fr1=some r/\cV F W (fun R fr k=>nR ps fr k) fr x fr1
 |[],fr,k,_,h=>⟨_,_,h,cV.pure _⟩
 |(i,ms)::ps,fr,k,hF,h=>by
  simp only[nR]at h;obtain⟨x,fr1,h,l1⟩:=yR ms (fun h hm=>hF h (by rw[kx];exact jw _ hm)) h
  obtain⟨xs,fr2,h,l2⟩:=HN ps (fun h hm=>hF h (by rw[kx];exact jn _ hm)) h
  exact⟨_,_,h,l1.bind (c2:=fun x R fr k=>nR ps fr fun ps fr=>k ((i,x)::ps) fr) (l2.map (fun ps=>(i,x)::ps))⟩
theorem D8{F W:H->Prop}{d:Nat}{s:MV}{e:TypeId}{xs:List Row}{k:MV->Fr->Option R}(hF:∀h∈hOf s,F h/\W h)(hd:F (.loc d 0)/\W (.loc d 0))(h:iV E d s e xs fr k=some r):∃x fr1,k x fr1=some r/\cV F W (fun R fr k=>iV E d s e xs fr k) fr x fr1:=by
 unfold iV at h;split at h
 case isFalse=>simp at h
 rename_i hk;split at h
 ·rename_i hd n;obtain⟨f1,f2⟩:=hF hd (by simp[hOf])
  split at h
  ·simp at h
  rename_i hni;split at h
  ·rename_i rows er;rcases br_some h with⟨ec,h⟩|⟨_,h⟩
   ·refine⟨_,_,h,cV.setObj f1 f2 fun R fr' k ⟨e',_⟩=>?_⟩
    unfold iV;simp only[hk,ju,hni,e',er,ec,br,cond_true]
    rfl
   ·simp at h
  ·simp at h
 ·rcases br_some h with⟨ec,h⟩|⟨_,h⟩
  ·obtain⟨h,l⟩:=lI hd.1 hd.2 h;refine⟨_,_,h,?_⟩;have l2:=l.map fun _=>MV.ref (.loc d 0) (nrows xs)
   have e:(fun(R:Type) (fr:Fr) (k:MV->Fr->Option R)=>iV E d .nils e xs fr k)=fun R fr k=>fr.lay (.loc d 0) (.rows xs) fun fr=>k (MV.ref (.loc d 0) (nrows xs)) fr:=by
    funext R fr k
    unfold iV;simp only[hk,ju,ec,br,cond_true]
   rw[e];exact l2
  ·simp at h
 ·simp at h
theorem T1{F W:H->Prop}{t:TypeId}{a v:MV}{k:Fr->Option R}(hF:∀h∈hOf a++kW v,F h/\W h)(h:oU E t a v fr k=some r):∃fr1,k fr1=some r/\cV F W (fun R fr k=>oU E t a v fr fun fr=>k () fr) fr () fr1:=by
 unfold oU at h;split at h
 case isFalse=>simp at h
 rename_i hk;split at h
 ·rename_i hd off;obtain⟨f1,f2⟩:=hF hd (by simp[hOf])
  split at h
  ·rename_i cs ec;split at h
   ·rename_i hle;refine⟨_,h,cV.setObj f1 f2 fun R fr' k ⟨e',_⟩=>?_⟩
    unfold oU;simp only[hk,ju,e',ec,hle]
   ·simp at h
  ·simp at h
 ·rename_i hd n i c;obtain⟨f1,f2⟩:=hF hd (by simp[hOf])
  have hR:∀h∈(cellsOf v).flatMap lQ,F h/\W h:=fun h hm=>hF h (by
   refine jn _ ?_;by_cases ha:v.isAg=true
   ·obtain⟨cs,e⟩:=HK ha;subst e;exact hm
   ·have ha:v.isAg=false:=by simpa using ha
    have e1:cellsOf v=[v]:=by cases v<;>first|rfl|(cases ha;done)
    have e2:kW v=lQ v:=by cases v<;>first|rfl|(cases ha;done)
    rw[e1]at hm;rw[e2];simpa using hm)
  obtain⟨ms,fr1,h,l1⟩:=yR _ hR h;split at h
  ·rename_i rows er;rcases br_some h with⟨en,h⟩|⟨_,h⟩
   case inr=>simp at h
   obtain⟨row,hrow,h⟩:=aF h;rcases br_some h with⟨ec,h⟩|⟨_,h⟩
   case inr=>simp at h
   refine⟨_,h,?_⟩;have l2:cV F W (fun R fr (k:Unit->Fr->Option R)=>(match fr.obj hd with
    | .rows rows=>br (iEq n (nrows rows)) (bnd (iP rows i) fun row=>br (iLe (c+ms.length:Nat) (eT row)) (k () (fr.setObj hd (.rows (setR rows i (setRow row c ms))))) none) none
    |_=>none)) fr1 () (fr1.setObj hd (.rows (setR rows i (setRow row c ms)))):=
    cV.setObj f1 f2 fun R fr' k ⟨e',_⟩=>by simp only[e',er,en,br,cond_true,hrow,bnd,kh,ec]
   have l3:=l1.bind (c2:=fun ms R fr (k:Unit->Fr->Option R)=>(match fr.obj hd with
    | .rows rows=>br (iEq n (nrows rows)) (bnd (iP rows i) fun row=>br (iLe (c+ms.length:Nat) (eT row)) (k () (fr.setObj hd (.rows (setR rows i (setRow row c ms))))) none) none
    |_=>none)) l2
   have e:(fun(R:Type) (fr:Fr) (k:Unit->Fr->Option R)=>oU E t (.ptrE hd n i c) v fr fun fr=>k () fr)=fun R fr k=>nQ (cellsOf v) fr fun ms fr=>(match fr.obj hd with
    | .rows rows=>br (iEq n (nrows rows)) (bnd (iP rows i) fun row=>br (iLe (c+ms.length:Nat) (eT row)) (k () (fr.setObj hd (.rows (setR rows i (setRow row c ms))))) none) none
    |_=>none):=by
    funext R fr k
    unfold oU;rw[je hk]
    rfl
   rw[e];exact l3
  ·simp at h
 ·simp at h
theorem ag0(hok:OM o fr=true)(h:dM E run o fr k=some r):∃fr1,k fr1=some r/\HM E run o fr fr1:=by
 have h0:=h;unfold dM at h;simp only at h;split at h
 ·
  rename_i x ho;exact⟨_,h,aX (fun fr' C R k'=>by
   have e:=C.op x (by rw[ho];simp[Op.operands])
   unfold dM;simp only[ho,e]) fun fr' C=>by unfold fp;simp only[ho]⟩
 ·rename_i x ho;exact⟨_,h,aX (fun fr' C R k'=>by
   have e:=C.op x (by rw[ho];simp[Op.operands])
   unfold dM;simp only[ho,e]) fun fr' C=>by unfold fp;simp only[ho]⟩
 ·
  rename_i c x y ho;obtain⟨b,hb,h⟩:=aF h;have hb':=jE hb;refine⟨fr.finish o.dst (if b then aL fr x else aL fr y),?_,aX (fun fr' C R k'=>?_) fun fr' C=>by unfold fp;simp only[ho]⟩
  ·cases b<;>exact h
  ·have e1:=C.op c (by rw[ho];simp[Op.operands])
   have e2:=C.op x (by rw[ho];simp[Op.operands])
   have e3:=C.op y (by rw[ho];simp[Op.operands])
   unfold dM;simp only[ho,e1,e2,e3,hb,bnd,kh];cases b<;>rfl
 ·
  rename_i t ho;split at h
  case isFalse=>simp at h
  rename_i hk;have hF:(fp E o fr).wrt (.loc (o.dst.getD 0) 0):=.inr ⟨o.dst.getD 0,0,by unfold fp;simp only[ho],rfl⟩
  have hT:(fp E o fr).tch (.loc (o.dst.getD 0) 0):=hF.elim (fun x=>.inr (.inl x)) fun x=>.inr (.inr x)
  obtain⟨h,l⟩:=lI hT hF h;exact⟨_,h,lB (l.map fun _=>MV.ptr (.loc (o.dst.getD 0) 0) 0) (fun fr' C R k'=>by unfold dM;simp only[ho,hk,ju]) fun fr' C=>by unfold fp;simp only[ho]⟩
 ·
  rename_i t x ho;have hF:(fp E o fr).wrt (.loc (o.dst.getD 0) 0):=.inr ⟨o.dst.getD 0,0,by unfold fp;simp only[ho],rfl⟩
  have hT:(fp E o fr).tch (.loc (o.dst.getD 0) 0):=hF.elim (fun x=>.inr (.inl x)) fun x=>.inr (.inr x)
  have hf:∀fr',Cond E o fr fr'->fp E o fr'=fp E o fr:=fun fr' C=>by unfold fp;simp only[ho]
  split at h
  ·rename_i cs ex;obtain⟨h,l⟩:=lI hT hF h;exact⟨_,h,lB (l.map fun _=>MV.ptr (.loc (o.dst.getD 0) 0) 0) (fun fr' C R k'=>by
    have e:=C.op x (by rw[ho];simp[Op.operands])
    unfold dM;simp only[ho,e,ex]) hf⟩
  ·rename_i hna;split at h
   ·rename_i hone;obtain⟨h,l⟩:=lI hT hF h;refine⟨_,h,lB (l.map fun _=>MV.ptr (.loc (o.dst.getD 0) 0) 0) (fun fr' C R k'=>?_) hf⟩
    have e:=C.op x (by rw[ho];simp[Op.operands])
    unfold dM;simp only[ho,e];rw[je hone]
   ·simp at h
 ·
  rename_i t x ho;obtain⟨m,h,hl⟩:=WW h;refine⟨_,h,aX (fun fr' C R k'=>?_) fun fr' C=>?_⟩
  ·have e:=C.op x (by rw[ho];simp[Op.operands])
   unfold dM;simp only[ho,e];exact hl fr' (fun h hh=>C.ag h (.inl (by unfold fp;simp only[ho];exact hh))) _ _
  ·have e:=C.op x (by rw[ho];simp[Op.operands])
   unfold fp;simp only[ho,e]
 ·
  rename_i t x y ho;have hex:∀fr',Cond E o fr fr'->aL fr' x=aL fr x/\aL fr' y=aL fr y:=fun fr' C=>⟨C.op x (by rw[ho];simp[Op.operands]),C.op y (by rw[ho];simp[Op.operands])⟩
  have hw:∀h∈hOf (aL fr x)++kW (aL fr y),(fp E o fr).tch h/\(fp E o fr).wrt h:=fun h hm=>by
   have:h∈(fp E o fr).wr:=by unfold fp;simp only[ho];exact hm
   exact⟨.inr (.inl this),.inl this⟩
  obtain⟨fr1,h,l⟩:=T1 hw h;exact⟨_,h,lB (l.map fun _=>MV.undef) (fun fr' C R k'=>by unfold dM;simp only[ho,(hex fr' C).1,(hex fr' C).2]) fun fr' C=>by unfold fp;simp only[ho,(hex fr' C).1,(hex fr' C).2]⟩
 ·
  rename_i x ho;obtain⟨h,hl⟩:=TV h;have hf:∀fr',Cond E o fr fr'->fp E o fr'=fp E o fr:=fun fr' C=>by
   have e:=C.op x (by rw[ho];simp[Op.operands])
   unfold fp;simp only[ho,e]
  have key:∀m,aL fr x=m->(∀(R:Type) (q:MV->Option R),(match m with| .ptr h o'=>q (.ptr h o')| .fn g c=>q (.fn g c)| .ptrE h n i c=>q (.ptrE h n i c)| .ptrS r c=>q (.ptrS r c)|_=>none)=q m)->HM E run o fr (fr.finish o.dst m):=fun m em hq=>
   aX (fun fr' C R k'=>by
    have e:=C.op x (by rw[ho];simp[Op.operands])
    unfold dM;simp only[ho,e];rw[hl fr' (fun h hh=>C.ag h (.inl (by unfold fp;simp only[ho];exact hh))),em]
    exact hq R fun m=>k' (fr'.finish o.dst m)) hf
  split at h
  ·rename_i em;exact⟨_,h,key _ em fun _ _=>rfl⟩
  ·rename_i em;exact⟨_,h,key _ em fun _ _=>rfl⟩
  ·rename_i em;exact⟨_,h,key _ em fun _ _=>rfl⟩
  ·rename_i em;exact⟨_,h,key _ em fun _ _=>rfl⟩
  ·simp at h
 ·
  rename_i op t x y yt ho;have hf:∀fr',Cond E o fr fr'->fp E o fr'=fp E o fr:=fun fr' C=>by unfold fp;simp only[ho]
  have hex:∀fr',Cond E o fr fr'->aL fr' x=aL fr x/\aL fr' y=aL fr y:=fun fr' C=>⟨C.op x (by rw[ho];simp[Op.operands]),C.op y (by rw[ho];simp[Op.operands])⟩
  split at h
  ·rename_i hag;split at h
   ·rename_i xs ys ex ey;split at h
    ·simp at h
    rename_i hg;obtain⟨b,hb,h⟩:=aF h;split at h
    ·exact⟨_,h,aX (fun fr' C R k'=>by
      unfold dM;simp only[ho,(hex fr' C).1,(hex fr' C).2,hag,ju,ex,ey,hg,hb,bnd,kh];rfl) hf⟩
    ·exact⟨_,h,aX (fun fr' C R k'=>by
      unfold dM;simp only[ho,(hex fr' C).1,(hex fr' C).2,hag,ju,ex,ey,hg,hb,bnd,kh];rfl) hf⟩
    ·simp at h
   ·simp at h
  ·rename_i hag;split at h
   ·rename_i ex;split at h
    ·rename_i hi;split at h
     ·refine⟨_,h,aX (fun fr' C R k'=>?_) hf⟩
      unfold dM;simp only[ho,(hex fr' C).1];rw[jc hag];simp only[ex,hi,ju]
     ·refine⟨_,h,aX (fun fr' C R k'=>?_) hf⟩
      unfold dM;simp only[ho,(hex fr' C).1];rw[jc hag];simp only[ex,hi,ju]
     ·simp at h
    ·simp at h
   ·rename_i hnx;obtain⟨m,h,hl⟩:=abN h;refine⟨_,h,aX (fun fr' C R k'=>?_) hf⟩
    unfold dM;simp only[ho,(hex fr' C).1,(hex fr' C).2];rw[jc hag];exact hl R fun m=>k' (fr'.finish o.dst m)
 ·
  rename_i op t x ho;have hf:∀fr',Cond E o fr fr'->fp E o fr'=fp E o fr:=fun fr' C=>by unfold fp;simp only[ho]
  split at h
  ·rename_i b ex;exact⟨_,h,aX (fun fr' C R k'=>by
    have e:=C.op x (by rw[ho];simp[Op.operands])
    unfold dM;simp only[ho,e,ex]) hf⟩
  ·rename_i kd n ex;exact⟨_,h,aX (fun fr' C R k'=>by
    have e:=C.op x (by rw[ho];simp[Op.operands])
    unfold dM;simp only[ho,e,ex]) hf⟩
  ·simp at h
 ·
  rename_i src dst x ho;have hex:∀fr',Cond E o fr fr'->aL fr' x=aL fr x:=fun fr' C=>C.op x (by rw[ho];simp[Op.operands])
  have hf:∀fr',Cond E o fr fr'->fp E o fr'=fp E o fr:=fun fr' C=>by unfold fp;simp only[ho,hex fr' C]
  split at h
  ·rename_i e1 e2 ex;exact⟨_,h,aX (fun fr' C R k'=>by unfold dM;simp only[ho,hex fr' C,e1,e2,ex]) hf⟩
  ·rename_i e1 e2 ex;exact⟨_,h,aX (fun fr' C R k'=>by unfold dM;simp only[ho,hex fr' C,e1,e2,ex]) hf⟩
  ·rename_i e1 e2 ex;rcases br_some h with⟨ec,h⟩|⟨_,h⟩
   ·exact⟨_,h,aX (fun fr' C R k'=>by unfold dM;simp only[ho,hex fr' C,e1,e2,ex,ec,br,cond_true]) hf⟩
   ·simp at h
  ·rename_i hn1 hn2 hn3 e1 e2;split at h
   ·rename_i hby;obtain⟨rs,h,hr⟩:=yS h;obtain⟨s,hs,h⟩:=aF h;refine⟨_,h,aX (fun fr' C R k'=>?_) hf⟩
    have hr':=hr fr' (fun h hh=>C.ag h (.inl (by unfold fp;simp only[ho];exact hh)))
    unfold dM;simp only[ho,hex fr' C,e1,e2];split
    ·exfalso;simp_all
    ·exfalso;simp_all
    ·exfalso;simp_all
    ·simp_all only
     cases hn2;simp only[hby,ju,bnd,kh]
    ·exfalso;simp_all
   ·simp at h
  ·simp at h
 ·
  rename_i f first caps ho;have hf:∀fr',Cond E o fr fr'->fp E o fr'=fp E o fr:=fun fr' C=>by unfold fp;simp only[ho]
  split at h
  ·rename_i gf;split at h
   ·rename_i h0;refine⟨_,h,aX (fun fr' C R k'=>?_) hf⟩
    have e:caps.toList.map (aL fr')=caps.toList.map (aL fr):=Jb fun x hx=>C.op x (by rw[ho];simp[Op.operands];right;simpa using hx)
    unfold dM;simp only[ho,h0,ju,e]
   ·simp at h
  ·simp at h
 ·
  rename_i t ho;unfold OM at hok;simp only[ho]at hok;simp at hok
 ·rename_i t l c ho;have hF:(fp E o fr).wrt (.loc (o.dst.getD 0) 0):=.inr ⟨o.dst.getD 0,0,by unfold fp;simp only[ho],rfl⟩
  have hT:(fp E o fr).tch (.loc (o.dst.getD 0) 0):=hF.elim (fun x=>.inr (.inl x)) fun x=>.inr (.inr x)
  split at h
  ·rename_i e _ n _ m e1 el ec;split at h
   ·rename_i hk;rcases br_some h with⟨hb,h⟩|⟨_,h⟩
    ·obtain⟨h,l1⟩:=lI hT hF h;refine⟨_,h,lB (l1.map fun _=>MV.ref (.loc (o.dst.getD 0) 0) (nrows (jX n (iB E.P e)))) (fun fr' C R k'=>?_) fun fr' C=>by unfold fp;simp only[ho]⟩
     have x1:=C.op l (by rw[ho];simp[Op.operands])
     have x2:=C.op c (by rw[ho];simp[Op.operands])
     unfold dM;simp only[ho,x1,x2,e1,el,ec,hk,ju,hb,br,cond_true]
    ·simp at h
   ·simp at h
  ·simp at h
 ·
  rename_i t n parts ho;split at h
  ·rename_i e he;split at h
   ·rename_i ps hp;have hF:(fp E o fr).wrt (.loc (o.dst.getD 0) 0):=.inr ⟨o.dst.getD 0,0,by unfold fp;simp only[ho],rfl⟩
    have hT:(fp E o fr).tch (.loc (o.dst.getD 0) 0):=hF.elim (fun x=>.inr (.inl x)) fun x=>.inr (.inr x)
    have hR:∀h∈ps.flatMap (fun p=>p.2.flatMap lQ),(fp E o fr).tch h/\(fp E o fr).wrt h:=fun h hm=>by
     have:h∈(fp E o fr).wr:=by unfold fp;simp only[ho];exact CZ _ _ hp h hm
     exact⟨.inr (.inl this),.inl this⟩
    obtain⟨ps',fr1,h,l1⟩:=HN ps hR h;split at h
    ·rename_i out ht;split at h
     ·rename_i hc;obtain⟨h,l2⟩:=lI hT hF h;have hex:∀fr',Cond E o fr fr'->(∀p∈parts.toList,aL fr' p.2=aL fr p.2):=fun fr' C p hp=>C.op p.2 (by rw[ho];simp only[Op.operands];exact Jc (f:=(·.2)) hp)
      refine⟨_,h,lB (c:=fun R fr k=>nR ps fr fun ps fr=>(match fillE (fun i=>some (i*tsize E.P e,tsize E.P e)) (tJ E.P e n) ps with
       |some out=>if okT E.P e&&(Nat.ble (n*tsize E.P e) 16777216&&out.all MV.svOne)then
        fr.lay (.loc (o.dst.getD 0) 0) (.rows (GA (tsize E.P e) n out)) fun fr=>k (MV.ref (.loc (o.dst.getD 0) 0) (nrows (GA (tsize E.P e) n out))) fr else none
       |none=>none)) ?_ (fun fr' C R k'=>?_) fun fr' C=>?_⟩
      ·refine l1.bind (c2:=fun ps R fr k=>(match fillE (fun i=>some (i*tsize E.P e,tsize E.P e)) (tJ E.P e n) ps with
        |some out=>if okT E.P e&&(Nat.ble (n*tsize E.P e) 16777216&&out.all MV.svOne)then
         fr.lay (.loc (o.dst.getD 0) 0) (.rows (GA (tsize E.P e) n out)) fun fr=>k (MV.ref (.loc (o.dst.getD 0) 0) (nrows (GA (tsize E.P e) n out))) fr else none
        |none=>none)) ?_
       simp only[ht,hc,ju];exact l2.map (fun _=>MV.ref (.loc (o.dst.getD 0) 0) (nrows (GA (tsize E.P e) n out)))
      ·unfold dM;simp only[ho,he,CY _ (hex fr' C),hp];rfl
      ·unfold fp;simp only[ho]
       congr 1
       exact jF fun p hp=>by rw[hex fr' C p hp]
     ·simp at h
    ·simp at h
   ·simp at h
  ·simp at h
 ·
  rename_i t parts ho;have hf:∀fr',Cond E o fr fr'->fp E o fr'=fp E o fr:=fun fr' C=>by unfold fp;simp only[ho]
  split at h
  ·rename_i fs hu;split at h
   ·rename_i ps hp;split at h
    ·rename_i hz;split at h
     ·rename_i out ht;refine⟨_,h,aX (fun fr' C R k'=>?_) hf⟩
      have e:lL fr' parts.toList=lL fr parts.toList:=CY _ fun p hp=>C.op p.2 (by rw[ho];simp only[Op.operands];exact Jc (f:=(·.2)) hp)
      unfold dM;simp only[ho,hu,e,hp,hz,ju,ht]
     ·simp at h
    ·simp at h
   ·simp at h
  ·simp at h
 ·
  rename_i t x lo hi mx ho;have hf:∀fr',Cond E o fr fr'->fp E o fr'=fp E o fr:=fun fr' C=>by
   have e:=C.op x (by rw[ho];simp[Op.operands])
   unfold fp;simp only[ho,e]
  have hex:∀fr',Cond E o fr fr'->aL fr' x=aL fr x/\(∀d,jQ fr' lo d=jQ fr lo d)/\∀d,jQ fr' hi d=jQ fr hi d:=fun fr' C=>by
   refine⟨C.op x (by rw[ho];simp[Op.operands]),fun d=>?_,fun d=>?_⟩
   ·cases lo with
    |none=>rfl
    |some y=>exact C.op y (by rw[ho];simp[Op.operands])
   ·cases hi with
    |none=>rfl
    |some y=>exact C.op y (by rw[ho];simp[Op.operands])
  split at h
  ·rename_i e1 ex;obtain⟨l,hl,h⟩:=aF h;obtain⟨u,hu,h⟩:=aF h;rcases br_some h with⟨ec,h⟩|⟨_,h⟩
   ·exact⟨_,h,aX (fun fr' C R k'=>by
     unfold dM;simp only[ho,(hex fr' C).1,(hex fr' C).2.1,(hex fr' C).2.2,e1,ex,hl,hu,bnd,kh,ec,br,cond_true]) hf⟩
   ·simp at h
  ·rename_i e1 ex;split at h
   ·rename_i hi0;obtain⟨l,hl,h⟩:=aF h;obtain⟨u,hu,h⟩:=aF h;rcases br_some h with⟨ec,h⟩|⟨_,h⟩
    ·exact⟨_,h,aX (fun fr' C R k'=>by
      unfold dM;simp only[ho,(hex fr' C).1,(hex fr' C).2.1,(hex fr' C).2.2,e1,ex,hi0,ju,hl,hu,bnd,kh,ec,br,cond_true]) hf⟩
    ·simp at h
   ·simp at h
  ·rename_i e1 ex;split at h
   ·rename_i hi0;obtain⟨rs,h,hr⟩:=yS h;obtain⟨l,hl,h⟩:=aF h;obtain⟨u,hu,h⟩:=aF h;rcases br_some h with⟨ec,h⟩|⟨_,h⟩
    ·refine⟨_,h,aX (fun fr' C R k'=>?_) hf⟩
     have hr':=hr fr' (fun h hh=>C.ag h (.inl (by unfold fp;simp only[ho,ex];exact hh)))
     unfold dM;simp only[ho,(hex fr' C).1,(hex fr' C).2.1,(hex fr' C).2.2,e1,ex,hi0,ju];rw[hr'];simp only[hl,hu,bnd,kh,ec,br,cond_true]
    ·simp at h
   ·simp at h
  ·simp at h
 ·
  rename_i t x f ho;obtain⟨p,hp,h⟩:=aF h;split at h
  ·simp at h
  rename_i hz;obtain⟨h,hl⟩:=TV h;have hex:∀fr',Cond E o fr fr'->aL fr' x=aL fr x:=fun fr' C=>C.op x (by rw[ho];simp[Op.operands])
  have hf:∀fr',Cond E o fr fr'->fp E o fr'=fp E o fr:=fun fr' C=>by unfold fp;simp only[ho,hex fr' C]
  have hl':=fun fr' (C:Cond E o fr fr')=>hl fr' (fun h hh=>C.ag h (.inl (by unfold fp;simp only[ho];exact hh)))
  split at h
  ·rename_i em;exact⟨_,h,aX (fun fr' C R k'=>by
    unfold dM;simp only[ho,hex fr' C,hp,bnd,kh,hz,qr];rw[hl' fr' C];simp only[em]) hf⟩
  ·rename_i em;exact⟨_,h,aX (fun fr' C R k'=>by
    unfold dM;simp only[ho,hex fr' C,hp,bnd,kh,hz,qr];rw[hl' fr' C];simp only[em]) hf⟩
  ·rename_i em;exact⟨_,h,aX (fun fr' C R k'=>by
    unfold dM;simp only[ho,hex fr' C,hp,bnd,kh,hz,qr];rw[hl' fr' C];simp only[em]) hf⟩
  ·simp at h
 ·
  rename_i t x f ho;obtain⟨p,hp,h⟩:=aF h;have hex:∀fr',Cond E o fr fr'->aL fr' x=aL fr x:=fun fr' C=>C.op x (by rw[ho];simp[Op.operands])
  have hf:∀fr',Cond E o fr fr'->fp E o fr'=fp E o fr:=fun fr' C=>by unfold fp;simp only[ho]
  split at h
  ·rename_i cs em;split at h
   ·rename_i hk;exact⟨_,h,aX (fun fr' C R k'=>by
     unfold dM;simp only[ho,hex fr' C,hp,bnd,kh,em,hk,ju]) hf⟩
   ·simp at h
  ·simp at h
 ·
  rename_i t x i ho;have hex:∀fr',Cond E o fr fr'->aL fr' x=aL fr x/\aL fr' i=aL fr i:=fun fr' C=>⟨C.op x (by rw[ho];simp[Op.operands]),C.op i (by rw[ho];simp[Op.operands])⟩
  have hf:∀fr',Cond E o fr fr'->fp E o fr'=fp E o fr:=fun fr' C=>by unfold fp;simp only[ho,(hex fr' C).1]
  split at h
  ·rename_i ei em;obtain⟨e,he,h⟩:=aF h;obtain⟨row,hr,h⟩:=aF h;exact⟨_,h,aX (fun fr' C R k'=>by
    unfold dM;simp only[ho,(hex fr' C).1,(hex fr' C).2,ei,em,he,hr,bnd,kh]) hf⟩
  ·rename_i ei em;obtain⟨e,he,h⟩:=aF h;obtain⟨rs,h,hl⟩:=yS h;obtain⟨row,hr,h⟩:=aF h;exact⟨_,h,aX (fun fr' C R k'=>by
    unfold dM;simp only[ho,(hex fr' C).1,(hex fr' C).2,ei,em,he,bnd,kh];rw[hl fr' (fun h hh=>C.ag h (.inl (by unfold fp;simp only[ho,em];exact hh)))]
    simp only[hr,kh]) hf⟩
  ·simp at h
 ·
  rename_i t x i ho;have hex:∀fr',Cond E o fr fr'->aL fr' x=aL fr x/\aL fr' i=aL fr i:=fun fr' C=>⟨C.op x (by rw[ho];simp[Op.operands]),C.op i (by rw[ho];simp[Op.operands])⟩
  have hf:∀fr',Cond E o fr fr'->fp E o fr'=fp E o fr:=fun fr' C=>by unfold fp;simp only[ho]
  split at h
  ·rename_i hs;split at h
   ·rename_i ex ei;obtain⟨b,hb,h⟩:=aF h;exact⟨_,h,aX (fun fr' C R k'=>by
     unfold dM;simp only[ho,hs,ju,(hex fr' C).1,(hex fr' C).2,ei,ex,hb,bnd,kh]) hf⟩
   ·simp at h
  ·simp at h
 ·
  rename_i x j ho;have hex:∀fr',Cond E o fr fr'->aL fr' x=aL fr x:=fun fr' C=>C.op x (by rw[ho];simp[Op.operands])
  have hf:∀fr',Cond E o fr fr'->fp E o fr'=fp E o fr:=fun fr' C=>by unfold fp;simp only[ho]
  split at h
  ·rename_i vs em;split at h
   ·rename_i hj;exact⟨_,h,aX (fun fr' C R k'=>by unfold dM;simp only[ho,hex fr' C,em,hj,ju]) hf⟩
   ·simp at h
  ·simp at h
 ·rename_i t x key ok ho;unfold OM at hok;simp only[ho]at hok;simp at hok
 ·rename_i t m key x ho;unfold OM at hok;simp only[ho]at hok;simp at hok
 ·
  rename_i c ho;split at h
  ·rename_i hc;have hargs:∀fr',Cond E o fr fr'->∀x∈c.args.toList,aL fr' x=aL fr x:=fun fr' C x hx=>C.op x (by rw[ho];simp only[Op.operands,Call.operands,hc];simpa using hx)
   have hf:∀fr',Cond E o fr fr'->fp E o fr'=fp E o fr:=fun fr' C=>by
    unfold fp;simp only[ho,hc]
    congr 1
    exact jF fun x hx=>by rw[hargs fr' C x hx]
   split at h
   ·rename_i t x et ea;have hx:∀fr',Cond E o fr fr'->aL fr' x=aL fr x:=fun fr' C=>hargs fr' C x (by rw[ea];simp)
    split at h
    ·rename_i e1 e2;exact⟨_,h,aX (fun fr' C R k'=>by unfold dM;simp only[ho,hc,et,ea,hx fr' C,e1,e2]) hf⟩
    ·rename_i e1;obtain⟨rs,h,hr⟩:=yS h;refine⟨_,h,aX (fun fr' C R k'=>?_) hf⟩
     unfold dM;simp only[ho,hc,et,ea,hx fr' C,e1];rw[hr fr' (fun h hh=>C.ag h (.inl (by unfold fp;simp only[ho,hc,ea];simpa using hh)))]
    ·simp at h
   ·simp at h
  ·rename_i hc;have hargs:∀fr',Cond E o fr fr'->∀x∈c.args.toList,aL fr' x=aL fr x:=fun fr' C x hx=>C.op x (by rw[ho];simp only[Op.operands,Call.operands,hc];simpa using hx)
   have hf:∀fr',Cond E o fr fr'->fp E o fr'=fp E o fr:=fun fr' C=>by
    unfold fp;simp only[ho,hc]
    congr 1
    exact jF fun x hx=>by rw[hargs fr' C x hx]
   split at h
   ·rename_i x y ea;split at h
    ·rename_i e1 e2;exact⟨_,h,aX (fun fr' C R k'=>by unfold dM;simp only[ho,hc,ea,hargs fr' C x (by rw[ea];simp),hargs fr' C y (by rw[ea];simp),e1,e2]) hf⟩
    ·simp at h
   ·simp at h
  ·rename_i hc;have hargs:∀fr',Cond E o fr fr'->∀x∈c.args.toList,aL fr' x=aL fr x:=fun fr' C x hx=>C.op x (by rw[ho];simp only[Op.operands,Call.operands,hc];simpa using hx)
   have hf:∀fr',Cond E o fr fr'->fp E o fr'=fp E o fr:=fun fr' C=>by
    unfold fp;simp only[ho,hc]
    congr 1
    exact jF fun x hx=>by rw[hargs fr' C x hx]
   split at h
   ·rename_i x y ea;split at h
    ·rename_i e1 e2;exact⟨_,h,aX (fun fr' C R k'=>by unfold dM;simp only[ho,hc,ea,hargs fr' C x (by rw[ea];simp),hargs fr' C y (by rw[ea];simp),e1,e2]) hf⟩
    ·simp at h
   ·simp at h
  ·rename_i hc;have hargs:∀fr',Cond E o fr fr'->∀x∈c.args.toList,aL fr' x=aL fr x:=fun fr' C x hx=>C.op x (by rw[ho];simp only[Op.operands,Call.operands,hc];simpa using hx)
   split at h
   ·rename_i t tx x y et ea;have hx:∀fr',Cond E o fr fr'->aL fr' x=aL fr x:=fun fr' C=>hargs fr' C x (by rw[ea];simp)
    have hy:∀fr',Cond E o fr fr'->aL fr' y=aL fr y:=fun fr' C=>hargs fr' C y (by rw[ea];simp)
    have hf:∀fr',Cond E o fr fr'->fp E o fr'=fp E o fr:=fun fr' C=>by
     unfold fp;simp only[ho,hc,ea,hx fr' C,hy fr' C]
    have hw:∀h∈hOf (aL fr x),(fp E o fr).tch h/\(fp E o fr).wrt h:=fun h hm=>by
     have:h∈(fp E o fr).wr:=by unfold fp;simp only[ho,hc,ea];exact hm
     exact⟨.inr (.inl this),.inl this⟩
    have hd:(fp E o fr).tch (.loc (o.dst.getD 0) 0)/\(fp E o fr).wrt (.loc (o.dst.getD 0) 0):=by
     have:(fp E o fr).fam=some (o.dst.getD 0):=by unfold fp;simp only[ho,hc,ea]
     exact⟨.inr (.inr ⟨_,_,this,rfl⟩),.inr ⟨_,_,this,rfl⟩⟩
    split at h
    ·rename_i e1 e2;split at h
     ·rename_i b ey;split at h
      ·rename_i hb;obtain⟨m,fr1,h,l⟩:=D8 hw hd h;exact⟨_,h,lB l (fun fr' C R k'=>by unfold dM;simp only[ho,hc,et,ea,hx fr' C,hy fr' C,e1,e2,ey,hb,ju]) hf⟩
      ·simp at h
     ·simp at h
    ·rename_i e1 e2;obtain⟨rs,h,hr⟩:=yS h;obtain⟨m,fr1,h,l⟩:=D8 hw hd h;refine⟨_,h,lB l (fun fr' C R k'=>?_) hf⟩
     unfold dM;simp only[ho,hc,et,ea,hx fr' C,hy fr' C,e1,e2];rw[hr fr' (fun h hh=>C.ag h (.inl (by unfold fp;simp only[ho,hc,ea];exact hh)))]
    ·simp at h
   ·simp at h
  ·rename_i x hc;split at h
   case h_2=>simp at h
   rename_i gf caps ex;have hops:∀fr',Cond E o fr fr'->aL fr' x=aL fr x/\c.args.toList.map (aL fr')=c.args.toList.map (aL fr):=fun fr' C=>
    ⟨C.op x (by rw[ho];simp[Op.operands,Call.operands,hc]),Jb fun y hy=>C.op y (by rw[ho];simp only[Op.operands,Call.operands,hc];simp;right;simpa using hy)⟩
   have hfp:fp E o fr=cC E gf (c.args.toList.map (aL fr)++caps) fr o:=by unfold fp;simp only[ho,hc,ex]
   unfold QF at h;obtain⟨m,fr1,h,l,hf⟩:=T0 h;refine⟨_,h,lB (by rw[hfp];exact l) (fun fr' C R k'=>?_) fun fr' C=>?_⟩
   ·unfold dM;simp only[ho,hc,(hops fr' C).1,ex,(hops fr' C).2];rfl
   ·have:fp E o fr'=cC E gf (c.args.toList.map (aL fr)++caps) fr' o:=by unfold fp;simp only[ho,hc,(hops fr' C).1,ex,(hops fr' C).2]
    rw[this,hfp];exact hf fr' fun h hh=>C.ag h (by rw[hfp];exact hh)
  ·simp at h
 ·simp at h
end
end Kw
namespace Kw
open Go
variable [Gl]
section
variable {E:Env} {run:Run} {all:Array Oper}
theorem I3{p:Fp}{h:H}(x:p.wrt h):p.tch h:=x.elim (fun x=>.inr (.inl x)) fun x=>.inr (.inr x)
def Ext(fr fr':Fr):Prop:=fr.sl=fr'.sl/\∀h,AgH fr fr' h
theorem Ext.refl(fr:Fr):Ext fr fr:=⟨rfl,fun _=>AgH.refl _ _⟩
theorem Ext.trans{a b c:Fr}(x:Ext a b)(y:Ext b c):Ext a c:=⟨x.1.trans y.1,fun h=>(x.2 h).trans (y.2 h)⟩
theorem Ext.symm{a b:Fr}(x:Ext a b):Ext b a:=⟨x.1.symm,fun h=>(x.2 h).symm⟩
def mP(all:Array Oper)(o:Oper)(fr:Fr)(b:Bool):Prop:=
 match o.guard with
 |none=>b=true
 |some (j,want)=>∃d,(all[j]?).bind (·.dst)=some d/\((AR (fr.get d)=true/\b=false)\/∃v,fr.get d=.bool v/\b=(v==want))
inductive Stp(E:Env)(run:Run)(all:Array Oper)(o:Oper)(fr fr1:Fr)(p:Fp):Prop
 |ex (hw:mP all o fr true) (l:HM E run o fr fr1) (hp:p=fp E o fr)
 |sk (hw:mP all o fr false) (h:fr1=fr.finish o.dst (.tup [])) (hp:p=⟨[],[],none⟩)
theorem PA{o:Oper}{fr fr':Fr}{b:Bool}(h:mP all o fr b)(ht:∀t∈o.looksAt all,fr'.get t=fr.get t):mP all o fr' b:=by
 unfold mP at*;split
 ·rename_i hg;rw[hg]at h;exact h
 ·rename_i j want hg;rw[hg]at h;obtain⟨d,hd,h⟩:=h;have e:=ht d (by unfold Oper.looksAt;rw[hg];simp only[hd];simp)
  refine⟨d,hd,?_⟩;rw[e];exact h
theorem abP{o:Oper}{fr fr':Fr}(ht:∀t∈o.looksAt all,fr'.get t=fr.get t):∀x∈o.op.operands.toList,aL fr' x=aL fr x:=by
 intro x hx;cases x with
 |tmp t=>exact ht t (jw _ (List.mem_filterMap.2 ⟨_,hx,rfl⟩))
 |const v=>rfl
 |global k=>rfl
 |func f=>rfl
theorem HM.move{o:Oper}{fr fr1 fr' fr1':Fr}{m:MV}(C:Cond E o fr fr')(hf:fp E o fr'=fp E o fr)(e1:∀(R:Type) (k':Fr->Option R),dM E run o fr' k'=k' fr1')(a1:∀h,(fp E o fr).tch h->AgH fr1 fr1' h)(w1:∀h,¬(fp E o fr).wrt h->AgH fr' fr1' h)(s1:fr1'.sl=TU fr'.sl o.dst m)
 (hl:∀fr',Cond E o fr fr'->∃fr1',(∀(R:Type) (k':Fr->Option R),dM E run o fr' k'=k' fr1')/\fp E o fr'=fp E o fr/\(∀h,(fp E o fr).tch h->AgH fr1 fr1' h)/\(∀h,¬(fp E o fr).wrt h->AgH fr' fr1' h)/\fr1'.sl=TU fr'.sl o.dst m):HM E run o fr' fr1':=by
 refine⟨m,s1,fun h hh=>w1 h (by rw[<-hf];exact hh),e1,fun fr2 C2=>?_⟩
 obtain⟨fr3,e3,f3,a3,w3,s3⟩:=hl fr2 ⟨fun x hx=>(C2.op x hx).trans (C.op x hx),fun h hh=>(C.ag h hh).trans (C2.ag h (by rw[hf];exact hh))⟩
 rw[hf];exact⟨fr3,e3,f3,fun h hh=>(a1 h hh).symm.trans (a3 h hh),w3,s3⟩
theorem Stp.loc{o:Oper}{fr fr1:Fr}{p:Fp}(s:Stp E run all o fr fr1 p):∃m,fr1.sl=TU fr.sl o.dst m/\(∀h,¬p.wrt h->AgH fr fr1 h)/\
 ∀fr',(∀t∈o.looksAt all,fr'.get t=fr.get t)->(∀h,p.tch h->AgH fr fr' h)->∃fr1',Stp E run all o fr' fr1' p/\(∀h,p.tch h->AgH fr1 fr1' h)/\(∀h,¬p.wrt h->AgH fr' fr1' h)/\fr1'.sl=TU fr'.sl o.dst m:=by
 cases s with
 |ex hw l hp=>
  subst hp;obtain⟨m,hs,hsame,hev,hl⟩:=l;refine⟨m,hs,hsame,fun fr' ht ha=>?_⟩
  have C:Cond E o fr fr':=⟨abP ht,ha⟩;obtain⟨fr1',e1,f1,a1,w1,s1⟩:=hl fr' C;exact⟨fr1',.ex (PA hw ht) (HM.move C f1 e1 a1 w1 s1 hl) f1.symm,a1,w1,s1⟩
 |sk hw h hp=>
  subst hp;subst h;have hno:∀h,¬(⟨[],[],none⟩:Fp).tch h:=fun h hh=>by
   rcases hh with x|x|⟨d,j,x,_⟩
   ·simp at x
   ·simp at x
   ·cases x
  refine⟨.tup [],A8 _ _ _,fun h _=>tR (AgH.refl _ _) _ _,fun fr' ht ha=>⟨fr'.finish o.dst (.tup []),.sk (PA hw ht) rfl rfl,fun h hh=>absurd hh (hno h),fun h _=>tR (AgH.refl _ _) _ _,A8 _ _ _⟩⟩
theorem T2(sl:List MV)(d:Option Tmp)(m:MV)(t:Nat)(h:d≠some t):(TU sl d m)[t]?=sl[t]?:=by
 cases d with
 |none=>rfl
 |some d=>exact List.getElem?_set_ne (fun e=>h (by rw[e]))
theorem GL{fr:Fr}{t:Nat}:fr.get t=(fr.sl[t]?).getD .undef:=jr
theorem akI{oi oj:Oper}{fr fr1 fr2:Fr}{p q:Fp}(si:Stp E run all oi fr fr1 p)(sj:Stp E run all oj fr1 fr2 q)(ht:oi.apart all oj=true)(hm:∀h,(p.wrt h->¬q.tch h)/\(q.wrt h->¬p.tch h)):
 ∃fr1' fr2',Stp E run all oj fr fr1' q/\Stp E run all oi fr1' fr2' p/\Ext fr2 fr2':=by
 obtain⟨h1,h2,h3⟩:=Oper.apart_spec ht;obtain⟨mi,hsi,hwi,hli⟩:=si.loc;obtain⟨mj,hsj,hwj,hlj⟩:=sj.loc;obtain⟨fr1',sj',aj,wj,tj⟩:=hlj fr (fun t htt=>by
  rw[GL,GL,hsi,T2 _ _ _ _ fun e=>h1 t e htt]) (fun h hh=>(hwi h fun hw=>(hm h).1 hw hh).symm)
 obtain⟨fr2',si',ai,wi,ti⟩:=hli fr1' (fun t htt=>by
  rw[GL,GL,tj,T2 _ _ _ _ fun e=>h3 t e htt]) (fun h hh=>wj h fun hw=>(hm h).2 hw hh)
 refine⟨fr1',fr2',sj',si',?_,fun h=>?_⟩
 ·rw[hsj,hsi,ti,tj];cases ei:oi.dst with
  |none=>rfl
  |some d=>
   cases ej:oj.dst with
   |none=>rfl
   |some d'=>
    have hne:d≠d':=fun e=>h2 d ei (by rw[ej,e])
    exact List.set_comm _ _ hne
 ·by_cases hwp:p.wrt h
  ·have hnq:¬q.wrt h:=fun hq=>(hm h).1 hwp (I3 hq)
   exact(hwj h hnq).symm.trans (ai h (I3 hwp))
  ·by_cases hwq:q.wrt h
   ·exact(aj h (I3 hwq)).trans (wi h hwp)
   ·exact(((hwj h hwq).symm.trans (hwi h hwp).symm).trans (wj h hwq)).trans (wi h hwp)
inductive Path(all:Array Oper):Nat->Nat->Prop
 |one {i j:Nat} {oj:Oper} {e:Edge} (hj:all[j]?=some oj) (he:e∈oj.after) (hb:Region.binds .any e=true) (h:e.on=i):Path all i j
 |more {i k j:Nat} {oj:Oper} {e:Edge} (p:Path all i k) (hj:all[j]?=some oj) (he:e∈oj.after) (hb:Region.binds .any e=true) (h:e.on=k):Path all i j
def Cl(all:Array Oper)(listed:Array Bool):Prop:=∀(k:Nat) (ok:Oper),all[k]?=some ok->listed.getD k false=true->∀e∈ok.after,Region.binds .any e=true->listed.getD e.on false=true
theorem Cl.path{listed:Array Bool}(c:Cl all listed){i j:Nat}(p:Path all i j)(hj:listed.getD j false=true):listed.getD i false=true:=by
 induction p with
 |one h1 he hb h=>exact h▸c _ _ h1 hj _ he hb
 |more p h1 he hb h ih=>exact ih (h▸c _ _ h1 hj _ he hb)
theorem Cl.ready{listed:Array Bool}(c:Cl all listed){i j:Nat}(p:Path all i j)(hj:j∈Region.ready .any all listed):listed.getD i false=true:=by
 obtain⟨_,o,ho,hall⟩:=mem_ready.1 hj;cases p with
 |one h1 he hb h=>
  rw[ho]at h1;cases h1;exact h▸hall _ he hb
 |more p h1 he hb h=>
  rw[ho]at h1;cases h1;exact c.path p (h▸hall _ he hb)
theorem Cl.add{listed:Array Bool}(c:Cl all listed){j:Nat}(hj:j∈Region.ready .any all listed):Cl all (listed.setIfInBounds j true):=by
 intro k ok hk hl e he hb;obtain⟨_,o,ho,hall⟩:=mem_ready.1 hj;by_cases ek:j=k
 ·subst ek;rw[ho]at hk;cases hk;exact getD_set_true (hall e he hb)
 ·rw[getD_set_ne false ek]at hl;exact getD_set_true (c k ok hk hl e he hb)
variable {T:Nat->Fp} {e:Fr}
def K0(E:Env)(run:Run)(all:Array Oper)(T:Nat->Fp)(e:Fr):Nat->Array Bool->Fr->Prop
 |0,listed,fr=>Region.ready .any all listed=[]/\Ext fr e
 |n+1,listed,fr=>(Region.ready .any all listed=[]->Ext fr e)/\∀i∈Region.ready .any all listed,∃o,all[i]?=some o/\∃fr1,Stp E run all o fr fr1 (T i)/\K0 E run all T e n (listed.setIfInBounds i true) fr1
theorem K0.ext:∀{n:Nat} {listed:Array Bool} {fr fr':Fr},K0 E run all T e n listed fr->Ext fr fr'->K0 E run all T e n listed fr'
 |0,listed,fr,fr',h,x=>⟨h.1,x.symm.trans h.2⟩
 |n+1,listed,fr,fr',h,x=>⟨fun h0=>x.symm.trans (h.1 h0),fun i hi=>by
  obtain⟨o,ho,fr1,s,h'⟩:=h.2 i hi;obtain⟨m,hs,hw,hl⟩:=s.loc;obtain⟨fr1',s',a1,w1,t1⟩:=hl fr' (fun t _=>by rw[GL,GL,x.1]) fun h _=>x.2 h
  refine⟨o,ho,fr1',s',K0.ext h' ⟨by rw[hs,t1,x.1],fun h=>?_⟩⟩
  by_cases hp:(T i).wrt h
  ·exact a1 h (I3 hp)
  ·exact((hw h hp).symm.trans (x.2 h)).trans (w1 h hp)⟩
theorem WY{i:Nat}{oi:Oper}(hi:all[i]?=some oi):∀(n:Nat) (listed:Array Bool) (fr fr1:Fr),Cl all listed->
 (∀(j:Nat) (oj:Oper),all[j]?=some oj->j≠i->listed.getD j true=false->(∀e∈oj.after,Region.binds .any e=true->e.on≠i)->¬Path all i j->oi.apart all oj=true/\∀h,((T i).wrt h->¬(T j).tch h)/\((T j).wrt h->¬(T i).tch h))->
 i∈Region.ready .any all listed->Stp E run all oi fr fr1 (T i)->K0 E run all T e n (listed.setIfInBounds i true) fr1->K0 E run all T e (n+1) listed fr:=by
 intro n;induction n with
 |zero=>
  intro listed fr fr1 _ _ hr hy H;refine⟨fun h=>(by rw[h]at hr;cases hr),fun j hj=>?_⟩
  by_cases hji:j=i
  ·subst hji;exact⟨oi,hi,fr1,hy,H⟩
  ·have:=ready_mono hj hji;rw[H.1]at this;cases this
 |succ n ih=>
  intro listed fr fr1 hcl hfree hr hy H;refine⟨fun h=>(by rw[h]at hr;cases hr),fun j hj=>?_⟩
  by_cases hji:j=i
  ·subst hji;exact⟨oi,hi,fr1,hy,H⟩
  ·obtain⟨oj,hoj,fr2,sj,H'⟩:=H.2 j (ready_mono hj hji);obtain⟨hjun,oj',hoj',hall⟩:=mem_ready.1 hj;rw[hoj]at hoj';cases hoj';have hnot:∀e∈oj.after,Region.binds .any e=true->e.on≠i:=fun e he hb heq=>by
    have h1:=hall e he hb;have h0:=(mem_ready.1 hr).1;rw[heq]at h1;rcases yo i listed.size with h'|h'
    ·simp[h']at h0 h1;rw[h0]at h1;cases h1
    ·simp[Jo h']at h1
   have hnp:¬Path all i j:=fun p=>by
    have h1:=hcl.ready p hj;have h0:=(mem_ready.1 hr).1;rcases yo i listed.size with h'|h'
    ·simp[h']at h0 h1;rw[h0]at h1;cases h1
    ·simp[Jo h']at h1
   obtain⟨hap,hmem⟩:=hfree j oj hoj hji hjun hnot hnp;obtain⟨fr1',fr2',sj',si',hx⟩:=akI hy sj hap hmem;refine⟨oj,hoj,fr1',sj',ih _ fr1' fr2' (hcl.add hj) (fun k ok hk hki hun hno hnp=>hfree k ok hk hki ?_ hno hnp) (ready_mono hr (Ne.symm hji)) si' ?_⟩
   ·by_cases hjk:j=k
    ·subst hjk;exact hjun
    ·rw[getD_set_ne true hjk]at hun;exact hun
   ·rw[Array.setIfInBounds_comm _ _ hji];exact H'.ext hx
inductive Chain(E:Env)(run:Run)(all:Array Oper):List Oper->Fr->List Fp->Fr->Prop
 |nil (fr:Fr):Chain E run all [] fr [] fr
 |cons {o:Oper} {os:List Oper} {fr fr1 e:Fr} {p:Fp} {ps:List Fp} (s:Stp E run all o fr fr1 p) (t:Chain E run all os fr1 ps e):Chain E run all (o::os) fr (p::ps) e
theorem T3:∀(l:List Oper) (ps:List Fp) (k:Nat) (listed:Array Bool) (fr:Fr),(∀j,l[j]?=all[k+j]?)->(∀j p,ps[j]?=some p->T (k+j)=p)->Region.lexFrom .any all l.length k listed=true->(∀j,j<k->listed.getD j true=true)->listed.size=all.size->Cl all listed->
 (∀(i j:Nat) (oi oj:Oper),all[i]?=some oi->all[j]?=some oj->i<j->¬Path all i j->∀h,((T i).wrt h->¬(T j).tch h)/\((T j).wrt h->¬(T i).tch h))->
 Chain E run all l fr ps e->K0 E run all T e l.length listed fr
 |[],ps,k,listed,fr,_,_,hB,_,_,_,_,h=>by
  cases h;exact⟨by simpa [Region.lexFrom]using hB,Ext.refl _⟩
 |o::l,ps,k,listed,fr,hl,hT,hB,hk,hsz,hcl,hm,h=>by
  cases h with
  | @cons _ _ _ fr1 _ p ps s t=>
    have h0:all[k]?=some o:=by simpa using(hl 0).symm
    simp only[jf,Region.lexFrom,jg]at hB;obtain⟨⟨hr,hf⟩,hB'⟩:=hB;have hTk:T k=p:=hT 0 p (by simp)
    have hklt:k<all.size:=(Je.1 h0).1;refine WY h0 l.length listed fr fr1 hcl (fun j oj hj hne hun hno hnp=>⟨Region.free_spec h0 hf j oj hj hne hun hno,?_⟩) (by simpa using hr) (by rw[hTk];exact s)
     (T3 l ps (k+1) _ fr1 (fun j=>by have:=hl (j+1);simpa [Jj,Nat.add_comm 1 j]using this) (fun j p hj=>by have:=hT (j+1) p (by simpa using hj);rw[<-this];congr 1;omega) hB' (fun j hj=>?_) (by simpa using hsz) (hcl.add (by simpa using hr)) hm t)
    ·have hjk:k<j:=by
      rcases Nat.lt_trichotomy j k with x|x|x
      ·rw[hk j x]at hun;cases hun
      ·exact absurd x hne
      ·exact x
     exact hm k j o oj h0 hj hjk hnp
    ·by_cases e:k=j
     ·subst e;have:k<listed.size:=by omega
      simp[this]
     ·rw[getD_set_ne true e];exact hk j (by omega)
end
end Kw
namespace Kw
open Go
variable [Gl]
section
variable {E:Env} {run:Run} {all:Array Oper}
theorem ZZ{fr fr':Fr}{g:G}{tmps:Array Value}{w:World}(S:Sim fr g tmps w)(x:Ext fr fr')(hk:(fr'.ob.map (·.1)).Nodup):Sim fr' g tmps w:=by
 have hc:cur fr'.ob=cur fr.ob:=funext fun h=>by unfold cur;rw[(x.2 h).1]
 refine⟨by rw[<-x.1];exact S.size,fun t v m h1 h2=>by rw[hc];exact S.slot t v m h1 (by rw[x.1];exact h2),hk,fun h=>(S.o.abs h).trans (not_congr (x.2 h).2),fun h o hm=>?_,S.o.inj,S.o.lt,S.o.plt,S.o.gl⟩
 have hm':h∈fr.ob.map (·.1):=(x.2 h).2.2 (Jc (f:=(·.1)) hm);have:=S.o.obj h _ (lS hm');rw[(x.2 h).1,G9 hk hm]at this;rw[hc];exact this
theorem PB{o:Oper}{fr:Fr}{g:G}{tmps:Array Value}{w:World}(S:Sim fr g tmps w){b:Bool}(h:mP all o fr b):Region.wanted o (yielded all tmps)=b:=by
 unfold mP at h;unfold Region.wanted;split at h
 ·rename_i hg;rw[hg];exact h.symm
 ·rename_i j want hg;obtain⟨d,hd,⟨hs,e⟩|⟨v,hv,e⟩⟩:=h
  ·rw[hg];have ht:=TI S hs;have hy:yielded all tmps j=none:=by unfold yielded;rw[hd];simp[ht,undef]
   simp only[hy];rw[e];rfl
  rw[hg];have ht:=O1 S hv;have hy:yielded all tmps j=some v:=by unfold yielded;rw[hd];simp[ht]
  simp only[hy];rw[e];cases v<;>cases want<;>rfl
theorem Q6{T:Nat->Fp}{e:Fr}(hke:(e.ob.map (·.1)).Nodup){Q:Exit->Act->World->Prop}(hask:∀(i:Nat) (o:Oper),all[i]?=some o->Ask E run o Q):∀(n:Nat) {listed:Array Bool} {fr:Fr} {g:G} {a:Act} {w:World},
 K0 E run all T e n listed fr->Sim fr g a.tmps w->(∀a' w',a'.defers=a.defers->(∃g',Sim e g' a'.tmps w'/\Fm g w g' w')->Q .normal a' w')->wpAny E.P .any all Q n listed a w
 |0,listed,fr,g,a,w,h,S,hQ=>⟨h.1,hQ a w rfl ⟨g,ZZ S h.2 hke,Fm.refl _ _⟩⟩
 |n+1,listed,fr,g,a,w,h,S,hQ=>by
  refine⟨fun h0=>hQ a w rfl ⟨g,ZZ S (h.1 h0) hke,Fm.refl _ _⟩,fun i hi=>?_⟩
  obtain⟨o,ho,fr1,s,h'⟩:=h.2 i hi;unfold wpOp;simp only[ho];cases s with
  |ex hw l hp=>
   rw[PB S hw];simp only[ju];obtain⟨m,_,_,hev,_⟩:=l;refine .inl (Oper.wp_mono (fun a' w' hg=>?_) (hask i o ho (r:=fr1) (k:=some) (hev _ some) S))
   obtain⟨hd,fr',g',hk,S',F⟩:=hg;cases hk;exact Q6 hke hask n h' S' fun a'' w'' hd' ⟨g'',S'',F'⟩=>hQ a'' w'' (hd'.trans hd) ⟨g'',S'',F.trans F'⟩
  |sk hw h1 hp=>
   rw[PB S hw];simp only[qd,qr];subst h1;obtain⟨hd,fr',g',hk,S',F⟩:=rZ (k:=some) (g:=g) (w:=w) (a:=a) (dst:=o.dst) (v:=undef) (m:=.tup []) rfl S QW (Fm.refl _ _);cases hk;exact Q6 hke hask n h' S' fun a'' w'' hd' ⟨g'',S'',F'⟩=>hQ a'' w'' (hd'.trans hd) ⟨g'',S'',F.trans F'⟩
theorem Z0{fr:Fr}{d:Nat}{m:MV}(h:fr.get d=m)(hu:m≠ .undef):fr.set d m=fr:=by
 have hlt:d<fr.sl.length:=by
  rcases yo d fr.sl.length with h'|h'
  ·exact h'
  ·unfold Fr.get at h;rw[jr,qo h']at h;exact absurd h.symm hu
 have:fr.sl.set d m=fr.sl:=by
  apply List.ext_getElem?;intro i;by_cases e:d=i
  ·subst e;rw[List.getElem?_set_self hlt];unfold Fr.get at h;rw[jr,jj hlt]at h;rw[jj hlt,<-h];rfl
  ·rw[List.getElem?_set_ne e]
 unfold Fr.set;rw[this]
theorem PC:∀{l:List H},QG l=true->l.Nodup
 |[],_=>.nil
 |h::hs,e=>by
  unfold QG at e;simp only[jg,yu]at e;refine wz.2 ⟨fun hm=>?_,PC e.2⟩
  rw[List.any_eq_false]at e;exact e.1 h hm (by simp)
theorem D9{R:Type}{r:R}{k:Fr->Option R}:∀(os:List Oper) (ps:List Fp) (fr:Fr),rA E run all os ps fr k=some r->∃qs e,Chain E run all os fr qs e/\k e=some r/\(w9 all (ps.reverse++qs)=true/\(e.ob.map (·.1)).Nodup)
 |[],ps,fr,h=>by
  unfold rA at h;split at h
  ·rename_i ha;simp only[jg]at ha;exact⟨[],fr,.nil fr,h,by rw[ka];exact ha.1,PC ha.2⟩
  ·simp at h
 |o::os,ps,fr,h=>by
  unfold rA at h;have go:∀{fr1:Fr} {p:Fp},Stp E run all o fr fr1 p->rA E run all os (p::ps) fr1 k=some r->∃qs e,Chain E run all (o::os) fr qs e/\k e=some r/\(w9 all (ps.reverse++qs)=true/\(e.ob.map (·.1)).Nodup):=fun s h=>by
   obtain⟨qs,e,c,hk,ha⟩:=D9 os _ _ h;exact⟨_,e,.cons s c,hk,by simpa using ha.1,ha.2⟩
  split at h
  ·rename_i hg;split at h
   ·rename_i hok;obtain⟨fr1,h,l⟩:=ag0 hok h;exact go (.ex (by unfold mP;rw[hg]) l rfl) h
   ·simp at h
  ·rename_i j want hg;split at h
   ·rename_i d hd;split at h
    ·rename_i hsk;exact go (.sk (by unfold mP;rw[hg];exact⟨d,hd,.inl ⟨hsk,rfl⟩⟩) rfl rfl) h
    obtain⟨b,hb,h⟩:=aF h;have hb':=jE hb;rcases br_some h with⟨hc,hq⟩|⟨hc,hq⟩
    ·have e:b=want:=by cases want<;>cases b<;>simp_all [bNot]
     subst e;rw[Z0 hb' (by simp)]at hq
     split at hq
     ·rename_i hok;obtain⟨fr1,hq,l⟩:=ag0 hok hq;exact go (.ex (by unfold mP;rw[hg];exact⟨d,hd,.inr ⟨b,hb',by cases b<;>rfl⟩⟩) l rfl) hq
     ·simp at hq
    ·have e:b=!want:=by cases want<;>cases b<;>simp_all [bNot]
     subst e;rw[Z0 hb' (by simp)]at hq
     exact go (.sk (by unfold mP;rw[hg];exact⟨d,hd,.inr ⟨!want,hb',by cases want<;>rfl⟩⟩) rfl rfl) hq
   ·simp at h
theorem akJ{p:Fp}{h:H}(x:p.wrt h):p.hits h=true:=by
 unfold Fp.hits;rcases x with x|⟨d,j,e,eh⟩
 ·simp[x]
 ·subst eh;rw[e];simp
theorem ag1{p q:Fp}(h:p.apart q=true)(x:H):(p.wrt x->¬q.tch x)/\(q.wrt x->¬p.tch x):=by
 unfold Fp.apart at h;simp only[jg,kj,yu]at h;obtain⟨h1,h2,h3,h4,h5⟩:=h;have hh:∀{p q:Fp},(∀x∈q.rd,p.hits x=false)->(∀x∈q.wr,p.hits x=false)->(∀x∈p.wr,q.hits x=false)->(∀a b,p.fam=some a->q.fam=some b->a≠b)->p.wrt x->¬q.tch x:=fun g1 g2 g3 g4 hp hq=>by
  have hp':=akJ hp;rcases hq with y|y|⟨d,j,e,ex⟩
  ·rw[g1 x y]at hp';cases hp'
  ·rw[g2 x y]at hp';cases hp'
  ·rcases hp with z|⟨d',j',e',ex'⟩
   ·have:=g3 x z;unfold Fp.hits at this;subst ex;rw[e]at this;simp at this
   ·rw[ex]at ex';cases ex';exact g4 d d e' e rfl
 have hfam:∀a b,p.fam=some a->q.fam=some b->a≠b:=fun a b e1 e2=>by
  rw[e1,e2]at h5;simpa using h5
 exact⟨hh h1 h2 h4 hfam,hh h3 h4 h2 fun a b e1 e2=>(hfam b a e2 e1).symm⟩
theorem ag2{p:Fp}(h:p.empty=true):p=⟨[],[],none⟩:=by
 unfold Fp.empty at h;split at h
 ·rfl
 ·cases h
theorem GM:∀(ps:List Fp) (n i:Nat) (p:Fp),ps[i]?=some p->p.empty=false->(p,n+i)∈B7 ps n
 |[],n,i,p,h,_=>by simp at h
 |a::ps,n,i,p,h,he=>by
  unfold B7;cases i with
  |zero=>
   simp at h;subst h;rw[he];simp
  |succ i=>
   have:=GM ps (n+1) i p (by simpa using h) he
   have e:n+1+i=n+(i+1):=by omega
   rw[e]at this;split
   ·exact this
   ·exact kz _ this
theorem K2:∀(ps:List Fp) (n:Nat) (x:Fp×Nat),x∈B7 ps n->n<=x.2
 |[],n,x,h=>by simp[B7]at h
 |a::ps,n,x,h=>by
  unfold B7 at h;split at h
  ·have:=K2 ps (n+1) x h;omega
  ·rcases ko.1 h with e|h
   ·subst e;exact kg _
   ·have:=K2 ps (n+1) x h;omega
theorem tT:∀(ps:List Fp) (n:Nat),(B7 ps n).Pairwise (fun x y=>x.2<y.2)
 |[],n=>.nil
 |a::ps,n=>by
  unfold B7;split
  ·exact tT ps (n+1)
  ·exact .cons (fun y hy=>by have:=K2 ps (n+1) y hy;omega) (tT ps (n+1))
theorem HO{p:Fp}{i:Nat}:∀{qs:List (Fp×Nat)},DL all p i qs=true->∀x∈qs,p.apart x.1=true\/JW all 6 i x.2=true
 |[],_,x,hx=>by simp at hx
 |(q,j)::qs,h,x,hx=>by
  simp only[DL,jg,ya]at h;rcases ko.1 hx with e|hx
  ·subst e;exact h.1
  ·exact HO h.2 x hx
theorem K3:∀{ps:List (Fp×Nat)},IU all ps=true->ps.Pairwise fun x y=>x.1.apart y.1=true\/JW all 6 x.2 y.2=true
 |[],_=>.nil
 |(p,i)::ps,h=>by
  simp only[IU,jg]at h;exact .cons (fun y hy=>HO h.1 y hy) (K3 h.2)
theorem HP{q:Fp}(p:Fp)(h:q.empty=true\/p.empty=true)(x:H):(p.wrt x->¬q.tch x)/\(q.wrt x->¬p.tch x):=by
 have hno:∀{a:Fp},a.empty=true->(¬a.wrt x)/\¬a.tch x:=fun{a} ha=>by
  rw[ag2 ha];constructor
  ·rintro(y|⟨d,j,y,_⟩)
   ·simp at y
   ·cases y
  ·rintro(y|y|⟨d,j,y,_⟩)
   ·simp at y
   ·simp at y
   ·cases y
 rcases h with h|h
 ·exact⟨fun _=>(hno h).2,fun hq=>absurd hq (hno h).1⟩
 ·exact⟨fun hp=>absurd hp (hno h).1,fun _=>(hno h).2⟩
theorem EA{A:Type}{R:A->A->Prop}:∀{l:List A},l.Pairwise R->∀(f:A->Nat),l.Pairwise (fun x y=>f x<f y)->∀x∈l,∀y∈l,f x<f y->R x y
 |[],_,f,_,x,hx,y,hy,_=>by simp at hx
 |a::l,hp,f,hs,x,hx,y,hy,hlt=>by
  cases hp with
  |cons h1 h2=>
   cases hs with
   |cons s1 s2=>
    rcases ko.1 hx with e|hx1<;>rcases ko.1 hy with e'|hy1
    ·subst e;subst e';omega
    ·rw[e];exact h1 y hy1
    ·have:=s1 x hx1;rw[<-e']at this;omega
    ·exact EA h2 f s2 x hx1 y hy1 hlt
theorem Z2:∀(f:Nat) {i j:Nat},JW all f i j=true->Path all i j
 |0,i,j,h=>by simp[JW]at h
 |f+1,i,j,h=>by
  unfold JW at h;split at h
  ·rename_i oj hj;rw[<-Array.any_toList]at h;obtain⟨e,he,hb⟩:=List.any_eq_true.1 h;simp only[jg,ya,beq_iff_eq]at hb;rcases hb.2 with h'|h'
   ·exact .one hj (by simpa using he) hb.1 h'
   ·exact .more (Z2 f h'.2) hj (by simpa using he) hb.1 rfl
  ·cases h
theorem T4{ps:List Fp}(h:w9 all ps=true)(i j:Nat)(p q:Fp)(oj:Oper)(hi:ps[i]?=some p)(hj:ps[j]?=some q)(hoj:all[j]?=some oj)(hij:i<j)(hno:¬Path all i j)(x:H):(p.wrt x->¬q.tch x)/\(q.wrt x->¬p.tch x):=by
 unfold w9 at h;by_cases hp:p.empty=true
 ·exact HP p (.inr hp) x
 ·by_cases hq:q.empty=true
  ·exact HP p (.inl hq) x
  ·have m1:=GM ps 0 i p hi (by simpa using hp)
   have m2:=GM ps 0 j q hj (by simpa using hq)
   have:=EA (K3 h) (·.2) (tT ps 0) _ m1 _ m2 (by simp;exact hij)
   simp only[qx]at this;rcases this with y|y
   ·exact ag1 y x
   ·exact absurd (Z2 6 y) hno
theorem abQ{os:List Oper}{fr e:Fr}{ps:List Fp}(h:Chain E run all os fr ps e):ps.length=os.length:=by
 induction h with
 |nil=>rfl
 |cons _ _ ih=>simp[ih]
theorem WZ{id:Nat}{ops:Array Oper}(hm:E.P.follows .mixedOrders=true)(hB:Region.lexB .any ops=true)(hask:∀(i:Nat) (o:Oper) (Q:Exit->Act->World->Prop),ops[i]?=some o->Ask E run o Q):TK E run id ops true:=by
 intro R r k fr g a w h S;simp only[ju]at h;obtain⟨g1,S1,F1⟩:=TM S (tK ops.toList);obtain⟨qs,e,hc,hk,hap⟩:=D9 _ _ _ h;obtain⟨hap,hnd⟩:=hap;simp only[List.reverse_nil,qg]at hap;refine wp_region_any hm ?_;unfold Region.lexB at hB;simp only[jg]at hB;have hlen:=abQ hc;have hA:K0 E run ops (fun i=>(qs[i]?).getD ⟨[],[],none⟩) e ops.toList.length (Array.replicate ops.size false) (fr.kill (tK ops.toList)):=
  T3 ops.toList qs 0 _ _ (by simp) (fun j p hj=>by simp only[qx,hj];rfl) (by simpa using hB.2) (fun j hj=>by omega) (by simp) (fun k ok _ hl=>by
   exfalso;rcases yo k ops.size with h'|h'
   ·simp[h']at hl
   ·simp[Jo h',Nat.not_lt.2 h']at hl) (fun i j oi oj hi hj hij hno=>by
   have hil:i<qs.length:=by rw[hlen];simpa using(Je.1 hi).1
   have hjl:j<qs.length:=by rw[hlen];simpa using(Je.1 hj).1
   have e1:qs[i]?=some (qs[i]'hil):=jj hil;have e2:qs[j]?=some (qs[j]'hjl):=jj hjl;simp only[e1,e2,Jl];exact T4 hap i j _ _ oj e1 e2 hj hij hno) hc
 have hdr:Sim (fr.kill (tK ops.toList)) g1 a.tmps {w with drawn:=w.drawn+1}:=O6 S1 (fun _ _=>rfl) (kg _)
 have hA':K0 E run ops (fun i=>(qs[i]?).getD ⟨[],[],none⟩) e ops.size (Array.replicate ops.size false) (fr.kill (tK ops.toList)):=by simpa using hA
 refine Q6 hnd (fun i o ho=>hask i o _ ho) ops.size hA' hdr fun a' w' hd ⟨g',S',F'⟩=>?_
 refine⟨.normal,rfl,hd,e,g',hk,S',F1.trans ?_⟩;exact⟨F'.os,F'.tape,F'.output,F'.size,F'.heap,F'.own,F'.prot,F'.prot',F'.imp⟩
theorem ag3(hrun:cL E.P run)(o:Oper)(Q:Exit->Act->World->Prop):Ask E run o Q:=
 akC (fun _ _ ho hc=>akG hrun ho hc) (fun _ _ _ _ _ ho ha=>aqE ho ha)
def mQ:Code->Bool
 | .region _ ops d=>!d||Region.lexB .any ops
 | .seq a b=>mQ a&&mQ b
 | .cond _ a b=>mQ a&&mQ b
 | .block _ c=>mQ c
 | .loop c=>mQ c
 |_=>true
theorem tU(hm:E.P.follows .mixedOrders=true)(hrun:cL E.P run):∀c:Code,mQ c=true->tP (TK E run) c
 | .region id ops d,h=>by
   cases d with
   |true=>exact WZ hm (by simpa [mQ]using h) fun i o Q _=>ag3 hrun o Q
   |false=>exact TN fun i o Q _=>ag3 hrun o Q
 | .seq a b,h=>by
   simp only[mQ,jg]at h;exact⟨tU hm hrun a h.1,tU hm hrun b h.2⟩
 | .cond _ a b,h=>by
   simp only[mQ,jg]at h;exact⟨tU hm hrun a h.1,tU hm hrun b h.2⟩
 | .block _ c,h=>tU hm hrun c h
 | .loop c,h=>tU hm hrun c h
 | .skip,_=>trivial
 | .exit _,_=>trivial
 | .ret,_=>trivial
 | .label _,_=>trivial
 | .goto _,_=>trivial
 | .rangeFunc _ _ _ _,_=>trivial
 | .scope _,_=>trivial
 | .refuse _,_=>trivial
theorem apH{L:Nat}(hm:E.P.follows .mixedOrders=true)(hname:∀(f:FuncId) (fn:Func),E.P.funcs[f]?=some fn->(fn.name== "runtime.NumGoroutine")=false)
 (hlex:∀(f:FuncId) (fn:Func) (c:Code),E.P.funcs[f]?=some fn->fn.body=some c->E.okf f=true->mQ c=true)
 (hext:∀f q,E.ext f=some q->cL E.P fun f' args imps=>if f'=f then(q args).map fun m=>(m,imps)else none) (D:Nat):cL E.P (ev E L D):=
 apG hname (fun _ hrun f fn c hf hc ho=>tU hm hrun c (hlex f fn c hf hc ho)) hext D
end
end Kw
namespace Kw
open Go Go.RowKit
variable [Gl]
def EB(w:World):Nat->Prop:=fun b=>b<w.heap.size
theorem aAA{E:Env}{L D:Nat}(hs:cL E.P (ev E L D)){f:FuncId}{args:List MV}{vals:Array Value}{W:World}{b:Bool}(he:ev E L D f args []=some (.bool b,[]))
 (hv:Rl (fun v m=>SV W (EB W) v m) vals.toList args) (hc:(callFunc f vals).run E.P W=.ok (.enter f vals) W) (hg:yE (EB W) W):
 Calls E.P f vals W fun e w'=>e=.returned (.bool b)/\Below W.heap.size W w':=by
 have hrl:Rl (RV (gB [] (EB W)) (cuB []) W) vals.toList args:=hv.mono fun v m h=>.sv h
 have p:Pre [] (EB W) W vals.toList args [] [] []:=⟨pB hrl,.nil,.nil,fun b hb=>by simp[blks]at hb,fun b hb=>hb,hg⟩
 have h:=hs he p;unfold pL at h;rw[hc]at h;refine h.mono fun e w' ⟨v,ev,ex,prot',fa',fo',hR,_,_,_,_,K⟩=>?_
 subst ev;refine⟨?_,K.os,K.tape,K.output,K.size,fun k hk=>K.heap k hk (by simp[blks])⟩
 congr 1
 cases hR with
 |one h _=>exact mK (ZW (g1:=gB [] (EB W)) (cu1:=cuB []) (w1:=W) h rfl)
theorem ag4{W:World}{prot:Nat->Prop}{ad:Addr}{n c:Nat}(hs:ad.spot=none)(hp:prot ad.block)(hc:n<=c)(l:List UInt8)(hl:l.length=n)
 (h:∀(i:Nat) (x:UInt8),l[i]?=some x->W.cell? ⟨ad.block,ad.off+i,none⟩=some (.int .u8 x.toNat)):
 SV W prot (.slice (some ad) n c) (.sl (l.map fun x=>[.int .u8 x.toNat])):=by
 refine .sl 1 (fun i _=>.int .u8 (((l[i]?).getD 0).toNat:Nat)) (by simp[hl]) hc (fun i row hi=>?_) (fun _=>⟨ad,rfl,hs,hp,fun i row j m hi hj=>?_⟩) (fun i row j m hi hj=>?_)
 ·rw[jo]at hi;obtain⟨x,_,e⟩:=kw.1 hi;rw[<-e];rfl
 ·rw[jo]at hi;obtain⟨x,hx,e⟩:=kw.1 hi;subst e;cases j with
  |zero=>
   have:=h i x hx;simp only[Nat.mul_one,yv,hx,Jl];exact this
  |succ j=>simp at hj
 ·rw[jo]at hi;obtain⟨x,hx,e⟩:=kw.1 hi;subst e;cases j with
  |zero=>simp at hj;subst hj;simp only[hx,Jl];exact .int _ _
  |succ j=>simp at hj
end Kw
namespace Kw
open Go Go.RowKit
variable [Gl]
def MV.im:MV->Bool| .bool _| .int _ _| .str _| .sl _| .iface _=>true|_=>false
section
variable {g:G} {cu:H->Int} {w:World} {f:List Nat}
theorem BV.im{v:Value}{m:MV}(h:BV g cu w v m f)(hm:m.im=true):f=[]/\SV w g.prot v m:=by
 cases h with
 |one h=>
  cases h with
  |rv h=>
   cases h<;>first|(cases hm;done)|skip
   rename_i h;exact⟨rfl,h⟩
  |own0=>cases hm
  |own=>cases hm
  |ownK0=>cases hm
  |ownK=>cases hm
 |agg=>cases hm
theorem BVs.im{vs:List Value}{ms:List MV}(h:BVs g cu w vs ms f)(hm:ms.all MV.im=true):f=[]/\Rl (fun v m=>SV w g.prot v m) vs ms:=by
 induction h with
 |nil=>exact⟨rfl,.nil⟩
 |cons h _ ih=>
  simp only[yb,jg]at hm;obtain⟨e1,s1⟩:=h.im hm.1;obtain⟨e2,s2⟩:=ih hm.2;exact⟨by rw[e1,e2];rfl,.cons s1 s2⟩
inductive ImR(w:World)(prot:Nat->Prop):Value->MV->Prop
 |one {v:Value} {m:MV} (h:SV w prot v m) (hm:m.im=true):ImR w prot v m
 |tup {vs:Array Value} {ms:List MV} (h:Rl (fun v m=>SV w prot v m) vs.toList ms):ImR w prot (.tuple vs) (.tup ms)
theorem Z3{P:Program}{f:FuncId}{q:List MV->Option MV}(hq:∀args m,q args=some m->args.all MV.im=true)
 (hcall:∀(args:List MV) (m:MV),q args=some m->∀(vals:Array Value) (w:World) (prot:Nat->Prop),(∀b,prot b->b<w.heap.size)->yE prot w->Rl (fun v m=>SV w prot v m) vals.toList args->pL P f vals w fun v w'=>ImR w' prot v m/\Below w.heap.size w w'):
 cL P fun f' args imps=>if f'=f then(q args).map fun m=>(m,imps)else none:=by
 intro f' args imps res vals w gs prot fa fo h p;simp only at h;split at h
 case isFalse=>simp at h
 rename_i ef;subst ef;obtain⟨m,hm,e⟩:=kw.1 h;subst e;obtain⟨efa,hv⟩:=p.vs.im (hq args m hm);subst efa;refine(hcall args m hm vals w prot p.plt p.gl hv).mono fun v w' ⟨hI,hB⟩=>?_
 have hblk:∀b,b<w.heap.size->w'.heap[b]?=w.heap[b]?:=fun b hb=>hB.block b hb
 have L:Later (gB gs prot) (gB gs prot) (cuB imps) (cuB imps) w w':=
  ⟨fun _ _ e=>.inl e,fun _ _ _ _ e=>.inr ⟨jz _,.inl e⟩,fun _ e=>.inr ⟨jz _,.inl e⟩,fun _ e=>e,fun _ h=>h,fun b hp=>hblk b (p.plt b hp)⟩
 refine⟨[],prot,[],fo,?_,?_,?_,?_,fun b hp=>v3 (p.plt b hp) hB.size,?_⟩
 ·rw[ka];cases hI with
  |one h1 hm1=>exact .one (.one (.rv (.sv h1))) (fun ms e=>by simp only at e;rw[e]at hm1;cases hm1)
  |tup h1=>exact .tup (pB (h1.mono fun _ _ hx=>.sv hx))
 ·rw[ka];exact p.os.mono L (fun b hb=>⟨hblk b (p.lt b (by simp[hb])),p.os.np b hb⟩) fun x hx b e=>⟨hblk b (p.lt b (jn _ (eK.2 ⟨x,hx,e⟩))),id⟩
 ·rw[ka];exact p.nod
 ·rw[ka];exact fun b hb=>v3 (p.lt b hb) hB.size
 ·rw[ka];exact⟨hB.os,hB.tape,hB.output,hB.size,fun b hb _=>hblk b hb,fun b hb=>.inr hb,fun _ h=>h,fun _ h=>.inl h⟩
theorem eV{P:Program}{f:FuncId}{vals:Array Value}{w:World}{R:Value->World->Prop}(hc:(callFunc f vals).run P w=.ok (.enter f vals) w)(h:Calls P f vals w fun e w'=>∃v,e=.returned v/\R v w'):pL P f vals w R:=by
 unfold pL;rw[hc];exact h
theorem Q7{P:Program}{f:FuncId}{q:List MV->Option MV}(hq:∀args m,q args=some m->args.all MV.im=true)
 (hcall:∀(args:List MV) (m:MV),q args=some m->∀(vals:Array Value) (w:World) (prot:Nat->Prop),(∀b,prot b->b<w.heap.size)->Rl (fun v m=>SV w prot v m) vals.toList args->pL P f vals w fun v w'=>ImR w' prot v m/\Below w.heap.size w w'):
 cL P fun f' args imps=>if f'=f then(q args).map fun m=>(m,imps)else none:=
 Z3 hq fun args m h vals w prot h1 _ h2=>hcall args m h vals w prot h1 h2
end
end Kw
namespace Kw
open Go Go.RowKit
variable [Gl]
def PD(prot:Nat->Prop)(w w':World):Nat->Prop:=fun b=>prot b\/(w.heap.size<=b/\b<w'.heap.size)
def axK(B:Nat)(prot:Nat->Prop)(w':World)(v:Value)(rows:List Row):Prop:=
 (rows=[]/\∃a,v=.slice a 0 0)\/∃b cap sz arr ty,v=.slice (some ⟨b,0,none⟩) rows.length cap/\B<=b/\w'.heap[b]?=some (.cells arr ty (0,0))/\JY false arr cap sz rows/\rows.length<=cap/\iC w' prot arr sz rows
theorem Z4{P:Program}{f:FuncId}{q:List MV->Option MV}(hq:∀args m,q args=some m->args.all MV.im=true)
 (hcall:∀(args:List MV) (m:MV),q args=some m->∀(vals:Array Value) (w:World) (prot:Nat->Prop),(∀b,prot b->b<w.heap.size)->Rl (fun v m=>SV w prot v m) vals.toList args->pL P f vals w fun v w'=>(∃rows,m=.own rows/\axK w.heap.size prot w' v rows)/\Below w.heap.size w w'):
 cL P fun f' args imps=>if f'=f then(q args).map fun m=>(m,imps)else none:=by
 intro f' args imps res vals w gs prot fa fo h p;simp only at h;split at h
 case isFalse=>simp at h
 rename_i ef;subst ef;obtain⟨m,hm,e⟩:=kw.1 h;subst e;obtain⟨efa,hv⟩:=p.vs.im (hq args m hm);subst efa;refine(hcall args m hm vals w prot p.plt hv).mono fun v w' ⟨⟨rows,em,hI⟩,hB⟩=>?_
 subst em;have hblk:∀b,b<w.heap.size->w'.heap[b]?=w.heap[b]?:=fun b hb=>hB.block b hb
 have L:Later (gB gs prot) (gB gs prot) (cuB imps) (cuB imps) w w':=
  ⟨fun _ _ e=>.inl e,fun _ _ _ _ e=>.inr ⟨jz _,.inl e⟩,fun _ e=>.inr ⟨jz _,.inl e⟩,fun _ e=>e,fun _ h=>h,fun b hp=>hblk b (p.plt b hp)⟩
 have hf:∃f,BC (gB gs prot) (cuB imps) w' v (.own rows) f/\f.Nodup/\∀b∈f,w.heap.size<=b/\b<w'.heap.size:=by
  rcases hI with⟨er,a,ev⟩|⟨b,cap,sz,arr,ty,ev,hb,hh,hs,hl,hr⟩
  ·subst er;subst ev;exact⟨[],.own0,List.nodup_nil,fun b hb=>by simp at hb⟩
  ·subst ev;exact⟨[b],.own hh (fun hp=>absurd (p.plt b hp) (by omega)) hs hl hr,by simp,fun b' hb'=>by simp at hb';subst hb';exact⟨hb,heap_lt hh⟩⟩
 obtain⟨f,hbc,hnd,hfb⟩:=hf;refine⟨[],prot,f,fo,?_,?_,?_,?_,fun b hp=>v3 (p.plt b hp) hB.size,?_⟩
 ·rw[ka];exact .one (.one hbc) (fun ms e=>by cases e)
 ·rw[ka];exact p.os.mono L (fun b hb=>⟨hblk b (p.lt b (by simp[hb])),p.os.np b hb⟩) fun x hx b e=>⟨hblk b (p.lt b (jn _ (eK.2 ⟨x,hx,e⟩))),id⟩
 ·rw[ka,qm];refine qt.2 ⟨hnd,by simpa using p.nod,fun a ha b hb e=>?_⟩
  subst e;have:=p.lt a (by simpa using hb)
  have:=(hfb a ha).1;omega
 ·rw[ka];intro b hb;rw[qm]at hb;rcases jv.1 hb with hb|hb
  ·exact(hfb b hb).2
  ·exact v3 (p.lt b (by simpa using hb)) hB.size
 ·rw[ka];refine⟨hB.os,hB.tape,hB.output,hB.size,fun b hb _=>hblk b hb,fun b hb=>?_,fun _ h=>h,fun _ h=>.inl h⟩
  rw[qm]at hb;rcases jv.1 hb with hb|hb
  ·exact .inl (hfb b hb).1
  ·exact .inr (by simpa using hb)
end Kw
namespace Kw
open Go Go.RowKit
variable [Gl]
set_option maxHeartbeats 2000000 in
set_option maxRecDepth 100000 in
theorem lG{P:Program}{ρ:Go.Shelf.Ren}(L:Go.Proofs.SlLaysE0.n41 P ρ)(i0:TypeInfo)(z:Value)(size bytes:Nat)(hi:P.info? (ρ.t 23)=some i0)(hz0:i0.zero=some z)(hz1:i0.size=size)(hz2:i0.bytes=bytes)(hzs:z.cells.size=size)(hsz:0<size)
 (z23:∀w,(Go.sizeOf (ρ.t 23)).run P w=.ok size w) (a:Addr) (c:Nat) (w:World):
 Calls P (ρ.f 41) #[.slice (some a) 0 c] w fun e w'=>∃v',e=.returned v'/\w'.ownsRow w.heap.size (ρ.t 23) size v' 0 []/\v'≠ .slice none 0 0/\Below w.heap.size w w':=by
 have mixed:=L.mixed;have t4:=L.t4;have a4:=L.a4;have z4:=L.z4;have v4:=L.v4;have t22:=L.t22;have a22:=L.a22;have z22:=L.z22;have v22:=L.v22;have q22:∀(w:World) (a:Option Addr) (n c n' c':Nat),(binOp .eql (ρ.t 22) (.slice a n c) (.slice none n' c')).run P w=.ok (.bool a.isNone) w:=fun w a n c n' c'=>Lib.run_eql_slice_nil w _ _ a n c n' c' L.t22
 have u22:∀w,Sem.run P (underlying (ρ.t 22)) w=.ok (TypeDesc.slice (ρ.t 23)) w:=run_underlying t22;obtain⟨_,_,FG⟩:=L.f41
 go_enter FG,Go.Proofs.SlBodyN.n41_ntmps ρ
 go_wp2_with (at_builtin;refine wpList_append_own _ rfl _ _ (ρ.t 22) rfl w.heap.size (ρ.t 23) i0 z size bytes t22 hi hz0 hz1 hz2 hzs hsz _ _ _ rfl (World.ownsRow_made w #[] 0 (kg _) (Nat.zero_le _) (by simp)) a 0 c [] rfl (by simp) (by intro j u hj;simp at hj) (by intro u hu;cases hu) (by unfold maxLen;omega) (by omega) (by simp) ?_)
 intro v' w1 hown hgrow hnil
 go_wp2
 go_ret
 refine⟨v',rfl,by simpa using hown,hnil,?_⟩
 exact((Below.refl _ w).alloc (kg _) _).grown hgrow (by simp) (by intro k hk;simp[Value.ownBlock]at hk;omega)
def dI(sz bytes:Nat):List MV->Option MV
 |[.sl rows]=>if okR sz rows&&Nat.ble (rows.length*bytes) 70368744177664 then some (.own rows)else none
 |_=>none
theorem Y5{w:World}{p:Nat->Prop}{v:Value}{m:MV}(h:SV w p v m):v.oneCell'=true:=by
 cases h<;>rfl
theorem aeY{i j sz:Nat}(h:j<sz):(i*sz+j)/sz=i/\(i*sz+j)%sz=j:=by
 have hz:0<sz:=by omega
 constructor
 ·rw[yq,Nat.mul_add_div hz,Nat.div_eq_of_lt h,yv]
 ·rw[yq,Nat.mul_add_mod,Nat.mod_eq_of_lt h]
theorem jK{P:Program}{F:FuncId}{sz bytes E:Nat}(hsz:0<sz)
 (enter:∀v w,(callFunc F #[v]).run P w=.ok (.enter F #[v]) w)
 (hnil:∀n c w,Calls P F #[.slice none n c] w fun e w'=>e=.returned (.slice none 0 0)/\w'=w)
 (hsome:∀(a:Addr) (n c:Nat) (news:List Value) (w:World),news.length=n*sz->n*bytes<=70368744177664->(0<n->a.spot=none/\∀j u,news[j]?=some u->w.cell? ⟨a.block,a.off+j,none⟩=some u)->(∀u∈news,u.oneCell'=true)->
  Calls P F #[.slice (some a) n c] w fun e w'=>∃g cur,e=.returned (.slice (some ⟨g,0,none⟩) n n)/\w.heap.size<=g/\w'.heap[g]?=some (.cells cur E (0,0))/\n*sz<=cur.size/\cur.toList.take (n*sz)=news/\Below w.heap.size w w'):
 cL P fun f' args imps=>if f'=F then(dI sz bytes args).map fun m=>(m,imps)else none:=by
 refine Z4 (q:=dI sz bytes) (fun args m h=>?_) fun args m h vals w prot hp hv=>?_
 ·unfold dI at h;split at h
  ·rfl
  ·cases h
 unfold dI at h;split at h
 case h_2=>cases h
 rename_i rows;split at h
 case isFalse=>cases h
 rename_i hok;cases h;rw[jg,Nat.ble_eq]at hok;obtain⟨hok,hbig⟩:=hok;have hlen:∀(i:Nat) (row:Row),rows[i]?=some row->row.length=sz:=fun i row hi=>DU.1 hok _ (qi hi)
 obtain⟨v,hv',hs⟩:∃v,vals= #[v]/\SV w prot v (.sl rows):=by
  obtain⟨l⟩:=vals;change Rl _ l _ at hv;cases hv with
  |cons h1 h2=>cases h2;exact⟨_,rfl,h1⟩
 subst hv';refine eV (enter v w) ?_;cases hs with
 | @sl a n c _ sz' vf hn hc hrow had hsv=>
   cases a with
   |none=>
    have hn0:n=0:=by
     by_cases h0:0<n
     ·obtain⟨ad,e,_⟩:=had h0;cases e
     ·omega
    have hr0:rows=[]:=qe.1 (hn.trans hn0);refine(hnil n c w).mono fun e w' ⟨he,hw⟩=>⟨_,he,⟨rows,rfl,.inl ⟨hr0,_,rfl⟩⟩,?_⟩
    rw[hw];exact Below.refl _ w
   |some ad=>
    have hsz':0<n->sz'=sz:=fun h0=>by
     have h1:rows[0]?=some (rows[0]'(by omega)):=jj (by omega)
     rw[<-hrow 0 _ h1,hlen 0 _ h1]
    have hget:∀(i j:Nat),i<n->j<sz->∃row m,rows[i]?=some row/\row[j]?=some m:=fun i j hi hj=>by
     have h1:rows[i]?=some (rows[i]'(by omega)):=jj (by omega)
     have h2:=hlen i _ h1;exact⟨_,_,h1,jj (by omega)⟩
    have hnews:∀(i j:Nat),i<n->j<sz->((List.range (n*sz)).map fun q=>vf (q/sz) (q%sz))[i*sz+j]?=some (vf i j):=fun i j hi hj=>by
     have hlt:i*sz+j<n*sz:=by
      have:(i+1)*sz<=n*sz:=qn _ hi;rw[yl]at this;omega
     rw[jo,yn hlt];simp only[yi,(aeY hj).1,(aeY hj).2]
    refine(hsome ad n c ((List.range (n*sz)).map fun q=>vf (q/sz) (q%sz)) w (by simp) (by rw[hn]at hbig;exact hbig) (fun h0=>?_) (fun u hu=>?_)).mono fun e w' ⟨g,cur,he,hg,hh,hcs,ht,hB⟩=>⟨_,he,⟨rows,rfl,.inr ⟨g,n,sz,cur,E,by rw[hn],hg,hh,⟨hcs,fun e=>.inl (by rw[e]at hn;exact hn.symm)⟩,by omega,fun i row hi=>⟨hlen i row hi,fun j m hj=>?_⟩⟩⟩,hB⟩
    ·obtain⟨ad',e,hsp,hpb,hcell⟩:=had h0;cases e;refine⟨hsp,fun j u hj=>?_⟩
     have hjl:=(jm.1 hj).1;simp at hjl;rw[jo,yn hjl]at hj;simp only[yi,Option.some.injEq]at hj;have hi:j/sz<n:=Nat.div_lt_of_lt_mul (by rw[yq];exact hjl)
     have hm:j%sz<sz:=Nat.mod_lt _ hsz;obtain⟨row,m,h1,h2⟩:=hget (j/sz) (j%sz) hi hm;have:=hcell _ _ _ _ h1 h2;rw[hsz' h0,yq,Nat.div_add_mod]at this;rw[this,hj]
    ·obtain⟨q,hq,e⟩:=qf.1 hu;subst e;have hq:=v5.1 hq;have hi:q/sz<n:=Nat.div_lt_of_lt_mul (by rw[yq];exact hq)
     obtain⟨row,m,h1,h2⟩:=hget (q/sz) (q%sz) hi (Nat.mod_lt _ hsz);exact Y5 (hsv _ _ _ _ h1 h2)
    ·have hil:i<n:=by have:=(jm.1 hi).1;omega
     have hjl:j<sz:=by have:=(jm.1 hj).1;rw[hlen i row hi]at this;exact this
     refine⟨vf i j,?_,(hsv _ _ _ _ hi hj).mono (fun _ h=>h) fun b hb=>hB.block b (hp b hb)⟩
     have h1:=hnews i j hil hjl;rw[<-ht]at h1;have hlt:i*sz+j<n*sz:=by
      have:(i+1)*sz<=n*sz:=qn _ hil;rw[yl]at this;omega
     rw[qp hlt]at h1;simpa using h1
end Kw
namespace Kw
open Go
def DX:List MV->Option MV
 |[.sl rows]=>some (.sl rows)
 |_=>none
def DY:List MV->Option MV
 |[.int .i64 n]=>if 0<=n/\n<100 then some (.str (bs (if n<10 then[(48+n).toNat.toUInt8]else[(48+n/10).toNat.toUInt8,(48+n%10).toNat.toUInt8])))else none
 |_=>none
def tO:List Row->Option (List (List UInt8))
 |[]=>some []
 |[.str s]::r=>(tO r).bind fun t=>some (s.data.toList::t)
 |_::_=>none
def DZ:List MV->Option MV
 |[.sl rows,.str sep]=>(tO rows).bind fun l=>if sep.data.toList=[]/\l.length<=1000/\l.flatten.length<=1000000/\0<l.length then some (.str (bs l.flatten))else none
 |_=>none
def CX:List MV->Option MV
 |[.str s,.str c]=>(match c.data.toList with|[b]=>some (.int .i64 (s.data.toList.count b))|_=>none)
 |_=>none
def WR:List MV->Option MV
 |[.ownK rows,.int .i64 i,.int .i64 j]=>if okR 4 rows&&(decide (0<=i/\i<j/\j<=rows.length))then some (.ownK (rows.take i.toNat++rows.drop j.toNat))else none
 |_=>none
end Kw
namespace Kw
open Go
def spl:List UInt8->List UInt8->List (List UInt8)
 |a,[]=>[a]
 |a,c::r=>bif c==32 then a::spl [] r else spl (a++[c]) r
def HH:List MV->Option MV
 |[.str s]=>if s.size<=2000000 then(match Lib.atoiAll s.data.toList with
  | .ok v=>some (.tup [.int .i64 v,.iface true])
  | .range=>some (.tup [.int .i64 (Lib.atoiSat s.data.toList),.iface false])
  |_=>some (.tup [.int .i64 0,.iface false]))else none
 |_=>none
end Kw
namespace Kw
open Go
def KI:List Row->Option (List Int)
 |[]=>some []
 |[.int .i64 n]::r=>(KI r).bind fun l=>some (n::l)
 |_::_=>none
def jB(l:List Int)(n:Int):List Int:=l.takeWhile (fun x=>decide (n<x))++n::l.dropWhile (fun x=>decide (n<x))
def KJ(n:Int):Row:=[.int .i64 n]
def HI:List MV->Option MV
 |[.agg [.str k,.int .i64 top,.sl rows],.int .i64 n]=>(KI rows).bind fun l=>
    if l≠[]/\l.length<=1000/\-1000000<=top/\top<=1000000/\-1000000<=n/\n<=1000000 then
     (if n∈l\/n<=top-8 then some (.tup [.agg [.str k,.int .i64 (max top n),.sl rows],.bool false])
      else some (.tup [.agg [.str k,.int .i64 (max top n),.sl (((jB l n).filter fun x=>!decide (x<=max top n-8)).map KJ)],.bool true]))
    else none
 |_=>none
end Kw
namespace Kw
open Go Go.Proofs
instance seGl:Gl:=⟨fun v=>match v with|1=>some (.iface false)|2=>some (.iface false)|_=>none⟩
def an(k:Bool)(l:List Nat):Ann:=⟨l,l.map (fun s=>(s,none,.loc s 100))++l.flatMap fun s=>(List.range 10).map fun c=>(s,some c,.loc s (if k&&c==1 then 1102 else 101+c))⟩
def aAI:List (Nat×Nat×Bool×List Nat):=[(3,8,false,[6,5]),
 (3,14,false,[8,9,7,6,5]),
 (4,9,false,[7,5,6]),
 (4,15,false,[8,6,5]),
 (6,12,false,[10,8,9,5,6,7]),
 (6,18,false,[12,11,7,5,9]),
 (9,4,false,[66,65,64,1]),
 (13,4,false,[5,2,3]),
 (13,9,false,[6,2,3]),
 (13,14,false,[7,2,3]),
 (13,19,false,[8,2,3]),
 (13,24,false,[9,2,3]),
 (13,29,false,[10,2,3]),
 (13,34,false,[11,2,3]),
 (16,2,false,[5,0,1]),
 (17,5,false,[17,16,15,3,1]),
 (18,5,false,[10,0,8,9,7,6]),
 (18,10,false,[12,11,8,9,10,0,7,6]),
 (18,14,false,[13,11,9,8,10,0,7,6]),
 (20,5,true,[21,20,19,5,4]),
 (22,7,false,[81,80,79,1,3]),
 (29,2,false,[7,6,5,0]),
 (49,4,false,[5,0,1]),
 (50,4,false,[5,0,1]),
 (51,4,false,[5,2,3]),
 (53,4,false,[5,0,1]),
 (55,3,false,[9,8,7,3]),
 (57,5,false,[4,0,3,2]),
 (58,4,false,[6,3,5,0,4]),
 (60,3,false,[4,1,3,2]),
 (60,7,false,[5,1,3,2]),
 (60,11,false,[6,1,3,2]),
 (61,3,false,[44,43,42,3,1,2]),
 (61,8,false,[59,58,57,3,1,2]),
 (61,13,false,[84,83,82,3,2]),
 (72,4,false,[34,33,32,1]),
 (82,2,false,[6,5,0]),
 (85,2,false,[4,0]),
 (87,11,false,[10,3,0,1,9,2]),
 (90,4,false,[5,0,1]),
 (91,5,false,[18,17,16,7,5,1,6]),
 (91,10,false,[10,5,1,6,7]),
 (91,13,false,[31,30,29,6,7,5,11,1]),
 (100,4,false,[7,3,1,2,6]),
 (104,3,false,[4,0,3]),
 (114,3,false,[10,9,8,3]),
 (116,17,false,[92,91,90,8,3,2,10,9,6,4]),
 (117,3,true,[22,21,20,3,0]),
 (122,4,false,[20,19,18,7,8,6]),
 (123,3,false,[16,15,14,5,0]),
 (129,4,false,[0,3]),
 (130,2,false,[8,7,1,0]),
 (132,2,false,[10,9,8,0,1]),
 (133,2,false,[8,7,1,0]),
 (134,2,false,[8,7,1,0]),
 (135,2,false,[8,7,1,0]),
 (137,2,false,[8,7,1,0]),
 (141,2,false,[8,7,1,0]),
 (142,2,false,[8,7,1,0]),
 (143,2,false,[8,7,1,0]),
 (144,2,false,[8,7,1,0]),
 (145,2,false,[8,7,1,0]),
 (148,6,false,[7,1,0,6]),
 (149,6,false,[0,1,5]),
 (156,5,false,[9,8,2,3,6]),
 (158,4,false,[7,6,1,5]),
 (161,2,false,[0,3]),
 (164,5,false,[4,1,3]),
 (168,3,false,[6,2,1,5,4]),
 (190,10,false,[150,149,148,15,2,19,17,6,5,16,12,13]),
 (190,13,false,[160,159,158,2,19,15,17,20,150,149,148,6,5,16,12,13]),
 (191,6,false,[64,63,62,5,6]),
 (192,2,false,[8,7,1,0]),
 (197,3,false,[0,1]),
 (205,5,false,[7,6,1,4]),
 (206,2,false,[5,1]),
 (209,12,false,[41,40,39,5,0,1]),
 (209,22,false,[65,64,63,1,8]),
 (210,10,false,[49,48,47,6,5]),
 (212,2,false,[4,2]),
 (215,15,false,[8,9,0,6,7,5,1,10]),
 (217,5,false,[4,3]),
 (221,15,false,[5,0,4,2]),
 (224,4,false,[3,0]),
 (229,3,false,[0,1]),
 (230,3,false,[4,0,3]),
 (232,2,false,[5,0,1]),
 (242,2,false,[8,7,1,0]),
 (245,5,false,[6,0,1,5]),
 (260,5,false,[9,7,8,0,5,1,6]),
 (260,11,false,[10,0,8,6,7,5,1]),
 (262,5,false,[6,0,1,5]),
 (263,4,false,[3,1]),
 (264,3,false,[4,1,3]),
 (265,4,false,[5,4,1,3]),
 (269,3,false,[8,1,3,2,7]),
 (269,7,false,[10,9,2,7,3,1,8]),
 (270,2,false,[5,2,1]),
 (271,4,false,[3,0]),
 (272,5,false,[8,7,5,3]),
 (273,2,false,[5,1,2]),
 (273,5,false,[6,2,1,5]),
 (274,2,false,[5,1,2]),
 (275,3,false,[6,2,3,5]),
 (276,3,false,[6,2,1,5]),
 (278,2,false,[5,0,1]),
 (279,4,false,[9,0,8,1,7,2]),
 (280,3,false,[13,12,11,5,4]),
 (285,1,false,[4,1,0]),
 (286,11,false,[1,15,13,16,12,14,3,4,0,11,10]),
 (286,18,false,[1,17,13,12,3,4,0,11,10]),
 (289,36,false,[101,100,99,8,1,13,10,11,9,12]),
 (293,3,false,[5,0,4]),
 (293,8,false,[8,6,7,4]),
 (294,5,false,[7,6,2,4]),
 (297,4,false,[5,0,3]),
 (307,10,false,[4,0,5,3]),
 (308,1,false,[2,3,0])]
def aAJ(f r:Nat):Ann:=match aAI.find? (fun x=>x.1==f&&x.2.1==r)with|some x=>an x.2.2.1 x.2.2.2|none=>⟨[],[]⟩
def aAK:List (Nat×Nat×Bool×List Nat):=[(5,14,false,[5,9,10]),
 (5,15,false,[5,9,10,11]),
 (5,16,false,[5,9,10,11,12]),
 (5,17,false,[10,11,12,13]),
 (58,7,false,[0,5,4,3]),
 (58,39,false,[5,4]),
 (58,13,false,[48,5,0,4,34,3]),
 (58,22,false,[64,5,3,0,4,34]),
 (58,27,false,[82,5,3,0,4,34]),
 (58,34,false,[114,0,5,4,34,3]),
 (62,7,true,[49,4,0,3,5,6]),
 (62,11,true,[75,0,3,4,6]),
 (62,16,true,[131,4,0,3,6]),
 (62,21,true,[193,4,0,3]),
 (96,11,false,[2,3,5,6,4,7]),
 (115,5,true,[0,3,4,5])]
def aAL(f r:Nat):Option Ann:=match aAK.find? (fun x=>x.1==f&&x.2.1==r)with|some x=>some (an x.2.2.1 x.2.2.2)|none=>none
def mvT(f:FuncId):Bool:=f==59||f==96||f==97||f==98||f==99||f==100||f==101||f==156||f==168||f==267||f==294||f==203
def axT(f:FuncId):Bool:=f==11||f==18||f==48||f==57||f==59||f==60||f==61||f==92||f==96||f==97||f==98||f==99||f==100||f==101||f==105||f==106||f==107||f==108||f==109||f==110||f==111||f==112||f==114||f==121||f==122||f==156||f==157||f==168||f==170||f==187||f==188||f==189||f==239||f==240||f==267||f==275||f==280||f==294||f==295
def ioT(f:FuncId):Bool:=f==58
def krT(f:FuncId):Bool:=f==203
def okL:List Nat:=[3,4,5,6,7,8,9,10,12,13,14,15,16,17,18,19,20,21,22,23,24,25,26,27,28,29,30,31,32,33,34,35,36,37,38,39,40,41,42,43,44,45,46,49,50,51,52,53,54,55,56,57,58,59,60,61,62,63,64,65,66,67,68,69,70,71,72,73,74,75,76,77,78,79,80,81,82,83,84,85,86,90,91,93,94,95,96,97,98,99,100,101,102,103,104,113,114,115,116,117,118,119,120,121,122,123,124,126,127,128,129,130,131,132,133,134,135,136,137,138,139,140,141,142,143,144,145,147,151,152,155,156,157,158,159,160,161,162,163,164,165,166,167,168,169,170,187,190,191,192,193,194,195,196,197,198,199,200,201,202,204,206,208,216,217,218,219,220,221,222,223,224,225,226,227,228,229,230,231,232,233,238,239,240,241,242,243,246,261,262,263,264,265,266,267,268,269,270,271,272,273,274,275,276,277,278,279,280,294,295,296,297]
noncomputable def E:Env:={P:=Tryz.prog,ann:=aAJ,mv:=mvT,keep:=axT,io:=ioT,kr:=krT,ext:=fun f=>bif f==146 then some HH else bif f==125 then some DY else bif f==209 then some DZ else bif f==177||f==88 then some DX else bif f==48 then some (dI 1 1024)else bif f==92 then some (dI 2 1024)else bif f==105 then some (dI 7 1024)else bif f==106 then some (dI 4 1024)else bif f==107 then some (dI 13 1024)else bif f==108 then some (dI 1 1024)else bif f==109 then some (dI 2 1024)else bif f==110 then some (dI 4 1024)else bif f==111 then some (dI 1 1024)else bif f==112 then some (dI 2 1024)else bif f==188 then some (dI 2 1024)else bif f==189 then some (dI 3 1024)else bif f==203 then some WR else bif f==149 then some CX else bif f==11 then some afG else bif f==205 then some HI else none,cut:=aAL,okf:=fun f=>okL.contains f}
noncomputable def body(fn:Func):Code:=match fn.body with|some c=>c|none=>.skip
def uD:Nat->List MV->List MV
 |0,l=>l
 |n+1,l=>.undef::uD n l
theorem eS{L D f:Nat}{fn:Func}{args:List MV}{imps:List Obj}{r:Option Res}(hf:Tryz.prog.funcs[f]?=some fn)(hx:((E.ext f).isNone&&E.okf f&&fn.body.isSome)=true:=by kernel_rfl)
 (h:SW fn args imps (fun fr=>iM E (ev E L D) L f (body fn) fr (fin E f fn imps.length))=r:=by kernel_rfl):ev E L (D+1) f args imps=r:=by
 simp only[jg]at hx;obtain⟨⟨h1,h2⟩,h3⟩:=hx;refine(ajS args imps (Option.isNone_iff_eq_none.1 h1) hf ?_ h2).trans h;obtain⟨c,hc⟩:=v9.1 h3;unfold body;rw[hc]
noncomputable def lq(L D f:Nat)(fn:Func)(k:Nat)(p:List Nat)(r:Nat)(ns:List Nat)(sl:List MV)(ob:List (H×Obj))(n:Nat):Option Res:=lp E L D f fn (body fn) k p r ns {sl:=sl,ob:=ob} n
noncomputable def jq(L D f:Nat)(fn:Func)(k:Nat)(p:List Nat)(r:Nat)(ns:List Nat)(sl:List MV)(ob:List (H×Obj)):Option Res:=jp E L D f fn (body fn) k p r ns {sl:=sl,ob:=ob}
end Kw
namespace Kw
open Go Go.Proofs
open Kw.MV renaming undef->U,int->J,str->Q,sl->Z,ownK->WK,own->O,bool->Y,agg->A,tup->V,ptr->P,ref->X
open Go.IntKind renaming i64->K
open Kw renaming aC->C,nrows->N,bnd->B,eI->I,gSl->F,eF->T,MW->M,nY->W
open Kw.Obj renaming cells->OC,rows->OR
noncomputable section
abbrev qO:=Option Res
abbrev qL:=List Row
abbrev qS:=ByteArray
abbrev qJ:=List Obj
abbrev qH:=List (H×Obj)
abbrev qN:=List Nat
def uo(a:Int):Bool:=iEq a a
def xn(a:Bool)(b:qO):qO:=br a b none
def gT(a:MV):qO:=some (a,[])
def gb(a:Int):MV:=J K a
def uh(a:Nat)(b:Nat)(c:Obj):H×Obj:=(H.loc a b,c)
def f7(a:Bool)(b:Bool)(c:qO):qO:=xn a (xn b c)
def gM(a:qL):Bool:=uo (N a)
def gN(a:Nat)(b:Nat)(c:Int):MV:=X (H.loc a b) c
def zZ:MV:=Y false
def uC(a:Option (qL))(b:Option (qL))(c:qL->qL->qO):qO:=B a fun x0=>B b fun x1=>c x0 x1
def gC(a:Int)(b:qL):Bool:=iEq a (N b)
def gO(a:Bool)(b:qO)(c:qO):qO:=br (bNot a) b c
def xQ(a:Bool)(b:Bool)(c:Bool):Bool:=d5 a (d5 b c)
def vi(a:Nat)(b:Nat)(c:Nat)(d:Row)(e:qJ):qO:=ev E a b c d e
def gP(a:Nat)(b:Nat)(c:qL):H×Obj:=uh a b (OR c)
def ui(a:Bool)(b:Bool)(c:Bool)(d:Bool)(e:qO):qO:=f7 a b (f7 c d e)
def fj(a:Int)(b:Int):Int:=bR K a b
def fW(a:MV)(b:MV)(c:Row):Row:=a::b::c
def gY(a:Nat)(b:qL)(c:Int)(d:Row->qO):qO:=B (kF a b c) fun x0=>d x0
def uq(a:Nat)(b:Nat)(c:Nat)(d:Row)(e:qJ)(f:Res->qO):qO:=B (vi a b c d e) fun x0=>f x0
def zm(a:List UInt8):MV:=Q (bs a)
def uW(a:Option (qL))(b:Option (qL))(c:Option (qL))(d:Option (qL))(e:qL->qL->qL->qL->qO):qO:=uC a b fun x0 x1=>uC c d fun x2 x3=>e x0 x1 x2 x3
def zX(a:Nat)(b:qL)(c:Int)(d:Bool)(e:qO):qO:=gY a b c fun x0=>xn d e
def vj(a:MV):Option (Int):=I K a
def gF(a:MV)(b:qS->qO):qO:=B (T a) fun x0=>b x0
def gR(a:MV)(b:Int->qO):qO:=B (vj a) fun x0=>b x0
def fM(a:Row)(b:Nat)(c:qS->qO):qO:=gF (C a b) fun x0=>c x0
def gr:qO:=gT zZ
def uX(a:qS)(b:Int)(c:qS):qS:=nA a b (sLen c)
def gG(a:qL)(b:Int)(c:Row)(d:Nat)(e:Row):qL:=setR a b (setRow c d e)
def vk(a:Nat)(b:Nat)(c:Nat):MV:=P (H.loc a b) c
def gI(a:qS)(b:Int):qS:=uX a b a
def f8(a:Row)(b:Nat)(c:Int->qO):qO:=gR (C a b) fun x0=>c x0
def uR(a:Row)(b:Nat)(c:Row)(d:Nat)(e:qS->qS->qO):qO:=fM a b fun x0=>fM c d fun x1=>e x0 x1
def vm(a:Option (Bool))(b:qO)(c:qO):qO:=B a fun x0=>br x0 b c
def zy(a:Bool)(b:qO)(c:qO):qO:=gO (bNot a) b c
def xx(a:Int):Row:=[gb a]
def uE(a:Option (Bool))(b:qO)(c:qO):qO:=B a fun x0=>zy x0 b c
def fw(a:Nat)(b:qL)(c:Int)(d:Nat)(e:qS->qO):qO:=gY a b c fun x0=>fM x0 d fun x1=>e x1
def gy(a:Int)(b:Int)(c:qO)(d:qO):qO:=br (iLt a b) c d
def uY(a:Nat)(b:Obj):H×Obj:=(H.imp a,b)
def fD(a:qL)(b:Int)(c:Row->qO):qO:=B (iP a b) fun x0=>c x0
def xL(a:MV)(b:MV)(c:Nat)(d:Row):Row:=fW a b (uD c d)
def vn(a:Option (Bool))(b:qO)(c:qO):qO:=B a fun x0=>gO x0 b c
def fe(a:Nat)(b:MV)(c:Row->qO):qO:=B (G8 a b) fun x0=>c x0
def gd(a:Row)(b:Nat):Option (qL):=F (C a b)
def uZ(a:MV)(b:Int)(c:MV)(d:MV)(e:MV)(f:MV)(g:MV):Row:=[a,gb b,c,d,e,f,g]
def vo(a:Nat)(b:Nat)(c:Row):H×Obj:=uh a b (OC c)
def gi(a:Nat)(b:Nat)(c:Nat)(d:Row)(e:Res->qO):qO:=uq a b c d [] fun x0=>e x0
def uF(a:MV)(b:Int)(c:MV)(d:MV)(e:MV)(f:MV):Row:=uZ a b c d e f f
def ur(a:Bool)(b:Bool)(c:Bool)(d:Bool):Bool:=d5 a (xQ b c d)
def gQ(a:Int)(b:Int):Int:=iS K a b
def gz(a:Int)(b:Int)(c:qO)(d:qO):qO:=br (iEq a b) c d
def ux(a:MV)(b:Obj):qO:=some (a,[b])
def fc(a:Nat)(b:qJ):Option (Row):=qI a (hdO b)
def vp(a:MV)(b:Int)(c:MV)(d:MV)(e:MV):Row:=uF a b c c d e
def vq(a:MV)(b:Int)(c:MV)(d:MV)(e:Int)(f:MV)(g:MV):Row:=uZ a b c d (gb e) f g
def vr(a:Row)(b:Nat)(c:Row)(d:Nat)(e:Int->Int->qO):qO:=f8 a b fun x0=>f8 c d fun x1=>e x0 x1
def vt(a:Bool)(b:Bool)(c:Bool)(d:Int)(e:Int)(f:Nat):Bool:=ur a b c (eL d e f)
def uj(a:Bool)(b:Bool)(c:Bool)(d:qL)(e:qO):qO:=ui a b c (gM d) e
def gH(a:Nat)(b:Nat):MV:=P (H.imp a) b
def xo(a:MV)(b:Int):Row:=[a,gb b]
def gD(a:qL)(b:qO):qO:=xn (gM a) b
def f4(a:qL)(b:Int)(c:Nat)(d:Int->qO):qO:=fD a b fun x0=>f8 x0 c fun x1=>d x1
def gp(a:Row)(b:Nat):Option (qL):=M (C a b)
def gJ(a:Nat)(b:Int):MV:=X (H.imp a) b
def g9(a:Row):qO:=gT (V a)
def uy(a:qL)(b:Bool)(c:Bool)(d:qL)(e:qO):qO:=uj (gM a) b c d e
def gU(a:Int)(b:qL)(c:qO):qO:=xn (gC a b) c
def zD(a:Row)(b:Nat)(c:Row)(d:Nat)(e:qS->qO):qO:=fM a b fun x0=>fM c d fun x1=>e x1
def xp(a:Nat)(b:qL)(c:Int)(d:Nat)(e:Int->qO):qO:=gY a b c fun x0=>f8 x0 d fun x1=>e x1
def fk:MV:=Y true
def gZ(a:qS):Row:=[Q a]
def gu(a:Nat)(b:Nat)(c:Nat)(d:qS)(e:Res->qO):qO:=gi a b c (gZ d) fun x0=>e x0
def uO(a:qL)(b:qL)(c:Bool)(d:qL)(e:qO):qO:=uy a (gM b) c d e
def vv(a:Bool)(b:Nat)(c:qL)(d:Bool)(e:Int)(f:Int)(g:Nat):Bool:=vt a (okR b c) d e f g
def zM(a:Row)(b:Nat)(c:Row)(d:Nat)(e:Row)(f:Nat)(g:Int->qS->qS->qO):qO:=f8 a b fun x0=>uR c d e f fun x1 x2=>g x0 x1 x2
def zE(a:Int)(b:qS):Bool:=iLe a (sLen b)
def uS(a:MV)(b:Int)(c:MV)(d:MV)(e:Int)(f:qS)(g:MV):Row:=vq a b c d e (Q f) g
def uu(a:qL)(b:qL)(c:qL)(d:qL)(e:qO):qO:=uO a b (gM c) d e
def uG(a:MV)(b:Int)(c:MV)(d:MV)(e:Int)(f:qS)(g:qS):Row:=uS a b c d e f (Q g)
def vw(a:Bool)(b:Nat)(c:qL)(d:Nat)(e:qL)(f:Int)(g:Int)(h:Nat):Bool:=vv a b c (okR d e) f g h
def fF(a:MV)(b:Int)(c:Nat)(d:Row):Row:=xL a (gb b) c d
def gk:MV:=zm []
def zN(a:Bool)(b:qO):qO:=f7 a a b
def uT(a:MV)(b:Int)(c:MV)(d:qL)(e:Int)(f:qS)(g:qS):Row:=uG a b c (Z d) e f g
def gt:MV:=gb 0
def xD(a:qL)(b:Bool)(c:qO):qO:=f7 (gM a) b c
def zO(a:Int)(b:Row):Bool:=iLe a (eT b)
def gA(a:Nat)(b:Nat)(c:Nat)(d:Int)(e:Res->qO):qO:=gi a b c (xx d) fun x0=>e x0
def gE(a:qL)(b:Row):qL:=cB a [b]
def uk(a:MV)(b:Int)(c:qL)(d:qL)(e:Int)(f:qS)(g:qS):Row:=uT a b (Z c) d e f g
def gK(a:Nat)(b:Nat)(c:Nat)(d:MV)(e:Int)(f:Res->qO):qO:=gi a b c (xo d e) fun x0=>f x0
def ua(a:qL)(b:qL)(c:qO):qO:=xD a (gM b) c
def ul(a:qJ):qJ:=tlO (tlO a)
def gL(a:Nat)(b:qL):H×Obj:=uY a (OR b)
def vy(a:Row)(b:Nat)(c:Option (qL))(d:Option (qL))(e:Int->qL->qL->qO):qO:=f8 a b fun x0=>uC c d fun x1 x2=>e x0 x1 x2
def g8(a:Bool)(b:Int)(c:qL)(d:qL)(e:Int)(f:qS)(g:qS):Row:=uk (Y a) b c d e f g
def vz(a:Row)(b:Nat)(c:Option (qL))(d:Option (qL))(e:Row)(f:Nat)(g:Row)(h:Nat)(i:Row)(j:Nat)(k:Int->qL->qL->Int->qS->qS->qO):qO:=vy a b c d fun x0 x1 x2=>zM e f g h i j fun x3 x4 x5=>k x0 x1 x2 x3 x4 x5
def vA(a:Bool)(b:Nat)(c:qL)(d:Nat)(e:qL)(f:qL)(g:Int)(h:Nat):Bool:=vw a b c d e (N f) g h
def gV(a:Row):qO:=gT (A a)
def vB(a:MV)(b:Int)(c:MV)(d:MV):Row:=vp a b c gt d
def u6(a:qL)(b:qL)(c:qL)(d:qL)(e:qL)(f:qL)(g:qO):qO:=ua a b (uu c d e f g)
def vC(a:Bool)(b:Nat)(c:qL)(d:Nat)(e:qL)(f:Int)(g:Nat):Bool:=vA a b c d e c f g
def vD(a:MV)(b:Int)(c:MV):Row:=vB a b c gk
def vE(a:Bool)(b:Nat)(c:qL)(d:Nat)(e:qL)(f:qL)(g:Nat):Bool:=vC a b c d e (N f) g
def vF(a:Int)(b:MV):Row:=vD zZ a b
def vG(a:qS)(b:List UInt8):Bool:=sEq a (bs b)
def u7(a:qS)(b:Int):Int:=gQ (sLen a) b
def xa(a:Bool):qO:=gT (Y a)
def fB(a:qL):Row:=[Z a]
def va(a:Bool)(b:Nat)(c:qL)(d:Nat)(e:qL)(f:Nat):Bool:=vE a b c d e e f
def vH(a:Option (Bool)):qO:=B a fun x0=>xa x0
def x8(a:qS)(b:qS):Int:=u7 a (sLen b)
def xz(a:Int):qO:=gT (gb a)
def gW(a:MV)(b:Row):qO:=ux a (OC b)
def gh(a:Int):Int:=fj a 1
def vJ(a:MV)(b:Nat)(c:Row):Row:=[a,MV.fn b c]
def xE(a:Int)(b:Int)(c:Nat)(d:Row):Row:=fF (gb a) b c d
def vK(a:Option (qL))(b:Option (qL))(c:Option (qL))(d:Option (qL))(e:Option (qL))(f:Option (qL))(g:qL->qL->qL->qL->qL->qL->qO):qO:=uC a b fun x0 x1=>uW c d e f fun x2 x3 x4 x5=>g x0 x1 x2 x3 x4 x5
def zF(a:Int)(b:qL):Row:=vF a (Z b)
def ff(a:MV)(b:qO)(c:qO):qO:=uE (W a) b c
def zd(a:qL)(b:qL)(c:qL)(d:qL)(e:qL)(f:qL)(g:qL)(h:qL)(i:qL)(j:qL)(k:qO):qO:=u6 a b c d e f (uu g h i j k)
def xX(a:MV)(b:qS):Row:=[a,Q b]
def fq(a:Int)(b:qS):Row:=xX (gb a) b
def ze(a:Option (qL))(b:Option (qL))(c:Option (qL))(d:Option (qL))(e:Option (qL))(f:Option (qL))(g:Option (qL))(h:Option (qL))(i:Option (qL))(j:Option (qL))(k:qL->qL->qL->qL->qL->qL->qL->qL->qL->qL->qO):qO:=vK a b c d e f fun x0 x1 x2 x3 x4 x5=>uW g h i j fun x6 x7 x8 x9=>k x0 x1 x2 x3 x4 x5 x6 x7 x8 x9
def vL(a:Option (Bool))(b:Row)(c:Nat)(d:Option (qL))(e:Option (qL))(f:Row)(g:Nat)(h:Row)(i:Nat)(j:Row)(k:Nat)(l:Bool->Int->qL->qL->Int->qS->qS->qO):qO:=B a fun x0=>vz b c d e f g h i j k fun x1 x2 x3 x4 x5 x6=>l x0 x1 x2 x3 x4 x5 x6
def zJ(a:Row)(b:Nat)(c:Row)(d:Nat)(e:Int->qS->qO):qO:=f8 a b fun x0=>fM c d fun x1=>e x0 x1
def xI(a:Nat)(b:Nat)(c:Nat)(d:Func)(e:Nat)(f:Nat)(g:qN)(h:Row)(i:qH)(j:Nat):qO:=lq a b c d e [1,1,0,1,0] f g h i j
def fX(a:Nat)(b:MV)(c:Row->qO):qO:=B (OK a b) fun x0=>c x0
def ft(a:Int):Bool:=iLe 0 a
def vM(a:Int)(b:qL)(c:Nat)(d:qL)(e:Int)(f:Bool)(g:qO):qO:=gU a b (zX c d e f g)
def vb(a:Row)(b:Nat)(c:Row)(d:Nat)(e:Int->qO):qO:=f8 a b fun x0=>f8 c d fun x1=>e x1
def gS(a:Bool)(b:Int)(c:qL)(d:qL)(e:Int)(f:qS)(g:qS):MV:=A (g8 a b c d e f g)
def xc(a:MV)(b:qO)(c:qO):qO:=vm (W a) b c
def vd(a:Bool)(b:Bool)(c:Bool)(d:Int)(e:qL)(f:qO):qO:=ui a b c (gC d e) f
def vN(a:Int)(b:qL)(c:Nat)(d:Int)(e:Bool)(f:qO):qO:=vM a b c b d e f
def uP(a:Bool)(b:Bool)(c:Int)(d:qL)(e:Int)(f:qL)(g:qO):qO:=vd a b (gC c d) e f g
def uH(a:MV)(b:qO)(c:qO):qO:=vn (W a) b c
def gX(a:qL):qL:=cB [] a
def xY(a:MV)(b:MV)(c:MV)(d:MV)(e:Row):Row:=fW a b (fW c d e)
def zG(a:Nat)(b:qL)(c:Int)(d:Nat)(e:Nat)(f:Nat)(g:Nat)(h:Res->qO):qO:=fw a b c d fun x0=>gu e f g x0 fun x1=>h x1
def xF(a:Nat)(b:Nat)(c:Nat)(d:Func)(e:Nat)(f:Nat)(g:qN)(h:Row)(i:qH)(j:Nat):qO:=lq a b c d e [1,0,1,0] f g h i j
def uv(a:Bool)(b:Int)(c:qL)(d:Int)(e:qL)(f:Int)(g:qL)(h:qO):qO:=uP a (gC b c) d e f g h
def vO(a:Row)(b:Nat)(c:MV)(d:Int->Int->qO):qO:=f8 a b fun x0=>gR c fun x1=>d x0 x1
def xd(a:MV)(b:qO):qO:=xc a b gr
def xG(a:Row)(b:Nat)(c:qL->qO):qO:=B (gd a b) fun x0=>c x0
def zV(a:Int)(b:Int):Int:=iS IntKind.u8 a b
def fh(a:Int):qL:=[xx a]
def uI(a:Option (Row))(b:Nat)(c:Row->qL->qO):qO:=B a fun x0=>xG x0 b fun x1=>c x0 x1
def vP(a:Int)(b:qL)(c:Nat)(d:Int)(e:Int)(f:qL)(g:qO):qO:=vN a b c d (gC e f) g
def uc(a:Bool):qO:=xa (bNot a)
def vQ(a:Int)(b:Bool)(c:Bool):Bool:=xQ (ft a) b c
def zn(a:Row)(b:Nat)(c:Nat)(d:Int->Int->qO):qO:=vr a b a c fun x0 x1=>d x0 x1
def fY(a:qL):MV:=A (fB a)
def vR(a:Int)(b:qL)(c:Nat)(d:Int)(e:Int)(f:qO):qO:=vP a b c d e b f
def zr(a:Int)(b:qL)(c:Nat)(d:Int)(e:qO):qO:=vR a b c d a e
def x9(a:Option (Row))(b:Nat)(c:Nat)(d:MV)(e:qL->Int->Int->qO):qO:=uI a b fun x0 x1=>vO x0 c d fun x2 x3=>e x1 x2 x3
def uU(a:Int)(b:Bool)(c:Int)(d:qS):Bool:=vQ a b (zE c d)
def vS(a:Int)(b:qL)(c:Nat)(d:qL)(e:Nat)(f:qL)(g:Nat):Bool:=va (gC a b) c d e f g
def zP(a:Option (Bool)):qO:=B a fun x0=>uc x0
def fN(a:qS)(b:qS):Row:=xX (Q a) b
def f5(a:Nat)(b:Nat)(c:Nat)(d:qL)(e:Res->qO):qO:=gi a b c (fB d) fun x0=>e x0
def xq(a:MV)(b:Int)(c:MV):Row:=[a,gb b,c]
def fy(a:Int)(b:qL)(c:Nat)(d:Nat)(e:qL)(f:Nat):Bool:=vS a b c b d e f
def fu(a:Int)(b:qL)(c:Int)(d:qL)(e:Int)(f:qL)(g:Int)(h:qL)(i:qO):qO:=uv (gC a b) c d e f g h i
def vT(a:qL)(b:Nat)(c:qL)(d:Nat)(e:qL)(f:Nat):Bool:=va (gM a) b c d e f
def vU(a:MV):Row:=[a,zZ]
def zu(a:Int)(b:qL):MV:=A (zF a b)
def fJ(a:qL)(b:Nat)(c:Row):Row:=vJ (Z a) b c
def fK(a:qS)(b:Int)(c:Int->qO):qO:=B (sAt a b) fun x0=>c x0
def xA(a:MV):qO:=g9 (vU a)
def fO(a:qL)(b:Nat)(c:Nat)(d:qL)(e:Nat):Bool:=vT a b a c d e
def vV(a:qS)(b:Int)(c:Nat):Bool:=eL (sLen a) b c
def xy(a:MV)(b:qO):qO:=ff a b gr
def uJ(a:MV)(b:MV)(c:MV)(d:MV):Row:=[a,gt,b,c,d]
def fd(a:Nat)(b:Int):MV:=gN a 101 b
def vW(a:Row):qJ:=[OC a]
def vX(a:qL)(b:Nat)(c:qL)(d:Int)(e:Bool)(f:qO):qO:=gD a (zX b c d e f)
def vY(a:qL)(b:Nat)(c:Int)(d:Bool)(e:qO):qO:=vX a b a c d e
def uK(a:MV)(b:MV)(c:MV):Row:=uJ a gt b c
def fA(a:Nat)(b:Nat)(c:Nat)(d:Row)(e:Row)(f:Res->qO):qO:=uq a b c d (vW e) fun x0=>f x0
def ve(a:qL)(b:Nat)(c:Int)(d:qL)(e:qO):qO:=vY a b c (gM d) e
def xM:qO:=gT fk
def fv(a:Nat)(b:qL):H×Obj:=gP a 101 b
def xb(a:qL)(b:Nat)(c:Int)(d:qO):qO:=ve a b c a d
def um(a:MV)(b:MV):Row:=uK a b gk
def vZ(a:Nat)(b:Nat):MV:=vk a 0 b
def fZ(a:MV)(b:Nat)(c:Row):Row:=a::uD b c
def uz(a:Row)(b:Nat)(c:qL->qO):qO:=B (gp a b) fun x0=>c x0
def zK(a:Row)(b:Nat)(c:Nat)(d:qS->qS->qO):qO:=uR a b a c fun x0 x1=>d x0 x1
def zW(a:Nat)(b:qL)(c:Int)(d:Nat)(e:Nat)(f:Int->qS->qO):qO:=gY a b c fun x0=>zJ x0 d x0 e fun x1 x2=>f x1 x2
def xO(a:Nat)(b:MV)(c:Nat)(d:qL->qO):qO:=fe a b fun x0=>uz x0 c fun x1=>d x1
def gv(a:Nat):MV:=vZ a 0
def v6(a:MV):Row:=um gt a
def zQ(a:MV)(b:Nat)(c:Nat)(d:Nat)(e:MV)(f:Res->qO):qO:=gR a fun x0=>gK b c d e x0 fun x1=>f x1
def fb(a:Int)(b:qL)(c:qO)(d:qO):qO:=gy a (N b) c d
def gq(a:Nat)(b:Row):H×Obj:=vo a 0 b
def zH(a:Row)(b:Nat)(c:Nat)(d:Row)(e:Nat)(f:Int->Int->qS->qO):qO:=zn a b c fun x0 x1=>fM d e fun x2=>f x0 x1 x2
def xr(a:Int)(b:Bool)(c:Int)(d:qS)(e:qO):qO:=xn (uU a b c d) e
def uQ:Row:=v6 gk
def xR:qO:=gT gt
def zh(a:qS)(b:qS)(c:Nat):Bool:=vV a (sLen b) c
def xZ:qO:=xz (-1)
def xB(a:Int)(b:Int)(c:qO)(d:qO):qO:=gO (iEq a b) c d
def uL(a:Nat)(b:MV)(c:Nat)(d:Row->Int->qO):qO:=fe a b fun x0=>f8 x0 c fun x1=>d x0 x1
def xN(a:qL)(b:Int):qL:=gE a (xx b)
def zv(a:Int):Int:=nX K a
def fH(a:qL)(b:Int):Row:=xo (Z a) b
def xC(a:Int)(b:Int)(c:qO)(d:qO):qO:=gO (iLt a b) c d
def v7(a:qS)(b:Int)(c:qS)(d:qS):qS:=nA a b (x8 c d)
def v8(a:Int)(b:MV)(c:MV)(d:MV)(e:MV)(f:MV):Row:=[gb a,b,c,d,e,f]
def zi(a:qS)(b:Int)(c:qS):qS:=v7 a b a c
def vg(a:Int)(b:Int)(c:MV)(d:MV)(e:MV)(f:MV):Row:=v8 a (gb b) c d e f
def un(a:Int)(b:Int)(c:MV)(d:MV)(e:Int)(f:MV):Row:=vg a b c d (gb e) f
def wa(a:Int)(b:Int)(c:Int)(d:MV)(e:Int)(f:MV):Row:=un a b (gb c) d e f
def wb(a:Int)(b:Int)(c:Int)(d:Int)(e:Int)(f:MV):Row:=wa a b c (gb d) e f
def fC(a:Int)(b:Int)(c:Int)(d:Int)(e:Int)(f:qS):Row:=wb a b c d e (Q f)
def fL(a:Nat)(b:Int):MV:=gN a 103 b
def zj(a:Int)(b:qL):qO:=xA (zu a b)
def wc(a:MV)(b:MV):Row:=[a,b,zZ]
def ud(a:Nat)(b:MV)(c:Nat)(d:Nat)(e:Nat)(f:Row->Int->qO):qO:=uL a b c fun x0 x1=>vb x0 d x0 e fun x2=>f x0 x2
def x5(a:Res)(b:qO)(c:qO):qO:=uH a.1 b c
def fI(a:Nat)(b:Nat)(c:Nat)(d:Row)(e:qO)(f:qO):qO:=gi a b c d fun x0=>x5 x0 e f
def zI(a:MV)(b:MV):qO:=g9 (wc a b)
def wd(a:Int)(b:qL)(c:Nat)(d:Int)(e:qL)(f:Int)(g:Row->qO):qO:=zr a b c d (fD e f (fun x0=>g x0))
def fP(a:Nat)(b:Int):MV:=gN a 104 b
def fQ(a:Nat)(b:qL):H×Obj:=gP a 103 b
def xJ(a:MV)(b:Nat)(c:Nat)(d:Row):Row:=xL a (gv b) c d
def ut(a:MV):qO:=gR a fun x0=>xz x0
def xt(a:qS):Bool:=vG a []
def we(a:Int)(b:qL)(c:Nat)(d:Int)(e:Int)(f:Row->qO):qO:=wd a b c d b e fun x0=>f x0
def xu(a:Int)(b:qL)(c:Nat)(d:Int)(e:Row->qO):qO:=we a b c d d fun x0=>e x0
def fR(a:Nat)(b:Int):MV:=gN a 107 b
def fS(a:Nat)(b:qL):H×Obj:=gP a 104 b
def xw(a:Bool)(b:Int)(c:qL)(d:qO):qO:=f7 a (gC b c) d
def wg:MV:=A uQ
def xH(a:Bool)(b:qO):qO:=zy a b gr
def xS(a:Int)(b:Row)(c:qO):qO:=xn (zO a b) c
def wk(a:MV):qO:=zI wg a
def fT(a:Nat)(b:Int):MV:=gN a 108 b
def fU(a:Nat)(b:qL):H×Obj:=gP a 107 b
def fV(a:Nat)(b:qL):H×Obj:=gP a 108 b
def xT(a:MV)(b:Int)(c:Int):Row:=xq a b (gb c)
def zx(a:MV)(b:Nat)(c:Row)(d:Nat)(e:Row):Row:=xL a (MV.fn b c) d e
def za(a:qL)(b:qL)(c:qL)(d:qL)(e:qL)(f:qL)(g:qL)(h:qL)(i:qL)(j:qL)(k:Row):qO:=zd a b c d e f g h i j (gV k)
def ue(a:qJ):qJ:=ul (ul a)
def uA(a:Int):MV:=MV.int IntKind.u8 a
def wl(a:MV)(b:MV):Row:=[a,gt,b]
def xe(a:Nat)(b:Int):MV:=gN a 105 b
def xf(a:Nat)(b:qL):H×Obj:=gP a 106 b
def xU(a:MV):qO:=vH (W a)
def xV(a:qS):qO:=wk (Q a)
def x6(a:Int)(b:qO)(c:qO):qO:=br (ft a) b c
def wm(a:Int)(b:MV):Row:=wl (gb a) b
def xK(a:Int)(b:Int):Row:=wm a (gb b)
def xg(a:Nat)(b:Int):MV:=gN a 106 b
def xh(a:Nat)(b:qL):H×Obj:=gP a 105 b
def zb(a:MV)(b:MV)(c:Nat)(d:MV)(e:Row):Row:=xY a b (gv c) d e
def zA(a:Int)(b:Int)(c:qO):qO:=gz a b none c
def uV(a:Row)(b:Nat)(c:Row)(d:Nat)(e:Row)(f:Nat)(g:qS->qO):qO:=f8 a b fun x0=>zD c d e f fun x1=>g x1
def zB(a:Int):Row:=xx (gh a)
def xi(a:Nat)(b:Int):MV:=gN a 109 b
def xj(a:Nat)(b:qL):H×Obj:=gP a 110 b
def uB(a:Int):Int:=nX IntKind.u8 a
def zR(a:Row)(b:Nat)(c:Nat)(d:Row)(e:Nat)(f:Nat)(g:qS->qS->qS->qS->qO):qO:=zK a b c fun x0 x1=>zK d e f fun x2 x3=>g x0 x1 x2 x3
def zL:qO:=gT gk
def zS(a:Nat)(b:Nat)(c:Nat)(d:Func)(e:Nat)(f:Nat)(g:qN)(h:Row)(i:qH)(j:Nat):qO:=lq a b c d e [1,1,1,0,1,0] f g h i j
def xk(a:Nat)(b:Int):MV:=gN a 110 b
def xl(a:Nat)(b:qL):H×Obj:=gP a 109 b
def vh(a:Nat)(b:MV)(c:Nat)(d:Nat)(e:Row->Int->Int->qO):qO:=fe a b fun x0=>zn x0 c d fun x1 x2=>e x0 x1 x2
def uf(a:Nat)(b:MV)(c:Nat)(d:Nat)(e:Nat)(f:Nat)(g:Nat)(h:Int->qS->qO):qO:=vh a b c d fun x0 x1 x2=>uV x0 e x0 f x0 g fun x3=>h x1 x3
def ug(a:MV)(b:Nat)(c:qL)(d:Nat)(e:qS->qO):qO:=gR a fun x0=>fw b c x0 d fun x1=>e x1
def xP(a:MV)(b:Int)(c:Int)(d:Nat)(e:Row):Row:=a::xE b c d e
def zY(a:Option (qL))(b:Option (qL))(c:Option (qL))(d:Option (qL))(e:Option (qL))(f:Option (qL))(g:Option (qL))(h:Option (qL))(i:Option (qL))(j:Option (qL))(k:qL->qL->qL->qL->qL->qL->qL->qL->qL->qL->Row):qO:=ze a b c d e f g h i j fun x0 x1 x2 x3 x4 x5 x6 x7 x8 x9=>za x0 x1 x2 x3 x4 x5 x6 x7 x8 x9 (k x0 x1 x2 x3 x4 x5 x6 x7 x8 x9)
def uw(a:Nat):MV:=MV.mapr (H.imp a)
def zT(a:Row)(b:Nat):Option (Bool):=W (C a b)
def xW(a:Nat)(b:Row):H×Obj:=uY a (OC b)
def xm(a:Row)(b:Nat)(c:Row)(d:Nat)(e:Option (qL))(f:Option (qL))(g:Row)(h:Nat)(i:Row)(j:Nat)(k:Row)(l:Nat)(m:Bool->Int->qL->qL->Int->qS->qS->qO):qO:=vL (zT a b) c d e f g h i j k l fun x0 x1 x2 x3 x4 x5 x6=>m x0 x1 x2 x3 x4 x5 x6
def zk(a:qS)(b:qO)(c:qO):qO:=gO (xt a) b c
def uM(a:Row)(b:Nat)(c:Row)(d:Nat)(e:qL->qO):qO:=xG a b fun x0=>xG c d fun x1=>e x1
def zU(a:Option (qL))(b:Option (qL))(c:Row)(d:Nat)(e:qL->qL->qS->qO):qO:=uC a b fun x0 x1=>fM c d fun x2=>e x0 x1 x2
def zC(a:Int)(b:Int):Int:=F6 K a b
def uN(a:Row)(b:Nat)(c:Row)(d:Nat)(e:qL->qO):qO:=uz a b fun x0=>uz c d fun x1=>e x1
theorem KM:type_of% (And.intro @uo.eq_1 (And.intro @xn.eq_1 (And.intro @gT.eq_1 (And.intro @gb.eq_1 (And.intro @f7.eq_1 (And.intro @gM.eq_1 (And.intro @zZ.eq_1 (And.intro @uC.eq_1 (And.intro @gC.eq_1 (And.intro @gO.eq_1 (And.intro @xQ.eq_1 (And.intro @vi.eq_1 (And.intro @ui.eq_1 (And.intro @fj.eq_1 (And.intro @gY.eq_1 (And.intro @uq.eq_1 (And.intro @zm.eq_1 (And.intro @uW.eq_1 (And.intro @zX.eq_1 (And.intro @vj.eq_1 (And.intro @gF.eq_1 (And.intro @gR.eq_1 (And.intro @fM.eq_1 (And.intro @gr.eq_1 (And.intro @uX.eq_1 (And.intro @gG.eq_1 (And.intro @gI.eq_1 (And.intro @f8.eq_1 (And.intro @uR.eq_1 (And.intro @vm.eq_1 (And.intro @zy.eq_1 (And.intro @xx.eq_1 (And.intro @uE.eq_1 (And.intro @fw.eq_1 (And.intro @gy.eq_1 (And.intro @fD.eq_1 (And.intro @vn.eq_1 (And.intro @fe.eq_1 (And.intro @gd.eq_1 (And.intro @uZ.eq_1 (And.intro @gi.eq_1 (And.intro @uF.eq_1 (And.intro @ur.eq_1 (And.intro @gQ.eq_1 (And.intro @gz.eq_1 (And.intro @ux.eq_1 (And.intro @fc.eq_1 (And.intro @vp.eq_1 (And.intro @vq.eq_1 (And.intro @vr.eq_1 (And.intro @vt.eq_1 (And.intro @uj.eq_1 (And.intro @gH.eq_1 (And.intro @xo.eq_1 (And.intro @gD.eq_1 (And.intro @f4.eq_1 (And.intro @gp.eq_1 (And.intro @gJ.eq_1 (And.intro @g9.eq_1 (And.intro @uy.eq_1 (And.intro @gU.eq_1 (And.intro @zD.eq_1 (And.intro @xp.eq_1 (And.intro @fk.eq_1 (And.intro @gZ.eq_1 (And.intro @gu.eq_1 (And.intro @uO.eq_1 (And.intro @vv.eq_1 (And.intro @zM.eq_1 (And.intro @zE.eq_1 (And.intro @uS.eq_1 (And.intro @uu.eq_1 (And.intro @uG.eq_1 (And.intro @vw.eq_1 (And.intro @gk.eq_1 (And.intro @zN.eq_1 (And.intro @uT.eq_1 (And.intro @gt.eq_1 (And.intro @xD.eq_1 (And.intro @zO.eq_1 (And.intro @gA.eq_1 (And.intro @gE.eq_1 (And.intro @uk.eq_1 (And.intro @gK.eq_1 (And.intro @ua.eq_1 (And.intro @ul.eq_1 (And.intro @vy.eq_1 (And.intro @g8.eq_1 (And.intro @vz.eq_1 (And.intro @vA.eq_1 (And.intro @gV.eq_1 (And.intro @vB.eq_1 (And.intro @u6.eq_1 (And.intro @vC.eq_1 (And.intro @vD.eq_1 (And.intro @vE.eq_1 (And.intro @vF.eq_1 (And.intro @vG.eq_1 (And.intro @u7.eq_1 (And.intro @xa.eq_1 (And.intro @fB.eq_1 (And.intro @va.eq_1 (And.intro @vH.eq_1 (And.intro @x8.eq_1 (And.intro @xz.eq_1 (And.intro @gW.eq_1 (And.intro @gh.eq_1 (And.intro @vJ.eq_1 (And.intro @vK.eq_1 (And.intro @zF.eq_1 (And.intro @ff.eq_1 (And.intro @zd.eq_1 (And.intro @xX.eq_1 (And.intro @fq.eq_1 (And.intro @ze.eq_1 (And.intro @vL.eq_1 (And.intro @zJ.eq_1 (And.intro @fX.eq_1 (And.intro @ft.eq_1 (And.intro @vM.eq_1 (And.intro @vb.eq_1 (And.intro @gS.eq_1 (And.intro @xc.eq_1 (And.intro @vd.eq_1 (And.intro @vN.eq_1 (And.intro @uP.eq_1 (And.intro @uH.eq_1 (And.intro @gX.eq_1 (And.intro @zG.eq_1 (And.intro @uv.eq_1 (And.intro @vO.eq_1 (And.intro @xd.eq_1 (And.intro @xG.eq_1 (And.intro @zV.eq_1 (And.intro @fh.eq_1 (And.intro @uI.eq_1 (And.intro @vP.eq_1 (And.intro @uc.eq_1 (And.intro @vQ.eq_1 (And.intro @zn.eq_1 (And.intro @fY.eq_1 (And.intro @vR.eq_1 (And.intro @zr.eq_1 (And.intro @x9.eq_1 (And.intro @uU.eq_1 (And.intro @vS.eq_1 (And.intro @zP.eq_1 (And.intro @fN.eq_1 (And.intro @f5.eq_1 (And.intro @xq.eq_1 (And.intro @fy.eq_1 (And.intro @fu.eq_1 (And.intro @vT.eq_1 (And.intro @vU.eq_1 (And.intro @zu.eq_1 (And.intro @fJ.eq_1 (And.intro @fK.eq_1 (And.intro @xA.eq_1 (And.intro @fO.eq_1 (And.intro @vV.eq_1 (And.intro @xy.eq_1 (And.intro @uJ.eq_1 (And.intro @vW.eq_1 (And.intro @vX.eq_1 (And.intro @vY.eq_1 (And.intro @uK.eq_1 (And.intro @fA.eq_1 (And.intro @ve.eq_1 (And.intro @xM.eq_1 (And.intro @xb.eq_1 (And.intro @um.eq_1 (And.intro @uz.eq_1 (And.intro @zK.eq_1 (And.intro @zW.eq_1 (And.intro @xO.eq_1 (And.intro @v6.eq_1 (And.intro @zQ.eq_1 (And.intro @fb.eq_1 (And.intro @zH.eq_1 (And.intro @xr.eq_1 (And.intro @uQ.eq_1 (And.intro @xR.eq_1 (And.intro @zh.eq_1 (And.intro @xZ.eq_1 (And.intro @xB.eq_1 (And.intro @uL.eq_1 (And.intro @xN.eq_1 (And.intro @zv.eq_1 (And.intro @fH.eq_1 (And.intro @xC.eq_1 (And.intro @v7.eq_1 (And.intro @v8.eq_1 (And.intro @zi.eq_1 (And.intro @vg.eq_1 (And.intro @un.eq_1 (And.intro @wa.eq_1 (And.intro @wb.eq_1 (And.intro @fC.eq_1 (And.intro @zj.eq_1 (And.intro @wc.eq_1 (And.intro @ud.eq_1 (And.intro @x5.eq_1 (And.intro @fI.eq_1 (And.intro @zI.eq_1 (And.intro @wd.eq_1 (And.intro @ut.eq_1 (And.intro @xt.eq_1 (And.intro @we.eq_1 (And.intro @xu.eq_1 (And.intro @xw.eq_1 (And.intro @wg.eq_1 (And.intro @xH.eq_1 (And.intro @xS.eq_1 (And.intro @wk.eq_1 (And.intro @xT.eq_1 (And.intro @za.eq_1 (And.intro @ue.eq_1 (And.intro @uA.eq_1 (And.intro @wl.eq_1 (And.intro @xU.eq_1 (And.intro @xV.eq_1 (And.intro @x6.eq_1 (And.intro @wm.eq_1 (And.intro @xK.eq_1 (And.intro @zA.eq_1 (And.intro @uV.eq_1 (And.intro @zB.eq_1 (And.intro @uB.eq_1 (And.intro @zR.eq_1 (And.intro @zL.eq_1 (And.intro @vh.eq_1 (And.intro @uf.eq_1 (And.intro @ug.eq_1 (And.intro @zY.eq_1 (And.intro @uw.eq_1 (And.intro @zT.eq_1 (And.intro @xm.eq_1 (And.intro @zk.eq_1 (And.intro @uM.eq_1 (And.intro @zU.eq_1 (And.intro @zC.eq_1 (@uN.eq_1)))))))))))))))))))))))))))))))))))))))))))))))))))))))))))))))))))))))))))))))))))))))))))))))))))))))))))))))))))))))))))))))))))))))))))))))))))))))))))))))))))))))))))))))))))))))))))))))))))))))))))))))))))))))))))))))))))))))))))))))))):=And.intro @uo.eq_1 (And.intro @xn.eq_1 (And.intro @gT.eq_1 (And.intro @gb.eq_1 (And.intro @f7.eq_1 (And.intro @gM.eq_1 (And.intro @zZ.eq_1 (And.intro @uC.eq_1 (And.intro @gC.eq_1 (And.intro @gO.eq_1 (And.intro @xQ.eq_1 (And.intro @vi.eq_1 (And.intro @ui.eq_1 (And.intro @fj.eq_1 (And.intro @gY.eq_1 (And.intro @uq.eq_1 (And.intro @zm.eq_1 (And.intro @uW.eq_1 (And.intro @zX.eq_1 (And.intro @vj.eq_1 (And.intro @gF.eq_1 (And.intro @gR.eq_1 (And.intro @fM.eq_1 (And.intro @gr.eq_1 (And.intro @uX.eq_1 (And.intro @gG.eq_1 (And.intro @gI.eq_1 (And.intro @f8.eq_1 (And.intro @uR.eq_1 (And.intro @vm.eq_1 (And.intro @zy.eq_1 (And.intro @xx.eq_1 (And.intro @uE.eq_1 (And.intro @fw.eq_1 (And.intro @gy.eq_1 (And.intro @fD.eq_1 (And.intro @vn.eq_1 (And.intro @fe.eq_1 (And.intro @gd.eq_1 (And.intro @uZ.eq_1 (And.intro @gi.eq_1 (And.intro @uF.eq_1 (And.intro @ur.eq_1 (And.intro @gQ.eq_1 (And.intro @gz.eq_1 (And.intro @ux.eq_1 (And.intro @fc.eq_1 (And.intro @vp.eq_1 (And.intro @vq.eq_1 (And.intro @vr.eq_1 (And.intro @vt.eq_1 (And.intro @uj.eq_1 (And.intro @gH.eq_1 (And.intro @xo.eq_1 (And.intro @gD.eq_1 (And.intro @f4.eq_1 (And.intro @gp.eq_1 (And.intro @gJ.eq_1 (And.intro @g9.eq_1 (And.intro @uy.eq_1 (And.intro @gU.eq_1 (And.intro @zD.eq_1 (And.intro @xp.eq_1 (And.intro @fk.eq_1 (And.intro @gZ.eq_1 (And.intro @gu.eq_1 (And.intro @uO.eq_1 (And.intro @vv.eq_1 (And.intro @zM.eq_1 (And.intro @zE.eq_1 (And.intro @uS.eq_1 (And.intro @uu.eq_1 (And.intro @uG.eq_1 (And.intro @vw.eq_1 (And.intro @gk.eq_1 (And.intro @zN.eq_1 (And.intro @uT.eq_1 (And.intro @gt.eq_1 (And.intro @xD.eq_1 (And.intro @zO.eq_1 (And.intro @gA.eq_1 (And.intro @gE.eq_1 (And.intro @uk.eq_1 (And.intro @gK.eq_1 (And.intro @ua.eq_1 (And.intro @ul.eq_1 (And.intro @vy.eq_1 (And.intro @g8.eq_1 (And.intro @vz.eq_1 (And.intro @vA.eq_1 (And.intro @gV.eq_1 (And.intro @vB.eq_1 (And.intro @u6.eq_1 (And.intro @vC.eq_1 (And.intro @vD.eq_1 (And.intro @vE.eq_1 (And.intro @vF.eq_1 (And.intro @vG.eq_1 (And.intro @u7.eq_1 (And.intro @xa.eq_1 (And.intro @fB.eq_1 (And.intro @va.eq_1 (And.intro @vH.eq_1 (And.intro @x8.eq_1 (And.intro @xz.eq_1 (And.intro @gW.eq_1 (And.intro @gh.eq_1 (And.intro @vJ.eq_1 (And.intro @vK.eq_1 (And.intro @zF.eq_1 (And.intro @ff.eq_1 (And.intro @zd.eq_1 (And.intro @xX.eq_1 (And.intro @fq.eq_1 (And.intro @ze.eq_1 (And.intro @vL.eq_1 (And.intro @zJ.eq_1 (And.intro @fX.eq_1 (And.intro @ft.eq_1 (And.intro @vM.eq_1 (And.intro @vb.eq_1 (And.intro @gS.eq_1 (And.intro @xc.eq_1 (And.intro @vd.eq_1 (And.intro @vN.eq_1 (And.intro @uP.eq_1 (And.intro @uH.eq_1 (And.intro @gX.eq_1 (And.intro @zG.eq_1 (And.intro @uv.eq_1 (And.intro @vO.eq_1 (And.intro @xd.eq_1 (And.intro @xG.eq_1 (And.intro @zV.eq_1 (And.intro @fh.eq_1 (And.intro @uI.eq_1 (And.intro @vP.eq_1 (And.intro @uc.eq_1 (And.intro @vQ.eq_1 (And.intro @zn.eq_1 (And.intro @fY.eq_1 (And.intro @vR.eq_1 (And.intro @zr.eq_1 (And.intro @x9.eq_1 (And.intro @uU.eq_1 (And.intro @vS.eq_1 (And.intro @zP.eq_1 (And.intro @fN.eq_1 (And.intro @f5.eq_1 (And.intro @xq.eq_1 (And.intro @fy.eq_1 (And.intro @fu.eq_1 (And.intro @vT.eq_1 (And.intro @vU.eq_1 (And.intro @zu.eq_1 (And.intro @fJ.eq_1 (And.intro @fK.eq_1 (And.intro @xA.eq_1 (And.intro @fO.eq_1 (And.intro @vV.eq_1 (And.intro @xy.eq_1 (And.intro @uJ.eq_1 (And.intro @vW.eq_1 (And.intro @vX.eq_1 (And.intro @vY.eq_1 (And.intro @uK.eq_1 (And.intro @fA.eq_1 (And.intro @ve.eq_1 (And.intro @xM.eq_1 (And.intro @xb.eq_1 (And.intro @um.eq_1 (And.intro @uz.eq_1 (And.intro @zK.eq_1 (And.intro @zW.eq_1 (And.intro @xO.eq_1 (And.intro @v6.eq_1 (And.intro @zQ.eq_1 (And.intro @fb.eq_1 (And.intro @zH.eq_1 (And.intro @xr.eq_1 (And.intro @uQ.eq_1 (And.intro @xR.eq_1 (And.intro @zh.eq_1 (And.intro @xZ.eq_1 (And.intro @xB.eq_1 (And.intro @uL.eq_1 (And.intro @xN.eq_1 (And.intro @zv.eq_1 (And.intro @fH.eq_1 (And.intro @xC.eq_1 (And.intro @v7.eq_1 (And.intro @v8.eq_1 (And.intro @zi.eq_1 (And.intro @vg.eq_1 (And.intro @un.eq_1 (And.intro @wa.eq_1 (And.intro @wb.eq_1 (And.intro @fC.eq_1 (And.intro @zj.eq_1 (And.intro @wc.eq_1 (And.intro @ud.eq_1 (And.intro @x5.eq_1 (And.intro @fI.eq_1 (And.intro @zI.eq_1 (And.intro @wd.eq_1 (And.intro @ut.eq_1 (And.intro @xt.eq_1 (And.intro @we.eq_1 (And.intro @xu.eq_1 (And.intro @xw.eq_1 (And.intro @wg.eq_1 (And.intro @xH.eq_1 (And.intro @xS.eq_1 (And.intro @wk.eq_1 (And.intro @xT.eq_1 (And.intro @za.eq_1 (And.intro @ue.eq_1 (And.intro @uA.eq_1 (And.intro @wl.eq_1 (And.intro @xU.eq_1 (And.intro @xV.eq_1 (And.intro @x6.eq_1 (And.intro @wm.eq_1 (And.intro @xK.eq_1 (And.intro @zA.eq_1 (And.intro @uV.eq_1 (And.intro @zB.eq_1 (And.intro @uB.eq_1 (And.intro @zR.eq_1 (And.intro @zL.eq_1 (And.intro @vh.eq_1 (And.intro @uf.eq_1 (And.intro @ug.eq_1 (And.intro @zY.eq_1 (And.intro @uw.eq_1 (And.intro @zT.eq_1 (And.intro @xm.eq_1 (And.intro @zk.eq_1 (And.intro @uM.eq_1 (And.intro @zU.eq_1 (And.intro @zC.eq_1 (@uN.eq_1)))))))))))))))))))))))))))))))))))))))))))))))))))))))))))))))))))))))))))))))))))))))))))))))))))))))))))))))))))))))))))))))))))))))))))))))))))))))))))))))))))))))))))))))))))))))))))))))))))))))))))))))))))))))))))))))))))))))))))))))))
end
end Kw
