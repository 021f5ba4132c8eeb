import Derived.Test.YthjlffhckgaboaaGreatDoorW17
import Derived.Lib.OwnBridge
import Derived.Deep.RegionHeld3
import Derived.Deep.DrawnRows
set_option linter.unusedVariables false
set_option linter.unusedSimpArgs false
set_option linter.unusedSectionVars false
namespace Kw
open Go Go.RowKit Go.Proofs Go.Shelf
abbrev vI:Int->Value:=Value.int .i64
theorem vI_one(l:List Int):∀u∈l.map vI,u.oneCell'=true:=fun u hu=>by
 obtain⟨x,_,rfl⟩:=qf.1 hu;rfl
variable [Gl]
theorem FX(b off n c:Nat)(l:List Int)(w:World)(hl:l.length=n)(hn:0<n)(hb:n<=100000)(hc:∀j v,(l.map vI)[j]?=some v->w.cell? ⟨b,off+j,none⟩=some v):
 Calls Tryz.prog 108 #[.slice (some ⟨b,off,none⟩) n c] w fun e w'=>∃g cur,e=.returned (.slice (some ⟨g,0,none⟩) n n)/\w.heap.size<=g/\w'.heap[g]?=some (.cells cur 3 (0,0))/\n*1<=cur.size/\cur.toList.take (n*1)=l.map vI/\Below w.heap.size w w':=by
 have hk:okT Tryz.prog 3=true:=by kernel_rfl
 have ht:tsize Tryz.prog 3=1:=by kernel_rfl
 have hbb:Nat.ble (bT Tryz.prog 3) 1024=true:=by kernel_rfl
 obtain⟨i0,z,hi,hz,_,hzs⟩:=cG hk;have h1:i0.size=1:=by rw[<-ht];unfold tsize;rw[hi]
 have h2:i0.bytes<=1024:=by
  have:=qz hbb;unfold bT at this;rw[hi]at this;exact this
 have hnb:n*i0.bytes<=140737488355328:=kb (qw n h2) (by omega)
 exact C9 _ n c (l.map vI) w (AnyE.slices_Clone I8 i0 z 1 i0.bytes hi hz h1 rfl (by rw[hzs,ht]) (by decide) Tryz.sizeOf3 b off n c (l.map vI) w (by simp;omega) (by unfold maxLen;omega) hnb hc (vI_one l))
theorem aw1(b off n c:Nat)(l:List Int)(x:Int)(V:World)(hl:l.length=n)(hn:n<=1000)(hc:∀j v,(l.map vI)[j]?=some v->V.cell? ⟨b,off+j,none⟩=some v):
 Calls Tryz.prog 199 #[.slice (some ⟨b,off,none⟩) n c,.int .i64 x] V fun e w'=>e=.returned (.bool (l.any fun y=>x==y))/\w'=V:=by
 have h:=AnyE.slices_Contains Tryz.laysCo vI (fun x y=>x==y) (EqlAt.int _ _ _) b off n c l x V (by omega) (by omega) (fun j hj=>hc j _ (by rw[jo,jj hj,getElem!_pos l j hj];rfl))
 rw[Jn (by omega)]at h
 exact h
theorem oN{B b:Nat}{a:World}(hb:B<=b):∀(vs:List Value) (o:Nat) {w:World},Below B a w->Below B a (w.setCells b o vs)
 |[],_,_,h=>h
 |v::r,o,w,h=>by
  rw[World.setCells];exact oN hb r (o+1) (h.setCell (p:=⟨b,o,none⟩) hb v)
theorem ahV(cs:List Value)(x:Value)(i:Nat)(hi:i<cs.length)(R:Array Value)(hR:R.size=cs.length+1\/cs.length+1<=R.size)(h:∀k,k<i->R[k]?=cs[k]?):
 (ow (ow R i [x]) (i+1) (cs.drop i)).toList.take (cs.length+1)=cs.take i++x::cs.drop i:=by
 have hs:cs.length+1<=R.size:=by omega
 have hd:(cs.drop i).length=cs.length-i:=Jm;refine List.ext_getElem? fun k=>?_
 rw[Jq];by_cases hk:k<cs.length+1
 ·rw[je hk,qj];by_cases h1:k<i
  ·rw[CN _ _ _ _ (.inl (by omega)),CN _ _ _ _ (.inl h1),h k h1,yd (by rw[yf];omega),qp h1]
  ·by_cases h2:k=i
   ·subst h2;rw[CN _ _ _ _ (.inl (by omega))]
    have:=SY [x] R k 0 (by simp) (by simp;omega)
    rw[yv]at this;rw[this,yr (by rw[yf];omega),yf,show k-min k cs.length=0 by omega]
    rfl
   ·have:=SY (cs.drop i) (ow R i [x]) (i+1) (k-(i+1)) (by omega) (by rw[tL];omega)
    rw[show i+1+(k-(i+1))=k by omega]at this
    rw[this,yr (by rw[yf];omega),yf,show k-min i cs.length=(k-(i+1))+1 by omega,List.getElem?_cons_succ]
 ·rw[jc hk,qo (by rw[jl,jf,yf];omega)]
theorem aa4(k:Nat):(Builtin.zeroCells (Value.int .i64 0).cells k).size=k:=by simp[Builtin.zeroCells,Value.cells]
theorem aw2(g n i q vc:Nat)(l:List Int)(x:Int)(V:World)(hl:l.length=n)(hi:i<=n)(hn:n<=1000)(hn0:0<n)(hcs:∀j v,(l.map vI)[j]?=some v->V.cell? ⟨g,0+j,none⟩=some v)(hx:V.cell? ⟨q,0,none⟩=some (vI x)):
 Calls Tryz.prog 244 #[.slice (some ⟨g,0,none⟩) n n,.int .i64 i,.slice (some ⟨q,0,none⟩) 1 vc] V fun e w'=>∃cap arr,e=.returned (.slice (some ⟨V.heap.size,0,none⟩) (n+1) cap)/\n+1<=cap/\w'.heap[V.heap.size]?=some (.cells arr 3 (0,0))/\
  n+1<=arr.size/\arr.toList.take (n+1)=(l.take i++x::l.drop i).map vI/\V.heap.size<w'.heap.size/\Below V.heap.size V w':=by
 have hvs:∀j v,[vI x][j]?=some v->V.cell? ⟨q,0+j,none⟩=some v:=fun j v h=>by
  cases j with
  |succ j=>simp at h
  |zero=>simp at h;rw[<-h];exact hx
 have hml:(l.map vI).length=n:=by rw[kf];exact hl
 have hmp:(l.take i++x::l.drop i).map vI=(l.map vI).take i++vI x::(l.map vI).drop i:=by
  rw[List.map_append,yh,List.map_take,List.map_drop]
 rw[hmp];by_cases hlt:i<n
 ·refine(Any2.slices_Insert_int_grow Tryz.laysNm221 g 0 n n i q 0 1 vc (l.map vI) [vI x] V hlt (by decide) (kg _) (by omega) (by omega) hml rfl hcs hvs (vI_one l) (vI_one [x])).mono fun e w' ⟨he,hw⟩=>?_
  have hge:=grownCap_ge V (n+1) n (Tryz.laysNm221_ren.t 3);obtain⟨ROW,hROW⟩:∃ROW:Array Value,ROW=(((l.map vI).take i).toArray++Builtin.zeroCells (Value.int .i64 0).cells (n+1-i)++Builtin.zeroCells (Value.int .i64 0).cells (grownCap V (n+1) n (Tryz.laysNm221_ren.t 3)-(n+1))):=⟨_,rfl⟩;rw[<-hROW]at hw;have h0:((V.alloc (.cells ROW (Tryz.laysNm221_ren.t 3))).drew).heap[V.heap.size]?=some (.cells ROW 3 (0,0)):=by
   show(V.heap.push _)[V.heap.size]?=_;rw[Array.getElem?_push_size];rfl
  have h1:=eU [vI x] i _ _ h0;have h2:=eU ((l.map vI).drop i) (i+1) _ _ (show(((V.alloc (.cells ROW (Tryz.laysNm221_ren.t 3))).drew.setCells V.heap.size i [vI x]).drew).heap[V.heap.size]?=_ from h1)
  have hsz:n+1<=ROW.size:=by rw[hROW];simp only[Array.size_append,aa4,List.size_toArray,yf];omega
  refine⟨_,ow (ow ROW i [vI x]) (i+1) ((l.map vI).drop i),he,hge,?_,?_,?_,?_,?_⟩
  ·rw[hw];exact h2
  ·rw[tL,tL];exact hsz
  ·have:=ahV (l.map vI) (vI x) i (by omega) ROW (.inr (by omega)) (fun k hk=>by
    rw[hROW,Jd (by simp only[Array.size_append,List.size_toArray,yf];omega),Jd (by simp only[List.size_toArray,yf];omega),qv,qp hk])
   rw[hml]at this;exact this
  ·rw[hw,jO];show V.heap.size< ((V.alloc (.cells ROW (Tryz.laysNm221_ren.t 3))).drew.setCells V.heap.size i [vI x]).heap.size;rw[jO];show V.heap.size< (V.heap.push _).size;rw[Array.size_push];omega
  ·rw[hw];exact oN (kg _) _ _ (Below.drew (oN (kg _) _ _ (Below.drew ((Below.refl _ V).alloc (kg _) _))))
 ·obtain rfl:i=n:=by omega
  refine(Any2.slices_Insert_int_end_grow Tryz.laysNm221 (some ⟨g,0,none⟩) i i q 0 1 vc (l.map vI) [vI x] V (by decide) (kg _) (by omega) (by omega) hml rfl (fun h=>by cases h) (fun a ha j v hj=>by cases ha;rw[Addr.add_lit];exact hcs j v hj) hvs (vI_one [x])).mono fun e w' ⟨he,hw⟩=>?_
  have hge:=grownCap_ge V (i+1) i (Tryz.laysNm221_ren.t 3);refine⟨_,_,he,hge,by rw[hw];show(V.heap.push _)[V.heap.size]?=_;rw[Array.getElem?_push_size];rfl,?_,?_,?_,?_⟩
  ·simp only[Array.size_append,aa4,List.size_toArray,jl,hml,jf,jk];omega
  ·rw[Jn (l:=l.map vI) (by omega),js (by omega),Array.toList_append,List.toList_toArray,List.take_left' (by simp[hl])]
  ·rw[hw];show V.heap.size< (V.heap.push _).size;rw[Array.size_push];omega
  ·rw[hw];exact(Below.drew (Below.refl _ V)).alloc (kg _) _
theorem aa5(M k:Int)(B:Nat)(W:World)(hM: -1000000<=M/\M<=1000000)(hc:W.cell? ⟨B,1,none⟩=some (.int .i64 M)):
 FnGives Tryz.prog 246 #[.pointer (some ⟨B,0,none⟩)] #[.int .i64 k] (.bool (decide (k<=M-8))) W:=by
 show Calls Tryz.prog 246 #[.int .i64 k,.pointer (some ⟨B,0,none⟩)] W _;obtain⟨h0,h1⟩:=hM
 go_enter Tryz.func246,Tryz.ntmps246
 go_wp2
 all_goals (go_ret;exact⟨by simp_all,0,rfl⟩)
theorem aw3(M:Int)(q B m cap:Nat)(r:List Int)(W:World)(hM: -1000000<=M/\M<=1000000)(hB:B<W.heap.size)(hne:B≠q)(hc:W.cell? ⟨B,1,none⟩=some (.int .i64 M))(hm:r.length=m)(hm2:m<=2000)(hcap:m<=cap)
 (hcs:∀j v,(r.map vI)[j]?=some v->W.cell? ⟨q,0+j,none⟩=some v) (hfz:∀j,j<m->W.frozen? ⟨q,0+j,none⟩=false):
 Calls Tryz.prog 245 #[.slice (some ⟨q,0,none⟩) m cap,.func (.func 246) #[] #[.pointer (some ⟨B,0,none⟩)]] W fun e w'=>e=.returned (.slice (some ⟨q,0,none⟩) (r.filter fun k=>!decide (k<=M-8)).length cap)/\
  (∀j v,((r.filter fun k=>!decide (k<=M-8)).map vI)[j]?=some v->w'.cell? ⟨q,0+j,none⟩=some v)/\Below q W w':=by
 have eg:∀args w,(callFunc 246 args).run Tryz.prog w=.ok (.enter 246 args) w:=enters_of Tryz.func246 (by kernel_rfl) rfl
 have hH:Go.Sort.Holds vI W q 0 r.toArray:=fun j hj=>by
  have hj':j<r.length:=by simpa using hj
  refine⟨hcs j _ ?_,hfz j (by omega)⟩
  rw[jo,jj hj'];simp[getElem!_pos,hj']
 have hpa:PredAt Tryz.prog 246 #[.pointer (some ⟨B,0,none⟩)] vI (fun k=>decide (k<=M-8)) W:=fun W' x hb=>aa5 M x B W' hM ((hb.cell (p:=⟨B,1,none⟩) hB).trans hc)
 have hpo:PredOver Tryz.prog 246 #[.pointer (some ⟨B,0,none⟩)] vI (fun k=>decide (k<=M-8)) q 0 r.toArray.size W:=fun n os dk x _=>aa5 M x B _ hM (by
  unfold sortWorld;rw[Go.Sort.cell?_grow _ _ _ (by show B< (Go.Sort.putRow _ _ _ _ _).heap.size;rw[Go.Sort.size_putRow];exact hB),Go.Sort.cell?_putRow_other _ _ q 0 _ _ (Or.inl hne)]
  exact hc)
 have h:=AnyE.slices_DeleteFunc Tryz.laysDF vI (fun _=>rfl) (fun k=>decide (k<=M-8)) 246 #[.pointer (some ⟨B,0,none⟩)] eg 0 Tryz.zeroValue3 q 0 cap r.toArray W hpa hpo hH (by simp;omega) (by simp;omega)
 have hsz:r.toArray.size=m:=by simpa using hm
 rw[hsz]at h;refine(show Calls Tryz.prog 245 _ _ _ from h).mono fun e w' ⟨he,qq,hw⟩=>⟨he,?_,?_⟩
 ·have hlen:(r.filter fun k=>!decide (k<=M-8)).length<=m:=by rw[<-hm];exact wq _ _
  have hh:=Go.Sort.holds_putRow vI (Go.Sort.ahead W qq) q 0 r.toArray ((r.filter fun k=>!decide (k<=M-8))++List.replicate (m-(r.filter fun k=>!decide (k<=M-8)).length) 0).toArray hH (by simp;omega)
  intro j v hj;have hj':j< (r.filter fun k=>!decide (k<=M-8)).length:=by
   have:=(jm.1 hj).1;simpa using this
  rw[hw];have:=(hh j (by simp;omega)).1
  rw[this,<-hj,jo,jj hj'];simp only[yi]
  congr 2
  rw[getElem!_pos _ j (by simp;omega)]
  simp[List.getElem_append_left hj']
 ·rw[hw];exact Go.Lib.below_putRow (Below.refl _ W) (kg _)
end Kw
namespace Kw
open Go Go.RowKit Go.Proofs Go.Shelf
attribute [local go_sem↓] Go.wp_at_zero Go.wp_at_succ
variable [Gl]
theorem aa6{U V W:World}{H:Nat}{v0 v1 v2:Value}(hU:H<U.heap.size)(h:V.cell? ⟨H,0,none⟩=some v0/\V.cell? ⟨H,1,none⟩=some v1/\V.cell? ⟨H,2,none⟩=some v2/\Aside (Below U.heap.size U V))(hB:Below V.heap.size V W):W.cell? ⟨H,0,none⟩=some v0/\W.cell? ⟨H,1,none⟩=some v1/\W.cell? ⟨H,2,none⟩=some v2/\Aside (Below U.heap.size U W):=by
 obtain⟨a,b,c,d⟩:=h;have hs:=d.out.size;have hlt:H<V.heap.size:=by omega
 exact⟨(hB.cell hlt).trans a,(hB.cell hlt).trans b,(hB.cell hlt).trans c,Below.trans d.out (hB.mono hs)⟩
theorem UZ{U V:World}{H:Nat}{v0 v1 v2:Value}(hU:H<U.heap.size)(o:Go.Obj)(h:V.cell? ⟨H,0,none⟩=some v0/\V.cell? ⟨H,1,none⟩=some v1/\V.cell? ⟨H,2,none⟩=some v2/\Aside (Below U.heap.size U V)):(V.alloc o).cell? ⟨H,0,none⟩=some v0/\(V.alloc o).cell? ⟨H,1,none⟩=some v1/\(V.alloc o).cell? ⟨H,2,none⟩=some v2/\Aside (Below U.heap.size U (V.alloc o)):=
 aa6 hU h ((Below.refl _ V).alloc (kg _) o)
theorem ahW{U V:World}{H:Nat}{v0 v1 v2:Value}{o:Go.Obj}(o':Go.Obj)(hU:H<U.heap.size)(hV:U.heap.size<=V.heap.size)(h:(V.alloc o).cell? ⟨H,0,none⟩=some v0/\(V.alloc o).cell? ⟨H,1,none⟩=some v1/\(V.alloc o).cell? ⟨H,2,none⟩=some v2/\Aside (Below U.heap.size U (V.alloc o))):(V.alloc o').cell? ⟨H,0,none⟩=some v0/\(V.alloc o').cell? ⟨H,1,none⟩=some v1/\(V.alloc o').cell? ⟨H,2,none⟩=some v2/\Aside (Below U.heap.size U (V.alloc o')):=by
 obtain⟨a,b,c,d⟩:=h;have hB:Below V.heap.size (V.alloc o) (V.alloc o'):=⟨rfl,rfl,rfl,by simp,fun k hk=>by rw[Below.heap_alloc _ _ _ hk,Below.heap_alloc _ _ _ hk]⟩
 have hH:H<V.heap.size:=by omega
 exact⟨(hB.cell hH).trans a,(hB.cell hH).trans b,(hB.cell hH).trans c,Below.trans d.out (hB.mono hV)⟩
theorem X3{U V:World}{H:Nat}{v0 v1 v2:Value}{p:Addr}(u:Value)(hU:H<U.heap.size)(hp:U.heap.size<=p.block)(h:V.cell? ⟨H,0,none⟩=some v0/\V.cell? ⟨H,1,none⟩=some v1/\V.cell? ⟨H,2,none⟩=some v2/\Aside (Below U.heap.size U V)):(V.setCell p u).cell? ⟨H,0,none⟩=some v0/\(V.setCell p u).cell? ⟨H,1,none⟩=some v1/\(V.setCell p u).cell? ⟨H,2,none⟩=some v2/\Aside (Below U.heap.size U (V.setCell p u)):=by
 obtain⟨a,b,c,d⟩:=h;have hB:Below U.heap.size V (V.setCell p u):=(Below.refl _ V).setCell hp u;exact⟨(hB.cell hU).trans a,(hB.cell hU).trans b,(hB.cell hU).trans c,Below.trans d.out hB⟩
def TkV(U:World)(B g n:Nat)(l:List Int)(s:ByteArray)(M:Int)(V:World):Prop:=
 Below U.heap.size U V/\U.heap.size<=B/\U.heap.size<=g/\g≠B/\B<V.heap.size/\V.cell? ⟨B,0,none⟩=some (.string s)/\V.cell? ⟨B,1,none⟩=some (.int .i64 M)/\V.cell? ⟨B,2,none⟩=some (.slice (some ⟨g,0,none⟩) n n)/\(∀i,V.frozen? ⟨B,i,none⟩=false)/\
  ∀j v,(l.map vI)[j]?=some v->V.cell? ⟨g,0+j,none⟩=some v
theorem FY{V:World}{g n:Nat}{cur:Array Value}{l:List Int}{ty:TypeId}{fz:Nat×Nat}(hh:V.heap[g]?=some (.cells cur ty fz))(htk:cur.toList.take (n*1)=l.map vI):∀j v,(l.map vI)[j]?=some v->V.cell? ⟨g,0+j,none⟩=some v:=fun j v hj=>by
 rw[tM hh,qx,<-qj];rw[<-htk,Jq]at hj;split at hj
 ·exact hj
 ·cases hj
theorem tkA{U V w':World}{g n:Nat}{cur:Array Value}{l:List Int}{s:ByteArray}{M:Int}(hV:Below U.heap.size U V)(hB:Below V.heap.size V w')(hg:V.heap.size<=g)(hh:w'.heap[g]?=some (.cells cur 3 (0,0)))(htk:cur.toList.take (n*1)=l.map vI):
 TkV U w'.heap.size g n l s M (w'.alloc (.cells #[.string s,.int .i64 M,.slice (some ⟨g,0,none⟩) n n] 124)):=by
 have hUV:=hV.size;have hs:=hB.size;have hgl:g<w'.heap.size:=by
  rcases yo g w'.heap.size with h|h
  ·exact h
  ·rw[Jo h]at hh;cases hh
 refine⟨(Below.trans hV (hB.mono hUV)).alloc (by omega) _,by omega,by omega,by omega,by simp,by simp,by simp,by simp,fun i=>World.frozen?_alloc_at (w:=w') _ _ _ i rfl,FY (V:=w'.alloc _) (ty:=3) (fz:=(0,0)) (by rw[Below.heap_alloc _ _ _ hgl];exact hh) htk⟩
theorem tkB{U V w':World}{g n:Nat}{cur:Array Value}{l:List Int}{s:ByteArray}{M:Int}(hV:Below U.heap.size U V)(hB:Below V.heap.size V w')(hg:V.heap.size<=g)(hh:w'.heap[g]?=some (.cells cur 3 (0,0)))(htk:cur.toList.take (n*1)=l.map vI){B:Nat}(hUB:U.heap.size<=B)(hBV:B<V.heap.size)
 {arr:Array Value} (hb:V.heap[B]?=some (.cells arr 124 (0,0))) (ha:arr.size=3):
 TkV U B g n l s M (((w'.setCell ⟨B,0,none⟩ (.string s)).setCell ⟨B,1,none⟩ (.int .i64 M)).setCell ⟨B,2,none⟩ (.slice (some ⟨g,0,none⟩) n n)):=by
 have hs:=hB.size;have hUV:=hV.size;have h0:w'.heap[B]?=some (.cells arr 124 (0,0)):=(hB.block B hBV).trans hb;have h3:(((w'.setCell ⟨B,0,none⟩ (.string s)).setCell ⟨B,1,none⟩ (.int .i64 M)).setCell ⟨B,2,none⟩ (.slice (some ⟨g,0,none⟩) n n)).heap[B]?=some (.cells (ow arr 0 [.string s,.int .i64 M,.slice (some ⟨g,0,none⟩) n n]) 124 (0,0)):=eU [.string s,.int .i64 M,.slice (some ⟨g,0,none⟩) n n] 0 w' arr h0;have hne:g≠B:=by omega
 have hg3:(((w'.setCell ⟨B,0,none⟩ (.string s)).setCell ⟨B,1,none⟩ (.int .i64 M)).setCell ⟨B,2,none⟩ (.slice (some ⟨g,0,none⟩) n n)).heap[g]?=some (.cells cur 3 (0,0)):=(mJ hne [.string s,.int .i64 M,.slice (some ⟨g,0,none⟩) n n] 0 w').trans hh;have hc:∀k,k<3->(ow arr 0 [.string s,.int .i64 M,.slice (some ⟨g,0,none⟩) n n])[k]?=[Value.string s,.int .i64 M,.slice (some ⟨g,0,none⟩) n n][k]?:=fun k hk=>by
  have:=SY [.string s,.int .i64 M,.slice (some ⟨g,0,none⟩) n n] arr 0 k hk (by simp;omega)
  rw[qx]at this;exact this
 refine⟨Below.trans hV (((((Below.refl _ _).setCell (p:=⟨B,0,none⟩) hUB _).setCell (p:=⟨B,1,none⟩) hUB _).setCell (p:=⟨B,2,none⟩) hUB _)|>fun h=>Below.trans (hB.mono hUV) h),hUB,by omega,hne,?_,?_,?_,?_,fun i=>AU h3,FY hg3 htk⟩
 ·have:(((w'.setCell ⟨B,0,none⟩ (.string s)).setCell ⟨B,1,none⟩ (.int .i64 M)).setCell ⟨B,2,none⟩ (.slice (some ⟨g,0,none⟩) n n)).heap.size=w'.heap.size:=jO [.string s,.int .i64 M,.slice (some ⟨g,0,none⟩) n n] 0 w';rw[this];omega
 ·rw[tM h3,hc 0 (by decide)];rfl
 ·rw[tM h3,hc 1 (by decide)];rfl
 ·rw[tM h3,hc 2 (by decide)];rfl
theorem X4:∀(l:List Int) (x:Int) (i:Nat),i<=l.length->(∀j,j<i->x<l[j]!)->(i<l.length->¬x<l[i]!)->jB l x=l.take i++x::l.drop i
 |[],x,i,hi,_,_=>by
  obtain rfl:i=0:=by simpa using hi
  rfl
 |y::l,x,0,_,_,h=>by
  have h1:¬x<y:=h (by simp)
  simp[jB,List.takeWhile_cons,List.dropWhile_cons,h1]
 |y::l,x,i+1,hi,hA,hE=>by
  have h1:x<y:=hA 0 (by omega)
  have ih:=X4 l x i (by simpa using hi) (fun j hj=>by have:=hA (j+1) (by omega);simpa using this) (fun h=>by have:=hE (by simpa using h);simpa using this)
  unfold jB at ih⊢;rw[List.takeWhile_cons,List.dropWhile_cons,je (by simpa using h1),je (by simpa using h1),List.take_succ_cons,List.drop_succ_cons,Js,ih,Js]
theorem keep_len{l:List Int}{top x:Int}:0< ((jB l x).filter fun k=>!decide (k<=max top x-8)).length\/x<=top-8:=by
 by_cases h:x<=top-8
 ·exact .inr h
 ·refine .inl (wu.2 fun e=>?_)
  have hm:x∈(jB l x).filter fun k=>!decide (k<=max top x-8):=by
   refine wv.2 ⟨by unfold jB;simp,?_⟩
   have:¬x<=max top x-8:=by omega
   simp only[this,decide_false,Bool.not_false]
  rw[e]at hm;cases hm
def Fx(W:World)(B R:Nat)(s:ByteArray)(M:Int)(v:Value):Prop:=
 W.cell? ⟨B,0,none⟩=some (.string s)/\W.cell? ⟨B,1,none⟩=some (.int .i64 M)/\W.cell? ⟨B,2,none⟩=some v/\(∀i,W.frozen? ⟨B,i,none⟩=false)/\
   W.cell? ⟨R,0,none⟩=some (.string {data:= #[]})/\W.cell? ⟨R,1,none⟩=some (.int .i64 0)/\W.cell? ⟨R,2,none⟩=some (.slice none 0 0)/\∀i,W.frozen? ⟨R,i,none⟩=false
theorem Fx.below{V W:World}{B R K:Nat}{s:ByteArray}{M:Int}{v:Value}(h:Fx V B R s M v)(hB:Below K V W)(h1:B<K)(h2:R<K):Fx W B R s M v:=by
 obtain⟨a,b,c,d,e,f,g,i⟩:=h;exact⟨(hB.cell h1).trans a,(hB.cell h1).trans b,(hB.cell h1).trans c,fun j=>(hB.frozen h1).trans (d j),(hB.cell h2).trans e,(hB.cell h2).trans f,(hB.cell h2).trans g,fun j=>(hB.frozen h2).trans (i j)⟩
theorem JI{W:World}{B o R p:Nat}{v:Value}(h:R≠B):(W.setCell ⟨B,o,none⟩ v).cell? ⟨R,p,none⟩=W.cell? ⟨R,p,none⟩:=World.cell?_of_block (Below.heap_setCell _ _ _ _ h)
theorem Fx.set{W:World}{B R:Nat}{s:ByteArray}{M:Int}{v:Value}(u:Value)(h:Fx W B R s M v)(hne:R≠B):Fx (W.setCell ⟨B,2,none⟩ u) B R s M u:=by
 obtain⟨a,b,c,d,e,f,g,i⟩:=h;refine⟨?_,?_,?_,fun j=>?_,(JI hne).trans e,(JI hne).trans f,(JI hne).trans g,fun j=>(World.frozen?_of_block (Below.heap_setCell _ _ _ _ hne)).trans (i j)⟩
 ·exact(World.cell?_setCell_other _ _ _ _ (by simp)).trans a
 ·exact(World.cell?_setCell_other _ _ _ _ (by simp)).trans b
 ·exact World.cell?_setCell_same _ _ _ c
 ·rw[World.frozen?_setCell];exact d j
theorem U0{U V:World}{B R g n i:Nat}{l:List Int}{s:ByteArray}{M x:Int}(T:TkV U B g n l s M V)(hR:R<U.heap.size)(F:Fx V B R s M (.slice (some ⟨g,0,none⟩) n n))(hl:l.length=n)(hi:i<=n)(hn:0<n)(hb:n<=1000)(hI:jB l x=l.take i++x::l.drop i):
 Calls Tryz.prog 244 #[.slice (some ⟨g,0,none⟩) n n,.int .i64 i,.slice (some ⟨V.heap.size,0,none⟩) 1 1] (V.alloc (.cells #[.int .i64 x] 3)) fun e W=>∃cap,e=.returned (.slice (some ⟨V.heap.size+1,0,none⟩) (n+1) cap)/\
  Aside (n+1<=cap/\Below U.heap.size U W/\V.heap.size+1<W.heap.size/\(∀j v,((jB l x).map vI)[j]?=some v->W.cell? ⟨V.heap.size+1,0+j,none⟩=some v)/\∀j,W.frozen? ⟨V.heap.size+1,j,none⟩=false)/\Fx W B R s M (.slice (some ⟨g,0,none⟩) n n):=by
 obtain⟨t1,t2,t3,t4,t5,t6,t7,t8,t9,t10⟩:=T;have hs1:(V.alloc (.cells #[.int .i64 x] 3)).heap.size=V.heap.size+1:=by simp
 have kins:=aw2 g n i V.heap.size 1 l x (V.alloc (.cells #[.int .i64 x] 3)) hl hi hb hn (fun j v hj=>Lib.cell?_alloc_some _ (t10 j v hj)) (by simp)
 rw[hs1]at kins;refine kins.mono fun e W ⟨cap,arr,he,hcap,hh,hsz,htk,hlt,hB⟩=>⟨cap,he,⟨hcap,?_,hlt,?_,fun j=>AU hh⟩,?_⟩
 ·exact Below.trans t1 (Below.trans ((Below.refl _ V).alloc t1.size _) (hB.mono (by have:=t1.size;omega)))
 ·exact FY (n:=n+1) hh (by rw[Nat.mul_one,htk,<-hI])
 ·exact F.below (Below.trans ((Below.refl V.heap.size V).alloc (kg _) _) (hB.mono (by omega))) t5 (by have:=t1.size;omega)
theorem U1{U V:World}{B R g n:Nat}{l r:List Int}{s:ByteArray}{M x:Int}(hV:U.heap.size<=V.heap.size)(hUB:U.heap.size<=B)(hBV:B<V.heap.size)(hR:R<U.heap.size)(hM0: -1000000<=M)(hM1:M<=1000000)(hil:(jB l x).length=n+1)(hb:n<=1000)(hr:(jB l x).filter (fun k=>!decide (k<=M-8))=r)(cap:Nat)(W:World)
 (hA:Aside (n+1<=cap/\Below U.heap.size U W/\V.heap.size+1<W.heap.size/\(∀j v,((jB l x).map vI)[j]?=some v->W.cell? ⟨V.heap.size+1,0+j,none⟩=some v)/\∀j,W.frozen? ⟨V.heap.size+1,j,none⟩=false)) (F:Fx W B R s M (.slice (some ⟨g,0,none⟩) n n)):
 Calls Tryz.prog 245 #[.slice (some ⟨V.heap.size+1,0,none⟩) (n+1) cap,.func (.func 246) #[] #[.pointer (some ⟨B,0,none⟩)]] (W.setCell ⟨B,2,none⟩ (.slice (some ⟨V.heap.size+1,0,none⟩) (n+1) cap)) fun e w3=>e=.returned (.slice (some ⟨V.heap.size+1,0,none⟩) r.length cap)/\
  Aside (Below U.heap.size U w3/\V.heap.size+1<w3.heap.size/\∀j v,(r.map vI)[j]?=some v->w3.cell? ⟨V.heap.size+1,0+j,none⟩=some v)/\Fx w3 B R s M (.slice (some ⟨V.heap.size+1,0,none⟩) (n+1) cap):=by
 obtain⟨hcap,hB,hlt,hcs,hfz⟩:=hA.out;have hne:V.heap.size+1≠B:=by omega
 have hsz:(W.setCell ⟨B,2,none⟩ (.slice (some ⟨V.heap.size+1,0,none⟩) (n+1) cap)).heap.size=W.heap.size:=by simp[World.setCell]
 have F2:=F.set (.slice (some ⟨V.heap.size+1,0,none⟩) (n+1) cap) (by omega)
 have k:=aw3 M (V.heap.size+1) B (n+1) cap (jB l x) _ ⟨hM0,hM1⟩ (by rw[hsz];omega) (by omega) F2.2.1 hil (by omega) hcap (fun j v hj=>(JI hne).trans (hcs j v hj)) (fun j _=>(World.frozen?_of_block (Below.heap_setCell _ _ _ _ hne)).trans (hfz _))
 rw[hr]at k;refine k.mono fun e w3 ⟨he,hc3,hB3⟩=>⟨he,⟨?_,?_,hc3⟩,F2.below hB3 (by omega) (by omega)⟩
 ·exact Below.trans (hB.setCell (p:=⟨B,2,none⟩) hUB _) (hB3.mono (by omega))
 ·have:=hB3.size;omega
theorem L6{U V:World}{B R n:Nat}{r:List Int}{s:ByteArray}{M:Int}(hV:U.heap.size<=V.heap.size)(hBV:B<V.heap.size)(hR:R<U.heap.size)(hr0:0<r.length)(hr1:r.length<=2000)(cap:Nat)(w3:World)
 (hA:Aside (Below U.heap.size U w3/\V.heap.size+1<w3.heap.size/\∀j v,(r.map vI)[j]?=some v->w3.cell? ⟨V.heap.size+1,0+j,none⟩=some v)) (F:Fx w3 B R s M (.slice (some ⟨V.heap.size+1,0,none⟩) (n+1) cap)):
 Calls Tryz.prog 108 #[.slice (some ⟨V.heap.size+1,0,none⟩) r.length cap] w3 fun e w4=>∃g2,e=.returned (.slice (some ⟨g2,0,none⟩) r.length r.length)/\
  Aside (Below U.heap.size U w4/\U.heap.size<=g2/\g2≠B/\g2≠R/\∀j v,(r.map vI)[j]?=some v->w4.cell? ⟨g2,0+j,none⟩=some v)/\Fx w4 B R s M (.slice (some ⟨V.heap.size+1,0,none⟩) (n+1) cap):=by
 obtain⟨hB,hlt,hc⟩:=hA.out;refine(FX (V.heap.size+1) 0 r.length cap r w3 rfl hr0 (by omega) hc).mono fun e w4 ⟨g2,cur,he,hg,hh,hsz,htk,hB4⟩=>⟨g2,he,⟨Below.trans hB (hB4.mono hB.size),by omega,by omega,by omega,FY hh htk⟩,F.below hB4 (by omega) (by have:=hB.size;omega)⟩
theorem aa7{W:World}{o:Go.Obj}{k:Nat}(h:k=W.heap.size):(W.alloc o).heap[k]?=some o:=by
 subst h;show(W.heap.push o)[W.heap.size]?=_;rw[Array.getElem?_push_size]
theorem X5{H:Nat}{V W:World}(hB:Below V.heap.size V W)(i:Nat)(h:(V.cell? ⟨H+2,i,none⟩).isSome=true):W.cell? ⟨H+2,i,none⟩=V.cell? ⟨H+2,i,none⟩/\W.frozen? ⟨H+2,i,none⟩=V.frozen? ⟨H+2,i,none⟩:=by
 obtain⟨v,hv⟩:=v9.1 h;have hlt:H+2<V.heap.size:=block_lt_of_cell hv;exact⟨hB.cell hlt,hB.frozen hlt⟩
theorem adM{U V:World}{H:Nat}{v0 v1 v2:Value}(hU:H<U.heap.size)(o:Go.Obj)(h:V.drew.cell? ⟨H,0,none⟩=some v0/\V.drew.cell? ⟨H,1,none⟩=some v1/\V.drew.cell? ⟨H,2,none⟩=some v2/\Aside (Below U.heap.size U V.drew)):(V.alloc o).drew.cell? ⟨H,0,none⟩=some v0/\(V.alloc o).drew.cell? ⟨H,1,none⟩=some v1/\(V.alloc o).drew.cell? ⟨H,2,none⟩=some v2/\Aside (Below U.heap.size U (V.alloc o).drew):=
 UZ (V:=V.drew) hU o h
theorem ahX{W:World}{o:Go.Obj}{k:Nat}(h:k=W.heap.size):((W.alloc o).drew).heap[k]?=some o:=aa7 h
end Kw
