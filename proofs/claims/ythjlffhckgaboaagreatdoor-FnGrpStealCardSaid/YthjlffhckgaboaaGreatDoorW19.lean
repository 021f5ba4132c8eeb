import Derived.Test.YthjlffhckgaboaaGreatDoorW18
import Derived.Laws.ResultCell
import Derived.Handy
set_option linter.unusedVariables false
set_option linter.unusedSimpArgs false
set_option linter.unusedSectionVars false
namespace Kw
open Go Go.RowKit Go.Proofs Go.Shelf
attribute [local go_sem↓] Go.wp_at_zero Go.wp_at_succ
variable [Gl]
set_option maxHeartbeats 40000000 in
set_option maxRecDepth 1000000 in
theorem aoD(b off n c:Nat)(l:List Int)(s:ByteArray)(top x:Int)(w:World)(hl:l.length=n)(hn:0<n)(hb:n<=1000)(hnc:n<=c)
 (ht0: -1000000<=top) (ht1:top<=1000000) (hx0: -1000000<=x) (hx1:x<=1000000) (hc:∀j v,(l.map vI)[j]?=some v->w.cell? ⟨b,off+j,none⟩=some v):
 Calls Tryz.prog 205 #[.agg #[.string s,.int .i64 top,.slice (some ⟨b,off,none⟩) n c],.int .i64 x] w fun e w'=>∃g r,(∀j v,(r.map vI)[j]?=some v->w'.cell? ⟨g,0+j,none⟩=some v)/\w.heap.size<=g/\Below w.heap.size w w'/\
  ((e=.returned (.tuple #[.agg #[.string s,.int .i64 (max top x),.slice (some ⟨g,0,none⟩) r.length r.length],.bool false])/\r=l/\(x∈l\/x<=top-8))\/
   (e=.returned (.tuple #[.agg #[.string s,.int .i64 (max top x),.slice (some ⟨g,0,none⟩) r.length r.length],.bool true])/\r=(jB l x).filter (fun k=>!decide (k<=max top x-8))/\¬(x∈l\/x<=top-8))):=by
 have hcA:Aside (∀j v,(l.map vI)[j]?=some v->w.cell? ⟨b,off+j,none⟩=some v):=hc;clear hc;obtain⟨U,hU⟩:∃U,U=(w.alloc (.cells #[.string s,.int .i64 top,.slice (some ⟨b,off,none⟩) n c] 124)).alloc (.cells #[.string {data:= #[]},.int .i64 0,.slice none 0 0] 124):=⟨_,rfl⟩
 go_enter Tryz.func205,Tryz.ntmps205
 go_wp2
 rename_i Q K hrest;have rest:∀(B g:Nat) (V:World),Aside (TkV U B g n l s (max top x) V)->K {tmps:= #[Value.agg #[Value.string s,Value.int IntKind.i64 top,Value.slice (some {block:=b,off:=off}) n c],
  Value.int IntKind.i64 x,Value.pointer (some {block:=w.heap.size,off:=0}),undef,
  Value.pointer (some {block:=w.heap.size+1,off:=0}),Value.bool false,
  Value.pointer (some {block:=B,off:=0}),undef,
  Value.pointer (some {block:=w.heap.size,off:=0}),Value.string s,
  Value.pointer (some {block:=w.heap.size,off:=1}),Value.int IntKind.i64 top,Value.int IntKind.i64 x,
  Value.int IntKind.i64 (max top x),Value.pointer (some {block:=w.heap.size,off:=2}),
  Value.slice (some {block:=b,off:=off}) n c,Value.slice (some {block:=g,off:=0}) n n,
  Value.agg
   #[Value.string s,Value.int IntKind.i64 (max top x),Value.slice (some {block:=g,off:=0}) n n],
  undef,undef,undef,undef,undef,undef,undef,undef,undef,undef,undef,undef,undef,undef,undef,undef,undef,undef,undef,undef,undef,undef,undef,undef,undef,undef,undef,undef,undef,undef,undef,undef,undef,undef,undef,undef,undef,undef,undef,undef,undef,undef],defers:=[]} V:=by
  intro B g V hT;have T:=hT.out;obtain⟨t1,t2,t3,t4,t5,t6,t7,t8,t9,t10⟩:=T;have hUs:U.heap.size=w.heap.size+2:=by rw[hU];simp
  have p0:V.cell? ⟨w.heap.size,0,none⟩=some (.string s):=(t1.cell (p:=⟨w.heap.size,0,none⟩) (by show w.heap.size<_;omega)).trans (by rw[hU];simp)
  have p1:V.cell? ⟨w.heap.size,1,none⟩=some (.int .i64 top):=(t1.cell (p:=⟨w.heap.size,1,none⟩) (by show w.heap.size<_;omega)).trans (by rw[hU];simp)
  have p2:V.cell? ⟨w.heap.size,2,none⟩=some (.slice (some ⟨b,off,none⟩) n c):=(t1.cell (p:=⟨w.heap.size,2,none⟩) (by show w.heap.size<_;omega)).trans (by rw[hU];simp)
  have kcon:Calls Tryz.prog 199 #[.slice (some ⟨b,off,none⟩) n c,.int .i64 x] V fun e w'=>e=.returned (.bool (l.any fun y=>x==y))/\w'=V:=aw1 b off n c l x V hl hb fun j v hj=>by
   have h:=hcA.out j v hj;have hbw:b<w.heap.size:=block_lt_of_cell h;have hu:U.cell? ⟨b,off+j,none⟩=some v:=by
    rw[hU];exact((((Below.refl w.heap.size w).alloc (kg _) _).alloc (by simp) _).cell (p:=⟨b,off+j,none⟩) hbw).trans h
   exact(t1.cell (p:=⟨b,off+j,none⟩) (by show b<_;omega)).trans hu
  have q0:V.cell? ⟨w.heap.size+1,0,none⟩=some (.string {data:= #[]}):=(t1.cell (p:=⟨w.heap.size+1,0,none⟩) (by show w.heap.size+1<_;omega)).trans (by rw[hU];simp)
  have q1:V.cell? ⟨w.heap.size+1,1,none⟩=some (.int .i64 0):=(t1.cell (p:=⟨w.heap.size+1,1,none⟩) (by show w.heap.size+1<_;omega)).trans (by rw[hU];simp)
  have q2:V.cell? ⟨w.heap.size+1,2,none⟩=some (.slice none 0 0):=(t1.cell (p:=⟨w.heap.size+1,2,none⟩) (by show w.heap.size+1<_;omega)).trans (by rw[hU];simp)
  have q3:∀i,V.frozen? ⟨w.heap.size+1,i,none⟩=false:=fun i=>(t1.frozen (p:=⟨w.heap.size+1,i,none⟩) (by show w.heap.size+1<_;omega)).trans (by rw[hU];simp)
  have FV:Fx V B (w.heap.size+1) s (max top x) (.slice (some ⟨g,0,none⟩) n n):=⟨t6,t7,t8,t9,q0,q1,q2,q3⟩;have FA:Aside (Fx V B (w.heap.size+1) s (max top x) (.slice (some ⟨g,0,none⟩) n n)):=FV;clear FV;have hBw:Aside (Below w.heap.size w V):=by
   refine Below.trans ?_ (t1.mono (by omega))
   rw[hU];exact((Below.refl w.heap.size w).alloc (kg _) _).alloc (by simp) _
  have A:Aside (TkV U B g n l s (max top x) V):=hT;clear t1 t2 t3 t10 hcA hT hUs;refine hrest _ _ ?_;have hany:(l.any fun y=>x==y)=decide (x∈l):=by
   rw[yp,List.any_eq_true,jb];exact⟨fun⟨y,hy,e⟩=>by rw[eq_of_beq e];exact hy,fun h=>⟨x,h,by simp⟩⟩
  rw[hany]at kcon;clear hany;by_cases hin:x∈l
  ·have hb1:decide (x∈l)=true:=jd hin;rw[hb1]at kcon;have Hin:Aside (x∈l):=hin;clear hb1 hin
   go_wp2_with (go_at_call 199;refine kcon.mono ?_;rintro e w' ⟨rfl,rfl⟩)
   (try simp only[Exit.inBlock,Exit.then])
   refine bodyPost_ret (v:=.tuple #[.agg #[.string s,.int .i64 (max top x),.slice (some ⟨g,0,none⟩) n n],.bool false]) ?_ rfl ⟨g,l,?_,?_,?_,.inl ⟨?_,rfl,.inl Hin.out⟩⟩
   ·rw[results_cell_tmp rfl]
    go_simp
   ·obtain⟨t1,t2,t3,t4,t5,t6,t7,t8,t9,t10⟩:=A.out;intro j v hj;have hU2:U.heap.size=w.heap.size+2:=by rw[hU];simp
    have hne:g≠w.heap.size+1:=by omega
    refine(World.cell?_of_block ?_).trans (t10 j v hj);exact(Below.heap_setCell _ _ _ _ hne).trans ((Below.heap_setCell _ _ _ _ hne).trans (Below.heap_setCell _ _ _ _ hne))
   ·obtain⟨t1,t2,t3,t4,t5,t6,t7,t8,t9,t10⟩:=A.out;have:U.heap.size=w.heap.size+2:=by rw[hU];simp
    omega
   ·exact((hBw.out.setCell (by simp) _).setCell (by simp) _).setCell (by simp) _
   ·rw[hl]
  ·have hb1:decide (x∈l)=false:=ji hin;rw[hb1]at kcon;have Hin:Aside (x∉l):=hin;clear hb1 hin;by_cases h8:x<=top-8
   ·go_wp2_with (go_at_call 199;refine kcon.mono ?_;rintro e w' ⟨rfl,rfl⟩)
    (try simp only[Exit.inBlock,Exit.then])
    refine bodyPost_ret (v:=.tuple #[.agg #[.string s,.int .i64 (max top x),.slice (some ⟨g,0,none⟩) n n],.bool false]) ?_ rfl ⟨g,l,?_,?_,?_,.inl ⟨?_,rfl,.inr h8⟩⟩
    ·rw[results_cell_tmp rfl]
     go_simp
    ·obtain⟨t1,t2,t3,t4,t5,t6,t7,t8,t9,t10⟩:=A.out;intro j v hj;have hU2:U.heap.size=w.heap.size+2:=by rw[hU];simp
     have hne:g≠w.heap.size+1:=by omega
     refine(World.cell?_of_block ?_).trans (t10 j v hj);exact(Below.heap_setCell _ _ _ _ hne).trans ((Below.heap_setCell _ _ _ _ hne).trans (Below.heap_setCell _ _ _ _ hne))
    ·obtain⟨t1,t2,t3,t4,t5,t6,t7,t8,t9,t10⟩:=A.out;have:U.heap.size=w.heap.size+2:=by rw[hU];simp
     omega
    ·exact((hBw.out.setCell (by simp) _).setCell (by simp) _).setCell (by simp) _
    ·rw[hl]
   ·go_wp2_with (go_at_call 199;refine kcon.mono ?_;rintro e w' ⟨rfl,rfl⟩)
    have R:Aside (x∉l/\¬x<=top-8):=⟨Hin.out,by omega⟩
    clear h8 Hin kcon
    go_loopg [7] n (fun k s7 wr=>∃i:Nat,s7=.int .i64 i/\i<=n/\n-i<=k/\wr=w'/\Aside (∀j,j<i->x<l[j]!))
    case atStart=>exact⟨0,rfl,by omega,by omega,rfl,fun j hj=>absurd hj (Nat.not_lt_zero _)⟩
    case round=>
     obtain⟨i,rfl,hi,hgk,rfl,hA⟩:=hrel;obtain⟨t1,t2,t3,t4,t5,t6,t7,t8,t9,t10⟩:=id A.out;by_cases hlt:i<n
     ·have hltz:(i:Int)< (n:Int):=by omega
      have c1:wr.cell? ⟨g,i,none⟩=some (.int .i64 l[i]!):=by
       have:=t10 i (vI l[i]!) (by rw[jo,jj (by omega),getElem!_pos l i (by omega)];rfl)
       rwa [qx]at this
      clear t1 t2 t3 t4 t10;generalize hu:l[i]! =u at c1;by_cases hgt:x<u
      ·have HA2:Aside (∀j,j<i+1->x<l[j]!):=fun j hj=>by
        rcases yo j i with h|h
        ·exact hA.out j h
        ·rw[show j=i by omega,hu];exact hgt
       clear hu hA
       go_wp2
       go_roundg (n-(i+1))
       case measure=>omega
       case rel=>exact⟨i+1,by go_num,by omega,by omega,rfl,HA2⟩
      ·have HE:i<l.length->¬x<l[i]!:=fun _=>by rw[hu];exact hgt
       clear hu;clear t5 t6 t7 t8 t9;have hA2:jB l x=l.take i++x::l.drop i:=X4 l x i (by omega) hA.out HE
       obtain⟨t1,t2,t3,t4,t5,t6,t7,t8,t9,t10⟩:=id A.out;have hU2:U.heap.size=w.heap.size+2:=by rw[hU];simp
       have kins:=U0 (R:=w.heap.size+1) (x:=x) A.out (by omega) FA.out hl hi hn hb hA2
       have hil:(jB l x).length=n+1:=by rw[hA2];simp;omega
       obtain⟨r,hr⟩:∃r,(jB l x).filter (fun k=>!decide (k<=max top x-8))=r:=⟨_,rfl⟩
       have hr0:0<r.length:=by
        rcases keep_len (l:=l) (top:=top) (x:=x)with h|h
        ·rw[hr]at h;exact h
        ·have:=R.out.2;omega
       have hr1:r.length<=n+1:=by
        rw[<-hr,<-hil];exact wq _ _
       have kdel:=U1 (U:=U) (V:=wr) (B:=B) (R:=w.heap.size+1) (g:=g) (s:=s) (M:=max top x) (x:=x) t1.size t2 t5 (by omega) (by omega) (by omega) hil hb hr
       have kcl:=L6 (U:=U) (V:=wr) (B:=B) (R:=w.heap.size+1) (n:=n) (r:=r) (s:=s) (M:=max top x) t1.size t5 (by omega) hr0 (by omega)
       have Z1:Aside ((jB l x).filter (fun k=>!decide (k<=max top x-8))=r/\U.heap.size<=B/\U.heap.size=w.heap.size+2):=⟨hr,t2,hU2⟩
       have hne1:¬(B=w.heap.size+1):=by omega
       have hne2:¬(w.heap.size+1=B):=by omega
       clear hA2 t1 t2 t3 t4 t5 t10 hU2 hil hr0 hr1 hr hA HE
       go_wp2_with (first
        |(go_at_call 244;refine kins.mono ?_;rintro e W ⟨cap,rfl,hA3,b0,b1,b2,b3,r0,r1,r2,r3⟩)
        |(go_at_call 245;refine(kdel _ _ hA3 ⟨b0,b1,b2,b3,r0,r1,r2,r3⟩).mono ?_;clear hA3 b0 b1 b2 b3 r0 r1 r2 r3;rintro e w3 ⟨rfl,hA3,b0,b1,b2,b3,r0,r1,r2,r3⟩)
        |(go_at_call 108;refine(kcl _ _ hA3 ⟨b0,b1,b2,b3,r0,r1,r2,r3⟩).mono ?_;clear hA3 b0 b1 b2 b3 r0 r1 r2 r3;rintro e w4 ⟨g2,rfl,hA3,b0,b1,b2,b3,r0,r1,r2,r3⟩))
       obtain⟨hZ1,hZ2,hZ3⟩:=Z1.out;obtain⟨hB4,hg1,hg2,hg3,hc4⟩:=hA3.out
       (try simp only[Exit.inBlock,Exit.then])
       refine bodyPost_ret (v:=.tuple #[.agg #[.string s,.int .i64 (max top x),.slice (some ⟨g2,0,none⟩) r.length r.length],.bool true]) ?_ rfl ⟨g2,r,?_,?_,?_,.inr ⟨rfl,hZ1.symm,?_⟩⟩
       ·rw[results_cell_tmp rfl]
        go_simp
       ·intro j v hj;refine(World.cell?_of_block ?_).trans (hc4 j v hj);exact(Below.heap_setCell _ _ _ _ hg3).trans ((Below.heap_setCell _ _ _ _ hg3).trans ((Below.heap_setCell _ _ _ _ hg3).trans (Below.heap_setCell _ _ _ _ hg2)))
       ·omega
       ·have hw:Below w.heap.size w U:=by
         rw[hU];exact((Below.refl w.heap.size w).alloc (kg _) _).alloc (by simp) _
        exact((((Below.trans hw (hB4.mono (by omega))).setCell (by show w.heap.size<=B;omega) _).setCell (by simp) _).setCell (by simp) _).setCell (by simp) _
       ·rintro(h|h)
        ·exact R.out.1 h
        ·have:=R.out.2;omega
     ·have HE:i<l.length->¬x<l[i]!:=fun h=>absurd h (by omega)
      have hltz:¬((i:Int)< (n:Int)):=by omega
      clear t1 t2 t3 t4 t5 t6 t7 t8 t9 t10;have hA2:jB l x=l.take i++x::l.drop i:=X4 l x i (by omega) hA.out HE
      obtain⟨t1,t2,t3,t4,t5,t6,t7,t8,t9,t10⟩:=id A.out;have hU2:U.heap.size=w.heap.size+2:=by rw[hU];simp
      have kins:=U0 (R:=w.heap.size+1) (x:=x) A.out (by omega) FA.out hl hi hn hb hA2
      have hil:(jB l x).length=n+1:=by rw[hA2];simp;omega
      obtain⟨r,hr⟩:∃r,(jB l x).filter (fun k=>!decide (k<=max top x-8))=r:=⟨_,rfl⟩
      have hr0:0<r.length:=by
       rcases keep_len (l:=l) (top:=top) (x:=x)with h|h
       ·rw[hr]at h;exact h
       ·have:=R.out.2;omega
      have hr1:r.length<=n+1:=by
       rw[<-hr,<-hil];exact wq _ _
      have kdel:=U1 (U:=U) (V:=wr) (B:=B) (R:=w.heap.size+1) (g:=g) (s:=s) (M:=max top x) (x:=x) t1.size t2 t5 (by omega) (by omega) (by omega) hil hb hr
      have kcl:=L6 (U:=U) (V:=wr) (B:=B) (R:=w.heap.size+1) (n:=n) (r:=r) (s:=s) (M:=max top x) t1.size t5 (by omega) hr0 (by omega)
      have Z1:Aside ((jB l x).filter (fun k=>!decide (k<=max top x-8))=r/\U.heap.size<=B/\U.heap.size=w.heap.size+2):=⟨hr,t2,hU2⟩
      have hne1:¬(B=w.heap.size+1):=by omega
      have hne2:¬(w.heap.size+1=B):=by omega
      clear hA2 t1 t2 t3 t4 t5 t10 hU2 hil hr0 hr1 hr hA HE
      go_wp2_with (first
       |(go_at_call 244;refine kins.mono ?_;rintro e W ⟨cap,rfl,hA3,b0,b1,b2,b3,r0,r1,r2,r3⟩)
       |(go_at_call 245;refine(kdel _ _ hA3 ⟨b0,b1,b2,b3,r0,r1,r2,r3⟩).mono ?_;clear hA3 b0 b1 b2 b3 r0 r1 r2 r3;rintro e w3 ⟨rfl,hA3,b0,b1,b2,b3,r0,r1,r2,r3⟩)
       |(go_at_call 108;refine(kcl _ _ hA3 ⟨b0,b1,b2,b3,r0,r1,r2,r3⟩).mono ?_;clear hA3 b0 b1 b2 b3 r0 r1 r2 r3;rintro e w4 ⟨g2,rfl,hA3,b0,b1,b2,b3,r0,r1,r2,r3⟩))
      obtain⟨hZ1,hZ2,hZ3⟩:=Z1.out;obtain⟨hB4,hg1,hg2,hg3,hc4⟩:=hA3.out
      (try simp only[Exit.inBlock,Exit.then])
      refine bodyPost_ret (v:=.tuple #[.agg #[.string s,.int .i64 (max top x),.slice (some ⟨g2,0,none⟩) r.length r.length],.bool true]) ?_ rfl ⟨g2,r,?_,?_,?_,.inr ⟨rfl,hZ1.symm,?_⟩⟩
      ·rw[results_cell_tmp rfl]
       go_simp
      ·intro j v hj;refine(World.cell?_of_block ?_).trans (hc4 j v hj);exact(Below.heap_setCell _ _ _ _ hg3).trans ((Below.heap_setCell _ _ _ _ hg3).trans ((Below.heap_setCell _ _ _ _ hg3).trans (Below.heap_setCell _ _ _ _ hg2)))
      ·omega
      ·have hw:Below w.heap.size w U:=by
        rw[hU];exact((Below.refl w.heap.size w).alloc (kg _) _).alloc (by simp) _
       exact((((Below.trans hw (hB4.mono (by omega))).setCell (by show w.heap.size<=B;omega) _).setCell (by simp) _).setCell (by simp) _).setCell (by simp) _
      ·rintro(h|h)
       ·exact R.out.1 h
       ·have:=R.out.2;omega
 have hUs:U.heap.size=w.heap.size+2:=by rw[hU];simp
 have kc:Aside (∀V:World,Below U.heap.size U V->Calls Tryz.prog 108 #[.slice (some ⟨b,off,none⟩) n c] V fun e w'=>∃g cur,e=.returned (.slice (some ⟨g,0,none⟩) n n)/\V.heap.size<=g/\w'.heap[g]?=some (.cells cur 3 (0,0))/\n*1<=cur.size/\cur.toList.take (n*1)=l.map vI/\Below V.heap.size V w'):=fun V hV=>FX b off n c l V hl hn (by omega) fun j v hj=>by
  have h:=hcA.out j v hj;have hbw:b<w.heap.size:=block_lt_of_cell h;have hu:U.cell? ⟨b,off+j,none⟩=some v:=by
   rw[hU];exact((((Below.refl w.heap.size w).alloc (kg _) _).alloc (by simp) _).cell (p:=⟨b,off+j,none⟩) hbw).trans h
  exact(hV.cell (p:=⟨b,off+j,none⟩) (by show b<_;omega)).trans hu
 have hUa:Aside (U=(w.alloc (.cells #[.string s,.int .i64 top,.slice (some ⟨b,off,none⟩) n c] 124)).alloc (.cells #[.string {data:= #[]},.int .i64 0,.slice none 0 0] 124)):=hU;have restA:Aside _:=rest;have hUz:Aside (U.heap.size=w.heap.size+2):=hUs;clear hU hcA hrest rest hUs
 go_region_held3 (fun w'=>w'.cell? ⟨w.heap.size,0,none⟩=some (.string s)/\w'.cell? ⟨w.heap.size,1,none⟩=some (.int .i64 top)/\w'.cell? ⟨w.heap.size,2,none⟩=some (.slice (some ⟨b,off,none⟩) n c)/\Aside (Below U.heap.size U w'))
  (first|assumption|exact aa6 (by have:=hUz.out;omega) (by assumption) hB|exact UZ (by have:=hUz.out;omega) _ (by assumption)|exact adM (by have:=hUz.out;omega) _ (by assumption)|exact ahW _ (by have:=hUz.out;omega) (by have:=hB.size;have:=hUz.out;simp at*;omega) (by assumption)|exact X3 _ (by have:=hUz.out;omega) (by have:=hUz.out;first|omega|(simp;omega)) (X3 _ (by have:=hUz.out;omega) (by have:=hUz.out;first|omega|(simp;omega)) (X3 _ (by have:=hUz.out;omega) (by have:=hUz.out;first|omega|(simp;omega)) (by assumption)))|exact⟨by simp,by simp,by simp,by rw[<-hUa.out];exact Below.drew (Below.refl _ _)⟩)
  (first|(go_at_call 108;refine(kc.out _ ?_).mono ?_;(exact(by first|exact Aside.out (And.right (And.right (And.right (by assumption))))));rintro e w' ⟨g,cur,rfl,hg,hh,hsz,htk,hB⟩;have o0:=X5 (H:=w.heap.size) hB 0;have o1:=X5 (H:=w.heap.size) hB 1;have o2:=X5 (H:=w.heap.size) hB 2;simp at o0 o1 o2))
 all_goals (show K _ _)
 all_goals first
  |exact restA.out _ _ _ (tkA (by rw[<-hUa.out];exact Below.drew (Below.refl _ _)) hB (by simpa using hg) hh htk)
  |exact restA.out _ _ _ (tkB (by rw[<-hUa.out];first|exact(Below.drew (Below.refl _ _)).alloc (kg _) _|exact Below.drew ((Below.refl _ _).alloc (kg _) _)) hB (by simpa using hg) hh htk (by have:=hUz.out;omega) (by simp) (by first|exact aa7 (by simp)|exact ahX (by simp)) rfl)
end Kw
