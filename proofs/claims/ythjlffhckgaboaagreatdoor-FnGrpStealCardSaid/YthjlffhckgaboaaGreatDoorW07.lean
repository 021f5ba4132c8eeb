import Derived.Test.YthjlffhckgaboaaGreatDoorW06
set_option linter.unusedVariables false
set_option linter.unusedSimpArgs false
set_option linter.unusedSectionVars false
namespace Kw
open Go
section
variable {R α:Type}
@[congr] theorem awW {o o':Option α} (h:o=o') (f:α->Option R):bnd o f=bnd o' f:=by rw[h]
@[congr] theorem axF {b b':Bool} (h:b=b') (x y:Option R):br b x y=br b' x y:=by rw[h]
theorem bE(b:Bool)(x y:Option R):br b x y=if b=true then x else y:=by cases b<;>rfl
end
section
variable {A:Type} [Inhabited A]
theorem jV(f:A->Row){sz:Nat}(hf:∀x,(f x).length=sz)(l:List A)(i:Int)(h0:0<=i)(h1:i<l.length):kF sz (l.map f) i=some (f (ix l i)):=by
 have h:i.toNat<l.length:=by omega
 unfold kF;rw[je h0,jo,jj h];simp[hf,ix,h]
theorem kZ(f:A->Row)(l:List A)(i:Int)(h0:0<=i)(h1:i<l.length):iP (l.map f) i=some (f (ix l i)):=by
 have h:i.toNat<l.length:=by omega
 unfold iP;rw[je h0,jo,jj h];simp[ix,h]
end
theorem iH{A:Type}(f:A->Row)(l:List A)(i:Int)(x:A):setR (l.map f) i (f x)=(l.set i.toNat x).map f:=by unfold setR;rw[List.map_set]
theorem TC{A:Type}(f:A->Row)(l:List A)(a b:Int):CM (l.map f) a b=((l.take b.toNat).drop a.toNat).map f:=by unfold CM;rw[List.map_drop,List.map_take]
def rS(s:S):Row:=[.str (bs s)]
def rI(n:Int):Row:=[.int .i64 n]
def rU(b:UInt8):Row:=[.int .u8 b.toNat]
def rO(o:Own):Row:=[.int .i64 o.node,.str (bs o.sec)]
def rB(b:Box):Row:=[.str (bs b.key),.str (bs b.sec)]
def rM(m:Member):Row:=[.bool m.inn,.int .i64 m.who,.sl (m.keys.map rS),.sl (m.own.map rO),.int .i64 m.epoch,.str (bs m.init),.str (bs m.tag)]
def rC(c:Commit):Row:=[.int .i64 c.sender,.str (bs c.tag),.str (bs c.name),.int .i64 c.add,.int .i64 c.remove,.str (bs c.leaf),.sl (c.keys.map rS),.sl (c.boxes.map rB),.str (bs c.wkey),.str (bs c.wik),.str (bs c.wis),.str (bs c.wsk),.str (bs c.wss)]
def rF(f:Frame):Row:=[.int .i64 f.src,.str (bs f.key),.int .i64 f.n,.str (bs f.text)]
def rW(w:Win):Row:=[.str (bs w.key),.int .i64 w.top,.sl (w.seen.map rI)]
def rWs(l:List Win):Row:=[.sl (l.map rW)]
def rWt(x:Wait):Row:=[.int .i64 x.who,.int .i64 x.pos,.str (bs x.leaf),.str (bs x.key)]
def rSt(x:Steal):Row:=[.int .i64 x.who,.str (bs x.tag)]
def rT(x:Told):Row:=[.int .i64 x.who,.int .i64 x.pos]
def rE(e:Event):Row:=[.int .i64 e.kind,.int .i64 e.who,.int .i64 e.add,.int .i64 e.remove,.int .i64 e.pos,.str (bs e.text)]
section
variable (i:Int)
theorem aW(l:List S)(h0:0<=i)(h1:i<l.length):kF 1 (l.map rS) i=some (rS (ix l i)):=jV rS (fun _=>rfl) l i h0 h1
theorem aY(l:List Int)(h0:0<=i)(h1:i<l.length):kF 1 (l.map rI) i=some (rI (ix l i)):=jV rI (fun _=>rfl) l i h0 h1
theorem QT(l:List UInt8)(h0:0<=i)(h1:i<l.length):kF 1 (l.map rU) i=some (rU (ix l i)):=jV rU (fun _=>rfl) l i h0 h1
theorem dY(l:List Own)(h0:0<=i)(h1:i<l.length):kF 2 (l.map rO) i=some (rO (ix l i)):=jV rO (fun _=>rfl) l i h0 h1
theorem rH(l:List Box)(h0:0<=i)(h1:i<l.length):kF 2 (l.map rB) i=some (rB (ix l i)):=jV rB (fun _=>rfl) l i h0 h1
theorem bM(l:List Member)(h0:0<=i)(h1:i<l.length):kF 7 (l.map rM) i=some (rM (ix l i)):=jV rM (fun _=>rfl) l i h0 h1
theorem mN(l:List Commit)(h0:0<=i)(h1:i<l.length):kF 13 (l.map rC) i=some (rC (ix l i)):=jV rC (fun _=>rfl) l i h0 h1
theorem CT(l:List Frame)(h0:0<=i)(h1:i<l.length):kF 4 (l.map rF) i=some (rF (ix l i)):=jV rF (fun _=>rfl) l i h0 h1
theorem rJ(l:List Win)(h0:0<=i)(h1:i<l.length):kF 3 (l.map rW) i=some (rW (ix l i)):=jV rW (fun _=>rfl) l i h0 h1
theorem eH(l:List (List Win))(h0:0<=i)(h1:i<l.length):kF 1 (l.map rWs) i=some (rWs (ix l i)):=jV rWs (fun _=>rfl) l i h0 h1
theorem lH(l:List Wait)(h0:0<=i)(h1:i<l.length):kF 4 (l.map rWt) i=some (rWt (ix l i)):=jV rWt (fun _=>rfl) l i h0 h1
theorem ZE(l:List Steal)(h0:0<=i)(h1:i<l.length):kF 2 (l.map rSt) i=some (rSt (ix l i)):=jV rSt (fun _=>rfl) l i h0 h1
theorem afC(l:List Told)(h0:0<=i)(h1:i<l.length):kF 2 (l.map rT) i=some (rT (ix l i)):=jV rT (fun _=>rfl) l i h0 h1
theorem afD(l:List Event)(h0:0<=i)(h1:i<l.length):kF 6 (l.map rE) i=some (rE (ix l i)):=jV rE (fun _=>rfl) l i h0 h1
end
section
theorem iI(l:List S):okR 1 (l.map rS)=true:=jU rS 1 (fun _=>rfl) l
theorem lA(l:List Int):okR 1 (l.map rI)=true:=jU rI 1 (fun _=>rfl) l
theorem axG(l:List UInt8):okR 1 (l.map rU)=true:=jU rU 1 (fun _=>rfl) l
theorem oQ(l:List Own):okR 2 (l.map rO)=true:=jU rO 2 (fun _=>rfl) l
theorem HD(l:List Box):okR 2 (l.map rB)=true:=jU rB 2 (fun _=>rfl) l
theorem ZF(l:List Member):okR 7 (l.map rM)=true:=jU rM 7 (fun _=>rfl) l
theorem OY(l:List Commit):okR 13 (l.map rC)=true:=jU rC 13 (fun _=>rfl) l
theorem nE(l:List Frame):okR 4 (l.map rF)=true:=jU rF 4 (fun _=>rfl) l
theorem KD(l:List Win):okR 3 (l.map rW)=true:=jU rW 3 (fun _=>rfl) l
theorem QU(l:List (List Win)):okR 1 (l.map rWs)=true:=jU rWs 1 (fun _=>rfl) l
theorem GD(l:List Wait):okR 4 (l.map rWt)=true:=jU rWt 4 (fun _=>rfl) l
theorem CU(l:List Steal):okR 2 (l.map rSt)=true:=jU rSt 2 (fun _=>rfl) l
theorem nF(l:List Told):okR 2 (l.map rT)=true:=jU rT 2 (fun _=>rfl) l
theorem apF(l:List Event):okR 6 (l.map rE)=true:=jU rE 6 (fun _=>rfl) l
theorem aZ(sz:Nat)(r:Row)(l:List Row):okR sz (r::l)=(r.length==sz&&okR sz l):=(rfl)
theorem aR(sz:Nat):okR sz []=true:=(rfl)
theorem aJ(r:Row)(l:List Row):nrows (r::l)=nrows l+1:=by simp[nrows]
end
theorem aG(a:Nat)(h:a<9223372036854775807):bR .i64 (a:Int) 1=((a+1:Nat):Int):=by rw[ak8]<;>omega
end Kw
namespace Kw
open Go
theorem kI(b:Bool):bNot (bNot b)=b:=by cases b<;>rfl
theorem cZ{R:Type}(b:Bool)(x y:Option R):br (bNot b) x y=br b y x:=by cases b<;>rfl
theorem aq8(x:Int):(rI x).length=1:=(rfl)
theorem aA(a:Int):decide (a=a)=true:=jd rfl
theorem cD(a:S):decide (a=a)=true:=jd rfl
theorem iEq_self(a:Int):iEq a a=true:=by simp
theorem gTupN_if(n:Nat)(l:List MV):OK n (.tup l)=if l.length=n then some l else none:=(rfl)
theorem gAggN_if(n:Nat)(l:List MV):G8 n (.agg l)=if l.length=n then some l else none:=(rfl)
theorem bK(n:Nat)(l:List MV):qI n (.cells l)=if l.length=n then some l else none:=(rfl)
theorem aE(n m:Int)(k:Nat)(h:(n+m)*k<=70368744177664):eL n m k=true:=by rw[afB];exact jd h
theorem bA{a b:Int}(h1: -9223372036854775808<=a+b)(h2:a+b<=9223372036854775807):bR .i64 a b=a+b:=wrap_i64 h1 h2
theorem d9{a b:Int}(h1: -9223372036854775808<=a-b)(h2:a-b<=9223372036854775807):iS .i64 a b=a-b:=wrap_i64 h1 h2
theorem KE{a b:Int}(h1: -9223372036854775808<=a*b)(h2:a*b<=9223372036854775807):nW .i64 a b=a*b:=wrap_i64 h1 h2
theorem cS{a:Int}(h1: -9223372036854775808<=a)(h2:a<=9223372036854775807):nX .i64 a=a:=wrap_i64 h1 h2
theorem QV{a:Int}(h1:0<=a)(h2:a<=255):nX .u8 a=a:=ZD h1 h2
theorem CV{a b:Int}(h1:0<=a-b)(h2:a-b<=255):iS .u8 a b=a-b:=ZD h1 h2
theorem n8{a b:Int}(h:0<=a):rN a b=a%b:=Int.tmod_eq_emod_of_nonneg h
theorem mO{a b:Int}(h:0<=a)(hb:0<b)(hh:a<=9223372036854775807):F6 .i64 a b=a/b:=by
 unfold F6;rw[Int.tdiv_eq_ediv_of_nonneg h];have h1:0<=a/b:=Int.ediv_nonneg h (Int.le_of_lt hb);have h2:a/b<=a:=Int.ediv_le_self b h;rw[wrap_i64]<;>omega
theorem eD(l:S)(i:Int)(h0:0<=i)(h1:i<l.length):sAt (bs l) i=some ((ix l i).toNat:Int):=by
 rw[aq7 l i h0];have h:i.toNat<l.length:=by omega
 rw[jj h];simp[ix,h]
theorem jW(l:S)(a b:Int):nA (bs l) a b=bs ((l.take b.toNat).drop a.toNat):=ak7 l a b
theorem toNat_lt(b:UInt8):(b.toNat:Int)<=255:=by have:=b.toNat_lt;omega
end Kw
namespace Kw
open Go
theorem dX(x:S):aC (rS x) 0=.str (bs x):=(rfl)
theorem pJ(o:S)(x:S):setRow (rS o) 0 [.str (bs x)]=rS x:=(rfl)
theorem pK(x:S):eT (rS x)=1:=(rfl)
theorem af6(l:List (S))(x:S):cB (l.map rS) [[.str (bs x)]]=(l++[x]).map rS:=cJ rS l x
theorem kH(l:List (S))(i:Int)(h0:0<=i)(h1:i<l.length):iP (l.map rS) i=some (rS (ix l i)):=kZ rS l i h0 h1
theorem KB(l:List (S))(i:Int)(x:S):setR (l.map rS) i (rS x)=(l.set i.toNat x).map rS:=iH rS l i x
theorem d8(x:Int):aC (rI x) 0=.int .i64 x:=(rfl)
theorem dD(o:Int)(x:Int):setRow (rI o) 0 [.int .i64 x]=rI x:=(rfl)
theorem dE(x:Int):eT (rI x)=1:=(rfl)
theorem QP(l:List (Int))(x:Int):cB (l.map rI) [[.int .i64 x]]=(l++[x]).map rI:=cJ rI l x
theorem OX(x:Int):[[.int .i64 x]]=[x].map rI:=(rfl)
theorem bJ(l:List (Int))(i:Int)(h0:0<=i)(h1:i<l.length):iP (l.map rI) i=some (rI (ix l i)):=kZ rI l i h0 h1
theorem kX(l:List (Int))(i:Int)(x:Int):setR (l.map rI) i (rI x)=(l.set i.toNat x).map rI:=iH rI l i x
theorem ax2(x:UInt8):aC (rU x) 0=.int .u8 (UInt8.toNat x:Nat):=(rfl)
theorem ax3(l:List (UInt8))(a b:Int):CM (l.map rU) a b=((l.take b.toNat).drop a.toNat).map rU:=TC rU l a b
theorem M1(x:Own):aC (rO x) 0=.int .i64 x.node:=(rfl)
theorem B3(x:Own):aC (rO x) 1=.str (bs x.sec):=(rfl)
theorem WO(l:List (Own))(a0:Int)(a1:S):cB (l.map rO) [[.int .i64 a0,.str (bs a1)]]=(l++[(⟨a0,a1⟩:Own)]).map rO:=cJ rO l (⟨a0,a1⟩:Own)
theorem af7(a0:Int)(a1:S):[[.int .i64 a0,.str (bs a1)]]=[(⟨a0,a1⟩:Own)].map rO:=(rfl)
theorem ak1(l:List (Own))(i:Int)(h0:0<=i)(h1:i<l.length):iP (l.map rO) i=some (rO (ix l i)):=kZ rO l i h0 h1
theorem ax4(l:List (Own))(i:Int)(x:Own):setR (l.map rO) i (rO x)=(l.set i.toNat x).map rO:=iH rO l i x
theorem ax5(l:List (Own))(a b:Int):CM (l.map rO) a b=((l.take b.toNat).drop a.toNat).map rO:=TC rO l a b
theorem ab7(x:Box):aC (rB x) 0=.str (bs x.key):=(rfl)
theorem ak2(x:Box):aC (rB x) 1=.str (bs x.sec):=(rfl)
theorem af8(l:List (Box))(a0:S)(a1:S):cB (l.map rB) [[.str (bs a0),.str (bs a1)]]=(l++[(⟨a0,a1⟩:Box)]).map rB:=cJ rB l (⟨a0,a1⟩:Box)
theorem jA(x:Member):aC (rM x) 0=.bool x.inn:=(rfl)
theorem kO(x:Member):aC (rM x) 1=.int .i64 x.who:=(rfl)
theorem kP(x:Member):aC (rM x) 2=.sl (x.keys.map rS):=(rfl)
theorem kQ(x:Member):aC (rM x) 3=.sl (x.own.map rO):=(rfl)
theorem kR(x:Member):aC (rM x) 4=.int .i64 x.epoch:=(rfl)
theorem kS(x:Member):aC (rM x) 5=.str (bs x.init):=(rfl)
theorem kT(x:Member):aC (rM x) 6=.str (bs x.tag):=(rfl)
theorem jM(o:Member)(a0:Bool)(a1:Int)(a2:List S)(a3:List Own)(a4:Int)(a5:S)(a6:S):setRow (rM o) 0 [.bool a0,.int .i64 a1,.sl (a2.map rS),.sl (a3.map rO),.int .i64 a4,.str (bs a5),.str (bs a6)]=rM (⟨a0,a1,a2,a3,a4,a5,a6⟩:Member):=(rfl)
theorem bZ(x:Member):eT (rM x)=7:=(rfl)
theorem af9(l:List (Member))(a0:Bool)(a1:Int)(a2:List S)(a3:List Own)(a4:Int)(a5:S)(a6:S):cB (l.map rM) [[.bool a0,.int .i64 a1,.sl (a2.map rS),.sl (a3.map rO),.int .i64 a4,.str (bs a5),.str (bs a6)]]=(l++[(⟨a0,a1,a2,a3,a4,a5,a6⟩:Member)]).map rM:=cJ rM l (⟨a0,a1,a2,a3,a4,a5,a6⟩:Member)
theorem bG(l:List (Member))(i:Int)(h0:0<=i)(h1:i<l.length):iP (l.map rM) i=some (rM (ix l i)):=kZ rM l i h0 h1
theorem sB(l:List (Member))(i:Int)(x:Member):setR (l.map rM) i (rM x)=(l.set i.toNat x).map rM:=iH rM l i x
theorem ID(x:Commit):aC (rC x) 0=.int .i64 x.sender:=(rfl)
theorem IE(x:Commit):aC (rC x) 1=.str (bs x.tag):=(rfl)
theorem IG(x:Commit):aC (rC x) 2=.str (bs x.name):=(rfl)
theorem IH(x:Commit):aC (rC x) 3=.int .i64 x.add:=(rfl)
theorem II(x:Commit):aC (rC x) 4=.int .i64 x.remove:=(rfl)
theorem IJ(x:Commit):aC (rC x) 5=.str (bs x.leaf):=(rfl)
theorem IK(x:Commit):aC (rC x) 6=.sl (x.keys.map rS):=(rfl)
theorem IL(x:Commit):aC (rC x) 7=.sl (x.boxes.map rB):=(rfl)
theorem IM(x:Commit):aC (rC x) 8=.str (bs x.wkey):=(rfl)
theorem IO(x:Commit):aC (rC x) 9=.str (bs x.wik):=(rfl)
theorem wT(x:Commit):aC (rC x) 10=.str (bs x.wis):=(rfl)
theorem wU(x:Commit):aC (rC x) 11=.str (bs x.wsk):=(rfl)
theorem wV(x:Commit):aC (rC x) 12=.str (bs x.wss):=(rfl)
theorem KC(l:List (Commit))(a0:Int)(a1:S)(a2:S)(a3:Int)(a4:Int)(a5:S)(a6:List S)(a7:List Box)(a8:S)(a9:S)(a10:S)(a11:S)(a12:S):cB (l.map rC) [[.int .i64 a0,.str (bs a1),.str (bs a2),.int .i64 a3,.int .i64 a4,.str (bs a5),.sl (a6.map rS),.sl (a7.map rB),.str (bs a8),.str (bs a9),.str (bs a10),.str (bs a11),.str (bs a12)]]=(l++[(⟨a0,a1,a2,a3,a4,a5,a6,a7,a8,a9,a10,a11,a12⟩:Commit)]).map rC:=cJ rC l (⟨a0,a1,a2,a3,a4,a5,a6,a7,a8,a9,a10,a11,a12⟩:Commit)
theorem nS(l:List (Commit))(i:Int)(h0:0<=i)(h1:i<l.length):iP (l.map rC) i=some (rC (ix l i)):=kZ rC l i h0 h1
theorem ab8(x:Frame):aC (rF x) 0=.int .i64 x.src:=(rfl)
theorem ab9(x:Frame):aC (rF x) 1=.str (bs x.key):=(rfl)
theorem abA(x:Frame):aC (rF x) 2=.int .i64 x.n:=(rfl)
theorem abB(x:Frame):aC (rF x) 3=.str (bs x.text):=(rfl)
theorem QQ(l:List (Frame))(a0:Int)(a1:S)(a2:Int)(a3:S):cB (l.map rF) [[.int .i64 a0,.str (bs a1),.int .i64 a2,.str (bs a3)]]=(l++[(⟨a0,a1,a2,a3⟩:Frame)]).map rF:=cJ rF l (⟨a0,a1,a2,a3⟩:Frame)
theorem DW(l:List (Frame))(i:Int)(h0:0<=i)(h1:i<l.length):iP (l.map rF) i=some (rF (ix l i)):=kZ rF l i h0 h1
theorem abC(x:Win):aC (rW x) 0=.str (bs x.key):=(rfl)
theorem ak3(x:Win):aC (rW x) 1=.int .i64 x.top:=(rfl)
theorem ak4(x:Win):aC (rW x) 2=.sl (x.seen.map rI):=(rfl)
theorem TA(o:Win)(a0:S)(a1:Int)(a2:List Int):setRow (rW o) 0 [.str (bs a0),.int .i64 a1,.sl (a2.map rI)]=rW (⟨a0,a1,a2⟩:Win):=(rfl)
theorem TB(x:Win):eT (rW x)=3:=(rfl)
theorem aq5(l:List (Win))(a0:S)(a1:Int)(a2:List Int):cB (l.map rW) [[.str (bs a0),.int .i64 a1,.sl (a2.map rI)]]=(l++[(⟨a0,a1,a2⟩:Win)]).map rW:=cJ rW l (⟨a0,a1,a2⟩:Win)
theorem IY(l:List (Win))(i:Int)(h0:0<=i)(h1:i<l.length):iP (l.map rW) i=some (rW (ix l i)):=kZ rW l i h0 h1
theorem apE(l:List (Win))(i:Int)(x:Win):setR (l.map rW) i (rW x)=(l.set i.toNat x).map rW:=iH rW l i x
theorem nD(x:List Win):aC (rWs x) 0=.sl (x.map rW):=(rfl)
theorem AX(o:List Win)(x:List Win):setRow (rWs o) 0 [.sl (x.map rW)]=rWs x:=(rfl)
theorem dW(x:List Win):eT (rWs x)=1:=(rfl)
theorem eC(l:List (List Win))(i:Int)(h0:0<=i)(h1:i<l.length):iP (l.map rWs) i=some (rWs (ix l i)):=kZ rWs l i h0 h1
theorem QR(l:List (List Win))(i:Int)(x:List Win):setR (l.map rWs) i (rWs x)=(l.set i.toNat x).map rWs:=iH rWs l i x
theorem yI(x:Wait):aC (rWt x) 0=.int .i64 x.who:=(rfl)
theorem yJ(x:Wait):aC (rWt x) 1=.int .i64 x.pos:=(rfl)
theorem yK(x:Wait):aC (rWt x) 2=.str (bs x.leaf):=(rfl)
theorem yL(x:Wait):aC (rWt x) 3=.str (bs x.key):=(rfl)
theorem QS(l:List (Wait))(a0:Int)(a1:Int)(a2:S)(a3:S):cB (l.map rWt) [[.int .i64 a0,.int .i64 a1,.str (bs a2),.str (bs a3)]]=(l++[(⟨a0,a1,a2,a3⟩:Wait)]).map rWt:=cJ rWt l (⟨a0,a1,a2,a3⟩:Wait)
theorem kY(l:List (Wait))(i:Int)(h0:0<=i)(h1:i<l.length):iP (l.map rWt) i=some (rWt (ix l i)):=kZ rWt l i h0 h1
theorem ax6(x:Steal):aC (rSt x) 0=.int .i64 x.who:=(rfl)
theorem ax7(x:Steal):aC (rSt x) 1=.str (bs x.tag):=(rfl)
theorem IZ(l:List (Steal))(a0:Int)(a1:S):cB (l.map rSt) [[.int .i64 a0,.str (bs a1)]]=(l++[(⟨a0,a1⟩:Steal)]).map rSt:=cJ rSt l (⟨a0,a1⟩:Steal)
theorem aA7(x:Told):aC (rT x) 0=.int .i64 x.who:=(rfl)
theorem aA8(x:Told):aC (rT x) 1=.int .i64 x.pos:=(rfl)
theorem kU(l:List (Told))(a0:Int)(a1:Int):cB (l.map rT) [[.int .i64 a0,.int .i64 a1]]=(l++[(⟨a0,a1⟩:Told)]).map rT:=cJ rT l (⟨a0,a1⟩:Told)
theorem ax8(x:Event):aC (rE x) 0=.int .i64 x.kind:=(rfl)
theorem ax9(x:Event):aC (rE x) 1=.int .i64 x.who:=(rfl)
theorem axA(x:Event):aC (rE x) 2=.int .i64 x.add:=(rfl)
theorem axB(x:Event):aC (rE x) 3=.int .i64 x.remove:=(rfl)
theorem axC(x:Event):aC (rE x) 4=.int .i64 x.pos:=(rfl)
theorem axD(x:Event):aC (rE x) 5=.str (bs x.text):=(rfl)
theorem aq6(l:List (Event))(a0:Int)(a1:Int)(a2:Int)(a3:Int)(a4:Int)(a5:S):cB (l.map rE) [[.int .i64 a0,.int .i64 a1,.int .i64 a2,.int .i64 a3,.int .i64 a4,.str (bs a5)]]=(l++[(⟨a0,a1,a2,a3,a4,a5⟩:Event)]).map rE:=cJ rE l (⟨a0,a1,a2,a3,a4,a5⟩:Event)
theorem axE(a0:Int)(a1:Int)(a2:Int)(a3:Int)(a4:Int)(a5:S):[[.int .i64 a0,.int .i64 a1,.int .i64 a2,.int .i64 a3,.int .i64 a4,.str (bs a5)]]=[(⟨a0,a1,a2,a3,a4,a5⟩:Event)].map rE:=(rfl)
theorem ak5(l:List (Event))(i:Int)(h0:0<=i)(h1:i<l.length):iP (l.map rE) i=some (rE (ix l i)):=kZ rE l i h0 h1
theorem eJ(r:List Row):cB [] r=r:=(rfl)
theorem K1:type_of% (And.intro @bnd_some' (And.intro @br_true' (And.intro @br_false' (And.intro @gBool_b (And.intro @iEq_dec (And.intro @nrows_map (And.intro @gInt_i (And.intro @jf.{0} (And.intro @decide_false (And.intro @Jp (And.intro @bNot_t (And.intro @gStr_s (And.intro @iLt_dec (And.intro @bNot_f (And.intro @ju.{1} (And.intro @jk.{0} (And.intro @cellAt_zero (And.intro @cellAt_succ (And.intro @iLe_dec (And.intro @gAggN_if (And.intro @gSl_r (And.intro @sEq_bs (And.intro @qr.{1} (And.intro @sLen_bs (And.intro @nrows_nil (And.intro @and_true (And.intro @qd (And.intro @jb (And.intro @gTupN_if (And.intro @gOwn_r (And.intro @iEq_self (@Jf)))))))))))))))))))))))))))))))):=And.intro @bnd_some' (And.intro @br_true' (And.intro @br_false' (And.intro @gBool_b (And.intro @iEq_dec (And.intro @nrows_map (And.intro @gInt_i (And.intro @jf.{0} (And.intro @decide_false (And.intro @Jp (And.intro @bNot_t (And.intro @gStr_s (And.intro @iLt_dec (And.intro @bNot_f (And.intro @ju.{1} (And.intro @jk.{0} (And.intro @cellAt_zero (And.intro @cellAt_succ (And.intro @iLe_dec (And.intro @gAggN_if (And.intro @gSl_r (And.intro @sEq_bs (And.intro @qr.{1} (And.intro @sLen_bs (And.intro @nrows_nil (And.intro @and_true (And.intro @qd (And.intro @jb (And.intro @gTupN_if (And.intro @gOwn_r (And.intro @iEq_self (@Jf)))))))))))))))))))))))))))))))
end Kw
namespace Kw
def hD(n:Nat):UInt8:=(48+n).toUInt8
def plain(n:Nat):S:=if h:9<n then plain (n/10)++[hD (n%10)]else[hD n]
def letter(w:Nat):UInt8:=(65+w).toUInt8
def C0(w:Int):S:=[letter w.toNat]
def aH(w:Int):Prop:=0<=w/\w<=7
instance(w:Int):Decidable (aH w):=inferInstanceAs (Decidable (_/\_))
def aO(w n:Int):S:=if aH w/\1<=n/\n<=99 then C0 w++plain n.toNat++[59]else[]
inductive Sec where
 |new (w n:Nat)
 |next (t:Sec)
 |key (t:Sec)
 |epoch (a b:Sec)
 |say (w:Nat) (t:Sec)
 |room (n:Nat) (t:Sec)
 deriving DecidableEq,Inhabited
def Sec.str:Sec->S
 | .new w n=>letter w::(plain n++[59])
 | .next t=>110::t.str
 | .key t=>107::t.str
 | .epoch a b=>101::(a.str++b.str)
 | .say w t=>109::letter w::t.str
 | .room n t=>114::hD n::t.str
def Sec.wf:Sec->Prop
 | .new w n=>w<=7/\1<=n/\n<=99
 | .next t=>t.wf
 | .key t=>t.wf
 | .epoch a b=>a.wf/\b.wf
 | .say w t=>w<=7/\t.wf
 | .room n t=>1<=n/\n<=9/\t.wf
def pFresh:S->Option (Sec×S)
 |c::d::t=>if(65<=c.toNat/\c.toNat<=72)/\49<=d.toNat/\d.toNat<=57 then(match t with
   |[]=>none
   |e::r=>if e=59 then some (.new (c.toNat-65) (d.toNat-48),r)else if 48<=e.toNat/\e.toNat<=57 then(match r with
     |[]=>none
     |f::r=>if f=59 then some (.new (c.toNat-65) ((d.toNat-48)*10+(e.toNat-48)),r)else none)
    else none)
   else none
 |_=>none
def eO:Nat->S->Option (Sec×S)
 |0,_=>none
 |_+1,[]=>none
 |n+1,c::t=>
  if c=110 then(match eO n t with|some (x,r)=>some (.next x,r)|none=>none)
  else if c=107 then(match eO n t with|some (x,r)=>some (.key x,r)|none=>none)
  else if c=109 then(match t with
   |[]=>none
   |w::t=>if 65<=w.toNat/\w.toNat<=72 then(match eO n t with|some (x,r)=>some (.say (w.toNat-65) x,r)|none=>none)else none)
  else if c=114 then(match t with
   |[]=>none
   |w::t=>if 49<=w.toNat/\w.toNat<=57 then(match eO n t with|some (x,r)=>some (.room (w.toNat-48) x,r)|none=>none)else none)
  else if c=101 then(match eO n t with
   |some (x,r)=>(match eO n r with|some (y,r)=>some (.epoch x y,r)|none=>none)
   |none=>none)
  else pFresh (c::t)
theorem jG{w:Nat}(h:w<=7):(letter w).toNat=65+w:=by
 unfold letter;rw[UInt8.toNat_ofNat'];omega
theorem eR{n:Nat}(h:n<=9):(hD n).toNat=48+n:=by
 unfold hD;rw[UInt8.toNat_ofNat'];omega
theorem BB{c:UInt8}(h1:65<=c.toNat)(h2:c.toNat<=72):letter (c.toNat-65)=c:=by
 apply UInt8.toNat_inj.1;rw[jG (by omega)];omega
theorem pM{c:UInt8}(h1:48<=c.toNat)(h2:c.toNat<=57):hD (c.toNat-48)=c:=by
 apply UInt8.toNat_inj.1;rw[eR (by omega)];omega
theorem nI{n:Nat}(h:n<=9):plain n=[hD n]:=by rw[plain,dif_neg (by omega)]
theorem yT{n:Nat}(h:9<n)(h':n<=99):plain n=[hD (n/10),hD (n%10)]:=by
 rw[plain,dif_pos h,nI (by omega)];rfl
theorem EC{s:S}{t:Sec}{r:S}(h:pFresh s=some (t,r)):t.wf/\s=t.str++r:=by
 unfold pFresh at h;split at h
 ·rename_i c d u;split at h
  ·rename_i hc;split at h
   ·cases h
   ·rename_i e r';split at h
    ·rename_i he;cases h;refine⟨⟨by omega,by omega,by omega⟩,?_⟩
     show _=letter _::(plain _++[59])++_;rw[nI (by omega),BB (by omega) (by omega),pM (by omega) (by omega),he];rfl
    ·split at h
     ·rename_i he;split at h
      ·cases h
      ·rename_i f r'';split at h
       ·rename_i hf;cases h;refine⟨⟨by omega,by omega,by omega⟩,?_⟩
        show _=letter _::(plain _++[59])++_;have e1:((d.toNat-48)*10+(e.toNat-48))/10=d.toNat-48:=by omega
        have e2:((d.toNat-48)*10+(e.toNat-48))%10=e.toNat-48:=by omega
        rw[yT (by omega) (by omega),e1,e2,BB (by omega) (by omega),pM (by omega) (by omega),pM (by omega) (by omega),hf];rfl
       ·cases h
     ·cases h
  ·cases h
 ·cases h
theorem iK:∀{n:Nat} {s:S} {t:Sec} {r:S},eO n s=some (t,r)->t.wf/\s=t.str++r
 |0,_,_,_,h=>by simp[eO]at h
 |n+1,[],_,_,h=>by simp[eO]at h
 |n+1,c::u,t,r,h=>by
  unfold eO at h;split at h
  ·rename_i hc;split at h
   ·rename_i x r' e;cases h;obtain⟨h1,h2⟩:=iK e;exact⟨h1,by rw[hc,h2];rfl⟩
   ·cases h
  split at h
  ·rename_i hc;split at h
   ·rename_i x r' e;cases h;obtain⟨h1,h2⟩:=iK e;exact⟨h1,by rw[hc,h2];rfl⟩
   ·cases h
  split at h
  ·rename_i hc;split at h
   ·cases h
   ·rename_i w v;split at h
    ·rename_i hw;split at h
     ·rename_i x r' e;cases h;obtain⟨h1,h2⟩:=iK e;refine⟨⟨by omega,h1⟩,?_⟩
      show _=109::letter _::x.str++_;rw[BB hw.1 hw.2,hc,h2];rfl
     ·cases h
    ·cases h
  split at h
  ·rename_i hc;split at h
   ·cases h
   ·rename_i w v;split at h
    ·rename_i hw;split at h
     ·rename_i x r' e;cases h;obtain⟨h1,h2⟩:=iK e;refine⟨⟨by omega,by omega,h1⟩,?_⟩
      show _=114::hD _::x.str++_;rw[pM (by omega) (by omega),hc,h2];rfl
     ·cases h
    ·cases h
  split at h
  ·rename_i hc;split at h
   ·rename_i x r' e;split at h
    ·rename_i y r'' e';cases h;obtain⟨h1,h2⟩:=iK e;obtain⟨h3,h4⟩:=iK e';refine⟨⟨h1,h3⟩,?_⟩;show _=101::(x.str++y.str)++_;rw[hc,h2,h4];simp
    ·cases h
   ·cases h
  ·exact EC h
theorem PE{w:Nat}(h:w<=7):letter w≠110/\letter w≠107/\letter w≠109/\letter w≠114/\letter w≠101:=by
 have:=jG h;refine⟨?_,?_,?_,?_,?_⟩<;>intro e<;>rw[e]at this<;>simp at this<;>omega
theorem kJ:∀(t:Sec) (r:S) (n:Nat),t.wf->t.str.length<n->eO n (t.str++r)=some (t,r)
 | .new w m,r,0,_,hn=>by omega
 | .new w m,r,n+1,⟨hw,h1,h2⟩,hn=>by
   obtain⟨a1,a2,a3,a4,a5⟩:=PE hw;show eO (n+1) (letter w::(plain m++[59]++r))=_;unfold eO;rw[jc a1,jc a2,jc a3,jc a4,jc a5];have hl:=jG hw;by_cases h9:m<=9
   ·have hd:=eR h9;rw[nI h9];show pFresh (letter w::hD m::59::r)=_;simp only[pFresh];rw[je (by omega),je trivial,hl,hd]
    simp
   ·have hd:= @eR (m/10) (by omega)
    have hd':= @eR (m%10) (by omega)
    rw[yT (by omega) h2]
    show pFresh (letter w::hD (m/10)::hD (m%10)::59::r)=_;have hne:hD (m%10)≠59:=fun e=>by rw[e]at hd';simp at hd';omega
    simp only[pFresh];rw[je (by omega),jc hne,je (by omega),je trivial,hl,hd,hd']
    have:(48+m/10-48)*10+(48+m%10-48)=m:=by omega
    rw[this];simp
 | .next t,r,n+1,hw,hn=>by
   show eO (n+1) (110::(t.str++r))=_;unfold eO;rw[je rfl,kJ t r n hw (by simp[Sec.str]at hn;omega)]
 | .key t,r,n+1,hw,hn=>by
   show eO (n+1) (107::(t.str++r))=_;unfold eO;rw[jc (by decide),je rfl,kJ t r n hw (by simp[Sec.str]at hn;omega)]
 | .epoch a b,r,n+1,hw,hn=>by
   show eO (n+1) (101::(a.str++b.str++r))=_;unfold eO;rw[jc (by decide),jc (by decide),jc (by decide),jc (by decide),je rfl,qm,kJ a _ n hw.1 (by simp[Sec.str]at hn;omega)]
   simp only;rw[kJ b r n hw.2 (by simp[Sec.str]at hn;omega)]
 | .say w t,r,n+1,hw,hn=>by
   show eO (n+1) (109::letter w::(t.str++r))=_;have hl:=jG hw.1;have:=hw.1;unfold eO;rw[jc (by decide),jc (by decide),je rfl]
   simp only;rw[je (by omega),kJ t r n hw.2 (by simp[Sec.str]at hn;omega),hl]
   simp
 | .room m t,r,n+1,hw,hn=>by
   show eO (n+1) (114::hD m::(t.str++r))=_;have hl:=eR hw.2.1;have:=hw.1;have:=hw.2.1;unfold eO;rw[jc (by decide),jc (by decide),jc (by decide),je rfl]
   simp only;rw[je (by omega),kJ t r n hw.2.2 (by simp[Sec.str]at hn;omega),hl]
   simp
 | .next t,r,0,_,hn=>by omega
 | .key t,r,0,_,hn=>by omega
 | .epoch a b,r,0,_,hn=>by omega
 | .say w t,r,0,_,hn=>by omega
 | .room m t,r,0,_,hn=>by omega
theorem Sec.str_pos(t:Sec):0<t.str.length:=by cases t<;>simp[Sec.str]
theorem W0{n m:Nat}{s:S}(h1:s.length<n)(h2:s.length<m):eO n s=eO m s:=by
 cases e:eO n s with
 |some x=>
  obtain⟨t,r⟩:=x;obtain⟨hw,hs⟩:=iK e;subst hs;rw[kJ t r m hw (by simp at h2;omega)]
 |none=>
  cases e':eO m s with
  |none=>rfl
  |some x=>
   obtain⟨t,r⟩:=x;obtain⟨hw,hs⟩:=iK e';subst hs;rw[kJ t r n hw (by simp at h1;omega)]at e
   cases e
def pars(s:S):Option (Sec×S):=eO (s.length+1) s
theorem Q8{n:Nat}{s:S}(h:s.length<n):eO n s=pars s:=W0 h (by omega)
theorem iO{s:S}{t:Sec}{r:S}(h:pars s=some (t,r)):t.wf/\s=t.str++r:=iK h
theorem ED{t:Sec}(r:S)(h:t.wf):pars (t.str++r)=some (t,r):=kJ t r _ h (by simp;omega)
def pnt(s:S):Option Sec:=match pars s with|some (t,[])=>some t|_=>none
theorem pnt_some{s:S}{t:Sec}:pnt s=some t↔t.wf/\s=t.str:=by
 unfold pnt;constructor
 ·intro h;split at h
  ·rename_i t' e;cases h;obtain⟨h1,h2⟩:=iO e;exact⟨h1,by simpa using h2⟩
  ·cases h
 ·rintro⟨hw,rfl⟩;have:=ED [] hw;rw[ka]at this;rw[this]
def sec(s:S):Option Sec:=if s.length<=300 then pnt s else none
theorem iX{s:S}{t:Sec}:sec s=some t↔t.wf/\s=t.str/\s.length<=300:=by
 unfold sec;split
 ·rename_i h;rw[pnt_some];exact⟨fun⟨a,b⟩=>⟨a,b,h⟩,fun⟨a,b,_⟩=>⟨a,b⟩⟩
 ·rename_i h;exact⟨fun e=>(by cases e),fun⟨_,_,e⟩=>absurd e h⟩
theorem I4{t:Sec}(h:t.wf)(hl:t.str.length<=300):sec t.str=some t:=iX.2 ⟨h,rfl,hl⟩
theorem Sec.str_inj{t u:Sec}(ht:t.wf)(hu:u.wf)(h:t.str=u.str):t=u:=by
 have h1:=pnt_some.2 ⟨ht,rfl⟩;rw[h,pnt_some.2 ⟨hu,rfl⟩]at h1;exact(Option.some.inj h1).symm
def secOk(s:S):Bool:=(sec s).isSome
theorem cK{s:S}:secOk s=true↔∃t:Sec,t.wf/\s=t.str/\s.length<=300:=by
 unfold secOk;rw[v9];exact⟨fun⟨t,h⟩=>⟨t,iX.1 h⟩,fun⟨t,h⟩=>⟨t,iX.2 h⟩⟩
def mk1(p s:S):S:=if secOk s=true/\p.length+s.length<=300 then p++s else[]
def makNext(s:S):S:=mk1 [110] s
def makKey(s:S):S:=mk1 [107] s
def bO(a b:S):S:=if(secOk a=true/\secOk b=true)/\1+a.length+b.length<=300 then 101::(a++b)else[]
def dZ(s:S)(w:Int):S:=if aH w then mk1 (109::C0 w) s else[]
def dA(s:S)(n:Int):S:=if 1<=n/\n<=9 then mk1 (114::plain n.toNat) s else[]
structure How where
 op:Int
 who:Int
 n:Int
 a:S
 b:S
 deriving DecidableEq,Inhabited
def Sec.how:Sec->How
 | .new w n=>⟨1,w,n,[],[]⟩
 | .next t=>⟨2,0,0,t.str,[]⟩
 | .key t=>⟨3,0,0,t.str,[]⟩
 | .epoch a b=>⟨4,0,0,a.str,b.str⟩
 | .say w t=>⟨5,w,0,t.str,[]⟩
 | .room n t=>⟨6,0,n,t.str,[]⟩
def aN(s:S):How:=match sec s with|some t=>t.how|none=>⟨0,0,0,[],[]⟩
def isKey(s:S):Bool:=decide ((aN s).op=3)
theorem lN{s:S}:(aN s).op=0↔secOk s=false:=by
 unfold aN secOk;cases sec s with
 |none=>simp
 |some t=>cases t<;>simp[Sec.how]
end Kw
namespace Kw
def lV(b:UInt8):Prop:=48<=b.toNat/\b.toNat<=57
instance(b:UInt8):Decidable (lV b):=inferInstanceAs (Decidable (_/\_))
def pN(s:S)(p k num:Nat):Int:=if k<s.length/\(ix s k).toNat=59/\aO ((ix s p).toNat-65:Int) num=(s.take (k+1)).drop p then k+1-p else 0
def qP(s:S)(p:Nat):Nat->Nat->Nat->Int
 |0,k,num=>pN s p k num
 |m+1,k,num=>if k<s.length/\lV (ix s k)then qP s p m (k+1) (num*10+((ix s k).toNat-48))else pN s p k num
def B4(s:S)(o:Option (Sec×S)):Int:=match o with|some (_,r)=>s.length-r.length|none=>0
theorem W2(p u:S)(j:Nat)(h:j<u.length):ix (p++u) ((p.length+j:Nat):Int)=u[j]:=by
 rw[aK _ _ (by simp;omega)]
 simp
def fE(u:S)(c:UInt8)(j num:Nat):Int:=if(u.drop j).head?=some 59/\aO (c.toNat-65:Int) num=u.take (j+1)then j+1 else 0
def fG(u:S)(c:UInt8):Nat->Nat->Nat->Int
 |0,j,num=>fE u c j num
 |m+1,j,num=>match u.drop j with
  |[]=>fE u c j num
  |x::_=>if lV x then fG u c m (j+1) (num*10+(x.toNat-48))else fE u c j num
theorem M2(q u:S)(n:Nat):(List.take (q.length+n) (q++u)).drop q.length=u.take n:=by
 rw[List.take_append,List.drop_append];simp
theorem abR(u:S)(j:Nat):(u.drop j).head?=u[j]?:=by simp[List.head?_drop]
theorem tV(q u:S)(c:UInt8)(t:S)(hu:u=c::t)(j num:Nat):pN (q++u) q.length (q.length+j) num=fE u c j num:=by
 have h0:ix (q++u) (q.length:Int)=c:=by
  have:=W2 q u 0 (by rw[hu];simp)
  rw[yv]at this;rw[this];subst hu;rfl
 unfold pN fE;rw[h0,Jj,M2,abR];by_cases hj:j<u.length
 ·rw[W2 q u j hj,jj hj];have e1:q.length+j< (q++u).length:=by simp;omega
  have e2:((u[j]).toNat=59)↔(some u[j]=some (59:UInt8)):=by
   rw[Option.some.injEq,<-UInt8.toNat_inj];rfl
  by_cases h:(some u[j]=some (59:UInt8))/\aO (c.toNat-65:Int) num=u.take (j+1)
  ·rw[je ⟨e1,e2.2 h.1,h.2⟩,je h];push_cast;omega
  ·rw[jc (fun e=>h ⟨e2.1 e.2.1,e.2.2⟩),jc h]
 ·rw[jc (fun e=>hj (by have:=e.1;simp at this;omega)),jc (fun e=>by rw[qo (by omega)]at e;cases e.1)]
theorem HQ(q u:S)(c:UInt8)(t:S)(hu:u=c::t):∀(m j num:Nat),qP (q++u) q.length m (q.length+j) num=fG u c m j num
 |0,j,num=>tV q u c t hu j num
 |m+1,j,num=>by
  unfold qP fG;cases e:u.drop j with
  |nil=>
   have hj:u.length<=j:=by simpa using e
   rw[jc (fun e=>by have:=e.1;simp at this;omega)]
   exact tV q u c t hu j num
  |cons x v=>
   have hj:j<u.length:=by
    rcases yo j u.length with h|h
    ·exact h
    ·rw[js h]at e;cases e
   have hx:u[j]=x:=by
    rw[qa hj]at e;exact(List.cons.inj e).1
   simp only;rw[W2 q u j hj,hx];by_cases hd:lV x
   ·rw[je ⟨by simp;omega,hd⟩,je hd]
    exact HQ q u c t hu m (j+1) _
   ·rw[jc (fun e=>hd e.2),jc hd]
    exact tV q u c t hu j num
theorem W3{w n:Int}(h:99<n):aO w n=[]:=jc (fun e=>by omega)
theorem qQ(w:Int):aO w 0=[]:=jc (fun e=>by omega)
theorem BD{c:UInt8}(h1:65<=c.toNat)(h2:c.toNat<=72){n:Nat}(h3:1<=n)(h4:n<=99):aO (c.toNat-65:Int) n=c::(plain n++[59]):=by
 unfold aO;rw[je ⟨⟨by omega,by omega⟩,by omega,by omega⟩]
 have:((c.toNat:Int)-65).toNat=c.toNat-65:=by omega
 unfold C0;rw[this,BB h1 h2];simp
theorem ag8(c:UInt8)(t:S)(h1:65<=c.toNat)(h2:c.toNat<=72):fG (c::t) c 3 1 0=B4 (c::t) (pFresh (c::t)):=by
 have dne:∀x:UInt8,lV x->x≠59:=fun x hx e=>by subst e;simp[lV]at hx
 cases t with
 |nil=>simp[fG,fE,B4,pFresh]
 |cons d t=>
  by_cases hd:lV d
  case neg=>
   have:¬(49<=d.toNat/\d.toNat<=57):=fun e=>hd ⟨by omega,e.2⟩
   simp[fG,fE,B4,pFresh,hd,this,qQ]
  obtain⟨d1,d2⟩:=hd;cases t with
  |nil=>simp[fG,fE,B4,pFresh,lV,d1,d2]
  |cons e t=>
   by_cases he:lV e
   case neg=>
    have he':¬(48<=e.toNat/\e.toNat<=57):=he;by_cases h0:d.toNat=48
    ·have:¬(49<=d.toNat/\d.toNat<=57):=by omega
     simp[fG,fE,B4,pFresh,lV,d1,d2,he',this,h0,qQ]
    ·have hm:aO (c.toNat-65:Int) ((0*10+(d.toNat-48):Nat):Int)=c::d::[59]:=by
      rw[BD h1 h2 (by omega) (by omega),nI (by omega),Nat.zero_mul,qx,pM (by omega) (by omega)];rfl
     have h49:49<=d.toNat:=by omega
     by_cases e59:e=59
     ·subst e59;simp only[fG,lV,d1,d2,List.drop_succ_cons,qb,and_self,ju,he',qr];unfold fE;rw[hm];simp[B4,pFresh,h1,h2,h49,d2];omega
     ·simp only[fG,lV,d1,d2,List.drop_succ_cons,qb,and_self,ju,he',qr];unfold fE;simp[B4,pFresh,h1,h2,h49,d2,e59,he']
   obtain⟨e1,e2⟩:=he;have ene:=dne e ⟨e1,e2⟩;cases t with
   |nil=>
    simp[fG,fE,B4,pFresh,lV,d1,d2,e1,e2,ene]
   |cons f t=>
    by_cases hf:lV f
    case neg=>
     have hf':¬(48<=f.toNat/\f.toNat<=57):=hf;have num:0*10+(d.toNat-48)=d.toNat-48:=by omega
     simp only[fG,lV,d1,d2,e1,e2,hf',List.drop_succ_cons,qb,and_self,ju,qr,num];unfold fE;by_cases f59:f=59
     ·subst f59;by_cases h0:d.toNat=48
      ·have:¬(49<=d.toNat/\d.toNat<=57):=by omega
       have hne:aO (c.toNat-65:Int) (((d.toNat-48)*10+(e.toNat-48):Nat):Int)≠List.take (2+1+1) (c::d::e::59::t):=by
        by_cases z:e.toNat=48
        ·have:((d.toNat-48)*10+(e.toNat-48):Nat)=0:=by omega
         rw[this];simp[qQ]
        ·rw[BD h1 h2 (by omega) (by omega),nI (by omega)];simp
       rw[jc (fun x=>hne x.2)]
       simp[B4,pFresh,this]
      ·have hm:aO (c.toNat-65:Int) (((d.toNat-48)*10+(e.toNat-48):Nat):Int)=c::d::e::[59]:=by
        have q1:((d.toNat-48)*10+(e.toNat-48))/10=d.toNat-48:=by omega
        have q2:((d.toNat-48)*10+(e.toNat-48))%10=e.toNat-48:=by omega
        rw[BD h1 h2 (by omega) (by omega),yT (by omega) (by omega),q1,q2,pM (by omega) (by omega),pM (by omega) (by omega)];rfl
       have h49:49<=d.toNat:=by omega
       rw[hm];simp[B4,pFresh,h1,h2,h49,d2,e1,e2,ene];omega
     ·have:(List.drop (2+1) (c::d::e::f::t)).head?≠some 59:=by simpa using f59
      rw[jc (fun x=>this x.1)]
      simp only[B4,pFresh];by_cases h49:49<=d.toNat
      ·simp[h1,h2,h49,d2,e1,e2,ene,f59]
      ·have:¬(49<=d.toNat/\d.toNat<=57):=by omega
       simp[this]
    obtain⟨f1,f2⟩:=hf;have fne:=dne f ⟨f1,f2⟩;have num:0*10+(d.toNat-48)=d.toNat-48:=by omega
    simp only[fG,lV,d1,d2,e1,e2,f1,f2,List.drop_succ_cons,qb,and_self,ju,num];have hne:aO (c.toNat-65:Int) ((((d.toNat-48)*10+(e.toNat-48))*10+(f.toNat-48):Nat):Int)≠List.take (1+1+1+1+1) (c::d::e::f::t)\/(List.drop (1+1+1+1) (c::d::e::f::t)).head?≠some 59:=by
     cases t with
     |nil=>right;simp
     |cons g t=>
      by_cases g59:g=59
      ·left;by_cases big:99< ((d.toNat-48)*10+(e.toNat-48))*10+(f.toNat-48)
       ·rw[W3 (by omega)];simp
       ·by_cases z:((d.toNat-48)*10+(e.toNat-48))*10+(f.toNat-48)=0
        ·rw[z];simp[qQ]
        ·rw[BD h1 h2 (by omega) (by omega)]
         intro x;have:=wo List.length x;by_cases s:((d.toNat-48)*10+(e.toNat-48))*10+(f.toNat-48)<=9
         ·rw[nI s]at this;simp at this
         ·rw[yT (by omega) (by omega)]at this;simp at this
      ·right;simpa using g59
    unfold fE;rw[jc (fun x=>hne.elim (fun y=>y x.2) (fun y=>y x.1))]
    simp only[B4,pFresh];by_cases h49:49<=d.toNat
    ·simp[h1,h2,h49,d2,e1,e2,ene,fne]
    ·have:¬(49<=d.toNat/\d.toNat<=57):=by omega
     simp[this]
theorem ag9(s:S)(p:Nat)(hp:p<s.length):(if 65<=(ix s p).toNat/\(ix s p).toNat<=72 then qP s p 3 (p+1) 0 else 0)=B4 (s.drop p) (pFresh (s.drop p)):=by
 have hd:=bU s p hp;have hq:s=s.take p++s.drop p:=(List.take_append_drop p s).symm;have hl:(s.take p).length=p:=by simp;omega
 generalize ix s p=c at hd⊢;by_cases h:65<=c.toNat/\c.toNat<=72
 ·rw[je h];have:=HQ (s.take p) (s.drop p) c _ hd 3 1 0;rw[hl,<-hq]at this;rw[this,hd];exact ag8 c _ h.1 h.2
 ·rw[jc h,hd];cases s.drop (p+1)with
  |nil=>rfl
  |cons d t=>simp only[pFresh];rw[jc (fun x=>h x.1)];rfl
end Kw
namespace Kw
def psz(u:S):Nat:=match pars u with|some (x,_)=>x.str.length|none=>0
theorem W4(u:S):B4 u (pFresh u)=match pFresh u with|some (x,_)=>(x.str.length:Int)|none=>0:=by
 unfold B4;cases e:pFresh u with
 |none=>rfl
 |some x=>
  obtain⟨t,r⟩:=x;obtain⟨_,h⟩:=EC e;simp only;rw[h];simp
theorem n9{u:S}{x:Sec}{r:S}(h:pars u=some (x,r)):psz u=x.str.length/\u.drop (psz u)=r/\u.take (psz u)=x.str/\0<psz u/\psz u<=u.length:=by
 have e:psz u=x.str.length:=by unfold psz;rw[h]
 obtain⟨_,hs⟩:=iO h;refine⟨e,?_,?_,?_,?_⟩
 ·rw[e,hs];simp
 ·rw[e,hs];simp
 ·rw[e];exact x.str_pos
 ·rw[e,hs];simp
theorem pO{u:S}(h:pars u=none):psz u=0:=by unfold psz;rw[h]
theorem W5(u:S):psz u<=u.length:=by
 cases e:pars u with
 |none=>rw[pO e];omega
 |some x=>exact(n9 (x:=x.1) (r:=x.2) e).2.2.2.2
theorem bX(c:UInt8)(t:S):pars (c::t)=
 if c=110 then(match pars t with|some (x,r)=>some (.next x,r)|none=>none)
 else if c=107 then(match pars t with|some (x,r)=>some (.key x,r)|none=>none)
 else if c=109 then(match t with
  |[]=>none
  |w::t=>if 65<=w.toNat/\w.toNat<=72 then(match pars t with|some (x,r)=>some (.say (w.toNat-65) x,r)|none=>none)else none)
 else if c=114 then(match t with
  |[]=>none
  |w::t=>if 49<=w.toNat/\w.toNat<=57 then(match pars t with|some (x,r)=>some (.room (w.toNat-48) x,r)|none=>none)else none)
 else if c=101 then(match pars t with
  |some (x,r)=>(match pars r with|some (y,r)=>some (.epoch x y,r)|none=>none)
  |none=>none)
 else pFresh (c::t):=by
 have e:pars (c::t)=eO (t.length+1+1) (c::t):=rfl;rw[e]
 conv=>lhs;unfold eO
 have e1:eO (t.length+1) t=pars t:=rfl;rw[e1];split
 ·rfl
 split
 ·rfl
 split
 ·cases t with
  |nil=>rfl
  |cons w t=>
   simp only;rw[Q8 (n:=(w::t).length+1) (s:=t) (by simp;omega)]
   all_goals rfl
 split
 ·cases t with
  |nil=>rfl
  |cons w t=>
   simp only;rw[Q8 (n:=(w::t).length+1) (s:=t) (by simp;omega)]
   all_goals rfl
 split
 ·cases e2:pars t with
  |none=>rfl
  |some x=>
   obtain⟨x,r⟩:=x;obtain⟨_,hs⟩:=iO e2;simp only;rw[Q8 (n:=t.length+1) (s:=r) (by rw[hs];simp;omega)]
   try rfl
 ·rfl
theorem axO{c:UInt8}{t:S}(h:c=110\/c=107):psz (c::t)=if psz t=0 then 0 else 1+psz t:=by
 cases e:pars t with
 |none=>
  rw[pO e,je rfl];unfold psz;rw[bX,e];rcases h with h|h<;>subst h<;>simp
 |some x=>
  obtain⟨x,r⟩:=x;have hp:=n9 e;rw[jc (by omega),hp.1]
  unfold psz;rw[bX,e];rcases h with h|h<;>subst h<;>simp[Sec.str]<;>omega
theorem aAD{w:UInt8}{t:S}(h:65<=w.toNat/\w.toNat<=72):psz (109::w::t)=if psz t=0 then 0 else 2+psz t:=by
 cases e:pars t with
 |none=>
  rw[pO e,je rfl];unfold psz;rw[bX,jc (by decide),jc (by decide),je rfl]
  simp only;rw[je h,e]
 |some x=>
  obtain⟨x,r⟩:=x;have hp:=n9 e;rw[jc (by omega),hp.1]
  unfold psz;rw[bX,jc (by decide),jc (by decide),je rfl]
  simp only;rw[je h,e];simp[Sec.str];omega
theorem apI{t:S}(h:∀w u,t=w::u->¬(65<=w.toNat/\w.toNat<=72)):psz (109::t)=0:=by
 unfold psz;rw[bX,jc (by decide),jc (by decide),je rfl]
 cases t with
 |nil=>rfl
 |cons w u=>simp only;rw[jc (h w u rfl)]
theorem aAE{w:UInt8}{t:S}(h:49<=w.toNat/\w.toNat<=57):psz (114::w::t)=if psz t=0 then 0 else 2+psz t:=by
 cases e:pars t with
 |none=>
  rw[pO e,je rfl];unfold psz;rw[bX,jc (by decide),jc (by decide),jc (by decide),je rfl]
  simp only;rw[je h,e]
 |some x=>
  obtain⟨x,r⟩:=x;have hp:=n9 e;rw[jc (by omega),hp.1]
  unfold psz;rw[bX,jc (by decide),jc (by decide),jc (by decide),je rfl]
  simp only;rw[je h,e];simp[Sec.str];omega
theorem apJ{t:S}(h:∀w u,t=w::u->¬(49<=w.toNat/\w.toNat<=57)):psz (114::t)=0:=by
 unfold psz;rw[bX,jc (by decide),jc (by decide),jc (by decide),je rfl]
 cases t with
 |nil=>rfl
 |cons w u=>simp only;rw[jc (h w u rfl)]
theorem aAF{t:S}:psz (101::t)=if psz t=0 then 0 else if psz (t.drop (psz t))=0 then 0 else 1+psz t+psz (t.drop (psz t)):=by
 cases e:pars t with
 |none=>
  rw[pO e,je rfl];unfold psz;rw[bX,jc (by decide),jc (by decide),jc (by decide),jc (by decide),je rfl,e]
 |some x=>
  obtain⟨x,r⟩:=x;have hp:=n9 e;rw[jc (by omega),hp.2.1]
  cases e2:pars r with
  |none=>
   rw[pO e2,je rfl];unfold psz;rw[bX,jc (by decide),jc (by decide),jc (by decide),jc (by decide),je rfl,e]
   simp only;rw[e2]
  |some y=>
   obtain⟨y,r'⟩:=y;have hq:=n9 e2;rw[jc (by omega),hp.1,hq.1]
   unfold psz;rw[bX,jc (by decide),jc (by decide),jc (by decide),jc (by decide),je rfl,e]
   simp only;rw[e2];simp[Sec.str];omega
theorem aAG{c:UInt8}{t:S}(h:c≠110/\c≠107/\c≠109/\c≠114/\c≠101):(psz (c::t):Int)=B4 (c::t) (pFresh (c::t)):=by
 rw[W4];unfold psz;rw[bX,jc h.1,jc h.2.1,jc h.2.2.1,jc h.2.2.2.1,jc h.2.2.2.2];cases pFresh (c::t)<;>rfl
theorem abS(s:S):secOk s=decide (s≠[]/\s.length<=300/\psz s=s.length):=by
 unfold secOk sec;by_cases h:s.length<=300
 ·rw[je h];unfold pnt;cases e:pars s with
  |none=>
   have:=pO e;cases s with
   |nil=>simp
   |cons c t=>simp[this]
  |some x=>
   obtain⟨x,r⟩:=x;have hp:=n9 e;obtain⟨_,hs⟩:=iO e;have hl:s.length=x.str.length+r.length:=by rw[hs];simp
   cases r with
   |nil=>
    have:s≠[]:=fun e=>by rw[e]at hp;simp at hp;omega
    have h2:psz s=s.length:=by rw[hp.1,hl];simp
    simp[this,h,h2]
   |cons a r=>
    have h2:psz s≠s.length:=by rw[hp.1,hl];simp
    simp[h2]
 ·rw[jc h];simp[h]
end Kw
namespace Kw
def treLeaf(w:Int):Int:=if aH w then 7+w else-1
def ups(i:Nat):List Int:=if h:i=0 then[]else(((i-1)/2:Nat):Int)::ups ((i-1)/2)
def hJ(n:Int):Prop:=0<=n/\n<=14
instance(w:Int):Decidable (hJ w):=inferInstanceAs (Decidable (_/\_))
def bI(n:Int):List Int:=if hJ n then ups n.toNat else[]
def bH(n:Int):Int:=if 1<=n/\n<=14 then(if n%2=1 then n+1 else n-1)else-1
def meetN:Nat->Nat->Nat->Nat
 |0,a,_=>a
 |f+1,a,b=>if a=b then a else if b<a then meetN f ((a-1)/2) b else meetN f a ((b-1)/2)
def treMeet(a b:Int):Int:=if hJ a/\hJ b then(meetN 30 a.toNat b.toNat:Nat)else-1
def treOk(keys:List S):Bool:=decide (keys.length=15)&&keys.all fun k=>decide (k=[])||isKey k
def treNew:List S:=List.replicate 15 []
def coverN:Nat->List S->Nat->List Int
 |0,_,_=>[]
 |f+1,ks,n=>if ix ks n≠[]then[(n:Int)]else if 7<=n then[]else coverN f ks (2*n+1)++coverN f ks (2*n+2)
def lW(ks:List S)(n:Int):List Int:=coverN 5 ks n.toNat
def pathOf(w:Int):List Int:=treLeaf w::bI (treLeaf w)
def clr(ks:List S)(w:Int):List S:=(pathOf w).foldl (fun ks n=>ks.set n.toNat []) ks
def mR:List Int->S->List S->List S
 |[],_,ks=>ks
 |n::ns,s,ks=>mR ns (makNext s) (ks.set n.toNat (makKey s))
def B5(ks:List S)(w:Int)(s:S):List S:=mR (pathOf w) s ks
def dJ(own:List Own)(n:Int):S:=match own.find? (fun o=>o.node==n)with|some o=>o.sec|none=>[]
def pathGo:List Int->S->List Own
 |[],_=>[]
 |n::ns,s=>⟨n,s⟩::pathGo ns (makNext s)
def aU(n:Int)(s:S):List Own:=pathGo (n::bI n) s
def oK(m:Member)(k:Nat):Bool:=
 decide ((ix m.own k).node∈pathOf m.who)&&(secOk (ix m.own k).sec&&(decide (ix m.keys (ix m.own k).node≠[])&&(decide (ix m.keys (ix m.own k).node=makKey (ix m.own k).sec)&&decide (dJ (m.own.take k) (ix m.own k).node=[]))))
def fitsAll(m:Member):Bool:=(List.range m.own.length).all (oK m)
def yU(m:Member):Bool:=((pathOf m.who).all fun n=>decide (ix m.keys n=[])||decide (dJ m.own n≠[]))&&decide (ix m.keys (treLeaf m.who)≠[])
def memOk(m:Member):Bool:=
 if m.inn=false then decide (m.who=0/\m.keys=[]/\m.own=[]/\m.epoch=0/\m.init=[]/\m.tag=[])
 else decide (aH m.who)&&(treOk m.keys&&(fitsAll m&&(yU m&&(decide (0<=m.epoch/\m.epoch<=12)&&(secOk m.init&&decide (m.tag.length<=300))))))
def bC:Member:=⟨false,0,[],[],0,[],[]⟩
def dP(w:Int)(leaf init:S):Member:=
 if aH w/\secOk leaf=true/\secOk init=true/\leaf.length<=292 then⟨true,w,B5 treNew w leaf,aU (treLeaf w) leaf,0,init,[]⟩else bC
def cO(m:Member):List S:=if memOk m=true/\m.inn=true then m.own.map (·.sec)++[m.init]else[]
def baseT(ks:List S)(add remove:Int)(leaf:S):List S:=
 let ks:=if 0<=remove then clr ks remove else ks
 if 0<=add then(clr ks add).set (treLeaf add).toNat leaf else ks
def bQ(n who:Int):Prop:= -1<=n/\n<=7/\n≠who
instance(a b:Int):Decidable (bQ a b):=inferInstanceAs (Decidable (_/\_/\_))
def hasLeaf(ks:List S)(w:Int):Bool:=decide (ix ks (treLeaf w)≠[])
def twoKeys(add:Int)(leaf key:S):Bool:=if add<0 then decide (leaf=[]/\key=[])else isKey leaf&&(isKey key&&decide (leaf≠key))
def changes(ks:List S)(add remove:Int):Bool:=(decide (remove<0)||hasLeaf ks remove)&&(decide (add<0)||(!hasLeaf ks add||decide (add=remove)))
def may(m:Member)(add remove:Int)(leaf key:S):Bool:=
 m.inn&&(decide (m.epoch<12/\bQ add m.who/\bQ remove m.who)&&(changes m.keys add remove&&twoKeys add leaf key))
def bL(ks:List S)(add:Int)(sec:S)(cov:List Int):List Box:=(cov.filter fun n=>decide (add<0\/n≠treLeaf add)).map fun n=>⟨ix ks n,sec⟩
def boxesGo(ks:List S)(add:Int):List Own->List Box
 |a::b::r=>bL ks add b.sec (lW ks (bH a.node))++boxesGo ks add (b::r)
 |_=>[]
def sF:Commit:=⟨0,[],[],0,0,[],[],[],[],[],[],[],[]⟩
def dG(m:Member)(fresh:S)(add remove:Int)(leaf _key:S):Member:=
 let own:=aU (treLeaf m.who) fresh
 ⟨true,m.who,B5 (baseT m.keys add remove leaf) m.who fresh,own,m.epoch+1,bO m.init (makNext (ix own (own.length-1)).sec),m.tag++fresh⟩
def eY(m:Member)(fresh:S)(add remove:Int)(leaf key:S):Commit:=
 let base:=baseT m.keys add remove leaf
 let own:=aU (treLeaf m.who) fresh
 let x:=dG m fresh add remove leaf key
 let w:=if 0<=add then(key,key,x.init,key,dJ x.own (treMeet (treLeaf add) (treLeaf m.who)))else([],[],[],[],[])
 ⟨m.who,m.tag,fresh,add,remove,leaf,x.keys,boxesGo base add own,w.1,w.2.1,w.2.2.1,w.2.2.2.1,w.2.2.2.2⟩
def cH(m:Member)(fresh:S)(add remove:Int)(leaf key:S):Bool:=
 memOk m&&(decide ((aN fresh).op=1)&&(may m add remove leaf key&&(decide (m.tag.length+fresh.length<=300)&&decide (m.init.length<=280))))
def iA(m:Member)(fresh:S)(add remove:Int)(leaf key:S):Option (Member×Commit):=
 if cH m fresh add remove leaf key=true then some (dG m fresh add remove leaf key,eY m fresh add remove leaf key)else none
def iQ(b:List Box):Bool:=decide (b.length<=400)&&b.all fun x=>secOk x.key&&secOk x.sec
def cP(c:Commit):Bool:=
 decide (aH c.sender/\(aN c.name).op=1/\c.tag.length+c.name.length<=300/\bQ c.add c.sender/\bQ c.remove c.sender)&&(treOk c.keys&&(iQ c.boxes&&(decide (c.boxes.length<=20)&&
  (if c.add<0 then decide (c.leaf=[]/\c.wkey=[]/\c.wik=[]/\c.wis=[]/\c.wsk=[]/\c.wss=[])
   else isKey c.leaf&&(isKey c.wkey&&(decide (c.leaf≠c.wkey/\c.wik=c.wkey/\c.wsk=c.wkey)&&(secOk c.wis&&secOk c.wss)))))))
def oR(own:List Own)(k:S):Bool:=own.any fun o=>decide (makKey o.sec=k)
def bP(own:List Own):List Box->S
 |[]=>[]
 |b::r=>if oR own b.key=true then b.sec else bP own r
def sG(ks:List S)(own:List Own):List Own:=own.filter fun o=>decide (ix ks o.node=makKey o.sec)
def eZ(ks:List S)(path:List Own):Bool:=path.all fun o=>decide (ix ks o.node=makKey o.sec)
def oA(own path:List Own):List Own:=own.filter fun o=>decide (dJ path o.node=[])
def lJ(c:List S)(path:List Int)(t:List S):List S:=path.foldl (fun t n=>t.set n.toNat (ix c n)) t
def EE(m:Member)(c:Commit):Bool:=decide (c.keys=lJ c.keys (pathOf c.sender) (baseT m.keys c.add c.remove c.leaf))
def oB(m:Member)(c:Commit):Bool:=
 m.inn&&(decide (c.tag=m.tag/\m.epoch<12/\c.sender≠m.who)&&(hasLeaf m.keys c.sender&&(changes m.keys c.add c.remove&&EE m c)))
def mS(m:Member)(c:Commit)(s:S):Member:=
 let path:=aU (treMeet (treLeaf m.who) (treLeaf c.sender)) s
 ⟨true,m.who,c.keys,sG c.keys (oA m.own path)++path,m.epoch+1,bO m.init (makNext (ix path (path.length-1)).sec),m.tag++c.name⟩
def hearPair(m:Member)(c:Commit):Member×Bool:=
 let s:=bP m.own c.boxes
 if s=[]\/292<s.length then(m,false)else
  if eZ c.keys (aU (treMeet (treLeaf m.who) (treLeaf c.sender)) s)=true then(mS m c s,secOk (mS m c s).init)else(m,false)
def dH(m:Member)(c:Commit):Member×Bool:=
 if memOk m=true/\cP c=true then
  if oB m c=true then
   if c.remove=m.who then(bC,true)else
    if(hearPair m c).2=true then((hearPair m c).1,true)else(m,false)
  else(m,false)
 else(bC,false)
def count(s:S):Nat:=(s.filter (·==59)).length
def pP(w:Int)(leaf:S)(c:Commit):Member:=
 ⟨true,w,c.keys,⟨treLeaf w,leaf⟩::aU (treMeet (treLeaf w) (treLeaf c.sender)) c.wss,count c.tag+1,c.wis,c.tag++c.name⟩
def iR(w:Int)(leaf key:S)(c:Commit):Option Member:=
 if cP c=true/\0<=c.add/\c.add=w/\secOk leaf=true/\secOk key=true/\makKey leaf=c.leaf/\makKey key=c.wkey/\c.wss.length<=292/\memOk (pP w leaf c)=true then some (pP w leaf c)else none
def nT(s:S):Bool:=decide (s.length<=8)&&s.all fun b=>decide (97<=b.toNat/\b.toNat<=122)
def fraOk(f:Frame):Bool:=decide (aH f.src/\(aN f.key).op=5/\(aN f.key).who=f.src/\1<=f.n/\f.n<=999)&&nT f.text
def nU(m:Member)(n:Int)(text:S):Option Frame:=
 if memOk m=true/\m.inn=true/\1<=n/\n<=999/\nT text=true/\dZ m.init m.who≠[]then some ⟨m.who,dZ m.init m.who,n,text⟩else none
def winOk(w:Win):Bool:=
 decide ((aN w.key).op=5/\1<=w.top/\w.top<=999/\w.seen≠[]/\ix w.seen 0=w.top)&&((List.range w.seen.length).all fun k=>decide (k=0\/(ix w.seen k<ix w.seen (k-1:Nat)/\w.top-8<ix w.seen k/\1<=ix w.seen k)))
def seenGo(n top:Int):List Int->Bool->List Int
 |[],d=>if d then[]else[n]
 |x::r,d=>(if d=false/\x<n then[n]else[])++(if top-8<x then[x]else[])++seenGo n top r (d||decide (x<n))
def winTake(w:Win)(n:Int):Option Win:=
 if n<=w.top-8\/n∈w.seen then none else some ⟨w.key,max w.top n,seenGo n (max w.top n) w.seen false⟩
def winAt:List Win->S->Nat->Int
 |[],_,_=> -1
 |w::r,key,k=>if w.key=key then k else winAt r key (k+1)
def yV(m:Member)(f:Frame):Bool:=m.inn&&(fraOk f&&(decide (f.src≠m.who)&&(hasLeaf m.keys f.src&&decide (f.key=dZ m.init f.src))))
def oL(m:Member)(wins:List Win)(f:Frame):Option (List Win):=
 if yV m f=true then
  let k:=winAt wins f.key 0
  if k<0 then some (wins++[⟨f.key,f.n,[f.n]⟩])else
   match winTake (ix wins k) f.n with
   |some x=>some (wins.set k.toNat x)
   |none=>none
 else none
def akL:World:=⟨[],[],[],[],[],[],[],[],[],[]⟩
def bN(w:Int):World:=
 if aH w then
  ⟨(List.range 8).map fun(k:Nat)=>if(k:Int)=w then dP w (aO w 1) (aO w 2)else bC,[],[],
   (List.range 8).map fun(k:Nat)=>if(k:Int)=w then 2 else 0,[],[],[],List.replicate 8 0,List.replicate 8 [],[]⟩
 else akL
def cA{A:Type}(l:List A)(i:Int)(x:A):List A:=l.set i.toNat x
def commitEnd(w:World)(e:Event)(lf ky:S):World:=
 match iA (ix w.seats e.who) (aO e.who (ix w.fresh e.who+1)) e.add e.remove (makKey lf) (makKey ky)with
 |none=>w
 |some (m,c)=>
  {w with seats:=cA w.seats e.who m,log:=w.log++[c],fresh:=if 0<=e.add then cA (cA w.fresh e.who (ix w.fresh e.who+1)) e.add (ix (cA w.fresh e.who (ix w.fresh e.who+1)) e.add+2)else cA w.fresh e.who (ix w.fresh e.who+1),
          waits:=if 0<=e.add then w.waits++[⟨e.add,w.log.length,lf,ky⟩]else w.waits}
def bV(w:World)(e:Event):World:=
 if w.log.length=16\/99<=ix w.fresh e.who\/¬(-1<=e.add/\e.add<=7)\/(0<=e.add/\98<=ix w.fresh e.add)then w else
  if 0<=e.add then commitEnd w e (aO e.add (ix w.fresh e.add+1)) (aO e.add (ix w.fresh e.add+2))else commitEnd w e [] []
def dQ(w:World)(who pos:Int):World:=
 let r:=dH (ix w.seats who) (ix w.log pos)
 if r.2=true then{w with seats:=cA w.seats who r.1}else w
def joinGo(w:World)(who pos:Int):List Wait->Nat->World
 |[],_=>w
 |x::r,k=>if x.who=who/\x.pos=pos then
   (match iR who x.leaf x.key (ix w.log pos)with
    |some m=>{w with seats:=cA w.seats who m,waits:=w.waits.eraseIdx k}
    |none=>joinGo w who pos r (k+1))
  else joinGo w who pos r (k+1)
def dF(w:World)(who pos:Int):World:=if(ix w.seats who).inn=true then w else joinGo w who pos w.waits 0
def cF(w:World)(who:Int):World:=
 if(ix w.seats who).inn=false\/w.stolen.length=12 then w else{w with spy:=w.spy++cO (ix w.seats who),stolen:=w.stolen++[⟨who,(ix w.seats who).tag⟩]}
def eM(w:World)(who:Int)(text:S):World:=
 if w.frames.length=40\/ix w.said who=999 then w else
  match nU (ix w.seats who) (ix w.said who+1) text with
  |some f=>{w with frames:=w.frames++[f],said:=cA w.said who (ix w.said who+1)}
  |none=>w
def eN(w:World)(who pos:Int):World:=
 if w.told.length=320 then w else
  match oL (ix w.seats who) (ix w.wins who) (ix w.frames pos)with
  |some x=>{w with wins:=cA w.wins who x,told:=w.told++[⟨who,pos⟩]}
  |none=>w
def step(w:World)(e:Event):World:=
 if aH e.who then
  if e.kind=1 then bV w e
  else if e.kind=4 then cF w e.who
  else if e.kind=5 then eM w e.who e.text
  else if e.kind=2 then(if 0<=e.pos/\e.pos<w.log.length then dQ w e.who e.pos else w)
  else if e.kind=3 then(if 0<=e.pos/\e.pos<w.log.length then dF w e.who e.pos else w)
  else if e.kind=6 then(if 0<=e.pos/\e.pos<w.frames.length then eN w e.who e.pos else w)
  else w
 else w
end Kw
namespace Kw
open Go
def Q9:S:=[99,111,109,109,105,116]
def K4:S:=[104,101,97,114]
def K5:S:=[106,111,105,110]
def W6:S:=[115,116,101,97,108]
def K6:S:=[115,97,121]
def aqL:S:=[103,101,116]
def aqM:S:=[97,100,100]
def Z5:S:=[114,101,109,111,118,101]
def isW(w:Int):Bool:=decide (0<=w)&&decide (w<=7)
def ltr(w:Int):S:=[(65+w).toNat.toUInt8]
def low:S->Bool
 |[]=>true
 |c::r=>decide (97<=c.toNat)&&(decide (c.toNat<=122)&&low r)
def frT(s:S):Bool:=decide (s.length<=8)&&low s
def IQ(n:Int):S:=if n<10 then[(48+n).toNat.toUInt8]else[(48+n/10).toNat.toUInt8,(48+n%10).toNat.toUInt8]
def txt(e:Event):S:=
 if isW e.who=false then[]else
 if e.kind=1 then Q9++32::ltr e.who++(if isW e.add then 32::aqM++32::ltr e.add else[])++(if isW e.remove then 32::Z5++32::ltr e.remove else[])else
 if e.kind=4 then W6++32::ltr e.who else
 if e.kind=5 then(if frT e.text then K6++32::ltr e.who++32::e.text else[])else
 if e.kind=2\/e.kind=3\/e.kind=6 then(if 0<=e.pos/\e.pos<=99 then(if e.kind=2 then K4 else if e.kind=3 then K5 else aqL)++32::ltr e.who++32::IQ e.pos else[])else[]
def EF:S->Int
 |[]=> -1
 |c::_=>if isW ((c.toNat:Int)-65)then(c.toNat:Int)-65 else-1
def HR(s:S):Int:=if s=Q9 then 1 else if s=K4 then 2 else if s=K5 then 3 else if s=W6 then 4 else if s=K6 then 5 else if s=aqL then 6 else 0
def K7(s:S):Int:=match Lib.atoiAll s with| .ok v=>v| .range=>Lib.atoiSat s|_=>0
def tW:List S->Int->Int->Int×Int
 |a::b::r,x,y=>if a=aqM then tW r (EF b) y else tW r x (EF b)
 |_,x,y=>(x,y)
def abT(w0 w1:S)(rest:List S):Event:=
 let k:=HR w0
 if k=1 then⟨1,EF w1,(tW rest (-1) (-1)).1,(tW rest (-1) (-1)).2,0,[]⟩
 else if k=2\/k=3\/k=6 then⟨k,EF w1,0,0,(match rest with|[a]=>K7 a|_=>0),[]⟩
 else if k=5 then⟨k,EF w1,0,0,0,(match rest with|[a]=>a|_=>[])⟩
 else⟨k,EF w1,0,0,0,[]⟩
def abU(s:S):Option Event:=
 match spl [] s with
 |w0::w1::rest=>if 30<s.length\/HR w0=0 then none else if txt (abT w0 w1 rest)=s then some (abT w0 w1 rest)else none
 |_=>none
def EG:S->Int
 |[c]=>if isW ((c.toNat:Int)-65)then(c.toNat:Int)-65 else-1
 |_=> -1
def EH:List S->Int->Int->Option (Int×Int)
 |a::b::r,x,y=>if a=aqM/\x<0/\y<0/\0<=EG b then EH r (EG b) y else if a=Z5/\y<0/\0<=EG b then EH r x (EG b)else none
 |[],x,y=>some (x,y)
 |[_],_,_=>none
def dig(c:UInt8):Bool:=decide (48<=c.toNat)&&decide (c.toNat<=57)
def aAH:S->Int
 |[a]=>if dig a then(a.toNat:Int)-48 else-1
 |[a,b]=>if dig a/\dig b then(if IQ (((a.toNat:Int)-48)*10+((b.toNat:Int)-48))=[a,b]then((a.toNat:Int)-48)*10+((b.toNat:Int)-48)else-1)else-1
 |_=> -1
def akM(w0 w1:S)(rest:List S):Option Event:=
 if EG w1<0 then none else
 if w0=Q9 then(match EH rest (-1) (-1)with|some (x,y)=>some ⟨1,EG w1,x,y,0,[]⟩|none=>none)else
 if w0=W6 then(if rest=[]then some ⟨4,EG w1,0,0,0,[]⟩else none)else
 if w0=K6 then(match rest with|[a]=>some ⟨5,EG w1,0,0,0,a⟩|_=>none)else
 if w0=K4\/w0=K5\/w0=aqL then(match rest with|[a]=>some ⟨if w0=K4 then 2 else if w0=K5 then 3 else 6,EG w1,0,0,aAH a,[]⟩|_=>none)else
 some ⟨0,EG w1,0,0,0,[]⟩
def abV(s:S):Option Event:=
 match spl [] s with
 |w0::w1::rest=>if 30<s.length then none else(match akM w0 w1 rest with|some e=>if txt e=s then some e else none|none=>none)
 |_=>none
theorem isW_iff{w:Int}:isW w=true↔0<=w/\w<=7:=by simp[isW]
def M3(e:Event):Prop:=(txt e).length<=30->abU (txt e)=some e/\abV (txt e)=some e
theorem axP{a b:Event}:(a.kind=b.kind/\a.who=b.who/\a.add=b.add/\a.remove=b.remove/\a.pos=b.pos/\a.text=b.text)↔a=b:=by
 cases a;cases b;rw[Event.mk.injEq]
instance evDec:DecidableEq Event:=fun _ _=>decidable_of_iff _ axP
instance bothDec(e:Event):Decidable (M3 e):=by unfold M3;infer_instance
theorem K8{n:Nat}{w:Int}(h0:0<=w)(h1:w<n):∃k:Fin n,(k.val:Int)=w:=⟨⟨w.toNat,by omega⟩,by simp;omega⟩
end Kw
namespace Kw
open Go Go.Proofs
theorem rz0(a:S)(l:List Row):kF 1 (rS a::l) 0=some (rS a):=rfl
theorem rz1(a:Row)(b:S)(l:List Row):kF 1 (a::rS b::l) 1=some (rS b):=rfl
theorem ahZ(n:Int):(IQ n).length<=2:=by unfold IQ;split<;>simp
theorem JJ(w:Int):(ltr w).length=1:=rfl
end Kw
namespace Kw
open Go Go.Proofs
section
variable (L D:Nat)
theorem kL(a b c:Int):ev E L (D+1) 25 [.int .i64 a,.int .i64 b,.int .i64 c] []=some (.bool (decide (b<=a)&&decide (a<=c)),[]):=by
 rw[ayF];simp only[KM];by_cases h:b<=a<;>simp[h]
theorem qY(a:Int):ev E L (D+2) 35 [.int .i64 a] []=some (.bool (isW a),[]):=by
 rw[ayM];simp only[KM];simp only[K1,kL]
 rfl
theorem U5(w:Int)(h:isW w=true):ev E L (D+1) 124 [.int .i64 w] []=some (.str (bs (ltr w)),[]):=by
 rw[isW_iff]at h;rw[atE];simp only[KM];have a1:bR .i64 65 w=65+w:=bA (by omega) (by omega)
 have a2:nX .i32 (65+w)=65+w:=by
  unfold nX;obtain⟨k,hk⟩:=K8 (n:=8) (w:=w) (by omega) (by omega)
  have hall:∀k:Fin 8,IntKind.wrap .i32 (65+(k.val:Int))=65+(k.val:Int):=by decide+kernel
  rw[<-hk];exact hall k
 have g1:decide ((0:Int)<=65+w)=true:=by rw[jb];omega
 have g2:decide (65+w<128)=true:=by rw[jb];omega
 simp only[K1,aV,a1,a2,g1,g2]
 rfl
theorem apO(s:S)(hs:s.length<=2000000):ev E L (D+3) 84 [.str (bs s)] []=some (.int .i64 (EF s),[]):=by
 rw[azE];simp only[KM]
 match s with
 |[]=>rfl
 |c::r=>
  have hc:=c.toNat_lt;have hix:ix (c::r:S) 0=c:=rfl;have hat:sAt (bs (c::r)) 0=some (c.toNat:Int):=by rw[eD _ _ (by omega) (by simp only[jf];omega),hix]
  have w1:nX .i64 (c.toNat:Int)=c.toNat:=cS (by omega) (by omega)
  have w2:iS .i64 (c.toNat:Int) 65=(c.toNat:Int)-65:=d9 (by omega) (by omega)
  have l0:decide (((c::r:S).length:Int)=0)=false:=by rw[jh];simp only[jf];omega
  have e1:EF (c::r)=if isW ((c.toNat:Int)-65)=true then(c.toNat:Int)-65 else-1:=rfl
  rw[e1,iEq_dec,sLen_bs,l0];simp only[bNot_f,br_true',hat,bnd_some',w1,w2,qY,gBool_b];cases isW ((c.toNat:Int)-65)<;>rfl
theorem aa8(s:S)(hs:s.length<=2000000):∀(m k:Nat),s.length<m+k->k<=s.length->JD L D m (bs s) s.length k=some (.bool (low (s.drop k)&&decide (s.length<=8)),[])
 |0,k,h,hk=>by omega
 |m+1,k,h,hk=>by
  rw[R1];simp only[KM];by_cases hlt:k<s.length
  ·have h1:decide ((k:Int)<s.length)=true:=by rw[jb];omega
   have ih:=aa8 s hs m (k+1) (by omega) (by omega)
   have a1:bR .i64 (k:Int) 1=((k+1:Nat):Int):=aG _ (by omega)
   have e:=qa hlt;have hix:ix s (k:Int)=s[k]:=aK s k hlt;rw[e,low];by_cases h97:97<=(s[k]).toNat
   ·have g1:decide (((s[k]).toNat:Int)<97)=false:=by rw[jh];omega
    by_cases h122:(s[k]).toNat<=122
    ·have g2:decide ((122:Int)< ((s[k]).toNat:Int))=false:=by rw[jh];omega
     simp(disch:=omega) only[K1,h1,a1,hix,g1,g2,ih,eD,h97,h122,jy]
    ·have g2:decide ((122:Int)< ((s[k]).toNat:Int))=true:=by rw[jb];omega
     simp(disch:=omega) only[K1,h1,hix,g1,g2,eD,h97,h122,z0,Bool.and_false]
   ·have g1:decide (((s[k]).toNat:Int)<97)=true:=by rw[jb];omega
    simp(disch:=omega) only[K1,h1,hix,g1,eD,h97,z0]
  ·have h1:decide ((k:Int)<s.length)=false:=by rw[jh];omega
   have e:s.drop k=[]:=wx (by omega)
   rw[e];by_cases h8:s.length<=8
   ·have g:decide ((s.length:Int)<=8)=true:=by rw[jb];omega
    simp(disch:=omega) only[K1,h1,low,g,h8]
   ·have g:decide ((s.length:Int)<=8)=false:=by rw[jh];omega
    simp(disch:=omega) only[K1,h1,low,g,h8,jy]
theorem azY(hL:1099511627776<=L)(s:S)(hs:s.length<=2000000):ev E L (D+1) 82 [.str (bs s)] []=some (.bool (frT s),[]):=by
 rw[azD];have:=aa8 L D s hs L 0 (by omega) (by omega)
 rw[show((0:Nat):Int)=0 from rfl]at this
 rw[sLen_bs,this,qb];unfold frT;rw[Bool.and_comm]
def PY(s:S):Bool:=match Lib.atoiAll s with| .ok _=>true|_=>false
theorem aw4(s:S)(hs:s.length<=2000000):ev E L (D+1) 146 [.str (bs s)] []=some (.tup [.int .i64 (K7 s),.iface (PY s)],[]):=by
 have h:E.ext 146=some HH:=rfl;have h2:HH [.str (bs s)]=some (.tup [.int .i64 (K7 s),.iface (PY s)]):=by
  have e:(bs s).size<=2000000:=hs;have e2:(bs s).data.toList=s:=rfl;unfold HH K7 PY;simp only[e,e2,ju];cases Lib.atoiAll s<;>rfl
 unfold ev;simp only[h,h2]
 rfl
theorem aw5(n:Int)(h0:0<=n)(h1:n<=99):ev E L (D+1) 125 [.int .i64 n] []=some (.str (bs (IQ n)),[]):=by
 have h:E.ext 125=some DY:=rfl;have h2:DY [.int .i64 n]=some (.str (bs (IQ n))):=by
  unfold DY;simp only;rw[je (by omega)]
  rfl
 unfold ev;simp only[h,h2]
 rfl
end
end Kw
namespace Kw
open Go Go.Proofs
def U6(s t:S):Bool:=decide (t.length<=s.length)&&decide (s.take t.length=t)
def qA:S->Int×S
 |[]=>(0,[])
 |d::r=>if 49<=d.toNat/\d.toNat<=57 then(match r with
   |e::r2=>if 48<=e.toNat/\e.toNat<=57 then(((d.toNat:Int)-48)*10+((e.toNat:Int)-48),r2)else((d.toNat:Int)-48,r)
   |[]=>((d.toNat:Int)-48,r))else(0,d::r)
theorem tE(d:UInt8)(r:S):qA (d::r)=if 49<=d.toNat/\d.toNat<=57 then(match r with
 |e::r2=>if 48<=e.toNat/\e.toNat<=57 then(((d.toNat:Int)-48)*10+((e.toNat:Int)-48),r2)else((d.toNat:Int)-48,r)
 |[]=>((d.toNat:Int)-48,r))else(0,d::r):=rfl
theorem PZ(b:Bool):gIf (.iface b)=some b:=(rfl)
theorem ai0{d:UInt8}(h:48<=d.toNat/\d.toNat<=57):∃k:Fin 10,d=UInt8.ofNat (48+k.val)/\(d.toNat:Int)-48=k.val:=by
 refine⟨⟨d.toNat-48,by omega⟩,?_,?_⟩
 ·apply UInt8.toNat_inj.1;rw[UInt8.toNat_ofNat'];simp only;omega
 ·simp only;omega
theorem aa9:K7 []=0/\PY []=false:=by decide+kernel
theorem apP:∀k:Fin 10,K7 [UInt8.ofNat (48+k.val)]=k.val/\PY [UInt8.ofNat (48+k.val)]=true:=by decide+kernel
theorem apQ:∀k j:Fin 10,K7 [UInt8.ofNat (48+k.val),UInt8.ofNat (48+j.val)]=(k.val:Int)*10+j.val/\PY [UInt8.ofNat (48+k.val),UInt8.ofNat (48+j.val)]=true:=by decide+kernel
section
variable (L D:Nat)
theorem aoF(s t:S):ev E L (D+1) 147 [.str (bs s),.str (bs t)] []=some (.bool (U6 s t),[]):=by
 rw[atN];simp only[KM];unfold U6;by_cases h:t.length<=s.length
 ·have h1:decide ((t.length:Int)<=s.length)=true:=by rw[jb];omega
  have h0:decide ((0:Int)<=t.length)=true:=by rw[jb];omega
  have h00:decide ((0:Int)<=0)=true:=rfl;simp(disch:=omega) only[K1,aV,jW,Int.reduceLE,ki,h1,h0,h,jy]
  rfl
 ·have h1:decide ((t.length:Int)<=s.length)=false:=by rw[jh];omega
  simp(disch:=omega) only[K1,h1,h,z0]
theorem aw6(s t:S):ev E L (D+2) 86 [.str (bs s),.str (bs t)] []=some (.bool (U6 s t),[]):=by
 rw[azG];simp only[KM];simp only[K1,aoF]
theorem ai1(hL:1099511627776<=L)(s:S)(hs:s.length<=2000000):ev E L (D+2) 85 [.str (bs s)] []=some (.tup [.int .i64 (qA s).1,.str (bs (qA s).2)],[]):=by
 rw[azF];obtain⟨m,rfl⟩:∃m,L=m+3:=⟨L-3,by omega⟩
 have hA:=aw4 (m+3) D;have o0:decide ((0:Int)<=0)=true:=rfl;have a0:bR .i64 0 1=1:=rfl;have a1:bR .i64 1 1=2:=rfl;have d02:decide ((0:Int)<2)=true:=rfl;have d12:decide ((1:Int)<2)=true:=rfl;have d22:decide ((2:Int)<2)=false:=rfl;have o1:decide ((0:Int)<=1)=true:=rfl;have o2:decide ((0:Int)<=2)=true:=rfl
 match s with
 |[]=>
  have h0:=hA [] (by simp)
  rw[aa9.1,aa9.2]at h0;rw[o7];simp only[KM];simp only[K1,kI,mM,cN,jW,Int.reduceLE,Int.reduceLT,Nat.reduceAdd,ki,List.take_nil,List.drop_nil,h0,qA]
  rfl
 |d::r=>
  have hl:decide ((0:Int)< ((r.length+1:Nat):Int))=true:=by rw[jb];omega
  have hl':decide ((0:Int)<=((r.length+1:Nat):Int))=true:=by rw[jb];omega
  have hll:decide (((r.length+1:Nat):Int)<=((r.length+1:Nat):Int))=true:=by rw[jb];omega
  have hl1:decide ((1:Int)<=((r.length+1:Nat):Int))=true:=by rw[jb];omega
  have hat:sAt (bs (d::r)) 0=some (d.toNat:Int):=by rw[eD _ _ (by omega) (by simp only[jf];omega)];rfl
  rw[o7];simp only[KM];have hto:Int.toNat 0=0:=rfl;by_cases hd:48<=d.toNat/\d.toNat<=57
  ·have g1:decide ((48:Int)<=(d.toNat:Int))=true:=by rw[jb];omega
   have g2:decide ((d.toNat:Int)<=57)=true:=by rw[jb];omega
   simp only[sLen_bs,jf,iLt_dec,iLe_dec,hl,d02,br_true',hat,bnd_some',g1,g2,a0];obtain⟨k,ek,evk⟩:=ai0 hd;have one:∀q:S,q=d::r->(∀e r2,r=e::r2->¬(48<=e.toNat/\e.toNat<=57))->qA (d::r)=if 49<=d.toNat then((d.toNat:Int)-48,r)else(0,d::r):=fun q _ hn=>by
    rw[tE];by_cases h49:49<=d.toNat
    ·rw[je ⟨h49,hd.2⟩,je h49];cases r with
     |nil=>rfl
     |cons e r2=>simp only;rw[jc (hn e r2 rfl)]
    ·rw[jc (fun x=>h49 x.1),jc h49]
   have h1:=hA [d] (by simp)
   rw[ek,(apP k).1,(apP k).2,<-ek,<-evk]at h1;have s1:nA (bs (d::r)) 0 1=bs [d]:=by rw[jW];rfl
   have s2:nA (bs (d::r)) 1 ((r.length+1:Nat):Int)=bs r:=by rw[jW,ki,<-jf (a:=d),Jg];rfl
   have fin1:(∀e r2,r=e::r2->¬(48<=e.toNat/\e.toNat<=57))->
    (br (d5 (iLe 0 0) (d5 (iLe 0 1) (iLe 1 (sLen (bs (d::r)))))) (bnd (ev E (m+3) (D+1) 146 [MV.str (nA (bs (d::r)) 0 1)] []) fun r'=>bnd (OK 2 r'.1) fun vs=>bnd (eI IntKind.i64 (aC vs 0)) fun n=>bnd (gIf (aC vs 1)) fun b=>br (bNot (bNot b)) (bnd (sAt (bs (d::r)) 0) fun b=>br (iEq b 48) (some (MV.tup [MV.int IntKind.i64 0,MV.str (bs (d::r))],([]:List Obj))) (br (d5 (iLe 0 1) (d5 (iLe 1 (sLen (bs (d::r)))) (iLe (sLen (bs (d::r))) (sLen (bs (d::r)))))) (some (MV.tup [MV.int IntKind.i64 n,MV.str (nA (bs (d::r)) 1 (sLen (bs (d::r))))],[])) none)) (some (MV.tup [MV.int IntKind.i64 0,MV.str (bs (d::r))],[]))) none)=some (.tup [.int .i64 (qA (d::r)).1,.str (bs (qA (d::r)).2)],[]):=fun hn=>by
    rw[one (d::r) rfl hn];by_cases h49:49<=d.toNat
    ·have q:decide ((d.toNat:Int)=48)=false:=by rw[jh];omega
     rw[je h49];simp only[K1,aV,Int.reduceLE,Nat.reduceAdd,s1,s2,h1,hat,q,hl1,hll,PZ]
    ·have q:decide ((d.toNat:Int)=48)=true:=by rw[jb];omega
     rw[jc h49];simp only[K1,aV,Int.reduceLE,Nat.reduceAdd,s1,h1,hat,q,hl1,PZ]
   rw[o7];simp only[KM]
   match r with
   |[]=>
    have hz:iLt 1 (sLen (bs [d]))=false:=rfl;rw[hz,br_false'];exact fin1 (fun e r2 h=>by cases h)
   |e::r2=>
    have hz:iLt 1 (sLen (bs (d::e::r2)))=true:=by rw[sLen_bs,iLt_dec,jb];simp only[jf];omega
    have hat1:sAt (bs (d::e::r2)) 1=some (e.toNat:Int):=by rw[eD _ _ (by omega) (by simp only[jf];omega)];rfl
    have h12:iLt 1 2=true:=rfl;rw[hz,br_true',h12,br_true',hat1,bnd_some'];by_cases he:48<=e.toNat/\e.toNat<=57
    ·have g3:iLe 48 (e.toNat:Int)=true:=by rw[iLe_dec,jb];omega
     have g4:iLe (e.toNat:Int) 57=true:=by rw[iLe_dec,jb];omega
     rw[g3,br_true',bnd_some',g4,br_true',a1,o7];simp only[KM];have l22:iLt 2 2=false:=rfl;obtain⟨j,ej,evj⟩:=ai0 he;have h2:=hA [d,e] (by simp)
     rw[ek,ej,(apQ k j).1,(apQ k j).2,<-ek,<-ej,<-evk,<-evj]at h2;have s3:nA (bs (d::e::r2)) 0 2=bs [d,e]:=by rw[jW];rfl
     have s4:nA (bs (d::e::r2)) 2 ((r2.length+1+1:Nat):Int)=bs r2:=by rw[jW,ki,<-jf (a:=e),<-jf (a:=d),Jg];rfl
     have hl2:decide ((2:Int)<=((r2.length+1+1:Nat):Int))=true:=by rw[jb];omega
     have hll2:decide (((r2.length+1+1:Nat):Int)<=((r2.length+1+1:Nat):Int))=true:=by rw[jb];omega
     rw[l22];have hv:qA (d::e::r2)=if 49<=d.toNat then(((d.toNat:Int)-48)*10+((e.toNat:Int)-48),r2)else(0,d::e::r2):=by
      rw[tE];by_cases h49:49<=d.toNat
      ·rw[je ⟨h49,hd.2⟩,je h49];simp only;rw[je he]
      ·rw[jc (fun x=>h49 x.1),jc h49]
     rw[hv];by_cases h49:49<=d.toNat
     ·have q:decide ((d.toNat:Int)=48)=false:=by rw[jh];omega
      rw[je h49];cases iLt 2 (sLen (bs (d::e::r2)))<;>simp only[K1,aV,Int.reduceLE,Nat.reduceAdd,s3,s4,h2,hat,q,hl2,hll2,PZ]
     ·have q:decide ((d.toNat:Int)=48)=true:=by rw[jb];omega
      rw[jc h49];cases iLt 2 (sLen (bs (d::e::r2)))<;>simp only[K1,aV,Int.reduceLE,Nat.reduceAdd,s3,h2,hat,q,hl2,PZ]
    ·have hn:∀e' r2',e::r2=e'::r2'->¬(48<=e'.toNat/\e'.toNat<=57):=fun e' r2' h=>by cases h;exact he
     by_cases g:48<=e.toNat
     ·have g3:iLe 48 (e.toNat:Int)=true:=by rw[iLe_dec,jb];omega
      have g4:iLe (e.toNat:Int) 57=false:=by rw[iLe_dec,jh];omega
      rw[g3,br_true',bnd_some',g4,br_false'];exact fin1 hn
     ·have g3:iLe 48 (e.toNat:Int)=false:=by rw[iLe_dec,jh];omega
      rw[g3,br_false'];exact fin1 hn
  ·have h0:=hA [] (by simp)
   rw[aa9.1,aa9.2]at h0;have hv:qA (d::r)=(0,d::r):=by
    rw[tE,jc (by omega)]
   have s1:nA (bs (d::r)) 0 0=bs []:=by rw[jW];rfl
   rw[hv];by_cases g:48<=d.toNat
   ·have g1:decide ((48:Int)<=(d.toNat:Int))=true:=by rw[jb];omega
    have g2:decide ((d.toNat:Int)<=57)=false:=by rw[jh];omega
    simp only[K1,aV,Int.reduceLE,Int.reduceLT,Nat.reduceAdd,hl,hl',hat,g1,g2,s1,h0,PZ]
   ·have g1:decide ((48:Int)<=(d.toNat:Int))=false:=by rw[jh];omega
    simp only[K1,aV,Int.reduceLE,Int.reduceLT,Nat.reduceAdd,hl,hl',hat,g1,s1,h0,PZ]
end
end Kw
namespace Kw
open Go Go.Proofs
def hC(h:How):List MV:=[.int .i64 h.op,.int .i64 h.who,.int .i64 h.n,.str (bs h.a),.str (bs h.b)]
def P0(s:S):MV:=match pars s with
 |some (x,r)=>.tup [.agg (hC x.how),.str (bs r),.bool true]
 |none=>.tup [.agg [.int .i64 0,.int .i64 0,.int .i64 0,.str (bs []),.str (bs [])],.str (bs s),.bool false]
theorem eB{s:S}{x:Sec}{r:S}(h:pars s=some (x,r)):P0 s=.tup [.agg [.int .i64 x.how.op,.int .i64 x.how.who,.int .i64 x.how.n,.str (bs x.how.a),.str (bs x.how.b)],.str (bs r),.bool true]:=by unfold P0;rw[h];rfl
theorem bW{s:S}(h:pars s=none):P0 s=.tup [.agg [.int .i64 0,.int .i64 0,.int .i64 0,.str (bs []),.str (bs [])],.str (bs s),.bool false]:=by unfold P0;rw[h]
theorem aaG{c:UInt8}{t:S}(h:¬(65<=c.toNat/\c.toNat<=72)):EF (c::t)= -1:=by
 show(if isW ((c.toNat:Int)-65)=true then(c.toNat:Int)-65 else-1)= -1
 rw[jc];rw[isW_iff];omega
theorem U8{c:UInt8}{t:S}(h:65<=c.toNat/\c.toNat<=72):EF (c::t)=(c.toNat:Int)-65:=by
 show(if isW ((c.toNat:Int)-65)=true then(c.toNat:Int)-65 else-1)=_
 rw[je];rw[isW_iff];omega
theorem wI(u r:S)(h:(u++r).length<=2000000):iS .i64 (sLen (bs (u++r))) (sLen (bs r))=u.length:=by
 rw[sLen_bs,sLen_bs];have:(u++r).length=u.length+r.length:=jl;rw[d9 (by omega) (by omega)];omega
theorem BP(u r:S):nA (bs (u++r)) 0 (u.length:Int)=bs u:=by
 rw[jW,ki];simp
theorem lK(u r:S)(h:(u++r).length<=2000000):d5 (iLe 0 0) (d5 (iLe 0 (iS .i64 (sLen (bs (u++r))) (sLen (bs r)))) (iLe (iS .i64 (sLen (bs (u++r))) (sLen (bs r))) (sLen (bs (u++r)))))=true:=by
 rw[wI u r h,sLen_bs,iLe_dec,iLe_dec,iLe_dec];have h1:(u++r).length=u.length+r.length:=jl;have a:decide ((0:Int)<=u.length)=true:=by rw[jb];omega
 have b:decide ((u.length:Int)<=(u++r).length)=true:=by rw[jb];omega
 rw[a,b];rfl
theorem aaH(c:UInt8)(t:S):nA (bs (c::t)) 1 (sLen (bs (c::t)))=bs t:=by
 rw[sLen_bs,jW,ki,Jg];rfl
theorem FZ(c:UInt8)(t:S):d5 (iLe 0 1) (d5 (iLe 1 (sLen (bs (c::t)))) (iLe (sLen (bs (c::t))) (sLen (bs (c::t)))))=true:=by
 rw[sLen_bs,iLe_dec,iLe_dec,iLe_dec];have a:decide ((1:Int)<=(c::t:S).length)=true:=by rw[jb];simp only[jf];omega
 have b:decide (((c::t:S).length:Int)<=(c::t:S).length)=true:=by rw[jb];omega
 rw[a,b];rfl
theorem at0(c:UInt8)(t:S):sAt (bs (c::t)) 0=some (c.toNat:Int):=by rw[eD _ _ (by omega) (by simp only[jf];omega)];rfl
theorem aiB(c:UInt8)(k:UInt8):iEq (c.toNat:Int) (k.toNat:Int)=decide (c=k):=by
 rw[iEq_dec];by_cases h:c=k
 ·subst h;simp
 ·rw[ji h,jh];intro e;exact h (UInt8.toNat_inj.1 (by omega))
theorem aiC:pars []=none:=rfl
theorem ME(s:S):U6 s [59]=match s with|[]=>false|e::_=>decide (e=59):=by
 unfold U6;cases s with
 |nil=>rfl
 |cons e r=>
  have h1:([59]:S).length<=(e::r:S).length:=by simp
  have h2:(e::r:S).take ([59]:S).length=[e]:=rfl;rw[jd h1,h2,jy];simp
theorem adS(c:UInt8)(t:S)(hc:65<=c.toNat/\c.toNat<=72):pFresh (c::t)=
 if(qA t).1≠0/\U6 (qA t).2 [59]=true then some (.new (c.toNat-65) (qA t).1.toNat,(qA t).2.drop 1)else none:=by
 match t with
 |[]=>rfl
 |d::r=>
  rw[tE];by_cases hd:49<=d.toNat/\d.toNat<=57
  ·rw[je hd]
   match r with
   |[]=>
    have h1:pFresh (c::d::[])=if(65<=c.toNat/\c.toNat<=72)/\49<=d.toNat/\d.toNat<=57 then none else none:=rfl
    rw[h1,je ⟨hc,hd⟩];simp only[ME];rw[jc (by simp)]
   |e::r2=>
    have h1:pFresh (c::d::e::r2)=if(65<=c.toNat/\c.toNat<=72)/\49<=d.toNat/\d.toNat<=57 then
     (if e=59 then some (.new (c.toNat-65) (d.toNat-48),r2)else if 48<=e.toNat/\e.toNat<=57 then(match r2 with
      |[]=>none
      |f::r=>if f=59 then some (.new (c.toNat-65) ((d.toNat-48)*10+(e.toNat-48)),r)else none)else none)else none:=rfl
    rw[h1,je ⟨hc,hd⟩];simp only;by_cases he:48<=e.toNat/\e.toNat<=57
    ·have e59:¬e=59:=fun x=>by subst x;revert he;decide
     rw[jc e59,je he,je he];have hv:((d.toNat:Int)-48)*10+((e.toNat:Int)-48)≠0:=by omega
     have ht:(((d.toNat:Int)-48)*10+((e.toNat:Int)-48)).toNat=(d.toNat-48)*10+(e.toNat-48):=by omega
     rw[ht]
     match r2 with
     |[]=>simp only[ME];rw[jc (by simp)]
     |f::r3=>
      simp only[ME];by_cases hf:f=59
      ·rw[je hf,je ⟨hv,by rw[hf];rfl⟩];rfl
      ·rw[jc hf,jc (fun x=>hf (by simpa using x.2))]
    ·rw[jc he,jc he];have hv:(d.toNat:Int)-48≠0:=by omega
     have ht:((d.toNat:Int)-48).toNat=d.toNat-48:=by omega
     rw[ht];simp only[ME];by_cases hf:e=59
     ·rw[je hf,je ⟨hv,by rw[hf];rfl⟩];rfl
     ·rw[jc hf,jc (fun x=>hf (by simpa using x.2))]
  ·rw[jc hd];have h1:pFresh (c::d::r)=none:=by
    show(if(65<=c.toNat/\c.toNat<=72)/\49<=d.toNat/\d.toNat<=57 then _ else none)=none
    rw[jc (fun x=>hd x.2)]
   rw[h1,jc (by simp)]
theorem aiD(t:S):0<=(qA t).1/\(qA t).1<=99/\(qA t).2.length<=t.length:=by
 match t with
 |[]=>exact⟨by decide,by decide,by decide⟩
 |d::r=>
  rw[tE];have:=d.toNat_lt;split
  ·match r with
   |[]=>simp only[jk,jf];omega
   |e::r2=>
    simp only;have:=e.toNat_lt;split<;>simp only[jf]<;>omega
  ·simp
section
variable (L D:Nat)
theorem YD(hL:1099511627776<=L):∀(n:Nat) (s:S),s.length<=n->s.length<=1000000->ev E L (D+4+n) 46 [.str (bs s)] []=some (P0 s,[])
 |n,[],_,_=>by
  rw[show D+4+n=(D+3+n)+1 by omega,apM];simp only[KM]
  rw[bW aiC,show sEq (bs []) (bs [])=true from by rw[sEq_bs];rfl,br_true']
 |0,c::t,h,_=>by simp at h
 |n+1,c::t,h,hs=>by
  have hsl:t.length<=1000000:=by simp only[jf]at hs;omega
  have htn:t.length<=n:=by simp only[jf]at h;omega
  have ih:=YD hL n t htn hsl;have ihr:∀r:S,r.length<=t.length->ev E L (D+4+n) 46 [.str (bs r)] []=some (P0 r,[]):=fun r hr=>YD hL n r (by omega) (by omega)
  rw[show D+4+(n+1)=(D+4+n)+1 by omega,apM];simp only[KM]
  have e0:sEq (bs (c::t)) (bs [])=false:=by rw[sEq_bs];rfl
  have ho:=apO L (D+1+n) (c::t) (by omega)
  rw[show D+1+n+3=D+4+n by omega]at ho
  have hnum:=ai1 L (D+2+n) hL t (by omega)
  rw[show D+2+n+2=D+4+n by omega]at hnum
  have hpre:∀a b:S,ev E L (D+4+n) 86 [.str (bs a),.str (bs b)] []=some (.bool (U6 a b),[]):=fun a b=>by
   have:=aw6 L (D+2+n) a b;rw[show D+2+n+2=D+4+n by omega]at this
   exact this
  rw[e0,br_false',ho];simp only[bnd_some',gInt_i,FZ,aaH,br_true',at0];have c110:iEq (c.toNat:Int) 110=decide (c=110):=aiB c 110;have c107:iEq (c.toNat:Int) 107=decide (c=107):=aiB c 107;have c101:iEq (c.toNat:Int) 101=decide (c=101):=aiB c 101;have c109:iEq (c.toNat:Int) 109=decide (c=109):=aiB c 109;have c114:iEq (c.toNat:Int) 114=decide (c=114):=aiB c 114;have hc:=c.toNat_lt;by_cases hA:65<=c.toNat/\c.toNat<=72
  ·rw[U8 hA];have g:iLe 0 ((c.toNat:Int)-65)=true:=by rw[iLe_dec,jb];omega
   rw[g,br_true',hnum];simp only[gTupN_if,cellAt_zero,cellAt_succ,jf,jk,ju,bnd_some',gInt_i,gStr_s];have hne:¬c=110/\¬c=107/\¬c=109/\¬c=114/\¬c=101:=⟨fun e=>by subst e;revert hA;decide,fun e=>by subst e;revert hA;decide,fun e=>by subst e;revert hA;decide,fun e=>by subst e;revert hA;decide,fun e=>by subst e;revert hA;decide⟩
   have hp:pars (c::t)=pFresh (c::t):=by rw[bX,jc hne.1,jc hne.2.1,jc hne.2.2.1,jc hne.2.2.2.1,jc hne.2.2.2.2]
   rw[adS c t hA]at hp;obtain⟨v0,v1,vl⟩:=aiD t;by_cases hz:(qA t).1=0
   ·rw[jc (fun x=>x.1 hz)]at hp
    have hq:iEq (qA t).1 0=true:=by rw[iEq_dec];exact jd hz
    rw[bW hp,hq]
    rfl
   ·have hq:iEq (qA t).1 0=false:=by rw[iEq_dec];exact ji hz
    rw[hq,bNot_f,br_true',hpre,bnd_some',gBool_b];cases hh:U6 (qA t).2 [59]with
    |false=>
     rw[jc (fun x=>by rw[hh]at x;exact absurd x.2 (by simp))]at hp
     rw[bW hp]
     rfl
    |true=>
     rw[je ⟨hz,hh⟩]at hp;rw[eB hp];rw[ME]at hh
     match hn2:(qA t).2 with
     |[]=>rw[hn2]at hh;cases hh
     |e::r=>
      rw[bnd_some',bNot_t,br_false',FZ,br_true',aaH];have hwi:((c.toNat-65:Nat):Int)=(c.toNat:Int)-65:=by omega
      have hni:(((qA t).1.toNat:Nat):Int)=(qA t).1:=by omega
      rw[<-hwi]
      conv=>lhs;rw[<-hni]
      rfl
  ·rw[aaG hA];have g:iLe 0 (-1)=false:=rfl;rw[g,br_false',c110,c107,c101,c109,c114];by_cases h110:c=110
   ·rw[jd h110,br_true',ih,bnd_some'];have hp:pars (c::t)=match pars t with|some (x,r)=>some (.next x,r)|none=>none:=by rw[bX,je h110];try rfl
    cases hpt:pars t with
    |none=>
     rw[hpt]at hp;rw[bW hp,bW hpt];have h1:=lK [] t (by simp;omega)
     rw[qg]at h1;simp only[gTupN_if,gAggN_if,cellAt_zero,cellAt_succ,jf,jk,ju,bnd_some',gInt_i,gStr_s,gBool_b,br_true',br_false',h1,bNot_f]
    |some q=>
     obtain⟨x,r⟩:=q;rw[hpt]at hp;obtain⟨hwf,ht⟩:=iO hpt;rw[eB hp,eB hpt];have h1:=lK x.str r (by rw[<-ht];omega)
     have h2:=wI x.str r (by rw[<-ht];omega)
     have h3:=BP x.str r;rw[<-ht]at h1 h2 h3;rw[h2]at h1;have ho4:iEq 2 4=false:=rfl;simp only[gTupN_if,gAggN_if,cellAt_zero,cellAt_succ,jf,jk,ju,bnd_some',gInt_i,gStr_s,gBool_b,br_true',br_false',h2,h3,h1,bNot_t,ho4]
     rfl
   rw[ji h110,br_false'];by_cases h107:c=107
   ·rw[jd h107,br_true',ih,bnd_some'];have hp:pars (c::t)=match pars t with|some (x,r)=>some (.key x,r)|none=>none:=by rw[bX,jc h110,je h107];try rfl
    cases hpt:pars t with
    |none=>
     rw[hpt]at hp;rw[bW hp,bW hpt];have h1:=lK [] t (by simp;omega)
     rw[qg]at h1;simp only[gTupN_if,gAggN_if,cellAt_zero,cellAt_succ,jf,jk,ju,bnd_some',gInt_i,gStr_s,gBool_b,br_true',br_false',h1,bNot_f]
    |some q=>
     obtain⟨x,r⟩:=q;rw[hpt]at hp;obtain⟨hwf,ht⟩:=iO hpt;rw[eB hp,eB hpt];have h1:=lK x.str r (by rw[<-ht];omega)
     have h2:=wI x.str r (by rw[<-ht];omega)
     have h3:=BP x.str r;rw[<-ht]at h1 h2 h3;rw[h2]at h1;have ho4:iEq 3 4=false:=rfl;simp only[gTupN_if,gAggN_if,cellAt_zero,cellAt_succ,jf,jk,ju,bnd_some',gInt_i,gStr_s,gBool_b,br_true',br_false',h2,h3,h1,bNot_t,ho4]
     rfl
   rw[ji h107,br_false'];by_cases h101:c=101
   ·have n109:¬c=109:=by rw[h101];decide
    have n114:¬c=114:=by rw[h101];decide
    rw[jd h101,br_true',ih,bnd_some'];have hp:pars (c::t)=match pars t with|some (x,r)=>(match pars r with|some (y,r)=>some (.epoch x y,r)|none=>none)|none=>none:=by rw[bX,jc h110,jc h107,jc n109,jc n114,je h101];try rfl
    cases hpt:pars t with
    |none=>
     rw[hpt]at hp;rw[bW hp,bW hpt];have h1:=lK [] t (by simp;omega)
     rw[qg]at h1;simp only[gTupN_if,gAggN_if,cellAt_zero,cellAt_succ,jf,jk,ju,bnd_some',gInt_i,gStr_s,gBool_b,br_true',br_false',h1,bNot_f]
    |some q=>
     obtain⟨x,r⟩:=q;rw[hpt]at hp;simp only at hp;obtain⟨hwf,ht⟩:=iO hpt;rw[eB hpt];have hrl:r.length<=t.length:=by rw[ht];simp
     have h1:=lK x.str r (by rw[<-ht];omega)
     have h2:=wI x.str r (by rw[<-ht];omega)
     have h3:=BP x.str r;rw[<-ht]at h1 h2 h3;rw[h2]at h1;have ho4:iEq 4 4=true:=rfl;simp only[gTupN_if,gAggN_if,cellAt_zero,cellAt_succ,jf,jk,ju,bnd_some',gInt_i,gStr_s,gBool_b,br_true',br_false',h2,h3,h1,bNot_t,ho4,ihr r hrl];cases hpr:pars r with
     |none=>
      rw[hpr]at hp;rw[bW hp,bW hpr];have k1:=lK [] r (by simp;omega)
      rw[qg]at k1;simp only[gTupN_if,gAggN_if,cellAt_zero,cellAt_succ,jf,jk,ju,bnd_some',gInt_i,gStr_s,gBool_b,br_true',k1,bNot_f]
     |some q=>
      obtain⟨y,r'⟩:=q;rw[hpr]at hp;obtain⟨hwf',hr⟩:=iO hpr;rw[eB hp,eB hpr];have k1:=lK y.str r' (by rw[<-hr];omega)
      have k2:=wI y.str r' (by rw[<-hr];omega)
      have k3:=BP y.str r';rw[<-hr]at k1 k2 k3;rw[k2]at k1;simp only[gTupN_if,gAggN_if,cellAt_zero,cellAt_succ,jf,jk,ju,bnd_some',gInt_i,gStr_s,gBool_b,br_true',br_false',k2,k3,k1,bNot_t]
      rfl
   rw[ji h101,br_false'];by_cases h109:c=109
   ·rw[jd h109,br_true'];have hot:=apO L (D+1+n) t (by omega)
    rw[show D+1+n+3=D+4+n by omega]at hot
    rw[hot];simp only[bnd_some',gInt_i]
    match t with
    |[]=>
     have hp:pars [c]=none:=by rw[bX,jc h110,jc h107,je h109]
     rw[bW hp]
     rfl
    |w::t'=>
     have hp:pars (c::w::t')=if 65<=w.toNat/\w.toNat<=72 then(match pars t' with|some (x,r)=>some (.say (w.toNat-65) x,r)|none=>none)else none:=by rw[bX,jc h110,jc h107,je h109];try rfl
     by_cases hw:65<=w.toNat/\w.toNat<=72
     ·rw[je hw]at hp;rw[U8 hw];have g:iLt ((w.toNat:Int)-65) 0=false:=by rw[iLt_dec,jh];omega
      have htl':t'.length<=(w::t':S).length:=by simp
      have hs':t'.length<=1000000:=by simp only[jf]at hsl;omega
      rw[g,br_false',FZ,br_true',aaH,ihr t' htl',bnd_some'];have hwi:((w.toNat-65:Nat):Int)=(w.toNat:Int)-65:=by omega
      cases hpt:pars t' with
      |none=>
       rw[hpt]at hp;rw[bW hp,bW hpt];have h1:=lK [] t' (by simp;omega)
       rw[qg]at h1;simp only[gTupN_if,gAggN_if,cellAt_zero,cellAt_succ,jf,jk,ju,bnd_some',gInt_i,gStr_s,gBool_b,br_true',br_false',h1,bNot_f]
      |some q=>
       obtain⟨x,r⟩:=q;rw[hpt]at hp;obtain⟨hwf,ht⟩:=iO hpt;rw[eB hp,eB hpt];have h1:=lK x.str r (by rw[<-ht];omega)
       have h2:=wI x.str r (by rw[<-ht];omega)
       have h3:=BP x.str r;rw[<-ht]at h1 h2 h3;rw[h2]at h1;have ho4:iEq 5 4=false:=rfl;simp only[gTupN_if,gAggN_if,cellAt_zero,cellAt_succ,jf,jk,ju,bnd_some',gInt_i,gStr_s,gBool_b,br_true',br_false',h2,h3,h1,bNot_t,ho4];rw[<-hwi];rfl
     ·rw[jc hw]at hp;rw[bW hp,aaG hw]
      rfl
   rw[ji h109,br_false'];by_cases h114:c=114
   ·rw[jd h114,br_true']
    match t with
    |[]=>
     have hp:pars [c]=none:=by rw[bX,jc h110,jc h107,jc h109,je h114]
     rw[bW hp,show sEq (bs []) (bs [])=true from by rw[sEq_bs];rfl]
     rfl
    |w::t'=>
     have hp:pars (c::w::t')=if 49<=w.toNat/\w.toNat<=57 then(match pars t' with|some (x,r)=>some (.room (w.toNat-48) x,r)|none=>none)else none:=by rw[bX,jc h110,jc h107,jc h109,je h114];try rfl
     have hz:sEq (bs (w::t')) (bs [])=false:=by rw[sEq_bs];rfl
     have hwn:=w.toNat_lt;rw[hz,bNot_f,br_true',at0,bnd_some'];by_cases hw:49<=w.toNat/\w.toNat<=57
     ·rw[je hw]at hp;have g1:iLt (w.toNat:Int) 49=false:=by rw[iLt_dec,jh];omega
      have g2:iLt 57 (w.toNat:Int)=false:=by rw[iLt_dec,jh];omega
      have htl':t'.length<=(w::t':S).length:=by simp
      have hs':t'.length<=1000000:=by simp only[jf]at hsl;omega
      rw[g1,bNot_f,br_true',bnd_some',g2,br_false',bnd_some',FZ,br_true',aaH,ihr t' htl',bnd_some'];have w1:iS .u8 (w.toNat:Int) 48=(w.toNat:Int)-48:=CV (by omega) (by omega)
      have w2:nX .i64 ((w.toNat:Int)-48)=(w.toNat:Int)-48:=cS (by omega) (by omega)
      have hwi:((w.toNat-48:Nat):Int)=(w.toNat:Int)-48:=by omega
      simp only[w1,w2];cases hpt:pars t' with
      |none=>
       rw[hpt]at hp;rw[bW hp,bW hpt];have h1:=lK [] t' (by simp;omega)
       rw[qg]at h1;simp only[gTupN_if,gAggN_if,cellAt_zero,cellAt_succ,jf,jk,ju,bnd_some',gInt_i,gStr_s,gBool_b,br_true',br_false',h1,bNot_f]
      |some q=>
       obtain⟨x,r⟩:=q;rw[hpt]at hp;obtain⟨hwf,ht⟩:=iO hpt;rw[eB hp,eB hpt];have h1:=lK x.str r (by rw[<-ht];omega)
       have h2:=wI x.str r (by rw[<-ht];omega)
       have h3:=BP x.str r;rw[<-ht]at h1 h2 h3;rw[h2]at h1;have ho4:iEq 6 4=false:=rfl;simp only[gTupN_if,gAggN_if,cellAt_zero,cellAt_succ,jf,jk,ju,bnd_some',gInt_i,gStr_s,gBool_b,br_true',br_false',h2,h3,h1,bNot_t,ho4];rw[<-hwi];rfl
     ·rw[jc hw]at hp;rw[bW hp];by_cases g:49<=w.toNat
      ·have g1:iLt (w.toNat:Int) 49=false:=by rw[iLt_dec,jh];omega
       have g2:iLt 57 (w.toNat:Int)=true:=by rw[iLt_dec,jb];omega
       rw[g1,bNot_f,br_true',bnd_some',g2]
       rfl
      ·have g1:iLt (w.toNat:Int) 49=true:=by rw[iLt_dec,jb];omega
       rw[g1]
       rfl
   rw[ji h114,br_false'];have hp:pars (c::t)=none:=by
    rw[bX,jc h110,jc h107,jc h109,jc h114,jc h101]
    match t with
    |[]=>rfl
    |d::t'=>show(if _ then _ else none)=none;rw[jc (fun x=>hA x.1)]
   rw[bW hp]
end
end Kw
namespace Kw
open Go Go.Proofs
section
variable (L D:Nat)
theorem wJ(hL:1099511627776<=L)(s:S)(hs:s.length<=2000000):ev E L (D+305) 10 [.str (bs s)] []=some (.agg [.int .i64 (aN s).op,.int .i64 (aN s).who,.int .i64 (aN s).n,.str (bs (aN s).a),.str (bs (aN s).b)],[]):=by
 rw[ay4];simp only[KM];by_cases h:s.length<=300
 ·have g:iLt 300 (sLen (bs s))=false:=by rw[iLt_dec,sLen_bs,jh];omega
  have hn:=YD L D hL 300 s h (by omega)
  rw[g,br_false',hn];have e:aN s=match pars s with|some (t,[])=>t.how|_=>⟨0,0,0,[],[]⟩:=by
   unfold aN sec pnt;rw[je h];cases pars s with
   |none=>rfl
   |some q=>obtain⟨x,r⟩:=q;cases r<;>rfl
  rw[e];cases hp:pars s with
  |none=>
   rw[bW hp]
   rfl
  |some q=>
   obtain⟨x,r⟩:=q;rw[eB hp];simp only[gTupN_if,gAggN_if,cellAt_zero,cellAt_succ,jf,jk,ju,bnd_some',gInt_i,gStr_s,gBool_b,bNot_t,bNot_f,br_true',sEq_bs];cases r with
   |nil=>rfl
   |cons c t=>rfl
 ·have g:iLt 300 (sLen (bs s))=true:=by rw[iLt_dec,sLen_bs,jb];omega
  have e:aN s=⟨0,0,0,[],[]⟩:=by
   unfold aN sec;rw[jc h]
  rw[g,e]
  rfl
theorem jI(hL:1099511627776<=L)(s:S)(hs:s.length<=2000000):ev E L (D+306) 36 [.str (bs s)] []=some (.bool (secOk s),[]):=by
 rw[ayN];simp only[KM];rw[wJ L D hL s hs];have h:= @lN s;simp only[gAggN_if,cellAt_zero,cellAt_succ,jf,jk,ju,bnd_some',gInt_i,gStr_s,iEq_dec];cases hk:secOk s with
 |true=>
  have:¬(aN s).op=0:=fun x=>by rw[h.1 x]at hk;cases hk
  rw[ji this];rfl
 |false=>
  rw[jd (h.2 hk)];rfl
end
end Kw
namespace Kw
open Go Go.Proofs
section
variable (L D:Nat)
theorem aiQ(l:List S)(hn:0<l.length/\l.length<=1000)(hf:l.flatten.length<=1000000):ev E L (D+1) 209 [.sl (l.map rS),.str (bs [])] []=some (.str (bs l.flatten),[]):=by
 have h:E.ext 209=some DZ:=rfl;have hr:∀l:List S,tO (l.map rS)=some l:=fun l=>by
  induction l with
  |nil=>rfl
  |cons a t ih=>
   show(tO (t.map rS)).bind (fun u=>some ((bs a).data.toList::u))=_
   rw[ih];rfl
 have h2:DZ [.sl (l.map rS),.str (bs [])]=some (.str (bs l.flatten)):=by
  unfold DZ;simp only;rw[hr];simp only[kh];rw[je ⟨rfl,hn.2,hf,hn.1⟩]
 unfold ev;simp only[h,h2]
 rfl
theorem SG(hL:1099511627776<=L)(p s:S)(hp:p.length<=10)(hs:s.length<=500000):ev E L (D+307) 132 [.str (bs p),.sl [rS s]] []=some (.str (bs (mk1 p s)),[]):=by
 rw[ahB];obtain⟨m,rfl⟩:∃m,L=m+2:=⟨L-2,by omega⟩
 have hk:=jI (m+2) D hL s (by omega)
 have n1:nrows [rS s]=1:=rfl;have l01:iLt 0 1=true:=rfl;have l11:iLt 1 1=false:=rfl;have a0:bR .i64 0 1=1:=rfl;unfold mk1;rw[n1,lE];simp only[KM];rw[l01,br_true',rz0,bnd_some'];simp only[dX,gStr_s,bnd_some',hk,gBool_b];cases h:secOk s with
 |false=>
  rw[jc (by simp)]
  rfl
 |true=>
  rw[bNot_t,br_false',a0,lE];simp only[KM];rw[l11,br_false'];have hj:=aiQ (m+2) (D+305) [s] (by simp) (by simp;omega)
  have ef:[s].flatten=s:=by simp
  rw[ef]at hj;have hj':ev E (m+2) (D+306) 209 [.sl [rS s],.str (bs [])] []=some (.str (bs s),[]):=hj;have hfit:eL (sLen (bs p)) (sLen (bs s)) 1=true:=by rw[sLen_bs,sLen_bs];exact aE _ _ _ (by omega)
  rw[hj',bnd_some',gStr_s,bnd_some',hfit,br_true',dN,sLen_bs];by_cases hl:p.length+s.length<=300
  ·have g:iLe ((p++s).length:Int) 300=true:=by rw[iLe_dec,jb,jl];omega
   rw[g,je ⟨by trivial,hl⟩];rfl
  ·have g:iLe ((p++s).length:Int) 300=false:=by rw[iLe_dec,jh,jl];omega
   rw[g,jc (fun x=>hl x.2)];rfl
theorem aoY(hL:1099511627776<=L)(a b:S)(ha:a.length<=200000)(hb:b.length<=200000):ev E L (D+307) 132 [.str (bs [101]),.sl [rS a,rS b]] []=some (.str (bs (bO a b)),[]):=by
 rw[ahB];obtain⟨m,rfl⟩:∃m,L=m+3:=⟨L-3,by omega⟩
 have hk:=jI (m+3) D hL a (by omega)
 have hk2:=jI (m+3) D hL b (by omega)
 have n1:nrows [rS a,rS b]=2:=rfl;have l02:iLt 0 2=true:=rfl;have l12:iLt 1 2=true:=rfl;have l22:iLt 2 2=false:=rfl;have a0:bR .i64 0 1=1:=rfl;have a1:bR .i64 1 1=2:=rfl;unfold bO;rw[n1,lE];simp only[KM];rw[l02,br_true',rz0,bnd_some'];simp only[dX,gStr_s,bnd_some',hk,gBool_b];cases h:secOk a with
 |false=>
  rw[jc (fun x=>by simp at x)]
  rfl
 |true=>
  rw[bNot_t,br_false',a0,lE];simp only[KM];rw[l12,br_true',rz1,bnd_some'];simp only[dX,gStr_s,bnd_some',hk2,gBool_b];cases h2:secOk b with
  |false=>
   rw[jc (fun x=>by simp at x)]
   rfl
  |true=>
   rw[bNot_t,br_false',a1,lE];simp only[KM];rw[l22,br_false'];have hj:=aiQ (m+3) (D+305) [a,b] (by simp) (by simp;omega)
   have ef:[a,b].flatten=a++b:=by simp
   rw[ef]at hj;have hj':ev E (m+3) (D+306) 209 [.sl [rS a,rS b],.str (bs [])] []=some (.str (bs (a++b)),[]):=hj;have hfit:eL (sLen (bs [101])) (sLen (bs (a++b))) 1=true:=by rw[sLen_bs,sLen_bs];exact aE _ _ _ (by simp only[jl,jf,jk];omega)
   rw[hj',bnd_some',gStr_s,bnd_some',hfit,br_true',dN,sLen_bs];by_cases hl:1+a.length+b.length<=300
   ·have g:iLe (([101]++(a++b)).length:Int) 300=true:=by rw[iLe_dec,jb];simp only[jl,jf,jk];omega
    rw[g,je ⟨by simp,hl⟩];rfl
   ·have g:iLe (([101]++(a++b)).length:Int) 300=false:=by rw[iLe_dec,jh];simp only[jl,jf,jk];omega
    rw[g,jc (fun x=>hl x.2)];rfl
theorem GZ(hL:1099511627776<=L)(s:S)(hs:s.length<=500000):ev E L (D+308) 201 [.str (bs s)] []=some (.str (bs (makNext s)),[]):=by
 rw[atZ];simp only[KM];have h:=SG L D hL [110] s (by simp) hs
 simp only[rS]at h;simp only[h,bnd_some',gStr_s,iEq_self,br_true']
 rfl
theorem qC(hL:1099511627776<=L)(s:S)(hs:s.length<=500000):ev E L (D+308) 69 [.str (bs s)] []=some (.str (bs (makKey s)),[]):=by
 rw[az8];simp only[KM];have h:=SG L D hL [107] s (by simp) hs
 simp only[rS]at h;simp only[h,bnd_some',gStr_s,iEq_self,br_true']
 rfl
theorem MJ(hL:1099511627776<=L)(a b:S)(ha:a.length<=200000)(hb:b.length<=200000):ev E L (D+308) 200 [.str (bs a),.str (bs b)] []=some (.str (bs (bO a b)),[]):=by
 rw[atY];simp only[KM];have h:=aoY L D hL a b ha hb;simp only[rS]at h;simp only[h,bnd_some',gStr_s,iEq_self,br_true']
theorem SH(hL:1099511627776<=L)(s:S)(hs:s.length<=2000000):ev E L (D+306) 127 [.str (bs s)] []=some (.bool (isKey s),[]):=by
 rw[atG];simp only[KM];rw[wJ L D hL s hs];simp only[gAggN_if,cellAt_zero,cellAt_succ,jf,jk,ju,bnd_some',gInt_i,gStr_s,iEq_dec]
 rfl
end
end Kw
namespace Kw
open Go Go.Proofs
theorem VG{w:Int}(h:aH w):C0 w=ltr w:=by
 obtain⟨h0,h1⟩:=h;unfold C0 ltr letter;have e:(65+w).toNat=65+w.toNat:=by omega
 rw[e]
theorem kM{w:Int}:isW w=decide (aH w):=by
 by_cases h:aH w
 ·rw[jd h,isW_iff];exact h
 ·rw[ji h];cases e:isW w
  ·rfl
  ·exact absurd (isW_iff.1 e) h
theorem DC{n:Int}(h0:0<=n)(h1:n<=99):plain n.toNat=IQ n:=by
 unfold IQ;by_cases h:n<10
 ·rw[je h,nI (by omega)]
  unfold hD;have e:(48+n).toNat=48+n.toNat:=by omega
  rw[e]
 ·rw[jc h,yT (by omega) (by omega)]
  unfold hD;have e1:(48+n/10).toNat=48+n.toNat/10:=by omega
  have e2:(48+n%10).toNat=48+n.toNat%10:=by omega
  rw[e1,e2]
section
variable (L D:Nat)
theorem F3(n:Int):ev E L (D+2) 208 [.int .i64 n] []=some (.bool (decide (hJ n)),[]):=by
 rw[au3];simp only[KM];simp only[kL,bnd_some',gBool_b];by_cases h:hJ n
 ·rw[jd h];rw[jd h.1,jd h.2];rfl
 ·rw[ji h];have:(decide (0<=n)&&decide (n<=14))=false:=by
   rw[Bool.and_eq_false_iff];by_cases h2:0<=n
   ·exact .inr (by rw[jh];exact fun h3=>h ⟨h2,h3⟩)
   ·exact .inl (by rw[jh];exact h2)
  rw[this]
theorem VH(hL:1099511627776<=L)(s:S)(w:Int)(hs:s.length<=500000):ev E L (D+308) 204 [.str (bs s),.int .i64 w] []=some (.str (bs (dZ s w)),[]):=by
 rw[au1];simp only[KM];have h1:=qY L (D+305) w;unfold dZ;rw[h1];by_cases h:aH w
 ·have hw:isW w=true:=isW_iff.2 h;have h2:=U5 L (D+306) w hw;have hm:=SG L D hL (109::ltr w) s (by simp[JJ]) hs
  simp only[rS]at hm;have hf:eL (sLen (bs [109])) (sLen (bs (ltr w))) 1=true:=by rw[sLen_bs,sLen_bs];exact aE _ _ _ (by simp[JJ])
  rw[je h,VG h,hw];simp only[bnd_some',gBool_b,bNot_t,br_false',h2,gStr_s,hf,br_true',iEq_self,dN,Js,qg,hm]
 ·have hw:isW w=false:=by rw[kM];exact ji h
  rw[jc h,hw]
  rfl
theorem MK(w n:Int):ev E L (D+3) 64 [.int .i64 w,.int .i64 n] []=some (.str (bs (aO w n)),[]):=by
 rw[az3];simp only[KM];have h1:=qY L D w;have h2:=kL L (D+1) n 1 99;unfold aO;rw[h1];by_cases h:aH w
 ·have hw:isW w=true:=isW_iff.2 h;have h3:=U5 L (D+1) w hw;rw[hw];simp only[bnd_some',gBool_b,bNot_t,bNot_f,br_true',h2];by_cases hn:1<=n/\n<=99
  ·have e:(decide (1<=n)&&decide (n<=99))=true:=by rw[jd hn.1,jd hn.2];rfl
   have h4:=aw5 L (D+1) n (by omega) hn.2
   have hl:=ahZ n;have hf:eL (sLen (bs (ltr w))) (sLen (bs (IQ n))) 1=true:=by rw[sLen_bs,sLen_bs];exact aE _ _ _ (by rw[JJ];omega)
   have hf2:eL (sLen (bs (ltr w++IQ n))) (sLen (bs [59])) 1=true:=by rw[sLen_bs,sLen_bs];exact aE _ _ _ (by rw[jl,JJ];simp;omega)
   rw[je ⟨h,hn⟩,VG h,DC (by omega) hn.2,e]
   simp only[bNot_t,br_false',h3,bnd_some',gStr_s,h4,hf,br_true',dN,hf2]
  ·have e:(decide (1<=n)&&decide (n<=99))=false:=by
    rw[Bool.and_eq_false_iff];by_cases h2:1<=n
    ·exact .inr (by rw[jh];omega)
    ·exact .inl (by rw[jh];omega)
   rw[jc (fun x=>hn x.2),e];rfl
 ·have hw:isW w=false:=by rw[kM];exact ji h
  rw[jc (fun x=>h x.1),hw]
  rfl
theorem aiR:ev E L (D+1) 121 [] []=some (.agg [.own (treNew.map rS)],[]):=by
 rw[atB];simp only[KM]
 rfl
theorem aiS(hL:1099511627776<=L)(s:S)(hs:s.length<=2000000):ev E L (D+307) 126 [.str (bs s)] []=some (.bool (!(decide (s=[])||isKey s)),[]):=by
 rw[atF];simp only[KM];rw[sEq_bs,SH L D hL s hs];by_cases h:s=[]
 ·rw[jd h];rfl
 ·rw[ji h];simp only[bNot_f,br_true',bnd_some',gBool_b,Bool.false_or]
  rfl
theorem VI(hL:1099511627776<=L)(ks:List S)(hk:ks.length<=1000000)(hs:∀s∈ks,s.length<=2000000):∀(m k:Nat),ks.length<m+k->k<=ks.length->
 ∃i:Int,qW L (D+307) m (ks.map rS) ks.length k=some (.int .i64 i,[])/\(decide (0<=i)=!((ks.drop k).all fun k=>decide (k=[])||isKey k))
 |0,k,h,hk'=>by omega
 |m+1,k,h,hk'=>by
  rw[GV];simp only[KM];by_cases hlt:k<ks.length
  ·have h1:decide ((k:Int)<ks.length)=true:=by rw[jb];omega
   have a1:bR .i64 (k:Int) 1=((k+1:Nat):Int):=aG _ (by omega)
   have e:=qa hlt;have hix:ix ks (k:Int)=ks[k]:=aK ks k hlt;have hc:=aiS L D hL ks[k] (hs _ (jt hlt));rw[e,yb];obtain⟨i,ih,hi⟩:=VI hL ks hk hs m (k+1) (by omega) (by omega)
   simp(disch:=omega) only[iLt_dec,h1,br_true',aW,bnd_some',dX,gStr_s,hix,hc,gBool_b,a1];cases hb:(decide (ks[k]=[])||isKey ks[k])with
   |true=>
    simp only[Bool.not_true,br_false',ih,jy];exact⟨i,rfl,hi⟩
   |false=>
    simp only[Bool.not_false,br_true',z0];exact⟨k,rfl,by rw[jb];omega⟩
  ·have h1:decide ((k:Int)<ks.length)=false:=by rw[jh];omega
   have e:ks.drop k=[]:=wx (by omega)
   rw[e,iLt_dec,h1,br_false'];exact⟨-1,rfl,rfl⟩
theorem aaQ(hL:1099511627776<=L)(ks:List S)(hk:ks.length<=1000000)(hs:∀s∈ks,s.length<=2000000):ev E L (D+310) 65 [.agg [.sl (ks.map rS)]] []=some (.bool (treOk ks),[]):=by
 rw[az4];simp only[KM];rw[iEq_dec,nrows_map];unfold treOk;by_cases h:ks.length=15
 ·have h1:decide ((ks.length:Int)=15)=true:=by rw[jb];omega
  obtain⟨i,h2,h3⟩:=VI L D hL ks hk hs L 0 (by omega) (by omega)
  rw[h1,br_true',ahR];simp only[KM];rw[adE,nrows_map];rw[show((0:Nat):Int)=0 from rfl]at h2
  rw[h2,jd h,jy];simp only[bnd_some',gInt_i,gBool_b,iLe_dec,h3,qb];cases (ks.all fun k=>decide (k=[])||isKey k)<;>rfl
 ·have h1:decide ((ks.length:Int)=15)=false:=by rw[jh];omega
  rw[h1,br_false',ji h];rfl
end
end Kw
namespace Kw
open Go Go.Proofs
def hZ:S->Nat->List S
 |_,0=>[]
 |s,n+1=>s::hZ (makNext s) n
theorem nO(s:S)(n:Nat):(hZ s n).length=n:=by
 induction n generalizing s with
 |zero=>rfl
 |succ n ih=>simp[hZ,ih]
theorem JM(p s:S):(mk1 p s).length<=300:=by
 unfold mk1;split
 ·rename_i h;rw[jl];exact h.2
 ·simp
theorem oH(s:S):(makNext s).length<=300:=JM _ _
theorem ML(s:S):(makKey s).length<=300:=JM _ _
theorem G0(i:Nat):ups i=if i=0 then[]else(((i-1)/2:Nat):Int)::ups ((i-1)/2):=by
 conv=>lhs;rw[ups]
 split
 ·rfl
 ·rfl
theorem ups_rng(i:Nat):∀n∈ups i,0<=n/\n<i:=by
 induction i using Nat.strongRecOn with
 |ind i ih=>
  intro n hn;rw[G0]at hn;split at hn
  ·simp at hn
  ·rcases ko.1 hn with e|e
   ·subst e;omega
   ·have:=ih ((i-1)/2) (by omega) n e;omega
theorem SI(i:Nat)(h:i<=14):(ups i).length<=3:=by
 have:∀k:Fin 15,(ups k.val).length<=3:=by
  intro k;rw[G0];split
  ·simp
  ·rw[G0];split
   ·simp
   ·rw[G0];split
    ·simp
    ·rw[G0];split
     ·simp
     ·omega
 exact this ⟨i,by omega⟩
theorem mF{n:Int}:∀k∈bI n,0<=k/\k<=14:=by
 intro k hk;unfold bI at hk;split at hk
 ·rename_i h;have:=ups_rng n.toNat k hk;obtain⟨h0,h1⟩:=h;omega
 ·simp at hk
theorem wL{w:Int}(h:aH w):treLeaf w=7+w:=je h
theorem pathOf_rng{w:Int}(h:aH w):∀k∈pathOf w,0<=k/\k<=14:=by
 intro k hk;rcases ko.1 hk with e|e
 ·rw[e,wL h];obtain⟨h0,h1⟩:=h;omega
 ·exact mF k e
theorem cU(n:Int):(bI n).length<=3:=by
 unfold bI;split
 ·rename_i h;obtain⟨h0,h1⟩:=h;exact SI _ (by omega)
 ·simp
theorem eX(w:Int):(pathOf w).length<=4:=by
 have:=cU (treLeaf w);show(bI (treLeaf w)).length+1<=4;omega
section
variable (L D:Nat)
theorem aoZ(r:List Row):ev E L (D+1) 177 [.sl r] []=some (.sl r,[]):=by
 have h:E.ext 177=some DX:=rfl;unfold ev;simp only[h]
 rfl
theorem dB{F sz:Nat}(h:E.ext F=some (dI sz 1024))(rows:List Row)(ho:okR sz rows=true)(hl:rows.length<=1000000000):ev E L (D+1) F [.sl rows] []=some (.own rows,[]):=by
 have h2:dI sz 1024 [.sl rows]=some (.own rows):=by
  have hb:Nat.ble (rows.length*1024) 70368744177664=true:=Nat.ble_eq_true_of_le (by omega)
  show(if(okR sz rows&&(rows.length*1024).ble 70368744177664)=true then some (MV.own rows)else none)=_
  rw[ho,hb];rfl
 unfold ev;simp only[h,h2]
 rfl
theorem aA1:∀(i m:Nat) (done:List Int),i<m->i<=100->done.length+i<=1000->E5 L (D+1) m (done.map rI) i done.length=some (.sl ((done++ups i).map rI),[]):=by
 intro i;induction i using Nat.strongRecOn with
 |ind i ih=>
  intro m done hm hi hd;obtain⟨m,rfl⟩:∃k,m=k+1:=⟨m-1,by omega⟩
  rw[NA];simp only[KM];rw[G0];by_cases h:i=0
  ·subst h;have g:iLt 0 ((0:Nat):Int)=false:=rfl;rw[g,br_false',je rfl,iEq_dec,nrows_map,ka];simp only[Jp,br_true',aoZ,bnd_some',gSl_r]
  ·have g:iLt 0 (i:Int)=true:=by rw[iLt_dec,jb];omega
   have a1:iS .i64 (i:Int) 1=((i-1:Nat):Int):=by rw[d9 (by omega) (by omega)];omega
   have a2:F6 .i64 ((i-1:Nat):Int) 2=(((i-1)/2:Nat):Int):=by
    rw[mO (by omega) (by omega) (by omega)]
    exact(Int.natCast_ediv (i-1) 2).symm
   have z:iEq 2 0=false:=rfl;rw[g,br_true',z,br_false',a1,a2,jc h];have ih':=ih ((i-1)/2) (by omega) m (done++[(((i-1)/2:Nat):Int)]) (by omega) (by omega) (by simp;omega)
   have e:done++(((i-1)/2:Nat):Int)::ups ((i-1)/2)=(done++[(((i-1)/2:Nat):Int)])++ups ((i-1)/2):=by simp
   rw[e,<-ih'];have o1:okR 1 (done.map rI)=true:=lA done;have o2:okR 1 [[MV.int IntKind.i64 (((i-1)/2:Nat):Int)]]=true:=rfl;have hf:eL (nrows (done.map rI)) (nrows [[MV.int IntKind.i64 (((i-1)/2:Nat):Int)]]) 8=true:=by rw[nrows_map];exact aE _ _ _ (by show((done.length:Int)+1)*8<=_;omega)
   have c1:cB (done.map rI) [[MV.int IntKind.i64 (((i-1)/2:Nat):Int)]]=(done++[(((i-1)/2:Nat):Int)]).map rI:=cJ rI done _;rw[nrows_map]at hf;simp only[iEq_self,br_true',o1,o2,hf,cN,c1,nrows_map]
theorem aaR(hL:1099511627776<=L)(n:Int):ev E L (D+3) 129 [.int .i64 n] []=some (.sl ((bI n).map rI),[]):=by
 rw[atI];simp only[KM];rw[F3];unfold bI;by_cases h:hJ n
 ·obtain⟨h0,h1⟩:=h;obtain⟨k,rfl⟩:=kv h0;have:=aA1 L (D+1) k L [] (by omega) (by omega) (by simp;omega)
  rw[jd ⟨h0,h1⟩,je ⟨h0,h1⟩];simp only[bnd_some',gBool_b,bNot_t,br_false'];exact this
 ·rw[ji h,jc h];rfl
theorem rL(w:Int)(h:aH w):ev E L (D+1) 128 [.int .i64 w] []=some (.int .i64 (treLeaf w),[]):=by
 rw[atH];simp only[KM];rw[wL h];obtain⟨h0,h1⟩:=h;rw[bA (by omega) (by omega)]
theorem G3(hL:1099511627776<=L)(w:Int)(h:aH w):ev E L (D+4) 67 [.int .i64 w] []=some (.sl ((pathOf w).map rI),[]):=by
 rw[az6];simp only[KM];rw[rL L (D+2) w h];have hu:=aaR L D hL (treLeaf w);have hl:=cU (treLeaf w);have o1:okR 1 ((bI (treLeaf w)).map rI)=true:=lA _;have o2:okR 1 [[MV.int IntKind.i64 (treLeaf w)]]=true:=rfl;have hf:eL (nrows [[MV.int IntKind.i64 (treLeaf w)]]) (nrows ((bI (treLeaf w)).map rI)) 8=true:=by rw[nrows_map];exact aE _ _ _ (by show(1+((bI (treLeaf w)).length:Int))*8<=_;omega)
 simp only[bnd_some',gInt_i,hu,gSl_r,iEq_self,o1,o2,hf,cN,br_true']
 rfl
theorem aaS(hL:1099511627776<=L)(n:Int):ev E L (D+4) 196 [.int .i64 n] []=some (.sl ((n::bI n).map rI),[]):=by
 rw[atU];simp only[KM];have hu:=aaR L D hL n;have hl:=cU n;have o1:okR 1 ((bI n).map rI)=true:=lA _;have o2:okR 1 [[MV.int IntKind.i64 n]]=true:=rfl;have hf:eL (nrows [[MV.int IntKind.i64 n]]) (nrows ((bI n).map rI)) 8=true:=by rw[nrows_map];exact aE _ _ _ (by show(1+((bI n).length:Int))*8<=_;omega)
 simp only[bnd_some',hu,gSl_r,iEq_self,o1,o2,hf,cN,br_true']
 rfl
theorem adX(n:Int):ev E L (D+3) 241 [.int .i64 n] []=some (.int .i64 (bH n),[]):=by
 rw[au7];simp only[KM];rw[F3];unfold bH;by_cases h:hJ n
 ·rw[jd h];obtain⟨h0,h1⟩:=h;by_cases hz:n=0
  ·subst hz;rfl
  ·have g:iEq n 0=false:=by rw[iEq_dec];exact ji hz
   have z:iEq 2 0=false:=rfl;have a1:bR .i64 n 1=n+1:=bA (by omega) (by omega)
   have a2:iS .i64 n 1=n-1:=d9 (by omega) (by omega)
   rw[je (by omega)]
   simp only[bnd_some',gBool_b,bNot_t,bNot_f,br_true',g,z,br_false',n8 h0,a1,a2,iEq_dec];by_cases h2:n%2=1
   ·rw[jd h2,je h2];rfl
   ·rw[ji h2,jc h2];rfl
 ·rw[ji h,jc (fun x=>h ⟨by omega,x.2⟩)];rfl
theorem VJ(ks:List S)(hk:ks.length=15)(w:Int):ev E L (D+3) 66 [.agg [.sl (ks.map rS)],.int .i64 w] []=some (.bool (decide (aH w)&&hasLeaf ks w),[]):=by
 rw[az5];simp only[KM];rw[qY,kM];by_cases h:aH w
 ·rw[jd h,jy];have hl:=rL L (D+1) w h;have e:=wL h;obtain⟨h0,h1⟩:=id h;have hr:=aW (treLeaf w) ks (by omega) (by omega)
  unfold hasLeaf;simp only[bnd_some',gBool_b,br_true',hl,gInt_i,hr,dX,gStr_s,sEq_bs];by_cases hz:ix ks (treLeaf w)=[]
  ·rw[jd hz,ji (fun x=>x hz)];rfl
  ·rw[ji hz,jd hz];rfl
 ·rw[ji h,z0];rfl
theorem JN(ks:List S)(hk:ks.length<=1000000):ev E L (D+2) 187 [.agg [.sl (ks.map rS)]] []=some (.agg [.own (ks.map rS)],[]):=by
 rw[atP];simp only[KM];rw[dB L D (F:=48) (sz:=1) rfl (ks.map rS) (iI ks) (by rw[kf];omega)]
 simp only[bnd_some',gOwn_r,iEq_self,br_true']
end
end Kw
