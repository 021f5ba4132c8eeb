import Derived.Test.YthjlffhckgaboaaGreatDoorV05
set_option linter.unusedVariables false
set_option linter.unusedSimpArgs false
set_option linter.unusedSectionVars false
namespace Kw
open Go Go.Proofs
open Kw.MV renaming undef->U,int->J,str->Q,sl->Z,ownK->WK,own->O,bool->Y,agg->A,tup->V,ptr->P,ref->X
open Go.IntKind renaming i64->K
open Kw renaming aD->C,nrows->N,bnd->B,d9->I,gSl->F,d6->T,KB->M,nP->W
open Kw.Obj renaming cells->OC,rows->OR
variable (L D n n8:Nat)
variable (r0:List Row) (s0:ByteArray) (b0:Bool) (r1:List Row) (i1:Int) (s1:ByteArray) (b1:Bool) (r2:List Row) (i2:Int) (s2:ByteArray) (r3:List Row) (i3:Int) (s3:ByteArray) (r4:List Row) (i4:Int) (s4:ByteArray) (b4:Bool) (r5:List Row) (i5:Int) (s5:ByteArray) (r6:List Row) (i6:Int) (s6:ByteArray) (r7:List Row) (i7:Int) (s7:ByteArray) (r8:List Row) (i8:Int) (r9:List Row) (i9:Int) (s9:ByteArray) (r10:List Row) (i10:Int) (s10:ByteArray) (b10:Bool) (r11:List Row) (i11:Int) (s11:ByteArray) (r12:List Row) (i12:Int) (s12:ByteArray) (r13:List Row) (i13:Int) (s13:ByteArray) (r14:List Row) (i14:Int) (r15:List Row) (i15:Int) (s15:ByteArray) (r16:List Row) (i16:Int) (s16:ByteArray) (r17:List Row) (i17:Int) (s17:ByteArray) (r18:List Row) (i18:Int) (s18:ByteArray) (r19:List Row) (i19:Int) (s19:ByteArray) (r20:List Row) (i20:Int) (s20:ByteArray) (r21:List Row) (i21:Int) (s21:ByteArray) (r22:List Row) (i22:Int) (s22:ByteArray) (r23:List Row) (i23:Int) (s23:ByteArray) (r24:List Row) (i24:Int) (b24:Bool) (r25:List Row) (i25:Int) (s25:ByteArray) (r26:List Row) (i26:Int) (s26:ByteArray) (r27:List Row) (i27:Int) (s27:ByteArray) (r28:List Row) (i28:Int) (b28:Bool) (r29:List Row) (i29:Int) (s29:ByteArray) (b29:Bool) (i30:Int) (s30:ByteArray) (b30:Bool) (i31:Int) (b31:Bool) (i32:Int) (r33:List Row) (i33:Int) (r34:List Row) (i34:Int) (i35:Int) (i36:Int) (s36:ByteArray) (i37:Int) (s37:ByteArray) (i38:Int) (b38:Bool) (i39:Int) (r40:List Row) (i40:Int) (i41:Int) (i42:Int) (i43:Int) (s43:ByteArray) (i44:Int) (s44:ByteArray) (r45:List Row) (i45:Int) (r46:List Row) (i46:Int) (r47:List Row) (i47:Int) (i48:Int) (i49:Int) (r50:List Row) (i51:Int) (i52:Int)
noncomputable section
def O0:Option Res:=lq L D 3 Tryz.f3 0 [1,1,1,1,1,0,1,0] 8 [] (uD 5 (fH (gt 5) i10 60 [])) [gu 5 [Z r0,Z r1,Z r2,Z r3,Z r4,Z r5,Z r6,Z r7,Z r8,Z r9]] n
def O1:Option Res:=lq L D 3 Tryz.f3 0 [1,1,1,1,1,0,1,0,0,1,0,0,1,1,1,1,0,0] 14 [n8] (uD 5 (gt 5::xh (gb i17) (gt 7) (fH (Q s18) i19 57 []))) [gu 5 [Z r0,Z r1,Z r2,Z r3,Z r4,Z r5,Z r6,Z r7,Z r8,Z r9],gu 7<|gV b10 i11 r12 r13 i14 s15 s16] n
theorem al8:O0 L D (n+1) r0 r1 r2 r3 r4 r5 r6 r7 r8 r9 i10=(gr i10 8 (ft 7 r0 i10 (fun a=>xi (C a 0) a 1 (gd a 2) (gd a 3) a 4 a 5 a 6 fun a b c d e f g=>gP a (O0 L D n r0 r1 r2 r3 r4 r5 r6 r7 r8 r9 (gi i10))<|O1 L D L n r0 r1 r2 r3 r4 r5 r6 r7 r8 r9 a b c d e f g i10 f 0))<|gp L D 12 [] fun a=>xL a.1):=by kernel_rfl
theorem ak5:O1 L D (n+1) n8 r0 r1 r2 r3 r4 r5 r6 r7 r8 r9 b10 i11 r12 r13 i14 s15 s16 i17 s18 i19=(gv L D 10 s18 fun a=>zM 5 a.1 0 1 2 3 4 fun a _=>gw a 4 (gv L D 10 s18 (fun a=>zO 5 a.1 0 1 2 fun a _=>xy a 3 4 fun a _=>O1 L D n n8 r0 r1 r2 r3 r4 r5 r6 r7 r8 r9 b10 i11 r12 r13 i14 s15 s16 i17 a<|gi i19))<|gv L D 11 s16 fun a=>B (M a.1) fun a=>gE a<|xp (gz i14 a) (xp (iEq i19 i14) (gv L D 10 s18 (fun a=>zM 5 a.1 0 1 2 3 4 fun a _=>gP (iEq a 1) gM<|O0 L D n8 r0 r1 r2 r3 r4 r5 r6 r7 r8 r9<|gi i17)) xB) xB):=by kernel_rfl
theorem avV:ev E L (D+1) 3 [.sl r1] []=(gr 1048576 (N r1) (gA gU)<|f4 L D 7 r1 fun a=>fW 2 a.1 fun a=>xo a 0 fun b=>B (gd a 1) fun a=>gp L D 8 [gb b,Z a] fun a=>fu 10 a.1 fun a=>zb (gd a 0) (gd a 1) (gd a 2) (gd a 3) (gd a 4) (gd a 5) (gd a 6) (gd a 7) (gd a 8) (gd a 9) fun a b c d e f g h i j=>gp L D 9 [A [Z a,Z b,Z c,Z d,Z e,Z f,Z g,Z h,Z i,Z j]] fun k=>fk k.1 gM<|O0 L D L a b c d e f g h i j 0):=eS Tryz.func3
theorem avN:ev E L (D+1) 8 [.int .i64 i1,.sl r2] []=gy L D 21 i1 fun a=>fu 10 a.1 fun a=>zb (gd a 0) (gd a 1) (gd a 2) (gd a 3) (gd a 4) (gd a 5) (gd a 6) (gd a 7) (gd a 8) (gd a 9) fun a b c d e f g h i j=>gp L D 20 [A [Z a,Z b,Z c,Z d,Z e,Z f,Z g,Z h,Z i,Z j],Z r2] fun a=>fu 10 a.1 fun a=>zb (gd a 0) (gd a 1) (gd a 2) (gd a 3) (gd a 4) (gd a 5) (gd a 6) (gd a 7) (gd a 8) (gd a 9) fun a b c d e f g h i j=>gZ [Z a,Z b,Z c,Z d,Z e,Z f,Z g,Z h,Z i,Z j]:=eS Tryz.func8
def BK:Option Res:=x9 L D 9 Tryz.f9 0 4 [] (fT U (gt 1) 62 (Z r10::fd i11 i12 72 [])) [gu 1 [Z r0,Z r1,Z r2,Z r3,Z r4,Z r5,Z r6,Z r7,Z r8,Z r9]] n
theorem F8:BK L D (n+1) r0 r1 r2 r3 r4 r5 r6 r7 r8 r9 r10 i11 i12=(gr i12 i11 (ft 7 r10 i12 (fun a=>xi (C a 0) a 1 (gd a 2) (gd a 3) a 4 a 5 a 6 fun a b c d e f g=>gp L D 22 [gN a b c d e f g] fun c=>xF c.1<|br a (gP (iEq b i12) gM (BK L D n r0 r1 r2 r3 r4 r5 r6 r7 r8 r9 r10 i11 (gi i12)))<|BK L D n r0 r1 r2 r3 r4 r5 r6 r7 r8 r9 r10 i11<|gi i12))<|xA L D 23 r3 24 [] fun a=>zY a.1<|xA L D 23 r7 26 [] fun a=>zY a.1<|xA L D 27 r8 28 [] fun a=>zY a.1<|xA L D 30 r2 31 [] fun a=>zY a.1<|xJ L D 33 (zy r1 34 xZ) [Z r0,Z r1,Z r2,Z r3,Z r4,Z r5,Z r6,Z r7,Z r8,Z r9] fun a=>fq 10 a.2 fun b=>zb (gd b 0) (gd b 1) (gd b 2) (gd b 3) (gd b 4) (gd b 5) (gd b 6) (gd b 7) (gd b 8) (gd b 9) fun b c d e f g h i j k=>zY a.1<|xA L D 37 f 38 [] fun a=>zY a.1<|xA L D 39 g 40 [] fun a=>zY a.1<|xA L D 41 h 42 [] fun a=>zY a.1<|xJ L D 44 (zy k 45 xZ) [Z b,Z c,Z d,Z e,Z f,Z g,Z h,Z i,Z j,Z k] fun a=>fq 10 a.2 fun b=>zS (gd b 0) (gd b 1) fun _=>zS (gd b 2) (gd b 3) fun _=>zS (gd b 4) (gd b 5) fun _=>zS (gd b 6) (gd b 7) fun _=>zS (gd b 8) (gd b 9) fun _=>zL a.1):=by kernel_rfl
theorem avO:ev E L (D+1) 9 [.agg [.sl r1,.sl r2,.sl r3,.sl r4,.sl r5,.sl r6,.sl r7,.sl r8,.sl r9,.sl r10]] []=xp (iEq (N r1) 8) (xp (iEq (N r4) 8) (xp (iEq (N r8) 8) (xp (iEq (N r9) 8) (xt (iLt 16 (N r3)) (xt (iLt 16 (N r2)) (xt (iLt 40 (N r7)) (xt (iLt 12 (N r6)) (xt (iLt 72 (N r5)) (gr 320 (N r10) gM (BK L D L r1 r2 r3 r4 r5 r6 r7 r8 r9 r10 r1 (N r1) 0))))))) xB) xB) xB) xB:=eS Tryz.func9
theorem atG:ev E L (D+1) 10 [.str s1] []=(gr 300 (sLen s1) (gZ uF)<|gv L D 46 s1 fun a=>fW 3 a.1 fun a=>uh 5 (C a 0) 0 fun b c=>zx b 1 2 b 3 fun d e f=>uz b 4 a 1 fun b g=>fI (C a 2) (gX (g8 g) (gZ uF) (A [gb c,gb d,gb e,Q f,Q b])) uu):=eS Tryz.func10
theorem atH(L D:Nat):ev E L (D+1) 12 [] []=gp L D 36 [x6 [65,49,59]] fun a=>xL a.1:=eS Tryz.func12
def G0:Option Res:=lq L D 17 Tryz.f17 0 [1,1,1,0,1,0] 5 [] (xh U (gt 1) (fT U (gK 3 100 i8) 11 (Z r9::fd i10 i11 15 []))) [gu 1<|gV b1 i2 r3 r4 i5 s6 s7,gL 3 100 r0] n
theorem O2:G0 L D (n+1) r0 b1 i2 r3 r4 i5 s6 s7 i8 r9 i10 i11=(gr i11 i10 (ft 2 r9 i11 (fun a=>xo a 0 fun _=>g9 a 1 fun a=>xC [gY a] (fv i8 r0 1 1 [gY a] 16)<|G0 L D n (gF r0 (gY a)) b1 i2 r3 r4 i5 s6 s7 (N (gF r0 (gY a))) r9 i10<|gi i11))<|gE [gY s6]<|fY (fv i8 r0 1 1 [gY s6] 16) (gO (gF r0 (gY s6)))<|f4 L D 48 (gF r0 (gY s6)) fun a=>B (M a.1) fun a=>gE a<|gA<|Z a):=by kernel_rfl
theorem atI:ev E L (D+1) 17 [.agg [.bool b1,.int .i64 i2,.sl r3,.sl r4,.int .i64 i5,.str s6,.str s7]] []=(gp L D 22 [gN b1 i2 r3 r4 i5 s6 s7] fun a=>fI a.1 (gP b1 (gA (Z [])) (G0 L D L [] b1 i2 r3 r4 i5 s6 s7 (N []) r4 (N r4) 0))<|Z []):=eS Tryz.func17
def G3:Option Res:=lq L D 20 Tryz.f20 0 [1,1,1,0,1,0] 5 [] (uD 4 (fT (gt 4) (gt 5) 13 (Z r40::fd i41 i42 8 []))) [gu 4 [fj 4 i20,gK 4 1102 i21,fF 4 i22,fJ 4 i23,f7 4 i24,f8 4 i25,fK 4 i26,fM 4 i27,xb 4 i28,xd 4 i29],fw 4 r0,fL 4 r1,fN 4 r2,xa 4 r3,xc 4 r4,fO 4 r5,fP 4 r6,xe 4 r7,xf 4 r8,gL 4 1102 r9,gu 5 [fj 5 i30,gK 5 1102 i31,fF 5 i32,fJ 5 i33,f7 5 i34,f8 5 i35,fK 5 i36,fM 5 i37,xb 5 i38,xd 5 i39],fw 5 r10,fL 5 r11,fN 5 r12,xa 5 r13,xc 5 r14,fO 5 r15,fP 5 r16,xe 5 r17,xf 5 r18,gL 5 1102 r19] n
theorem O3:G3 L D (n+1) r0 r1 r2 r3 r4 r5 r6 r7 r8 r9 r10 r11 r12 r13 r14 r15 r16 r17 r18 r19 i20 i21 i22 i23 i24 i25 i26 i27 i28 i29 i30 i31 i32 i33 i34 i35 i36 i37 i38 i39 r40 i41 i42=(gr i42 i41 (ft 6 r40 i42 (fun a=>xo a 0 fun b=>zA a 1 2 fun c d=>zx a 3 4 a 5 fun a e f=>xn (gz i30 r10) i31 r19<|fh i32 r11 i33 r12 i34 r13 i35 r14<|fh i36 r15 i37 r16 i38 r17 i39 r18<|xJ L D 62 [xx,A<|fC b c d a e f] [O r10,WK r19,O r11,O r12,O r13,O r14,O r15,O r16,O r17,O r18] fun a=>fq 10 a.2 fun b=>zb (x5 b) (BW (C b 1)) (gk b 2) (gk b 3) (gk b 4) (gk b 5) (gk b 6) (gk b 7) (gk b 8) (gk b 9) fun b c d e f g h i j k=>fW 0 a.1 fun _=>G3 L D n r0 r1 r2 r3 r4 r5 r6 r7 r8 r9 b d e f g h i j k c i20 i21 i22 i23 i24 i25 i26 i27 i28 i29 (N b) (N c) (N d) (N e) (N f) (N g) (N h) (N i) (N j) (N k) r40 i41<|gi i42))<|xn (gz i30 r10) i31 r19<|fh i32 r11 i33 r12 i34 r13 i35 r14<|fh i36 r15 i37 r16 i38 r17 i39 r18<|gp L D 61 [A [Z r10,Z r19,Z r11,Z r12,Z r13,Z r14,Z r15,Z r16,Z r17,Z r18]] fun a=>fu 10 a.1 fun a=>zP (x5 a) (gk a 1) (gk a 2) (gk a 3) (gk a 4) (gk a 5) (gk a 6) (gk a 7) (gk a 8) (gk a 9) fun a b c d e f g h i j=>[Z a,Z b,Z c,Z d,Z e,Z f,Z g,Z h,Z i,Z j]):=by kernel_rfl
theorem atJ:ev E L (D+1) 20 [.agg [.sl r1,.sl r2,.sl r3,.sl r4,.sl r5,.sl r6,.sl r7,.sl r8,.sl r9,.sl r10],.sl r11] []=(gp L D 9 [A [Z r1,Z r2,Z r3,Z r4,Z r5,Z r6,Z r7,Z r8,Z r9,Z r10]] fun a=>fI a.1 (gr 200 (N r11) (gZ [Z [],Z [],Z [],Z [],Z [],Z [],Z [],Z [],Z [],Z []]) (gp L D 61 [A [Z r1,Z r2,Z r3,Z r4,Z r5,Z r6,Z r7,Z r8,Z r9,Z r10]] (fun a=>fu 10 a.1 fun a=>zb (x5 a) (gk a 1) (gk a 2) (gk a 3) (gk a 4) (gk a 5) (gk a 6) (gk a 7) (gk a 8) (gk a 9) fun a b c d e f g h i j=>G3 L D L [] [] [] [] [] [] [] [] [] [] a c d e f g h i j b (N []) (N []) (N []) (N []) (N []) (N []) (N []) (N []) (N []) (N []) (N a) (N b) (N c) (N d) (N e) (N f) (N g) (N h) (N i) (N j) r11 (N r11) 0)))<|A [Z [],Z [],Z [],Z [],Z [],Z [],Z [],Z [],Z [],Z []]):=eS Tryz.func20
theorem atK:ev E L (D+1) 21 [.int .i64 i1] []=(gy L D 35 i1 fun a=>fk a.1 (gZ [Z [],Z [],Z [],Z [],Z [],Z [],Z [],Z [],Z [],Z []])<|zH (zC (ua 8) (fe 8) (eP 8 0 104)) (zC (ua 8) (fe 8) (eP 8 0 8)) (zC (ua 8) (fe 8) (eP 8 0 8)) (zC (ua 8) (fe 8) (eP 8 0 24))<|gJ L D 64 (gb i1) 1 fun a=>gD a.1 fun a=>gJ L D 64 (gb i1) 2 fun b=>gD b.1 fun b=>gp L D 63 [gb i1,Q a,Q b] fun a=>fu 7 a.1 fun a=>xi (C a 0) a 1 (gd a 2) (gd a 3) a 4 a 5 a 6 fun a b c d e f g=>fX (jH 8 (zJ 0 [])) 7 i1<|fA (jH 8 (zJ 0 [])) i1 fun h=>fY (zE 7 h) (gO (jH 8 (xw 0)))<|ux 1 (jH 8 (xw 0)) i1<|fA (jH 8 (xw 0)) i1 fun i=>xM 1 i<|uw (N (jH 8 (zJ 0 []))) (gC (jH 8 (zJ 0 [])) i1 h 0 (gV a b c d e f g)) (N (jH 8 (xw 0))) (gC (jH 8 (xw 0)) i1 i 0 (xw 2)) (gO (jH 8 (xw 0))) (gO (jH 8 (fy [])))<|gZ [Z<|gC (jH 8 (zJ 0 [])) i1 h 0<|gV a b c d e f g,Z [],Z [],Z<|gC (jH 8 (xw 0)) i1 i 0<|xw 2,Z [],Z [],Z [],Z<|jH 8<|xw 0,Z<|jH 8<|fy [],Z []]):=eS Tryz.func21
def C3:Option Res:=lq L D 22 Tryz.f22 0 [1,1,1,1,0,1,0] 7 [] (xh U (gt 1) (fH U i7 75 (Z r8::fd i9 i10 40 []))) [gu 1<|gV b0 i1 r2 r3 i4 s5 s6] n
theorem C4:C3 L D (n+1) b0 i1 r2 r3 i4 s5 s6 i7 r8 i9 i10=(gr i10 i9 (xz 1 r8 i10 0 (fun a=>fQ 1 r2 a 0 fun b=>br (g8 b) (C3 L D n b0 i1 r2 r3 i4 s5 s6 i7 r8 i9 (gi i10))<|gJ L D 68 (Z r3) a fun b=>gQ b.1 fun b=>xt (iLt b 0)<|zn 2 r3 b 1 L D 69 fun b=>gD b.1 fun b=>fQ 1 r2 a 0 fun a=>gP (sEq b a) gM<|C3 L D n b0 i1 r2 r3 i4 s5 s6 (gi i7) r8 i9<|gi i10))<|fZ<|gz i7 r3):=by kernel_rfl
theorem atL:ev E L (D+1) 22 [.agg [.bool b1,.int .i64 i2,.sl r3,.sl r4,.int .i64 i5,.str s6,.str s7]] []=(gP b1 (gw i2 0 (gw (N r3) 0 (gw (N r4) 0 (gw i5 0 (br (g8 s6) (fZ (g8 s7)) gM) gM) gM) gM) gM)<|gy L D 35 i2 fun a=>xF a.1<|gp L D 65 [fS r3] fun a=>xF a.1<|xG L D 25 i5 12 fun a=>xF a.1<|gv L D 36 s6 fun a=>xF a.1<|xt (iLt 300 (sLen s7))<|gJ L D 66 (fS r3) i2 fun a=>fk a.1 gM<|gy L D 67 i2 fun a=>B (F a.1) fun a=>C3 L D L b1 i2 r3 r4 i5 s6 s7 0 a (N a) 0):=eS Tryz.func22
theorem atM:ev E L (D+1) 24 [.int .i64 i1] []=xG L D 25 i1 99 fun a=>zL a.1:=eS Tryz.func24
theorem atN:ev E L (D+1) 25 [.int .i64 i1,.int .i64 i2,.int .i64 i3] []=br (iLe i2 i1) (fZ (iLe i1 i3)) gM:=eS Tryz.func25
theorem atO:ev E L (D+1) 26 [.int .i64 i1] []=xG L D 25 i1 999 fun a=>zL a.1:=eS Tryz.func26
theorem atP:ev E L (D+1) 28 [.sl r1] []=f4 L D 29 r1 fun a=>zL a.1:=eS Tryz.func28
def yV:Option Res:=xD L D 29 Tryz.f29 0 2 [] (xI (Z r0) 4 (Z r1::fd i2 i3 16 [])) [] n
theorem C5:yV L D (n+1) r0 r1 i2 i3=(gr i3 i2 (ft 3 r1 i3 (fun a=>g9 a 0 fun b=>xo a 1 fun c=>B (gd a 2) fun a=>gp L D 72 [A<|xk (Q b) c<|Z a] fun a=>xF a.1<|gp L D 73 (zm (Z r0) b) fun a=>gQ a.1 fun a=>gP (iEq a i3) gM<|yV L D n r0 r1 i2<|gi i3))<|gA gU):=by kernel_rfl
theorem atQ:ev E L (D+1) 29 [.sl r1] []=yV L D L r1 r1 (N r1) 0:=eS Tryz.func29
theorem atR:ev E L (D+1) 31 [.agg [.int .i64 i1,.str s2,.str s3,.int .i64 i4,.int .i64 i5,.str s6,.sl r7,.sl r8,.str s9,.str s10,.str s11,.str s12,.str s13]] []=gp L D 32 [A [gb i1,Q s2,Q s3,gb i4,gb i5,Q s6,Z r7,Z r8,Q s9,Q s10,Q s11,Q s12,Q s13]] fun a=>zL a.1:=eS Tryz.func31
theorem atS:ev E L (D+1) 32 [.agg [.int .i64 i1,.str s2,.str s3,.int .i64 i4,.int .i64 i5,.str s6,.sl r7,.sl r8,.str s9,.str s10,.str s11,.str s12,.str s13]] []=(gy L D 35 i1 fun a=>xF a.1<|gv L D 10 s3 fun a=>zM 5 a.1 0 1 2 3 4 fun a _=>xp (iEq a 1) (xt (iLt 300 (fc (sLen s2) (sLen s3))) (gJ L D 75 (gb i4) i1 (fun a=>xF a.1<|gJ L D 75 (gb i5) i1 fun a=>xF a.1<|gp L D 65 [fS r7] fun a=>xF a.1<|xt (iLt 20 (N r8))<|gp L D 76 [Z [],Z r8] fun a=>xF a.1<|gp L D 77 [gb i4,Q s6,Q s9] fun a=>fk a.1 gM<|gr i4 0 (fZ (ue (g8 s9) (zC (g8 s10) (g8 s11) true) (zC (g8 s12) (g8 s13) true) true))<|br (sEq s10 s9) (br (sEq s12 s9) (gv L D 36 s11 (fun a=>xr a.1<|gv L D 36 s13 fun a=>xL a.1)) gM) gM))) xB):=eS Tryz.func32
theorem atT:ev E L (D+1) 34 [.agg [.int .i64 i1,.int .i64 i2,.str s3,.str s4],.ptr (.imp 0) 0] [.cells [.sl r5,.sl r6,.sl r7,.sl r8,.sl r9,.sl r10,.sl r11,.sl r12,.sl r13,.sl r14]]=(gy L D 35 i1 fun a=>fR a.1 fun a=>gP (bNot a) (xG L D 25 i2 (gR (N r7) 1) (fun a=>fR a.1 fun a=>gP (bNot a) (gv L D 36 s3 (fun a=>fR a.1 fun a=>gP (bNot a) (gv L D 36 s4 (fun a=>fR a.1 fun a=>gS (Y (bNot a)) [Z r5,Z r6,Z r7,Z r8,Z r9,Z r10,Z r11,Z r12,Z r13,Z r14]))<|gS gU [Z r5,Z r6,Z r7,Z r8,Z r9,Z r10,Z r11,Z r12,Z r13,Z r14]))<|gS gU [Z r5,Z r6,Z r7,Z r8,Z r9,Z r10,Z r11,Z r12,Z r13,Z r14]))<|gS gU [Z r5,Z r6,Z r7,Z r8,Z r9,Z r10,Z r11,Z r12,Z r13,Z r14]):=eS Tryz.func34
theorem atU:ev E L (D+1) 35 [.int .i64 i1] []=xG L D 25 i1 7 fun a=>xL a.1:=eS Tryz.func35
theorem atV:ev E L (D+1) 36 [.str s1] []=(gv L D 10 s1 fun a=>zM 5 a.1 0 1 2 3 4 fun a _=>zR<|iEq a 0):=eS Tryz.func36
theorem atW:ev E L (D+1) 38 [.str s1] []=gv L D 36 s1 fun a=>zL a.1:=eS Tryz.func38
theorem atX:ev E L (D+1) 40 [.agg [.int .i64 i1,.str s2]] []=gy L D 35 i1 fun a=>fI a.1 (fZ (iLt 300 (sLen s2))) gU:=eS Tryz.func40
theorem atY:ev E L (D+1) 42 [.agg [.int .i64 i1,.str s2,.int .i64 i3,.str s4]] []=gp L D 43 [A [gb i1,Q s2,gb i3,Q s4]] fun a=>zL a.1:=eS Tryz.func42
theorem atZ:ev E L (D+1) 43 [.agg [.int .i64 i1,.str s2,.int .i64 i3,.str s4]] []=(gv L D 10 s2 fun a=>uh 5 a.1 0 fun a b=>zA a 1 2 fun c _=>zj a 3 a 4 fun _=>gy L D 35 i1 fun a=>xr a.1<|gw b 5 (gw c i1 (gp L D 25 (xN (gb i3) 1 999) (fun a=>xr a.1<|gv L D 82 s4 fun a=>xL a.1)) gM) gM):=eS Tryz.func43
theorem au0:ev E L (D+1) 45 [.agg [.int .i64 i1,.int .i64 i2],.ptr (.imp 0) 0] [.cells [.sl r3,.sl r4,.sl r5,.sl r6,.sl r7,.sl r8,.sl r9,.sl r10,.sl r11,.sl r12]]=(gy L D 35 i1 fun a=>fR a.1 fun a=>gP (bNot a) (xG L D 25 i2 (gR (N r9) 1) (fun a=>fR a.1 fun a=>gS (Y (bNot a)) [Z r3,Z r4,Z r5,Z r6,Z r7,Z r8,Z r9,Z r10,Z r11,Z r12]))<|gS gU [Z r3,Z r4,Z r5,Z r6,Z r7,Z r8,Z r9,Z r10,Z r11,Z r12]):=eS Tryz.func45
theorem al9:ev E L (D+1) 46 [.str s1] []=(br (g8 s1) (xY (Q s1))<|gv L D 84 s1 fun a=>gQ a.1 fun a=>xU a (xl 1 (zk 1 s1) (sLen s1) s1 (gv L D 85 (gG s1 1) (fun b=>fW 2 b.1 fun b=>zo b 0 b 1 fun b c=>gX (iEq b 0) (gp L D 86 [Q c,x6 [59]] (fun d=>fk d.1 (xY (Q s1))<|xl 1 (zk 1 c) (sLen c) c<|xq [A [gb 1,gb a,gb b,gh,gh],Q<|gG c 1,gU]))<|V<|ut uu<|Q s1)))<|xl 1 (zk 1 s1) (sLen s1) s1<|fD s1 0 fun a=>gw a 110 (gv L D 46 (gG s1 1) (fun a=>fW 3 a.1 fun a=>zO 5 (C a 0) 0 1 2 fun b _=>g9 b 3 fun _=>zj b 4 a 1 fun b=>fR (C a 2) fun a=>xl 0 (fe (xR (gG s1 1) b)) (xR (gG s1 1) b) (gG s1 1)<|br a (gw 2 4 (gv L D 46 b (fun a=>fW 3 a.1 fun a=>zO 5 (C a 0) 0 1 2 fun c _=>g9 c 3 fun _=>zj c 4 a 1 fun c=>fR (C a 2) fun a=>xl 0 (fe (xR b c)) (xR b c) b<|gX a (xY (Q s1))<|V [A<|ur (gb 2) (Q (xX (gG s1 1) 0 b))<|Q<|xX b 0 c,Q c,gU])) (gX a (xY (Q s1)) (V [A<|zX (gb 2)<|Q<|xX (gG s1 1) 0 b,Q b,gU])))<|gX a (xY (Q s1))<|V [A<|zX (gb 2)<|Q<|xX (gG s1 1) 0 b,Q b,gU]))<|gw a 107 (gv L D 46 (gG s1 1) (fun a=>fW 3 a.1 fun a=>zO 5 (C a 0) 0 1 2 fun b _=>g9 b 3 fun _=>zj b 4 a 1 fun b=>fR (C a 2) fun a=>xl 0 (fe (xR (gG s1 1) b)) (xR (gG s1 1) b) (gG s1 1)<|br a (gw 3 4 (gv L D 46 b (fun a=>fW 3 a.1 fun a=>zO 5 (C a 0) 0 1 2 fun c _=>g9 c 3 fun _=>zj c 4 a 1 fun c=>fR (C a 2) fun a=>xl 0 (fe (xR b c)) (xR b c) b<|gX a (xY (Q s1))<|V [A<|ur (gb 3) (Q (xX (gG s1 1) 0 b))<|Q<|xX b 0 c,Q c,gU])) (gX a (xY (Q s1)) (V [A<|zX (gb 3)<|Q<|xX (gG s1 1) 0 b,Q b,gU])))<|gX a (xY (Q s1))<|V [A<|zX (gb 3)<|Q<|xX (gG s1 1) 0 b,Q b,gU]))<|gw a 101 (gv L D 46 (gG s1 1) (fun a=>fW 3 a.1 fun a=>zO 5 (C a 0) 0 1 2 fun b _=>g9 b 3 fun _=>zj b 4 a 1 fun b=>fR (C a 2) fun a=>xl 0 (fe (xR (gG s1 1) b)) (xR (gG s1 1) b) (gG s1 1)<|br a (br (ua 4) (gv L D 46 b (fun a=>fW 3 a.1 fun a=>zO 5 (C a 0) 0 1 2 fun c _=>g9 c 3 fun _=>zj c 4 a 1 fun c=>fR (C a 2) fun a=>xl 0 (fe (xR b c)) (xR b c) b<|gX a (xY (Q s1))<|V [A<|ur (gb 4) (Q (xX (gG s1 1) 0 b))<|Q<|xX b 0 c,Q c,gU])) (gX a (xY (Q s1)) (V [A<|zX (gb 4)<|Q<|xX (gG s1 1) 0 b,Q b,gU])))<|gX a (xY (Q s1))<|V [A<|zX (gb 4)<|Q<|xX (gG s1 1) 0 b,Q b,gU]))<|gw a 109 (gv L D 84 (gG s1 1) (fun a=>gQ a.1 fun a=>gr a 0 (xY (Q s1))<|xl 1 (zk 1 (gG s1 1)) (sLen (gG s1 1)) (gG s1 1)<|gv L D 46 (gG (gG s1 1) 1) fun b=>fW 3 b.1 fun b=>zO 5 (C b 0) 0 1 2 fun c _=>g9 c 3 fun _=>zj c 4 b 1 fun c=>fR (C b 2) fun b=>xl 0 (fe (xR (gG (gG s1 1) 1) c)) (xR (gG (gG s1 1) 1) c) (gG (gG s1 1) 1)<|br b (gw 5 4 (gv L D 46 c (fun b=>fW 3 b.1 fun b=>zO 5 (C b 0) 0 1 2 fun d _=>g9 d 3 fun _=>zj d 4 b 1 fun d=>fR (C b 2) fun b=>xl 0 (fe (xR c d)) (xR c d) c<|gX b (xY (Q s1))<|V [A [gb 5,gb a,gq,Q<|xX (gG (gG s1 1) 1) 0 c,Q<|xX c 0 d],Q d,gU])) (gX b (xY (Q s1)) (V [A [gb 5,gb a,gq,Q<|xX (gG (gG s1 1) 1) 0 c,gh],Q c,gU])))<|gX b (xY (Q s1))<|V [A [gb 5,gb a,gq,Q<|xX (gG (gG s1 1) 1) 0 c,gh],Q c,gU]))<|gw a 114 (gX (g8 (gG s1 1)) (fD (gG s1 1) 0 (fun a=>gX (iLt a 49) (fD (gG s1 1) 0 (fun a=>gr 57 a (xY (Q s1))<|fD (gG s1 1) 0 fun a=>xl 1 (zk 1 (gG s1 1)) (sLen (gG s1 1)) (gG s1 1)<|gv L D 46 (gG (gG s1 1) 1) fun b=>fW 3 b.1 fun b=>zO 5 (C b 0) 0 1 2 fun c _=>g9 c 3 fun _=>zj c 4 b 1 fun c=>fR (C b 2) fun b=>xl 0 (fe (xR (gG (gG s1 1) 1) c)) (xR (gG (gG s1 1) 1) c) (gG (gG s1 1) 1)<|br b (gw 6 4 (gv L D 46 c (fun b=>fW 3 b.1 fun b=>zO 5 (C b 0) 0 1 2 fun d _=>g9 d 3 fun _=>zj d 4 b 1 fun d=>fR (C b 2) fun b=>xl 0 (fe (xR c d)) (xR c d) c<|gX b (xY (Q s1))<|V [A<|uq (gb 6) (gb (za (zK a 48))) (Q (xX (gG (gG s1 1) 1) 0 c))<|Q<|xX c 0 d,Q d,gU])) (gX b (xY (Q s1)) (V [A<|uq (gb 6) (gb (za (zK a 48))) (Q (xX (gG (gG s1 1) 1) 0 c)) gh,Q c,gU])))<|gX b (xY (Q s1))<|V [A<|uq (gb 6) (gb (za (zK a 48))) (Q (xX (gG (gG s1 1) 1) 0 c)) gh,Q c,gU]))<|V<|ut uu<|Q s1)) (V (ut uu (Q s1))))<|xY<|Q s1):=eS Tryz.func46
def sV:Option Res:=x9 L D 61 Tryz.f61 0 3 [] (xh U (gt 1) (fT (gt 2) (gt 3) 38 (Z r50::fd i51 i52 52 []))) [gu 1 [Z r20,Z r21,Z r22,Z r23,Z r24,Z r25,Z r26,Z r27,Z r28,Z r29],gu 2 [fj 2 i30,gK 2 102 i31,fF 2 i32,fJ 2 i33,f7 2 i34,f8 2 i35,fK 2 i36,fM 2 i37,xb 2 i38,xd 2 i39],fw 2 r0,gL 2 102 r1,fL 2 r2,fN 2 r3,xa 2 r4,xc 2 r5,fO 2 r6,fP 2 r7,xe 2 r8,xf 2 r9,gu 3 [fj 3 i40,gK 3 102 i41,fF 3 i42,fJ 3 i43,f7 3 i44,f8 3 i45,fK 3 i46,fM 3 i47,xb 3 i48,xd 3 i49],fw 3 r10,gL 3 102 r11,fL 3 r12,fN 3 r13,xa 3 r14,xc 3 r15,fO 3 r16,fP 3 r17,xe 3 r18,xf 3 r19] n
def nZ:Option Res:=lq L D 61 Tryz.f61 0 [1,1,1,0,1,0] 8 [] (xh U (gt 1) (fT (gt 2) (gt 3) 53 (Z r50::fd i51 i52 37 []))) [gu 1 [Z r20,Z r21,Z r22,Z r23,Z r24,Z r25,Z r26,Z r27,Z r28,Z r29],gu 2 [fj 2 i30,gK 2 102 i31,fF 2 i32,fJ 2 i33,f7 2 i34,f8 2 i35,fK 2 i36,fM 2 i37,xb 2 i38,xd 2 i39],fw 2 r0,gL 2 102 r1,fL 2 r2,fN 2 r3,xa 2 r4,xc 2 r5,fO 2 r6,fP 2 r7,xe 2 r8,xf 2 r9,gu 3 [fj 3 i40,gK 3 102 i41,fF 3 i42,fJ 3 i43,f7 3 i44,f8 3 i45,fK 3 i46,fM 3 i47,xb 3 i48,xd 3 i49],fw 3 r10,gL 3 102 r11,fL 3 r12,fN 3 r13,xa 3 r14,xc 3 r15,fO 3 r16,fP 3 r17,xe 3 r18,xf 3 r19] n
def mF:Option Res:=lq L D 61 Tryz.f61 0 [1,1,1,1,0,1,0] 13 [] (xh U U (fT (gt 2) (gt 3) 78 (Z r40::fd i41 i42 12 []))) [gu 2 [fj 2 i20,gK 2 102 i21,fF 2 i22,fJ 2 i23,f7 2 i24,f8 2 i25,fK 2 i26,fM 2 i27,xb 2 i28,xd 2 i29],fw 2 r0,gL 2 102 r1,fL 2 r2,fN 2 r3,xa 2 r4,xc 2 r5,fO 2 r6,fP 2 r7,xe 2 r8,xf 2 r9,gu 3 [fj 3 i30,gK 3 102 i31,fF 3 i32,fJ 3 i33,f7 3 i34,f8 3 i35,fK 3 i36,fM 3 i37,xb 3 i38,xd 3 i39],fw 3 r10,gL 3 102 r11,fL 3 r12,fN 3 r13,xa 3 r14,xc 3 r15,fO 3 r16,fP 3 r17,xe 3 r18,xf 3 r19] n
theorem C6:sV L D (n+1) r0 r1 r2 r3 r4 r5 r6 r7 r8 r9 r10 r11 r12 r13 r14 r15 r16 r17 r18 r19 r20 r21 r22 r23 r24 r25 r26 r27 r28 r29 i30 i31 i32 i33 i34 i35 i36 i37 i38 i39 i40 i41 i42 i43 i44 i45 i46 i47 i48 i49 r50 i51 i52=(gr i52 i51 (ft 7 r50 i52 (fun a=>xi (C a 0) a 1 (gd a 2) (gd a 3) a 4 a 5 a 6 fun a b c d e f g=>gp L D 113 [gN a b c d e f g] fun a=>fu 7 a.1 fun a=>xi (C a 0) a 1 (gd a 2) (gd a 3) a 4 a 5 a 6 fun a b c d e f g=>xm i40 r10 7 i52 fun h=>xM 7 h<|sV L D n r0 r1 r2 r3 r4 r5 r6 r7 r8 r9 (gC r10 i52 h 0 (gV a b c d e f g)) r11 r12 r13 r14 r15 r16 r17 r18 r19 r20 r21 r22 r23 r24 r25 r26 r27 r28 r29 i30 i31 i32 i33 i34 i35 i36 i37 i38 i39 i40 i41 i42 i43 i44 i45 i46 i47 i48 i49 r50 i51<|gi i52))<|nZ L D L r0 r1 r2 r3 r4 r5 r6 r7 r8 r9 r10 r11 r12 r13 r14 r15 r16 r17 r18 r19 r20 r21 r22 r23 r24 r25 r26 r27 r28 r29 i30 i31 i32 i33 i34 i35 i36 i37 i38 i39 i40 i41 i42 i43 i44 i45 i46 i47 i48 i49 r22 (N r22) 0):=by kernel_rfl
theorem C7:nZ L D (n+1) r0 r1 r2 r3 r4 r5 r6 r7 r8 r9 r10 r11 r12 r13 r14 r15 r16 r17 r18 r19 r20 r21 r22 r23 r24 r25 r26 r27 r28 r29 i30 i31 i32 i33 i34 i35 i36 i37 i38 i39 i40 i41 i42 i43 i44 i45 i46 i47 i48 i49 r50 i51 i52=(gr i52 i51 (ft 13 r50 i52 (fun a=>uT a 0 a 1 a 2 fun _=>uO a 3 a 4 fun _=>g9 a 5 fun _=>zv (gd a 6) (gd a 7) fun b c=>g9 a 8 fun _=>zj a 9 a 10 fun _=>zj a 11 a 12 fun _=>f4 L D 48 b fun a=>B (M a.1) fun a=>f4 L D 92 c fun b=>B (M b.1) fun b=>x8 i42 r12 13 i52<|xC a (gz i42 r12)<|fA r12 i52 fun c=>xn (zE 7 c) i42 (gC r12 i52 c 6 (fy a))<|uc 13 (gC r12 i52 c 6 (fy a)) i52 (gz i42 (gC r12 i52 c 6 (fy a)))<|xC b (gz i42 (gC r12 i52 c 6 (fy a)))<|fA (gC r12 i52 c 6 (fy a)) i52 fun d=>xM 8 d<|nZ L D n r0 r1 r2 r3 r4 r5 r6 r7 r8 r9 r10 r11 (gC (gC r12 i52 c 6 (fy a)) i52 d 7 (fy b)) r13 r14 r15 r16 r17 r18 r19 r20 r21 r22 r23 r24 r25 r26 r27 r28 r29 i30 i31 i32 i33 i34 i35 i36 i37 i38 i39 i40 i41 i42 i43 i44 i45 i46 i47 i48 i49 r50 i51<|gi i52))<|mF L D L r0 r1 r2 r3 r4 r5 r6 r7 r8 r9 r10 r11 r12 r13 r14 r15 r16 r17 r18 r19 i30 i31 i32 i33 i34 i35 i36 i37 i38 i39 i40 i41 i42 i43 i44 i45 i46 i47 i48 i49 r28 (N r28) 0):=by kernel_rfl
theorem AO:mF L D (n+1) r0 r1 r2 r3 r4 r5 r6 r7 r8 r9 r10 r11 r12 r13 r14 r15 r16 r17 r18 r19 i20 i21 i22 i23 i24 i25 i26 i27 i28 i29 i30 i31 i32 i33 i34 i35 i36 i37 i38 i39 r40 i41 i42=(gr i42 i41 (ft 1 r40 i42 (fun a=>B (gd a 0) fun a=>f4 L D 114 a fun a=>B (M a.1) fun a=>gT i38 r18<|ft 1 r18 i42 fun _=>xC a (gz i38 r18)<|fA r18 i42 fun b=>xM 1 b<|mF L D n r0 r1 r2 r3 r4 r5 r6 r7 r8 r9 r10 r11 r12 r13 r14 r15 r16 r17 (gC r18 i42 b 0 (fy a)) r19 i20 i21 i22 i23 i24 i25 i26 i27 i28 i29 i30 i31 i32 i33 i34 i35 i36 i37 i38 i39 r40 i41<|gi i42))<|xn (gz i30 r10) i31 r11<|fh i32 r12 i33 r13 i34 r14 i35 r15<|fh i36 r16 i37 r17 i38 r18 i39 r19<|gZ [O r10,O r11,O r12,O r13,O r14,O r15,O r16,O r17,O r18,O r19]):=by kernel_rfl
theorem au1:ev E L (D+1) 61 [.agg [.sl r1,.sl r2,.sl r3,.sl r4,.sl r5,.sl r6,.sl r7,.sl r8,.sl r9,.sl r10]] []=f4 L D 105 r1 fun a=>B (M a.1) fun a=>f4 L D 106 r2 fun b=>B (M b.1) fun b=>f4 L D 107 r3 fun c=>B (M c.1) fun c=>f4 L D 108 r4 fun d=>B (M d.1) fun d=>f4 L D 48 r5 fun e=>B (M e.1) fun e=>f4 L D 109 r6 fun f=>B (M f.1) fun f=>f4 L D 110 r7 fun g=>B (M g.1) fun g=>f4 L D 108 r8 fun h=>B (M h.1) fun h=>f4 L D 111 r9 fun i=>B (M i.1) fun i=>f4 L D 112 r10 fun j=>B (M j.1) fun j=>sV L D L [] [] [] [] [] [] [] [] [] [] a b c d e f g h i j r1 r2 r3 r4 r5 r6 r7 r8 r9 r10 (N []) (N []) (N []) (N []) (N []) (N []) (N []) (N []) (N []) (N []) (N a) (N b) (N c) (N d) (N e) (N f) (N g) (N h) (N i) (N j) r1 (N r1) 0:=eS Tryz.func61
def O4:Option Res:=jq L D 62 Tryz.f62 1 [1,1,1,1,0,1,1] 7 [] (xx::fV U U (gt 3) (MV.ptrE (H.loc 0 101) i26 i27 0) (fT (Y b28) (Y b29) 42 (xI (Y b30) 204 []))) [xO 0 [fj 0 i10,gK 0 1102 i11,fF 0 i12,fJ 0 i13,f7 0 i14,f8 0 i15,fK 0 i16,fM 0 i17,xb 0 i18,xd 0 i19],fw 0 r0,fL 0 r1,fN 0 r2,xa 0 r3,xc 0 r4,fO 0 r5,fP 0 r6,xe 0 r7,xf 0 r8,gL 0 1102 r9,gu 3<|fC i20 i21 i22 i23 i24 s25]
def JK:Option Res:=jq L D 62 Tryz.f62 1 [1,1,1,1,0,1,1,1,1] 11 [] (xx::fV U U (gt 3) (MV.ptrE (H.loc 0 101) i26 i27 0) (fT U (Y b28) 68 (xI (Y b29) 178 []))) [xO 0 [fj 0 i10,gK 0 1102 i11,fF 0 i12,fJ 0 i13,f7 0 i14,f8 0 i15,fK 0 i16,fM 0 i17,xb 0 i18,xd 0 i19],fw 0 r0,fL 0 r1,fN 0 r2,xa 0 r3,xc 0 r4,fO 0 r5,fP 0 r6,xe 0 r7,xf 0 r8,gL 0 1102 r9,gu 3<|fC i20 i21 i22 i23 i24 s25]
def kP:Option Res:=jq L D 62 Tryz.f62 1 [1,1,1,1,0,1,1,1,1,1,1,1,1] 16 [] (xx::fV U U (gt 3) (MV.ptrE (H.loc 0 101) i26 i27 0) (fT U (Y b28) 124 (xI (Y b29) 122 []))) [xO 0 [fj 0 i10,gK 0 1102 i11,fF 0 i12,fJ 0 i13,f7 0 i14,f8 0 i15,fK 0 i16,fM 0 i17,xb 0 i18,xd 0 i19],fw 0 r0,fL 0 r1,fN 0 r2,xa 0 r3,xc 0 r4,fO 0 r5,fP 0 r6,xe 0 r7,xf 0 r8,gL 0 1102 r9,gu 3<|fC i20 i21 i22 i23 i24 s25]
def C8:Option Res:=jq L D 62 Tryz.f62 1 [1,1,1,1,0,1,1,1,1,1,1,1,1,1,1] 21 [] (xx::xh U U (fT (gt 3) (MV.ptrE (H.loc 0 101) i26 i27 0) 188 (xI (Y b28) 60 []))) [xO 0 [fj 0 i10,gK 0 1102 i11,fF 0 i12,fJ 0 i13,f7 0 i14,f8 0 i15,fK 0 i16,fM 0 i17,xb 0 i18,xd 0 i19],fw 0 r0,fL 0 r1,fN 0 r2,xa 0 r3,xc 0 r4,fO 0 r5,fP 0 r6,xe 0 r7,xf 0 r8,gL 0 1102 r9,gu 3<|fC i20 i21 i22 i23 i24 s25]
theorem cJ:O4 L D r0 r1 r2 r3 r4 r5 r6 r7 r8 r9 i10 i11 i12 i13 i14 i15 i16 i17 i18 i19 i20 i21 i22 i23 i24 s25 i26 i27 b28 b29 b30=(br b30 (zD (gz i26 r0) (fA r0 i27 (fun a=>xi (C a 0) a 1 (gd a 2) (gd a 3) a 4 a 5 a 6 fun a b c d e f g=>xm i12 r1 13 i24 fun h=>zN h 0 h 1 h 2 fun i j k=>zx h 3 4 h 5 fun l m o=>zv (gd h 6) (gd h 7) fun p q=>g9 h 8 fun r=>xy h 9 10 fun s t=>xy h 11 12 fun h u=>gp L D 116 [gN a b c d e f g,A [gb i,Q j,Q k,gb l,gb m,Q o,Z p,Z q,Q r,Q s,Q t,Q h,Q u]] fun a=>fW 2 a.1 fun a=>fu 7 (C a 0) fun b=>xi (C b 0) b 1 (gd b 2) (gd b 3) b 4 b 5 b 6 fun b c d e f g h=>xj (C a 1) (zD (gz i26 r0) (fA r0 i27 (fun a=>xM 7 a<|xn (gz i10 (gC r0 i27 a 0 (gV b c d e f g h))) i11 r9<|fh i12 r1 i13 r2 i14 r3 i15 r4<|fh i16 r5 i17 r6 i18 r7 i19 r8<|gS (V []) [O<|gC r0 i27 a 0<|gV b c d e f g h,WK r9,O r1,O r2,O r3,O r4,O r5,O r6,O r7,O r8])))<|xn (gz i10 r0) i11 r9<|fh i12 r1 i13 r2 i14 r3 i15 r4<|fh i16 r5 i17 r6 i18 r7 i19 r8<|gS (V []) [O r0,WK r9,O r1,O r2,O r3,O r4,O r5,O r6,O r7,O r8])))<|gw i20 3 (JK L D r0 r1 r2 r3 r4 r5 r6 r7 r8 r9 i10 i11 i12 i13 i14 i15 i16 i17 i18 i19 i20 i21 i22 i23 i24 s25 i26 i27 b29 b28)<|JK L D r0 r1 r2 r3 r4 r5 r6 r7 r8 r9 i10 i11 i12 i13 i14 i15 i16 i17 i18 i19 i20 i21 i22 i23 i24 s25 i26 i27 b29 false):=by kernel_rfl
theorem cK:JK L D r0 r1 r2 r3 r4 r5 r6 r7 r8 r9 i10 i11 i12 i13 i14 i15 i16 i17 i18 i19 i20 i21 i22 i23 i24 s25 i26 i27 b28 b29=(br b29 (xn (gz i10 r0) i11 r9 (fh i12 r1 i13 r2 i14 r3 i15 r4 (fh i16 r5 i17 r6 i18 r7 i19 r8 (xJ L D 117 [xx,A<|fC i20 i21 i22 i23 i24 s25] [O r0,WK r9,O r1,O r2,O r3,O r4,O r5,O r6,O r7,O r8] (fun a=>fq 10 a.2 fun b=>zb (x5 b) (BW (C b 1)) (gk b 2) (gk b 3) (gk b 4) (gk b 5) (gk b 6) (gk b 7) (gk b 8) (gk b 9) fun b c d e f g h i j k=>fW 0 a.1 fun _=>xV b c d e f g h i j k<|gS (V []) [O b,WK c,O d,O e,O f,O g,O h,O i,O j,O k])))))<|gw i20 4 (gT i26 r0 (zD (gz i26 r0) (fA r0 i27 (fun a=>xj (C a 0) (gT i15 r4 (gr (N r4) 12 (zD (gz i26 r0) (fA r0 i27 (fun a=>xi (C a 0) a 1 (gd a 2) (gd a 3) a 4 a 5 a 6 fun a b c d e f g=>gp L D 17 [gN a b c d e f g] fun a=>B (F a.1) fun a=>uC (fv i14 r3 1 1 a 16) i26 r0 (gz i26 r0) (gz i26 r0)<|fA r0 i27 fun b=>g9 b 6 fun b=>zW [ff i21 b] (fv i15 r4 2 2 [ff i21 b] 24) (gz i10 r0) (gz i11 r9)<|uw i12 r1 i13 r2 (gO (cG r3 a)) (gO (gF r4 (ff i21 b)))<|fh i16 r5 i17 r6 i18 r7 i19 r8<|gS (V []) [O r0,WK r9,O r1,O r2,O<|cG r3 a,O<|gF r4<|ff i21 b,O r5,O r6,O r7,O r8]))) (gw i20 5 (gT i16 r5 (gr (N r5) 40 (x8 i17 r6 1 i21 (fU r6 i21 0 (fun a=>kP L D r0 r1 r2 r3 r4 r5 r6 r7 r8 r9 i10 i11 i12 i13 i14 i15 i16 i17 i18 i19 i20 i21 i22 i23 i24 s25 i26 i27 b28<|iLt a 999))) (kP L D r0 r1 r2 r3 r4 r5 r6 r7 r8 r9 i10 i11 i12 i13 i14 i15 i16 i17 i18 i19 i20 i21 i22 i23 i24 s25 i26 i27 b28 false))) (kP L D r0 r1 r2 r3 r4 r5 r6 r7 r8 r9 i10 i11 i12 i13 i14 i15 i16 i17 i18 i19 i20 i21 i22 i23 i24 s25 i26 i27 b28 false))))<|gw i20 5 (gT i16 r5 (gr (N r5) 40 (x8 i17 r6 1 i21 (fU r6 i21 0 (fun a=>kP L D r0 r1 r2 r3 r4 r5 r6 r7 r8 r9 i10 i11 i12 i13 i14 i15 i16 i17 i18 i19 i20 i21 i22 i23 i24 s25 i26 i27 b28<|iLt a 999))) (kP L D r0 r1 r2 r3 r4 r5 r6 r7 r8 r9 i10 i11 i12 i13 i14 i15 i16 i17 i18 i19 i20 i21 i22 i23 i24 s25 i26 i27 b28 false)))<|kP L D r0 r1 r2 r3 r4 r5 r6 r7 r8 r9 i10 i11 i12 i13 i14 i15 i16 i17 i18 i19 i20 i21 i22 i23 i24 s25 i26 i27 b28 false))))<|gw i20 5 (gT i16 r5 (gr (N r5) 40 (x8 i17 r6 1 i21 (fU r6 i21 0 (fun a=>kP L D r0 r1 r2 r3 r4 r5 r6 r7 r8 r9 i10 i11 i12 i13 i14 i15 i16 i17 i18 i19 i20 i21 i22 i23 i24 s25 i26 i27 b28<|iLt a 999))) (kP L D r0 r1 r2 r3 r4 r5 r6 r7 r8 r9 i10 i11 i12 i13 i14 i15 i16 i17 i18 i19 i20 i21 i22 i23 i24 s25 i26 i27 b28 false)))<|kP L D r0 r1 r2 r3 r4 r5 r6 r7 r8 r9 i10 i11 i12 i13 i14 i15 i16 i17 i18 i19 i20 i21 i22 i23 i24 s25 i26 i27 b28 false):=by kernel_rfl
theorem cP:kP L D r0 r1 r2 r3 r4 r5 r6 r7 r8 r9 i10 i11 i12 i13 i14 i15 i16 i17 i18 i19 i20 i21 i22 i23 i24 s25 i26 i27 b28 b29=(br b29 (zD (gz i26 r0) (fA r0 i27 (fun a=>xi (C a 0) a 1 (gd a 2) (gd a 3) a 4 a 5 a 6 fun a b c d e f g=>x8 i17 r6 1 i21<|fU r6 i21 0 fun h=>gp L D 118 (xk (gN a b c d e f g) (gi h) (Q s25)) fun a=>fW 2 a.1 fun a=>uh 4 (C a 0) 0 fun b c=>g9 b 1 fun d=>zo b 2 b 3 fun b e=>xj (C a 1) (gE [[gb c,Q d,gb b,Q e]] (xn (fv i16 r5 4 4 [[gb c,Q d,gb b,Q e]] 48) i17 r6 (uc 1 r6 i21 (gz i17 r6) (fU r6 i21 0 (fun a=>xm i17 r6 1 i21 fun f=>xM 1 f<|xn (gz i10 r0) i11 r9<|fh i12 r1 i13 r2 i14 r3 i15 r4<|zW (gF r5 [gb c,Q d,gb b,Q e]) (gz i17 (gC r6 i21 f 0 (ze a))) (gz i18 r7) (gz i19 r8)<|gS (V []) [O r0,WK r9,O r1,O r2,O r3,O r4,O<|gF r5 [gb c,Q d,gb b,Q e],O<|gC r6 i21 f 0<|ze a,O r7,O r8])))))<|xn (gz i10 r0) i11 r9<|fh i12 r1 i13 r2 i14 r3 i15 r4<|fh i16 r5 i17 r6 i18 r7 i19 r8<|gS (V []) [O r0,WK r9,O r1,O r2,O r3,O r4,O r5,O r6,O r7,O r8])))<|gw i20 6 (br b28 (gT i19 r8 (C8 L D r0 r1 r2 r3 r4 r5 r6 r7 r8 r9 i10 i11 i12 i13 i14 i15 i16 i17 i18 i19 i20 i21 i22 i23 i24 s25 i26 i27 (iLt (N r8) 320))) (C8 L D r0 r1 r2 r3 r4 r5 r6 r7 r8 r9 i10 i11 i12 i13 i14 i15 i16 i17 i18 i19 i20 i21 i22 i23 i24 s25 i26 i27 false))<|C8 L D r0 r1 r2 r3 r4 r5 r6 r7 r8 r9 i10 i11 i12 i13 i14 i15 i16 i17 i18 i19 i20 i21 i22 i23 i24 s25 i26 i27 false):=by kernel_rfl
theorem cQ:C8 L D r0 r1 r2 r3 r4 r5 r6 r7 r8 r9 i10 i11 i12 i13 i14 i15 i16 i17 i18 i19 i20 i21 i22 i23 i24 s25 i26 i27 b28=(br b28 (zD (gz i26 r0) (fA r0 i27 (fun a=>xi (C a 0) a 1 (gd a 2) (gd a 3) a 4 a 5 a 6 fun a b c d e f g=>xm i18 r7 1 i21 fun h=>B (gd h 0) fun h=>xm i16 r5 4 i24 fun i=>zo i 0 i 1 fun j k=>zo i 2 i 3 fun i l=>gp L D 119 [gN a b c d e f g,Z h,A [gb j,Q k,gb i,Q l]] fun a=>fW 2 a.1 fun a=>B (gd a 0) fun b=>xj (C a 1) (xm i18 r7 1 i21 (fun a=>xM 1 a<|zW [zI (gb i21) i24] (fv i19 r8 2 2 [zI (gb i21) i24] 16) (gz i10 r0) (gz i11 r9)<|fh i12 r1 i13 r2 i14 r3 i15 r4<|uQ i16 r5 i17 r6 i18 (gC r7 i21 a 0 (fy b)) (gO (gF r8 (zI (gb i21) i24)))<|gS (V []) [O r0,WK r9,O r1,O r2,O r3,O r4,O r5,O r6,O<|gC r7 i21 a 0<|fy b,O<|gF r8<|zI (gb i21) i24]))<|xn (gz i10 r0) i11 r9<|fh i12 r1 i13 r2 i14 r3 i15 r4<|fh i16 r5 i17 r6 i18 r7 i19 r8<|gS (V []) [O r0,WK r9,O r1,O r2,O r3,O r4,O r5,O r6,O r7,O r8])))<|xn (gz i10 r0) i11 r9<|fh i12 r1 i13 r2 i14 r3 i15 r4<|fh i16 r5 i17 r6 i18 r7 i19 r8<|gS (V []) [O r0,WK r9,O r1,O r2,O r3,O r4,O r5,O r6,O r7,O r8]):=by kernel_rfl
theorem au2:ev E L (D+1) 62 [.ptr (.imp 0) 0,.agg [.int .i64 i11,.int .i64 i12,.int .i64 i13,.int .i64 i14,.int .i64 i15,.str s16]] [.cells [.own r1,.ownK r2,.own r3,.own r4,.own r5,.own r6,.own r7,.own r8,.own r9,.own r10]]=(gy L D 35 i12 fun a=>fk a.1 (xV r1 r2 r3 r4 r5 r6 r7 r8 r9 r10 (gS (V []) [O r1,WK r2,O r3,O r4,O r5,O r6,O r7,O r8,O r9,O r10]))<|gE r1<|uS 7 r1 i12 r3<|xG L D 25 i15 (gR (N r3) 1) fun a=>fR a.1 fun a=>gE r7<|xG L D 25 i15 (gR (N r7) 1) fun b=>fR b.1 fun b=>gw i11 1 (xV r1 r2 r3 r4 r5 r6 r7 r8 r9 r10 (xJ L D 115 [xx,A<|fC i11 i12 i13 i14 i15 s16] [O r1,WK r2,O r3,O r4,O r5,O r6,O r7,O r8,O r9,O r10] (fun a=>fq 10 a.2 fun b=>zb (x5 b) (BW (C b 1)) (gk b 2) (gk b 3) (gk b 4) (gk b 5) (gk b 6) (gk b 7) (gk b 8) (gk b 9) fun b c d e f g h i j k=>fW 0 a.1 fun _=>xV b c d e f g h i j k<|gS (V []) [O b,WK c,O d,O e,O f,O g,O h,O i,O j,O k])))<|gw i11 2 (O4 L D r1 r3 r4 r5 r6 r7 r8 r9 r10 r2 (N r1) (N r2) (N r3) (N r4) (N r5) (N r6) (N r7) (N r8) (N r9) (N r10) i11 i12 i13 i14 i15 s16 (N r1) i12 a b a)<|O4 L D r1 r3 r4 r5 r6 r7 r8 r9 r10 r2 (N r1) (N r2) (N r3) (N r4) (N r5) (N r6) (N r7) (N r8) (N r9) (N r10) i11 i12 i13 i14 i15 s16 (N r1) i12 a b false):=eS Tryz.func62
theorem au3:ev E L (D+1) 63 [.int .i64 i1,.str s2,.str s3] []=(gy L D 35 i1 fun a=>fI a.1 (gv L D 120 s2 (fun a=>fI a.1 (gv L D 36 s3 (fun a=>fk a.1 (gZ (zJ 0 []))<|gp L D 121 [] fun a=>xK 1 a.1 fun a=>gE a<|gp L D 122 (xk (fS a) i1 (Q s2)) fun a=>xK 1 a.1 fun a=>gy L D 67 i1 fun b=>B (F b.1) fun b=>gp L D 123 (zm (Z b) s2) fun b=>B (F b.1) fun b=>gE a<|gZ<|uA true i1 (Z a) (Z b) 0 s3 gh)) zh)) zh):=eS Tryz.func63
theorem au4:ev E L (D+1) 64 [.int .i64 i1,.int .i64 i2] []=(gy L D 35 i1 fun a=>fI a.1 (gp L D 25 (xN (gb i2) 1 99) (fun a=>fk a.1 (gA gh)<|gy L D 124 i1 fun a=>gD a.1 fun a=>gy L D 125 i2 fun b=>gD b.1 fun b=>fY (xW a b 1) (xW (kB a b) (bs [59]) 1)<|gA<|Q<|kB (kB a b)<|bs [59])) gh):=eS Tryz.func64
theorem au5:ev E L (D+1) 65 [.agg [.sl r1]] []=gw (N r1) 15 (xA L D 79 r1 126 [] (fun a=>zL a.1)) gM:=eS Tryz.func65
theorem au6:ev E L (D+1) 66 [.agg [.sl r1],.int .i64 i2] []=(gy L D 35 i2 fun a=>xr a.1<|gy L D 128 i2 fun a=>zV a.1 1 r1 0 fun a=>zR<|g8 a):=eS Tryz.func66
theorem au7:ev E L (D+1) 67 [.int .i64 i1] []=(gy L D 128 i1 fun a=>gQ a.1 fun a=>gy L D 128 i1 fun b=>gQ b.1 fun b=>gy L D 129 b fun b=>B (F b.1) fun b=>fY (f5 (fb a) 1 1 b 8) (gO (cG (fb a) b))<|gA<|Z<|cG (fb a) b):=eS Tryz.func67
theorem au8:ev E L (D+1) 68 [.sl r1,.int .i64 i2] []=xJ L D 130 (zy r1 131 xZ) (xw i2) fun a=>fq 1 a.2 fun b=>xo b 0 fun _=>ud a.1:=eS Tryz.func68
theorem au9:ev E L (D+1) 69 [.str s1] []=(gE [gY s1]<|gp L D 132 [x6 [107],Z [gY s1]] fun a=>gD a.1 fun a=>gA<|Q a):=eS Tryz.func69
def sW:Option Res:=x9 L D 72 Tryz.f72 0 4 [] (fT U (gt 1) 30 (Z r3::fd i4 i5 28 [])) [gu 1<|xk (Q s0) i1<|Z r2] n
theorem C9:sW L D (n+1) s0 i1 r2 r3 i4 i5=(gr i5 i4 (xz 1 r3 i5 0 (fun a=>xt (iLt a 1)<|xt (iLe a (gR i1 8))<|gr 0 i5 (xz 1 r2 (gR i5 1) 0 (fun b=>br (iLe b a) gM<|sW L D n s0 i1 r2 r3 i4<|gi i5))<|sW L D n s0 i1 r2 r3 i4<|gi i5))<|gA gU):=by kernel_rfl
theorem auA:ev E L (D+1) 72 [.agg [.str s1,.int .i64 i2,.sl r3]] []=(gv L D 10 s1 fun a=>zM 5 a.1 0 1 2 3 4 fun a _=>xp (iEq a 5) (gp L D 25 (xN (gb i2) 1 999) (fun a=>xF a.1<|xt (iEq (N r3) 0)<|xz 1 r3 0 0 fun a=>gP (iEq a i2) gM<|sW L D L s1 i2 r3 r3 (N r3) 0)) xB):=eS Tryz.func72
theorem auB:ev E L (D+1) 73 [.sl r1,.str s2] []=xJ L D 135 (zy r1 136 xZ) (gY s2) fun a=>fq 1 a.2 fun b=>g9 b 0 fun _=>ud a.1:=eS Tryz.func73
theorem auC:ev E L (D+1) 75 [.int .i64 i1,.int .i64 i2] []=(gX (iEq i1 (-1)) (gy L D 35 i1 (fun a=>xr a.1<|zR<|iEq i1 i2)) gU):=eS Tryz.func75
theorem auD:ev E L (D+1) 76 [.sl r1,.sl r2] []=(br (iLe (N r1) 400) (br (iLe (N r2) 400) (xA L D 79 r1 138 [] (fun a=>zY a.1<|xA L D 139 r2 140 [] fun a=>zL a.1)) gM) gM):=eS Tryz.func76
theorem auE:ev E L (D+1) 77 [.int .i64 i1,.str s2,.str s3] []=(gr i1 0 (br (g8 s2) (fZ (g8 s3)) gM)<|gv L D 127 s2 fun a=>xr a.1<|gv L D 127 s3 fun a=>xr a.1<|zR<|sEq s2 s3):=eS Tryz.func77
def G4:Option Res:=xD L D 82 Tryz.f82 0 2 [] (xI (Q s0) 4 (fd i1 i2 16 [])) [] n
theorem O5:G4 L D (n+1) s0 i1 i2=(gr i2 i1 (fD s0 i2 (fun a=>xt (iLt a 97)<|fD s0 i2 fun a=>gr 122 a gM<|G4 L D n s0 i1<|gi i2))<|fZ<|iLe (sLen s0) 8):=by kernel_rfl
theorem auF:ev E L (D+1) 82 [.str s1] []=G4 L D L s1 (sLen s1) 0:=eS Tryz.func82
theorem auG:ev E L (D+1) 84 [.str s1] []=(gX (iEq (sLen s1) 0) (fD s1 0 (fun a=>gy L D 35 (gR (za a) 65) fun a=>fk a.1 zd<|fD s1 0 fun a=>xP<|gR (za a) 65))<|gb (-1)):=eS Tryz.func84
def O6:Option Res:=lq L D 85 Tryz.f85 0 [1,1,0,0] 2 [] (xI (Q s0) 3 (xI (gb i1) 43 [])) [] n
theorem n6:O6 L D (n+1) s0 i1=(gr i1 (sLen s0) (gr i1 2 (fD s0 i1 (fun a=>br (iLe 48 a) (fD s0 i1 (fun a=>br (iLe a 57) (O6 L D n s0 (gi i1))<|xl 0 (fe i1) i1 s0<|gv L D 146 (mK s0 0 i1) fun a=>fW 2 a.1 fun a=>xo a 0 fun b=>um (gIf (C a 1)) (fD s0 0 (fun a=>gw a 48 (xq (zm gq s0))<|xl i1 (zk i1 s0) (sLen s0) s0<|xq<|ff b<|gG s0 i1))<|V<|zm gq s0))<|xl 0 (fe i1) i1 s0<|gv L D 146 (mK s0 0 i1) fun a=>fW 2 a.1 fun a=>xo a 0 fun b=>um (gIf (C a 1)) (fD s0 0 (fun a=>gw a 48 (xq (zm gq s0))<|xl i1 (zk i1 s0) (sLen s0) s0<|xq<|ff b<|gG s0 i1))<|V<|zm gq s0)) (xl 0 (fe i1) i1 s0 (gv L D 146 (mK s0 0 i1) (fun a=>fW 2 a.1 fun a=>xo a 0 fun b=>um (gIf (C a 1)) (fD s0 0 (fun a=>gw a 48 (xq (zm gq s0))<|xl i1 (zk i1 s0) (sLen s0) s0<|xq<|ff b<|gG s0 i1))<|V<|zm gq s0))))<|xl 0 (fe i1) i1 s0<|gv L D 146 (mK s0 0 i1) fun a=>fW 2 a.1 fun a=>xo a 0 fun b=>um (gIf (C a 1)) (fD s0 0 (fun a=>gw a 48 (xq (zm gq s0))<|xl i1 (zk i1 s0) (sLen s0) s0<|xq<|ff b<|gG s0 i1))<|V<|zm gq s0):=by kernel_rfl
theorem auH:ev E L (D+1) 85 [.str s1] []=O6 L D L s1 0:=eS Tryz.func85
theorem auI:ev E L (D+1) 86 [.str s1,.str s2] []=gp L D 147 (xu s1 s2) fun a=>xL a.1:=eS Tryz.func86
theorem aoR:ev E L (D+1) 113 [.agg [.bool b1,.int .i64 i2,.sl r3,.sl r4,.int .i64 i5,.str s6,.str s7]] []=(gp L D 187 [fS r3] fun a=>xK 1 a.1 fun a=>f4 L D 188 r4 fun b=>B (M b.1) fun b=>zQ a b<|gZ<|gV b1 i2 a b i5 s6 s7):=eS Tryz.func113
def DA:Option Res:=x9 L D 114 Tryz.f114 0 3 [] (uD 3 (xI (gK 3 100 i1) 4 (Z r2::fd i3 i4 13 []))) [gL 3 100 r0] n
theorem KU:DA L D (n+1) r0 i1 r2 i3 i4=(gr i4 i3 (ft 3 r2 i4 (fun a=>g9 a 0 fun _=>xo a 1 fun _=>B (gd a 2) fun a=>f4 L D 108 a fun a=>B (M a.1) fun a=>x8 i1 r0 3 i4<|xC a (gz i1 r0)<|fA r0 i4 fun b=>xM 3 b<|DA L D n (gC r0 i4 b 2 (fy a)) i1 r2 i3<|gi i4))<|gT i1 r0<|gA<|O r0):=by kernel_rfl
theorem aoS:ev E L (D+1) 114 [.sl r1] []=f4 L D 189 r1 fun a=>B (M a.1) fun a=>DA L D L a (N a) r1 (N r1) 0:=eS Tryz.func114
def wL:Option Res:=jq L D 115 Tryz.f115 1 [1,1,1] 5 [] (fV xx U U (gt 3) (fT (Q s26) (Q s27) 164 [])) [xO 0 [fj 0 i10,gK 0 1102 i11,fF 0 i12,fJ 0 i13,f7 0 i14,f8 0 i15,fK 0 i16,fM 0 i17,xb 0 i18,xd 0 i19],fw 0 r0,fL 0 r1,fN 0 r2,xa 0 r3,xc 0 r4,fO 0 r5,fP 0 r6,xe 0 r7,xf 0 r8,gL 0 1102 r9,gu 3<|fC i20 i21 i22 i23 i24 s25]
theorem JP_115_5_eq:wL L D r0 r1 r2 r3 r4 r5 r6 r7 r8 r9 i10 i11 i12 i13 i14 i15 i16 i17 i18 i19 i20 i21 i22 i23 i24 s25 s26 s27=(xm i10 r0 7 i21 fun a=>xi (C a 0) a 1 (gd a 2) (gd a 3) a 4 a 5 a 6 fun a b c d e f g=>x8 i13 r2 1 i21<|fU r2 i21 0 fun h=>gJ L D 64 (gb i21) (gi h) fun h=>gD h.1 fun h=>gv L D 69 s26 fun i=>gD i.1 fun i=>gv L D 69 s27 fun j=>gD j.1 fun j=>gp L D 190 [gN a b c d e f g,Q h,gb i22,gb i23,Q i,Q j] fun a=>fW 3 a.1 fun a=>fu 7 (C a 0) fun b=>xi (C b 0) b 1 (gd b 2) (gd b 3) b 4 b 5 b 6 fun b c d e f g h=>fu 13 (C a 1) fun i=>zN i 0 i 1 i 2 fun j k l=>zx i 3 4 i 5 fun m o p=>zv (gd i 6) (gd i 7) fun q r=>g9 i 8 fun s=>xy i 9 10 fun t u=>xy i 11 12 fun i v=>fk (C a 2) (xn (gz i10 r0) i11 r9 (fh i12 r1 i13 r2 i14 r3 i15 r4 (fh i16 r5 i17 r6 i18 r7 i19 r8 (gS (V []) [O r0,WK r9,O r1,O r2,O r3,O r4,O r5,O r6,O r7,O r8]))))<|xm i10 r0 7 i21 fun a=>xn (zE 7 a) i13 r2<|uc 1 r2 i21 (gz i13 r2)<|fU r2 i21 0 fun w=>xm i13 r2 1 i21 fun x=>xM 1 x<|xU i22 (x8 i13 (gC r2 i21 x 0 (ze w)) 1 i22 (fU (gC r2 i21 x 0 (ze w)) i22 0 (fun y=>xm i13 (gC r2 i21 x 0 (ze w)) 1 i22 fun z=>uC (zE 1 z) i12 r1 (gO [[gb i22,gb<|N r1,Q s26,Q s27]]) (fv i11 r9 4 4 [[gb i22,gb<|N r1,Q s26,Q s27]] 48)<|uj [[gb j,Q k,Q l,gb m,gb o,Q p,Z q,Z r,Q s,Q t,Q u,Q i,Q v]] (fv i12 r1 13 13 [[gb j,Q k,Q l,gb m,gb o,Q p,Z q,Z r,Q s,Q t,Q u,Q i,Q v]] 200) (gz i10 (gC r0 i21 a 0 (gV b c d e f g h))) (gF r9 [gb i22,gb<|N r1,Q s26,Q s27])<|zW (gF r1 [gb j,Q k,Q l,gb m,gb o,Q p,Z q,Z r,Q s,Q t,Q u,Q i,Q v]) (gz i13 (gC (gC r2 i21 x 0 (ze w)) i22 z 0 (xw (fc y 2)))) (gz i14 r3) (gz i15 r4)<|fh i16 r5 i17 r6 i18 r7 i19 r8<|gS (V []) [O<|gC r0 i21 a 0<|gV b c d e f g h,WK<|gF r9 [gb i22,gb<|N r1,Q s26,Q s27],O<|gF r1 [gb j,Q k,Q l,gb m,gb o,Q p,Z q,Z r,Q s,Q t,Q u,Q i,Q v],O<|gC (gC r2 i21 x 0 (ze w)) i22 z 0<|xw<|fc y 2,O r3,O r4,O r5,O r6,O r7,O r8])))<|zW [[gb j,Q k,Q l,gb m,gb o,Q p,Z q,Z r,Q s,Q t,Q u,Q i,Q v]] (fv i12 r1 13 13 [[gb j,Q k,Q l,gb m,gb o,Q p,Z q,Z r,Q s,Q t,Q u,Q i,Q v]] 200) (gz i10 (gC r0 i21 a 0 (gV b c d e f g h))) (gz i11 r9)<|zW (gF r1 [gb j,Q k,Q l,gb m,gb o,Q p,Z q,Z r,Q s,Q t,Q u,Q i,Q v]) (gz i13 (gC r2 i21 x 0 (ze w))) (gz i14 r3) (gz i15 r4)<|fh i16 r5 i17 r6 i18 r7 i19 r8<|gS (V []) [O<|gC r0 i21 a 0<|gV b c d e f g h,WK r9,O<|gF r1 [gb j,Q k,Q l,gb m,gb o,Q p,Z q,Z r,Q s,Q t,Q u,Q i,Q v],O<|gC r2 i21 x 0<|ze w,O r3,O r4,O r5,O r6,O r7,O r8]):=by kernel_rfl
theorem aoT:ev E L (D+1) 115 [.ptr (.imp 0) 0,.agg [.int .i64 i11,.int .i64 i12,.int .i64 i13,.int .i64 i14,.int .i64 i15,.str s16]] [.cells [.own r1,.ownK r2,.own r3,.own r4,.own r5,.own r6,.own r7,.own r8,.own r9,.own r10]]=(gE r3<|gP (iEq (N r3) 16) (fX r4 1 i12 (fU r4 i12 0 (fun a=>gP (iLe 99 a) (gp L D 25 (xN (gb i13) (-1) 7) (fun a=>fR a.1 fun a=>gP (bNot a) (xU i13 (fX r4 1 i13 (fU r4 i13 0 (fun a=>br (iLe 98 a) (xV r1 r2 r3 r4 r5 r6 r7 r8 r9 r10 (gS (V []) [O r1,WK r2,O r3,O r4,O r5,O r6,O r7,O r8,O r9,O r10]))<|xU i13 (fX r4 1 i13 (fU r4 i13 0 (fun a=>gJ L D 64 (gb i13) (gi a) fun a=>gD a.1 fun a=>fX r4 1 i13<|fU r4 i13 0 fun b=>gJ L D 64 (gb i13) (fc b 2) fun b=>gD b.1 fun b=>wL L D r1 r3 r4 r5 r6 r7 r8 r9 r10 r2 (N r1) (N r2) (N r3) (N r4) (N r5) (N r6) (N r7) (N r8) (N r9) (N r10) i11 i12 i13 i14 i15 s16 a b)))<|wL L D r1 r3 r4 r5 r6 r7 r8 r9 r10 r2 (N r1) (N r2) (N r3) (N r4) (N r5) (N r6) (N r7) (N r8) (N r9) (N r10) i11 i12 i13 i14 i15 s16 (bs [])<|bs []))) (xU i13 (fX r4 1 i13 (fU r4 i13 0 (fun a=>gJ L D 64 (gb i13) (gi a) fun a=>gD a.1 fun a=>fX r4 1 i13<|fU r4 i13 0 fun b=>gJ L D 64 (gb i13) (fc b 2) fun b=>gD b.1 fun b=>wL L D r1 r3 r4 r5 r6 r7 r8 r9 r10 r2 (N r1) (N r2) (N r3) (N r4) (N r5) (N r6) (N r7) (N r8) (N r9) (N r10) i11 i12 i13 i14 i15 s16 a b))) (wL L D r1 r3 r4 r5 r6 r7 r8 r9 r10 r2 (N r1) (N r2) (N r3) (N r4) (N r5) (N r6) (N r7) (N r8) (N r9) (N r10) i11 i12 i13 i14 i15 s16 (bs []) (bs []))))<|xV r1 r2 r3 r4 r5 r6 r7 r8 r9 r10<|gS (V []) [O r1,WK r2,O r3,O r4,O r5,O r6,O r7,O r8,O r9,O r10]))<|xV r1 r2 r3 r4 r5 r6 r7 r8 r9 r10<|gS (V []) [O r1,WK r2,O r3,O r4,O r5,O r6,O r7,O r8,O r9,O r10])))<|xV r1 r2 r3 r4 r5 r6 r7 r8 r9 r10<|gS (V []) [O r1,WK r2,O r3,O r4,O r5,O r6,O r7,O r8,O r9,O r10]):=eS Tryz.func115
def mR:Option Res:=lq L D 116 Tryz.f116 0 [1,1,1,1,1,1,1,1,1,1,1,0,1,0] 17 [] (U::fV U (gt 2) (gt 3) (gt 4) (fV U (gt 6) U (Z r45) (fT (Z r46) (gt 10) 79 (Z r47::fd i48 i49 54 [])))) [gu 2<|gV b4 i5 r6 r7 i8 s9 s10,gu 3 [gb i11,Q s12,Q s13,gb i14,gb i15,Q s16,Z r17,Z r18,Q s19,Q s20,Q s21,Q s22,Q s23],gu 4<|uo b24 i25 (fF 4 i26) (fJ 4 i27) i28 s29 s30,fL 4 r0,fN 4 r1,gu 6<|gV b31 i32 r33 r34 i35 s36 s37,gu 10<|uo b38 i39 (fF 10 i40) (fJ 10 i41) i42 s43 s44,fL 10 r2,fN 10 r3] n
theorem wM:mR L D (n+1) r0 r1 r2 r3 b4 i5 r6 r7 i8 s9 s10 i11 s12 s13 i14 i15 s16 r17 r18 s19 s20 s21 s22 s23 b24 i25 i26 i27 i28 s29 s30 b31 i32 r33 r34 i35 s36 s37 b38 i39 i40 i41 i42 s43 s44 r45 r46 r47 i48 i49=(gr i49 i48 (ft 2 r47 i49 (fun a=>zo a 0 a 1 fun a b=>gJ L D 199 (Z r45) a fun c=>fk c.1 (fQ 1 r17 a 0 (fun c=>fQ 1 r6 a 0 fun d=>br (sEq c d) (xC [ff a b] (fv i41 r3 2 2 [ff a b] 24) (mR L D n r0 r1 r2 (gF r3 (ff a b)) b4 i5 r6 r7 i8 s9 s10 i11 s12 s13 i14 i15 s16 r17 r18 s19 s20 s21 s22 s23 b24 i25 i26 i27 i28 s29 s30 b31 i32 r33 r34 i35 s36 s37 b38 i39 i40 (N (gF r3 (ff a b))) i42 s43 s44 r45 r46 r47 i48 (gi i49)))<|mR L D n r0 r1 r2 r3 b4 i5 r6 r7 i8 s9 s10 i11 s12 s13 i14 i15 s16 r17 r18 s19 s20 s21 s22 s23 b24 i25 i26 i27 i28 s29 s30 b31 i32 r33 r34 i35 s36 s37 b38 i39 i40 i41 i42 s43 s44 r45 r46 r47 i48<|gi i49))<|mR L D n r0 r1 r2 r3 b4 i5 r6 r7 i8 s9 s10 i11 s12 s13 i14 i15 s16 r17 r18 s19 s20 s21 s22 s23 b24 i25 i26 i27 i28 s29 s30 b31 i32 r33 r34 i35 s36 s37 b38 i39 i40 i41 i42 s43 s44 r45 r46 r47 i48<|gi i49))<|fY (fv i41 r3 2 2 r46 24) (gO (cG r3 r46))<|f4 L D 188 (cG r3 r46) fun a=>B (M a.1) fun a=>zn 2 r46 (gR (N r46) 1) 1 L D 201 fun b=>gD b.1 fun b=>gp L D 200 (xu s9 b) fun b=>gD b.1 fun b=>br (g8 b) (xE (gN b31 i32 r33 r34 i35 s36 s37))<|fY (gz i40 r2) (gO a)<|xq [gN b38 i39 r2 a i42 b s44,gU]):=by kernel_rfl
theorem UJ:ev E L (D+1) 116 [.agg [.bool b1,.int .i64 i2,.sl r3,.sl r4,.int .i64 i5,.str s6,.str s7],.agg [.int .i64 i8,.str s9,.str s10,.int .i64 i11,.int .i64 i12,.str s13,.sl r14,.sl r15,.str s16,.str s17,.str s18,.str s19,.str s20]] []=(gp L D 22 [gN b1 i2 r3 r4 i5 s6 s7] fun a=>fI a.1 (gp L D 32 [A [gb i8,Q s9,Q s10,gb i11,gb i12,Q s13,Z r14,Z r15,Q s16,Q s17,Q s18,Q s19,Q s20]] (fun a=>fk a.1 (xE zh)<|gp L D 113 [gN b1 i2 r3 r4 i5 s6 s7] fun a=>fu 7 a.1 fun a=>xi (C a 0) a 1 (gd a 2) (gd a 3) a 4 a 5 a 6 fun a b c d e f g=>gp L D 191 [gN b1 i2 r3 r4 i5 s6 s7,A [gb i8,Q s9,Q s10,gb i11,gb i12,Q s13,Z r14,Z r15,Q s16,Q s17,Q s18,Q s19,Q s20]] fun h=>fk h.1 (xE (gN a b c d e f g))<|gw i12 i2 (xq [zh,gU])<|xJ L D 192 (zy r15 193 xZ) (gV b1 i2 r3 r4 i5 s6 s7) fun h=>fq 7 h.2 fun i=>xi (C i 0) i 1 (gd i 2) (gd i 3) i 4 i 5 i 6 fun i j k l m o p=>gQ h.1 fun h=>gX (iLt h 0) (zn 2 r15 h 1 L D 120 (fun q=>fk q.1 (xE (gN a b c d e f g))<|gy L D 128 j fun q=>gQ q.1 fun q=>gy L D 128 i8 fun r=>zF r.1 L D 197 (gb q) fun q=>gQ q.1 fun q=>gy L D 196 q fun q=>B (F q.1) fun q=>fQ 2 r15 h 1 fun h=>gp L D 123 (zm (Z q) h) fun h=>B (F h.1) fun h=>gp L D 198 [Z r14,Z h] fun r=>fk r.1 (xE (gN a b c d e f g))<|f4 L D 48 r14 fun r=>B (M r.1) fun r=>xg (xW p s10 1)<|mR L D L [] [] r [] i j k l m o p i8 s9 s10 i11 i12 s13 r14 r15 s16 s17 s18 s19 s20 false 0 (N []) (N []) 0 (bs []) (bs []) a b c d e f g true j (N r) (N []) (gi m) (bs []) (kB p s10) q h l (N l) 0))<|zU<|gN a b c d e f g)) zG):=eS Tryz.func116
def qR:Option Res:=lq L D 117 Tryz.f117 1 [1,1,1,0] 3 [] (xh xx U (fT U (gt 3) 16 (gK 0 1102 i26::fd i27 i28 55 []))) [xO 0 [fj 0 i10,gK 0 1102 i11,fF 0 i12,fJ 0 i13,f7 0 i14,f8 0 i15,fK 0 i16,fM 0 i17,xb 0 i18,xd 0 i19],fw 0 r0,fL 0 r1,fN 0 r2,xa 0 r3,xc 0 r4,fO 0 r5,fP 0 r6,xe 0 r7,xf 0 r8,gL 0 1102 r9,gu 3<|fC i20 i21 i22 i23 i24 s25] n
theorem KV:qR L D (n+1) r0 r1 r2 r3 r4 r5 r6 r7 r8 r9 i10 i11 i12 i13 i14 i15 i16 i17 i18 i19 i20 i21 i22 i23 i24 s25 i26 i27 i28=(gr i28 i27 (xm i26 r9 4 i28 (fun a=>zA a 0 1 fun b c=>xy a 2 3 fun a d=>gP (bNot (iEq b i21)) (gP (iEq c i24) (qR L D n r0 r1 r2 r3 r4 r5 r6 r7 r8 r9 i10 i11 i12 i13 i14 i15 i16 i17 i18 i19 i20 i21 i22 i23 i24 s25 i26 i27 (gi i28)) (xm i12 r1 13 c (fun c=>zN c 0 c 1 c 2 fun e f g=>zx c 3 4 c 5 fun h i j=>zv (gd c 6) (gd c 7) fun k l=>g9 c 8 fun m=>xy c 9 10 fun o p=>xy c 11 12 fun c q=>gp L D 202 [gb b,Q a,Q d,A [gb e,Q f,Q g,gb h,gb i,Q j,Z k,Z l,Q m,Q o,Q p,Q c,Q q]] fun a=>fW 2 a.1 fun a=>fu 7 (C a 0) fun b=>xi (C b 0) b 1 (gd b 2) (gd b 3) b 4 b 5 b 6 fun b c d e f g h=>xj (C a 1) (xm i10 r0 7 i21 (fun a=>xn (zE 7 a) i11 r9<|gp L D 203 (xN (WK r9) i28 (gi i28)) fun i=>B (BW i.1) fun i=>fY (gz i10 (gC r0 i21 a 0 (gV b c d e f g h))) (gO i)<|fh i12 r1 i13 r2 i14 r3 i15 r4<|fh i16 r5 i17 r6 i18 r7 i19 r8<|gS (V []) [O<|gC r0 i21 a 0<|gV b c d e f g h,WK i,O r1,O r2,O r3,O r4,O r5,O r6,O r7,O r8]))<|qR L D n r0 r1 r2 r3 r4 r5 r6 r7 r8 r9 i10 i11 i12 i13 i14 i15 i16 i17 i18 i19 i20 i21 i22 i23 i24 s25 i26 i27<|gi i28)))<|qR L D n r0 r1 r2 r3 r4 r5 r6 r7 r8 r9 i10 i11 i12 i13 i14 i15 i16 i17 i18 i19 i20 i21 i22 i23 i24 s25 i26 i27<|gi i28))<|xn (gz i10 r0) i11 r9<|fh i12 r1 i13 r2 i14 r3 i15 r4<|fh i16 r5 i17 r6 i18 r7 i19 r8<|gS (V []) [O r0,WK r9,O r1,O r2,O r3,O r4,O r5,O r6,O r7,O r8]):=by kernel_rfl
theorem aoU:ev E L (D+1) 117 [.ptr (.imp 0) 0,.agg [.int .i64 i11,.int .i64 i12,.int .i64 i13,.int .i64 i14,.int .i64 i15,.str s16]] [.cells [.own r1,.ownK r2,.own r3,.own r4,.own r5,.own r6,.own r7,.own r8,.own r9,.own r10]]=(gE r1<|ft 7 r1 i12 fun _=>zD (gO r1)<|fA r1 i12 fun a=>xj (C a 0) (xV r1 r2 r3 r4 r5 r6 r7 r8 r9 r10 (gS (V []) [O r1,WK r2,O r3,O r4,O r5,O r6,O r7,O r8,O r9,O r10]))<|gE r2<|qR L D L r1 r3 r4 r5 r6 r7 r8 r9 r10 r2 (N r1) (N r2) (N r3) (N r4) (N r5) (N r6) (N r7) (N r8) (N r9) (N r10) i11 i12 i13 i14 i15 s16 (N r2) (N r2) 0):=eS Tryz.func117
theorem aoV:ev E L (D+1) 118 [.agg [.bool b1,.int .i64 i2,.sl r3,.sl r4,.int .i64 i5,.str s6,.str s7],.int .i64 i8,.str s9] []=(gJ L D 204 (Q s6) i2 fun a=>gD a.1 fun a=>gp L D 22 [gN b1 i2 r3 r4 i5 s6 s7] fun b=>fI b.1 (xp b1 (gp L D 43 [A [gb i2,Q a,gb i8,Q s9]] (fun b=>fR b.1 fun b=>gX b (xE (A [gq,gh,gq,gh]))<|V [A [gb i2,Q a,gb i8,Q s9],gU])) (zU (A [gq,gh,gq,gh])))<|zU<|A [gq,gh,gq,gh]):=eS Tryz.func118
theorem aoW:ev E L (D+1) 119 [.agg [.bool b1,.int .i64 i2,.sl r3,.sl r4,.int .i64 i5,.str s6,.str s7],.sl r8,.agg [.int .i64 i9,.str s10,.int .i64 i11,.str s12]] []=(gp L D 22 [gN b1 i2 r3 r4 i5 s6 s7] fun a=>fI a.1 (f4 L D 29 r8 (fun a=>fk a.1 (xE (Z []))<|f4 L D 114 r8 fun a=>B (M a.1) fun a=>gP (bNot b1) (gp L D 43 [A [gb i9,Q s10,gb i11,Q s12]] (fun b=>fR b.1 fun b=>gP (bNot b) (gP (iEq i9 i2) (gJ L D 66 (fS r3) i9 (fun b=>fR b.1 fun b=>gP (bNot b) (gJ L D 204 (Q s6) i9 (fun b=>gD b.1 fun b=>gP (sEq s10 b) (gE a (xE (Z a)))<|gp L D 73 (zm (Z r8) s10) fun b=>gQ b.1 fun b=>gr b 0 (uv (fb i11) [xk (Q s10) i11<|Z<|fb i11] (f5 a 3 3 [xk (Q s10) i11<|Z<|fb i11] 48) (gF a (xk (Q s10) i11 (Z (fb i11)))) (f4 L D 189 (gF a (xk (Q s10) i11 (Z (fb i11)))) (fun a=>B (M a.1) fun a=>gE a<|xq [Z a,gU])))<|ft 3 r8 b fun c=>g9 c 0 fun d=>xo c 1 fun e=>B (gd c 2) fun c=>gJ L D 205 (A (xk (Q d) e (Z c))) i11 fun c=>fW 2 c.1 fun c=>fu 3 (C c 0) fun d=>g9 d 0 fun e=>xo d 1 fun f=>B (gd d 2) fun d=>fR (C c 1) fun c=>br c (fX a 3 b (fA a b (fun g=>xn (zE 3 g) (N a) (gC a b g 0 (xk (Q e) f (Z d)))<|xq [Z<|gC a b g 0<|xk (Q e) f<|Z d,Y c])))<|gE a<|xq [Z a,Y c]))<|gE a<|xE<|Z a)) (gE a (xE (Z a))))<|gE a<|xE<|Z a))<|gE a<|xE<|Z a))<|zU<|Z []):=eS Tryz.func119
theorem aoX:ev E L (D+1) 120 [.str s1] []=(gv L D 36 s1 fun a=>xr a.1<|fZ<|iLe (sLen s1) 292):=eS Tryz.func120
theorem aoY(L D:Nat):ev E L (D+1) 121 [] []=(fY (zC (ua 15) (fe 15) (eP 15 0 16)) (gO (jH 15 [gh]))<|gZ [O<|jH 15 [gh]]):=eS Tryz.func121
def DB:Option Res:=lq L D 122 Tryz.f122 0 [1,1,1,0,1,0] 4 [] (uD 6 (gt 6::fT (gt 7) (Z r4) 9 (Z r5::fd i6 i7 15 []))) [gu 6 [fj 6 i2],fw 6 r0,gu 7 [fj 7 i3],fw 7 r1] n
theorem AP:DB L D (n+1) r0 r1 i2 i3 r4 r5 i6 i7=(gr i7 i6 (fQ 1 r5 i7 0 (fun a=>xz 1 r4 i7 0 fun b=>gv L D 69 a fun a=>gD a.1 fun a=>xm i3 r1 1 b fun c=>xM 1 c<|DB L D n r0 (gC r1 b c 0 (gY a)) i2 i3 r4 r5 i6<|gi i7))<|gT i3 r1<|gZ [O r1]):=by kernel_rfl
theorem aoZ:ev E L (D+1) 122 [.agg [.sl r1],.int .i64 i2,.str s3] []=gp L D 187 [fS r1] fun a=>xK 1 a.1 fun a=>gy L D 67 i2 fun b=>B (F b.1) fun b=>gJ L D 206 (Q s3) (N b) fun c=>B (F c.1) fun c=>DB L D L [] a (N []) (N a) b c (N c) 0:=eS Tryz.func122
def DC:Option Res:=x9 L D 123 Tryz.f123 0 3 [] (xI (Z r1) 4 (xI (gK 5 100 i2) 8 (Z r3::fd i4 i5 15 []))) [gL 5 100 r0] n
theorem AQ:DC L D (n+1) r0 r1 i2 r3 i4 i5=(gr i5 i4 (fQ 1 r3 i5 0 (fun a=>xz 1 r1 i5 0 fun b=>xm i2 r0 2 i5 fun c=>xM 2 c<|DC L D n (gC r0 i5 c 0 (ff b a)) r1 i2 r3 i4<|gi i5))<|gT i2 r0<|gA<|Z r0):=by kernel_rfl
theorem ap0:ev E L (D+1) 123 [.sl r1,.str s2] []=(xg (zC (gO r1) (fe (N r1)) (eP (N r1) 0 24))<|gJ L D 206 (Q s2) (N r1) fun a=>B (F a.1) fun a=>DC L D L (jH (N r1) [gq,gh]) r1 (N (jH (N r1) [gq,gh])) a (N a) 0):=eS Tryz.func123
theorem ap1:ev E L (D+1) 124 [.int .i64 i1] []=(xg (dL (fe (m8 IntKind.i32 (fc 65 i1))) (iLt (m8 IntKind.i32 (fc 65 i1)) 128))<|gA<|Q<|XM<|m8 IntKind.i32<|fc 65 i1):=eS Tryz.func124
theorem ap2:ev E L (D+1) 126 [.str s1] []=(xt (g8 s1)<|gv L D 127 s1 fun a=>zL a.1):=eS Tryz.func126
theorem ap3:ev E L (D+1) 127 [.str s1] []=(gv L D 10 s1 fun a=>zM 5 a.1 0 1 2 3 4 fun a _=>fZ<|iEq a 3):=eS Tryz.func127
end
end Kw
namespace Kw
open Go Go.Proofs
open Kw.MV renaming undef->U,int->J,str->Q,sl->Z,ownK->WK,own->O,bool->Y,agg->A,tup->V,ptr->P,ref->X
open Go.IntKind renaming i64->K
open Kw renaming aD->C,nrows->N,bnd->B,d9->I,gSl->F,d6->T,KB->M,nP->W
open Kw.Obj renaming cells->OC,rows->OR
variable (L D n n10:Nat)
variable (r0:List Row) (i0:Int) (s0:ByteArray) (b0:Bool) (r1:List Row) (i1:Int) (s1:ByteArray) (b1:Bool) (r2:List Row) (i2:Int) (s2:ByteArray) (b2:Bool) (r3:List Row) (i3:Int) (s3:ByteArray) (b3:Bool) (r4:List Row) (i4:Int) (s4:ByteArray) (r5:List Row) (i5:Int) (s5:ByteArray) (r6:List Row) (i6:Int) (s6:ByteArray) (r7:List Row) (i7:Int) (s7:ByteArray) (r8:List Row) (i8:Int) (s8:ByteArray) (b8:Bool) (r9:List Row) (i9:Int) (s9:ByteArray) (b9:Bool) (r10:List Row) (i10:Int) (s10:ByteArray) (r11:List Row) (i11:Int) (s11:ByteArray) (r12:List Row) (i12:Int) (s12:ByteArray) (i13:Int) (s13:ByteArray) (r14:List Row) (s14:ByteArray) (r15:List Row) (s15:ByteArray) (b15:Bool) (i16:Int) (s16:ByteArray) (b16:Bool) (i17:Int) (s17:ByteArray) (i18:Int) (s18:ByteArray) (i19:Int) (s19:ByteArray) (i20:Int) (s20:ByteArray) (s21:ByteArray) (i22:Int) (s22:ByteArray) (i23:Int) (s23:ByteArray) (s24:ByteArray) (i25:Int) (s25:ByteArray) (i26:Int) (i27:Int) (s27:ByteArray) (i28:Int) (s28:ByteArray) (i29:Int) (i30:Int) (s30:ByteArray) (s31:ByteArray) (s32:ByteArray) (s33:ByteArray) (s34:ByteArray) (i35:Int) (s35:ByteArray) (i36:Int) (b36:Bool) (i37:Int) (b37:Bool) (i38:Int) (r39:List Row) (i39:Int) (r40:List Row) (i40:Int) (i41:Int) (s41:ByteArray) (s42:ByteArray) (i43:Int) (s43:ByteArray) (i44:Int) (s44:ByteArray) (s45:ByteArray) (i46:Int) (s46:ByteArray) (i47:Int) (i48:Int) (s48:ByteArray) (i49:Int) (s49:ByteArray) (i50:Int) (i51:Int) (s51:ByteArray) (s52:ByteArray) (s53:ByteArray) (s54:ByteArray) (s55:ByteArray) (i56:Int) (s56:ByteArray) (i57:Int) (s57:ByteArray) (r58:List Row) (s58:ByteArray) (r59:List Row) (i60:Int) (r61:List Row) (i61:Int) (i62:Int) (i63:Int) (i64:Int) (i65:Int) (i66:Int)
noncomputable section
theorem ap4:ev E L (D+1) 128 [.int .i64 i1] []=(xP<|fc 7 i1):=eS Tryz.func128
def DD:Option Res:=lq L D 129 Tryz.f129 0 [1,1,1,0,0] 4 [] (xh (gb i1) U (fT U (gK 3 100 i2) 14 [])) [gL 3 100 r0] n
theorem KW:DD L D (n+1) r0 i1 i2=(gr 0 i1 (zr 2 0 (xC (fb (zi (gR i1 1) 2)) (fv i2 r0 1 1 (fb (zi (gR i1 1) 2)) 8) (DD L D n (xH r0 (zi (gR i1 1) 2)) (zi (gR i1 1) 2) (N (xH r0 (zi (gR i1 1) 2))))))<|gT i2 r0<|f4 L D 177 r0 fun a=>B (F a.1) fun a=>gA<|Z a):=by kernel_rfl
theorem ap5:ev E L (D+1) 129 [.int .i64 i1] []=(gy L D 208 i1 fun a=>fk a.1 (gA (Z []))<|DD L D L [] i1<|N []):=eS Tryz.func129
theorem ap6:ev E L (D+1) 131 [.agg [.int .i64 i1,.str s2],.ptr (.imp 0) 0] [.cells [.int .i64 i3]]=(gS (Y (iEq i1 i3))<|xw i3):=eS Tryz.func131
def JL:Option Res:=xD L D 132 Tryz.f132 0 2 [] (fT (Q s0) (Z r1) 6 (Z r2::fd i3 i4 15 [])) [] n
theorem kQ:JL L D (n+1) s0 r1 r2 i3 i4=(gr i4 i3 (zn 1 r2 i4 0 L D 36 (fun a=>fk a.1 (gA gh)<|JL L D n s0 r1 r2 i3<|gi i4))<|gp L D 209 [Z r1,gh] fun a=>gD a.1 fun a=>xg (xW s0 a 1)<|br (iLe (sLen (kB s0 a)) 300) (gA (Q (kB s0 a)))<|gA gh):=by kernel_rfl
theorem adI:ev E L (D+1) 132 [.str s1,.sl r2] []=JL L D L s1 r2 r2 (N r2) 0:=eS Tryz.func132
theorem ap7:ev E L (D+1) 136 [.agg [.str s1,.int .i64 i2,.sl r3],.ptr (.imp 0) 0] [.cells [.str s4]]=(gS (Y (sEq s1 s4))<|gY s4):=eS Tryz.func136
theorem ap8:ev E L (D+1) 140 [.agg [.str s1,.str s2]] []=gv L D 36 s1 fun a=>fI a.1 (gv L D 36 s2 (fun a=>zL a.1)) gU:=eS Tryz.func140
theorem ap9:ev E L (D+1) 147 [.str s1,.str s2] []=br (zk (sLen s2) s1) (xl 0 (zk 0 s2) (sLen s2) s1 (fZ (sEq (uI s1 0 s2) s2))) gM:=eS Tryz.func147
theorem apA:ev E L (D+1) 187 [.agg [.sl r1]] []=(f4 L D 48 r1 fun a=>B (M a.1) fun a=>gE a<|gZ [O a]):=eS Tryz.func187
def mS:Option Res:=lq L D 190 Tryz.f190 0 [1,1,1,1,1,1,1,1,0,1,0] 10 [] (U::fV U (gb i56) U U (fT (Q s57) (gt 6) 5 (xh (gt 12) (gt 13) (fV U (gt 15) (Z r58) (gt 17) (fT U (gt 19) 128 (Z r59::fd i60 i61 72 [])))))) [gu 6<|gV b8 i9 r10 r11 i12 s13 s14,gu 12<|uo b15 i16 (fF 12 i17) (fJ 12 i18) i19 s20 s21,fL 12 r0,fN 12 r1,gu 13 [gb i22,Q s23,Q s24,gb i25,gb i26,Q s27,fK 13 i28,fM 13 i29,Q s30,Q s31,Q s32,Q s33,Q s34],fO 13 r2,fP 13 r3,gu 15 [fj 15 i35],ui 15 101<|Obj.froz r4,gu 17<|uB b36 i37 (fF 17 i38) r39 i40 s41 s42,ui 17 103<|Obj.froz r5,gu 19 [gb i43,Q s44,Q s45,gb i46,gb i47,Q s48,fK 19 i49,fM 19 i50,Q s51,Q s52,Q s53,Q s54,Q s55],fO 19 r6,fP 19 r7] n
def oG:Option Res:=lq L D 190 Tryz.f190 0 [1,1,1,1,1,1,1,1,0,1,0,0,1,1,0,0,1,1,0] 13 [n10] (U::fV U (gb i57) U U (fT (Q s58) (gt 6) 5 (gt 12::xh (gt 13) U (fV (gt 15) (Z r59) (gt 17) U (fH (gt 19) i60 127 (Z r61::fd i62 i63 7 (gK 158 100 i64::fd i65 i66 62 []))))))) [gu 6<|gV b9 i10 r11 r12 i13 s14 s15,gu 12<|uo b16 i17 (fF 12 i18) (fJ 12 i19) i20 s21 s22,fL 12 r0,fN 12 r1,gu 13 [gb i23,Q s24,Q s25,gb i26,gb i27,Q s28,fK 13 i29,fM 13 i30,Q s31,Q s32,Q s33,Q s34,Q s35],fO 13 r2,fP 13 r3,gu 15 [fj 15 i36],ui 15 101<|Obj.froz r4,gu 17<|uB b37 i38 (fF 17 i39) r40 i41 s42 s43,ui 17 103<|Obj.froz r5,gu 19 [gb i44,Q s45,Q s46,gb i47,gb i48,Q s49,fK 19 i50,fM 19 i51,Q s52,Q s53,Q s54,Q s55,Q s56],fO 19 r6,fP 19 r7,gL 158 100 r8] n
theorem wN:mS L D (n+1) r0 r1 r2 r3 r4 r5 r6 r7 b8 i9 r10 r11 i12 s13 s14 b15 i16 i17 i18 i19 s20 s21 i22 s23 s24 i25 i26 s27 i28 i29 s30 s31 s32 s33 s34 i35 b36 i37 i38 r39 i40 s41 s42 i43 s44 s45 i46 i47 s48 i49 i50 s51 s52 s53 s54 s55 i56 s57 r58 r59 i60 i61=(gr i61 i60 (xz 1 r59 i61 0 (fun a=>gy L D 241 a fun a=>gQ a.1 fun a=>gT i35 r4<|gJ L D 240 (fS r4) a fun a=>B (M a.1) fun a=>gE a<|oG L D L n r0 r1 r2 r3 r4 r5 r6 r7 a b8 i9 r10 r11 i12 s13 s14 b15 i16 i17 i18 i19 s20 s21 i22 s23 s24 i25 i26 s27 i28 i29 s30 s31 s32 s33 s34 i35 b36 i37 i38 r39 i40 s41 s42 i43 s44 s45 i46 i47 s48 i49 i50 s51 s52 s53 s54 s55 i56 s57 r58 i61 r59 i60 i61 (N a) (N a) 0))<|gT i50 r7<|f4 L D 92 r7 fun a=>B (M a.1) fun a=>xU i56 (gy L D 128 i9 (fun b=>gQ b.1 fun b=>gy L D 128 i56 fun c=>zF c.1 L D 197 (gb b) fun b=>zF b.1 L D 242 (Z r58) fun b=>zV b.1 2 r39 1 fun b=>gT i38 r5<|fY (gz i49 r6) (gO a)<|xq [gN b36 i37 r5 r39 i40 s41 s42,A [gb i43,Q s44,Q s45,gb i46,gb i47,Q s48,Z r6,Z a,Q s57,Q s57,Q s41,Q s57,Q b],gU]))<|gT i38 r5<|fY (gz i49 r6) (gO a)<|xq [gN b36 i37 r5 r39 i40 s41 s42,A [gb i43,Q s44,Q s45,gb i46,gb i47,Q s48,Z r6,Z a,Q s51,Q s52,Q s53,Q s54,Q s55],gU]):=by kernel_rfl
theorem wP:oG L D (n+1) n10 r0 r1 r2 r3 r4 r5 r6 r7 r8 b9 i10 r11 r12 i13 s14 s15 b16 i17 i18 i19 i20 s21 s22 i23 s24 s25 i26 i27 s28 i29 i30 s31 s32 s33 s34 s35 i36 b37 i38 i39 r40 i41 s42 s43 i44 s45 s46 i47 i48 s49 i50 i51 s52 s53 s54 s55 s56 i57 s58 r59 i60 r61 i62 i63 i64 i65 i66=(gr i66 i65 (x8 i64 r8 1 i66 (fU r8 i66 0 (fun a=>gP (iLt i57 0) (gy L D 128 i57 (fun b=>gQ b.1 fun b=>gP (iEq a b) (xm i36 r4 1 a (fun a=>g9 a 0 fun a=>fQ 2 r40 (gi i60) 1 fun b=>xC [xu a b] (fv i51 r7 2 2 [xu a b] 32)<|oG L D n n10 r0 r1 r2 r3 r4 r5 r6 (gF r7 (xu a b)) r8 b9 i10 r11 r12 i13 s14 s15 b16 i17 i18 i19 i20 s21 s22 i23 s24 s25 i26 i27 s28 i29 i30 s31 s32 s33 s34 s35 i36 b37 i38 i39 r40 i41 s42 s43 i44 s45 s46 i47 i48 s49 i50 (N (gF r7 (xu a b))) s52 s53 s54 s55 s56 i57 s58 r59 i60 r61 i62 i63 i64 i65<|gi i66))<|oG L D n n10 r0 r1 r2 r3 r4 r5 r6 r7 r8 b9 i10 r11 r12 i13 s14 s15 b16 i17 i18 i19 i20 s21 s22 i23 s24 s25 i26 i27 s28 i29 i30 s31 s32 s33 s34 s35 i36 b37 i38 i39 r40 i41 s42 s43 i44 s45 s46 i47 i48 s49 i50 i51 s52 s53 s54 s55 s56 i57 s58 r59 i60 r61 i62 i63 i64 i65<|gi i66))<|xm i36 r4 1 a fun a=>g9 a 0 fun a=>fQ 2 r40 (gi i60) 1 fun b=>xC [xu a b] (fv i51 r7 2 2 [xu a b] 32)<|oG L D n n10 r0 r1 r2 r3 r4 r5 r6 (gF r7 (xu a b)) r8 b9 i10 r11 r12 i13 s14 s15 b16 i17 i18 i19 i20 s21 s22 i23 s24 s25 i26 i27 s28 i29 i30 s31 s32 s33 s34 s35 i36 b37 i38 i39 r40 i41 s42 s43 i44 s45 s46 i47 i48 s49 i50 (N (gF r7 (xu a b))) s52 s53 s54 s55 s56 i57 s58 r59 i60 r61 i62 i63 i64 i65<|gi i66)))<|mS L D n10 r0 r1 r2 r3 r4 r5 r6 r7 b9 i10 r11 r12 i13 s14 s15 b16 i17 i18 i19 i20 s21 s22 i23 s24 s25 i26 i27 s28 i29 i30 s31 s32 s33 s34 s35 i36 b37 i38 i39 r40 i41 s42 s43 i44 s45 s46 i47 i48 s49 i50 i51 s52 s53 s54 s55 s56 i57 s58 r59 r61 i62<|gi i63):=by kernel_rfl
theorem apB:ev E L (D+1) 190 [.agg [.bool b1,.int .i64 i2,.sl r3,.sl r4,.int .i64 i5,.str s6,.str s7],.str s8,.int .i64 i9,.int .i64 i10,.str s11,.str s12] []=(gp L D 22 [gN b1 i2 r3 r4 i5 s6 s7] fun a=>fI a.1 (xp b1 (gX (iLe 12 i5) (gv L D 10 s8 (fun a=>zM 5 a.1 0 1 2 3 4 fun a _=>xp (iEq a 1) (gJ L D 75 (gb i9) i2 (fun a=>fI a.1 (gJ L D 75 (gb i10) i2 (fun a=>fI a.1 (gp L D 238 (xN (fS r3) i9 i10) (fun a=>fI a.1 (gp L D 77 [gb i9,Q s11,Q s12] (fun a=>fI a.1 (gX (iLt 300 (fc (sLen s7) (sLen s8))) (gr 280 (sLen s6) (uG zh (A [gq,gh,gh,gq,gq,gh,Z [],Z [],gh,gh,gh,gh,gh])) (gp L D 239 [fS r3,gb i9,gb i10,Q s11] (fun a=>xK 1 a.1 fun a=>gy L D 67 i2 fun b=>B (F b.1) fun b=>gE a<|gp L D 122 (xk (fS a) i2 (Q s8)) fun c=>xK 1 c.1 fun c=>gp L D 123 (zm (Z b) s8) fun d=>B (F d.1) fun d=>xg (xW s7 s8 1)<|zn 2 d (gR (N b) 1) 1 L D 201 fun e=>gD e.1 fun e=>gp L D 200 (xu s6 e) fun e=>gD e.1 fun e=>gE c<|f4 L D 48 c fun f=>B (M f.1) fun f=>xg (ue (okR 1 b) (fe 0) (fe (gR (N b) 1)) (iLe (gR (N b) 1) (N b)))<|mS L D L [] [] [] [] a c f [] b1 i2 r3 r4 i5 s6 s7 false 0 (N []) (N []) 0 (bs []) (bs []) 0 (bs []) (bs []) 0 0 (bs []) (N []) (N []) (bs []) (bs []) (bs []) (bs []) (bs []) (N a) true i2 (N c) d (gi i5) e (kB s7 s8) i2 s7 s8 i9 i10 s11 (N f) (N []) (bs []) (bs []) (bs []) (bs []) (bs []) i9 s12 b (AU b 0 (gR (N b) 1)) (N (AU b 0 (gR (N b) 1))) 0))) (V (zB (A [gq,gh,gh,gq,gq,gh,Z [],Z [],gh,gh,gh,gh,gh]))))<|V<|zB<|A [gq,gh,gh,gq,gq,gh,Z [],Z [],gh,gh,gh,gh,gh]))<|V<|zB<|A [gq,gh,gh,gq,gq,gh,Z [],Z [],gh,gh,gh,gh,gh]))<|V<|zB<|A [gq,gh,gh,gq,gq,gh,Z [],Z [],gh,gh,gh,gh,gh]))<|V<|zB<|A [gq,gh,gh,gq,gq,gh,Z [],Z [],gh,gh,gh,gh,gh]))<|V<|zB<|A [gq,gh,gh,gq,gq,gh,Z [],Z [],gh,gh,gh,gh,gh])) (V (zB (A [gq,gh,gh,gq,gq,gh,Z [],Z [],gh,gh,gh,gh,gh])))) (V (zB (A [gq,gh,gh,gq,gq,gh,Z [],Z [],gh,gh,gh,gh,gh]))))<|V<|zB<|A [gq,gh,gh,gq,gq,gh,Z [],Z [],gh,gh,gh,gh,gh]):=eS Tryz.func190
def wQ:Option Res:=lq L D 191 Tryz.f191 0 [1,1,1,1,0,1,0] 6 [] (uD 5 (fT (gt 5) (Z r2) 55 (Z r3::fd i4 i5 18 []))) [gu 5 [fj 5 i1],fw 5 r0] n
theorem KX:wQ L D (n+1) r0 i1 r2 r3 i4 i5=(gr i5 i4 (fQ 1 r3 i5 0 (fun a=>xm i1 r0 1 i5 fun b=>g9 b 0 fun b=>gP (sEq a b) (gJ L D 199 (Z r2) i5 (fun a=>fk a.1 gM<|wQ L D n r0 i1 r2 r3 i4<|gi i5))<|wQ L D n r0 i1 r2 r3 i4<|gi i5))<|gA gU):=by kernel_rfl
theorem apC:ev E L (D+1) 191 [.agg [.bool b1,.int .i64 i2,.sl r3,.sl r4,.int .i64 i5,.str s6,.str s7],.agg [.int .i64 i8,.str s9,.str s10,.int .i64 i11,.int .i64 i12,.str s13,.sl r14,.sl r15,.str s16,.str s17,.str s18,.str s19,.str s20]] []=(xp b1 (xp (sEq s9 s7) (xt (iLe 12 i5) (xt (iEq i8 i2) (gJ L D 66 (fS r3) i8 (fun a=>xF a.1<|gp L D 238 (xN (fS r3) i11 i12) fun a=>fk a.1 gM<|gp L D 239 [fS r3,gb i11,gb i12,Q s13] fun a=>xK 1 a.1 fun a=>gy L D 67 i8 fun b=>B (F b.1) fun b=>wQ L D L a (N a) b r14 (N r14) 0)))) xB) xB):=eS Tryz.func191
theorem apD:ev E L (D+1) 193 [.agg [.str s1,.str s2],.ptr (.imp 0) 0] [.cells [.bool b3,.int .i64 i4,.sl r5,.sl r6,.int .i64 i7,.str s8,.str s9]]=(xJ L D 194 (zy r6 195 xZ) (xu s1 s2) fun a=>fq 2 a.2 fun b=>zj b 0 b 1 fun _=>fR a.1 fun a=>gS (Y a)<|gV b3 i4 r5 r6 i7 s8 s9):=eS Tryz.func193
theorem apE:ev E L (D+1) 195 [.agg [.int .i64 i1,.str s2],.ptr (.imp 0) 0] [.cells [.str s3,.str s4]]=(gv L D 69 s2 fun a=>gD a.1 fun a=>gS (Y (sEq a s3))<|xu s3 s4):=eS Tryz.func195
theorem apF:ev E L (D+1) 196 [.int .i64 i1] []=(gy L D 129 i1 fun a=>B (F a.1) fun a=>fY (f5 (fb i1) 1 1 a 8) (gO (cG (fb i1) a))<|gA<|Z<|cG (fb i1) a):=eS Tryz.func196
def wR:Option Res:=lq L D 197 Tryz.f197 0 [1,1,0,0] 3 [] (fd i0 i1 24 []) [] n
theorem KY:wR L D (n+1) i0 i1=(gX (iEq i0 i1) (gr i1 i0 (zr 2 0 (wR L D n (zi (gR i0 1) 2) i1)) (zr 2 0 (wR L D n i0 (zi (gR i1 1) 2))))<|gb i0):=by kernel_rfl
theorem apG:ev E L (D+1) 197 [.int .i64 i1,.int .i64 i2] []=(gy L D 208 i1 fun a=>fI a.1 (gy L D 208 i2 (fun a=>fk a.1 zd<|wR L D L i1 i2))<|gb (-1)):=eS Tryz.func197
theorem apH:ev E L (D+1) 198 [.sl r1,.sl r2] []=xJ L D 194 (zy r2 243 xZ) (fy r1) fun a=>fq 1 a.2 fun b=>B (gd b 0) fun _=>zL a.1:=eS Tryz.func198
theorem apI:ev E L (D+1) 199 [.sl r1,.int .i64 i2] []=(gJ L D 242 (Z r1) i2 fun a=>gQ a.1 fun a=>fZ<|fe a):=eS Tryz.func199
theorem apJ:ev E L (D+1) 200 [.str s1,.str s2] []=(gE [gY s1,gY s2]<|gp L D 132 [x6 [101],Z [gY s1,gY s2]] fun a=>gD a.1 fun a=>gA<|Q a):=eS Tryz.func200
theorem apK:ev E L (D+1) 201 [.str s1] []=(gE [gY s1]<|gp L D 132 [x6 [110],Z [gY s1]] fun a=>gD a.1 fun a=>gA<|Q a):=eS Tryz.func201
theorem apL:ev E L (D+1) 202 [.int .i64 i1,.str s2,.str s3,.agg [.int .i64 i4,.str s5,.str s6,.int .i64 i7,.int .i64 i8,.str s9,.sl r10,.sl r11,.str s12,.str s13,.str s14,.str s15,.str s16]] []=(gp L D 32 [A [gb i4,Q s5,Q s6,gb i7,gb i8,Q s9,Z r10,Z r11,Q s12,Q s13,Q s14,Q s15,Q s16]] fun a=>fI a.1 (gX (iLt i7 0) (xp (iEq i7 i1) (gv L D 69 s2 (fun a=>gD a.1 fun a=>xp (sEq a s9) (gv L D 69 s3 (fun a=>gD a.1 fun a=>xp (sEq a s12) (gv L D 120 s16 (fun a=>fk a.1 (xE zh)<|f4 L D 48 r10 fun a=>B (M a.1) fun a=>gp L D 149 [Q s5,x6 [59]] fun b=>gQ b.1 fun b=>xg (xW s5 s6 1)<|gy L D 128 i1 fun c=>gQ c.1 fun c=>gy L D 128 i1 fun d=>gQ d.1 fun d=>gy L D 128 i4 fun e=>zF e.1 L D 197 (gb d) fun d=>gQ d.1 fun d=>gy L D 196 d fun d=>B (F d.1) fun d=>gp L D 123 (zm (Z d) s16) fun d=>B (F d.1) fun d=>fY (f5 [ff c s2] 2 2 d 24) (gO (cG [ff c s2] d))<|f4 L D 188 (cG [ff c s2] d) fun c=>B (M c.1) fun c=>zQ a c<|gp L D 22 [gN true i1 a c (gi b) s14<|kB s5 s6] fun d=>fk d.1 (xE zh)<|zQ a c<|xq [gN true i1 a c (gi b) s14<|kB s5 s6,gU])) zG)) zG)) zG) zG) zG):=eS Tryz.func202
theorem apM:ev E L (D+1) 204 [.str s1,.int .i64 i2] []=(gy L D 35 i2 fun a=>fk a.1 (gA gh)<|gy L D 124 i2 fun a=>gD a.1 fun a=>fY (xW (bs [109]) a 1) (gO [gY s1])<|gp L D 132 [Q<|kB (bs [109]) a,Z [gY s1]] fun a=>gD a.1 fun a=>gA<|Q a):=eS Tryz.func204
def DE:Option Res:=lq L D 206 Tryz.f206 0 [1,1,0,0] 2 [] (fH U i1 3 (xI (gK 5 100 i2) 17 [])) [gL 5 100 r0] n
theorem KZ:DE L D (n+1) r0 i1 i2=(gT i2 r0<|gr (N r0) i1 (zD (gz i2 r0) (uc 1 r0 (gR (N r0) 1) (gz i2 r0) (fA r0 (gR (N r0) 1) (fun a=>g9 a 0 fun a=>gv L D 201 a fun a=>gD a.1 fun a=>xC [gY a] (fv i2 r0 1 1 [gY a] 16)<|DE L D n (gF r0 (gY a)) i1<|N<|gF r0<|gY a))))<|gT i2 r0<|gA<|Z r0):=by kernel_rfl
theorem apN:ev E L (D+1) 206 [.str s1,.int .i64 i2] []=(DE L D L [gY s1] i2<|N [gY s1]):=eS Tryz.func206
theorem apO:ev E L (D+1) 208 [.int .i64 i1] []=xG L D 25 i1 14 fun a=>xL a.1:=eS Tryz.func208
theorem apP:ev E L (D+1) 238 [.agg [.sl r1],.int .i64 i2,.int .i64 i3] []=(gP (iLt i3 0) (gJ L D 66 (fS r1) i3 (fun a=>xr a.1<|gX (iLt i2 0) (gJ L D 66 (fS r1) i2 (fun a=>fI a.1 (fZ (iEq i2 i3)) gU)) gU))<|gX (iLt i2 0) (gJ L D 66 (fS r1) i2 (fun a=>fI a.1 (fZ (iEq i2 i3)) gU)) gU):=eS Tryz.func238
theorem apQ:ev E L (D+1) 239 [.agg [.sl r1],.int .i64 i2,.int .i64 i3,.str s4] []=(gp L D 187 [fS r1] fun a=>xK 1 a.1 fun a=>xU i3 (gE a (gJ L D 280 (fS a) i3 (fun a=>xK 1 a.1 fun a=>xU i2 (gE a (gJ L D 280 (fS a) i2 (fun a=>xK 1 a.1 fun a=>gy L D 128 i2 fun b=>gQ b.1 fun b=>fX a 1 b<|fA a b fun c=>xn (zE 1 c) (N a) (gC a b c 0 (gY s4))<|gZ [O<|gC a b c 0<|gY s4])))<|gE a<|gZ [O a])))<|xU i2 (gE a (gJ L D 280 (fS a) i2 (fun a=>xK 1 a.1 fun a=>gy L D 128 i2 fun b=>gQ b.1 fun b=>fX a 1 b<|fA a b fun c=>xn (zE 1 c) (N a) (gC a b c 0 (gY s4))<|gZ [O<|gC a b c 0<|gY s4])))<|gE a<|gZ [O a]):=eS Tryz.func239
theorem apR:ev E L (D+1) 240 [.agg [.sl r1],.int .i64 i2] []=(fQ 1 r1 i2 0 fun a=>gP (g8 a) (gE (fb i2) (gA (O (fb i2))))<|br (iLe 7 i2) (gA (O []))<|gJ L D 240 (fS r1) (gi (m7 K 2 i2)) fun a=>B (M a.1) fun a=>gJ L D 240 (fS r1) (fc (m7 K 2 i2) 2) fun b=>B (M b.1) fun b=>gE b<|fY (f5 a 1 1 b 8) (gO (cG a b))<|gA<|O<|cG a b):=eS Tryz.func240
theorem apS:ev E L (D+1) 241 [.int .i64 i1] []=(gy L D 208 i1 fun a=>fI a.1 (gw i1 0 zd (zr 2 0 (gw (y8 i1 2) 1 (xP (gi i1)) (xP (gR i1 1)))))<|gb (-1)):=eS Tryz.func241
def DF:Option Res:=xD L D 242 Tryz.f242 0 2 [] (fH (Z r0) i1 5 (fd i2 i3 10 [])) [] n
theorem K0:DF L D (n+1) r0 i1 i2 i3=(gr i3 i2 (xz 1 r0 i3 0 (fun a=>gw i1 a (xP i3)<|DF L D n r0 i1 i2<|gi i3)) zd):=by kernel_rfl
theorem apT:ev E L (D+1) 242 [.sl r1,.int .i64 i2] []=DF L D L r1 i2 (N r1) 0:=eS Tryz.func242
theorem apU:ev E L (D+1) 243 [.agg [.int .i64 i1,.str s2],.ptr (.imp 0) 0] [.cells [.sl r3]]=(fQ 1 r3 i1 0 fun a=>gv L D 69 s2 fun b=>gD b.1 fun b=>gS (Y (bNot (sEq a b)))<|fy r3):=eS Tryz.func243
def DG:Option Res:=x9 L D 280 Tryz.f280 0 3 [] (uD 4 (fT (gt 4) (gt 5) 5 (Z r4::fd i5 i6 9 []))) [gu 4 [fj 4 i2],fw 4 r0,gu 5 [fj 5 i3],fw 5 r1] n
theorem AR:DG L D (n+1) r0 r1 i2 i3 r4 i5 i6=(gr i6 i5 (xz 1 r4 i6 0 (fun a=>xm i3 r1 1 a fun b=>xM 1 b<|DG L D n r0 (gC r1 a b 0 [gh]) i2 i3 r4 i5<|gi i6))<|gT i3 r1<|gZ [O r1]):=by kernel_rfl
theorem apV:ev E L (D+1) 280 [.agg [.sl r1],.int .i64 i2] []=gp L D 187 [fS r1] fun a=>xK 1 a.1 fun a=>gy L D 67 i2 fun b=>B (F b.1) fun b=>DG L D L [] a (N []) (N a) b (N b) 0:=eS Tryz.func280
theorem adJ:ev E L (D+1) 23 [.sl r1,.fn 24 []] []=xA L D 70 r1 24 [] fun a=>xL a.1:=eS Tryz.func23
theorem adK:ev E L (D+1) 23 [.sl r1,.fn 26 []] []=xA L D 70 r1 26 [] fun a=>xL a.1:=eS Tryz.func23
theorem adL:ev E L (D+1) 27 [.sl r1,.fn 28 []] []=xA L D 71 r1 28 [] fun a=>xL a.1:=eS Tryz.func27
theorem adM:ev E L (D+1) 30 [.sl r1,.fn 31 []] []=xA L D 74 r1 31 [] fun a=>xL a.1:=eS Tryz.func30
theorem adN:ev E L (D+1) 33 [.sl r1,.fn 34 [.ptr (.imp 0) 0]] [.cells [.sl r2,.sl r3,.sl r4,.sl r5,.sl r6,.sl r7,.sl r8,.sl r9,.sl r10,.sl r11]]=xJ L D 78 (zy r1 34 xZ) [Z r2,Z r3,Z r4,Z r5,Z r6,Z r7,Z r8,Z r9,Z r10,Z r11] fun a=>fq 10 a.2 fun b=>zb (gd b 0) (gd b 1) (gd b 2) (gd b 3) (gd b 4) (gd b 5) (gd b 6) (gd b 7) (gd b 8) (gd b 9) fun b c d e f g h i j k=>fR a.1 fun a=>gS (Y a) [Z b,Z c,Z d,Z e,Z f,Z g,Z h,Z i,Z j,Z k]:=eS Tryz.func33
theorem adO:ev E L (D+1) 37 [.sl r1,.fn 38 []] []=xA L D 79 r1 38 [] fun a=>xL a.1:=eS Tryz.func37
theorem adP:ev E L (D+1) 39 [.sl r1,.fn 40 []] []=xA L D 80 r1 40 [] fun a=>xL a.1:=eS Tryz.func39
theorem adQ:ev E L (D+1) 41 [.sl r1,.fn 42 []] []=xA L D 81 r1 42 [] fun a=>xL a.1:=eS Tryz.func41
theorem adR:ev E L (D+1) 44 [.sl r1,.fn 45 [.ptr (.imp 0) 0]] [.cells [.sl r2,.sl r3,.sl r4,.sl r5,.sl r6,.sl r7,.sl r8,.sl r9,.sl r10,.sl r11]]=xJ L D 83 (zy r1 45 xZ) [Z r2,Z r3,Z r4,Z r5,Z r6,Z r7,Z r8,Z r9,Z r10,Z r11] fun a=>fq 10 a.2 fun b=>zb (gd b 0) (gd b 1) (gd b 2) (gd b 3) (gd b 4) (gd b 5) (gd b 6) (gd b 7) (gd b 8) (gd b 9) fun b c d e f g h i j k=>fR a.1 fun a=>gS (Y a) [Z b,Z c,Z d,Z e,Z f,Z g,Z h,Z i,Z j,Z k]:=eS Tryz.func44
theorem adS:ev E L (D+1) 70 [.sl r1,.fn 24 []] []=(xA L D 133 r1 24 [] fun a=>gQ a.1 fun a=>fZ<|fe a):=eS Tryz.func70
theorem adT:ev E L (D+1) 70 [.sl r1,.fn 26 []] []=(xA L D 133 r1 26 [] fun a=>gQ a.1 fun a=>fZ<|fe a):=eS Tryz.func70
theorem adU:ev E L (D+1) 71 [.sl r1,.fn 28 []] []=(xA L D 134 r1 28 [] fun a=>gQ a.1 fun a=>fZ<|fe a):=eS Tryz.func71
theorem adV:ev E L (D+1) 74 [.sl r1,.fn 31 []] []=(xA L D 137 r1 31 [] fun a=>gQ a.1 fun a=>fZ<|fe a):=eS Tryz.func74
theorem adW:ev E L (D+1) 78 [.sl r1,.fn 34 [.ptr (.imp 0) 0]] [.cells [.sl r2,.sl r3,.sl r4,.sl r5,.sl r6,.sl r7,.sl r8,.sl r9,.sl r10,.sl r11]]=xJ L D 141 (zy r1 34 xZ) [Z r2,Z r3,Z r4,Z r5,Z r6,Z r7,Z r8,Z r9,Z r10,Z r11] fun a=>fq 10 a.2 fun b=>zb (gd b 0) (gd b 1) (gd b 2) (gd b 3) (gd b 4) (gd b 5) (gd b 6) (gd b 7) (gd b 8) (gd b 9) fun b c d e f g h i j k=>gQ a.1 fun a=>gS (Y (fe a)) [Z b,Z c,Z d,Z e,Z f,Z g,Z h,Z i,Z j,Z k]:=eS Tryz.func78
theorem adX:ev E L (D+1) 79 [.sl r1,.fn 38 []] []=(xA L D 142 r1 38 [] fun a=>gQ a.1 fun a=>fZ<|fe a):=eS Tryz.func79
theorem adY:ev E L (D+1) 79 [.sl r1,.fn 126 []] []=(xA L D 142 r1 126 [] fun a=>gQ a.1 fun a=>fZ<|fe a):=eS Tryz.func79
theorem adZ:ev E L (D+1) 79 [.sl r1,.fn 138 []] []=(xA L D 142 r1 138 [] fun a=>gQ a.1 fun a=>fZ<|fe a):=eS Tryz.func79
theorem ae0:ev E L (D+1) 80 [.sl r1,.fn 40 []] []=(xA L D 143 r1 40 [] fun a=>gQ a.1 fun a=>fZ<|fe a):=eS Tryz.func80
theorem ae1:ev E L (D+1) 81 [.sl r1,.fn 42 []] []=(xA L D 144 r1 42 [] fun a=>gQ a.1 fun a=>fZ<|fe a):=eS Tryz.func81
theorem ae2:ev E L (D+1) 83 [.sl r1,.fn 45 [.ptr (.imp 0) 0]] [.cells [.sl r2,.sl r3,.sl r4,.sl r5,.sl r6,.sl r7,.sl r8,.sl r9,.sl r10,.sl r11]]=xJ L D 145 (zy r1 45 xZ) [Z r2,Z r3,Z r4,Z r5,Z r6,Z r7,Z r8,Z r9,Z r10,Z r11] fun a=>fq 10 a.2 fun b=>zb (gd b 0) (gd b 1) (gd b 2) (gd b 3) (gd b 4) (gd b 5) (gd b 6) (gd b 7) (gd b 8) (gd b 9) fun b c d e f g h i j k=>gQ a.1 fun a=>gS (Y (fe a)) [Z b,Z c,Z d,Z e,Z f,Z g,Z h,Z i,Z j,Z k]:=eS Tryz.func83
def pI:Option Res:=xD L D 130 Tryz.f130 1 2 [] (zu (Z r1) 131 xZ 5 (fd i2 i3 10 [])) [xO 0<|xw i0] n
theorem EY:pI L D (n+1) i0 r1 i2 i3=(gr i3 i2 (ft 2 r1 i3 (fun a=>zo a 0 a 1 fun a b=>xJ L D 131 [A<|ff a b,xx] (xw i0) fun a=>fq 1 a.2 fun b=>xo b 0 fun b=>xj a.1 (gS (gb i3) (xw b))<|pI L D n b r1 i2<|gi i3))<|gS (gb (-1))<|xw i0):=by kernel_rfl
theorem ZL:ev E L (D+1) 130 [.sl r1,.fn 131 [.ptr (.imp 0) 0]] [.cells [.int .i64 i2]]=pI L D L i2 r1 (N r1) 0:=eS Tryz.func130
def jL:Option Res:=xD L D 130 Tryz.f130 1 2 [] (zu (Z r2) 195 xZ 5 (fd i3 i4 10 [])) [xO 0<|xu s0 s1] n
theorem qT:jL L D (n+1) s0 s1 r2 i3 i4=(gr i4 i3 (ft 2 r2 i4 (fun a=>zo a 0 a 1 fun a b=>xJ L D 195 [A<|ff a b,xx] (xu s0 s1) fun a=>fq 2 a.2 fun b=>xy b 0 1 fun b c=>xj a.1 (gS (gb i4) (xu b c))<|jL L D n b c r2 i3<|gi i4))<|gS (gb (-1))<|xu s0 s1):=by kernel_rfl
theorem ZM:ev E L (D+1) 130 [.sl r1,.fn 195 [.ptr (.imp 0) 0]] [.cells [.str s2,.str s3]]=jL L D L s2 s3 r1 (N r1) 0:=eS Tryz.func130
def jM:Option Res:=xD L D 130 Tryz.f130 1 2 [] (zu (Z r1) 243 xZ 5 (fd i2 i3 10 [])) [xO 0<|fy r0] n
theorem qU:jM L D (n+1) r0 r1 i2 i3=(gr i3 i2 (ft 2 r1 i3 (fun a=>zo a 0 a 1 fun a b=>xJ L D 243 [A<|ff a b,xx] (fy r0) fun a=>fq 1 a.2 fun b=>B (gd b 0) fun b=>xj a.1 (gS (gb i3) (fy b))<|jM L D n b r1 i2<|gi i3))<|gS (gb (-1))<|fy r0):=by kernel_rfl
theorem ZN:ev E L (D+1) 130 [.sl r1,.fn 243 [.ptr (.imp 0) 0]] [.cells [.sl r2]]=jM L D L r2 r1 (N r1) 0:=eS Tryz.func130
def lI:Option Res:=xD L D 133 Tryz.f133 0 2 [] (zu (Z r0) 24 [] 5 (fd i1 i2 10 [])) [] n
theorem qV:lI L D (n+1) r0 i1 i2=(gr i2 i1 (xz 1 r0 i2 0 (fun a=>gy L D 24 a fun a=>xj a.1 (xP i2)<|lI L D n r0 i1<|gi i2)) zd):=by kernel_rfl
theorem ZO:ev E L (D+1) 133 [.sl r1,.fn 24 []] []=lI L D L r1 (N r1) 0:=eS Tryz.func133
def lJ:Option Res:=xD L D 133 Tryz.f133 0 2 [] (zu (Z r0) 26 [] 5 (fd i1 i2 10 [])) [] n
theorem qW:lJ L D (n+1) r0 i1 i2=(gr i2 i1 (xz 1 r0 i2 0 (fun a=>gy L D 26 a fun a=>xj a.1 (xP i2)<|lJ L D n r0 i1<|gi i2)) zd):=by kernel_rfl
theorem ZP:ev E L (D+1) 133 [.sl r1,.fn 26 []] []=lJ L D L r1 (N r1) 0:=eS Tryz.func133
def lK:Option Res:=xD L D 134 Tryz.f134 0 2 [] (zu (Z r0) 28 [] 5 (fd i1 i2 10 [])) [] n
theorem qX:lK L D (n+1) r0 i1 i2=(gr i2 i1 (ft 1 r0 i2 (fun a=>B (gd a 0) fun a=>f4 L D 28 a fun a=>xj a.1 (xP i2)<|lK L D n r0 i1<|gi i2)) zd):=by kernel_rfl
theorem ZQ:ev E L (D+1) 134 [.sl r1,.fn 28 []] []=lK L D L r1 (N r1) 0:=eS Tryz.func134
def lL:Option Res:=xD L D 135 Tryz.f135 1 2 [] (zu (Z r1) 136 xZ 5 (fd i2 i3 10 [])) [xO 0<|gY s0] n
theorem qY:lL L D (n+1) s0 r1 i2 i3=(gr i3 i2 (ft 3 r1 i3 (fun a=>g9 a 0 fun b=>xo a 1 fun c=>B (gd a 2) fun a=>xJ L D 136 [A<|xk (Q b) c<|Z a,xx] (gY s0) fun a=>fq 1 a.2 fun b=>g9 b 0 fun b=>xj a.1 (gS (gb i3) (gY b))<|lL L D n b r1 i2<|gi i3))<|gS (gb (-1))<|gY s0):=by kernel_rfl
theorem ZR:ev E L (D+1) 135 [.sl r1,.fn 136 [.ptr (.imp 0) 0]] [.cells [.str s2]]=lL L D L s2 r1 (N r1) 0:=eS Tryz.func135
def lM:Option Res:=xD L D 137 Tryz.f137 0 2 [] (zu (Z r0) 31 [] 5 (fd i1 i2 10 [])) [] n
theorem qZ:lM L D (n+1) r0 i1 i2=(gr i2 i1 (ft 13 r0 i2 (fun a=>zN a 0 a 1 a 2 fun b c d=>zx a 3 4 a 5 fun e f g=>zv (gd a 6) (gd a 7) fun h i=>g9 a 8 fun j=>xy a 9 10 fun k l=>xy a 11 12 fun a m=>gp L D 31 [A [gb b,Q c,Q d,gb e,gb f,Q g,Z h,Z i,Q j,Q k,Q l,Q a,Q m]] fun a=>xj a.1 (xP i2)<|lM L D n r0 i1<|gi i2)) zd):=by kernel_rfl
theorem ZS:ev E L (D+1) 137 [.sl r1,.fn 31 []] []=lM L D L r1 (N r1) 0:=eS Tryz.func137
theorem ZT:ev E L (D+1) 139 [.sl r1,.fn 140 []] []=(xA L D 192 r1 140 [] fun a=>gQ a.1 fun a=>fZ<|fe a):=eS Tryz.func139
def lN:Option Res:=xD L D 141 Tryz.f141 1 2 [] (zu (Z r10) 34 xZ 5 (fd i11 i12 10 [])) [xO 0 [Z r0,Z r1,Z r2,Z r3,Z r4,Z r5,Z r6,Z r7,Z r8,Z r9]] n
theorem rA:lN L D (n+1) r0 r1 r2 r3 r4 r5 r6 r7 r8 r9 r10 i11 i12=(gr i12 i11 (ft 4 r10 i12 (fun a=>zA a 0 1 fun b c=>xy a 2 3 fun a d=>xJ L D 34 [A [gb b,gb c,Q a,Q d],xx] [Z r0,Z r1,Z r2,Z r3,Z r4,Z r5,Z r6,Z r7,Z r8,Z r9] fun a=>fq 10 a.2 fun b=>zb (gd b 0) (gd b 1) (gd b 2) (gd b 3) (gd b 4) (gd b 5) (gd b 6) (gd b 7) (gd b 8) (gd b 9) fun b c d e f g h i j k=>xj a.1 (gS (gb i12) [Z b,Z c,Z d,Z e,Z f,Z g,Z h,Z i,Z j,Z k])<|lN L D n b c d e f g h i j k r10 i11<|gi i12))<|gS (gb (-1)) [Z r0,Z r1,Z r2,Z r3,Z r4,Z r5,Z r6,Z r7,Z r8,Z r9]):=by kernel_rfl
theorem ZU:ev E L (D+1) 141 [.sl r1,.fn 34 [.ptr (.imp 0) 0]] [.cells [.sl r2,.sl r3,.sl r4,.sl r5,.sl r6,.sl r7,.sl r8,.sl r9,.sl r10,.sl r11]]=lN L D L r2 r3 r4 r5 r6 r7 r8 r9 r10 r11 r1 (N r1) 0:=eS Tryz.func141
def lO:Option Res:=xD L D 142 Tryz.f142 0 2 [] (zu (Z r0) 38 [] 5 (fd i1 i2 10 [])) [] n
theorem rD:lO L D (n+1) r0 i1 i2=(gr i2 i1 (zn 1 r0 i2 0 L D 38 (fun a=>xj a.1 (xP i2)<|lO L D n r0 i1<|gi i2)) zd):=by kernel_rfl
theorem ZV:ev E L (D+1) 142 [.sl r1,.fn 38 []] []=lO L D L r1 (N r1) 0:=eS Tryz.func142
def pJ:Option Res:=xD L D 142 Tryz.f142 0 2 [] (zu (Z r0) 126 [] 5 (fd i1 i2 10 [])) [] n
theorem EZ:pJ L D (n+1) r0 i1 i2=(gr i2 i1 (zn 1 r0 i2 0 L D 126 (fun a=>xj a.1 (xP i2)<|pJ L D n r0 i1<|gi i2)) zd):=by kernel_rfl
theorem ZW:ev E L (D+1) 142 [.sl r1,.fn 126 []] []=pJ L D L r1 (N r1) 0:=eS Tryz.func142
def pK:Option Res:=xD L D 142 Tryz.f142 0 2 [] (zu (Z r0) 138 [] 5 (fd i1 i2 10 [])) [] n
theorem E0:pK L D (n+1) r0 i1 i2=(gr i2 i1 (zn 1 r0 i2 0 L D 138 (fun a=>xj a.1 (xP i2)<|pK L D n r0 i1<|gi i2)) zd):=by kernel_rfl
theorem ZX:ev E L (D+1) 142 [.sl r1,.fn 138 []] []=pK L D L r1 (N r1) 0:=eS Tryz.func142
def lP:Option Res:=xD L D 143 Tryz.f143 0 2 [] (zu (Z r0) 40 [] 5 (fd i1 i2 10 [])) [] n
theorem rG:lP L D (n+1) r0 i1 i2=(gr i2 i1 (ft 2 r0 i2 (fun a=>zo a 0 a 1 fun a b=>gp L D 40 [A<|ff a b] fun a=>xj a.1 (xP i2)<|lP L D n r0 i1<|gi i2)) zd):=by kernel_rfl
theorem ZY:ev E L (D+1) 143 [.sl r1,.fn 40 []] []=lP L D L r1 (N r1) 0:=eS Tryz.func143
def lQ:Option Res:=xD L D 144 Tryz.f144 0 2 [] (zu (Z r0) 42 [] 5 (fd i1 i2 10 [])) [] n
theorem rH:lQ L D (n+1) r0 i1 i2=(gr i2 i1 (ft 4 r0 i2 (fun a=>zo a 0 a 1 fun b c=>zo a 2 a 3 fun a d=>gp L D 42 [A [gb b,Q c,gb a,Q d]] fun a=>xj a.1 (xP i2)<|lQ L D n r0 i1<|gi i2)) zd):=by kernel_rfl
theorem ZZ:ev E L (D+1) 144 [.sl r1,.fn 42 []] []=lQ L D L r1 (N r1) 0:=eS Tryz.func144
def lR:Option Res:=xD L D 145 Tryz.f145 1 2 [] (zu (Z r10) 45 xZ 5 (fd i11 i12 10 [])) [xO 0 [Z r0,Z r1,Z r2,Z r3,Z r4,Z r5,Z r6,Z r7,Z r8,Z r9]] n
theorem rJ:lR L D (n+1) r0 r1 r2 r3 r4 r5 r6 r7 r8 r9 r10 i11 i12=(gr i12 i11 (ft 2 r10 i12 (fun a=>zA a 0 1 fun a b=>xJ L D 45 [A<|zI (gb a) b,xx] [Z r0,Z r1,Z r2,Z r3,Z r4,Z r5,Z r6,Z r7,Z r8,Z r9] fun a=>fq 10 a.2 fun b=>zb (gd b 0) (gd b 1) (gd b 2) (gd b 3) (gd b 4) (gd b 5) (gd b 6) (gd b 7) (gd b 8) (gd b 9) fun b c d e f g h i j k=>xj a.1 (gS (gb i12) [Z b,Z c,Z d,Z e,Z f,Z g,Z h,Z i,Z j,Z k])<|lR L D n b c d e f g h i j k r10 i11<|gi i12))<|gS (gb (-1)) [Z r0,Z r1,Z r2,Z r3,Z r4,Z r5,Z r6,Z r7,Z r8,Z r9]):=by kernel_rfl
theorem Z0:ev E L (D+1) 145 [.sl r1,.fn 45 [.ptr (.imp 0) 0]] [.cells [.sl r2,.sl r3,.sl r4,.sl r5,.sl r6,.sl r7,.sl r8,.sl r9,.sl r10,.sl r11]]=lR L D L r2 r3 r4 r5 r6 r7 r8 r9 r10 r11 r1 (N r1) 0:=eS Tryz.func145
def pL:Option Res:=xD L D 192 Tryz.f192 0 2 [] (zu (Z r0) 140 [] 5 (fd i1 i2 10 [])) [] n
theorem E1:pL L D (n+1) r0 i1 i2=(gr i2 i1 (ft 2 r0 i2 (fun a=>xy a 0 1 fun a b=>gp L D 140 [A<|xu a b] fun a=>xj a.1 (xP i2)<|pL L D n r0 i1<|gi i2)) zd):=by kernel_rfl
theorem Z2:ev E L (D+1) 192 [.sl r1,.fn 140 []] []=pL L D L r1 (N r1) 0:=eS Tryz.func192
def lS:Option Res:=xD L D 192 Tryz.f192 1 2 [] (zu (Z r7) 193 xZ 5 (fd i8 i9 10 [])) [xO 0<|gV b0 i1 r2 r3 i4 s5 s6] n
theorem rK:lS L D (n+1) b0 i1 r2 r3 i4 s5 s6 r7 i8 i9=(gr i9 i8 (ft 2 r7 i9 (fun a=>xy a 0 1 fun a b=>xJ L D 193 [A<|xu a b,xx] (gV b0 i1 r2 r3 i4 s5 s6) fun a=>fq 7 a.2 fun b=>xi (C b 0) b 1 (gd b 2) (gd b 3) b 4 b 5 b 6 fun b c d e f g h=>xj a.1 (gS (gb i9) (gV b c d e f g h))<|lS L D n b c d e f g h r7 i8<|gi i9))<|gS (gb (-1))<|gV b0 i1 r2 r3 i4 s5 s6):=by kernel_rfl
theorem Z3:ev E L (D+1) 192 [.sl r1,.fn 193 [.ptr (.imp 0) 0]] [.cells [.bool b2,.int .i64 i3,.sl r4,.sl r5,.int .i64 i6,.str s7,.str s8]]=lS L D L b2 i3 r4 r5 i6 s7 s8 r1 (N r1) 0:=eS Tryz.func192
theorem Z4:ev E L (D+1) 194 [.sl r1,.fn 195 [.ptr (.imp 0) 0]] [.cells [.str s2,.str s3]]=(xJ L D 130 (zy r1 195 xZ) (xu s2 s3) fun a=>fq 2 a.2 fun b=>xy b 0 1 fun b c=>gQ a.1 fun a=>gS (Y (fe a))<|xu b c):=eS Tryz.func194
theorem Z5:ev E L (D+1) 194 [.sl r1,.fn 243 [.ptr (.imp 0) 0]] [.cells [.sl r2]]=(xJ L D 130 (zy r1 243 xZ) (fy r2) fun a=>fq 1 a.2 fun b=>B (gd b 0) fun b=>gQ a.1 fun a=>gS (Y (fe a))<|fy b):=eS Tryz.func194
end
end Kw
namespace Kw
abbrev S:=List UInt8
instance:Inhabited S:=⟨[]⟩
def ix{A:Type} [Inhabited A](l:List A)(i:Int):A:=l.getD i.toNat default
section
variable {A:Type} [Inhabited A]
theorem aM(l:List A)(k:Nat)(h:k<l.length):ix l (k:Int)=l[k]:=by simp[ix,h]
theorem bP(l:List A)(k:Nat)(h:k<l.length):l.drop k=ix l (k:Int)::l.drop (k+1):=by rw[aM l k h];exact qd h
end
structure Own where
 node:Int
 sec:S
 deriving DecidableEq,Inhabited
structure Box where
 key:S
 sec:S
 deriving DecidableEq,Inhabited
structure Member where
 inn:Bool
 who:Int
 keys:List S
 own:List Own
 epoch:Int
 init:S
 tag:S
 deriving DecidableEq
instance:Inhabited Member:=⟨⟨false,0,[],[],0,[],[]⟩⟩
structure Commit where
 sender:Int
 tag:S
 name:S
 add:Int
 remove:Int
 leaf:S
 keys:List S
 boxes:List Box
 wkey:S
 wik:S
 wis:S
 wsk:S
 wss:S
 deriving DecidableEq
instance:Inhabited Commit:=⟨⟨0,[],[],0,0,[],[],[],[],[],[],[],[]⟩⟩
structure Frame where
 src:Int
 key:S
 n:Int
 text:S
 deriving DecidableEq,Inhabited
structure Win where
 key:S
 top:Int
 seen:List Int
 deriving DecidableEq,Inhabited
structure Wait where
 who:Int
 pos:Int
 leaf:S
 key:S
 deriving DecidableEq,Inhabited
structure Steal where
 who:Int
 tag:S
 deriving DecidableEq,Inhabited
structure Told where
 who:Int
 pos:Int
 deriving DecidableEq,Inhabited
structure Event where
 kind:Int
 who:Int
 add:Int
 remove:Int
 pos:Int
 text:S
 deriving DecidableEq,Inhabited
structure World where
 seats:List Member
 waits:List Wait
 log:List Commit
 fresh:List Int
 spy:List S
 stolen:List Steal
 frames:List Frame
 said:List Int
 wins:List (List Win)
 told:List Told
 deriving DecidableEq,Inhabited
end Kw
namespace Kw
open Go
section
variable {R α:Type}
@[congr] theorem asA {o o':Option α} (h:o=o') (f:α->Option R):bnd o f=bnd o' f:=by rw[h]
@[congr] theorem asS {b b':Bool} (h:b=b') (x y:Option R):br b x y=br b' x y:=by rw[h]
theorem bC(b:Bool)(x y:Option R):br b x y=if b=true then x else y:=by cases b<;>rfl
end
section
variable {A:Type} [Inhabited A]
theorem jE(f:A->Row){sz:Nat}(hf:∀x,(f x).length=sz)(l:List A)(i:Int)(h0:0<=i)(h1:i<l.length):jP sz (l.map f) i=some (f (ix l i)):=by
 have h:i.toNat<l.length:=by omega
 unfold jP;rw[je h0,jn,jj h];simp[hf,ix,h]
theorem kL(f:A->Row)(l:List A)(i:Int)(h0:0<=i)(h1:i<l.length):hG (l.map f) i=some (f (ix l i)):=by
 have h:i.toNat<l.length:=by omega
 unfold hG;rw[je h0,jn,jj h];simp[ix,h]
end
theorem eV{A:Type}(f:A->Row)(l:List A)(i:Int)(x:A):setR (l.map f) i (f x)=(l.set i.toNat x).map f:=by unfold setR;rw[List.map_set]
theorem P5{A:Type}(f:A->Row)(l:List A)(a b:Int):AU (l.map f) a b=((l.take b.toNat).drop a.toNat).map f:=by unfold AU;rw[List.map_drop,List.map_take]
def rS(s:S):Row:=[.str (bs s)]
def rI(n:Int):Row:=[.int .i64 n]
def rU(b:UInt8):Row:=[.int .u8 b.toNat]
def rO(o:Own):Row:=[.int .i64 o.node,.str (bs o.sec)]
def rB(b:Box):Row:=[.str (bs b.key),.str (bs b.sec)]
def rM(m:Member):Row:=[.bool m.inn,.int .i64 m.who,.sl (m.keys.map rS),.sl (m.own.map rO),.int .i64 m.epoch,.str (bs m.init),.str (bs m.tag)]
def rC(c:Commit):Row:=[.int .i64 c.sender,.str (bs c.tag),.str (bs c.name),.int .i64 c.add,.int .i64 c.remove,.str (bs c.leaf),.sl (c.keys.map rS),.sl (c.boxes.map rB),.str (bs c.wkey),.str (bs c.wik),.str (bs c.wis),.str (bs c.wsk),.str (bs c.wss)]
def rF(f:Frame):Row:=[.int .i64 f.src,.str (bs f.key),.int .i64 f.n,.str (bs f.text)]
def rW(w:Win):Row:=[.str (bs w.key),.int .i64 w.top,.sl (w.seen.map rI)]
def rWs(l:List Win):Row:=[.sl (l.map rW)]
def rWt(x:Wait):Row:=[.int .i64 x.who,.int .i64 x.pos,.str (bs x.leaf),.str (bs x.key)]
def rSt(x:Steal):Row:=[.int .i64 x.who,.str (bs x.tag)]
def rT(x:Told):Row:=[.int .i64 x.who,.int .i64 x.pos]
def rE(e:Event):Row:=[.int .i64 e.kind,.int .i64 e.who,.int .i64 e.add,.int .i64 e.remove,.int .i64 e.pos,.str (bs e.text)]
section
variable (i:Int)
theorem aX(l:List S)(h0:0<=i)(h1:i<l.length):jP 1 (l.map rS) i=some (rS (ix l i)):=jE rS (fun _=>rfl) l i h0 h1
theorem aY(l:List Int)(h0:0<=i)(h1:i<l.length):jP 1 (l.map rI) i=some (rI (ix l i)):=jE rI (fun _=>rfl) l i h0 h1
theorem N2(l:List UInt8)(h0:0<=i)(h1:i<l.length):jP 1 (l.map rU) i=some (rU (ix l i)):=jE rU (fun _=>rfl) l i h0 h1
theorem dP(l:List Own)(h0:0<=i)(h1:i<l.length):jP 2 (l.map rO) i=some (rO (ix l i)):=jE rO (fun _=>rfl) l i h0 h1
theorem tW(l:List Box)(h0:0<=i)(h1:i<l.length):jP 2 (l.map rB) i=some (rB (ix l i)):=jE rB (fun _=>rfl) l i h0 h1
theorem bL(l:List Member)(h0:0<=i)(h1:i<l.length):jP 7 (l.map rM) i=some (rM (ix l i)):=jE rM (fun _=>rfl) l i h0 h1
theorem nK(l:List Commit)(h0:0<=i)(h1:i<l.length):jP 13 (l.map rC) i=some (rC (ix l i)):=jE rC (fun _=>rfl) l i h0 h1
theorem EH(l:List Frame)(h0:0<=i)(h1:i<l.length):jP 4 (l.map rF) i=some (rF (ix l i)):=jE rF (fun _=>rfl) l i h0 h1
theorem sF(l:List Win)(h0:0<=i)(h1:i<l.length):jP 3 (l.map rW) i=some (rW (ix l i)):=jE rW (fun _=>rfl) l i h0 h1
theorem eA(l:List (List Win))(h0:0<=i)(h1:i<l.length):jP 1 (l.map rWs) i=some (rWs (ix l i)):=jE rWs (fun _=>rfl) l i h0 h1
theorem l8(l:List Wait)(h0:0<=i)(h1:i<l.length):jP 4 (l.map rWt) i=some (rWt (ix l i)):=jE rWt (fun _=>rfl) l i h0 h1
theorem ag6(l:List Steal)(h0:0<=i)(h1:i<l.length):jP 2 (l.map rSt) i=some (rSt (ix l i)):=jE rSt (fun _=>rfl) l i h0 h1
theorem alU(l:List Told)(h0:0<=i)(h1:i<l.length):jP 2 (l.map rT) i=some (rT (ix l i)):=jE rT (fun _=>rfl) l i h0 h1
theorem abQ(l:List Event)(h0:0<=i)(h1:i<l.length):jP 6 (l.map rE) i=some (rE (ix l i)):=jE rE (fun _=>rfl) l i h0 h1
end
section
theorem iC(l:List S):okR 1 (l.map rS)=true:=jD rS 1 (fun _=>rfl) l
theorem kM(l:List Int):okR 1 (l.map rI)=true:=jD rI 1 (fun _=>rfl) l
theorem asT(l:List UInt8):okR 1 (l.map rU)=true:=jD rU 1 (fun _=>rfl) l
theorem nS(l:List Own):okR 2 (l.map rO)=true:=jD rO 2 (fun _=>rfl) l
theorem MG(l:List Box):okR 2 (l.map rB)=true:=jD rB 2 (fun _=>rfl) l
theorem VU(l:List Member):okR 7 (l.map rM)=true:=jD rM 7 (fun _=>rfl) l
theorem MH(l:List Commit):okR 13 (l.map rC)=true:=jD rC 13 (fun _=>rfl) l
theorem mN(l:List Frame):okR 4 (l.map rF)=true:=jD rF 4 (fun _=>rfl) l
theorem H3(l:List Win):okR 3 (l.map rW)=true:=jD rW 3 (fun _=>rfl) l
theorem N3(l:List (List Win)):okR 1 (l.map rWs)=true:=jD rWs 1 (fun _=>rfl) l
theorem EI(l:List Wait):okR 4 (l.map rWt)=true:=jD rWt 4 (fun _=>rfl) l
theorem EJ(l:List Steal):okR 2 (l.map rSt)=true:=jD rSt 2 (fun _=>rfl) l
theorem mO(l:List Told):okR 2 (l.map rT)=true:=jD rT 2 (fun _=>rfl) l
theorem al3(l:List Event):okR 6 (l.map rE)=true:=jD rE 6 (fun _=>rfl) l
theorem aW(sz:Nat)(r:Row)(l:List Row):okR sz (r::l)=(r.length==sz&&okR sz l):=(rfl)
theorem aQ(sz:Nat):okR sz []=true:=(rfl)
theorem aJ(r:Row)(l:List Row):nrows (r::l)=nrows l+1:=by simp[nrows]
end
theorem aH(a:Nat)(h:a<9223372036854775807):bU .i64 (a:Int) 1=((a+1:Nat):Int):=by rw[ag5]<;>omega
end Kw
namespace Kw
open Go
theorem jS(b:Bool):bNot (bNot b)=b:=by cases b<;>rfl
theorem cT{R:Type}(b:Bool)(x y:Option R):br (bNot b) x y=br b y x:=by cases b<;>rfl
theorem alV(x:Int):(rI x).length=1:=(rfl)
theorem aA(a:Int):decide (a=a)=true:=jd rfl
theorem dQ(a:S):decide (a=a)=true:=jd rfl
theorem iEq_self(a:Int):iEq a a=true:=by simp
theorem gTupN_if(n:Nat)(l:List MV):L2 n (.tup l)=if l.length=n then some l else none:=(rfl)
theorem gAggN_if(n:Nat)(l:List MV):FC n (.agg l)=if l.length=n then some l else none:=(rfl)
theorem bM(n:Nat)(l:List MV):pB n (.cells l)=if l.length=n then some l else none:=(rfl)
theorem aF(n m:Int)(k:Nat)(h:(n+m)*k<=70368744177664):eP n m k=true:=by rw[abP];exact jd h
theorem aZ{a b:Int}(h1: -9223372036854775808<=a+b)(h2:a+b<=9223372036854775807):bU .i64 a b=a+b:=wrap_i64 h1 h2
theorem dR{a b:Int}(h1: -9223372036854775808<=a-b)(h2:a-b<=9223372036854775807):hJ .i64 a b=a-b:=wrap_i64 h1 h2
theorem H4{a b:Int}(h1: -9223372036854775808<=a*b)(h2:a*b<=9223372036854775807):m7 .i64 a b=a*b:=wrap_i64 h1 h2
theorem cL{a:Int}(h1: -9223372036854775808<=a)(h2:a<=9223372036854775807):m8 .i64 a=a:=wrap_i64 h1 h2
theorem N4{a:Int}(h1:0<=a)(h2:a<=255):m8 .u8 a=a:=VT h1 h2
theorem A7{a b:Int}(h1:0<=a-b)(h2:a-b<=255):hJ .u8 a b=a-b:=VT h1 h2
theorem nD{a b:Int}(h:0<=a):y8 a b=a%b:=Int.tmod_eq_emod_of_nonneg h
theorem l9{a b:Int}(h:0<=a)(hb:0<b)(hh:a<=9223372036854775807):D9 .i64 a b=a/b:=by
 unfold D9;rw[Int.tdiv_eq_ediv_of_nonneg h];have h1:0<=a/b:=Int.ediv_nonneg h (Int.le_of_lt hb);have h2:a/b<=a:=Int.ediv_le_self b h;rw[wrap_i64]<;>omega
theorem dX(l:S)(i:Int)(h0:0<=i)(h1:i<l.length):sAt (bs l) i=some ((ix l i).toNat:Int):=by
 rw[alT l i h0];have h:i.toNat<l.length:=by omega
 rw[jj h];simp[ix,h]
theorem jF(l:S)(a b:Int):mK (bs l) a b=bs ((l.take b.toNat).drop a.toNat):=ag4 l a b
theorem toNat_lt(b:UInt8):(b.toNat:Int)<=255:=by have:=b.toNat_lt;omega
end Kw
namespace Kw
open Go
theorem d5(x:S):aD (rS x) 0=.str (bs x):=(rfl)
theorem oL(o:S)(x:S):setRow (rS o) 0 [.str (bs x)]=rS x:=(rfl)
theorem oM(x:S):eF (rS x)=1:=(rfl)
theorem abF(l:List (S))(x:S):cG (l.map rS) [[.str (bs x)]]=(l++[x]).map rS:=cH rS l x
theorem jR(l:List (S))(i:Int)(h0:0<=i)(h1:i<l.length):hG (l.map rS) i=some (rS (ix l i)):=kL rS l i h0 h1
theorem H1(l:List (S))(i:Int)(x:S):setR (l.map rS) i (rS x)=(l.set i.toNat x).map rS:=eV rS l i x
theorem dU(x:Int):aD (rI x) 0=.int .i64 x:=(rfl)
theorem cV(o:Int)(x:Int):setRow (rI o) 0 [.int .i64 x]=rI x:=(rfl)
theorem cW(x:Int):eF (rI x)=1:=(rfl)
theorem NX(l:List (Int))(x:Int):cG (l.map rI) [[.int .i64 x]]=(l++[x]).map rI:=cH rI l x
theorem MF(x:Int):[[.int .i64 x]]=[x].map rI:=(rfl)
theorem bJ(l:List (Int))(i:Int)(h0:0<=i)(h1:i<l.length):hG (l.map rI) i=some (rI (ix l i)):=kL rI l i h0 h1
theorem kD(l:List (Int))(i:Int)(x:Int):setR (l.map rI) i (rI x)=(l.set i.toNat x).map rI:=eV rI l i x
theorem asG(x:UInt8):aD (rU x) 0=.int .u8 (UInt8.toNat x:Nat):=(rfl)
theorem asH(l:List (UInt8))(a b:Int):AU (l.map rU) a b=((l.take b.toNat).drop a.toNat).map rU:=P5 rU l a b
theorem NY(x:Own):aD (rO x) 0=.int .i64 x.node:=(rfl)
theorem A0(x:Own):aD (rO x) 1=.str (bs x.sec):=(rfl)
theorem TD(l:List (Own))(a0:Int)(a1:S):cG (l.map rO) [[.int .i64 a0,.str (bs a1)]]=(l++[(⟨a0,a1⟩:Own)]).map rO:=cH rO l (⟨a0,a1⟩:Own)
theorem abG(a0:Int)(a1:S):[[.int .i64 a0,.str (bs a1)]]=[(⟨a0,a1⟩:Own)].map rO:=(rfl)
theorem ag1(l:List (Own))(i:Int)(h0:0<=i)(h1:i<l.length):hG (l.map rO) i=some (rO (ix l i)):=kL rO l i h0 h1
theorem asI(l:List (Own))(i:Int)(x:Own):setR (l.map rO) i (rO x)=(l.set i.toNat x).map rO:=eV rO l i x
theorem asJ(l:List (Own))(a b:Int):AU (l.map rO) a b=((l.take b.toNat).drop a.toNat).map rO:=P5 rO l a b
theorem abH(x:Box):aD (rB x) 0=.str (bs x.key):=(rfl)
theorem alO(x:Box):aD (rB x) 1=.str (bs x.sec):=(rfl)
theorem abI(l:List (Box))(a0:S)(a1:S):cG (l.map rB) [[.str (bs a0),.str (bs a1)]]=(l++[(⟨a0,a1⟩:Box)]).map rB:=cH rB l (⟨a0,a1⟩:Box)
theorem iL(x:Member):aD (rM x) 0=.bool x.inn:=(rfl)
theorem kE(x:Member):aD (rM x) 1=.int .i64 x.who:=(rfl)
theorem kF(x:Member):aD (rM x) 2=.sl (x.keys.map rS):=(rfl)
theorem kG(x:Member):aD (rM x) 3=.sl (x.own.map rO):=(rfl)
theorem kH(x:Member):aD (rM x) 4=.int .i64 x.epoch:=(rfl)
theorem kI(x:Member):aD (rM x) 5=.str (bs x.init):=(rfl)
theorem kJ(x:Member):aD (rM x) 6=.str (bs x.tag):=(rfl)
theorem iT(o:Member)(a0:Bool)(a1:Int)(a2:List S)(a3:List Own)(a4:Int)(a5:S)(a6:S):setRow (rM o) 0 [.bool a0,.int .i64 a1,.sl (a2.map rS),.sl (a3.map rO),.int .i64 a4,.str (bs a5),.str (bs a6)]=rM (⟨a0,a1,a2,a3,a4,a5,a6⟩:Member):=(rfl)
theorem bV(x:Member):eF (rM x)=7:=(rfl)
theorem abJ(l:List (Member))(a0:Bool)(a1:Int)(a2:List S)(a3:List Own)(a4:Int)(a5:S)(a6:S):cG (l.map rM) [[.bool a0,.int .i64 a1,.sl (a2.map rS),.sl (a3.map rO),.int .i64 a4,.str (bs a5),.str (bs a6)]]=(l++[(⟨a0,a1,a2,a3,a4,a5,a6⟩:Member)]).map rM:=cH rM l (⟨a0,a1,a2,a3,a4,a5,a6⟩:Member)
theorem bE(l:List (Member))(i:Int)(h0:0<=i)(h1:i<l.length):hG (l.map rM) i=some (rM (ix l i)):=kL rM l i h0 h1
theorem qA(l:List (Member))(i:Int)(x:Member):setR (l.map rM) i (rM x)=(l.set i.toNat x).map rM:=eV rM l i x
theorem KG(x:Commit):aD (rC x) 0=.int .i64 x.sender:=(rfl)
theorem KH(x:Commit):aD (rC x) 1=.str (bs x.tag):=(rfl)
theorem KI(x:Commit):aD (rC x) 2=.str (bs x.name):=(rfl)
theorem KJ(x:Commit):aD (rC x) 3=.int .i64 x.add:=(rfl)
theorem KK(x:Commit):aD (rC x) 4=.int .i64 x.remove:=(rfl)
theorem KL(x:Commit):aD (rC x) 5=.str (bs x.leaf):=(rfl)
theorem KN(x:Commit):aD (rC x) 6=.sl (x.keys.map rS):=(rfl)
theorem KO(x:Commit):aD (rC x) 7=.sl (x.boxes.map rB):=(rfl)
theorem KP(x:Commit):aD (rC x) 8=.str (bs x.wkey):=(rfl)
theorem KQ(x:Commit):aD (rC x) 9=.str (bs x.wik):=(rfl)
theorem AH(x:Commit):aD (rC x) 10=.str (bs x.wis):=(rfl)
theorem AI(x:Commit):aD (rC x) 11=.str (bs x.wsk):=(rfl)
theorem AJ(x:Commit):aD (rC x) 12=.str (bs x.wss):=(rfl)
theorem H2(l:List (Commit))(a0:Int)(a1:S)(a2:S)(a3:Int)(a4:Int)(a5:S)(a6:List S)(a7:List Box)(a8:S)(a9:S)(a10:S)(a11:S)(a12:S):cG (l.map rC) [[.int .i64 a0,.str (bs a1),.str (bs a2),.int .i64 a3,.int .i64 a4,.str (bs a5),.sl (a6.map rS),.sl (a7.map rB),.str (bs a8),.str (bs a9),.str (bs a10),.str (bs a11),.str (bs a12)]]=(l++[(⟨a0,a1,a2,a3,a4,a5,a6,a7,a8,a9,a10,a11,a12⟩:Commit)]).map rC:=cH rC l (⟨a0,a1,a2,a3,a4,a5,a6,a7,a8,a9,a10,a11,a12⟩:Commit)
theorem mX(l:List (Commit))(i:Int)(h0:0<=i)(h1:i<l.length):hG (l.map rC) i=some (rC (ix l i)):=kL rC l i h0 h1
theorem abK(x:Frame):aD (rF x) 0=.int .i64 x.src:=(rfl)
theorem abL(x:Frame):aD (rF x) 1=.str (bs x.key):=(rfl)
theorem abM(x:Frame):aD (rF x) 2=.int .i64 x.n:=(rfl)
theorem abN(x:Frame):aD (rF x) 3=.str (bs x.text):=(rfl)
theorem NZ(l:List (Frame))(a0:Int)(a1:S)(a2:Int)(a3:S):cG (l.map rF) [[.int .i64 a0,.str (bs a1),.int .i64 a2,.str (bs a3)]]=(l++[(⟨a0,a1,a2,a3⟩:Frame)]).map rF:=cH rF l (⟨a0,a1,a2,a3⟩:Frame)
theorem CC(l:List (Frame))(i:Int)(h0:0<=i)(h1:i<l.length):hG (l.map rF) i=some (rF (ix l i)):=kL rF l i h0 h1
theorem abO(x:Win):aD (rW x) 0=.str (bs x.key):=(rfl)
theorem alP(x:Win):aD (rW x) 1=.int .i64 x.top:=(rfl)
theorem alQ(x:Win):aD (rW x) 2=.sl (x.seen.map rI):=(rfl)
theorem P3(o:Win)(a0:S)(a1:Int)(a2:List Int):setRow (rW o) 0 [.str (bs a0),.int .i64 a1,.sl (a2.map rI)]=rW (⟨a0,a1,a2⟩:Win):=(rfl)
theorem P4(x:Win):eF (rW x)=3:=(rfl)
theorem alR(l:List (Win))(a0:S)(a1:Int)(a2:List Int):cG (l.map rW) [[.str (bs a0),.int .i64 a1,.sl (a2.map rI)]]=(l++[(⟨a0,a1,a2⟩:Win)]).map rW:=cH rW l (⟨a0,a1,a2⟩:Win)
theorem GS(l:List (Win))(i:Int)(h0:0<=i)(h1:i<l.length):hG (l.map rW) i=some (rW (ix l i)):=kL rW l i h0 h1
theorem al2(l:List (Win))(i:Int)(x:Win):setR (l.map rW) i (rW x)=(l.set i.toNat x).map rW:=eV rW l i x
theorem nC(x:List Win):aD (rWs x) 0=.sl (x.map rW):=(rfl)
theorem yJ(o:List Win)(x:List Win):setRow (rWs o) 0 [.sl (x.map rW)]=rWs x:=(rfl)
theorem dF(x:List Win):eF (rWs x)=1:=(rfl)
theorem dV(l:List (List Win))(i:Int)(h0:0<=i)(h1:i<l.length):hG (l.map rWs) i=some (rWs (ix l i)):=kL rWs l i h0 h1
theorem N0(l:List (List Win))(i:Int)(x:List Win):setR (l.map rWs) i (rWs x)=(l.set i.toNat x).map rWs:=eV rWs l i x
theorem AK(x:Wait):aD (rWt x) 0=.int .i64 x.who:=(rfl)
theorem AL(x:Wait):aD (rWt x) 1=.int .i64 x.pos:=(rfl)
theorem AM(x:Wait):aD (rWt x) 2=.str (bs x.leaf):=(rfl)
theorem AN(x:Wait):aD (rWt x) 3=.str (bs x.key):=(rfl)
theorem N1(l:List (Wait))(a0:Int)(a1:Int)(a2:S)(a3:S):cG (l.map rWt) [[.int .i64 a0,.int .i64 a1,.str (bs a2),.str (bs a3)]]=(l++[(⟨a0,a1,a2,a3⟩:Wait)]).map rWt:=cH rWt l (⟨a0,a1,a2,a3⟩:Wait)
theorem kK(l:List (Wait))(i:Int)(h0:0<=i)(h1:i<l.length):hG (l.map rWt) i=some (rWt (ix l i)):=kL rWt l i h0 h1
theorem GT(l:List (Steal))(a0:Int)(a1:S):cG (l.map rSt) [[.int .i64 a0,.str (bs a1)]]=(l++[(⟨a0,a1⟩:Steal)]).map rSt:=cH rSt l (⟨a0,a1⟩:Steal)
theorem kA(l:List (Told))(a0:Int)(a1:Int):cG (l.map rT) [[.int .i64 a0,.int .i64 a1]]=(l++[(⟨a0,a1⟩:Told)]).map rT:=cH rT l (⟨a0,a1⟩:Told)
theorem asK(x:Event):aD (rE x) 0=.int .i64 x.kind:=(rfl)
theorem asL(x:Event):aD (rE x) 1=.int .i64 x.who:=(rfl)
theorem asM(x:Event):aD (rE x) 2=.int .i64 x.add:=(rfl)
theorem asN(x:Event):aD (rE x) 3=.int .i64 x.remove:=(rfl)
theorem asO(x:Event):aD (rE x) 4=.int .i64 x.pos:=(rfl)
theorem asP(x:Event):aD (rE x) 5=.str (bs x.text):=(rfl)
theorem alS(l:List (Event))(a0:Int)(a1:Int)(a2:Int)(a3:Int)(a4:Int)(a5:S):cG (l.map rE) [[.int .i64 a0,.int .i64 a1,.int .i64 a2,.int .i64 a3,.int .i64 a4,.str (bs a5)]]=(l++[(⟨a0,a1,a2,a3,a4,a5⟩:Event)]).map rE:=cH rE l (⟨a0,a1,a2,a3,a4,a5⟩:Event)
theorem asQ(a0:Int)(a1:Int)(a2:Int)(a3:Int)(a4:Int)(a5:S):[[.int .i64 a0,.int .i64 a1,.int .i64 a2,.int .i64 a3,.int .i64 a4,.str (bs a5)]]=[(⟨a0,a1,a2,a3,a4,a5⟩:Event)].map rE:=(rfl)
theorem ag2(l:List (Event))(i:Int)(h0:0<=i)(h1:i<l.length):hG (l.map rE) i=some (rE (ix l i)):=kL rE l i h0 h1
theorem eH(r:List Row):cG [] r=r:=(rfl)
theorem K1:type_of% (And.intro @bnd_some' (And.intro @br_true' (And.intro @br_false' (And.intro @gBool_b (And.intro @iEq_dec (And.intro @nrows_map (And.intro @gInt_i (And.intro @jf.{0} (And.intro @decide_false (And.intro @decide_true (And.intro @bNot_t (And.intro @gStr_s (And.intro @iLt_dec (And.intro @bNot_f (And.intro @ju.{1} (And.intro @jk.{0} (And.intro @cellAt_zero (And.intro @cellAt_succ (And.intro @iLe_dec (And.intro @gAggN_if (And.intro @gSl_r (And.intro @sEq_bs (And.intro @qn.{1} (And.intro @sLen_bs (And.intro @nrows_nil (And.intro @and_true (And.intro @kz (And.intro @jb (And.intro @gTupN_if (And.intro @gOwn_r (And.intro @iEq_self (@Bool.and_self)))))))))))))))))))))))))))))))):=And.intro @bnd_some' (And.intro @br_true' (And.intro @br_false' (And.intro @gBool_b (And.intro @iEq_dec (And.intro @nrows_map (And.intro @gInt_i (And.intro @jf.{0} (And.intro @decide_false (And.intro @decide_true (And.intro @bNot_t (And.intro @gStr_s (And.intro @iLt_dec (And.intro @bNot_f (And.intro @ju.{1} (And.intro @jk.{0} (And.intro @cellAt_zero (And.intro @cellAt_succ (And.intro @iLe_dec (And.intro @gAggN_if (And.intro @gSl_r (And.intro @sEq_bs (And.intro @qn.{1} (And.intro @sLen_bs (And.intro @nrows_nil (And.intro @and_true (And.intro @kz (And.intro @jb (And.intro @gTupN_if (And.intro @gOwn_r (And.intro @iEq_self (@Bool.and_self)))))))))))))))))))))))))))))))
end Kw
